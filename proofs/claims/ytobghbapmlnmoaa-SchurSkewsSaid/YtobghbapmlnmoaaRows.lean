/-
  No cell of these rows narrows 'for every input' (looked for: loops, veiled, ifaces, maps, wideKeys, modest, calm, conditions, laid).
  DERIVED. THE GIVEN ROWS OF THIS SEAT. 16 by the template 'for every input the law returns true; each argument reads behind the call as it read before'; 0 by the template 'total and deterministic' (their statements: YtobghbapmlnmoaaTotals.lean).
  GIVEN WITH THE SEED: the statements are not yours to turn. If you find one false, say at which input.
  Laid BY PROGRAM, IN A SANDBOX (cutbox-rows.mjs): the forced cells as the released guide's own fill.sh prints them over the translation ef63f9bd2b80324d… (all of the seat's roots in one cut). By AI agents, Wed Nov 11 2026. No macro, syntax, notation, axiom, sorry.
-/
import Derived.Test.YtobghbapmlnmoaaChecked
import GoSem.Claim
import GoSem.ClaimJoined
import GoSem.ClaimMapViews
import Derived.JoinedTies
import Derived.KernelRfl
namespace Go.Proofs.Ytobghbapmlnmoaa
/- THE CELL 'sum', in the pinned program and in every row, IS THE sha256 OF THE DUMP (.gsa) THAT YtobghbapmlnmoaaProg.lean LOADS. Nothing in Lean hashes anything: it is a label: what it is worth is what the hold of that sum in a sandbox is worth. -/
noncomputable def Try.pinned : Pinned := { name := "ytobghbapmlnmoaa", sum := "ef63f9bd2b80324d9ede76459e97f8fbd197c8aa172f18c3cb627ae6cbf34c00", checked := Try.checked }
namespace Rows
def none {H : Type} : Left H := { results := [], args := [] }

/-- 'corsagelaw01.SchurFillings': WHATEVER THE INPUT: true; the input reads as it did. -/
def schurFillingsSpec : ChangeSpec := { name := "schurFillings", fn := fun _ => fun
  | [d1, d2] => { results := [.lit (.bool true)], args := [d1, d2] }
  | _ => none }
def schurFillingsRow : OpenClaim := { program := "ytobghbapmlnmoaa", sum := "ef63f9bd2b80324d9ede76459e97f8fbd197c8aa172f18c3cb627ae6cbf34c00", func := "corsage/corsagelaw01.SchurFillings", spec := "schurFillings", unfollowed := true, recurses := true, apart := false }
def SchurFillingsSaid : Prop := schurFillingsRow.holds Try.pinned (OpenSpec.ofChange schurFillingsSpec)

/-- ITS FALSE NEIGHBOUR: 'it returns false'. Refute it at one input. -/
def schurFillingsWrong : ChangeSpec := { name := "schurFillings", fn := fun _ => fun
  | [d1, d2] => { results := [.lit (.bool false)], args := [d1, d2] }
  | _ => none }
def SchurFillingsWrongFalsely : Prop := schurFillingsRow.holds Try.pinned (OpenSpec.ofChange schurFillingsWrong)

/-- 'corsagelaw01.SchurValues': WHATEVER THE INPUT: true; the input reads as it did. -/
def schurValuesSpec : ChangeSpec := { name := "schurValues", fn := fun _ => fun
  | [d1, d2] => { results := [.lit (.bool true)], args := [d1, d2] }
  | _ => none }
def schurValuesRow : OpenClaim := { program := "ytobghbapmlnmoaa", sum := "ef63f9bd2b80324d9ede76459e97f8fbd197c8aa172f18c3cb627ae6cbf34c00", func := "corsage/corsagelaw01.SchurValues", spec := "schurValues", unfollowed := true, recurses := true, apart := false }
def SchurValuesSaid : Prop := schurValuesRow.holds Try.pinned (OpenSpec.ofChange schurValuesSpec)

/-- ITS FALSE NEIGHBOUR: 'it returns false'. Refute it at one input. -/
def schurValuesWrong : ChangeSpec := { name := "schurValues", fn := fun _ => fun
  | [d1, d2] => { results := [.lit (.bool false)], args := [d1, d2] }
  | _ => none }
def SchurValuesWrongFalsely : Prop := schurValuesRow.holds Try.pinned (OpenSpec.ofChange schurValuesWrong)

/-- 'corsagelaw01.SchurDeterminant': WHATEVER THE INPUT: true; the input reads as it did. -/
def schurDeterminantSpec : ChangeSpec := { name := "schurDeterminant", fn := fun _ => fun
  | [d1, d2] => { results := [.lit (.bool true)], args := [d1, d2] }
  | _ => none }
def schurDeterminantRow : OpenClaim := { program := "ytobghbapmlnmoaa", sum := "ef63f9bd2b80324d9ede76459e97f8fbd197c8aa172f18c3cb627ae6cbf34c00", func := "corsage/corsagelaw01.SchurDeterminant", spec := "schurDeterminant", unfollowed := true, recurses := true, apart := false }
def SchurDeterminantSaid : Prop := schurDeterminantRow.holds Try.pinned (OpenSpec.ofChange schurDeterminantSpec)

/-- ITS FALSE NEIGHBOUR: 'it returns false'. Refute it at one input. -/
def schurDeterminantWrong : ChangeSpec := { name := "schurDeterminant", fn := fun _ => fun
  | [d1, d2] => { results := [.lit (.bool false)], args := [d1, d2] }
  | _ => none }
def SchurDeterminantWrongFalsely : Prop := schurDeterminantRow.holds Try.pinned (OpenSpec.ofChange schurDeterminantWrong)

/-- 'corsagelaw01.SchurSwaps': WHATEVER THE INPUT: true; the input reads as it did. -/
def schurSwapsSpec : ChangeSpec := { name := "schurSwaps", fn := fun _ => fun
  | [d1, d2] => { results := [.lit (.bool true)], args := [d1, d2] }
  | _ => none }
def schurSwapsRow : OpenClaim := { program := "ytobghbapmlnmoaa", sum := "ef63f9bd2b80324d9ede76459e97f8fbd197c8aa172f18c3cb627ae6cbf34c00", func := "corsage/corsagelaw01.SchurSwaps", spec := "schurSwaps", unfollowed := true, recurses := true, apart := false }
def SchurSwapsSaid : Prop := schurSwapsRow.holds Try.pinned (OpenSpec.ofChange schurSwapsSpec)

/-- ITS FALSE NEIGHBOUR: 'it returns false'. Refute it at one input. -/
def schurSwapsWrong : ChangeSpec := { name := "schurSwaps", fn := fun _ => fun
  | [d1, d2] => { results := [.lit (.bool false)], args := [d1, d2] }
  | _ => none }
def SchurSwapsWrongFalsely : Prop := schurSwapsRow.holds Try.pinned (OpenSpec.ofChange schurSwapsWrong)

/-- 'corsagelaw01.SchurTwice': WHATEVER THE INPUT: true; the input reads as it did. -/
def schurTwiceSpec : ChangeSpec := { name := "schurTwice", fn := fun _ => fun
  | [d1, d2] => { results := [.lit (.bool true)], args := [d1, d2] }
  | _ => none }
def schurTwiceRow : OpenClaim := { program := "ytobghbapmlnmoaa", sum := "ef63f9bd2b80324d9ede76459e97f8fbd197c8aa172f18c3cb627ae6cbf34c00", func := "corsage/corsagelaw01.SchurTwice", spec := "schurTwice", unfollowed := true, recurses := true, apart := false }
def SchurTwiceSaid : Prop := schurTwiceRow.holds Try.pinned (OpenSpec.ofChange schurTwiceSpec)

/-- ITS FALSE NEIGHBOUR: 'it returns false'. Refute it at one input. -/
def schurTwiceWrong : ChangeSpec := { name := "schurTwice", fn := fun _ => fun
  | [d1, d2] => { results := [.lit (.bool false)], args := [d1, d2] }
  | _ => none }
def SchurTwiceWrongFalsely : Prop := schurTwiceRow.holds Try.pinned (OpenSpec.ofChange schurTwiceWrong)

/-- 'corsagelaw01.SchurWords': WHATEVER THE INPUT: true; the input reads as it did. -/
def schurWordsSpec : ChangeSpec := { name := "schurWords", fn := fun _ => fun
  | [d] => { results := [.lit (.bool true)], args := [d] }
  | _ => none }
def schurWordsRow : OpenClaim := { program := "ytobghbapmlnmoaa", sum := "ef63f9bd2b80324d9ede76459e97f8fbd197c8aa172f18c3cb627ae6cbf34c00", func := "corsage/corsagelaw01.SchurWords", spec := "schurWords", unfollowed := true, recurses := true, apart := false }
def SchurWordsSaid : Prop := schurWordsRow.holds Try.pinned (OpenSpec.ofChange schurWordsSpec)

/-- ITS FALSE NEIGHBOUR: 'it returns false'. Refute it at one input. -/
def schurWordsWrong : ChangeSpec := { name := "schurWords", fn := fun _ => fun
  | [d] => { results := [.lit (.bool false)], args := [d] }
  | _ => none }
def SchurWordsWrongFalsely : Prop := schurWordsRow.holds Try.pinned (OpenSpec.ofChange schurWordsWrong)

/-- 'corsagelaw01.SchurHooks': WHATEVER THE INPUT: true; the input reads as it did. -/
def schurHooksSpec : ChangeSpec := { name := "schurHooks", fn := fun _ => fun
  | [d] => { results := [.lit (.bool true)], args := [d] }
  | _ => none }
def schurHooksRow : OpenClaim := { program := "ytobghbapmlnmoaa", sum := "ef63f9bd2b80324d9ede76459e97f8fbd197c8aa172f18c3cb627ae6cbf34c00", func := "corsage/corsagelaw01.SchurHooks", spec := "schurHooks", unfollowed := true, recurses := true, apart := false }
def SchurHooksSaid : Prop := schurHooksRow.holds Try.pinned (OpenSpec.ofChange schurHooksSpec)

/-- ITS FALSE NEIGHBOUR: 'it returns false'. Refute it at one input. -/
def schurHooksWrong : ChangeSpec := { name := "schurHooks", fn := fun _ => fun
  | [d] => { results := [.lit (.bool false)], args := [d] }
  | _ => none }
def SchurHooksWrongFalsely : Prop := schurHooksRow.holds Try.pinned (OpenSpec.ofChange schurHooksWrong)

/-- 'corsagelaw01.SchurSlides': WHATEVER THE INPUT: true; the input reads as it did. -/
def schurSlidesSpec : ChangeSpec := { name := "schurSlides", fn := fun _ => fun
  | [d1, d2] => { results := [.lit (.bool true)], args := [d1, d2] }
  | _ => none }
def schurSlidesRow : OpenClaim := { program := "ytobghbapmlnmoaa", sum := "ef63f9bd2b80324d9ede76459e97f8fbd197c8aa172f18c3cb627ae6cbf34c00", func := "corsage/corsagelaw01.SchurSlides", spec := "schurSlides", unfollowed := true, recurses := true, apart := false }
def SchurSlidesSaid : Prop := schurSlidesRow.holds Try.pinned (OpenSpec.ofChange schurSlidesSpec)

/-- ITS FALSE NEIGHBOUR: 'it returns false'. Refute it at one input. -/
def schurSlidesWrong : ChangeSpec := { name := "schurSlides", fn := fun _ => fun
  | [d1, d2] => { results := [.lit (.bool false)], args := [d1, d2] }
  | _ => none }
def SchurSlidesWrongFalsely : Prop := schurSlidesRow.holds Try.pinned (OpenSpec.ofChange schurSlidesWrong)

/-- 'corsagelaw01.SchurStraight': WHATEVER THE INPUT: true; the input reads as it did. -/
def schurStraightSpec : ChangeSpec := { name := "schurStraight", fn := fun _ => fun
  | [d1, d2] => { results := [.lit (.bool true)], args := [d1, d2] }
  | _ => none }
def schurStraightRow : OpenClaim := { program := "ytobghbapmlnmoaa", sum := "ef63f9bd2b80324d9ede76459e97f8fbd197c8aa172f18c3cb627ae6cbf34c00", func := "corsage/corsagelaw01.SchurStraight", spec := "schurStraight", unfollowed := true, recurses := true, apart := false }
def SchurStraightSaid : Prop := schurStraightRow.holds Try.pinned (OpenSpec.ofChange schurStraightSpec)

/-- ITS FALSE NEIGHBOUR: 'it returns false'. Refute it at one input. -/
def schurStraightWrong : ChangeSpec := { name := "schurStraight", fn := fun _ => fun
  | [d1, d2] => { results := [.lit (.bool false)], args := [d1, d2] }
  | _ => none }
def SchurStraightWrongFalsely : Prop := schurStraightRow.holds Try.pinned (OpenSpec.ofChange schurStraightWrong)

/-- 'corsagelaw01.SchurProducts': WHATEVER THE INPUT: true; the input reads as it did. -/
def schurProductsSpec : ChangeSpec := { name := "schurProducts", fn := fun _ => fun
  | [d1, d2, d3] => { results := [.lit (.bool true)], args := [d1, d2, d3] }
  | _ => none }
def schurProductsRow : OpenClaim := { program := "ytobghbapmlnmoaa", sum := "ef63f9bd2b80324d9ede76459e97f8fbd197c8aa172f18c3cb627ae6cbf34c00", func := "corsage/corsagelaw01.SchurProducts", spec := "schurProducts", unfollowed := true, recurses := true, apart := false }
def SchurProductsSaid : Prop := schurProductsRow.holds Try.pinned (OpenSpec.ofChange schurProductsSpec)

/-- ITS FALSE NEIGHBOUR: 'it returns false'. Refute it at one input. -/
def schurProductsWrong : ChangeSpec := { name := "schurProducts", fn := fun _ => fun
  | [d1, d2, d3] => { results := [.lit (.bool false)], args := [d1, d2, d3] }
  | _ => none }
def SchurProductsWrongFalsely : Prop := schurProductsRow.holds Try.pinned (OpenSpec.ofChange schurProductsWrong)

/-- 'corsagelaw01.SchurSkews': WHATEVER THE INPUT: true; the input reads as it did. -/
def schurSkewsSpec : ChangeSpec := { name := "schurSkews", fn := fun _ => fun
  | [d1, d2, d3] => { results := [.lit (.bool true)], args := [d1, d2, d3] }
  | _ => none }
def schurSkewsRow : OpenClaim := { program := "ytobghbapmlnmoaa", sum := "ef63f9bd2b80324d9ede76459e97f8fbd197c8aa172f18c3cb627ae6cbf34c00", func := "corsage/corsagelaw01.SchurSkews", spec := "schurSkews", unfollowed := true, recurses := true, apart := false }
def SchurSkewsSaid : Prop := schurSkewsRow.holds Try.pinned (OpenSpec.ofChange schurSkewsSpec)

/-- ITS FALSE NEIGHBOUR: 'it returns false'. Refute it at one input. -/
def schurSkewsWrong : ChangeSpec := { name := "schurSkews", fn := fun _ => fun
  | [d1, d2, d3] => { results := [.lit (.bool false)], args := [d1, d2, d3] }
  | _ => none }
def SchurSkewsWrongFalsely : Prop := schurSkewsRow.holds Try.pinned (OpenSpec.ofChange schurSkewsWrong)

/-- 'corsagelaw01.SchurRing': WHATEVER THE INPUT: true; the input reads as it did. -/
def schurRingSpec : ChangeSpec := { name := "schurRing", fn := fun _ => fun
  | [d1, d2, d3] => { results := [.lit (.bool true)], args := [d1, d2, d3] }
  | _ => none }
def schurRingRow : OpenClaim := { program := "ytobghbapmlnmoaa", sum := "ef63f9bd2b80324d9ede76459e97f8fbd197c8aa172f18c3cb627ae6cbf34c00", func := "corsage/corsagelaw01.SchurRing", spec := "schurRing", unfollowed := true, recurses := true, apart := false }
def SchurRingSaid : Prop := schurRingRow.holds Try.pinned (OpenSpec.ofChange schurRingSpec)

/-- ITS FALSE NEIGHBOUR: 'it returns false'. Refute it at one input. -/
def schurRingWrong : ChangeSpec := { name := "schurRing", fn := fun _ => fun
  | [d1, d2, d3] => { results := [.lit (.bool false)], args := [d1, d2, d3] }
  | _ => none }
def SchurRingWrongFalsely : Prop := schurRingRow.holds Try.pinned (OpenSpec.ofChange schurRingWrong)

/-- 'corsagelaw01.SchurCommutes': WHATEVER THE INPUT: true; the input reads as it did. -/
def schurCommutesSpec : ChangeSpec := { name := "schurCommutes", fn := fun _ => fun
  | [d1, d2, d3] => { results := [.lit (.bool true)], args := [d1, d2, d3] }
  | _ => none }
def schurCommutesRow : OpenClaim := { program := "ytobghbapmlnmoaa", sum := "ef63f9bd2b80324d9ede76459e97f8fbd197c8aa172f18c3cb627ae6cbf34c00", func := "corsage/corsagelaw01.SchurCommutes", spec := "schurCommutes", unfollowed := true, recurses := true, apart := false }
def SchurCommutesSaid : Prop := schurCommutesRow.holds Try.pinned (OpenSpec.ofChange schurCommutesSpec)

/-- ITS FALSE NEIGHBOUR: 'it returns false'. Refute it at one input. -/
def schurCommutesWrong : ChangeSpec := { name := "schurCommutes", fn := fun _ => fun
  | [d1, d2, d3] => { results := [.lit (.bool false)], args := [d1, d2, d3] }
  | _ => none }
def SchurCommutesWrongFalsely : Prop := schurCommutesRow.holds Try.pinned (OpenSpec.ofChange schurCommutesWrong)

/-- 'corsagelaw01.SchurContents': WHATEVER THE INPUT: true; the input reads as it did. -/
def schurContentsSpec : ChangeSpec := { name := "schurContents", fn := fun _ => fun
  | [d1, d2, d3] => { results := [.lit (.bool true)], args := [d1, d2, d3] }
  | _ => none }
def schurContentsRow : OpenClaim := { program := "ytobghbapmlnmoaa", sum := "ef63f9bd2b80324d9ede76459e97f8fbd197c8aa172f18c3cb627ae6cbf34c00", func := "corsage/corsagelaw01.SchurContents", spec := "schurContents", unfollowed := true, recurses := true, apart := false }
def SchurContentsSaid : Prop := schurContentsRow.holds Try.pinned (OpenSpec.ofChange schurContentsSpec)

/-- ITS FALSE NEIGHBOUR: 'it returns false'. Refute it at one input. -/
def schurContentsWrong : ChangeSpec := { name := "schurContents", fn := fun _ => fun
  | [d1, d2, d3] => { results := [.lit (.bool false)], args := [d1, d2, d3] }
  | _ => none }
def SchurContentsWrongFalsely : Prop := schurContentsRow.holds Try.pinned (OpenSpec.ofChange schurContentsWrong)

/-- 'corsagelaw01.SchurChars': WHATEVER THE INPUT: true; the input reads as it did. -/
def schurCharsSpec : ChangeSpec := { name := "schurChars", fn := fun _ => fun
  | [d1, d2] => { results := [.lit (.bool true)], args := [d1, d2] }
  | _ => none }
def schurCharsRow : OpenClaim := { program := "ytobghbapmlnmoaa", sum := "ef63f9bd2b80324d9ede76459e97f8fbd197c8aa172f18c3cb627ae6cbf34c00", func := "corsage/corsagelaw01.SchurChars", spec := "schurChars", unfollowed := true, recurses := true, apart := false }
def SchurCharsSaid : Prop := schurCharsRow.holds Try.pinned (OpenSpec.ofChange schurCharsSpec)

/-- ITS FALSE NEIGHBOUR: 'it returns false'. Refute it at one input. -/
def schurCharsWrong : ChangeSpec := { name := "schurChars", fn := fun _ => fun
  | [d1, d2] => { results := [.lit (.bool false)], args := [d1, d2] }
  | _ => none }
def SchurCharsWrongFalsely : Prop := schurCharsRow.holds Try.pinned (OpenSpec.ofChange schurCharsWrong)

/-- 'corsagelaw01.SchurOrthogonal': WHATEVER THE INPUT: true; the input reads as it did. -/
def schurOrthogonalSpec : ChangeSpec := { name := "schurOrthogonal", fn := fun _ => fun
  | [d1, d2] => { results := [.lit (.bool true)], args := [d1, d2] }
  | _ => none }
def schurOrthogonalRow : OpenClaim := { program := "ytobghbapmlnmoaa", sum := "ef63f9bd2b80324d9ede76459e97f8fbd197c8aa172f18c3cb627ae6cbf34c00", func := "corsage/corsagelaw01.SchurOrthogonal", spec := "schurOrthogonal", unfollowed := true, recurses := true, apart := false }
def SchurOrthogonalSaid : Prop := schurOrthogonalRow.holds Try.pinned (OpenSpec.ofChange schurOrthogonalSpec)

/-- ITS FALSE NEIGHBOUR: 'it returns false'. Refute it at one input. -/
def schurOrthogonalWrong : ChangeSpec := { name := "schurOrthogonal", fn := fun _ => fun
  | [d1, d2] => { results := [.lit (.bool false)], args := [d1, d2] }
  | _ => none }
def SchurOrthogonalWrongFalsely : Prop := schurOrthogonalRow.holds Try.pinned (OpenSpec.ofChange schurOrthogonalWrong)

/- THE SECOND FORM. 'bulk': how many values and letters a reading holds, each counted each time it is reached (what is shared counts as often as it is met; a slice's spare places count too). A statement '..UptoSaid' is the law's where the arguments, and the package variables that the reading takes, are together of bulk at most 1048576: NARROWER than '..Said'. Prove '..Said' where nothing that the law and all that it calls make is longer than what came in: it says more and counts as full. Else prove '..UptoSaid'. A law counts once. -/
mutual
def uptoBulk {H : Type} : DataW H → Nat
  | .lit (.string bytes) => bytes.length + 1
  | .lit _ => 1
  | .nil => 1
  | .ptr d => uptoBulk d + 1
  | .slice elems spare => uptoBulkAll elems + uptoBulkAll spare + 1
  | .agg parts => uptoBulkAll parts + 1
  | .iface _ d => uptoBulk d + 1
  | .map entries => uptoBulkEntries entries + 1
  | .held _ => 1
def uptoBulkAll {H : Type} : List (DataW H) → Nat
  | [] => 0
  | d :: r => uptoBulk d + uptoBulkAll r
def uptoBulkEntries {H : Type} : List (Lit × DataW H) → Nat
  | [] => 0
  | x :: r => uptoBulkEntry x + uptoBulkEntries r
def uptoBulkEntry {H : Type} : Lit × DataW H → Nat
  | (.string bytes, d) => bytes.length + uptoBulk d + 1
  | (_, d) => uptoBulk d + 1
 end
def uptoSmall : (H : Type) → List (DataW H) → Bool := fun _ ds => decide (uptoBulkAll ds ≤ 1048576)
def OpenSpec.upto (s : _root_.Go.ChangeSpec) : _root_.Go.OpenSpec := { _root_.Go.OpenSpec.ofChange s with cond := some uptoSmall }

/-- 'corsagelaw01.SchurFillings', WHERE WHAT IT READS IS OF BULK AT MOST 1048576: true; the input reads as it did. -/
def schurFillingsUptoRow : OpenClaim := { program := "ytobghbapmlnmoaa", sum := "ef63f9bd2b80324d9ede76459e97f8fbd197c8aa172f18c3cb627ae6cbf34c00", func := "corsage/corsagelaw01.SchurFillings", spec := "schurFillings", unfollowed := true, recurses := true, apart := false, narrowed := true }
def SchurFillingsUptoSaid : Prop := schurFillingsUptoRow.holds Try.pinned (OpenSpec.upto schurFillingsSpec)

/-- 'corsagelaw01.SchurValues', WHERE WHAT IT READS IS OF BULK AT MOST 1048576: true; the input reads as it did. -/
def schurValuesUptoRow : OpenClaim := { program := "ytobghbapmlnmoaa", sum := "ef63f9bd2b80324d9ede76459e97f8fbd197c8aa172f18c3cb627ae6cbf34c00", func := "corsage/corsagelaw01.SchurValues", spec := "schurValues", unfollowed := true, recurses := true, apart := false, narrowed := true }
def SchurValuesUptoSaid : Prop := schurValuesUptoRow.holds Try.pinned (OpenSpec.upto schurValuesSpec)

/-- 'corsagelaw01.SchurDeterminant', WHERE WHAT IT READS IS OF BULK AT MOST 1048576: true; the input reads as it did. -/
def schurDeterminantUptoRow : OpenClaim := { program := "ytobghbapmlnmoaa", sum := "ef63f9bd2b80324d9ede76459e97f8fbd197c8aa172f18c3cb627ae6cbf34c00", func := "corsage/corsagelaw01.SchurDeterminant", spec := "schurDeterminant", unfollowed := true, recurses := true, apart := false, narrowed := true }
def SchurDeterminantUptoSaid : Prop := schurDeterminantUptoRow.holds Try.pinned (OpenSpec.upto schurDeterminantSpec)

/-- 'corsagelaw01.SchurSwaps', WHERE WHAT IT READS IS OF BULK AT MOST 1048576: true; the input reads as it did. -/
def schurSwapsUptoRow : OpenClaim := { program := "ytobghbapmlnmoaa", sum := "ef63f9bd2b80324d9ede76459e97f8fbd197c8aa172f18c3cb627ae6cbf34c00", func := "corsage/corsagelaw01.SchurSwaps", spec := "schurSwaps", unfollowed := true, recurses := true, apart := false, narrowed := true }
def SchurSwapsUptoSaid : Prop := schurSwapsUptoRow.holds Try.pinned (OpenSpec.upto schurSwapsSpec)

/-- 'corsagelaw01.SchurTwice', WHERE WHAT IT READS IS OF BULK AT MOST 1048576: true; the input reads as it did. -/
def schurTwiceUptoRow : OpenClaim := { program := "ytobghbapmlnmoaa", sum := "ef63f9bd2b80324d9ede76459e97f8fbd197c8aa172f18c3cb627ae6cbf34c00", func := "corsage/corsagelaw01.SchurTwice", spec := "schurTwice", unfollowed := true, recurses := true, apart := false, narrowed := true }
def SchurTwiceUptoSaid : Prop := schurTwiceUptoRow.holds Try.pinned (OpenSpec.upto schurTwiceSpec)

/-- 'corsagelaw01.SchurWords', WHERE WHAT IT READS IS OF BULK AT MOST 1048576: true; the input reads as it did. -/
def schurWordsUptoRow : OpenClaim := { program := "ytobghbapmlnmoaa", sum := "ef63f9bd2b80324d9ede76459e97f8fbd197c8aa172f18c3cb627ae6cbf34c00", func := "corsage/corsagelaw01.SchurWords", spec := "schurWords", unfollowed := true, recurses := true, apart := false, narrowed := true }
def SchurWordsUptoSaid : Prop := schurWordsUptoRow.holds Try.pinned (OpenSpec.upto schurWordsSpec)

/-- 'corsagelaw01.SchurHooks', WHERE WHAT IT READS IS OF BULK AT MOST 1048576: true; the input reads as it did. -/
def schurHooksUptoRow : OpenClaim := { program := "ytobghbapmlnmoaa", sum := "ef63f9bd2b80324d9ede76459e97f8fbd197c8aa172f18c3cb627ae6cbf34c00", func := "corsage/corsagelaw01.SchurHooks", spec := "schurHooks", unfollowed := true, recurses := true, apart := false, narrowed := true }
def SchurHooksUptoSaid : Prop := schurHooksUptoRow.holds Try.pinned (OpenSpec.upto schurHooksSpec)

/-- 'corsagelaw01.SchurSlides', WHERE WHAT IT READS IS OF BULK AT MOST 1048576: true; the input reads as it did. -/
def schurSlidesUptoRow : OpenClaim := { program := "ytobghbapmlnmoaa", sum := "ef63f9bd2b80324d9ede76459e97f8fbd197c8aa172f18c3cb627ae6cbf34c00", func := "corsage/corsagelaw01.SchurSlides", spec := "schurSlides", unfollowed := true, recurses := true, apart := false, narrowed := true }
def SchurSlidesUptoSaid : Prop := schurSlidesUptoRow.holds Try.pinned (OpenSpec.upto schurSlidesSpec)

/-- 'corsagelaw01.SchurStraight', WHERE WHAT IT READS IS OF BULK AT MOST 1048576: true; the input reads as it did. -/
def schurStraightUptoRow : OpenClaim := { program := "ytobghbapmlnmoaa", sum := "ef63f9bd2b80324d9ede76459e97f8fbd197c8aa172f18c3cb627ae6cbf34c00", func := "corsage/corsagelaw01.SchurStraight", spec := "schurStraight", unfollowed := true, recurses := true, apart := false, narrowed := true }
def SchurStraightUptoSaid : Prop := schurStraightUptoRow.holds Try.pinned (OpenSpec.upto schurStraightSpec)

/-- 'corsagelaw01.SchurProducts', WHERE WHAT IT READS IS OF BULK AT MOST 1048576: true; the input reads as it did. -/
def schurProductsUptoRow : OpenClaim := { program := "ytobghbapmlnmoaa", sum := "ef63f9bd2b80324d9ede76459e97f8fbd197c8aa172f18c3cb627ae6cbf34c00", func := "corsage/corsagelaw01.SchurProducts", spec := "schurProducts", unfollowed := true, recurses := true, apart := false, narrowed := true }
def SchurProductsUptoSaid : Prop := schurProductsUptoRow.holds Try.pinned (OpenSpec.upto schurProductsSpec)

/-- 'corsagelaw01.SchurSkews', WHERE WHAT IT READS IS OF BULK AT MOST 1048576: true; the input reads as it did. -/
def schurSkewsUptoRow : OpenClaim := { program := "ytobghbapmlnmoaa", sum := "ef63f9bd2b80324d9ede76459e97f8fbd197c8aa172f18c3cb627ae6cbf34c00", func := "corsage/corsagelaw01.SchurSkews", spec := "schurSkews", unfollowed := true, recurses := true, apart := false, narrowed := true }
def SchurSkewsUptoSaid : Prop := schurSkewsUptoRow.holds Try.pinned (OpenSpec.upto schurSkewsSpec)

/-- 'corsagelaw01.SchurRing', WHERE WHAT IT READS IS OF BULK AT MOST 1048576: true; the input reads as it did. -/
def schurRingUptoRow : OpenClaim := { program := "ytobghbapmlnmoaa", sum := "ef63f9bd2b80324d9ede76459e97f8fbd197c8aa172f18c3cb627ae6cbf34c00", func := "corsage/corsagelaw01.SchurRing", spec := "schurRing", unfollowed := true, recurses := true, apart := false, narrowed := true }
def SchurRingUptoSaid : Prop := schurRingUptoRow.holds Try.pinned (OpenSpec.upto schurRingSpec)

/-- 'corsagelaw01.SchurCommutes', WHERE WHAT IT READS IS OF BULK AT MOST 1048576: true; the input reads as it did. -/
def schurCommutesUptoRow : OpenClaim := { program := "ytobghbapmlnmoaa", sum := "ef63f9bd2b80324d9ede76459e97f8fbd197c8aa172f18c3cb627ae6cbf34c00", func := "corsage/corsagelaw01.SchurCommutes", spec := "schurCommutes", unfollowed := true, recurses := true, apart := false, narrowed := true }
def SchurCommutesUptoSaid : Prop := schurCommutesUptoRow.holds Try.pinned (OpenSpec.upto schurCommutesSpec)

/-- 'corsagelaw01.SchurContents', WHERE WHAT IT READS IS OF BULK AT MOST 1048576: true; the input reads as it did. -/
def schurContentsUptoRow : OpenClaim := { program := "ytobghbapmlnmoaa", sum := "ef63f9bd2b80324d9ede76459e97f8fbd197c8aa172f18c3cb627ae6cbf34c00", func := "corsage/corsagelaw01.SchurContents", spec := "schurContents", unfollowed := true, recurses := true, apart := false, narrowed := true }
def SchurContentsUptoSaid : Prop := schurContentsUptoRow.holds Try.pinned (OpenSpec.upto schurContentsSpec)

/-- 'corsagelaw01.SchurChars', WHERE WHAT IT READS IS OF BULK AT MOST 1048576: true; the input reads as it did. -/
def schurCharsUptoRow : OpenClaim := { program := "ytobghbapmlnmoaa", sum := "ef63f9bd2b80324d9ede76459e97f8fbd197c8aa172f18c3cb627ae6cbf34c00", func := "corsage/corsagelaw01.SchurChars", spec := "schurChars", unfollowed := true, recurses := true, apart := false, narrowed := true }
def SchurCharsUptoSaid : Prop := schurCharsUptoRow.holds Try.pinned (OpenSpec.upto schurCharsSpec)

/-- 'corsagelaw01.SchurOrthogonal', WHERE WHAT IT READS IS OF BULK AT MOST 1048576: true; the input reads as it did. -/
def schurOrthogonalUptoRow : OpenClaim := { program := "ytobghbapmlnmoaa", sum := "ef63f9bd2b80324d9ede76459e97f8fbd197c8aa172f18c3cb627ae6cbf34c00", func := "corsage/corsagelaw01.SchurOrthogonal", spec := "schurOrthogonal", unfollowed := true, recurses := true, apart := false, narrowed := true }
def SchurOrthogonalUptoSaid : Prop := schurOrthogonalUptoRow.holds Try.pinned (OpenSpec.upto schurOrthogonalSpec)

end Rows
end Go.Proofs.Ytobghbapmlnmoaa
