/-
  No cell of these rows narrows 'for every input' (looked for: loops, veiled, ifaces, maps, wideKeys, modest, calm, conditions, laid).
  DERIVED. THE GIVEN ROWS OF THIS SEAT. 13 by the template 'for every input the law returns true; each argument reads behind the call as it read before'; 0 by the template 'total and deterministic' (their statements: YtibpopddoggnkaaTotals.lean).
  GIVEN WITH THE SEED: the statements are not yours to turn. If you find one false, say at which input.
  Laid BY PROGRAM, IN A SANDBOX (cutbox-rows.mjs): the forced cells as the released guide's own fill.sh prints them over the translation ef67a0c41ca14c3b… (all of the seat's roots in one cut). By AI agents, Wed Nov 11 2026. No macro, syntax, notation, axiom, sorry.
-/
import Derived.Test.YtibpopddoggnkaaChecked
import GoSem.Claim
import GoSem.ClaimJoined
import GoSem.ClaimMapViews
import Derived.JoinedTies
import Derived.KernelRfl
namespace Go.Proofs.Ytibpopddoggnkaa
/- THE CELL 'sum', in the pinned program and in every row, IS THE sha256 OF THE DUMP (.gsa) THAT YtibpopddoggnkaaProg.lean LOADS. Nothing in Lean hashes anything: it is a label: what it is worth is what the hold of that sum in a sandbox is worth. -/
noncomputable def Try.pinned : Pinned := { name := "ytibpopddoggnkaa", sum := "ef67a0c41ca14c3bd1ce60f64ed7294a99715961a7b00b78c36ba040f007a8ce", checked := Try.checked }
namespace Rows
def none {H : Type} : Left H := { results := [], args := [] }

/-- 'corsagelaw04.SignsMakes': WHATEVER THE INPUT: true; the input reads as it did. -/
def signsMakesSpec : ChangeSpec := { name := "signsMakes", fn := fun _ => fun
  | [d1, d2, d3] => { results := [.lit (.bool true)], args := [d1, d2, d3] }
  | _ => none }
def signsMakesRow : OpenClaim := { program := "ytibpopddoggnkaa", sum := "ef67a0c41ca14c3bd1ce60f64ed7294a99715961a7b00b78c36ba040f007a8ce", func := "corsage/corsagelaw04.SignsMakes", spec := "signsMakes", unfollowed := true, recurses := true, apart := false }
def SignsMakesSaid : Prop := signsMakesRow.holds Try.pinned (OpenSpec.ofChange signsMakesSpec)

/-- ITS FALSE NEIGHBOUR: 'it returns false'. Refute it at one input. -/
def signsMakesWrong : ChangeSpec := { name := "signsMakes", fn := fun _ => fun
  | [d1, d2, d3] => { results := [.lit (.bool false)], args := [d1, d2, d3] }
  | _ => none }
def SignsMakesWrongFalsely : Prop := signsMakesRow.holds Try.pinned (OpenSpec.ofChange signsMakesWrong)

/-- 'corsagelaw04.SignsSums': WHATEVER THE INPUT: true; the input reads as it did. -/
def signsSumsSpec : ChangeSpec := { name := "signsSums", fn := fun _ => fun
  | [d] => { results := [.lit (.bool true)], args := [d] }
  | _ => none }
def signsSumsRow : OpenClaim := { program := "ytibpopddoggnkaa", sum := "ef67a0c41ca14c3bd1ce60f64ed7294a99715961a7b00b78c36ba040f007a8ce", func := "corsage/corsagelaw04.SignsSums", spec := "signsSums", unfollowed := true, recurses := true, apart := false }
def SignsSumsSaid : Prop := signsSumsRow.holds Try.pinned (OpenSpec.ofChange signsSumsSpec)

/-- ITS FALSE NEIGHBOUR: 'it returns false'. Refute it at one input. -/
def signsSumsWrong : ChangeSpec := { name := "signsSums", fn := fun _ => fun
  | [d] => { results := [.lit (.bool false)], args := [d] }
  | _ => none }
def SignsSumsWrongFalsely : Prop := signsSumsRow.holds Try.pinned (OpenSpec.ofChange signsSumsWrong)

/-- 'corsagelaw04.SignsBalanced': WHATEVER THE INPUT: true; the input reads as it did. -/
def signsBalancedSpec : ChangeSpec := { name := "signsBalanced", fn := fun _ => fun
  | [d] => { results := [.lit (.bool true)], args := [d] }
  | _ => none }
def signsBalancedRow : OpenClaim := { program := "ytibpopddoggnkaa", sum := "ef67a0c41ca14c3bd1ce60f64ed7294a99715961a7b00b78c36ba040f007a8ce", func := "corsage/corsagelaw04.SignsBalanced", spec := "signsBalanced", unfollowed := true, recurses := true, apart := false }
def SignsBalancedSaid : Prop := signsBalancedRow.holds Try.pinned (OpenSpec.ofChange signsBalancedSpec)

/-- ITS FALSE NEIGHBOUR: 'it returns false'. Refute it at one input. -/
def signsBalancedWrong : ChangeSpec := { name := "signsBalanced", fn := fun _ => fun
  | [d] => { results := [.lit (.bool false)], args := [d] }
  | _ => none }
def SignsBalancedWrongFalsely : Prop := signsBalancedRow.holds Try.pinned (OpenSpec.ofChange signsBalancedWrong)

/-- 'corsagelaw04.SignsBest': WHATEVER THE INPUT: true; the input reads as it did. -/
def signsBestSpec : ChangeSpec := { name := "signsBest", fn := fun _ => fun
  | [d1, d2, d3] => { results := [.lit (.bool true)], args := [d1, d2, d3] }
  | _ => none }
def signsBestRow : OpenClaim := { program := "ytibpopddoggnkaa", sum := "ef67a0c41ca14c3bd1ce60f64ed7294a99715961a7b00b78c36ba040f007a8ce", func := "corsage/corsagelaw04.SignsBest", spec := "signsBest", unfollowed := true, recurses := true, apart := false }
def SignsBestSaid : Prop := signsBestRow.holds Try.pinned (OpenSpec.ofChange signsBestSpec)

/-- ITS FALSE NEIGHBOUR: 'it returns false'. Refute it at one input. -/
def signsBestWrong : ChangeSpec := { name := "signsBest", fn := fun _ => fun
  | [d1, d2, d3] => { results := [.lit (.bool false)], args := [d1, d2, d3] }
  | _ => none }
def SignsBestWrongFalsely : Prop := signsBestRow.holds Try.pinned (OpenSpec.ofChange signsBestWrong)

/-- 'corsagelaw04.SignsGood': WHATEVER THE INPUT: true; the input reads as it did. -/
def signsGoodSpec : ChangeSpec := { name := "signsGood", fn := fun _ => fun
  | [d1, d2] => { results := [.lit (.bool true)], args := [d1, d2] }
  | _ => none }
def signsGoodRow : OpenClaim := { program := "ytibpopddoggnkaa", sum := "ef67a0c41ca14c3bd1ce60f64ed7294a99715961a7b00b78c36ba040f007a8ce", func := "corsage/corsagelaw04.SignsGood", spec := "signsGood", unfollowed := true, recurses := true, apart := false }
def SignsGoodSaid : Prop := signsGoodRow.holds Try.pinned (OpenSpec.ofChange signsGoodSpec)

/-- ITS FALSE NEIGHBOUR: 'it returns false'. Refute it at one input. -/
def signsGoodWrong : ChangeSpec := { name := "signsGood", fn := fun _ => fun
  | [d1, d2] => { results := [.lit (.bool false)], args := [d1, d2] }
  | _ => none }
def SignsGoodWrongFalsely : Prop := signsGoodRow.holds Try.pinned (OpenSpec.ofChange signsGoodWrong)

/-- 'corsagelaw04.SignsColumns': WHATEVER THE INPUT: true; the input reads as it did. -/
def signsColumnsSpec : ChangeSpec := { name := "signsColumns", fn := fun _ => fun
  | [d1, d2, d3, d4, d5] => { results := [.lit (.bool true)], args := [d1, d2, d3, d4, d5] }
  | _ => none }
def signsColumnsRow : OpenClaim := { program := "ytibpopddoggnkaa", sum := "ef67a0c41ca14c3bd1ce60f64ed7294a99715961a7b00b78c36ba040f007a8ce", func := "corsage/corsagelaw04.SignsColumns", spec := "signsColumns", unfollowed := true, recurses := true, apart := false }
def SignsColumnsSaid : Prop := signsColumnsRow.holds Try.pinned (OpenSpec.ofChange signsColumnsSpec)

/-- ITS FALSE NEIGHBOUR: 'it returns false'. Refute it at one input. -/
def signsColumnsWrong : ChangeSpec := { name := "signsColumns", fn := fun _ => fun
  | [d1, d2, d3, d4, d5] => { results := [.lit (.bool false)], args := [d1, d2, d3, d4, d5] }
  | _ => none }
def SignsColumnsWrongFalsely : Prop := signsColumnsRow.holds Try.pinned (OpenSpec.ofChange signsColumnsWrong)

/-- 'corsagelaw04.SignsDets': WHATEVER THE INPUT: true; the input reads as it did. -/
def signsDetsSpec : ChangeSpec := { name := "signsDets", fn := fun _ => fun
  | [d1, d2] => { results := [.lit (.bool true)], args := [d1, d2] }
  | _ => none }
def signsDetsRow : OpenClaim := { program := "ytibpopddoggnkaa", sum := "ef67a0c41ca14c3bd1ce60f64ed7294a99715961a7b00b78c36ba040f007a8ce", func := "corsage/corsagelaw04.SignsDets", spec := "signsDets", unfollowed := true, recurses := true, apart := false }
def SignsDetsSaid : Prop := signsDetsRow.holds Try.pinned (OpenSpec.ofChange signsDetsSpec)

/-- ITS FALSE NEIGHBOUR: 'it returns false'. Refute it at one input. -/
def signsDetsWrong : ChangeSpec := { name := "signsDets", fn := fun _ => fun
  | [d1, d2] => { results := [.lit (.bool false)], args := [d1, d2] }
  | _ => none }
def SignsDetsWrongFalsely : Prop := signsDetsRow.holds Try.pinned (OpenSpec.ofChange signsDetsWrong)

/-- 'corsagelaw04.SignsFinds': WHATEVER THE INPUT: true; the input reads as it did. -/
def signsFindsSpec : ChangeSpec := { name := "signsFinds", fn := fun _ => fun
  | [d] => { results := [.lit (.bool true)], args := [d] }
  | _ => none }
def signsFindsRow : OpenClaim := { program := "ytibpopddoggnkaa", sum := "ef67a0c41ca14c3bd1ce60f64ed7294a99715961a7b00b78c36ba040f007a8ce", func := "corsage/corsagelaw04.SignsFinds", spec := "signsFinds", unfollowed := true, recurses := true, apart := false }
def SignsFindsSaid : Prop := signsFindsRow.holds Try.pinned (OpenSpec.ofChange signsFindsSpec)

/-- ITS FALSE NEIGHBOUR: 'it returns false'. Refute it at one input. -/
def signsFindsWrong : ChangeSpec := { name := "signsFinds", fn := fun _ => fun
  | [d] => { results := [.lit (.bool false)], args := [d] }
  | _ => none }
def SignsFindsWrongFalsely : Prop := signsFindsRow.holds Try.pinned (OpenSpec.ofChange signsFindsWrong)

/-- 'corsagelaw04.SignsBounds': WHATEVER THE INPUT: true; the input reads as it did. -/
def signsBoundsSpec : ChangeSpec := { name := "signsBounds", fn := fun _ => fun
  | [d1, d2] => { results := [.lit (.bool true)], args := [d1, d2] }
  | _ => none }
def signsBoundsRow : OpenClaim := { program := "ytibpopddoggnkaa", sum := "ef67a0c41ca14c3bd1ce60f64ed7294a99715961a7b00b78c36ba040f007a8ce", func := "corsage/corsagelaw04.SignsBounds", spec := "signsBounds", unfollowed := true, recurses := true, apart := false }
def SignsBoundsSaid : Prop := signsBoundsRow.holds Try.pinned (OpenSpec.ofChange signsBoundsSpec)

/-- ITS FALSE NEIGHBOUR: 'it returns false'. Refute it at one input. -/
def signsBoundsWrong : ChangeSpec := { name := "signsBounds", fn := fun _ => fun
  | [d1, d2] => { results := [.lit (.bool false)], args := [d1, d2] }
  | _ => none }
def SignsBoundsWrongFalsely : Prop := signsBoundsRow.holds Try.pinned (OpenSpec.ofChange signsBoundsWrong)

/-- 'corsagelaw04.SignsFound': WHATEVER THE INPUT: true; the input reads as it did. -/
def signsFoundSpec : ChangeSpec := { name := "signsFound", fn := fun _ => fun
  | [d] => { results := [.lit (.bool true)], args := [d] }
  | _ => none }
def signsFoundRow : OpenClaim := { program := "ytibpopddoggnkaa", sum := "ef67a0c41ca14c3bd1ce60f64ed7294a99715961a7b00b78c36ba040f007a8ce", func := "corsage/corsagelaw04.SignsFound", spec := "signsFound", unfollowed := true, recurses := true, apart := false }
def SignsFoundSaid : Prop := signsFoundRow.holds Try.pinned (OpenSpec.ofChange signsFoundSpec)

/-- ITS FALSE NEIGHBOUR: 'it returns false'. Refute it at one input. -/
def signsFoundWrong : ChangeSpec := { name := "signsFound", fn := fun _ => fun
  | [d] => { results := [.lit (.bool false)], args := [d] }
  | _ => none }
def SignsFoundWrongFalsely : Prop := signsFoundRow.holds Try.pinned (OpenSpec.ofChange signsFoundWrong)

/-- 'corsagelaw04.SignsDesign': WHATEVER THE INPUT: true; the input reads as it did. -/
def signsDesignSpec : ChangeSpec := { name := "signsDesign", fn := fun _ => fun
  | [d] => { results := [.lit (.bool true)], args := [d] }
  | _ => none }
def signsDesignRow : OpenClaim := { program := "ytibpopddoggnkaa", sum := "ef67a0c41ca14c3bd1ce60f64ed7294a99715961a7b00b78c36ba040f007a8ce", func := "corsage/corsagelaw04.SignsDesign", spec := "signsDesign", unfollowed := true, recurses := true, apart := false }
def SignsDesignSaid : Prop := signsDesignRow.holds Try.pinned (OpenSpec.ofChange signsDesignSpec)

/-- ITS FALSE NEIGHBOUR: 'it returns false'. Refute it at one input. -/
def signsDesignWrong : ChangeSpec := { name := "signsDesign", fn := fun _ => fun
  | [d] => { results := [.lit (.bool false)], args := [d] }
  | _ => none }
def SignsDesignWrongFalsely : Prop := signsDesignRow.holds Try.pinned (OpenSpec.ofChange signsDesignWrong)

/-- 'corsagelaw04.SignsDesigns': WHATEVER THE INPUT: true; the input reads as it did. -/
def signsDesignsSpec : ChangeSpec := { name := "signsDesigns", fn := fun _ => fun
  | [d] => { results := [.lit (.bool true)], args := [d] }
  | _ => none }
def signsDesignsRow : OpenClaim := { program := "ytibpopddoggnkaa", sum := "ef67a0c41ca14c3bd1ce60f64ed7294a99715961a7b00b78c36ba040f007a8ce", func := "corsage/corsagelaw04.SignsDesigns", spec := "signsDesigns", unfollowed := true, recurses := true, apart := false }
def SignsDesignsSaid : Prop := signsDesignsRow.holds Try.pinned (OpenSpec.ofChange signsDesignsSpec)

/-- ITS FALSE NEIGHBOUR: 'it returns false'. Refute it at one input. -/
def signsDesignsWrong : ChangeSpec := { name := "signsDesigns", fn := fun _ => fun
  | [d] => { results := [.lit (.bool false)], args := [d] }
  | _ => none }
def SignsDesignsWrongFalsely : Prop := signsDesignsRow.holds Try.pinned (OpenSpec.ofChange signsDesignsWrong)

/-- 'corsagelaw04.SignsFour': WHATEVER THE INPUT: true; the input reads as it did. -/
def signsFourSpec : ChangeSpec := { name := "signsFour", fn := fun _ => fun
  | [d1, d2] => { results := [.lit (.bool true)], args := [d1, d2] }
  | _ => none }
def signsFourRow : OpenClaim := { program := "ytibpopddoggnkaa", sum := "ef67a0c41ca14c3bd1ce60f64ed7294a99715961a7b00b78c36ba040f007a8ce", func := "corsage/corsagelaw04.SignsFour", spec := "signsFour", unfollowed := true, recurses := true, apart := false }
def SignsFourSaid : Prop := signsFourRow.holds Try.pinned (OpenSpec.ofChange signsFourSpec)

/-- ITS FALSE NEIGHBOUR: 'it returns false'. Refute it at one input. -/
def signsFourWrong : ChangeSpec := { name := "signsFour", fn := fun _ => fun
  | [d1, d2] => { results := [.lit (.bool false)], args := [d1, d2] }
  | _ => none }
def SignsFourWrongFalsely : Prop := signsFourRow.holds Try.pinned (OpenSpec.ofChange signsFourWrong)

/- THE SECOND FORM. 'bulk': how many values and letters a reading holds, each counted each time it is reached (what is shared counts as often as it is met; a slice's spare places count too). A statement '..UptoSaid' is the law's where the arguments, and the package variables that the reading takes, are together of bulk at most 1048576: NARROWER than '..Said'. Prove '..Said' where nothing that the law and all that it calls make is longer than what came in: it says more and counts as full. Else prove '..UptoSaid'. A law counts once. -/
mutual
def uptoBulk {H : Type} : DataW H → Nat
  | .lit (.string bytes) => bytes.length + 1
  | .lit _ => 1
  | .nil => 1
  | .ptr d => uptoBulk d + 1
  | .slice elems spare => uptoBulkAll elems + uptoBulkAll spare + 1
  | .agg parts => uptoBulkAll parts + 1
  | .iface _ d => uptoBulk d + 1
  | .map entries => uptoBulkEntries entries + 1
  | .held _ => 1
def uptoBulkAll {H : Type} : List (DataW H) → Nat
  | [] => 0
  | d :: r => uptoBulk d + uptoBulkAll r
def uptoBulkEntries {H : Type} : List (Lit × DataW H) → Nat
  | [] => 0
  | x :: r => uptoBulkEntry x + uptoBulkEntries r
def uptoBulkEntry {H : Type} : Lit × DataW H → Nat
  | (.string bytes, d) => bytes.length + uptoBulk d + 1
  | (_, d) => uptoBulk d + 1
 end
def uptoSmall : (H : Type) → List (DataW H) → Bool := fun _ ds => decide (uptoBulkAll ds ≤ 1048576)
def OpenSpec.upto (s : _root_.Go.ChangeSpec) : _root_.Go.OpenSpec := { _root_.Go.OpenSpec.ofChange s with cond := some uptoSmall }

/-- 'corsagelaw04.SignsMakes', WHERE WHAT IT READS IS OF BULK AT MOST 1048576: true; the input reads as it did. -/
def signsMakesUptoRow : OpenClaim := { program := "ytibpopddoggnkaa", sum := "ef67a0c41ca14c3bd1ce60f64ed7294a99715961a7b00b78c36ba040f007a8ce", func := "corsage/corsagelaw04.SignsMakes", spec := "signsMakes", unfollowed := true, recurses := true, apart := false, narrowed := true }
def SignsMakesUptoSaid : Prop := signsMakesUptoRow.holds Try.pinned (OpenSpec.upto signsMakesSpec)

/-- 'corsagelaw04.SignsSums', WHERE WHAT IT READS IS OF BULK AT MOST 1048576: true; the input reads as it did. -/
def signsSumsUptoRow : OpenClaim := { program := "ytibpopddoggnkaa", sum := "ef67a0c41ca14c3bd1ce60f64ed7294a99715961a7b00b78c36ba040f007a8ce", func := "corsage/corsagelaw04.SignsSums", spec := "signsSums", unfollowed := true, recurses := true, apart := false, narrowed := true }
def SignsSumsUptoSaid : Prop := signsSumsUptoRow.holds Try.pinned (OpenSpec.upto signsSumsSpec)

/-- 'corsagelaw04.SignsBalanced', WHERE WHAT IT READS IS OF BULK AT MOST 1048576: true; the input reads as it did. -/
def signsBalancedUptoRow : OpenClaim := { program := "ytibpopddoggnkaa", sum := "ef67a0c41ca14c3bd1ce60f64ed7294a99715961a7b00b78c36ba040f007a8ce", func := "corsage/corsagelaw04.SignsBalanced", spec := "signsBalanced", unfollowed := true, recurses := true, apart := false, narrowed := true }
def SignsBalancedUptoSaid : Prop := signsBalancedUptoRow.holds Try.pinned (OpenSpec.upto signsBalancedSpec)

/-- 'corsagelaw04.SignsBest', WHERE WHAT IT READS IS OF BULK AT MOST 1048576: true; the input reads as it did. -/
def signsBestUptoRow : OpenClaim := { program := "ytibpopddoggnkaa", sum := "ef67a0c41ca14c3bd1ce60f64ed7294a99715961a7b00b78c36ba040f007a8ce", func := "corsage/corsagelaw04.SignsBest", spec := "signsBest", unfollowed := true, recurses := true, apart := false, narrowed := true }
def SignsBestUptoSaid : Prop := signsBestUptoRow.holds Try.pinned (OpenSpec.upto signsBestSpec)

/-- 'corsagelaw04.SignsGood', WHERE WHAT IT READS IS OF BULK AT MOST 1048576: true; the input reads as it did. -/
def signsGoodUptoRow : OpenClaim := { program := "ytibpopddoggnkaa", sum := "ef67a0c41ca14c3bd1ce60f64ed7294a99715961a7b00b78c36ba040f007a8ce", func := "corsage/corsagelaw04.SignsGood", spec := "signsGood", unfollowed := true, recurses := true, apart := false, narrowed := true }
def SignsGoodUptoSaid : Prop := signsGoodUptoRow.holds Try.pinned (OpenSpec.upto signsGoodSpec)

/-- 'corsagelaw04.SignsColumns', WHERE WHAT IT READS IS OF BULK AT MOST 1048576: true; the input reads as it did. -/
def signsColumnsUptoRow : OpenClaim := { program := "ytibpopddoggnkaa", sum := "ef67a0c41ca14c3bd1ce60f64ed7294a99715961a7b00b78c36ba040f007a8ce", func := "corsage/corsagelaw04.SignsColumns", spec := "signsColumns", unfollowed := true, recurses := true, apart := false, narrowed := true }
def SignsColumnsUptoSaid : Prop := signsColumnsUptoRow.holds Try.pinned (OpenSpec.upto signsColumnsSpec)

/-- 'corsagelaw04.SignsDets', WHERE WHAT IT READS IS OF BULK AT MOST 1048576: true; the input reads as it did. -/
def signsDetsUptoRow : OpenClaim := { program := "ytibpopddoggnkaa", sum := "ef67a0c41ca14c3bd1ce60f64ed7294a99715961a7b00b78c36ba040f007a8ce", func := "corsage/corsagelaw04.SignsDets", spec := "signsDets", unfollowed := true, recurses := true, apart := false, narrowed := true }
def SignsDetsUptoSaid : Prop := signsDetsUptoRow.holds Try.pinned (OpenSpec.upto signsDetsSpec)

/-- 'corsagelaw04.SignsFinds', WHERE WHAT IT READS IS OF BULK AT MOST 1048576: true; the input reads as it did. -/
def signsFindsUptoRow : OpenClaim := { program := "ytibpopddoggnkaa", sum := "ef67a0c41ca14c3bd1ce60f64ed7294a99715961a7b00b78c36ba040f007a8ce", func := "corsage/corsagelaw04.SignsFinds", spec := "signsFinds", unfollowed := true, recurses := true, apart := false, narrowed := true }
def SignsFindsUptoSaid : Prop := signsFindsUptoRow.holds Try.pinned (OpenSpec.upto signsFindsSpec)

/-- 'corsagelaw04.SignsBounds', WHERE WHAT IT READS IS OF BULK AT MOST 1048576: true; the input reads as it did. -/
def signsBoundsUptoRow : OpenClaim := { program := "ytibpopddoggnkaa", sum := "ef67a0c41ca14c3bd1ce60f64ed7294a99715961a7b00b78c36ba040f007a8ce", func := "corsage/corsagelaw04.SignsBounds", spec := "signsBounds", unfollowed := true, recurses := true, apart := false, narrowed := true }
def SignsBoundsUptoSaid : Prop := signsBoundsUptoRow.holds Try.pinned (OpenSpec.upto signsBoundsSpec)

/-- 'corsagelaw04.SignsFound', WHERE WHAT IT READS IS OF BULK AT MOST 1048576: true; the input reads as it did. -/
def signsFoundUptoRow : OpenClaim := { program := "ytibpopddoggnkaa", sum := "ef67a0c41ca14c3bd1ce60f64ed7294a99715961a7b00b78c36ba040f007a8ce", func := "corsage/corsagelaw04.SignsFound", spec := "signsFound", unfollowed := true, recurses := true, apart := false, narrowed := true }
def SignsFoundUptoSaid : Prop := signsFoundUptoRow.holds Try.pinned (OpenSpec.upto signsFoundSpec)

/-- 'corsagelaw04.SignsDesign', WHERE WHAT IT READS IS OF BULK AT MOST 1048576: true; the input reads as it did. -/
def signsDesignUptoRow : OpenClaim := { program := "ytibpopddoggnkaa", sum := "ef67a0c41ca14c3bd1ce60f64ed7294a99715961a7b00b78c36ba040f007a8ce", func := "corsage/corsagelaw04.SignsDesign", spec := "signsDesign", unfollowed := true, recurses := true, apart := false, narrowed := true }
def SignsDesignUptoSaid : Prop := signsDesignUptoRow.holds Try.pinned (OpenSpec.upto signsDesignSpec)

/-- 'corsagelaw04.SignsDesigns', WHERE WHAT IT READS IS OF BULK AT MOST 1048576: true; the input reads as it did. -/
def signsDesignsUptoRow : OpenClaim := { program := "ytibpopddoggnkaa", sum := "ef67a0c41ca14c3bd1ce60f64ed7294a99715961a7b00b78c36ba040f007a8ce", func := "corsage/corsagelaw04.SignsDesigns", spec := "signsDesigns", unfollowed := true, recurses := true, apart := false, narrowed := true }
def SignsDesignsUptoSaid : Prop := signsDesignsUptoRow.holds Try.pinned (OpenSpec.upto signsDesignsSpec)

/-- 'corsagelaw04.SignsFour', WHERE WHAT IT READS IS OF BULK AT MOST 1048576: true; the input reads as it did. -/
def signsFourUptoRow : OpenClaim := { program := "ytibpopddoggnkaa", sum := "ef67a0c41ca14c3bd1ce60f64ed7294a99715961a7b00b78c36ba040f007a8ce", func := "corsage/corsagelaw04.SignsFour", spec := "signsFour", unfollowed := true, recurses := true, apart := false, narrowed := true }
def SignsFourUptoSaid : Prop := signsFourUptoRow.holds Try.pinned (OpenSpec.upto signsFourSpec)

end Rows
end Go.Proofs.Ytibpopddoggnkaa
