/-
  No cell of these rows narrows 'for every input' (looked for: loops, veiled, ifaces, maps, wideKeys, modest, calm, conditions, laid).
  DERIVED. THE GIVEN ROWS OF THIS SEAT. 14 by the template 'for every input the law returns true; each argument reads behind the call as it read before'; 0 by the template 'total and deterministic' (their statements: YtiiiojjaphckbaaTotals.lean).
  GIVEN WITH THE SEED: the statements are not yours to turn. If you find one false, say at which input.
  Laid BY PROGRAM, IN A SANDBOX (cutbox-rows.mjs): the forced cells as the released guide's own fill.sh prints them over the translation 93ade7ce76f8763b… (all of the seat's roots in one cut). By AI agents, Wed Nov 11 2026. No macro, syntax, notation, axiom, sorry.
-/
import Derived.Test.YtiiiojjaphckbaaChecked
import GoSem.Claim
import GoSem.ClaimJoined
import GoSem.ClaimMapViews
import Derived.JoinedTies
import Derived.KernelRfl
namespace Go.Proofs.Ytiiiojjaphckbaa
/- THE CELL 'sum', in the pinned program and in every row, IS THE sha256 OF THE DUMP (.gsa) THAT YtiiiojjaphckbaaProg.lean LOADS. Nothing in Lean hashes anything: it is a label: what it is worth is what the hold of that sum in a sandbox is worth. -/
noncomputable def Try.pinned : Pinned := { name := "ytiiiojjaphckbaa", sum := "93ade7ce76f8763b3a270effe6719aa66e4ac2f70bed4d0dc8836a6725df7687", checked := Try.checked }
namespace Rows
def none {H : Type} : Left H := { results := [], args := [] }

/-- 'corsagelaw08.CapsThirds': WHATEVER THE INPUT: true; the input reads as it did. -/
def capsThirdsSpec : ChangeSpec := { name := "capsThirds", fn := fun _ => fun
  | [d1, d2, d3, d4] => { results := [.lit (.bool true)], args := [d1, d2, d3, d4] }
  | _ => none }
def capsThirdsRow : OpenClaim := { program := "ytiiiojjaphckbaa", sum := "93ade7ce76f8763b3a270effe6719aa66e4ac2f70bed4d0dc8836a6725df7687", func := "corsage/corsagelaw08.CapsThirds", spec := "capsThirds", unfollowed := true, recurses := true, plainKeys := false, apart := false }
def CapsThirdsSaid : Prop := capsThirdsRow.holds Try.pinned (OpenSpec.ofChange capsThirdsSpec)

/-- ITS FALSE NEIGHBOUR: 'it returns false'. Refute it at one input. -/
def capsThirdsWrong : ChangeSpec := { name := "capsThirds", fn := fun _ => fun
  | [d1, d2, d3, d4] => { results := [.lit (.bool false)], args := [d1, d2, d3, d4] }
  | _ => none }
def CapsThirdsWrongFalsely : Prop := capsThirdsRow.holds Try.pinned (OpenSpec.ofChange capsThirdsWrong)

/-- 'corsagelaw08.CapsSchur': WHATEVER THE INPUT: true; the input reads as it did. -/
def capsSchurSpec : ChangeSpec := { name := "capsSchur", fn := fun _ => fun
  | [d1, d2] => { results := [.lit (.bool true)], args := [d1, d2] }
  | _ => none }
def capsSchurRow : OpenClaim := { program := "ytiiiojjaphckbaa", sum := "93ade7ce76f8763b3a270effe6719aa66e4ac2f70bed4d0dc8836a6725df7687", func := "corsage/corsagelaw08.CapsSchur", spec := "capsSchur", unfollowed := true, recurses := true, plainKeys := false, apart := false }
def CapsSchurSaid : Prop := capsSchurRow.holds Try.pinned (OpenSpec.ofChange capsSchurSpec)

/-- ITS FALSE NEIGHBOUR: 'it returns false'. Refute it at one input. -/
def capsSchurWrong : ChangeSpec := { name := "capsSchur", fn := fun _ => fun
  | [d1, d2] => { results := [.lit (.bool false)], args := [d1, d2] }
  | _ => none }
def CapsSchurWrongFalsely : Prop := capsSchurRow.holds Try.pinned (OpenSpec.ofChange capsSchurWrong)

/-- 'corsagelaw08.CapsWaerden': WHATEVER THE INPUT: true; the input reads as it did. -/
def capsWaerdenSpec : ChangeSpec := { name := "capsWaerden", fn := fun _ => fun
  | [d1, d2, d3] => { results := [.lit (.bool true)], args := [d1, d2, d3] }
  | _ => none }
def capsWaerdenRow : OpenClaim := { program := "ytiiiojjaphckbaa", sum := "93ade7ce76f8763b3a270effe6719aa66e4ac2f70bed4d0dc8836a6725df7687", func := "corsage/corsagelaw08.CapsWaerden", spec := "capsWaerden", unfollowed := true, recurses := true, plainKeys := false, apart := false }
def CapsWaerdenSaid : Prop := capsWaerdenRow.holds Try.pinned (OpenSpec.ofChange capsWaerdenSpec)

/-- ITS FALSE NEIGHBOUR: 'it returns false'. Refute it at one input. -/
def capsWaerdenWrong : ChangeSpec := { name := "capsWaerden", fn := fun _ => fun
  | [d1, d2, d3] => { results := [.lit (.bool false)], args := [d1, d2, d3] }
  | _ => none }
def CapsWaerdenWrongFalsely : Prop := capsWaerdenRow.holds Try.pinned (OpenSpec.ofChange capsWaerdenWrong)

/-- 'corsagelaw08.CapsLimits': WHATEVER THE INPUT: true; the input reads as it did. -/
def capsLimitsSpec : ChangeSpec := { name := "capsLimits", fn := fun _ => fun
  | [d1, d2, d3] => { results := [.lit (.bool true)], args := [d1, d2, d3] }
  | _ => none }
def capsLimitsRow : OpenClaim := { program := "ytiiiojjaphckbaa", sum := "93ade7ce76f8763b3a270effe6719aa66e4ac2f70bed4d0dc8836a6725df7687", func := "corsage/corsagelaw08.CapsLimits", spec := "capsLimits", unfollowed := true, recurses := true, plainKeys := false, apart := false }
def CapsLimitsSaid : Prop := capsLimitsRow.holds Try.pinned (OpenSpec.ofChange capsLimitsSpec)

/-- ITS FALSE NEIGHBOUR: 'it returns false'. Refute it at one input. -/
def capsLimitsWrong : ChangeSpec := { name := "capsLimits", fn := fun _ => fun
  | [d1, d2, d3] => { results := [.lit (.bool false)], args := [d1, d2, d3] }
  | _ => none }
def CapsLimitsWrongFalsely : Prop := capsLimitsRow.holds Try.pinned (OpenSpec.ofChange capsLimitsWrong)

/-- 'corsagelaw08.CapsCaps': WHATEVER THE INPUT: true; the input reads as it did. -/
def capsCapsSpec : ChangeSpec := { name := "capsCaps", fn := fun _ => fun
  | [d1, d2] => { results := [.lit (.bool true)], args := [d1, d2] }
  | _ => none }
def capsCapsRow : OpenClaim := { program := "ytiiiojjaphckbaa", sum := "93ade7ce76f8763b3a270effe6719aa66e4ac2f70bed4d0dc8836a6725df7687", func := "corsage/corsagelaw08.CapsCaps", spec := "capsCaps", unfollowed := true, recurses := true, plainKeys := false, apart := false }
def CapsCapsSaid : Prop := capsCapsRow.holds Try.pinned (OpenSpec.ofChange capsCapsSpec)

/-- ITS FALSE NEIGHBOUR: 'it returns false'. Refute it at one input. -/
def capsCapsWrong : ChangeSpec := { name := "capsCaps", fn := fun _ => fun
  | [d1, d2] => { results := [.lit (.bool false)], args := [d1, d2] }
  | _ => none }
def CapsCapsWrongFalsely : Prop := capsCapsRow.holds Try.pinned (OpenSpec.ofChange capsCapsWrong)

/-- 'corsagelaw08.CapsMirrored': WHATEVER THE INPUT: true; the input reads as it did. -/
def capsMirroredSpec : ChangeSpec := { name := "capsMirrored", fn := fun _ => fun
  | [d1, d2] => { results := [.lit (.bool true)], args := [d1, d2] }
  | _ => none }
def capsMirroredRow : OpenClaim := { program := "ytiiiojjaphckbaa", sum := "93ade7ce76f8763b3a270effe6719aa66e4ac2f70bed4d0dc8836a6725df7687", func := "corsage/corsagelaw08.CapsMirrored", spec := "capsMirrored", unfollowed := true, recurses := true, plainKeys := false, apart := false }
def CapsMirroredSaid : Prop := capsMirroredRow.holds Try.pinned (OpenSpec.ofChange capsMirroredSpec)

/-- ITS FALSE NEIGHBOUR: 'it returns false'. Refute it at one input. -/
def capsMirroredWrong : ChangeSpec := { name := "capsMirrored", fn := fun _ => fun
  | [d1, d2] => { results := [.lit (.bool false)], args := [d1, d2] }
  | _ => none }
def CapsMirroredWrongFalsely : Prop := capsMirroredRow.holds Try.pinned (OpenSpec.ofChange capsMirroredWrong)

/-- 'corsagelaw08.CapsRulers': WHATEVER THE INPUT: true; the input reads as it did. -/
def capsRulersSpec : ChangeSpec := { name := "capsRulers", fn := fun _ => fun
  | [d1, d2] => { results := [.lit (.bool true)], args := [d1, d2] }
  | _ => none }
def capsRulersRow : OpenClaim := { program := "ytiiiojjaphckbaa", sum := "93ade7ce76f8763b3a270effe6719aa66e4ac2f70bed4d0dc8836a6725df7687", func := "corsage/corsagelaw08.CapsRulers", spec := "capsRulers", unfollowed := true, recurses := true, plainKeys := false, apart := false }
def CapsRulersSaid : Prop := capsRulersRow.holds Try.pinned (OpenSpec.ofChange capsRulersSpec)

/-- ITS FALSE NEIGHBOUR: 'it returns false'. Refute it at one input. -/
def capsRulersWrong : ChangeSpec := { name := "capsRulers", fn := fun _ => fun
  | [d1, d2] => { results := [.lit (.bool false)], args := [d1, d2] }
  | _ => none }
def CapsRulersWrongFalsely : Prop := capsRulersRow.holds Try.pinned (OpenSpec.ofChange capsRulersWrong)

/-- 'corsagelaw08.CapsTests': WHATEVER THE INPUT: true; the input reads as it did. -/
def capsTestsSpec : ChangeSpec := { name := "capsTests", fn := fun _ => fun
  | [d1, d2] => { results := [.lit (.bool true)], args := [d1, d2] }
  | _ => none }
def capsTestsRow : OpenClaim := { program := "ytiiiojjaphckbaa", sum := "93ade7ce76f8763b3a270effe6719aa66e4ac2f70bed4d0dc8836a6725df7687", func := "corsage/corsagelaw08.CapsTests", spec := "capsTests", unfollowed := true, recurses := true, plainKeys := false, apart := false }
def CapsTestsSaid : Prop := capsTestsRow.holds Try.pinned (OpenSpec.ofChange capsTestsSpec)

/-- ITS FALSE NEIGHBOUR: 'it returns false'. Refute it at one input. -/
def capsTestsWrong : ChangeSpec := { name := "capsTests", fn := fun _ => fun
  | [d1, d2] => { results := [.lit (.bool false)], args := [d1, d2] }
  | _ => none }
def CapsTestsWrongFalsely : Prop := capsTestsRow.holds Try.pinned (OpenSpec.ofChange capsTestsWrong)

/-- 'corsagelaw08.CapsLengths': WHATEVER THE INPUT: true; the input reads as it did. -/
def capsLengthsSpec : ChangeSpec := { name := "capsLengths", fn := fun _ => fun
  | [d1, d2] => { results := [.lit (.bool true)], args := [d1, d2] }
  | _ => none }
def capsLengthsRow : OpenClaim := { program := "ytiiiojjaphckbaa", sum := "93ade7ce76f8763b3a270effe6719aa66e4ac2f70bed4d0dc8836a6725df7687", func := "corsage/corsagelaw08.CapsLengths", spec := "capsLengths", unfollowed := true, recurses := true, plainKeys := false, apart := false }
def CapsLengthsSaid : Prop := capsLengthsRow.holds Try.pinned (OpenSpec.ofChange capsLengthsSpec)

/-- ITS FALSE NEIGHBOUR: 'it returns false'. Refute it at one input. -/
def capsLengthsWrong : ChangeSpec := { name := "capsLengths", fn := fun _ => fun
  | [d1, d2] => { results := [.lit (.bool false)], args := [d1, d2] }
  | _ => none }
def CapsLengthsWrongFalsely : Prop := capsLengthsRow.holds Try.pinned (OpenSpec.ofChange capsLengthsWrong)

/-- 'corsagelaw08.CapsMost': WHATEVER THE INPUT: true; the input reads as it did. -/
def capsMostSpec : ChangeSpec := { name := "capsMost", fn := fun _ => fun
  | [d] => { results := [.lit (.bool true)], args := [d] }
  | _ => none }
def capsMostRow : OpenClaim := { program := "ytiiiojjaphckbaa", sum := "93ade7ce76f8763b3a270effe6719aa66e4ac2f70bed4d0dc8836a6725df7687", func := "corsage/corsagelaw08.CapsMost", spec := "capsMost", unfollowed := true, recurses := true, plainKeys := false, apart := false }
def CapsMostSaid : Prop := capsMostRow.holds Try.pinned (OpenSpec.ofChange capsMostSpec)

/-- ITS FALSE NEIGHBOUR: 'it returns false'. Refute it at one input. -/
def capsMostWrong : ChangeSpec := { name := "capsMost", fn := fun _ => fun
  | [d] => { results := [.lit (.bool false)], args := [d] }
  | _ => none }
def CapsMostWrongFalsely : Prop := capsMostRow.holds Try.pinned (OpenSpec.ofChange capsMostWrong)

/-- 'corsagelaw08.CapsSets': WHATEVER THE INPUT: true; the input reads as it did. -/
def capsSetsSpec : ChangeSpec := { name := "capsSets", fn := fun _ => fun
  | [d1, d2, d3, d4] => { results := [.lit (.bool true)], args := [d1, d2, d3, d4] }
  | _ => none }
def capsSetsRow : OpenClaim := { program := "ytiiiojjaphckbaa", sum := "93ade7ce76f8763b3a270effe6719aa66e4ac2f70bed4d0dc8836a6725df7687", func := "corsage/corsagelaw08.CapsSets", spec := "capsSets", unfollowed := true, recurses := true, plainKeys := false, apart := false }
def CapsSetsSaid : Prop := capsSetsRow.holds Try.pinned (OpenSpec.ofChange capsSetsSpec)

/-- ITS FALSE NEIGHBOUR: 'it returns false'. Refute it at one input. -/
def capsSetsWrong : ChangeSpec := { name := "capsSets", fn := fun _ => fun
  | [d1, d2, d3, d4] => { results := [.lit (.bool false)], args := [d1, d2, d3, d4] }
  | _ => none }
def CapsSetsWrongFalsely : Prop := capsSetsRow.holds Try.pinned (OpenSpec.ofChange capsSetsWrong)

/-- 'corsagelaw08.CapsBounds': WHATEVER THE INPUT: true; the input reads as it did. -/
def capsBoundsSpec : ChangeSpec := { name := "capsBounds", fn := fun _ => fun
  | [d1, d2, d3] => { results := [.lit (.bool true)], args := [d1, d2, d3] }
  | _ => none }
def capsBoundsRow : OpenClaim := { program := "ytiiiojjaphckbaa", sum := "93ade7ce76f8763b3a270effe6719aa66e4ac2f70bed4d0dc8836a6725df7687", func := "corsage/corsagelaw08.CapsBounds", spec := "capsBounds", unfollowed := true, recurses := true, plainKeys := false, apart := false }
def CapsBoundsSaid : Prop := capsBoundsRow.holds Try.pinned (OpenSpec.ofChange capsBoundsSpec)

/-- ITS FALSE NEIGHBOUR: 'it returns false'. Refute it at one input. -/
def capsBoundsWrong : ChangeSpec := { name := "capsBounds", fn := fun _ => fun
  | [d1, d2, d3] => { results := [.lit (.bool false)], args := [d1, d2, d3] }
  | _ => none }
def CapsBoundsWrongFalsely : Prop := capsBoundsRow.holds Try.pinned (OpenSpec.ofChange capsBoundsWrong)

/-- 'corsagelaw08.CapsWide': WHATEVER THE INPUT: true; the input reads as it did. -/
def capsWideSpec : ChangeSpec := { name := "capsWide", fn := fun _ => fun
  | [d1, d2, d3] => { results := [.lit (.bool true)], args := [d1, d2, d3] }
  | _ => none }
def capsWideRow : OpenClaim := { program := "ytiiiojjaphckbaa", sum := "93ade7ce76f8763b3a270effe6719aa66e4ac2f70bed4d0dc8836a6725df7687", func := "corsage/corsagelaw08.CapsWide", spec := "capsWide", unfollowed := true, recurses := true, plainKeys := false, apart := false }
def CapsWideSaid : Prop := capsWideRow.holds Try.pinned (OpenSpec.ofChange capsWideSpec)

/-- ITS FALSE NEIGHBOUR: 'it returns false'. Refute it at one input. -/
def capsWideWrong : ChangeSpec := { name := "capsWide", fn := fun _ => fun
  | [d1, d2, d3] => { results := [.lit (.bool false)], args := [d1, d2, d3] }
  | _ => none }
def CapsWideWrongFalsely : Prop := capsWideRow.holds Try.pinned (OpenSpec.ofChange capsWideWrong)

/-- 'corsagelaw08.CapsDifferent': WHATEVER THE INPUT: true; the input reads as it did. -/
def capsDifferentSpec : ChangeSpec := { name := "capsDifferent", fn := fun _ => fun
  | [d1, d2, d3] => { results := [.lit (.bool true)], args := [d1, d2, d3] }
  | _ => none }
def capsDifferentRow : OpenClaim := { program := "ytiiiojjaphckbaa", sum := "93ade7ce76f8763b3a270effe6719aa66e4ac2f70bed4d0dc8836a6725df7687", func := "corsage/corsagelaw08.CapsDifferent", spec := "capsDifferent", unfollowed := true, recurses := true, plainKeys := false, apart := false }
def CapsDifferentSaid : Prop := capsDifferentRow.holds Try.pinned (OpenSpec.ofChange capsDifferentSpec)

/-- ITS FALSE NEIGHBOUR: 'it returns false'. Refute it at one input. -/
def capsDifferentWrong : ChangeSpec := { name := "capsDifferent", fn := fun _ => fun
  | [d1, d2, d3] => { results := [.lit (.bool false)], args := [d1, d2, d3] }
  | _ => none }
def CapsDifferentWrongFalsely : Prop := capsDifferentRow.holds Try.pinned (OpenSpec.ofChange capsDifferentWrong)

/- THE SECOND FORM. 'bulk': how many values and letters a reading holds, each counted each time it is reached (what is shared counts as often as it is met; a slice's spare places count too). A statement '..UptoSaid' is the law's where the arguments, and the package variables that the reading takes, are together of bulk at most 1048576: NARROWER than '..Said'. Prove '..Said' where nothing that the law and all that it calls make is longer than what came in: it says more and counts as full. Else prove '..UptoSaid'. A law counts once. -/
mutual
def uptoBulk {H : Type} : DataW H → Nat
  | .lit (.string bytes) => bytes.length + 1
  | .lit _ => 1
  | .nil => 1
  | .ptr d => uptoBulk d + 1
  | .slice elems spare => uptoBulkAll elems + uptoBulkAll spare + 1
  | .agg parts => uptoBulkAll parts + 1
  | .iface _ d => uptoBulk d + 1
  | .map entries => uptoBulkEntries entries + 1
  | .held _ => 1
def uptoBulkAll {H : Type} : List (DataW H) → Nat
  | [] => 0
  | d :: r => uptoBulk d + uptoBulkAll r
def uptoBulkEntries {H : Type} : List (Lit × DataW H) → Nat
  | [] => 0
  | x :: r => uptoBulkEntry x + uptoBulkEntries r
def uptoBulkEntry {H : Type} : Lit × DataW H → Nat
  | (.string bytes, d) => bytes.length + uptoBulk d + 1
  | (_, d) => uptoBulk d + 1
 end
def uptoSmall : (H : Type) → List (DataW H) → Bool := fun _ ds => decide (uptoBulkAll ds ≤ 1048576)
def OpenSpec.upto (s : _root_.Go.ChangeSpec) : _root_.Go.OpenSpec := { _root_.Go.OpenSpec.ofChange s with cond := some uptoSmall }

/-- 'corsagelaw08.CapsThirds', WHERE WHAT IT READS IS OF BULK AT MOST 1048576: true; the input reads as it did. -/
def capsThirdsUptoRow : OpenClaim := { program := "ytiiiojjaphckbaa", sum := "93ade7ce76f8763b3a270effe6719aa66e4ac2f70bed4d0dc8836a6725df7687", func := "corsage/corsagelaw08.CapsThirds", spec := "capsThirds", unfollowed := true, recurses := true, plainKeys := false, apart := false, narrowed := true }
def CapsThirdsUptoSaid : Prop := capsThirdsUptoRow.holds Try.pinned (OpenSpec.upto capsThirdsSpec)

/-- 'corsagelaw08.CapsSchur', WHERE WHAT IT READS IS OF BULK AT MOST 1048576: true; the input reads as it did. -/
def capsSchurUptoRow : OpenClaim := { program := "ytiiiojjaphckbaa", sum := "93ade7ce76f8763b3a270effe6719aa66e4ac2f70bed4d0dc8836a6725df7687", func := "corsage/corsagelaw08.CapsSchur", spec := "capsSchur", unfollowed := true, recurses := true, plainKeys := false, apart := false, narrowed := true }
def CapsSchurUptoSaid : Prop := capsSchurUptoRow.holds Try.pinned (OpenSpec.upto capsSchurSpec)

/-- 'corsagelaw08.CapsWaerden', WHERE WHAT IT READS IS OF BULK AT MOST 1048576: true; the input reads as it did. -/
def capsWaerdenUptoRow : OpenClaim := { program := "ytiiiojjaphckbaa", sum := "93ade7ce76f8763b3a270effe6719aa66e4ac2f70bed4d0dc8836a6725df7687", func := "corsage/corsagelaw08.CapsWaerden", spec := "capsWaerden", unfollowed := true, recurses := true, plainKeys := false, apart := false, narrowed := true }
def CapsWaerdenUptoSaid : Prop := capsWaerdenUptoRow.holds Try.pinned (OpenSpec.upto capsWaerdenSpec)

/-- 'corsagelaw08.CapsLimits', WHERE WHAT IT READS IS OF BULK AT MOST 1048576: true; the input reads as it did. -/
def capsLimitsUptoRow : OpenClaim := { program := "ytiiiojjaphckbaa", sum := "93ade7ce76f8763b3a270effe6719aa66e4ac2f70bed4d0dc8836a6725df7687", func := "corsage/corsagelaw08.CapsLimits", spec := "capsLimits", unfollowed := true, recurses := true, plainKeys := false, apart := false, narrowed := true }
def CapsLimitsUptoSaid : Prop := capsLimitsUptoRow.holds Try.pinned (OpenSpec.upto capsLimitsSpec)

/-- 'corsagelaw08.CapsCaps', WHERE WHAT IT READS IS OF BULK AT MOST 1048576: true; the input reads as it did. -/
def capsCapsUptoRow : OpenClaim := { program := "ytiiiojjaphckbaa", sum := "93ade7ce76f8763b3a270effe6719aa66e4ac2f70bed4d0dc8836a6725df7687", func := "corsage/corsagelaw08.CapsCaps", spec := "capsCaps", unfollowed := true, recurses := true, plainKeys := false, apart := false, narrowed := true }
def CapsCapsUptoSaid : Prop := capsCapsUptoRow.holds Try.pinned (OpenSpec.upto capsCapsSpec)

/-- 'corsagelaw08.CapsMirrored', WHERE WHAT IT READS IS OF BULK AT MOST 1048576: true; the input reads as it did. -/
def capsMirroredUptoRow : OpenClaim := { program := "ytiiiojjaphckbaa", sum := "93ade7ce76f8763b3a270effe6719aa66e4ac2f70bed4d0dc8836a6725df7687", func := "corsage/corsagelaw08.CapsMirrored", spec := "capsMirrored", unfollowed := true, recurses := true, plainKeys := false, apart := false, narrowed := true }
def CapsMirroredUptoSaid : Prop := capsMirroredUptoRow.holds Try.pinned (OpenSpec.upto capsMirroredSpec)

/-- 'corsagelaw08.CapsRulers', WHERE WHAT IT READS IS OF BULK AT MOST 1048576: true; the input reads as it did. -/
def capsRulersUptoRow : OpenClaim := { program := "ytiiiojjaphckbaa", sum := "93ade7ce76f8763b3a270effe6719aa66e4ac2f70bed4d0dc8836a6725df7687", func := "corsage/corsagelaw08.CapsRulers", spec := "capsRulers", unfollowed := true, recurses := true, plainKeys := false, apart := false, narrowed := true }
def CapsRulersUptoSaid : Prop := capsRulersUptoRow.holds Try.pinned (OpenSpec.upto capsRulersSpec)

/-- 'corsagelaw08.CapsTests', WHERE WHAT IT READS IS OF BULK AT MOST 1048576: true; the input reads as it did. -/
def capsTestsUptoRow : OpenClaim := { program := "ytiiiojjaphckbaa", sum := "93ade7ce76f8763b3a270effe6719aa66e4ac2f70bed4d0dc8836a6725df7687", func := "corsage/corsagelaw08.CapsTests", spec := "capsTests", unfollowed := true, recurses := true, plainKeys := false, apart := false, narrowed := true }
def CapsTestsUptoSaid : Prop := capsTestsUptoRow.holds Try.pinned (OpenSpec.upto capsTestsSpec)

/-- 'corsagelaw08.CapsLengths', WHERE WHAT IT READS IS OF BULK AT MOST 1048576: true; the input reads as it did. -/
def capsLengthsUptoRow : OpenClaim := { program := "ytiiiojjaphckbaa", sum := "93ade7ce76f8763b3a270effe6719aa66e4ac2f70bed4d0dc8836a6725df7687", func := "corsage/corsagelaw08.CapsLengths", spec := "capsLengths", unfollowed := true, recurses := true, plainKeys := false, apart := false, narrowed := true }
def CapsLengthsUptoSaid : Prop := capsLengthsUptoRow.holds Try.pinned (OpenSpec.upto capsLengthsSpec)

/-- 'corsagelaw08.CapsMost', WHERE WHAT IT READS IS OF BULK AT MOST 1048576: true; the input reads as it did. -/
def capsMostUptoRow : OpenClaim := { program := "ytiiiojjaphckbaa", sum := "93ade7ce76f8763b3a270effe6719aa66e4ac2f70bed4d0dc8836a6725df7687", func := "corsage/corsagelaw08.CapsMost", spec := "capsMost", unfollowed := true, recurses := true, plainKeys := false, apart := false, narrowed := true }
def CapsMostUptoSaid : Prop := capsMostUptoRow.holds Try.pinned (OpenSpec.upto capsMostSpec)

/-- 'corsagelaw08.CapsSets', WHERE WHAT IT READS IS OF BULK AT MOST 1048576: true; the input reads as it did. -/
def capsSetsUptoRow : OpenClaim := { program := "ytiiiojjaphckbaa", sum := "93ade7ce76f8763b3a270effe6719aa66e4ac2f70bed4d0dc8836a6725df7687", func := "corsage/corsagelaw08.CapsSets", spec := "capsSets", unfollowed := true, recurses := true, plainKeys := false, apart := false, narrowed := true }
def CapsSetsUptoSaid : Prop := capsSetsUptoRow.holds Try.pinned (OpenSpec.upto capsSetsSpec)

/-- 'corsagelaw08.CapsBounds', WHERE WHAT IT READS IS OF BULK AT MOST 1048576: true; the input reads as it did. -/
def capsBoundsUptoRow : OpenClaim := { program := "ytiiiojjaphckbaa", sum := "93ade7ce76f8763b3a270effe6719aa66e4ac2f70bed4d0dc8836a6725df7687", func := "corsage/corsagelaw08.CapsBounds", spec := "capsBounds", unfollowed := true, recurses := true, plainKeys := false, apart := false, narrowed := true }
def CapsBoundsUptoSaid : Prop := capsBoundsUptoRow.holds Try.pinned (OpenSpec.upto capsBoundsSpec)

/-- 'corsagelaw08.CapsWide', WHERE WHAT IT READS IS OF BULK AT MOST 1048576: true; the input reads as it did. -/
def capsWideUptoRow : OpenClaim := { program := "ytiiiojjaphckbaa", sum := "93ade7ce76f8763b3a270effe6719aa66e4ac2f70bed4d0dc8836a6725df7687", func := "corsage/corsagelaw08.CapsWide", spec := "capsWide", unfollowed := true, recurses := true, plainKeys := false, apart := false, narrowed := true }
def CapsWideUptoSaid : Prop := capsWideUptoRow.holds Try.pinned (OpenSpec.upto capsWideSpec)

/-- 'corsagelaw08.CapsDifferent', WHERE WHAT IT READS IS OF BULK AT MOST 1048576: true; the input reads as it did. -/
def capsDifferentUptoRow : OpenClaim := { program := "ytiiiojjaphckbaa", sum := "93ade7ce76f8763b3a270effe6719aa66e4ac2f70bed4d0dc8836a6725df7687", func := "corsage/corsagelaw08.CapsDifferent", spec := "capsDifferent", unfollowed := true, recurses := true, plainKeys := false, apart := false, narrowed := true }
def CapsDifferentUptoSaid : Prop := capsDifferentUptoRow.holds Try.pinned (OpenSpec.upto capsDifferentSpec)

end Rows
end Go.Proofs.Ytiiiojjaphckbaa
