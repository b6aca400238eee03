/- Best: contracts of the law. -/
import Derived.Test.YtibpopddoggnkaaXT
set_option linter.unusedVariables false
set_option linter.unusedSimpArgs false
namespace Go.Signs
open Go Go.Ab Go.Proofs
def modP (c:Int) (n:Nat) : Nat := (c % (2 ^ n:Nat)).toNat
end Go.Signs
set_option linter.unusedVariables false
set_option linter.unusedSimpArgs false
namespace Go.Signs
open Go Go.Ab Go.Proofs
theorem iand_mod {c : Int} {n : Nat} (hn : n ≤ 16) : iand .i64 c ((2 ^ n - 1:Nat):Int) = (modP c n:Int) := by
  have hp := pow_le16 hn
  have h1 : 1 ≤ 2 ^ n := Nat.one_le_two_pow
  show IntKind.i64.wrap (BitVec.ofInt 64 c &&& BitVec.ofInt 64 ((2 ^ n - 1:Nat):Int)).toNat = _
  rw [BitVec.toNat_and, bv_nat (by omega), BitVec.toNat_ofInt, Nat.and_two_pow_sub_one_eq_mod]
  have e : (c % ((2 ^ 64:Nat):Int)).toNat % 2 ^ n = modP c n := by
    unfold modP
    have hd : ((2 ^ n:Nat):Int) ∣ ((2 ^ 64:Nat):Int) := Int.natCast_dvd_natCast.2 (Nat.pow_dvd_pow 2 (by omega))
    have h2 := Int.emod_emod_of_dvd c hd
    have h3 : 0 ≤ c % ((2 ^ 64:Nat):Int) := Int.emod_nonneg _ (by decide)
    rw [← h2]
    obtain ⟨y, hy⟩ : ∃ y : Nat, c % ((2 ^ 64:Nat):Int) = y := ⟨_, (Int.toNat_of_nonneg h3).symm⟩
    rw [hy, Int.toNat_natCast, ← Int.natCast_emod, Int.toNat_natCast]
  rw [e]
  have : modP c n < 2 ^ n := by rw [← e]; exact Nat.mod_lt _ (by omega)
  exact wrap_nat (by omega)
theorem modP_lt {c : Int} {n : Nat} : modP c n < 2 ^ n := by
  have h1 : 1 ≤ 2 ^ n := Nat.one_le_two_pow
  have h3 : 0 ≤ c % ((2 ^ n:Nat):Int) := Int.emod_nonneg _ (by omega)
  have h4 : c % ((2 ^ n:Nat):Int) < ((2 ^ n:Nat):Int) := Int.emod_lt_of_pos _ (by omega)
  unfold modP; omega
section
variable {l : List Int} {r c : Int} {m : Int}
end
end Go.Signs
set_option linter.unusedVariables false
set_option linter.unusedSimpArgs false
namespace Go.Signs
open Go Go.Ab Go.Proofs
end Go.Signs
set_option linter.unusedVariables false
set_option linter.unusedSimpArgs false
namespace Go.Signs
open Go Go.Ab Go.Proofs
abbrev A4D := Int × Int × Int × Int × Unit
def l4 (s : A4D) : List Int := [s.1, s.2.1, s.2.2.1, s.2.2.2.1]
end Go.Signs
set_option linter.unusedVariables false
set_option linter.unusedSimpArgs false
namespace Go.Signs
open Go Go.Ab Go.Proofs
section
variable {m a b c d : Int}
end
end Go.Signs
set_option linter.unusedVariables false
set_option linter.unusedSimpArgs false
namespace Go.Signs
open Go Go.Ab Go.Proofs
end Go.Signs
set_option linter.unusedVariables false
set_option linter.unusedSimpArgs false
namespace Go.Signs
open Go Go.Ab Go.Proofs
section
variable {m a b c d : Int}
end
section
variable {m : Nat} {a b c d : Int}
end
end Go.Signs
