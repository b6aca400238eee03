/- Blocking: contracts that read a slice which is written to elsewhere,and the law's. -/
import Derived.Test.YtffapeomfjfedaaXF
import Derived.Test.YtffapeomfjfedaaAT
set_option linter.unusedVariables false
set_option linter.unusedSimpArgs false
namespace Go.Arcs
open Go Go.Ab Go.Proofs
end Go.Arcs
namespace Go.Arcs
open Go Go.Ab Go.Proofs
end Go.Arcs
namespace Go.Arcs
open Go Go.Ab Go.Proofs
def ind (b:Bool) : Int:=if b = true then 1 else 0
def mask : List Bool → Nat
  | []=>0
  | b :: l=>(if b = true then 1 else 0) + 2 * mask l
def pc : Nat → Nat → Nat
  | 0,_=>0
  | k + 1,x=>x % 2 + pc k (x / 2)
section
variable {p : Int}
variable {l : List Int}
theorem flt_ris {q : Nat → Bool} : ∀ {n : Nat},ris (flt q n) = true ∧ ∀ x ∈ flt q n,x < n
  | 0=>⟨rfl,fun x hx=>by simp [flt] at hx⟩
  | n + 1=>by
    obtain ⟨h1,h2⟩:=flt_ris (q:=q) (n:=n)
    rw [flt_succ]
    by_cases hq : q n = true
    · rw [if_pos hq]
      constructor
      · rw [ris_iff] at h1 ⊢
        intro i hi
        rw [List.length_append,List.length_singleton] at hi
        by_cases h3 : i + 1 < (flt q n).length
        · rw [gd_at (by rw [List.length_append];omega),gd_at (by rw [List.length_append];omega),List.getElem_append_left (by omega),List.getElem_append_left h3]
          have:=h1 i h3
          rwa [gd_at (by omega),gd_at h3] at this
        · have h4 : i + 1 = (flt q n).length:=by omega
          rw [gd_at (by rw [List.length_append];omega),gd_at (by rw [List.length_append,List.length_singleton];omega),List.getElem_append_left (by omega),List.getElem_append_right (by omega)]
          have:=h2 _ (List.getElem_mem (l:=flt q n) (n:=i) (by omega))
          simpa [h4] using this
      · intro x hx
        rcases List.mem_append.1 hx with h | h
        · have:=h2 x h;omega
        · simp at h;omega
    · rw [if_neg hq,List.append_nil]
      exact ⟨h1,fun x hx=>by have:=h2 x hx;omega⟩
end
end Go.Arcs
namespace Go.Arcs
open Go Go.Ab Go.Proofs
section
variable {p : Int} {l : List Int}
end
end Go.Arcs
