/- WalkProblem: read, owned; the contracts of the laws' helpers on it. -/
import Derived.Test.YtjmhjobfiemmnaaStr
namespace Go.Proofs.Ytjmhjobfiemmnaa
open Go.RowKit
set_option linter.unusedSimpArgs false
set_option linter.unusedVariables false

structure WP where
  labels : Int
  arcs : List (List Int)
def RdW (w : World) (v : Value) (x : WP) : Prop := ∃ v1, v = .agg #[.int .i64 x.labels, v1] ∧ IntRows w v1 x.arcs
def OwW (B C : Nat) (w : World) (v : Value) (x : WP) : Prop := ∃ v1, v = .agg #[.int .i64 x.labels, v1] ∧ ∃ M0 M1, B ≤ M0 ∧ M0 ≤ M1 ∧ M1 ≤ C ∧ OwM M0 M1 w v1 x.arcs
def szW (x : WP) : Nat := tot x.arcs
section
variable {B C B' C' : Nat} {w w' : World} {v : Value} {x : WP}
theorem RdW.keep (h : RdW w v x) (k : Keeps w w') : RdW w' v x := by obtain ⟨v1, e, h1⟩ := h; exact ⟨v1, e, h1.keep k⟩
theorem OwW.rd (h : OwW B C w v x) : RdW w v x := by obtain ⟨v1, e, M0, M1, l0, l1, l2, h1⟩ := h; exact ⟨v1, e, h1.rows⟩
theorem OwW.keep (h : OwW B C w v x) (k : Keeps w w') : OwW B C w' v x := by obtain ⟨v1, e, M0, M1, l0, l1, l2, h1⟩ := h; exact ⟨v1, e, M0, M1, l0, l1, l2, h1.keep k⟩
theorem OwW.chg (h : OwW B C w v x) (c : Chg B' C' w w') (hd : C ≤ B' ∨ C' ≤ B) : OwW B C w' v x := by obtain ⟨v1, e, M0, M1, l0, l1, l2, h1⟩ := h; exact ⟨v1, e, M0, M1, l0, l1, l2, h1.chg c (by omega)⟩
theorem OwW.mono (h : OwW B C w v x) (hB : B' ≤ B) (hC : C ≤ C') : OwW B' C' w v x := by obtain ⟨v1, e, M0, M1, l0, l1, l2, h1⟩ := h; exact ⟨v1, e, M0, M1, by omega, by omega, by omega, h1⟩
theorem OwW.low (h : OwW B C w v x) (hB : B' ≤ B) : OwW B' C w v x := h.mono hB (Nat.le_refl _)
theorem RdW.shape (h : RdW w v x) : ∃ a1 c1, v = .agg #[.int .i64 x.labels, .slice a1 x.arcs.length c1] := by
  obtain ⟨v1, rfl, h1⟩ := h
  obtain ⟨a1, c1, rfl, _⟩ := h1.form
  exact ⟨_, _, rfl⟩
end




/-- How many numbers lie in it. -/
def cntW (x : WP) : Nat := off x.arcs x.arcs.length
/-- It, its numbers replaced by k, k + 1, .. -/
def numW (k : Int) (x : WP) : WP := ⟨x.labels, numbered (k) x.arcs x.arcs.length⟩
theorem cntW_le (x : WP) : cntW x ≤ szW x := by unfold cntW szW tot; omega

end Go.Proofs.Ytjmhjobfiemmnaa
