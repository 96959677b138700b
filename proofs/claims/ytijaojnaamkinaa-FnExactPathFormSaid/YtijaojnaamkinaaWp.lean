/- WalkProblem: read, owned; the contracts of the laws' helpers on it. -/
import Derived.Test.YtijaojnaamkinaaStr
namespace Go.Proofs.Ytijaojnaamkinaa
open Go.RowKit
set_option linter.unusedSimpArgs false
set_option linter.unusedVariables false

structure WP where
  labels : Int
  arcs : List (List Int)
def RdW (w : World) (v : Value) (x : WP) : Prop := ∃ v1, v = .agg #[.int .i64 x.labels, v1] ∧ IntRows w v1 x.arcs
def OwW (B C : Nat) (w : World) (v : Value) (x : WP) : Prop := ∃ v1, v = .agg #[.int .i64 x.labels, v1] ∧ ∃ M0 M1, B ≤ M0 ∧ M0 ≤ M1 ∧ M1 ≤ C ∧ OwM M0 M1 w v1 x.arcs
def szW (x : WP) : Nat := tot x.arcs
section
variable {B C B' C' : Nat} {w w' : World} {v : Value} {x : WP}
theorem RdW.keep (h : RdW w v x) (k : Keeps w w') : RdW w' v x := by obtain ⟨v1, e, h1⟩ := h; exact ⟨v1, e, h1.keep k⟩
theorem OwW.rd (h : OwW B C w v x) : RdW w v x := by obtain ⟨v1, e, M0, M1, l0, l1, l2, h1⟩ := h; exact ⟨v1, e, h1.rows⟩
theorem OwW.keep (h : OwW B C w v x) (k : Keeps w w') : OwW B C w' v x := by obtain ⟨v1, e, M0, M1, l0, l1, l2, h1⟩ := h; exact ⟨v1, e, M0, M1, l0, l1, l2, h1.keep k⟩
theorem OwW.chg (h : OwW B C w v x) (c : Chg B' C' w w') (hd : C ≤ B' ∨ C' ≤ B) : OwW B C w' v x := by obtain ⟨v1, e, M0, M1, l0, l1, l2, h1⟩ := h; exact ⟨v1, e, M0, M1, l0, l1, l2, h1.chg c (by omega)⟩
theorem OwW.mono (h : OwW B C w v x) (hB : B' ≤ B) (hC : C ≤ C') : OwW B' C' w v x := by obtain ⟨v1, e, M0, M1, l0, l1, l2, h1⟩ := h; exact ⟨v1, e, M0, M1, by omega, by omega, by omega, h1⟩
theorem OwW.low (h : OwW B C w v x) (hB : B' ≤ B) : OwW B' C w v x := h.mono hB (Nat.le_refl _)
theorem RdW.shape (h : RdW w v x) : ∃ a1 c1, v = .agg #[.int .i64 x.labels, .slice a1 x.arcs.length c1] := by
  obtain ⟨v1, rfl, h1⟩ := h
  obtain ⟨a1, c1, rfl, _⟩ := h1.form
  exact ⟨_, _, rfl⟩
end



set_option maxHeartbeats 800000 in
theorem eqWalkProblem_same (va vb : Value) (x : WP) (w : World) (ha : RdW w va x) (hb : RdW w vb x) :
    Calls Try.prog 28 #[va, vb] w fun e w' => e = .returned (.bool true) ∧ Keeps w w' := by
  obtain ⟨v1, rfl, r1⟩ := ha
  obtain ⟨u1, rfl, s1⟩ := hb
  have R1 := Lib.hid r1
  have S1 := Lib.hid s1
  obtain ⟨a1, c1, rfl, _⟩ := r1.form
  obtain ⟨b1, d1, rfl, _⟩ := s1.form
  have e0 : (x.labels != x.labels) = false := by simp
  clear r1 s1
  go_enter Try.func28, Try.ntmps28
  go_wp2_with fail
  refine (eqIntSS_any _ _ x.arcs x.arcs _ (R1.out.keep (by repeat (first | exact Keeps.refl _ | with_reducible refine Keeps.alloc ?_ _))) (S1.out.keep (by repeat (first | exact Keeps.refl _ | with_reducible refine Keeps.alloc ?_ _)))).mono ?_
  rintro e W0 ⟨rfl, hD⟩
  rw [decide_eq_true rfl]
  have HK0 : Hid (Keeps w W0) := Keeps.trans (by repeat (first | exact Keeps.refl _ | with_reducible refine Keeps.alloc ?_ _)) hD.keeps
  obtain ⟨hc0, hf0⟩ := bcell hD.keeps
  have hz0 := hD.keeps.size
  clear hD
  go_wp2
  go_ret
  exact ⟨rfl, HK0.out⟩

/-- How many numbers lie in it. -/
def cntW (x : WP) : Nat := off x.arcs x.arcs.length
/-- It, its numbers replaced by k, k + 1, .. -/
def numW (k : Int) (x : WP) : WP := ⟨x.labels, numbered (k) x.arcs x.arcs.length⟩
theorem cntW_le (x : WP) : cntW x ≤ szW x := by unfold cntW szW tot; omega
set_option maxHeartbeats 800000 in
theorem markWalkProblem_any (B C : Nat) (v : Value) (x : WP) (k : Int) (w : World) (h : OwW B C w v x) (hC : C ≤ w.heap.size) (hk : 0 ≤ k) (hk2 : k + szW x ≤ 4611686018427387904) :
    Calls Try.prog 31 #[v, .int .i64 k] w fun e w' => e = .returned (.int .i64 (k + cntW x)) ∧ OwW B C w' v (numW k x) ∧ Chg B C w w' := by
  obtain ⟨v1, rfl, M0, M1, l0, l1, l2, o1⟩ := h
  have HX : Hid (cntW x = off x.arcs x.arcs.length) := rfl
  unfold szW tot at hk2
  have O1 := Lib.hid o1
  obtain ⟨a1, c1, rfl, _⟩ := o1.rows.form
  clear o1
  go_enter Try.func31, Try.ntmps31
  go_wp2_with fail
  refine (markIntSS_any M0 M1 _ x.arcs (k) _ (O1.out.keep (by repeat (first | exact Keeps.refl _ | with_reducible refine Keeps.alloc ?_ _))) (by omega) (by unfold tot; omega)).mono ?_
  rintro e W0 ⟨rfl, hO, hG⟩
  have N1 := Lib.hid hO
  have G0 : Hid (Chg B C w W0) := (Keeps.chg (by repeat (first | exact Keeps.refl _ | with_reducible refine Keeps.alloc ?_ _)) B C).trans (hG.mono (by omega) (by omega))
  have hsz0 := hG.size
  have hcc : ∀ i, W0.cell? ⟨w.heap.size, i, none⟩ = (w.alloc (.cells #[.int .i64 x.labels, .slice a1 x.arcs.length c1] 46)).cell? ⟨w.heap.size, i, none⟩ := fun i => World.cell?_of_block (hG.block w.heap.size (by simp) (by omega))
  clear hO hG
  go_wp2
  go_ret
  exact ⟨ret_int (by rw [HX.out]; (try omega)), ⟨_, rfl, M0, M1, l0, l1, l2, N1.out⟩, G0.out⟩

set_option maxHeartbeats 800000 in
theorem heldWalkProblem_any (v : Value) (x : WP) (k : Int) (w : World) (h : RdW w v (numW k x)) (hk : 0 ≤ k) (hk2 : k + szW x ≤ 4611686018427387904) :
    Calls Try.prog 32 #[v, .int .i64 k] w fun e w' => e = .returned (.int .i64 (k + cntW x)) ∧ Keeps w w' := by
  obtain ⟨v1, rfl, r1⟩ := h
  have HX : Hid (cntW x = off x.arcs x.arcs.length) := rfl
  unfold szW tot at hk2
  simp only [numW] at r1 ⊢
  have R1 := Lib.hid r1
  obtain ⟨a1, c1, rfl, _⟩ := r1.form
  simp only [numbered_length, iota_length] at R1 ⊢
  clear r1
  have hn0 : ¬ k + (off x.arcs x.arcs.length : Nat) < 0 := by omega
  go_enter Try.func32, Try.ntmps32
  go_wp2_with fail
  refine (heldIntSS_any _ x.arcs (k) _ (R1.out.keep (by repeat (first | exact Keeps.refl _ | with_reducible refine Keeps.alloc ?_ _))) (by omega) (by unfold tot; omega)).mono ?_
  rintro e W0 ⟨rfl, rfl⟩
  go_wp2
  go_ret
  exact ⟨ret_int (by rw [HX.out]; (try omega)), (by repeat (first | exact Keeps.refl _ | with_reducible refine Keeps.alloc ?_ _))⟩
end Go.Proofs.Ytijaojnaamkinaa
