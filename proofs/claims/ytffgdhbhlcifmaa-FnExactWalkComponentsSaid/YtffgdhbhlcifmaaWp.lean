/- WalkProblem: read, owned; the contracts of the laws' helpers on it. -/
import Derived.Test.YtffgdhbhlcifmaaStr
namespace Go.Proofs.Ytffgdhbhlcifmaa
open Go.RowKit
set_option linter.unusedSimpArgs false
set_option linter.unusedVariables false

structure WP where
  labels : Int
  arcs : List (List Int)
def RdW (w : World) (v : Value) (x : WP) : Prop := ∃ v1, v = .agg #[.int .i64 x.labels, v1] ∧ IntRows w v1 x.arcs
def OwW (B C : Nat) (w : World) (v : Value) (x : WP) : Prop := ∃ v1, v = .agg #[.int .i64 x.labels, v1] ∧ ∃ M0 M1, B ≤ M0 ∧ M0 ≤ M1 ∧ M1 ≤ C ∧ OwM M0 M1 w v1 x.arcs
def szW (x : WP) : Nat := tot x.arcs
section
variable {B C B' C' : Nat} {w w' : World} {v : Value} {x : WP}
theorem RdW.keep (h : RdW w v x) (k : Keeps w w') : RdW w' v x := by obtain ⟨v1, e, h1⟩ := h; exact ⟨v1, e, h1.keep k⟩
theorem OwW.rd (h : OwW B C w v x) : RdW w v x := by obtain ⟨v1, e, M0, M1, l0, l1, l2, h1⟩ := h; exact ⟨v1, e, h1.rows⟩
theorem OwW.keep (h : OwW B C w v x) (k : Keeps w w') : OwW B C w' v x := by obtain ⟨v1, e, M0, M1, l0, l1, l2, h1⟩ := h; exact ⟨v1, e, M0, M1, l0, l1, l2, h1.keep k⟩
theorem OwW.chg (h : OwW B C w v x) (c : Chg B' C' w w') (hd : C ≤ B' ∨ C' ≤ B) : OwW B C w' v x := by obtain ⟨v1, e, M0, M1, l0, l1, l2, h1⟩ := h; exact ⟨v1, e, M0, M1, l0, l1, l2, h1.chg c (by omega)⟩
theorem OwW.mono (h : OwW B C w v x) (hB : B' ≤ B) (hC : C ≤ C') : OwW B' C' w v x := by obtain ⟨v1, e, M0, M1, l0, l1, l2, h1⟩ := h; exact ⟨v1, e, M0, M1, by omega, by omega, by omega, h1⟩
theorem OwW.low (h : OwW B C w v x) (hB : B' ≤ B) : OwW B' C w v x := h.mono hB (Nat.le_refl _)
theorem RdW.shape (h : RdW w v x) : ∃ a1 c1, v = .agg #[.int .i64 x.labels, .slice a1 x.arcs.length c1] := by
  obtain ⟨v1, rfl, h1⟩ := h
  obtain ⟨a1, c1, rfl, _⟩ := h1.form
  exact ⟨_, _, rfl⟩
end

set_option maxHeartbeats 800000 in
theorem szWalkProblem_any (v : Value) (x : WP) (left : Int) (w : World) (h : RdW w v x) (h0 : 0 ≤ left) (h1 : left ≤ 1048576) :
    Calls Try.prog 9 #[v, .int .i64 left] w fun e w' => e = .returned (.int .i64 (szL left (szW x))) ∧ Keeps w w' := by
  obtain ⟨v1, rfl, r1⟩ := h
  have R1 := Lib.hid r1
  obtain ⟨a1, c1, rfl, _⟩ := r1.form
  have HX : Hid (szW x = tot x.arcs) := rfl
  clear r1
  generalize hs0 : tot x.arcs = s0 at HX
  have HS0 := Lib.hid hs0
  clear hs0
  by_cases hb0 : (s0 : Int) ≤ left
  case neg =>
    have hb0' : left < (s0 : Int) := by omega
    go_enter Try.func9, Try.ntmps9
    go_wp2_with fail
    refine (szIntSS_any _ x.arcs left _ (R1.out.keep (by repeat (first | exact Keeps.refl _ | with_reducible refine Keeps.alloc ?_ _))) (by omega) (by omega)).mono ?_
    rintro e w' ⟨rfl, rfl⟩
    rw [show tot x.arcs = s0 from HS0.out]
    rw [szL, if_neg (show ¬ (s0 : Int) ≤ left by omega)]
    go_wp2
    go_ret
    exact ⟨ret_int (by rw [HX.out, szL, if_neg (by omega)]), (by repeat (first | exact Keeps.refl _ | with_reducible refine Keeps.alloc ?_ _))⟩
  have hn0 : ¬ left - (s0 : Int) < 0 := by omega
  go_enter Try.func9, Try.ntmps9
  go_wp2_with fail
  refine (szIntSS_any _ x.arcs left _ (R1.out.keep (by repeat (first | exact Keeps.refl _ | with_reducible refine Keeps.alloc ?_ _))) (by omega) (by omega)).mono ?_
  rintro e w' ⟨rfl, rfl⟩
  rw [show tot x.arcs = s0 from HS0.out]
  rw [szL, if_pos (show (s0 : Int) ≤ left by omega)]
  go_wp2
  go_ret
  exact ⟨ret_int (by rw [HX.out, szL, if_pos (by omega)]; (try omega)), (by repeat (first | exact Keeps.refl _ | with_reducible refine Keeps.alloc ?_ _))⟩

set_option maxHeartbeats 800000 in
theorem toWalkProblem_any (v : Value) (x : WP) (w : World) (h : RdW w v x) (hs : szW x ≤ 1048576) :
    Calls Try.prog 11 #[v] w fun e w' => ∃ r, e = .returned r ∧ OwW w.heap.size w'.heap.size w' r x ∧ Keeps w w' := by
  obtain ⟨v1, rfl, r1⟩ := h
  have R1 := Lib.hid r1
  obtain ⟨a1, c1, rfl, _⟩ := r1.form
  unfold szW at hs
  clear r1
  go_enter Try.func11, Try.ntmps11
  go_wp2_with fail
  refine (toIntSS_any _ x.arcs _ (R1.out.keep (by repeat (first | exact Keeps.refl _ | with_reducible refine Keeps.alloc ?_ _))) (by omega)).mono ?_
  rintro e W0 ⟨t0, rfl, hO, hK⟩
  have HO0 := Lib.hid (OwM.mono hO (show w.heap.size + 3 ≤ _ by simp [size_setCell]) (Nat.le_refl _))
  have HK0 : Hid (Keeps w W0) := Keeps.trans (by repeat (first | exact Keeps.refl _ | with_reducible refine Keeps.alloc ?_ _)) hK
  have hz0 : w.heap.size + 3 ≤ W0.heap.size := by have := hK.size; simp [size_setCell] at this; omega
  obtain ⟨hc, hf⟩ := bcell hK
  obtain ⟨ta0, tc0, rfl, _⟩ := hO.rows.form
  clear hO hK
  go_wp2
  refine bodyPost_ret (v := .agg #[.int .i64 x.labels, .slice ta0 x.arcs.length tc0]) (by simp [results, Try.results11, go_sem, hc, hf]) rfl ⟨_, rfl, ⟨_, rfl, w.heap.size + 3, W0.heap.size, by omega, by omega, by simp only [size_setCell]; omega, ?_⟩, ?_⟩
  · repeat (first | exact HO0.out | with_reducible refine OwM.setC ?_ (by omega) _ _)
  · repeat (first | exact HK0.out | with_reducible refine Below.setCell ?_ (by simp; try omega) _)

set_option maxHeartbeats 800000 in
theorem eqWalkProblem_same (va vb : Value) (x : WP) (w : World) (ha : RdW w va x) (hb : RdW w vb x) :
    Calls Try.prog 15 #[va, vb] w fun e w' => e = .returned (.bool true) ∧ Keeps w w' := by
  obtain ⟨v1, rfl, r1⟩ := ha
  obtain ⟨u1, rfl, s1⟩ := hb
  have R1 := Lib.hid r1
  have S1 := Lib.hid s1
  obtain ⟨a1, c1, rfl, _⟩ := r1.form
  obtain ⟨b1, d1, rfl, _⟩ := s1.form
  have e0 : (x.labels != x.labels) = false := by simp
  clear r1 s1
  go_enter Try.func15, Try.ntmps15
  go_wp2_with fail
  refine (eqIntSS_any _ _ x.arcs x.arcs _ (R1.out.keep (by repeat (first | exact Keeps.refl _ | with_reducible refine Keeps.alloc ?_ _))) (S1.out.keep (by repeat (first | exact Keeps.refl _ | with_reducible refine Keeps.alloc ?_ _)))).mono ?_
  rintro e W0 ⟨rfl, hD⟩
  rw [decide_eq_true rfl]
  have HK0 : Hid (Keeps w W0) := Keeps.trans (by repeat (first | exact Keeps.refl _ | with_reducible refine Keeps.alloc ?_ _)) hD.keeps
  obtain ⟨hc0, hf0⟩ := bcell hD.keeps
  have hz0 := hD.keeps.size
  clear hD
  go_wp2
  go_ret
  exact ⟨rfl, HK0.out⟩

/-- How many numbers lie in it. -/
def cntW (x : WP) : Nat := off x.arcs x.arcs.length
/-- It, its numbers replaced by k, k + 1, .. -/
def numW (k : Int) (x : WP) : WP := ⟨x.labels, numbered (k) x.arcs x.arcs.length⟩
theorem cntW_le (x : WP) : cntW x ≤ szW x := by unfold cntW szW tot; omega
set_option maxHeartbeats 800000 in
theorem markWalkProblem_any (B C : Nat) (v : Value) (x : WP) (k : Int) (w : World) (h : OwW B C w v x) (hC : C ≤ w.heap.size) (hk : 0 ≤ k) (hk2 : k + szW x ≤ 4611686018427387904) :
    Calls Try.prog 16 #[v, .int .i64 k] w fun e w' => e = .returned (.int .i64 (k + cntW x)) ∧ OwW B C w' v (numW k x) ∧ Chg B C w w' := by
  obtain ⟨v1, rfl, M0, M1, l0, l1, l2, o1⟩ := h
  have HX : Hid (cntW x = off x.arcs x.arcs.length) := rfl
  unfold szW tot at hk2
  have O1 := Lib.hid o1
  obtain ⟨a1, c1, rfl, _⟩ := o1.rows.form
  clear o1
  go_enter Try.func16, Try.ntmps16
  go_wp2_with fail
  refine (markIntSS_any M0 M1 _ x.arcs (k) _ (O1.out.keep (by repeat (first | exact Keeps.refl _ | with_reducible refine Keeps.alloc ?_ _))) (by omega) (by unfold tot; omega)).mono ?_
  rintro e W0 ⟨rfl, hO, hG⟩
  have N1 := Lib.hid hO
  have G0 : Hid (Chg B C w W0) := (Keeps.chg (by repeat (first | exact Keeps.refl _ | with_reducible refine Keeps.alloc ?_ _)) B C).trans (hG.mono (by omega) (by omega))
  have hsz0 := hG.size
  have hcc : ∀ i, W0.cell? ⟨w.heap.size, i, none⟩ = (w.alloc (.cells #[.int .i64 x.labels, .slice a1 x.arcs.length c1] 29)).cell? ⟨w.heap.size, i, none⟩ := fun i => World.cell?_of_block (hG.block w.heap.size (by simp) (by omega))
  clear hO hG
  go_wp2
  go_ret
  exact ⟨ret_int (by rw [HX.out]; (try omega)), ⟨_, rfl, M0, M1, l0, l1, l2, N1.out⟩, G0.out⟩

end Go.Proofs.Ytffgdhbhlcifmaa
