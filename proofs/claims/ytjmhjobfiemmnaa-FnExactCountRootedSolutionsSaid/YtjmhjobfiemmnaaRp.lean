/- RootedProblem: read, owned; the contracts of the laws' helpers on it. -/
import Derived.Test.YtjmhjobfiemmnaaStr
namespace Go.Proofs.Ytjmhjobfiemmnaa
open Go.RowKit
set_option linter.unusedSimpArgs false
set_option linter.unusedVariables false

structure RP where
  labels : Int
  children : Int
  lines : List (List Int)
def RdR (w : World) (v : Value) (x : RP) : Prop := ∃ v2, v = .agg #[.int .i64 x.labels, .int .i64 x.children, v2] ∧ IntRows w v2 x.lines
def OwR (B C : Nat) (w : World) (v : Value) (x : RP) : Prop := ∃ v2, v = .agg #[.int .i64 x.labels, .int .i64 x.children, v2] ∧ ∃ M0 M1, B ≤ M0 ∧ M0 ≤ M1 ∧ M1 ≤ C ∧ OwM M0 M1 w v2 x.lines
def szR (x : RP) : Nat := tot x.lines
section
variable {B C B' C' : Nat} {w w' : World} {v : Value} {x : RP}
theorem RdR.keep (h : RdR w v x) (k : Keeps w w') : RdR w' v x := by obtain ⟨v2, e, h2⟩ := h; exact ⟨v2, e, h2.keep k⟩
theorem OwR.rd (h : OwR B C w v x) : RdR w v x := by obtain ⟨v2, e, M0, M1, l0, l1, l2, h2⟩ := h; exact ⟨v2, e, h2.rows⟩
theorem OwR.keep (h : OwR B C w v x) (k : Keeps w w') : OwR B C w' v x := by obtain ⟨v2, e, M0, M1, l0, l1, l2, h2⟩ := h; exact ⟨v2, e, M0, M1, l0, l1, l2, h2.keep k⟩
theorem OwR.chg (h : OwR B C w v x) (c : Chg B' C' w w') (hd : C ≤ B' ∨ C' ≤ B) : OwR B C w' v x := by obtain ⟨v2, e, M0, M1, l0, l1, l2, h2⟩ := h; exact ⟨v2, e, M0, M1, l0, l1, l2, h2.chg c (by omega)⟩
theorem OwR.mono (h : OwR B C w v x) (hB : B' ≤ B) (hC : C ≤ C') : OwR B' C' w v x := by obtain ⟨v2, e, M0, M1, l0, l1, l2, h2⟩ := h; exact ⟨v2, e, M0, M1, by omega, by omega, by omega, h2⟩
theorem OwR.low (h : OwR B C w v x) (hB : B' ≤ B) : OwR B' C w v x := h.mono hB (Nat.le_refl _)
theorem RdR.shape (h : RdR w v x) : ∃ a2 c2, v = .agg #[.int .i64 x.labels, .int .i64 x.children, .slice a2 x.lines.length c2] := by
  obtain ⟨v2, rfl, h2⟩ := h
  obtain ⟨a2, c2, rfl, _⟩ := h2.form
  exact ⟨_, _, rfl⟩
end

set_option maxHeartbeats 800000 in
theorem szRootedProblem_any (v : Value) (x : RP) (left : Int) (w : World) (h : RdR w v x) (h0 : 0 ≤ left) (h1 : left ≤ 1048576) :
    Calls Try.prog 5 #[v, .int .i64 left] w fun e w' => e = .returned (.int .i64 (szL left (szR x))) ∧ Keeps w w' := by
  obtain ⟨v2, rfl, r2⟩ := h
  have R2 := Lib.hid r2
  obtain ⟨a2, c2, rfl, _⟩ := r2.form
  have HX : Hid (szR x = tot x.lines) := rfl
  clear r2
  generalize hs0 : tot x.lines = s0 at HX
  have HS0 := Lib.hid hs0
  clear hs0
  by_cases hb0 : (s0 : Int) ≤ left
  case neg =>
    have hb0' : left < (s0 : Int) := by omega
    go_enter Try.func5, Try.ntmps5
    go_wp2_with fail
    refine (szIntSS_any _ x.lines left _ (R2.out.keep (by repeat (first | exact Keeps.refl _ | with_reducible refine Keeps.alloc ?_ _))) (by omega) (by omega)).mono ?_
    rintro e w' ⟨rfl, rfl⟩
    rw [show tot x.lines = s0 from HS0.out]
    rw [szL, if_neg (show ¬ (s0 : Int) ≤ left by omega)]
    go_wp2
    go_ret
    exact ⟨ret_int (by rw [HX.out, szL, if_neg (by omega)]), (by repeat (first | exact Keeps.refl _ | with_reducible refine Keeps.alloc ?_ _))⟩
  have hn0 : ¬ left - (s0 : Int) < 0 := by omega
  go_enter Try.func5, Try.ntmps5
  go_wp2_with fail
  refine (szIntSS_any _ x.lines left _ (R2.out.keep (by repeat (first | exact Keeps.refl _ | with_reducible refine Keeps.alloc ?_ _))) (by omega) (by omega)).mono ?_
  rintro e w' ⟨rfl, rfl⟩
  rw [show tot x.lines = s0 from HS0.out]
  rw [szL, if_pos (show (s0 : Int) ≤ left by omega)]
  go_wp2
  go_ret
  exact ⟨ret_int (by rw [HX.out, szL, if_pos (by omega)]; (try omega)), (by repeat (first | exact Keeps.refl _ | with_reducible refine Keeps.alloc ?_ _))⟩

set_option maxHeartbeats 800000 in
theorem toRootedProblem_any (v : Value) (x : RP) (w : World) (h : RdR w v x) (hs : szR x ≤ 1048576) :
    Calls Try.prog 7 #[v] w fun e w' => ∃ r, e = .returned r ∧ OwR w.heap.size w'.heap.size w' r x ∧ Keeps w w' := by
  obtain ⟨v2, rfl, r2⟩ := h
  have R2 := Lib.hid r2
  obtain ⟨a2, c2, rfl, _⟩ := r2.form
  unfold szR at hs
  clear r2
  go_enter Try.func7, Try.ntmps7
  go_wp2_with fail
  refine (toIntSS_any _ x.lines _ (R2.out.keep (by repeat (first | exact Keeps.refl _ | with_reducible refine Keeps.alloc ?_ _))) (by omega)).mono ?_
  rintro e W0 ⟨t0, rfl, hO, hK⟩
  have HO0 := Lib.hid (OwM.mono hO (show w.heap.size + 3 ≤ _ by simp [size_setCell]) (Nat.le_refl _))
  have HK0 : Hid (Keeps w W0) := Keeps.trans (by repeat (first | exact Keeps.refl _ | with_reducible refine Keeps.alloc ?_ _)) hK
  have hz0 : w.heap.size + 3 ≤ W0.heap.size := by have := hK.size; simp [size_setCell] at this; omega
  obtain ⟨hc, hf⟩ := bcell hK
  obtain ⟨ta0, tc0, rfl, _⟩ := hO.rows.form
  clear hO hK
  go_wp2
  refine bodyPost_ret (v := .agg #[.int .i64 x.labels, .int .i64 x.children, .slice ta0 x.lines.length tc0]) (by simp [results, Try.results7, go_sem, hc, hf]) rfl ⟨_, rfl, ⟨_, rfl, w.heap.size + 3, W0.heap.size, by omega, by omega, by simp only [size_setCell]; omega, ?_⟩, ?_⟩
  · repeat (first | exact HO0.out | with_reducible refine OwM.setC ?_ (by omega) _ _)
  · repeat (first | exact HK0.out | with_reducible refine Below.setCell ?_ (by simp; try omega) _)

set_option maxHeartbeats 800000 in
theorem eqRootedProblem_same (va vb : Value) (x : RP) (w : World) (ha : RdR w va x) (hb : RdR w vb x) :
    Calls Try.prog 10 #[va, vb] w fun e w' => e = .returned (.bool true) ∧ Keeps w w' := by
  obtain ⟨v2, rfl, r2⟩ := ha
  obtain ⟨u2, rfl, s2⟩ := hb
  have R2 := Lib.hid r2
  have S2 := Lib.hid s2
  obtain ⟨a2, c2, rfl, _⟩ := r2.form
  obtain ⟨b2, d2, rfl, _⟩ := s2.form
  have e0 : (x.labels != x.labels) = false := by simp
  have e1 : (x.children != x.children) = false := by simp
  clear r2 s2
  go_enter Try.func10, Try.ntmps10
  go_wp2_with fail
  refine (eqIntSS_any _ _ x.lines x.lines _ (R2.out.keep (by repeat (first | exact Keeps.refl _ | with_reducible refine Keeps.alloc ?_ _))) (S2.out.keep (by repeat (first | exact Keeps.refl _ | with_reducible refine Keeps.alloc ?_ _)))).mono ?_
  rintro e W0 ⟨rfl, hD⟩
  rw [decide_eq_true rfl]
  have HK0 : Hid (Keeps w W0) := Keeps.trans (by repeat (first | exact Keeps.refl _ | with_reducible refine Keeps.alloc ?_ _)) hD.keeps
  obtain ⟨hc0, hf0⟩ := bcell hD.keeps
  have hz0 := hD.keeps.size
  clear hD
  go_wp2
  go_ret
  exact ⟨rfl, HK0.out⟩

/-- How many numbers lie in it. -/
def cntR (x : RP) : Nat := off x.lines x.lines.length
/-- It, its numbers replaced by k, k + 1, .. -/
def numR (k : Int) (x : RP) : RP := ⟨x.labels, x.children, numbered (k) x.lines x.lines.length⟩
theorem cntR_le (x : RP) : cntR x ≤ szR x := by unfold cntR szR tot; omega
set_option maxHeartbeats 800000 in
theorem markRootedProblem_any (B C : Nat) (v : Value) (x : RP) (k : Int) (w : World) (h : OwR B C w v x) (hC : C ≤ w.heap.size) (hk : 0 ≤ k) (hk2 : k + szR x ≤ 4611686018427387904) :
    Calls Try.prog 14 #[v, .int .i64 k] w fun e w' => e = .returned (.int .i64 (k + cntR x)) ∧ OwR B C w' v (numR k x) ∧ Chg B C w w' := by
  obtain ⟨v2, rfl, M0, M1, l0, l1, l2, o2⟩ := h
  have HX : Hid (cntR x = off x.lines x.lines.length) := rfl
  unfold szR tot at hk2
  have O2 := Lib.hid o2
  obtain ⟨a2, c2, rfl, _⟩ := o2.rows.form
  clear o2
  go_enter Try.func14, Try.ntmps14
  go_wp2_with fail
  refine (markIntSS_any M0 M1 _ x.lines (k) _ (O2.out.keep (by repeat (first | exact Keeps.refl _ | with_reducible refine Keeps.alloc ?_ _))) (by omega) (by unfold tot; omega)).mono ?_
  rintro e W0 ⟨rfl, hO, hG⟩
  have N2 := Lib.hid hO
  have G0 : Hid (Chg B C w W0) := (Keeps.chg (by repeat (first | exact Keeps.refl _ | with_reducible refine Keeps.alloc ?_ _)) B C).trans (hG.mono (by omega) (by omega))
  have hsz0 := hG.size
  have hcc : ∀ i, W0.cell? ⟨w.heap.size, i, none⟩ = (w.alloc (.cells #[.int .i64 x.labels, .int .i64 x.children, .slice a2 x.lines.length c2] 29)).cell? ⟨w.heap.size, i, none⟩ := fun i => World.cell?_of_block (hG.block w.heap.size (by simp) (by omega))
  clear hO hG
  go_wp2
  go_ret
  exact ⟨ret_int (by rw [HX.out]; (try omega)), ⟨_, rfl, M0, M1, l0, l1, l2, N2.out⟩, G0.out⟩

end Go.Proofs.Ytjmhjobfiemmnaa
