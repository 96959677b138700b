/- Problem: read, owned; the contracts of the laws' helpers on it. -/
import Derived.Test.YtiejigogmnkjdaaStr
namespace Go.Proofs.Ytiejigogmnkjdaa
open Go.RowKit
set_option linter.unusedSimpArgs false
set_option linter.unusedVariables false

structure PR where
  labels : Int
  degree : Int
  nodes : List (List Int)
  edges : List (List Int)
def RdP (w : World) (v : Value) (x : PR) : Prop := ∃ v2 v3, v = .agg #[.int .i64 x.labels, .int .i64 x.degree, v2, v3] ∧ IntRows w v2 x.nodes ∧ IntRows w v3 x.edges
def OwP (B C : Nat) (w : World) (v : Value) (x : PR) : Prop := ∃ v2 v3, v = .agg #[.int .i64 x.labels, .int .i64 x.degree, v2, v3] ∧ ∃ M0 M1 M2, B ≤ M0 ∧ M0 ≤ M1 ∧ M1 ≤ M2 ∧ M2 ≤ C ∧ OwM M0 M1 w v2 x.nodes ∧ OwM M1 M2 w v3 x.edges
def szP (x : PR) : Nat := tot x.nodes + tot x.edges
section
variable {B C B' C' : Nat} {w w' : World} {v : Value} {x : PR}
theorem RdP.keep (h : RdP w v x) (k : Keeps w w') : RdP w' v x := by obtain ⟨v2, v3, e, h2, h3⟩ := h; exact ⟨v2, v3, e, h2.keep k, h3.keep k⟩
theorem OwP.rd (h : OwP B C w v x) : RdP w v x := by obtain ⟨v2, v3, e, M0, M1, M2, l0, l1, l2, l3, h2, h3⟩ := h; exact ⟨v2, v3, e, h2.rows, h3.rows⟩
theorem OwP.keep (h : OwP B C w v x) (k : Keeps w w') : OwP B C w' v x := by obtain ⟨v2, v3, e, M0, M1, M2, l0, l1, l2, l3, h2, h3⟩ := h; exact ⟨v2, v3, e, M0, M1, M2, l0, l1, l2, l3, h2.keep k, h3.keep k⟩
theorem OwP.chg (h : OwP B C w v x) (c : Chg B' C' w w') (hd : C ≤ B' ∨ C' ≤ B) : OwP B C w' v x := by obtain ⟨v2, v3, e, M0, M1, M2, l0, l1, l2, l3, h2, h3⟩ := h; exact ⟨v2, v3, e, M0, M1, M2, l0, l1, l2, l3, h2.chg c (by omega), h3.chg c (by omega)⟩
theorem OwP.mono (h : OwP B C w v x) (hB : B' ≤ B) (hC : C ≤ C') : OwP B' C' w v x := by obtain ⟨v2, v3, e, M0, M1, M2, l0, l1, l2, l3, h2, h3⟩ := h; exact ⟨v2, v3, e, M0, M1, M2, by omega, by omega, by omega, by omega, h2, h3⟩
theorem OwP.low (h : OwP B C w v x) (hB : B' ≤ B) : OwP B' C w v x := h.mono hB (Nat.le_refl _)
theorem RdP.shape (h : RdP w v x) : ∃ a2 c2 a3 c3, v = .agg #[.int .i64 x.labels, .int .i64 x.degree, .slice a2 x.nodes.length c2, .slice a3 x.edges.length c3] := by
  obtain ⟨v2, v3, rfl, h2, h3⟩ := h
  obtain ⟨a2, c2, rfl, _⟩ := h2.form
  obtain ⟨a3, c3, rfl, _⟩ := h3.form
  exact ⟨_, _, _, _, rfl⟩
end

set_option maxHeartbeats 800000 in
theorem szProblem_any (v : Value) (x : PR) (left : Int) (w : World) (h : RdP w v x) (h0 : 0 ≤ left) (h1 : left ≤ 1048576) :
    Calls Try.prog 15 #[v, .int .i64 left] w fun e w' => e = .returned (.int .i64 (szL left (szP x))) ∧ Keeps w w' := by
  obtain ⟨v2, v3, rfl, r2, r3⟩ := h
  have R2 := Lib.hid r2
  have R3 := Lib.hid r3
  obtain ⟨a2, c2, rfl, _⟩ := r2.form
  obtain ⟨a3, c3, rfl, _⟩ := r3.form
  have HX : Hid (szP x = tot x.nodes + tot x.edges) := rfl
  clear r2 r3
  generalize hs0 : tot x.nodes = s0 at HX
  have HS0 := Lib.hid hs0
  clear hs0
  generalize hs1 : tot x.edges = s1 at HX
  have HS1 := Lib.hid hs1
  clear hs1
  by_cases hb0 : (s0 : Int) ≤ left
  case neg =>
    have hb0' : left < (s0 : Int) := by omega
    go_enter Try.func15, Try.ntmps15
    go_wp2_with fail
    refine (szIntSS_any _ x.nodes left _ (R2.out.keep (by repeat (first | exact Keeps.refl _ | with_reducible refine Keeps.alloc ?_ _))) (by omega) (by omega)).mono ?_
    rintro e w' ⟨rfl, rfl⟩
    rw [show tot x.nodes = s0 from HS0.out]
    rw [szL, if_neg (show ¬ (s0 : Int) ≤ left by omega)]
    go_wp2
    go_ret
    exact ⟨ret_int (by rw [HX.out, szL, if_neg (by omega)]), (by repeat (first | exact Keeps.refl _ | with_reducible refine Keeps.alloc ?_ _))⟩
  by_cases hb1 : (s0 : Int) + (s1 : Int) ≤ left
  case neg =>
    have hb1' : left < (s0 : Int) + (s1 : Int) := by omega
    have hn0 : ¬ left - (s0 : Int) < 0 := by omega
    go_enter Try.func15, Try.ntmps15
    go_wp2_with fail
    refine (szIntSS_any _ x.nodes left _ (R2.out.keep (by repeat (first | exact Keeps.refl _ | with_reducible refine Keeps.alloc ?_ _))) (by omega) (by omega)).mono ?_
    rintro e w' ⟨rfl, rfl⟩
    rw [show tot x.nodes = s0 from HS0.out]
    rw [szL, if_pos (show (s0 : Int) ≤ left by omega)]
    go_wp2_with fail
    refine (szIntSS_any _ x.edges (left - (s0 : Int)) _ (R3.out.keep (by repeat (first | exact Keeps.refl _ | with_reducible refine Keeps.alloc ?_ _))) (by omega) (by omega)).mono ?_
    rintro e w' ⟨rfl, rfl⟩
    rw [show tot x.edges = s1 from HS1.out]
    rw [szL, if_neg (show ¬ (s1 : Int) ≤ (left - (s0 : Int)) by omega)]
    go_wp2
    go_ret
    exact ⟨ret_int (by rw [HX.out, szL, if_neg (by omega)]), (by repeat (first | exact Keeps.refl _ | with_reducible refine Keeps.alloc ?_ _))⟩
  have hn0 : ¬ left - (s0 : Int) < 0 := by omega
  have hn1 : ¬ left - (s0 : Int) - (s1 : Int) < 0 := by omega
  go_enter Try.func15, Try.ntmps15
  go_wp2_with fail
  refine (szIntSS_any _ x.nodes left _ (R2.out.keep (by repeat (first | exact Keeps.refl _ | with_reducible refine Keeps.alloc ?_ _))) (by omega) (by omega)).mono ?_
  rintro e w' ⟨rfl, rfl⟩
  rw [show tot x.nodes = s0 from HS0.out]
  rw [szL, if_pos (show (s0 : Int) ≤ left by omega)]
  go_wp2_with fail
  refine (szIntSS_any _ x.edges (left - (s0 : Int)) _ (R3.out.keep (by repeat (first | exact Keeps.refl _ | with_reducible refine Keeps.alloc ?_ _))) (by omega) (by omega)).mono ?_
  rintro e w' ⟨rfl, rfl⟩
  rw [show tot x.edges = s1 from HS1.out]
  rw [szL, if_pos (show (s1 : Int) ≤ (left - (s0 : Int)) by omega)]
  go_wp2
  go_ret
  exact ⟨ret_int (by rw [HX.out, szL, if_pos (by omega)]; (try omega)), (by repeat (first | exact Keeps.refl _ | with_reducible refine Keeps.alloc ?_ _))⟩

set_option maxHeartbeats 800000 in
theorem toProblem_any (v : Value) (x : PR) (w : World) (h : RdP w v x) (hs : szP x ≤ 1048576) :
    Calls Try.prog 17 #[v] w fun e w' => ∃ r, e = .returned r ∧ OwP w.heap.size w'.heap.size w' r x ∧ Keeps w w' := by
  obtain ⟨v2, v3, rfl, r2, r3⟩ := h
  have R2 := Lib.hid r2
  have R3 := Lib.hid r3
  obtain ⟨a2, c2, rfl, _⟩ := r2.form
  obtain ⟨a3, c3, rfl, _⟩ := r3.form
  unfold szP at hs
  clear r2 r3
  go_enter Try.func17, Try.ntmps17
  go_wp2_with fail
  refine (toIntSS_any _ x.nodes _ (R2.out.keep (by repeat (first | exact Keeps.refl _ | with_reducible refine Keeps.alloc ?_ _))) (by omega)).mono ?_
  rintro e W0 ⟨t0, rfl, hO, hK⟩
  have HO0 := Lib.hid (OwM.mono hO (show w.heap.size + 3 ≤ _ by simp [size_setCell]) (Nat.le_refl _))
  have HK0 : Hid (Keeps w W0) := Keeps.trans (by repeat (first | exact Keeps.refl _ | with_reducible refine Keeps.alloc ?_ _)) hK
  have hz0 : w.heap.size + 3 ≤ W0.heap.size := by have := hK.size; simp [size_setCell] at this; omega
  obtain ⟨hc0, hf0⟩ := bcell hK
  obtain ⟨ta0, tc0, rfl, _⟩ := hO.rows.form
  have e0 : W0.cell? ⟨w.heap.size + 1 + 1, 0, none⟩ = some (.int .i64 x.labels) := by rw [hc0 _ _ (by simp)]; simp [go_sem]
  have e1 : W0.cell? ⟨w.heap.size + 1 + 1, 1, none⟩ = some (.int .i64 x.degree) := by rw [hc0 _ _ (by simp)]; simp [go_sem]
  have e3 : W0.cell? ⟨w.heap.size + 1 + 1, 3, none⟩ = some (.slice none 0 0) := by rw [hc0 _ _ (by simp)]; simp [go_sem]
  have ef : ∀ o, W0.frozen? ⟨w.heap.size + 1 + 1, o, none⟩ = false := fun o => by rw [hf0 _ _ (by simp)]; simp [go_sem]
  clear hO hK
  go_wp2_with fail
  refine (toIntSS_any _ x.edges _ (R3.out.keep (by repeat (first | exact HK0.out | with_reducible refine Below.setCell ?_ (by simp; omega) _))) (by omega)).mono ?_
  rintro e W1 ⟨t1, rfl, hO, hK⟩
  have HO1 := Lib.hid (OwM.mono hO (show W0.heap.size ≤ _ by simp [size_setCell]) (Nat.le_refl _))
  have HK1 : Hid (Keeps w W1) := Keeps.trans (by repeat (first | exact HK0.out | with_reducible refine Below.setCell ?_ (by simp; omega) _)) hK
  have HO0' := Lib.hid (OwM.keep (OwM.setC HO0.out (by omega) _ _) hK)
  clear HO0
  have HO0 := HO0'
  clear HO0'
  have hz1 : W0.heap.size ≤ W1.heap.size := by have := hK.size; simp [size_setCell] at this; omega
  obtain ⟨hc, hf⟩ := bcell hK
  have hlt : w.heap.size + 1 + 1 < (W0.setCell ⟨w.heap.size + 1 + 1, 2, none⟩ (.slice ta0 x.nodes.length tc0)).heap.size := by simp only [size_setCell]; omega
  have d2' : W0.cell? ⟨w.heap.size + 1 + 1, 2, none⟩ = some (.slice none 0 0) := by rw [hc0 _ _ (by simp)]; simp [go_sem]
  have d0 : W1.cell? ⟨w.heap.size + 1 + 1, 0, none⟩ = some (.int .i64 x.labels) := by rw [hc _ _ hlt, World.cell?_setCell_other _ _ _ _ (by intro h; injection h with h1 h2; cases h2), e0]
  have d1 : W1.cell? ⟨w.heap.size + 1 + 1, 1, none⟩ = some (.int .i64 x.degree) := by rw [hc _ _ hlt, World.cell?_setCell_other _ _ _ _ (by intro h; injection h with h1 h2; cases h2), e1]
  have d2 : W1.cell? ⟨w.heap.size + 1 + 1, 2, none⟩ = some (.slice ta0 x.nodes.length tc0) := by rw [hc _ _ hlt, World.cell?_setCell_same _ _ _ d2']
  have d3 : W1.cell? ⟨w.heap.size + 1 + 1, 3, none⟩ = some (.slice none 0 0) := by rw [hc _ _ hlt, World.cell?_setCell_other _ _ _ _ (by intro h; injection h with h1 h2; cases h2), e3]
  have df : ∀ o, W1.frozen? ⟨w.heap.size + 1 + 1, o, none⟩ = false := fun o => by rw [hf _ _ hlt, World.frozen?_setCell, ef]
  have hlt1 : w.heap.size + 1 < (W0.setCell ⟨w.heap.size + 1 + 1, 2, none⟩ (.slice ta0 x.nodes.length tc0)).heap.size := by simp only [size_setCell]; omega
  have b0 : W1.cell? ⟨w.heap.size + 1, 0, none⟩ = some (.int .i64 0) := by rw [hc _ _ hlt1, World.cell?_setCell_other _ _ _ _ (by intro h; injection h with h1 h2; omega), hc0 _ _ (by first | (simp; done) | (simp; omega))]; simp [go_sem]
  have b1 : W1.cell? ⟨w.heap.size + 1, 1, none⟩ = some (.int .i64 0) := by rw [hc _ _ hlt1, World.cell?_setCell_other _ _ _ _ (by intro h; injection h with h1 h2; omega), hc0 _ _ (by first | (simp; done) | (simp; omega))]; simp [go_sem]
  have b2 : W1.cell? ⟨w.heap.size + 1, 2, none⟩ = some (.slice none 0 0) := by rw [hc _ _ hlt1, World.cell?_setCell_other _ _ _ _ (by intro h; injection h with h1 h2; omega), hc0 _ _ (by first | (simp; done) | (simp; omega))]; simp [go_sem]
  have b3 : W1.cell? ⟨w.heap.size + 1, 3, none⟩ = some (.slice none 0 0) := by rw [hc _ _ hlt1, World.cell?_setCell_other _ _ _ _ (by intro h; injection h with h1 h2; omega), hc0 _ _ (by first | (simp; done) | (simp; omega))]; simp [go_sem]
  have bf : ∀ o, W1.frozen? ⟨w.heap.size + 1, o, none⟩ = false := fun o => by rw [hf _ _ hlt1, World.frozen?_setCell, hf0 _ _ (by first | (simp; done) | (simp; omega))]; simp [go_sem]
  clear hc hf hc0 hf0 e0 e1 e3 ef d2'
  obtain ⟨ta1, tc1, rfl, _⟩ := hO.rows.form
  clear hO hK
  go_wp2
  refine bodyPost_ret (v := .agg #[.int .i64 x.labels, .int .i64 x.degree, .slice ta0 x.nodes.length tc0, .slice ta1 x.edges.length tc1]) (by simp [results, Try.results17, go_sem, d0, d1, d2, d3, df, b0, b1, b2, b3, bf]) rfl ⟨_, rfl, ⟨_, _, rfl, w.heap.size + 3, W0.heap.size, W1.heap.size, by omega, by omega, by omega, by simp only [size_setCell]; omega, ?_, ?_⟩, ?_⟩
  · repeat (first | exact HO0.out | with_reducible refine OwM.setC ?_ (by omega) _ _)
  · repeat (first | exact HO1.out | with_reducible refine OwM.setC ?_ (by omega) _ _)
  · repeat (first | exact HK1.out | with_reducible refine Below.setCell ?_ (by simp; try omega) _)

set_option maxHeartbeats 800000 in
theorem eqProblem_same (va vb : Value) (x : PR) (w : World) (ha : RdP w va x) (hb : RdP w vb x) :
    Calls Try.prog 20 #[va, vb] w fun e w' => e = .returned (.bool true) ∧ Keeps w w' := by
  obtain ⟨v2, v3, rfl, r2, r3⟩ := ha
  obtain ⟨u2, u3, rfl, s2, s3⟩ := hb
  have R2 := Lib.hid r2
  have R3 := Lib.hid r3
  have S2 := Lib.hid s2
  have S3 := Lib.hid s3
  obtain ⟨a2, c2, rfl, _⟩ := r2.form
  obtain ⟨a3, c3, rfl, _⟩ := r3.form
  obtain ⟨b2, d2, rfl, _⟩ := s2.form
  obtain ⟨b3, d3, rfl, _⟩ := s3.form
  have e0 : (x.labels != x.labels) = false := by simp
  have e1 : (x.degree != x.degree) = false := by simp
  clear r2 r3 s2 s3
  go_enter Try.func20, Try.ntmps20
  go_wp2_with fail
  refine (eqIntSS_any _ _ x.nodes x.nodes _ (R2.out.keep (by repeat (first | exact Keeps.refl _ | with_reducible refine Keeps.alloc ?_ _))) (S2.out.keep (by repeat (first | exact Keeps.refl _ | with_reducible refine Keeps.alloc ?_ _)))).mono ?_
  rintro e W0 ⟨rfl, hD⟩
  rw [decide_eq_true rfl]
  have HK0 : Hid (Keeps w W0) := Keeps.trans (by repeat (first | exact Keeps.refl _ | with_reducible refine Keeps.alloc ?_ _)) hD.keeps
  obtain ⟨hc0, hf0⟩ := bcell hD.keeps
  have hz0 := hD.keeps.size
  clear hD
  go_wp2_with fail
  refine (eqIntSS_any _ _ x.edges x.edges _ (R3.out.keep HK0.out) (S3.out.keep HK0.out)).mono ?_
  rintro e W1 ⟨rfl, hD⟩
  rw [decide_eq_true rfl]
  have HK1 : Hid (Keeps w W1) := Keeps.trans HK0.out hD.keeps
  obtain ⟨hc1, hf1⟩ := bcell hD.keeps
  have hz1 := hD.keeps.size
  clear hD
  go_wp2
  go_ret
  exact ⟨rfl, HK1.out⟩

/-- How many numbers lie in it. -/
def cntP (x : PR) : Nat := off x.nodes x.nodes.length + off x.edges x.edges.length
/-- It, its numbers replaced by k, k + 1, .. -/
def numP (k : Int) (x : PR) : PR := ⟨x.labels, x.degree, numbered (k) x.nodes x.nodes.length, numbered (k + (off x.nodes x.nodes.length : Nat)) x.edges x.edges.length⟩
theorem cntP_le (x : PR) : cntP x ≤ szP x := by unfold cntP szP tot; omega
set_option maxHeartbeats 800000 in
theorem markProblem_any (B C : Nat) (v : Value) (x : PR) (k : Int) (w : World) (h : OwP B C w v x) (hC : C ≤ w.heap.size) (hk : 0 ≤ k) (hk2 : k + szP x ≤ 4611686018427387904) :
    Calls Try.prog 30 #[v, .int .i64 k] w fun e w' => e = .returned (.int .i64 (k + cntP x)) ∧ OwP B C w' v (numP k x) ∧ Chg B C w w' := by
  obtain ⟨v2, v3, rfl, M0, M1, M2, l0, l1, l2, l3, o2, o3⟩ := h
  have HX : Hid (cntP x = off x.nodes x.nodes.length + off x.edges x.edges.length) := rfl
  unfold szP tot at hk2
  have O2 := Lib.hid o2
  obtain ⟨a2, c2, rfl, _⟩ := o2.rows.form
  clear o2
  have O3 := Lib.hid o3
  obtain ⟨a3, c3, rfl, _⟩ := o3.rows.form
  clear o3
  go_enter Try.func30, Try.ntmps30
  go_wp2_with fail
  refine (markIntSS_any M0 M1 _ x.nodes (k) _ (O2.out.keep (by repeat (first | exact Keeps.refl _ | with_reducible refine Keeps.alloc ?_ _))) (by omega) (by unfold tot; omega)).mono ?_
  rintro e W0 ⟨rfl, hO, hG⟩
  have N2 := Lib.hid hO
  have G0 : Hid (Chg B C w W0) := (Keeps.chg (by repeat (first | exact Keeps.refl _ | with_reducible refine Keeps.alloc ?_ _)) B C).trans (hG.mono (by omega) (by omega))
  have O3' := Lib.hid ((O3.out.keep (by repeat (first | exact Keeps.refl _ | with_reducible refine Keeps.alloc ?_ _))).chg hG (by omega))
  clear O3
  have O3 := O3'
  clear O3'
  have hsz0 := hG.size
  have hcc : ∀ i, W0.cell? ⟨w.heap.size, i, none⟩ = (w.alloc (.cells #[.int .i64 x.labels, .int .i64 x.degree, .slice a2 x.nodes.length c2, .slice a3 x.edges.length c3] 29)).cell? ⟨w.heap.size, i, none⟩ := fun i => World.cell?_of_block (hG.block w.heap.size (by simp) (by omega))
  clear hO hG
  go_wp2_with fail
  refine (markIntSS_any M1 M2 _ x.edges (k + (off x.nodes x.nodes.length : Nat)) _ (O3.out) (by omega) (by unfold tot; omega)).mono ?_
  rintro e W1 ⟨rfl, hO, hG⟩
  have N3 := Lib.hid hO
  have G1 : Hid (Chg B C w W1) := G0.out.trans (hG.mono (by omega) (by omega))
  have N2' := Lib.hid (N2.out.chg hG (by omega))
  clear N2
  have N2 := N2'
  clear N2'
  have hsz1 := hG.size
  have hcc1 : ∀ i, W1.cell? ⟨w.heap.size, i, none⟩ = W0.cell? ⟨w.heap.size, i, none⟩ := fun i => World.cell?_of_block (hG.block w.heap.size (by simp at hsz0; omega) (by omega))
  clear hO hG
  go_wp2
  go_ret
  exact ⟨ret_int (by rw [HX.out]; (try omega)), ⟨_, _, rfl, M0, M1, M2, l0, l1, l2, l3, N2.out, N3.out⟩, G1.out⟩

end Go.Proofs.Ytiejigogmnkjdaa
