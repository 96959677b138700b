/- The walk of laws.FnExactWalkComponents: it returns true at every input and changes nothing that was there. -/
import Derived.Test.YtffgdhbhlcifmaaWxc
import Derived.Test.YtffgdhbhlcifmaaOpen
import Derived.Deep.RegionHeld3
namespace Go.Proofs.Ytffgdhbhlcifmaa
open Go.RowKit
set_option linter.unusedSimpArgs false
set_option linter.unusedVariables false

set_option maxRecDepth 100000 in
set_option maxHeartbeats 8000000 in
theorem lawWalkComponents_small {w : World} (v0 : Value) (l0 : WP) (r0 : RdW w v0 l0) (il0 : okW l0) (s0 : szW l0 ≤ 1048576) : Calls Try.prog 3 #[v0] w fun e w' => e = .returned (.bool true) ∧ Below w.heap.size w w' := by
  have HE := Lib.hid (WalkComponents_eq l0 il0 s0)
  have R0 := Lib.hid r0
  have IL0 := Lib.hid il0
  obtain ⟨p0a1, p0c1, rfl⟩ := r0.shape
  clear r0 il0
  have K0 : Hid (Keeps w w) := Keeps.refl w
  go_enter Try.func3, Try.ntmps3
  go_wp2_with fail
  have KS1 : Hid (Keeps w (w.alloc (.cells #[.int .i64 l0.labels, .slice p0a1 l0.arcs.length p0c1] 24))) := (Keeps.refl _).alloc _
  have Z1' : Hid (w.heap.size + 1 ≤ (w.alloc (.cells #[.int .i64 l0.labels, .slice p0a1 l0.arcs.length p0c1] 24)).heap.size) := by show _ ≤ _; simp
  have E1 : (w.alloc (.cells #[.int .i64 l0.labels, .slice p0a1 l0.arcs.length p0c1] 24)).heap.size = w.heap.size + 1 := by rw [World.size_alloc]
  have c0_1 : (w.alloc (.cells #[.int .i64 l0.labels, .slice p0a1 l0.arcs.length p0c1] 24)).cell? ⟨w.heap.size, 0, none⟩ = some (.int .i64 l0.labels) := by rw [World.cell?_alloc_at _ _ _ _ rfl]; rfl
  have c1_1 : (w.alloc (.cells #[.int .i64 l0.labels, .slice p0a1 l0.arcs.length p0c1] 24)).cell? ⟨w.heap.size, 1, none⟩ = some (.slice p0a1 l0.arcs.length p0c1) := by rw [World.cell?_alloc_at _ _ _ _ rfl]; rfl
  generalize w.alloc (.cells #[.int .i64 l0.labels, .slice p0a1 l0.arcs.length p0c1] 24) = w1 at KS1 Z1' E1 c0_1 c1_1 ⊢
  have K1 : Hid (Keeps w w1) := Keeps.trans K0.out KS1.out
  have Z1 : Hid (w.heap.size ≤ w1.heap.size) := KS1.out.size
  clear E1
  refine (szWalkProblem_any _ l0 1048576 _ (R0.out.keep K1.out) (by omega) (by omega)).mono ?_
  rintro e w2 ⟨rfl, k2⟩
  rw [szL, if_pos (by omega)]
  have KS2 : Hid (Keeps w1 w2) := k2
  clear k2
  have K2 : Hid (Keeps w w2) := Keeps.trans K1.out KS2.out
  have Z2 : Hid (w1.heap.size ≤ w2.heap.size) := KS2.out.size
  have c0_2 := cell_keep KS2.out c0_1
  clear c0_1
  have c1_2 := cell_keep KS2.out c1_1
  clear c1_1
  go_wp2_with fail
  refine (toWalkProblem_any _ l0 _ (R0.out.keep K2.out) s0).mono ?_
  rintro e w3 ⟨t3, rfl, o3, k3⟩
  obtain ⟨t3a1, t3c1, rfl⟩ := o3.rd.shape
  have T3 := Lib.hid o3
  clear o3
  have KS3 : Hid (Keeps w2 w3) := k3
  clear k3
  have K3 : Hid (Keeps w w3) := Keeps.trans K2.out KS3.out
  have Z3 : Hid (w2.heap.size ≤ w3.heap.size) := KS3.out.size
  have c0_3 := cell_keep KS3.out c0_2
  clear c0_2
  have c1_3 := cell_keep KS3.out c1_2
  clear c1_2
  go_wp2_with fail
  refine (specWalkComponents_any (.agg #[.int .i64 l0.labels, .slice t3a1 l0.arcs.length t3c1]) l0 _ (T3.out.rd) IL0.out s0).mono ?_
  rintro e w4 ⟨x4, y4, rfl, o4, b4, k4⟩
  generalize fWalkComponentsSpec l0 = R at *
  generalize hL : R.getD ([], []) = L at *
  obtain ⟨L0, L1⟩ := L
  have HL := Lib.hid hL
  clear hL
  simp only at o4 b4
  have BL : tot L0 + L1.length ≤ 1000000000 := b4
  have BC := off_tot L0
  have T4 := Lib.hid o4
  clear o4 b4
  have KS4 : Hid (Keeps w3 w4) := k4
  clear k4
  have K4 : Hid (Keeps w w4) := Keeps.trans K3.out KS4.out
  have Z4 : Hid (w3.heap.size ≤ w4.heap.size) := KS4.out.size
  have T3_4 := Lib.hid (T3.out.keep KS4.out)
  clear T3
  have c0_4 := cell_keep KS4.out c0_3
  clear c0_3
  have c1_4 := cell_keep KS4.out c1_3
  clear c1_3
  go_wp2_with fail
  refine (toWalkProblem_any _ l0 _ (R0.out.keep K4.out) s0).mono ?_
  rintro e w5 ⟨t5, rfl, o5, k5⟩
  obtain ⟨t5a1, t5c1, rfl⟩ := o5.rd.shape
  have T5 := Lib.hid o5
  clear o5
  have KS5 : Hid (Keeps w4 w5) := k5
  clear k5
  have K5 : Hid (Keeps w w5) := Keeps.trans K4.out KS5.out
  have Z5 : Hid (w4.heap.size ≤ w5.heap.size) := KS5.out.size
  have T3_5 := Lib.hid (T3_4.out.keep KS5.out)
  clear T3_4
  have T4_5 := Lib.hid (T4.out.keep KS5.out)
  clear T4
  have c0_5 := cell_keep KS5.out c0_4
  clear c0_4
  have c1_5 := cell_keep KS5.out c1_4
  clear c1_4
  have pre1 : (w5.alloc (.cells #[.int .i64 l0.labels, .slice t5a1 l0.arcs.length t5c1] 29)).cell? ⟨w.heap.size, 0, none⟩ = some (.int .i64 l0.labels) := cell_keep ((Keeps.refl _).alloc _) c0_5
  have pre2 : (w5.alloc (.cells #[.int .i64 l0.labels, .slice t5a1 l0.arcs.length t5c1] 29)).cell? ⟨w.heap.size, 1, none⟩ = some (.slice p0a1 l0.arcs.length p0c1) := cell_keep ((Keeps.refl _).alloc _) c1_5
  go_wp2_with fail
  clear pre1 pre2
  have KS6 : Hid (Keeps w5 (w5.alloc (.cells #[.int .i64 l0.labels, .slice t5a1 l0.arcs.length t5c1] 29))) := (Keeps.refl _).alloc _
  have Z6' : Hid (w5.heap.size + 1 ≤ (w5.alloc (.cells #[.int .i64 l0.labels, .slice t5a1 l0.arcs.length t5c1] 29)).heap.size) := by show _ ≤ _; simp
  have E6 : (w5.alloc (.cells #[.int .i64 l0.labels, .slice t5a1 l0.arcs.length t5c1] 29)).heap.size = w5.heap.size + 1 := by rw [World.size_alloc]
  have c2_6 : (w5.alloc (.cells #[.int .i64 l0.labels, .slice t5a1 l0.arcs.length t5c1] 29)).cell? ⟨w5.heap.size, 0, none⟩ = some (.int .i64 l0.labels) := by rw [World.cell?_alloc_at _ _ _ _ rfl]; rfl
  have c3_6 : (w5.alloc (.cells #[.int .i64 l0.labels, .slice t5a1 l0.arcs.length t5c1] 29)).cell? ⟨w5.heap.size, 1, none⟩ = some (.slice t5a1 l0.arcs.length t5c1) := by rw [World.cell?_alloc_at _ _ _ _ rfl]; rfl
  generalize w5.alloc (.cells #[.int .i64 l0.labels, .slice t5a1 l0.arcs.length t5c1] 29) = w6 at KS6 Z6' E6 c2_6 c3_6 ⊢
  have K6 : Hid (Keeps w w6) := Keeps.trans K5.out KS6.out
  have Z6 : Hid (w5.heap.size ≤ w6.heap.size) := KS6.out.size
  have T3_6 := Lib.hid (T3_5.out.keep KS6.out)
  clear T3_5
  have T4_6 := Lib.hid (T4_5.out.keep KS6.out)
  clear T4_5
  have T5_6 := Lib.hid (T5.out.keep KS6.out)
  clear T5
  have c0_6 := cell_keep KS6.out c0_5
  clear c0_5
  have c1_6 := cell_keep KS6.out c1_5
  clear c1_5
  clear E6
  refine (implWalkComponents_any (.agg #[.int .i64 l0.labels, .slice t5a1 l0.arcs.length t5c1]) l0 _ (T5_6.out.rd) IL0.out s0).mono ?_
  rw [HE.out]
  rintro e w7 ⟨x7, y7, rfl, o7, b7, k7⟩
  rw [HL.out] at o7
  simp only at o7
  have T7 := Lib.hid o7
  clear o7 b7
  have KS7 : Hid (Keeps w6 w7) := k7
  clear k7
  have K7 : Hid (Keeps w w7) := Keeps.trans K6.out KS7.out
  have Z7 : Hid (w6.heap.size ≤ w7.heap.size) := KS7.out.size
  have T3_7 := Lib.hid (T3_6.out.keep KS7.out)
  clear T3_6
  have T4_7 := Lib.hid (T4_6.out.keep KS7.out)
  clear T4_6
  have T5_7 := Lib.hid (T5_6.out.keep KS7.out)
  clear T5_6
  have c0_7 := cell_keep KS7.out c0_6
  clear c0_6
  have c1_7 := cell_keep KS7.out c1_6
  clear c1_6
  have c2_7 := cell_keep KS7.out c2_6
  clear c2_6
  have c3_7 := cell_keep KS7.out c3_6
  clear c3_6
  go_wp2_with fail
  refine (eqIntSS_any x7 x4 _ _ _ (T7.out.rd0) (T4_7.out.rd0)).mono ?_
  rintro e w8 ⟨rfl, d8⟩
  have KS8 : Hid (Keeps w7 w8) := d8.keeps
  clear d8
  have K8 : Hid (Keeps w w8) := Keeps.trans K7.out KS8.out
  have Z8 : Hid (w7.heap.size ≤ w8.heap.size) := KS8.out.size
  have T3_8 := Lib.hid (T3_7.out.keep KS8.out)
  clear T3_7
  have T4_8 := Lib.hid (T4_7.out.keep KS8.out)
  clear T4_7
  have T5_8 := Lib.hid (T5_7.out.keep KS8.out)
  clear T5_7
  have T7_8 := Lib.hid (T7.out.keep KS8.out)
  clear T7
  have c0_8 := cell_keep KS8.out c0_7
  clear c0_7
  have c1_8 := cell_keep KS8.out c1_7
  clear c1_7
  have c2_8 := cell_keep KS8.out c2_7
  clear c2_7
  have c3_8 := cell_keep KS8.out c3_7
  clear c3_7
  go_wp2_with fail
  refine (eqIntS_any y7 y4 _ _ _ (T7_8.out.rd1) (T4_8.out.rd1)).mono ?_
  rintro e w9 ⟨rfl, d9⟩
  have KS9 : Hid (Keeps w8 w9) := d9.keeps
  clear d9
  have K9 : Hid (Keeps w w9) := Keeps.trans K8.out KS9.out
  have Z9 : Hid (w8.heap.size ≤ w9.heap.size) := KS9.out.size
  have T3_9 := Lib.hid (T3_8.out.keep KS9.out)
  clear T3_8
  have T4_9 := Lib.hid (T4_8.out.keep KS9.out)
  clear T4_8
  have T5_9 := Lib.hid (T5_8.out.keep KS9.out)
  clear T5_8
  have T7_9 := Lib.hid (T7_8.out.keep KS9.out)
  clear T7_8
  have c0_9 := cell_keep KS9.out c0_8
  clear c0_8
  have c1_9 := cell_keep KS9.out c1_8
  clear c1_8
  have c2_9 := cell_keep KS9.out c2_8
  clear c2_8
  have c3_9 := cell_keep KS9.out c3_8
  clear c3_8
  go_wp2_with fail
  have SK : Hid (∀ W : World, Keeps w9 W → W.cell? ⟨w.heap.size, 0, none⟩ = some (.int .i64 l0.labels) ∧ W.cell? ⟨w.heap.size, 1, none⟩ = some (.slice p0a1 l0.arcs.length p0c1) ∧ W.cell? ⟨w5.heap.size, 0, none⟩ = some (.int .i64 l0.labels) ∧ W.cell? ⟨w5.heap.size, 1, none⟩ = some (.slice t5a1 l0.arcs.length t5c1)) := fun W k => ⟨cell_keep k c0_9, cell_keep k c1_9, cell_keep k c2_9, cell_keep k c3_9⟩
  have KD : Hid (Keeps w9 w9.drew) := (Keeps.refl _).drew
  go_region_held3 (fun W => W.cell? ⟨w.heap.size, 0, none⟩ = some (.int .i64 l0.labels) ∧ W.cell? ⟨w.heap.size, 1, none⟩ = some (.slice p0a1 l0.arcs.length p0c1) ∧ W.cell? ⟨w5.heap.size, 0, none⟩ = some (.int .i64 l0.labels) ∧ W.cell? ⟨w5.heap.size, 1, none⟩ = some (.slice t5a1 l0.arcs.length t5c1)) (first | exact SK.out _ KD.out | exact SK.out _ (Keeps.trans KD.out KS10'.out) | exact SK.out _ (Keeps.trans KD.out (Keeps.trans KS10'.out KS11.out)))
    ((first
      | (go_at_call 11; refine (toWalkProblem_any _ l0 _ (R0.out.keep (Keeps.trans K9.out KD.out)) s0).mono ?_; rintro e w10 ⟨tt, rfl, o10, k10⟩; obtain ⟨t10a1, t10c1, rfl⟩ := o10.rd.shape; have T10 := Lib.hid o10; have KS10' := Lib.hid k10; clear o10 k10)
      | (go_at_call 15; refine (eqWalkProblem_same _ _ l0 _ ((T5_9.out.rd).keep (Keeps.trans KD.out KS10'.out)) T10.out.rd).mono ?_; rintro e w11 ⟨rfl, k11⟩; have KS11 := Lib.hid k11; clear k11)))
  have KS10 : Hid (Keeps w9 w10) := Keeps.trans KD.out KS10'.out
  have K10 : Hid (Keeps w w10) := Keeps.trans K9.out KS10.out
  have Z10 : Hid (w9.heap.size ≤ w10.heap.size) := KS10.out.size
  have T3_10 := Lib.hid (T3_9.out.keep KS10.out)
  clear T3_9
  have T4_10 := Lib.hid (T4_9.out.keep KS10.out)
  clear T4_9
  have T5_10 := Lib.hid (T5_9.out.keep KS10.out)
  clear T5_9
  have T7_10 := Lib.hid (T7_9.out.keep KS10.out)
  clear T7_9
  have c0_10 := cell_keep KS10.out c0_9
  clear c0_9
  have c1_10 := cell_keep KS10.out c1_9
  clear c1_9
  have c2_10 := cell_keep KS10.out c2_9
  clear c2_9
  have c3_10 := cell_keep KS10.out c3_9
  clear c3_9
  have K11 : Hid (Keeps w w11) := Keeps.trans K10.out KS11.out
  have Z11 : Hid (w10.heap.size ≤ w11.heap.size) := KS11.out.size
  have T3_11 := Lib.hid (T3_10.out.keep KS11.out)
  clear T3_10
  have T4_11 := Lib.hid (T4_10.out.keep KS11.out)
  clear T4_10
  have T5_11 := Lib.hid (T5_10.out.keep KS11.out)
  clear T5_10
  have T7_11 := Lib.hid (T7_10.out.keep KS11.out)
  clear T7_10
  have c0_11 := cell_keep KS11.out c0_10
  clear c0_10
  have c1_11 := cell_keep KS11.out c1_10
  clear c1_10
  have c2_11 := cell_keep KS11.out c2_10
  clear c2_10
  have c3_11 := cell_keep KS11.out c3_10
  clear c3_10
  clear SK KD
  go_wp2_with fail
  have CL12 := cntW_le l0
  refine (markWalkProblem_any w4.heap.size w5.heap.size _ l0 1 _ T5_11.out (by have := Z1.out; have := Z2.out; have := Z3.out; have := Z4.out; have := Z5.out; have := Z6.out; have := Z7.out; have := Z8.out; have := Z9.out; have := Z10.out; have := Z11.out; omega) (by omega) (by omega)).mono ?_
  rintro e w12 ⟨rfl, o12, g12⟩
  have G12 : Hid (Chg w4.heap.size w5.heap.size w11 w12) := g12
  have T5_12 := Lib.hid o12
  clear o12 g12 T5_11
  have Z12 : Hid (w11.heap.size ≤ w12.heap.size) := G12.out.size
  have K12 : Hid (Keeps w w12) := G12.out.keeps K11.out (by have := Z1.out; have := Z2.out; have := Z3.out; have := Z4.out; have := Z5.out; have := Z6.out; have := Z7.out; have := Z8.out; have := Z9.out; have := Z10.out; have := Z11.out; have := Z12.out; omega)
  have T3_12 := Lib.hid (T3_11.out.chg G12.out (by have := Z1.out; have := Z2.out; have := Z3.out; have := Z4.out; have := Z5.out; have := Z6.out; have := Z7.out; have := Z8.out; have := Z9.out; have := Z10.out; have := Z11.out; have := Z12.out; omega))
  clear T3_11
  have T4_12 := Lib.hid (T4_11.out.chg G12.out (by have := Z1.out; have := Z2.out; have := Z3.out; have := Z4.out; have := Z5.out; have := Z6.out; have := Z7.out; have := Z8.out; have := Z9.out; have := Z10.out; have := Z11.out; have := Z12.out; omega))
  clear T4_11
  have T7_12 := Lib.hid (T7_11.out.chg G12.out (by have := Z1.out; have := Z2.out; have := Z3.out; have := Z4.out; have := Z5.out; have := Z6.out; have := Z7.out; have := Z8.out; have := Z9.out; have := Z10.out; have := Z11.out; have := Z12.out; omega))
  clear T7_11
  have c0_12 := (World.cell?_of_block (a := ⟨w.heap.size, 0, none⟩) (G12.out.block (w.heap.size) (by have := Z1.out; have := Z2.out; have := Z3.out; have := Z4.out; have := Z5.out; have := Z6.out; have := Z7.out; have := Z8.out; have := Z9.out; have := Z10.out; have := Z11.out; have := Z12.out; have := Z1'.out; (try simp only); omega) (by have := Z1.out; have := Z2.out; have := Z3.out; have := Z4.out; have := Z5.out; have := Z6.out; have := Z7.out; have := Z8.out; have := Z9.out; have := Z10.out; have := Z11.out; have := Z12.out; have := Z1'.out; (try simp only); omega))).trans c0_11
  clear c0_11
  have c1_12 := (World.cell?_of_block (a := ⟨w.heap.size, 1, none⟩) (G12.out.block (w.heap.size) (by have := Z1.out; have := Z2.out; have := Z3.out; have := Z4.out; have := Z5.out; have := Z6.out; have := Z7.out; have := Z8.out; have := Z9.out; have := Z10.out; have := Z11.out; have := Z12.out; have := Z1'.out; (try simp only); omega) (by have := Z1.out; have := Z2.out; have := Z3.out; have := Z4.out; have := Z5.out; have := Z6.out; have := Z7.out; have := Z8.out; have := Z9.out; have := Z10.out; have := Z11.out; have := Z12.out; have := Z1'.out; (try simp only); omega))).trans c1_11
  clear c1_11
  have c2_12 := (World.cell?_of_block (a := ⟨w5.heap.size, 0, none⟩) (G12.out.block (w5.heap.size) (by have := Z1.out; have := Z2.out; have := Z3.out; have := Z4.out; have := Z5.out; have := Z6.out; have := Z7.out; have := Z8.out; have := Z9.out; have := Z10.out; have := Z11.out; have := Z12.out; have := Z6'.out; (try simp only); omega) (by have := Z1.out; have := Z2.out; have := Z3.out; have := Z4.out; have := Z5.out; have := Z6.out; have := Z7.out; have := Z8.out; have := Z9.out; have := Z10.out; have := Z11.out; have := Z12.out; have := Z6'.out; (try simp only); omega))).trans c2_11
  clear c2_11
  have c3_12 := (World.cell?_of_block (a := ⟨w5.heap.size, 1, none⟩) (G12.out.block (w5.heap.size) (by have := Z1.out; have := Z2.out; have := Z3.out; have := Z4.out; have := Z5.out; have := Z6.out; have := Z7.out; have := Z8.out; have := Z9.out; have := Z10.out; have := Z11.out; have := Z12.out; have := Z6'.out; (try simp only); omega) (by have := Z1.out; have := Z2.out; have := Z3.out; have := Z4.out; have := Z5.out; have := Z6.out; have := Z7.out; have := Z8.out; have := Z9.out; have := Z10.out; have := Z11.out; have := Z12.out; have := Z6'.out; (try simp only); omega))).trans c3_11
  clear c3_11
  go_wp2_with fail
  refine (eqIntSS_any x7 x4 _ _ _ (T7_12.out.rd0) (T4_12.out.rd0)).mono ?_
  rintro e w13 ⟨rfl, d13⟩
  have KS13 : Hid (Keeps w12 w13) := d13.keeps
  clear d13
  have K13 : Hid (Keeps w w13) := Keeps.trans K12.out KS13.out
  have Z13 : Hid (w12.heap.size ≤ w13.heap.size) := KS13.out.size
  have T3_13 := Lib.hid (T3_12.out.keep KS13.out)
  clear T3_12
  have T4_13 := Lib.hid (T4_12.out.keep KS13.out)
  clear T4_12
  have T5_13 := Lib.hid (T5_12.out.keep KS13.out)
  clear T5_12
  have T7_13 := Lib.hid (T7_12.out.keep KS13.out)
  clear T7_12
  have c0_13 := cell_keep KS13.out c0_12
  clear c0_12
  have c1_13 := cell_keep KS13.out c1_12
  clear c1_12
  have c2_13 := cell_keep KS13.out c2_12
  clear c2_12
  have c3_13 := cell_keep KS13.out c3_12
  clear c3_12
  go_wp2_with fail
  refine (eqIntS_any y7 y4 _ _ _ (T7_13.out.rd1) (T4_13.out.rd1)).mono ?_
  rintro e w14 ⟨rfl, d14⟩
  have KS14 : Hid (Keeps w13 w14) := d14.keeps
  clear d14
  have K14 : Hid (Keeps w w14) := Keeps.trans K13.out KS14.out
  have Z14 : Hid (w13.heap.size ≤ w14.heap.size) := KS14.out.size
  have T3_14 := Lib.hid (T3_13.out.keep KS14.out)
  clear T3_13
  have T4_14 := Lib.hid (T4_13.out.keep KS14.out)
  clear T4_13
  have T5_14 := Lib.hid (T5_13.out.keep KS14.out)
  clear T5_13
  have T7_14 := Lib.hid (T7_13.out.keep KS14.out)
  clear T7_13
  have c0_14 := cell_keep KS14.out c0_13
  clear c0_13
  have c1_14 := cell_keep KS14.out c1_13
  clear c1_13
  have c2_14 := cell_keep KS14.out c2_13
  clear c2_13
  have c3_14 := cell_keep KS14.out c3_13
  clear c3_13
  go_wp2_with fail
  refine (mark0_ml (B := w6.heap.size) (C := w7.heap.size) 1 T7_14.out (by omega) (by omega)).mono ?_
  rintro e w15 ⟨rfl, o15, g15⟩
  have G15 : Hid (Chg w6.heap.size w7.heap.size w14 w15) := g15
  have T7_15 := Lib.hid o15
  clear o15 g15 T7_14
  have Z15 : Hid (w14.heap.size ≤ w15.heap.size) := G15.out.size
  have K15 : Hid (Keeps w w15) := G15.out.keeps K14.out (by have := Z1.out; have := Z2.out; have := Z3.out; have := Z4.out; have := Z5.out; have := Z6.out; have := Z7.out; have := Z8.out; have := Z9.out; have := Z10.out; have := Z11.out; have := Z12.out; have := Z13.out; have := Z14.out; have := Z15.out; omega)
  have T3_15 := Lib.hid (T3_14.out.chg G15.out (by have := Z1.out; have := Z2.out; have := Z3.out; have := Z4.out; have := Z5.out; have := Z6.out; have := Z7.out; have := Z8.out; have := Z9.out; have := Z10.out; have := Z11.out; have := Z12.out; have := Z13.out; have := Z14.out; have := Z15.out; omega))
  clear T3_14
  have T4_15 := Lib.hid (T4_14.out.chg G15.out (by have := Z1.out; have := Z2.out; have := Z3.out; have := Z4.out; have := Z5.out; have := Z6.out; have := Z7.out; have := Z8.out; have := Z9.out; have := Z10.out; have := Z11.out; have := Z12.out; have := Z13.out; have := Z14.out; have := Z15.out; omega))
  clear T4_14
  have T5_15 := Lib.hid (T5_14.out.chg G15.out (by have := Z1.out; have := Z2.out; have := Z3.out; have := Z4.out; have := Z5.out; have := Z6.out; have := Z7.out; have := Z8.out; have := Z9.out; have := Z10.out; have := Z11.out; have := Z12.out; have := Z13.out; have := Z14.out; have := Z15.out; omega))
  clear T5_14
  have c0_15 := (World.cell?_of_block (a := ⟨w.heap.size, 0, none⟩) (G15.out.block (w.heap.size) (by have := Z1.out; have := Z2.out; have := Z3.out; have := Z4.out; have := Z5.out; have := Z6.out; have := Z7.out; have := Z8.out; have := Z9.out; have := Z10.out; have := Z11.out; have := Z12.out; have := Z13.out; have := Z14.out; have := Z15.out; have := Z1'.out; (try simp only); omega) (by have := Z1.out; have := Z2.out; have := Z3.out; have := Z4.out; have := Z5.out; have := Z6.out; have := Z7.out; have := Z8.out; have := Z9.out; have := Z10.out; have := Z11.out; have := Z12.out; have := Z13.out; have := Z14.out; have := Z15.out; have := Z1'.out; (try simp only); omega))).trans c0_14
  clear c0_14
  have c1_15 := (World.cell?_of_block (a := ⟨w.heap.size, 1, none⟩) (G15.out.block (w.heap.size) (by have := Z1.out; have := Z2.out; have := Z3.out; have := Z4.out; have := Z5.out; have := Z6.out; have := Z7.out; have := Z8.out; have := Z9.out; have := Z10.out; have := Z11.out; have := Z12.out; have := Z13.out; have := Z14.out; have := Z15.out; have := Z1'.out; (try simp only); omega) (by have := Z1.out; have := Z2.out; have := Z3.out; have := Z4.out; have := Z5.out; have := Z6.out; have := Z7.out; have := Z8.out; have := Z9.out; have := Z10.out; have := Z11.out; have := Z12.out; have := Z13.out; have := Z14.out; have := Z15.out; have := Z1'.out; (try simp only); omega))).trans c1_14
  clear c1_14
  have c2_15 := (World.cell?_of_block (a := ⟨w5.heap.size, 0, none⟩) (G15.out.block (w5.heap.size) (by have := Z1.out; have := Z2.out; have := Z3.out; have := Z4.out; have := Z5.out; have := Z6.out; have := Z7.out; have := Z8.out; have := Z9.out; have := Z10.out; have := Z11.out; have := Z12.out; have := Z13.out; have := Z14.out; have := Z15.out; have := Z6'.out; (try simp only); omega) (by have := Z1.out; have := Z2.out; have := Z3.out; have := Z4.out; have := Z5.out; have := Z6.out; have := Z7.out; have := Z8.out; have := Z9.out; have := Z10.out; have := Z11.out; have := Z12.out; have := Z13.out; have := Z14.out; have := Z15.out; have := Z6'.out; (try simp only); omega))).trans c2_14
  clear c2_14
  have c3_15 := (World.cell?_of_block (a := ⟨w5.heap.size, 1, none⟩) (G15.out.block (w5.heap.size) (by have := Z1.out; have := Z2.out; have := Z3.out; have := Z4.out; have := Z5.out; have := Z6.out; have := Z7.out; have := Z8.out; have := Z9.out; have := Z10.out; have := Z11.out; have := Z12.out; have := Z13.out; have := Z14.out; have := Z15.out; have := Z6'.out; (try simp only); omega) (by have := Z1.out; have := Z2.out; have := Z3.out; have := Z4.out; have := Z5.out; have := Z6.out; have := Z7.out; have := Z8.out; have := Z9.out; have := Z10.out; have := Z11.out; have := Z12.out; have := Z13.out; have := Z14.out; have := Z15.out; have := Z6'.out; (try simp only); omega))).trans c3_14
  clear c3_14
  go_wp2_with fail
  refine (mark1_ml (B := w6.heap.size) (C := w7.heap.size) (1 + (off L0 L0.length : Nat)) T7_15.out (by omega) (by omega)).mono ?_
  rintro e w16 ⟨rfl, o16, g16⟩
  have G16 : Hid (Chg w6.heap.size w7.heap.size w15 w16) := g16
  have T7_16 := Lib.hid o16
  clear o16 g16 T7_15
  have Z16 : Hid (w15.heap.size ≤ w16.heap.size) := G16.out.size
  have K16 : Hid (Keeps w w16) := G16.out.keeps K15.out (by have := Z1.out; have := Z2.out; have := Z3.out; have := Z4.out; have := Z5.out; have := Z6.out; have := Z7.out; have := Z8.out; have := Z9.out; have := Z10.out; have := Z11.out; have := Z12.out; have := Z13.out; have := Z14.out; have := Z15.out; have := Z16.out; omega)
  have T3_16 := Lib.hid (T3_15.out.chg G16.out (by have := Z1.out; have := Z2.out; have := Z3.out; have := Z4.out; have := Z5.out; have := Z6.out; have := Z7.out; have := Z8.out; have := Z9.out; have := Z10.out; have := Z11.out; have := Z12.out; have := Z13.out; have := Z14.out; have := Z15.out; have := Z16.out; omega))
  clear T3_15
  have T4_16 := Lib.hid (T4_15.out.chg G16.out (by have := Z1.out; have := Z2.out; have := Z3.out; have := Z4.out; have := Z5.out; have := Z6.out; have := Z7.out; have := Z8.out; have := Z9.out; have := Z10.out; have := Z11.out; have := Z12.out; have := Z13.out; have := Z14.out; have := Z15.out; have := Z16.out; omega))
  clear T4_15
  have T5_16 := Lib.hid (T5_15.out.chg G16.out (by have := Z1.out; have := Z2.out; have := Z3.out; have := Z4.out; have := Z5.out; have := Z6.out; have := Z7.out; have := Z8.out; have := Z9.out; have := Z10.out; have := Z11.out; have := Z12.out; have := Z13.out; have := Z14.out; have := Z15.out; have := Z16.out; omega))
  clear T5_15
  have c0_16 := (World.cell?_of_block (a := ⟨w.heap.size, 0, none⟩) (G16.out.block (w.heap.size) (by have := Z1.out; have := Z2.out; have := Z3.out; have := Z4.out; have := Z5.out; have := Z6.out; have := Z7.out; have := Z8.out; have := Z9.out; have := Z10.out; have := Z11.out; have := Z12.out; have := Z13.out; have := Z14.out; have := Z15.out; have := Z16.out; have := Z1'.out; (try simp only); omega) (by have := Z1.out; have := Z2.out; have := Z3.out; have := Z4.out; have := Z5.out; have := Z6.out; have := Z7.out; have := Z8.out; have := Z9.out; have := Z10.out; have := Z11.out; have := Z12.out; have := Z13.out; have := Z14.out; have := Z15.out; have := Z16.out; have := Z1'.out; (try simp only); omega))).trans c0_15
  clear c0_15
  have c1_16 := (World.cell?_of_block (a := ⟨w.heap.size, 1, none⟩) (G16.out.block (w.heap.size) (by have := Z1.out; have := Z2.out; have := Z3.out; have := Z4.out; have := Z5.out; have := Z6.out; have := Z7.out; have := Z8.out; have := Z9.out; have := Z10.out; have := Z11.out; have := Z12.out; have := Z13.out; have := Z14.out; have := Z15.out; have := Z16.out; have := Z1'.out; (try simp only); omega) (by have := Z1.out; have := Z2.out; have := Z3.out; have := Z4.out; have := Z5.out; have := Z6.out; have := Z7.out; have := Z8.out; have := Z9.out; have := Z10.out; have := Z11.out; have := Z12.out; have := Z13.out; have := Z14.out; have := Z15.out; have := Z16.out; have := Z1'.out; (try simp only); omega))).trans c1_15
  clear c1_15
  have c2_16 := (World.cell?_of_block (a := ⟨w5.heap.size, 0, none⟩) (G16.out.block (w5.heap.size) (by have := Z1.out; have := Z2.out; have := Z3.out; have := Z4.out; have := Z5.out; have := Z6.out; have := Z7.out; have := Z8.out; have := Z9.out; have := Z10.out; have := Z11.out; have := Z12.out; have := Z13.out; have := Z14.out; have := Z15.out; have := Z16.out; have := Z6'.out; (try simp only); omega) (by have := Z1.out; have := Z2.out; have := Z3.out; have := Z4.out; have := Z5.out; have := Z6.out; have := Z7.out; have := Z8.out; have := Z9.out; have := Z10.out; have := Z11.out; have := Z12.out; have := Z13.out; have := Z14.out; have := Z15.out; have := Z16.out; have := Z6'.out; (try simp only); omega))).trans c2_15
  clear c2_15
  have c3_16 := (World.cell?_of_block (a := ⟨w5.heap.size, 1, none⟩) (G16.out.block (w5.heap.size) (by have := Z1.out; have := Z2.out; have := Z3.out; have := Z4.out; have := Z5.out; have := Z6.out; have := Z7.out; have := Z8.out; have := Z9.out; have := Z10.out; have := Z11.out; have := Z12.out; have := Z13.out; have := Z14.out; have := Z15.out; have := Z16.out; have := Z6'.out; (try simp only); omega) (by have := Z1.out; have := Z2.out; have := Z3.out; have := Z4.out; have := Z5.out; have := Z6.out; have := Z7.out; have := Z8.out; have := Z9.out; have := Z10.out; have := Z11.out; have := Z12.out; have := Z13.out; have := Z14.out; have := Z15.out; have := Z16.out; have := Z6'.out; (try simp only); omega))).trans c3_15
  clear c3_15
  go_wp2_with fail
  refine (heldIntSS_kp _ L0 1 _ (T7_16.out.rd0) (by omega) (by omega)).mono ?_
  rintro e w17 ⟨rfl, k17⟩
  have KS17 : Hid (Keeps w16 w17) := k17
  clear k17
  have K17 : Hid (Keeps w w17) := Keeps.trans K16.out KS17.out
  have Z17 : Hid (w16.heap.size ≤ w17.heap.size) := KS17.out.size
  have T3_17 := Lib.hid (T3_16.out.keep KS17.out)
  clear T3_16
  have T4_17 := Lib.hid (T4_16.out.keep KS17.out)
  clear T4_16
  have T5_17 := Lib.hid (T5_16.out.keep KS17.out)
  clear T5_16
  have T7_17 := Lib.hid (T7_16.out.keep KS17.out)
  clear T7_16
  have c0_17 := cell_keep KS17.out c0_16
  clear c0_16
  have c1_17 := cell_keep KS17.out c1_16
  clear c1_16
  have c2_17 := cell_keep KS17.out c2_16
  clear c2_16
  have c3_17 := cell_keep KS17.out c3_16
  clear c3_16
  go_wp2_with fail
  refine (heldIntS_any _ L1 (1 + (off L0 L0.length : Nat)) _ (T7_17.out.rd1) (by omega) (by omega)).mono ?_
  rintro e wh ⟨rfl, rfl⟩
  go_wp2_with fail
  refine (toWalkProblem_any _ l0 _ (R0.out.keep K17.out) s0).mono ?_
  rintro e w18 ⟨t18, rfl, o18, k18⟩
  obtain ⟨t18a1, t18c1, rfl⟩ := o18.rd.shape
  have T18 := Lib.hid o18
  clear o18
  have KS18 : Hid (Keeps w17 w18) := k18
  clear k18
  have K18 : Hid (Keeps w w18) := Keeps.trans K17.out KS18.out
  have Z18 : Hid (w17.heap.size ≤ w18.heap.size) := KS18.out.size
  have T3_18 := Lib.hid (T3_17.out.keep KS18.out)
  clear T3_17
  have T4_18 := Lib.hid (T4_17.out.keep KS18.out)
  clear T4_17
  have T5_18 := Lib.hid (T5_17.out.keep KS18.out)
  clear T5_17
  have T7_18 := Lib.hid (T7_17.out.keep KS18.out)
  clear T7_17
  have c0_18 := cell_keep KS18.out c0_17
  clear c0_17
  have c1_18 := cell_keep KS18.out c1_17
  clear c1_17
  have c2_18 := cell_keep KS18.out c2_17
  clear c2_17
  have c3_18 := cell_keep KS18.out c3_17
  clear c3_17
  go_wp2_with fail
  refine (implWalkComponents_any (.agg #[.int .i64 l0.labels, .slice t18a1 l0.arcs.length t18c1]) l0 _ (T18.out.rd) IL0.out s0).mono ?_
  rw [HE.out]
  rintro e w19 ⟨x19, y19, rfl, o19, b19, k19⟩
  rw [HL.out] at o19
  simp only at o19
  have T19 := Lib.hid o19
  clear o19 b19
  have KS19 : Hid (Keeps w18 w19) := k19
  clear k19
  have K19 : Hid (Keeps w w19) := Keeps.trans K18.out KS19.out
  have Z19 : Hid (w18.heap.size ≤ w19.heap.size) := KS19.out.size
  have T3_19 := Lib.hid (T3_18.out.keep KS19.out)
  clear T3_18
  have T4_19 := Lib.hid (T4_18.out.keep KS19.out)
  clear T4_18
  have T5_19 := Lib.hid (T5_18.out.keep KS19.out)
  clear T5_18
  have T7_19 := Lib.hid (T7_18.out.keep KS19.out)
  clear T7_18
  have T18_19 := Lib.hid (T18.out.keep KS19.out)
  clear T18
  have c0_19 := cell_keep KS19.out c0_18
  clear c0_18
  have c1_19 := cell_keep KS19.out c1_18
  clear c1_18
  have c2_19 := cell_keep KS19.out c2_18
  clear c2_18
  have c3_19 := cell_keep KS19.out c3_18
  clear c3_18
  go_wp2_with fail
  refine (eqIntSS_any x19 x4 _ _ _ (T19.out.rd0) (T4_19.out.rd0)).mono ?_
  rintro e w20 ⟨rfl, d20⟩
  have KS20 : Hid (Keeps w19 w20) := d20.keeps
  clear d20
  have K20 : Hid (Keeps w w20) := Keeps.trans K19.out KS20.out
  have Z20 : Hid (w19.heap.size ≤ w20.heap.size) := KS20.out.size
  have T3_20 := Lib.hid (T3_19.out.keep KS20.out)
  clear T3_19
  have T4_20 := Lib.hid (T4_19.out.keep KS20.out)
  clear T4_19
  have T5_20 := Lib.hid (T5_19.out.keep KS20.out)
  clear T5_19
  have T7_20 := Lib.hid (T7_19.out.keep KS20.out)
  clear T7_19
  have T18_20 := Lib.hid (T18_19.out.keep KS20.out)
  clear T18_19
  have T19_20 := Lib.hid (T19.out.keep KS20.out)
  clear T19
  have c0_20 := cell_keep KS20.out c0_19
  clear c0_19
  have c1_20 := cell_keep KS20.out c1_19
  clear c1_19
  have c2_20 := cell_keep KS20.out c2_19
  clear c2_19
  have c3_20 := cell_keep KS20.out c3_19
  clear c3_19
  go_wp2_with fail
  refine (eqIntS_any y19 y4 _ _ _ (T19_20.out.rd1) (T4_20.out.rd1)).mono ?_
  rintro e w21 ⟨rfl, d21⟩
  have KS21 : Hid (Keeps w20 w21) := d21.keeps
  clear d21
  have K21 : Hid (Keeps w w21) := Keeps.trans K20.out KS21.out
  have Z21 : Hid (w20.heap.size ≤ w21.heap.size) := KS21.out.size
  have T3_21 := Lib.hid (T3_20.out.keep KS21.out)
  clear T3_20
  have T4_21 := Lib.hid (T4_20.out.keep KS21.out)
  clear T4_20
  have T5_21 := Lib.hid (T5_20.out.keep KS21.out)
  clear T5_20
  have T7_21 := Lib.hid (T7_20.out.keep KS21.out)
  clear T7_20
  have T18_21 := Lib.hid (T18_20.out.keep KS21.out)
  clear T18_20
  have T19_21 := Lib.hid (T19_20.out.keep KS21.out)
  clear T19_20
  have c0_21 := cell_keep KS21.out c0_20
  clear c0_20
  have c1_21 := cell_keep KS21.out c1_20
  clear c1_20
  have c2_21 := cell_keep KS21.out c2_20
  clear c2_20
  have c3_21 := cell_keep KS21.out c3_20
  clear c3_20
  go_wp2_with fail
  refine (heldIntSS_kp _ L0 1 _ (T7_21.out.rd0) (by omega) (by omega)).mono ?_
  rintro e w22 ⟨rfl, k22⟩
  have KS22 : Hid (Keeps w21 w22) := k22
  clear k22
  have K22 : Hid (Keeps w w22) := Keeps.trans K21.out KS22.out
  have Z22 : Hid (w21.heap.size ≤ w22.heap.size) := KS22.out.size
  have T3_22 := Lib.hid (T3_21.out.keep KS22.out)
  clear T3_21
  have T4_22 := Lib.hid (T4_21.out.keep KS22.out)
  clear T4_21
  have T5_22 := Lib.hid (T5_21.out.keep KS22.out)
  clear T5_21
  have T7_22 := Lib.hid (T7_21.out.keep KS22.out)
  clear T7_21
  have T18_22 := Lib.hid (T18_21.out.keep KS22.out)
  clear T18_21
  have T19_22 := Lib.hid (T19_21.out.keep KS22.out)
  clear T19_21
  have c0_22 := cell_keep KS22.out c0_21
  clear c0_21
  have c1_22 := cell_keep KS22.out c1_21
  clear c1_21
  have c2_22 := cell_keep KS22.out c2_21
  clear c2_21
  have c3_22 := cell_keep KS22.out c3_21
  clear c3_21
  go_wp2_with fail
  refine (heldIntS_any _ L1 (1 + (off L0 L0.length : Nat)) _ (T7_22.out.rd1) (by omega) (by omega)).mono ?_
  rintro e wh ⟨rfl, rfl⟩
  go_wp2_with fail
  go_ret
  exact ⟨rfl, K22.out⟩

set_option maxHeartbeats 1600000 in
theorem lawWalkComponents (v0 : Value) (l0 : WP) (w : World) (r0 : RdW w v0 l0) (il0 : okW l0) : Calls Try.prog 3 #[v0] w fun e w' => e = .returned (.bool true) ∧ Below w.heap.size w w' := by
  by_cases q0 : szW l0 ≤ 1048576
  case neg =>
    have R0 := Lib.hid r0
    obtain ⟨p0a1, p0c1, rfl⟩ := r0.shape
    clear r0 il0
    go_enter Try.func3, Try.ntmps3
    go_wp2_with fail
    refine (szWalkProblem_any _ l0 (1048576) _ (R0.out.keep (by repeat (first | exact Keeps.refl _ | with_reducible refine Keeps.alloc ?_ _))) (by omega) (by omega)).mono ?_
    rintro e W0 ⟨rfl, k0⟩
    rw [szL, if_neg (by omega)]
    have KK0 : Hid (Keeps w W0) := Keeps.trans (by repeat (first | exact Keeps.refl _ | with_reducible refine Keeps.alloc ?_ _)) k0
    obtain ⟨hc0, hf0⟩ := bcell k0
    have hz0 := k0.size
    clear k0
    go_wp2
    go_ret
    exact ⟨rfl, KK0.out⟩
  exact lawWalkComponents_small v0 l0 r0 il0 (by omega)
end Go.Proofs.Ytffgdhbhlcifmaa
