/- The walk of laws.FnExactFlexibleLabels: it returns true at every input and changes nothing that was there. -/
import Derived.Test.YtffgdhbhlcifmaaWxb
import Derived.Test.YtffgdhbhlcifmaaOpen
import Derived.Deep.RegionHeld3
namespace Go.Proofs.Ytffgdhbhlcifmaa
open Go.RowKit
set_option linter.unusedSimpArgs false
set_option linter.unusedVariables false

set_option maxRecDepth 100000 in
set_option maxHeartbeats 8000000 in
theorem lawFlexibleLabels_small {w : World} (v0 : Value) (l0 : WP) (r0 : RdW w v0 l0) (il0 : okW l0) (s0 : szW l0 ≤ 1048576) : Calls Try.prog 7 #[v0] w fun e w' => e = .returned (.bool true) ∧ Below w.heap.size w w' := by
  have HE := Lib.hid (FlexibleLabels_eq l0 il0 s0)
  have R0 := Lib.hid r0
  have IL0 := Lib.hid il0
  obtain ⟨p0a1, p0c1, rfl⟩ := r0.shape
  clear r0 il0
  have K0 : Hid (Keeps w w) := Keeps.refl w
  go_enter Try.func7, Try.ntmps7
  go_wp2_with fail
  have KS1 : Hid (Keeps w (w.alloc (.cells #[.int .i64 l0.labels, .slice p0a1 l0.arcs.length p0c1] 24))) := (Keeps.refl _).alloc _
  have Z1' : Hid (w.heap.size + 1 ≤ (w.alloc (.cells #[.int .i64 l0.labels, .slice p0a1 l0.arcs.length p0c1] 24)).heap.size) := by show _ ≤ _; simp
  have E1 : (w.alloc (.cells #[.int .i64 l0.labels, .slice p0a1 l0.arcs.length p0c1] 24)).heap.size = w.heap.size + 1 := by rw [World.size_alloc]
  have c0_1 : (w.alloc (.cells #[.int .i64 l0.labels, .slice p0a1 l0.arcs.length p0c1] 24)).cell? ⟨w.heap.size, 0, none⟩ = some (.int .i64 l0.labels) := by rw [World.cell?_alloc_at _ _ _ _ rfl]; rfl
  have c1_1 : (w.alloc (.cells #[.int .i64 l0.labels, .slice p0a1 l0.arcs.length p0c1] 24)).cell? ⟨w.heap.size, 1, none⟩ = some (.slice p0a1 l0.arcs.length p0c1) := by rw [World.cell?_alloc_at _ _ _ _ rfl]; rfl
  generalize w.alloc (.cells #[.int .i64 l0.labels, .slice p0a1 l0.arcs.length p0c1] 24) = w1 at KS1 Z1' E1 c0_1 c1_1 ⊢
  have K1 : Hid (Keeps w w1) := Keeps.trans K0.out KS1.out
  have Z1 : Hid (w.heap.size ≤ w1.heap.size) := KS1.out.size
  clear E1
  refine (szWalkProblem_any _ l0 1048576 _ (R0.out.keep K1.out) (by omega) (by omega)).mono ?_
  rintro e w2 ⟨rfl, k2⟩
  rw [szL, if_pos (by omega)]
  have KS2 : Hid (Keeps w1 w2) := k2
  clear k2
  have K2 : Hid (Keeps w w2) := Keeps.trans K1.out KS2.out
  have Z2 : Hid (w1.heap.size ≤ w2.heap.size) := KS2.out.size
  have c0_2 := cell_keep KS2.out c0_1
  clear c0_1
  have c1_2 := cell_keep KS2.out c1_1
  clear c1_1
  go_wp2_with fail
  refine (toWalkProblem_any _ l0 _ (R0.out.keep K2.out) s0).mono ?_
  rintro e w3 ⟨t3, rfl, o3, k3⟩
  obtain ⟨t3a1, t3c1, rfl⟩ := o3.rd.shape
  have T3 := Lib.hid o3
  clear o3
  have KS3 : Hid (Keeps w2 w3) := k3
  clear k3
  have K3 : Hid (Keeps w w3) := Keeps.trans K2.out KS3.out
  have Z3 : Hid (w2.heap.size ≤ w3.heap.size) := KS3.out.size
  have c0_3 := cell_keep KS3.out c0_2
  clear c0_2
  have c1_3 := cell_keep KS3.out c1_2
  clear c1_2
  go_wp2_with fail
  refine (specFlexibleLabels_any (.agg #[.int .i64 l0.labels, .slice t3a1 l0.arcs.length t3c1]) l0 _ (T3.out.rd) IL0.out s0).mono ?_
  rintro e w4 ⟨x4, rfl, o4, b4, k4⟩
  generalize fFlexibleLabelsSpec l0 = R at *
  generalize hL : R.getD [] = L at *
  have HL := Lib.hid hL
  clear hL
  have BL : L.length ≤ 1000000000 := b4
  have T4 := Lib.hid o4.owI
  clear o4 b4
  have KS4 : Hid (Keeps w3 w4) := k4
  clear k4
  have K4 : Hid (Keeps w w4) := Keeps.trans K3.out KS4.out
  have Z4 : Hid (w3.heap.size ≤ w4.heap.size) := KS4.out.size
  have T3_4 := Lib.hid (T3.out.keep KS4.out)
  clear T3
  have c0_4 := cell_keep KS4.out c0_3
  clear c0_3
  have c1_4 := cell_keep KS4.out c1_3
  clear c1_3
  go_wp2_with fail
  refine (toWalkProblem_any _ l0 _ (R0.out.keep K4.out) s0).mono ?_
  rintro e w5 ⟨t5, rfl, o5, k5⟩
  obtain ⟨t5a1, t5c1, rfl⟩ := o5.rd.shape
  have T5 := Lib.hid o5
  clear o5
  have KS5 : Hid (Keeps w4 w5) := k5
  clear k5
  have K5 : Hid (Keeps w w5) := Keeps.trans K4.out KS5.out
  have Z5 : Hid (w4.heap.size ≤ w5.heap.size) := KS5.out.size
  have T3_5 := Lib.hid (T3_4.out.keep KS5.out)
  clear T3_4
  have T4_5 := Lib.hid (T4.out.keep KS5.out)
  clear T4
  have c0_5 := cell_keep KS5.out c0_4
  clear c0_4
  have c1_5 := cell_keep KS5.out c1_4
  clear c1_4
  have pre1 : (w5.alloc (.cells #[.int .i64 l0.labels, .slice t5a1 l0.arcs.length t5c1] 29)).cell? ⟨w.heap.size, 0, none⟩ = some (.int .i64 l0.labels) := cell_keep ((Keeps.refl _).alloc _) c0_5
  have pre2 : (w5.alloc (.cells #[.int .i64 l0.labels, .slice t5a1 l0.arcs.length t5c1] 29)).cell? ⟨w.heap.size, 1, none⟩ = some (.slice p0a1 l0.arcs.length p0c1) := cell_keep ((Keeps.refl _).alloc _) c1_5
  go_wp2_with fail
  clear pre1 pre2
  have KS6 : Hid (Keeps w5 (w5.alloc (.cells #[.int .i64 l0.labels, .slice t5a1 l0.arcs.length t5c1] 29))) := (Keeps.refl _).alloc _
  have Z6' : Hid (w5.heap.size + 1 ≤ (w5.alloc (.cells #[.int .i64 l0.labels, .slice t5a1 l0.arcs.length t5c1] 29)).heap.size) := by show _ ≤ _; simp
  have E6 : (w5.alloc (.cells #[.int .i64 l0.labels, .slice t5a1 l0.arcs.length t5c1] 29)).heap.size = w5.heap.size + 1 := by rw [World.size_alloc]
  have c2_6 : (w5.alloc (.cells #[.int .i64 l0.labels, .slice t5a1 l0.arcs.length t5c1] 29)).cell? ⟨w5.heap.size, 0, none⟩ = some (.int .i64 l0.labels) := by rw [World.cell?_alloc_at _ _ _ _ rfl]; rfl
  have c3_6 : (w5.alloc (.cells #[.int .i64 l0.labels, .slice t5a1 l0.arcs.length t5c1] 29)).cell? ⟨w5.heap.size, 1, none⟩ = some (.slice t5a1 l0.arcs.length t5c1) := by rw [World.cell?_alloc_at _ _ _ _ rfl]; rfl
  generalize w5.alloc (.cells #[.int .i64 l0.labels, .slice t5a1 l0.arcs.length t5c1] 29) = w6 at KS6 Z6' E6 c2_6 c3_6 ⊢
  have K6 : Hid (Keeps w w6) := Keeps.trans K5.out KS6.out
  have Z6 : Hid (w5.heap.size ≤ w6.heap.size) := KS6.out.size
  have T3_6 := Lib.hid (T3_5.out.keep KS6.out)
  clear T3_5
  have T4_6 := Lib.hid (T4_5.out.keep KS6.out)
  clear T4_5
  have T5_6 := Lib.hid (T5.out.keep KS6.out)
  clear T5
  have c0_6 := cell_keep KS6.out c0_5
  clear c0_5
  have c1_6 := cell_keep KS6.out c1_5
  clear c1_5
  clear E6
  refine (implFlexibleLabels_any (.agg #[.int .i64 l0.labels, .slice t5a1 l0.arcs.length t5c1]) l0 _ (T5_6.out.rd) IL0.out s0).mono ?_
  rw [HE.out]
  rintro e w7 ⟨x7, rfl, o7, b7, k7⟩
  rw [HL.out] at o7
  have T7 := Lib.hid o7.owI
  clear o7 b7
  have KS7 : Hid (Keeps w6 w7) := k7
  clear k7
  have K7 : Hid (Keeps w w7) := Keeps.trans K6.out KS7.out
  have Z7 : Hid (w6.heap.size ≤ w7.heap.size) := KS7.out.size
  have T3_7 := Lib.hid (T3_6.out.keep KS7.out)
  clear T3_6
  have T4_7 := Lib.hid (T4_6.out.keep KS7.out)
  clear T4_6
  have T5_7 := Lib.hid (T5_6.out.keep KS7.out)
  clear T5_6
  have c0_7 := cell_keep KS7.out c0_6
  clear c0_6
  have c1_7 := cell_keep KS7.out c1_6
  clear c1_6
  have c2_7 := cell_keep KS7.out c2_6
  clear c2_6
  have c3_7 := cell_keep KS7.out c3_6
  clear c3_6
  go_wp2_with fail
  refine (eqIntS_any x7 x4 _ _ _ (T7.out.ints) (T4_7.out.ints)).mono ?_
  rintro e w8 ⟨rfl, d8⟩
  have KS8 : Hid (Keeps w7 w8) := d8.keeps
  clear d8
  have K8 : Hid (Keeps w w8) := Keeps.trans K7.out KS8.out
  have Z8 : Hid (w7.heap.size ≤ w8.heap.size) := KS8.out.size
  have T3_8 := Lib.hid (T3_7.out.keep KS8.out)
  clear T3_7
  have T4_8 := Lib.hid (T4_7.out.keep KS8.out)
  clear T4_7
  have T5_8 := Lib.hid (T5_7.out.keep KS8.out)
  clear T5_7
  have T7_8 := Lib.hid (T7.out.keep KS8.out)
  clear T7
  have c0_8 := cell_keep KS8.out c0_7
  clear c0_7
  have c1_8 := cell_keep KS8.out c1_7
  clear c1_7
  have c2_8 := cell_keep KS8.out c2_7
  clear c2_7
  have c3_8 := cell_keep KS8.out c3_7
  clear c3_7
  go_wp2_with fail
  have SK : Hid (∀ W : World, Keeps w8 W → W.cell? ⟨w.heap.size, 0, none⟩ = some (.int .i64 l0.labels) ∧ W.cell? ⟨w.heap.size, 1, none⟩ = some (.slice p0a1 l0.arcs.length p0c1) ∧ W.cell? ⟨w5.heap.size, 0, none⟩ = some (.int .i64 l0.labels) ∧ W.cell? ⟨w5.heap.size, 1, none⟩ = some (.slice t5a1 l0.arcs.length t5c1)) := fun W k => ⟨cell_keep k c0_8, cell_keep k c1_8, cell_keep k c2_8, cell_keep k c3_8⟩
  have KD : Hid (Keeps w8 w8.drew) := (Keeps.refl _).drew
  go_region_held3 (fun W => W.cell? ⟨w.heap.size, 0, none⟩ = some (.int .i64 l0.labels) ∧ W.cell? ⟨w.heap.size, 1, none⟩ = some (.slice p0a1 l0.arcs.length p0c1) ∧ W.cell? ⟨w5.heap.size, 0, none⟩ = some (.int .i64 l0.labels) ∧ W.cell? ⟨w5.heap.size, 1, none⟩ = some (.slice t5a1 l0.arcs.length t5c1)) (first | exact SK.out _ KD.out | exact SK.out _ (Keeps.trans KD.out KS9'.out) | exact SK.out _ (Keeps.trans KD.out (Keeps.trans KS9'.out KS10.out)))
    ((first
      | (go_at_call 11; refine (toWalkProblem_any _ l0 _ (R0.out.keep (Keeps.trans K8.out KD.out)) s0).mono ?_; rintro e w9 ⟨tt, rfl, o9, k9⟩; obtain ⟨t9a1, t9c1, rfl⟩ := o9.rd.shape; have T9 := Lib.hid o9; have KS9' := Lib.hid k9; clear o9 k9)
      | (go_at_call 15; refine (eqWalkProblem_same _ _ l0 _ ((T5_8.out.rd).keep (Keeps.trans KD.out KS9'.out)) T9.out.rd).mono ?_; rintro e w10 ⟨rfl, k10⟩; have KS10 := Lib.hid k10; clear k10)))
  have KS9 : Hid (Keeps w8 w9) := Keeps.trans KD.out KS9'.out
  have K9 : Hid (Keeps w w9) := Keeps.trans K8.out KS9.out
  have Z9 : Hid (w8.heap.size ≤ w9.heap.size) := KS9.out.size
  have T3_9 := Lib.hid (T3_8.out.keep KS9.out)
  clear T3_8
  have T4_9 := Lib.hid (T4_8.out.keep KS9.out)
  clear T4_8
  have T5_9 := Lib.hid (T5_8.out.keep KS9.out)
  clear T5_8
  have T7_9 := Lib.hid (T7_8.out.keep KS9.out)
  clear T7_8
  have c0_9 := cell_keep KS9.out c0_8
  clear c0_8
  have c1_9 := cell_keep KS9.out c1_8
  clear c1_8
  have c2_9 := cell_keep KS9.out c2_8
  clear c2_8
  have c3_9 := cell_keep KS9.out c3_8
  clear c3_8
  have K10 : Hid (Keeps w w10) := Keeps.trans K9.out KS10.out
  have Z10 : Hid (w9.heap.size ≤ w10.heap.size) := KS10.out.size
  have T3_10 := Lib.hid (T3_9.out.keep KS10.out)
  clear T3_9
  have T4_10 := Lib.hid (T4_9.out.keep KS10.out)
  clear T4_9
  have T5_10 := Lib.hid (T5_9.out.keep KS10.out)
  clear T5_9
  have T7_10 := Lib.hid (T7_9.out.keep KS10.out)
  clear T7_9
  have c0_10 := cell_keep KS10.out c0_9
  clear c0_9
  have c1_10 := cell_keep KS10.out c1_9
  clear c1_9
  have c2_10 := cell_keep KS10.out c2_9
  clear c2_9
  have c3_10 := cell_keep KS10.out c3_9
  clear c3_9
  clear SK KD
  go_wp2_with fail
  have CL11 := cntW_le l0
  refine (markWalkProblem_any w4.heap.size w5.heap.size _ l0 1 _ T5_10.out (by have := Z1.out; have := Z2.out; have := Z3.out; have := Z4.out; have := Z5.out; have := Z6.out; have := Z7.out; have := Z8.out; have := Z9.out; have := Z10.out; omega) (by omega) (by omega)).mono ?_
  rintro e w11 ⟨rfl, o11, g11⟩
  have G11 : Hid (Chg w4.heap.size w5.heap.size w10 w11) := g11
  have T5_11 := Lib.hid o11
  clear o11 g11 T5_10
  have Z11 : Hid (w10.heap.size ≤ w11.heap.size) := G11.out.size
  have K11 : Hid (Keeps w w11) := G11.out.keeps K10.out (by have := Z1.out; have := Z2.out; have := Z3.out; have := Z4.out; have := Z5.out; have := Z6.out; have := Z7.out; have := Z8.out; have := Z9.out; have := Z10.out; have := Z11.out; omega)
  have T3_11 := Lib.hid (T3_10.out.chg G11.out (by have := Z1.out; have := Z2.out; have := Z3.out; have := Z4.out; have := Z5.out; have := Z6.out; have := Z7.out; have := Z8.out; have := Z9.out; have := Z10.out; have := Z11.out; omega))
  clear T3_10
  have T4_11 := Lib.hid (T4_10.out.chg G11.out (by have := Z1.out; have := Z2.out; have := Z3.out; have := Z4.out; have := Z5.out; have := Z6.out; have := Z7.out; have := Z8.out; have := Z9.out; have := Z10.out; have := Z11.out; omega))
  clear T4_10
  have T7_11 := Lib.hid (T7_10.out.chg G11.out (by have := Z1.out; have := Z2.out; have := Z3.out; have := Z4.out; have := Z5.out; have := Z6.out; have := Z7.out; have := Z8.out; have := Z9.out; have := Z10.out; have := Z11.out; omega))
  clear T7_10
  have c0_11 := (World.cell?_of_block (a := ⟨w.heap.size, 0, none⟩) (G11.out.block (w.heap.size) (by have := Z1.out; have := Z2.out; have := Z3.out; have := Z4.out; have := Z5.out; have := Z6.out; have := Z7.out; have := Z8.out; have := Z9.out; have := Z10.out; have := Z11.out; have := Z1'.out; (try simp only); omega) (by have := Z1.out; have := Z2.out; have := Z3.out; have := Z4.out; have := Z5.out; have := Z6.out; have := Z7.out; have := Z8.out; have := Z9.out; have := Z10.out; have := Z11.out; have := Z1'.out; (try simp only); omega))).trans c0_10
  clear c0_10
  have c1_11 := (World.cell?_of_block (a := ⟨w.heap.size, 1, none⟩) (G11.out.block (w.heap.size) (by have := Z1.out; have := Z2.out; have := Z3.out; have := Z4.out; have := Z5.out; have := Z6.out; have := Z7.out; have := Z8.out; have := Z9.out; have := Z10.out; have := Z11.out; have := Z1'.out; (try simp only); omega) (by have := Z1.out; have := Z2.out; have := Z3.out; have := Z4.out; have := Z5.out; have := Z6.out; have := Z7.out; have := Z8.out; have := Z9.out; have := Z10.out; have := Z11.out; have := Z1'.out; (try simp only); omega))).trans c1_10
  clear c1_10
  have c2_11 := (World.cell?_of_block (a := ⟨w5.heap.size, 0, none⟩) (G11.out.block (w5.heap.size) (by have := Z1.out; have := Z2.out; have := Z3.out; have := Z4.out; have := Z5.out; have := Z6.out; have := Z7.out; have := Z8.out; have := Z9.out; have := Z10.out; have := Z11.out; have := Z6'.out; (try simp only); omega) (by have := Z1.out; have := Z2.out; have := Z3.out; have := Z4.out; have := Z5.out; have := Z6.out; have := Z7.out; have := Z8.out; have := Z9.out; have := Z10.out; have := Z11.out; have := Z6'.out; (try simp only); omega))).trans c2_10
  clear c2_10
  have c3_11 := (World.cell?_of_block (a := ⟨w5.heap.size, 1, none⟩) (G11.out.block (w5.heap.size) (by have := Z1.out; have := Z2.out; have := Z3.out; have := Z4.out; have := Z5.out; have := Z6.out; have := Z7.out; have := Z8.out; have := Z9.out; have := Z10.out; have := Z11.out; have := Z6'.out; (try simp only); omega) (by have := Z1.out; have := Z2.out; have := Z3.out; have := Z4.out; have := Z5.out; have := Z6.out; have := Z7.out; have := Z8.out; have := Z9.out; have := Z10.out; have := Z11.out; have := Z6'.out; (try simp only); omega))).trans c3_10
  clear c3_10
  go_wp2_with fail
  refine (eqIntS_any x7 x4 _ _ _ (T7_11.out.ints) (T4_11.out.ints)).mono ?_
  rintro e w12 ⟨rfl, d12⟩
  have KS12 : Hid (Keeps w11 w12) := d12.keeps
  clear d12
  have K12 : Hid (Keeps w w12) := Keeps.trans K11.out KS12.out
  have Z12 : Hid (w11.heap.size ≤ w12.heap.size) := KS12.out.size
  have T3_12 := Lib.hid (T3_11.out.keep KS12.out)
  clear T3_11
  have T4_12 := Lib.hid (T4_11.out.keep KS12.out)
  clear T4_11
  have T5_12 := Lib.hid (T5_11.out.keep KS12.out)
  clear T5_11
  have T7_12 := Lib.hid (T7_11.out.keep KS12.out)
  clear T7_11
  have c0_12 := cell_keep KS12.out c0_11
  clear c0_11
  have c1_12 := cell_keep KS12.out c1_11
  clear c1_11
  have c2_12 := cell_keep KS12.out c2_11
  clear c2_11
  have c3_12 := cell_keep KS12.out c3_11
  clear c3_11
  go_wp2_with fail
  refine (markIntS_any w6.heap.size x7 L 1 _ T7_12.out.own (by omega) (by omega)).mono ?_
  rintro e w13 ⟨rfl, o13, g13⟩
  have G13 : Hid (Chg w6.heap.size w7.heap.size w12 w13) := Chg.of_grown g13 fun q hq => ⟨(T7_12.out.own.lt q hq).1, T7_12.out.hi q hq⟩
  have T7_13 : Hid (OwI w6.heap.size w7.heap.size w13 x7 (iota 1 L.length)) := ⟨o13, T7_12.out.hi⟩
  clear o13 g13 T7_12
  have Z13 : Hid (w12.heap.size ≤ w13.heap.size) := G13.out.size
  have K13 : Hid (Keeps w w13) := G13.out.keeps K12.out (by have := Z1.out; have := Z2.out; have := Z3.out; have := Z4.out; have := Z5.out; have := Z6.out; have := Z7.out; have := Z8.out; have := Z9.out; have := Z10.out; have := Z11.out; have := Z12.out; have := Z13.out; omega)
  have T3_13 := Lib.hid (T3_12.out.chg G13.out (by have := Z1.out; have := Z2.out; have := Z3.out; have := Z4.out; have := Z5.out; have := Z6.out; have := Z7.out; have := Z8.out; have := Z9.out; have := Z10.out; have := Z11.out; have := Z12.out; have := Z13.out; omega))
  clear T3_12
  have T4_13 := Lib.hid (T4_12.out.chg G13.out (by have := Z1.out; have := Z2.out; have := Z3.out; have := Z4.out; have := Z5.out; have := Z6.out; have := Z7.out; have := Z8.out; have := Z9.out; have := Z10.out; have := Z11.out; have := Z12.out; have := Z13.out; omega))
  clear T4_12
  have T5_13 := Lib.hid (T5_12.out.chg G13.out (by have := Z1.out; have := Z2.out; have := Z3.out; have := Z4.out; have := Z5.out; have := Z6.out; have := Z7.out; have := Z8.out; have := Z9.out; have := Z10.out; have := Z11.out; have := Z12.out; have := Z13.out; omega))
  clear T5_12
  have c0_13 := (World.cell?_of_block (a := ⟨w.heap.size, 0, none⟩) (G13.out.block (w.heap.size) (by have := Z1.out; have := Z2.out; have := Z3.out; have := Z4.out; have := Z5.out; have := Z6.out; have := Z7.out; have := Z8.out; have := Z9.out; have := Z10.out; have := Z11.out; have := Z12.out; have := Z13.out; have := Z1'.out; (try simp only); omega) (by have := Z1.out; have := Z2.out; have := Z3.out; have := Z4.out; have := Z5.out; have := Z6.out; have := Z7.out; have := Z8.out; have := Z9.out; have := Z10.out; have := Z11.out; have := Z12.out; have := Z13.out; have := Z1'.out; (try simp only); omega))).trans c0_12
  clear c0_12
  have c1_13 := (World.cell?_of_block (a := ⟨w.heap.size, 1, none⟩) (G13.out.block (w.heap.size) (by have := Z1.out; have := Z2.out; have := Z3.out; have := Z4.out; have := Z5.out; have := Z6.out; have := Z7.out; have := Z8.out; have := Z9.out; have := Z10.out; have := Z11.out; have := Z12.out; have := Z13.out; have := Z1'.out; (try simp only); omega) (by have := Z1.out; have := Z2.out; have := Z3.out; have := Z4.out; have := Z5.out; have := Z6.out; have := Z7.out; have := Z8.out; have := Z9.out; have := Z10.out; have := Z11.out; have := Z12.out; have := Z13.out; have := Z1'.out; (try simp only); omega))).trans c1_12
  clear c1_12
  have c2_13 := (World.cell?_of_block (a := ⟨w5.heap.size, 0, none⟩) (G13.out.block (w5.heap.size) (by have := Z1.out; have := Z2.out; have := Z3.out; have := Z4.out; have := Z5.out; have := Z6.out; have := Z7.out; have := Z8.out; have := Z9.out; have := Z10.out; have := Z11.out; have := Z12.out; have := Z13.out; have := Z6'.out; (try simp only); omega) (by have := Z1.out; have := Z2.out; have := Z3.out; have := Z4.out; have := Z5.out; have := Z6.out; have := Z7.out; have := Z8.out; have := Z9.out; have := Z10.out; have := Z11.out; have := Z12.out; have := Z13.out; have := Z6'.out; (try simp only); omega))).trans c2_12
  clear c2_12
  have c3_13 := (World.cell?_of_block (a := ⟨w5.heap.size, 1, none⟩) (G13.out.block (w5.heap.size) (by have := Z1.out; have := Z2.out; have := Z3.out; have := Z4.out; have := Z5.out; have := Z6.out; have := Z7.out; have := Z8.out; have := Z9.out; have := Z10.out; have := Z11.out; have := Z12.out; have := Z13.out; have := Z6'.out; (try simp only); omega) (by have := Z1.out; have := Z2.out; have := Z3.out; have := Z4.out; have := Z5.out; have := Z6.out; have := Z7.out; have := Z8.out; have := Z9.out; have := Z10.out; have := Z11.out; have := Z12.out; have := Z13.out; have := Z6'.out; (try simp only); omega))).trans c3_12
  clear c3_12
  go_wp2_with fail
  refine (heldIntS_any x7 L 1 _ (T7_13.out.ints) (by omega) (by omega)).mono ?_
  rintro e wh ⟨rfl, rfl⟩
  go_wp2_with fail
  refine (toWalkProblem_any _ l0 _ (R0.out.keep K13.out) s0).mono ?_
  rintro e w14 ⟨t14, rfl, o14, k14⟩
  obtain ⟨t14a1, t14c1, rfl⟩ := o14.rd.shape
  have T14 := Lib.hid o14
  clear o14
  have KS14 : Hid (Keeps w13 w14) := k14
  clear k14
  have K14 : Hid (Keeps w w14) := Keeps.trans K13.out KS14.out
  have Z14 : Hid (w13.heap.size ≤ w14.heap.size) := KS14.out.size
  have T3_14 := Lib.hid (T3_13.out.keep KS14.out)
  clear T3_13
  have T4_14 := Lib.hid (T4_13.out.keep KS14.out)
  clear T4_13
  have T5_14 := Lib.hid (T5_13.out.keep KS14.out)
  clear T5_13
  have T7_14 := Lib.hid (T7_13.out.keep KS14.out)
  clear T7_13
  have c0_14 := cell_keep KS14.out c0_13
  clear c0_13
  have c1_14 := cell_keep KS14.out c1_13
  clear c1_13
  have c2_14 := cell_keep KS14.out c2_13
  clear c2_13
  have c3_14 := cell_keep KS14.out c3_13
  clear c3_13
  go_wp2_with fail
  refine (implFlexibleLabels_any (.agg #[.int .i64 l0.labels, .slice t14a1 l0.arcs.length t14c1]) l0 _ (T14.out.rd) IL0.out s0).mono ?_
  rw [HE.out]
  rintro e w15 ⟨x15, rfl, o15, b15, k15⟩
  rw [HL.out] at o15
  have T15 := Lib.hid o15.owI
  clear o15 b15
  have KS15 : Hid (Keeps w14 w15) := k15
  clear k15
  have K15 : Hid (Keeps w w15) := Keeps.trans K14.out KS15.out
  have Z15 : Hid (w14.heap.size ≤ w15.heap.size) := KS15.out.size
  have T3_15 := Lib.hid (T3_14.out.keep KS15.out)
  clear T3_14
  have T4_15 := Lib.hid (T4_14.out.keep KS15.out)
  clear T4_14
  have T5_15 := Lib.hid (T5_14.out.keep KS15.out)
  clear T5_14
  have T7_15 := Lib.hid (T7_14.out.keep KS15.out)
  clear T7_14
  have T14_15 := Lib.hid (T14.out.keep KS15.out)
  clear T14
  have c0_15 := cell_keep KS15.out c0_14
  clear c0_14
  have c1_15 := cell_keep KS15.out c1_14
  clear c1_14
  have c2_15 := cell_keep KS15.out c2_14
  clear c2_14
  have c3_15 := cell_keep KS15.out c3_14
  clear c3_14
  go_wp2_with fail
  refine (eqIntS_any x15 x4 _ _ _ (T15.out.ints) (T4_15.out.ints)).mono ?_
  rintro e w16 ⟨rfl, d16⟩
  have KS16 : Hid (Keeps w15 w16) := d16.keeps
  clear d16
  have K16 : Hid (Keeps w w16) := Keeps.trans K15.out KS16.out
  have Z16 : Hid (w15.heap.size ≤ w16.heap.size) := KS16.out.size
  have T3_16 := Lib.hid (T3_15.out.keep KS16.out)
  clear T3_15
  have T4_16 := Lib.hid (T4_15.out.keep KS16.out)
  clear T4_15
  have T5_16 := Lib.hid (T5_15.out.keep KS16.out)
  clear T5_15
  have T7_16 := Lib.hid (T7_15.out.keep KS16.out)
  clear T7_15
  have T14_16 := Lib.hid (T14_15.out.keep KS16.out)
  clear T14_15
  have T15_16 := Lib.hid (T15.out.keep KS16.out)
  clear T15
  have c0_16 := cell_keep KS16.out c0_15
  clear c0_15
  have c1_16 := cell_keep KS16.out c1_15
  clear c1_15
  have c2_16 := cell_keep KS16.out c2_15
  clear c2_15
  have c3_16 := cell_keep KS16.out c3_15
  clear c3_15
  go_wp2_with fail
  refine (heldIntS_any x7 L 1 _ (T7_16.out.ints) (by omega) (by omega)).mono ?_
  rintro e wh ⟨rfl, rfl⟩
  go_wp2_with fail
  go_ret
  exact ⟨rfl, K16.out⟩

set_option maxHeartbeats 1600000 in
theorem lawFlexibleLabels (v0 : Value) (l0 : WP) (w : World) (r0 : RdW w v0 l0) (il0 : okW l0) : Calls Try.prog 7 #[v0] w fun e w' => e = .returned (.bool true) ∧ Below w.heap.size w w' := by
  by_cases q0 : szW l0 ≤ 1048576
  case neg =>
    have R0 := Lib.hid r0
    obtain ⟨p0a1, p0c1, rfl⟩ := r0.shape
    clear r0 il0
    go_enter Try.func7, Try.ntmps7
    go_wp2_with fail
    refine (szWalkProblem_any _ l0 (1048576) _ (R0.out.keep (by repeat (first | exact Keeps.refl _ | with_reducible refine Keeps.alloc ?_ _))) (by omega) (by omega)).mono ?_
    rintro e W0 ⟨rfl, k0⟩
    rw [szL, if_neg (by omega)]
    have KK0 : Hid (Keeps w W0) := Keeps.trans (by repeat (first | exact Keeps.refl _ | with_reducible refine Keeps.alloc ?_ _)) k0
    obtain ⟨hc0, hf0⟩ := bcell k0
    have hz0 := k0.size
    clear k0
    go_wp2
    go_ret
    exact ⟨rfl, KK0.out⟩
  exact lawFlexibleLabels_small v0 l0 r0 il0 (by omega)
end Go.Proofs.Ytffgdhbhlcifmaa
