/- The walk of laws.FnExactFillCycle: it returns true at every input and changes nothing that was there. -/
import Derived.Test.YtabclfacjaeblaaFc
import Derived.Test.YtabclfacjaeblaaRng
import Derived.Test.YtabclfacjaeblaaOpen
import Derived.Deep.RegionHeld3
namespace Go.Proofs.Ytabclfacjaeblaa
open Go.RowKit
set_option linter.unusedSimpArgs false
set_option linter.unusedVariables false

set_option maxRecDepth 100000 in
set_option maxHeartbeats 8000000 in
theorem lawFillCycle_small {w : World} (v0 : Value) (l0 : WP) (r0 : RdW w v0 l0) (il0 : okW l0) (a1 : Int) (ia1 : I64 a1) (a2 : Int) (ia2 : I64 a2) (v3 : Value) (l3 : List Int) (r3 : Ints w v3 l3) (il3 : ∀ n ∈ l3, I64 n) (s0 : szW l0 ≤ 1048576) (s3 : l3.length ≤ 1048576) : Calls Try.prog 5 #[v0, .int .i64 a1, .int .i64 a2, v3] w fun e w' => e = .returned (.bool true) ∧ Below w.heap.size w w' := by
  have HE := Lib.hid (FillCycle_eq l0 a1 a2 l3 il0 s0 ia1 ia2 il3 s3)
  have R0 := Lib.hid r0
  have IL0 := Lib.hid il0
  obtain ⟨p0a1, p0c1, rfl⟩ := r0.shape
  clear r0 il0
  have R3 := Lib.hid r3
  have IL3 := Lib.hid il3
  obtain ⟨ad3, cp3, rfl, _⟩ := r3.form
  clear r3 il3
  have K0 : Hid (Keeps w w) := Keeps.refl w
  go_enter Try.func5, Try.ntmps5
  go_wp2_with fail
  have KS1 : Hid (Keeps w (w.alloc (.cells #[.int .i64 l0.labels, .slice p0a1 l0.arcs.length p0c1] 37))) := (Keeps.refl _).alloc _
  have Z1' : Hid (w.heap.size + 1 ≤ (w.alloc (.cells #[.int .i64 l0.labels, .slice p0a1 l0.arcs.length p0c1] 37)).heap.size) := by show _ ≤ _; simp
  have E1 : (w.alloc (.cells #[.int .i64 l0.labels, .slice p0a1 l0.arcs.length p0c1] 37)).heap.size = w.heap.size + 1 := by rw [World.size_alloc]
  have c0_1 : (w.alloc (.cells #[.int .i64 l0.labels, .slice p0a1 l0.arcs.length p0c1] 37)).cell? ⟨w.heap.size, 0, none⟩ = some (.int .i64 l0.labels) := by rw [World.cell?_alloc_at _ _ _ _ rfl]; rfl
  have c1_1 : (w.alloc (.cells #[.int .i64 l0.labels, .slice p0a1 l0.arcs.length p0c1] 37)).cell? ⟨w.heap.size, 1, none⟩ = some (.slice p0a1 l0.arcs.length p0c1) := by rw [World.cell?_alloc_at _ _ _ _ rfl]; rfl
  generalize w.alloc (.cells #[.int .i64 l0.labels, .slice p0a1 l0.arcs.length p0c1] 37) = w1 at KS1 Z1' E1 c0_1 c1_1 ⊢
  have K1 : Hid (Keeps w w1) := Keeps.trans K0.out KS1.out
  have Z1 : Hid (w.heap.size ≤ w1.heap.size) := KS1.out.size
  clear E1
  refine (szWalkProblem_any _ l0 1048576 _ (R0.out.keep K1.out) (by omega) (by omega)).mono ?_
  rintro e w2 ⟨rfl, k2⟩
  rw [szL, if_pos (by omega)]
  have KS2 : Hid (Keeps w1 w2) := k2
  clear k2
  have K2 : Hid (Keeps w w2) := Keeps.trans K1.out KS2.out
  have Z2 : Hid (w1.heap.size ≤ w2.heap.size) := KS2.out.size
  have c0_2 := cell_keep KS2.out c0_1
  clear c0_1
  have c1_2 := cell_keep KS2.out c1_1
  clear c1_1
  go_wp2_with fail
  refine (toWalkProblem_any _ l0 _ (R0.out.keep K2.out) s0).mono ?_
  rintro e w3 ⟨t3, rfl, o3, k3⟩
  obtain ⟨t3a1, t3c1, rfl⟩ := o3.rd.shape
  have T3 := Lib.hid o3
  clear o3
  have KS3 : Hid (Keeps w2 w3) := k3
  clear k3
  have K3 : Hid (Keeps w w3) := Keeps.trans K2.out KS3.out
  have Z3 : Hid (w2.heap.size ≤ w3.heap.size) := KS3.out.size
  have c0_3 := cell_keep KS3.out c0_2
  clear c0_2
  have c1_3 := cell_keep KS3.out c1_2
  clear c1_2
  go_wp2_with fail
  refine (toIntS_any _ l3 _ (R3.out.keep K3.out) s3).mono ?_
  rintro e w4 ⟨t4, rfl, o4, k4⟩
  have T4 := Lib.hid o4.owI
  clear o4
  have KS4 : Hid (Keeps w3 w4) := k4
  clear k4
  have K4 : Hid (Keeps w w4) := Keeps.trans K3.out KS4.out
  have Z4 : Hid (w3.heap.size ≤ w4.heap.size) := KS4.out.size
  have T3_4 := Lib.hid (T3.out.keep KS4.out)
  clear T3
  have c0_4 := cell_keep KS4.out c0_3
  clear c0_3
  have c1_4 := cell_keep KS4.out c1_3
  clear c1_3
  go_wp2_with fail
  refine (specFillCycle_any (.agg #[.int .i64 l0.labels, .slice t3a1 l0.arcs.length t3c1]) l0 a1 a2 t4 l3 _ (T3_4.out.rd) IL0.out s0 ia1 ia2 (T4.out.ints) IL3.out s3).mono ?_
  rintro e w5 ⟨x5, rfl, o5, b5, k5⟩
  generalize fFillCycleSpec l0 a1 a2 l3 = R at *
  generalize hL : R.getD [] = L at *
  have HL := Lib.hid hL
  clear hL
  have BL : L.length ≤ 1000000000 := b5
  have T5 := Lib.hid o5.owI
  clear o5 b5
  have KS5 : Hid (Keeps w4 w5) := k5
  clear k5
  have K5 : Hid (Keeps w w5) := Keeps.trans K4.out KS5.out
  have Z5 : Hid (w4.heap.size ≤ w5.heap.size) := KS5.out.size
  have T3_5 := Lib.hid (T3_4.out.keep KS5.out)
  clear T3_4
  have T4_5 := Lib.hid (T4.out.keep KS5.out)
  clear T4
  have c0_5 := cell_keep KS5.out c0_4
  clear c0_4
  have c1_5 := cell_keep KS5.out c1_4
  clear c1_4
  go_wp2_with fail
  refine (toWalkProblem_any _ l0 _ (R0.out.keep K5.out) s0).mono ?_
  rintro e w6 ⟨t6, rfl, o6, k6⟩
  obtain ⟨t6a1, t6c1, rfl⟩ := o6.rd.shape
  have T6 := Lib.hid o6
  clear o6
  have KS6 : Hid (Keeps w5 w6) := k6
  clear k6
  have K6 : Hid (Keeps w w6) := Keeps.trans K5.out KS6.out
  have Z6 : Hid (w5.heap.size ≤ w6.heap.size) := KS6.out.size
  have T3_6 := Lib.hid (T3_5.out.keep KS6.out)
  clear T3_5
  have T4_6 := Lib.hid (T4_5.out.keep KS6.out)
  clear T4_5
  have T5_6 := Lib.hid (T5.out.keep KS6.out)
  clear T5
  have c0_6 := cell_keep KS6.out c0_5
  clear c0_5
  have c1_6 := cell_keep KS6.out c1_5
  clear c1_5
  have pre1 : (w6.alloc (.cells #[.int .i64 l0.labels, .slice t6a1 l0.arcs.length t6c1] 44)).cell? ⟨w.heap.size, 0, none⟩ = some (.int .i64 l0.labels) := cell_keep ((Keeps.refl _).alloc _) c0_6
  have pre2 : (w6.alloc (.cells #[.int .i64 l0.labels, .slice t6a1 l0.arcs.length t6c1] 44)).cell? ⟨w.heap.size, 1, none⟩ = some (.slice p0a1 l0.arcs.length p0c1) := cell_keep ((Keeps.refl _).alloc _) c1_6
  go_wp2_with fail
  clear pre1 pre2
  have KS7 : Hid (Keeps w6 (w6.alloc (.cells #[.int .i64 l0.labels, .slice t6a1 l0.arcs.length t6c1] 44))) := (Keeps.refl _).alloc _
  have Z7' : Hid (w6.heap.size + 1 ≤ (w6.alloc (.cells #[.int .i64 l0.labels, .slice t6a1 l0.arcs.length t6c1] 44)).heap.size) := by show _ ≤ _; simp
  have E7 : (w6.alloc (.cells #[.int .i64 l0.labels, .slice t6a1 l0.arcs.length t6c1] 44)).heap.size = w6.heap.size + 1 := by rw [World.size_alloc]
  have c2_7 : (w6.alloc (.cells #[.int .i64 l0.labels, .slice t6a1 l0.arcs.length t6c1] 44)).cell? ⟨w6.heap.size, 0, none⟩ = some (.int .i64 l0.labels) := by rw [World.cell?_alloc_at _ _ _ _ rfl]; rfl
  have c3_7 : (w6.alloc (.cells #[.int .i64 l0.labels, .slice t6a1 l0.arcs.length t6c1] 44)).cell? ⟨w6.heap.size, 1, none⟩ = some (.slice t6a1 l0.arcs.length t6c1) := by rw [World.cell?_alloc_at _ _ _ _ rfl]; rfl
  generalize w6.alloc (.cells #[.int .i64 l0.labels, .slice t6a1 l0.arcs.length t6c1] 44) = w7 at KS7 Z7' E7 c2_7 c3_7 ⊢
  have K7 : Hid (Keeps w w7) := Keeps.trans K6.out KS7.out
  have Z7 : Hid (w6.heap.size ≤ w7.heap.size) := KS7.out.size
  have T3_7 := Lib.hid (T3_6.out.keep KS7.out)
  clear T3_6
  have T4_7 := Lib.hid (T4_6.out.keep KS7.out)
  clear T4_6
  have T5_7 := Lib.hid (T5_6.out.keep KS7.out)
  clear T5_6
  have T6_7 := Lib.hid (T6.out.keep KS7.out)
  clear T6
  have c0_7 := cell_keep KS7.out c0_6
  clear c0_6
  have c1_7 := cell_keep KS7.out c1_6
  clear c1_6
  clear E7
  refine (toIntS_any _ l3 _ (R3.out.keep K7.out) s3).mono ?_
  rintro e w8 ⟨t8, rfl, o8, k8⟩
  have T8 := Lib.hid o8.owI
  clear o8
  have KS8 : Hid (Keeps w7 w8) := k8
  clear k8
  have K8 : Hid (Keeps w w8) := Keeps.trans K7.out KS8.out
  have Z8 : Hid (w7.heap.size ≤ w8.heap.size) := KS8.out.size
  have T3_8 := Lib.hid (T3_7.out.keep KS8.out)
  clear T3_7
  have T4_8 := Lib.hid (T4_7.out.keep KS8.out)
  clear T4_7
  have T5_8 := Lib.hid (T5_7.out.keep KS8.out)
  clear T5_7
  have T6_8 := Lib.hid (T6_7.out.keep KS8.out)
  clear T6_7
  have c0_8 := cell_keep KS8.out c0_7
  clear c0_7
  have c1_8 := cell_keep KS8.out c1_7
  clear c1_7
  have c2_8 := cell_keep KS8.out c2_7
  clear c2_7
  have c3_8 := cell_keep KS8.out c3_7
  clear c3_7
  go_wp2_with fail
  refine (implFillCycle_any (.agg #[.int .i64 l0.labels, .slice t6a1 l0.arcs.length t6c1]) l0 a1 a2 t8 l3 _ (T6_8.out.rd) IL0.out s0 ia1 ia2 (T8.out.ints) IL3.out s3).mono ?_
  rw [HE.out]
  rintro e w9 ⟨x9, rfl, o9, b9, k9⟩
  rw [HL.out] at o9
  have T9 := Lib.hid o9.owI
  clear o9 b9
  have KS9 : Hid (Keeps w8 w9) := k9
  clear k9
  have K9 : Hid (Keeps w w9) := Keeps.trans K8.out KS9.out
  have Z9 : Hid (w8.heap.size ≤ w9.heap.size) := KS9.out.size
  have T3_9 := Lib.hid (T3_8.out.keep KS9.out)
  clear T3_8
  have T4_9 := Lib.hid (T4_8.out.keep KS9.out)
  clear T4_8
  have T5_9 := Lib.hid (T5_8.out.keep KS9.out)
  clear T5_8
  have T6_9 := Lib.hid (T6_8.out.keep KS9.out)
  clear T6_8
  have T8_9 := Lib.hid (T8.out.keep KS9.out)
  clear T8
  have c0_9 := cell_keep KS9.out c0_8
  clear c0_8
  have c1_9 := cell_keep KS9.out c1_8
  clear c1_8
  have c2_9 := cell_keep KS9.out c2_8
  clear c2_8
  have c3_9 := cell_keep KS9.out c3_8
  clear c3_8
  go_wp2_with fail
  refine (eqIntS_any x9 x5 _ _ _ (T9.out.ints) (T5_9.out.ints)).mono ?_
  rintro e w10 ⟨rfl, d10⟩
  have KS10 : Hid (Keeps w9 w10) := d10.keeps
  clear d10
  have K10 : Hid (Keeps w w10) := Keeps.trans K9.out KS10.out
  have Z10 : Hid (w9.heap.size ≤ w10.heap.size) := KS10.out.size
  have T3_10 := Lib.hid (T3_9.out.keep KS10.out)
  clear T3_9
  have T4_10 := Lib.hid (T4_9.out.keep KS10.out)
  clear T4_9
  have T5_10 := Lib.hid (T5_9.out.keep KS10.out)
  clear T5_9
  have T6_10 := Lib.hid (T6_9.out.keep KS10.out)
  clear T6_9
  have T8_10 := Lib.hid (T8_9.out.keep KS10.out)
  clear T8_9
  have T9_10 := Lib.hid (T9.out.keep KS10.out)
  clear T9
  have c0_10 := cell_keep KS10.out c0_9
  clear c0_9
  have c1_10 := cell_keep KS10.out c1_9
  clear c1_9
  have c2_10 := cell_keep KS10.out c2_9
  clear c2_9
  have c3_10 := cell_keep KS10.out c3_9
  clear c3_9
  go_wp2_with fail
  have SK : Hid (∀ W : World, Keeps w10 W → W.cell? ⟨w.heap.size, 0, none⟩ = some (.int .i64 l0.labels) ∧ W.cell? ⟨w.heap.size, 1, none⟩ = some (.slice p0a1 l0.arcs.length p0c1) ∧ W.cell? ⟨w6.heap.size, 0, none⟩ = some (.int .i64 l0.labels) ∧ W.cell? ⟨w6.heap.size, 1, none⟩ = some (.slice t6a1 l0.arcs.length t6c1)) := fun W k => ⟨cell_keep k c0_10, cell_keep k c1_10, cell_keep k c2_10, cell_keep k c3_10⟩
  have KD : Hid (Keeps w10 w10.drew) := (Keeps.refl _).drew
  go_region_held3 (fun W => W.cell? ⟨w.heap.size, 0, none⟩ = some (.int .i64 l0.labels) ∧ W.cell? ⟨w.heap.size, 1, none⟩ = some (.slice p0a1 l0.arcs.length p0c1) ∧ W.cell? ⟨w6.heap.size, 0, none⟩ = some (.int .i64 l0.labels) ∧ W.cell? ⟨w6.heap.size, 1, none⟩ = some (.slice t6a1 l0.arcs.length t6c1)) (first | exact SK.out _ KD.out | exact SK.out _ (Keeps.trans KD.out KS11'.out) | exact SK.out _ (Keeps.trans KD.out (Keeps.trans KS11'.out KS12.out)))
    ((first
      | (go_at_call 24; refine (toWalkProblem_any _ l0 _ (R0.out.keep (Keeps.trans K10.out KD.out)) s0).mono ?_; rintro e w11 ⟨tt, rfl, o11, k11⟩; obtain ⟨t11a1, t11c1, rfl⟩ := o11.rd.shape; have T11 := Lib.hid o11; have KS11' := Lib.hid k11; clear o11 k11)
      | (go_at_call 27; refine (eqWalkProblem_same _ _ l0 _ ((T6_10.out.rd).keep (Keeps.trans KD.out KS11'.out)) T11.out.rd).mono ?_; rintro e w12 ⟨rfl, k12⟩; have KS12 := Lib.hid k12; clear k12)))
  have KS11 : Hid (Keeps w10 w11) := Keeps.trans KD.out KS11'.out
  have K11 : Hid (Keeps w w11) := Keeps.trans K10.out KS11.out
  have Z11 : Hid (w10.heap.size ≤ w11.heap.size) := KS11.out.size
  have T3_11 := Lib.hid (T3_10.out.keep KS11.out)
  clear T3_10
  have T4_11 := Lib.hid (T4_10.out.keep KS11.out)
  clear T4_10
  have T5_11 := Lib.hid (T5_10.out.keep KS11.out)
  clear T5_10
  have T6_11 := Lib.hid (T6_10.out.keep KS11.out)
  clear T6_10
  have T8_11 := Lib.hid (T8_10.out.keep KS11.out)
  clear T8_10
  have T9_11 := Lib.hid (T9_10.out.keep KS11.out)
  clear T9_10
  have c0_11 := cell_keep KS11.out c0_10
  clear c0_10
  have c1_11 := cell_keep KS11.out c1_10
  clear c1_10
  have c2_11 := cell_keep KS11.out c2_10
  clear c2_10
  have c3_11 := cell_keep KS11.out c3_10
  clear c3_10
  have K12 : Hid (Keeps w w12) := Keeps.trans K11.out KS12.out
  have Z12 : Hid (w11.heap.size ≤ w12.heap.size) := KS12.out.size
  have T3_12 := Lib.hid (T3_11.out.keep KS12.out)
  clear T3_11
  have T4_12 := Lib.hid (T4_11.out.keep KS12.out)
  clear T4_11
  have T5_12 := Lib.hid (T5_11.out.keep KS12.out)
  clear T5_11
  have T6_12 := Lib.hid (T6_11.out.keep KS12.out)
  clear T6_11
  have T8_12 := Lib.hid (T8_11.out.keep KS12.out)
  clear T8_11
  have T9_12 := Lib.hid (T9_11.out.keep KS12.out)
  clear T9_11
  have c0_12 := cell_keep KS12.out c0_11
  clear c0_11
  have c1_12 := cell_keep KS12.out c1_11
  clear c1_11
  have c2_12 := cell_keep KS12.out c2_11
  clear c2_11
  have c3_12 := cell_keep KS12.out c3_11
  clear c3_11
  clear SK KD
  go_wp2_with fail
  refine (toIntS_any _ l3 _ (R3.out.keep K12.out) s3).mono ?_
  rintro e w13 ⟨t13, rfl, o13, k13⟩
  have T13 := Lib.hid o13.owI
  clear o13
  have KS13 : Hid (Keeps w12 w13) := k13
  clear k13
  have K13 : Hid (Keeps w w13) := Keeps.trans K12.out KS13.out
  have Z13 : Hid (w12.heap.size ≤ w13.heap.size) := KS13.out.size
  have T3_13 := Lib.hid (T3_12.out.keep KS13.out)
  clear T3_12
  have T4_13 := Lib.hid (T4_12.out.keep KS13.out)
  clear T4_12
  have T5_13 := Lib.hid (T5_12.out.keep KS13.out)
  clear T5_12
  have T6_13 := Lib.hid (T6_12.out.keep KS13.out)
  clear T6_12
  have T8_13 := Lib.hid (T8_12.out.keep KS13.out)
  clear T8_12
  have T9_13 := Lib.hid (T9_12.out.keep KS13.out)
  clear T9_12
  have c0_13 := cell_keep KS13.out c0_12
  clear c0_12
  have c1_13 := cell_keep KS13.out c1_12
  clear c1_12
  have c2_13 := cell_keep KS13.out c2_12
  clear c2_12
  have c3_13 := cell_keep KS13.out c3_12
  clear c3_12
  go_wp2_with fail
  refine (eqIntS_any t8 t13 _ _ _ (T8_13.out.ints) (T13.out.ints)).mono ?_
  rintro e w14 ⟨rfl, d14⟩
  have KS14 : Hid (Keeps w13 w14) := d14.keeps
  clear d14
  have K14 : Hid (Keeps w w14) := Keeps.trans K13.out KS14.out
  have Z14 : Hid (w13.heap.size ≤ w14.heap.size) := KS14.out.size
  have T3_14 := Lib.hid (T3_13.out.keep KS14.out)
  clear T3_13
  have T4_14 := Lib.hid (T4_13.out.keep KS14.out)
  clear T4_13
  have T5_14 := Lib.hid (T5_13.out.keep KS14.out)
  clear T5_13
  have T6_14 := Lib.hid (T6_13.out.keep KS14.out)
  clear T6_13
  have T8_14 := Lib.hid (T8_13.out.keep KS14.out)
  clear T8_13
  have T9_14 := Lib.hid (T9_13.out.keep KS14.out)
  clear T9_13
  have T13_14 := Lib.hid (T13.out.keep KS14.out)
  clear T13
  have c0_14 := cell_keep KS14.out c0_13
  clear c0_13
  have c1_14 := cell_keep KS14.out c1_13
  clear c1_13
  have c2_14 := cell_keep KS14.out c2_13
  clear c2_13
  have c3_14 := cell_keep KS14.out c3_13
  clear c3_13
  go_wp2_with fail
  have CL15 := cntW_le l0
  refine (markWalkProblem_any w5.heap.size w6.heap.size _ l0 1 _ T6_14.out (by have := Z1.out; have := Z2.out; have := Z3.out; have := Z4.out; have := Z5.out; have := Z6.out; have := Z7.out; have := Z8.out; have := Z9.out; have := Z10.out; have := Z11.out; have := Z12.out; have := Z13.out; have := Z14.out; omega) (by omega) (by omega)).mono ?_
  rintro e w15 ⟨rfl, o15, g15⟩
  have G15 : Hid (Chg w5.heap.size w6.heap.size w14 w15) := g15
  have T6_15 := Lib.hid o15
  clear o15 g15 T6_14
  have Z15 : Hid (w14.heap.size ≤ w15.heap.size) := G15.out.size
  have K15 : Hid (Keeps w w15) := G15.out.keeps K14.out (by have := Z1.out; have := Z2.out; have := Z3.out; have := Z4.out; have := Z5.out; have := Z6.out; have := Z7.out; have := Z8.out; have := Z9.out; have := Z10.out; have := Z11.out; have := Z12.out; have := Z13.out; have := Z14.out; have := Z15.out; omega)
  have T3_15 := Lib.hid (T3_14.out.chg G15.out (by have := Z1.out; have := Z2.out; have := Z3.out; have := Z4.out; have := Z5.out; have := Z6.out; have := Z7.out; have := Z8.out; have := Z9.out; have := Z10.out; have := Z11.out; have := Z12.out; have := Z13.out; have := Z14.out; have := Z15.out; omega))
  clear T3_14
  have T4_15 := Lib.hid (T4_14.out.chg G15.out (by have := Z1.out; have := Z2.out; have := Z3.out; have := Z4.out; have := Z5.out; have := Z6.out; have := Z7.out; have := Z8.out; have := Z9.out; have := Z10.out; have := Z11.out; have := Z12.out; have := Z13.out; have := Z14.out; have := Z15.out; omega))
  clear T4_14
  have T5_15 := Lib.hid (T5_14.out.chg G15.out (by have := Z1.out; have := Z2.out; have := Z3.out; have := Z4.out; have := Z5.out; have := Z6.out; have := Z7.out; have := Z8.out; have := Z9.out; have := Z10.out; have := Z11.out; have := Z12.out; have := Z13.out; have := Z14.out; have := Z15.out; omega))
  clear T5_14
  have T8_15 := Lib.hid (T8_14.out.chg G15.out (by have := Z1.out; have := Z2.out; have := Z3.out; have := Z4.out; have := Z5.out; have := Z6.out; have := Z7.out; have := Z8.out; have := Z9.out; have := Z10.out; have := Z11.out; have := Z12.out; have := Z13.out; have := Z14.out; have := Z15.out; omega))
  clear T8_14
  have T9_15 := Lib.hid (T9_14.out.chg G15.out (by have := Z1.out; have := Z2.out; have := Z3.out; have := Z4.out; have := Z5.out; have := Z6.out; have := Z7.out; have := Z8.out; have := Z9.out; have := Z10.out; have := Z11.out; have := Z12.out; have := Z13.out; have := Z14.out; have := Z15.out; omega))
  clear T9_14
  have T13_15 := Lib.hid (T13_14.out.chg G15.out (by have := Z1.out; have := Z2.out; have := Z3.out; have := Z4.out; have := Z5.out; have := Z6.out; have := Z7.out; have := Z8.out; have := Z9.out; have := Z10.out; have := Z11.out; have := Z12.out; have := Z13.out; have := Z14.out; have := Z15.out; omega))
  clear T13_14
  have c0_15 := (World.cell?_of_block (a := ⟨w.heap.size, 0, none⟩) (G15.out.block (w.heap.size) (by have := Z1.out; have := Z2.out; have := Z3.out; have := Z4.out; have := Z5.out; have := Z6.out; have := Z7.out; have := Z8.out; have := Z9.out; have := Z10.out; have := Z11.out; have := Z12.out; have := Z13.out; have := Z14.out; have := Z15.out; have := Z1'.out; (try simp only); omega) (by have := Z1.out; have := Z2.out; have := Z3.out; have := Z4.out; have := Z5.out; have := Z6.out; have := Z7.out; have := Z8.out; have := Z9.out; have := Z10.out; have := Z11.out; have := Z12.out; have := Z13.out; have := Z14.out; have := Z15.out; have := Z1'.out; (try simp only); omega))).trans c0_14
  clear c0_14
  have c1_15 := (World.cell?_of_block (a := ⟨w.heap.size, 1, none⟩) (G15.out.block (w.heap.size) (by have := Z1.out; have := Z2.out; have := Z3.out; have := Z4.out; have := Z5.out; have := Z6.out; have := Z7.out; have := Z8.out; have := Z9.out; have := Z10.out; have := Z11.out; have := Z12.out; have := Z13.out; have := Z14.out; have := Z15.out; have := Z1'.out; (try simp only); omega) (by have := Z1.out; have := Z2.out; have := Z3.out; have := Z4.out; have := Z5.out; have := Z6.out; have := Z7.out; have := Z8.out; have := Z9.out; have := Z10.out; have := Z11.out; have := Z12.out; have := Z13.out; have := Z14.out; have := Z15.out; have := Z1'.out; (try simp only); omega))).trans c1_14
  clear c1_14
  have c2_15 := (World.cell?_of_block (a := ⟨w6.heap.size, 0, none⟩) (G15.out.block (w6.heap.size) (by have := Z1.out; have := Z2.out; have := Z3.out; have := Z4.out; have := Z5.out; have := Z6.out; have := Z7.out; have := Z8.out; have := Z9.out; have := Z10.out; have := Z11.out; have := Z12.out; have := Z13.out; have := Z14.out; have := Z15.out; have := Z7'.out; (try simp only); omega) (by have := Z1.out; have := Z2.out; have := Z3.out; have := Z4.out; have := Z5.out; have := Z6.out; have := Z7.out; have := Z8.out; have := Z9.out; have := Z10.out; have := Z11.out; have := Z12.out; have := Z13.out; have := Z14.out; have := Z15.out; have := Z7'.out; (try simp only); omega))).trans c2_14
  clear c2_14
  have c3_15 := (World.cell?_of_block (a := ⟨w6.heap.size, 1, none⟩) (G15.out.block (w6.heap.size) (by have := Z1.out; have := Z2.out; have := Z3.out; have := Z4.out; have := Z5.out; have := Z6.out; have := Z7.out; have := Z8.out; have := Z9.out; have := Z10.out; have := Z11.out; have := Z12.out; have := Z13.out; have := Z14.out; have := Z15.out; have := Z7'.out; (try simp only); omega) (by have := Z1.out; have := Z2.out; have := Z3.out; have := Z4.out; have := Z5.out; have := Z6.out; have := Z7.out; have := Z8.out; have := Z9.out; have := Z10.out; have := Z11.out; have := Z12.out; have := Z13.out; have := Z14.out; have := Z15.out; have := Z7'.out; (try simp only); omega))).trans c3_14
  clear c3_14
  go_wp2_with fail
  refine (markIntS_any w7.heap.size t8 l3 (1 + (cntW l0 : Nat)) _ T8_15.out.own (by omega) (by omega)).mono ?_
  rintro e w16 ⟨rfl, o16, g16⟩
  have G16 : Hid (Chg w7.heap.size w8.heap.size w15 w16) := Chg.of_grown g16 fun q hq => ⟨(T8_15.out.own.lt q hq).1, T8_15.out.hi q hq⟩
  have T8_16 : Hid (OwI w7.heap.size w8.heap.size w16 t8 (iota (1 + (cntW l0 : Nat)) l3.length)) := ⟨o16, T8_15.out.hi⟩
  clear o16 g16 T8_15
  have Z16 : Hid (w15.heap.size ≤ w16.heap.size) := G16.out.size
  have K16 : Hid (Keeps w w16) := G16.out.keeps K15.out (by have := Z1.out; have := Z2.out; have := Z3.out; have := Z4.out; have := Z5.out; have := Z6.out; have := Z7.out; have := Z8.out; have := Z9.out; have := Z10.out; have := Z11.out; have := Z12.out; have := Z13.out; have := Z14.out; have := Z15.out; have := Z16.out; omega)
  have T3_16 := Lib.hid (T3_15.out.chg G16.out (by have := Z1.out; have := Z2.out; have := Z3.out; have := Z4.out; have := Z5.out; have := Z6.out; have := Z7.out; have := Z8.out; have := Z9.out; have := Z10.out; have := Z11.out; have := Z12.out; have := Z13.out; have := Z14.out; have := Z15.out; have := Z16.out; omega))
  clear T3_15
  have T4_16 := Lib.hid (T4_15.out.chg G16.out (by have := Z1.out; have := Z2.out; have := Z3.out; have := Z4.out; have := Z5.out; have := Z6.out; have := Z7.out; have := Z8.out; have := Z9.out; have := Z10.out; have := Z11.out; have := Z12.out; have := Z13.out; have := Z14.out; have := Z15.out; have := Z16.out; omega))
  clear T4_15
  have T5_16 := Lib.hid (T5_15.out.chg G16.out (by have := Z1.out; have := Z2.out; have := Z3.out; have := Z4.out; have := Z5.out; have := Z6.out; have := Z7.out; have := Z8.out; have := Z9.out; have := Z10.out; have := Z11.out; have := Z12.out; have := Z13.out; have := Z14.out; have := Z15.out; have := Z16.out; omega))
  clear T5_15
  have T6_16 := Lib.hid (T6_15.out.chg G16.out (by have := Z1.out; have := Z2.out; have := Z3.out; have := Z4.out; have := Z5.out; have := Z6.out; have := Z7.out; have := Z8.out; have := Z9.out; have := Z10.out; have := Z11.out; have := Z12.out; have := Z13.out; have := Z14.out; have := Z15.out; have := Z16.out; omega))
  clear T6_15
  have T9_16 := Lib.hid (T9_15.out.chg G16.out (by have := Z1.out; have := Z2.out; have := Z3.out; have := Z4.out; have := Z5.out; have := Z6.out; have := Z7.out; have := Z8.out; have := Z9.out; have := Z10.out; have := Z11.out; have := Z12.out; have := Z13.out; have := Z14.out; have := Z15.out; have := Z16.out; omega))
  clear T9_15
  have T13_16 := Lib.hid (T13_15.out.chg G16.out (by have := Z1.out; have := Z2.out; have := Z3.out; have := Z4.out; have := Z5.out; have := Z6.out; have := Z7.out; have := Z8.out; have := Z9.out; have := Z10.out; have := Z11.out; have := Z12.out; have := Z13.out; have := Z14.out; have := Z15.out; have := Z16.out; omega))
  clear T13_15
  have c0_16 := (World.cell?_of_block (a := ⟨w.heap.size, 0, none⟩) (G16.out.block (w.heap.size) (by have := Z1.out; have := Z2.out; have := Z3.out; have := Z4.out; have := Z5.out; have := Z6.out; have := Z7.out; have := Z8.out; have := Z9.out; have := Z10.out; have := Z11.out; have := Z12.out; have := Z13.out; have := Z14.out; have := Z15.out; have := Z16.out; have := Z1'.out; (try simp only); omega) (by have := Z1.out; have := Z2.out; have := Z3.out; have := Z4.out; have := Z5.out; have := Z6.out; have := Z7.out; have := Z8.out; have := Z9.out; have := Z10.out; have := Z11.out; have := Z12.out; have := Z13.out; have := Z14.out; have := Z15.out; have := Z16.out; have := Z1'.out; (try simp only); omega))).trans c0_15
  clear c0_15
  have c1_16 := (World.cell?_of_block (a := ⟨w.heap.size, 1, none⟩) (G16.out.block (w.heap.size) (by have := Z1.out; have := Z2.out; have := Z3.out; have := Z4.out; have := Z5.out; have := Z6.out; have := Z7.out; have := Z8.out; have := Z9.out; have := Z10.out; have := Z11.out; have := Z12.out; have := Z13.out; have := Z14.out; have := Z15.out; have := Z16.out; have := Z1'.out; (try simp only); omega) (by have := Z1.out; have := Z2.out; have := Z3.out; have := Z4.out; have := Z5.out; have := Z6.out; have := Z7.out; have := Z8.out; have := Z9.out; have := Z10.out; have := Z11.out; have := Z12.out; have := Z13.out; have := Z14.out; have := Z15.out; have := Z16.out; have := Z1'.out; (try simp only); omega))).trans c1_15
  clear c1_15
  have c2_16 := (World.cell?_of_block (a := ⟨w6.heap.size, 0, none⟩) (G16.out.block (w6.heap.size) (by have := Z1.out; have := Z2.out; have := Z3.out; have := Z4.out; have := Z5.out; have := Z6.out; have := Z7.out; have := Z8.out; have := Z9.out; have := Z10.out; have := Z11.out; have := Z12.out; have := Z13.out; have := Z14.out; have := Z15.out; have := Z16.out; have := Z7'.out; (try simp only); omega) (by have := Z1.out; have := Z2.out; have := Z3.out; have := Z4.out; have := Z5.out; have := Z6.out; have := Z7.out; have := Z8.out; have := Z9.out; have := Z10.out; have := Z11.out; have := Z12.out; have := Z13.out; have := Z14.out; have := Z15.out; have := Z16.out; have := Z7'.out; (try simp only); omega))).trans c2_15
  clear c2_15
  have c3_16 := (World.cell?_of_block (a := ⟨w6.heap.size, 1, none⟩) (G16.out.block (w6.heap.size) (by have := Z1.out; have := Z2.out; have := Z3.out; have := Z4.out; have := Z5.out; have := Z6.out; have := Z7.out; have := Z8.out; have := Z9.out; have := Z10.out; have := Z11.out; have := Z12.out; have := Z13.out; have := Z14.out; have := Z15.out; have := Z16.out; have := Z7'.out; (try simp only); omega) (by have := Z1.out; have := Z2.out; have := Z3.out; have := Z4.out; have := Z5.out; have := Z6.out; have := Z7.out; have := Z8.out; have := Z9.out; have := Z10.out; have := Z11.out; have := Z12.out; have := Z13.out; have := Z14.out; have := Z15.out; have := Z16.out; have := Z7'.out; (try simp only); omega))).trans c3_15
  clear c3_15
  go_wp2_with fail
  refine (eqIntS_any x9 x5 _ _ _ (T9_16.out.ints) (T5_16.out.ints)).mono ?_
  rintro e w17 ⟨rfl, d17⟩
  have KS17 : Hid (Keeps w16 w17) := d17.keeps
  clear d17
  have K17 : Hid (Keeps w w17) := Keeps.trans K16.out KS17.out
  have Z17 : Hid (w16.heap.size ≤ w17.heap.size) := KS17.out.size
  have T3_17 := Lib.hid (T3_16.out.keep KS17.out)
  clear T3_16
  have T4_17 := Lib.hid (T4_16.out.keep KS17.out)
  clear T4_16
  have T5_17 := Lib.hid (T5_16.out.keep KS17.out)
  clear T5_16
  have T6_17 := Lib.hid (T6_16.out.keep KS17.out)
  clear T6_16
  have T8_17 := Lib.hid (T8_16.out.keep KS17.out)
  clear T8_16
  have T9_17 := Lib.hid (T9_16.out.keep KS17.out)
  clear T9_16
  have T13_17 := Lib.hid (T13_16.out.keep KS17.out)
  clear T13_16
  have c0_17 := cell_keep KS17.out c0_16
  clear c0_16
  have c1_17 := cell_keep KS17.out c1_16
  clear c1_16
  have c2_17 := cell_keep KS17.out c2_16
  clear c2_16
  have c3_17 := cell_keep KS17.out c3_16
  clear c3_16
  go_wp2_with fail
  refine (markIntS_any w8.heap.size x9 L 1 _ T9_17.out.own (by omega) (by omega)).mono ?_
  rintro e w18 ⟨rfl, o18, g18⟩
  have G18 : Hid (Chg w8.heap.size w9.heap.size w17 w18) := Chg.of_grown g18 fun q hq => ⟨(T9_17.out.own.lt q hq).1, T9_17.out.hi q hq⟩
  have T9_18 : Hid (OwI w8.heap.size w9.heap.size w18 x9 (iota 1 L.length)) := ⟨o18, T9_17.out.hi⟩
  clear o18 g18 T9_17
  have Z18 : Hid (w17.heap.size ≤ w18.heap.size) := G18.out.size
  have K18 : Hid (Keeps w w18) := G18.out.keeps K17.out (by have := Z1.out; have := Z2.out; have := Z3.out; have := Z4.out; have := Z5.out; have := Z6.out; have := Z7.out; have := Z8.out; have := Z9.out; have := Z10.out; have := Z11.out; have := Z12.out; have := Z13.out; have := Z14.out; have := Z15.out; have := Z16.out; have := Z17.out; have := Z18.out; omega)
  have T3_18 := Lib.hid (T3_17.out.chg G18.out (by have := Z1.out; have := Z2.out; have := Z3.out; have := Z4.out; have := Z5.out; have := Z6.out; have := Z7.out; have := Z8.out; have := Z9.out; have := Z10.out; have := Z11.out; have := Z12.out; have := Z13.out; have := Z14.out; have := Z15.out; have := Z16.out; have := Z17.out; have := Z18.out; omega))
  clear T3_17
  have T4_18 := Lib.hid (T4_17.out.chg G18.out (by have := Z1.out; have := Z2.out; have := Z3.out; have := Z4.out; have := Z5.out; have := Z6.out; have := Z7.out; have := Z8.out; have := Z9.out; have := Z10.out; have := Z11.out; have := Z12.out; have := Z13.out; have := Z14.out; have := Z15.out; have := Z16.out; have := Z17.out; have := Z18.out; omega))
  clear T4_17
  have T5_18 := Lib.hid (T5_17.out.chg G18.out (by have := Z1.out; have := Z2.out; have := Z3.out; have := Z4.out; have := Z5.out; have := Z6.out; have := Z7.out; have := Z8.out; have := Z9.out; have := Z10.out; have := Z11.out; have := Z12.out; have := Z13.out; have := Z14.out; have := Z15.out; have := Z16.out; have := Z17.out; have := Z18.out; omega))
  clear T5_17
  have T6_18 := Lib.hid (T6_17.out.chg G18.out (by have := Z1.out; have := Z2.out; have := Z3.out; have := Z4.out; have := Z5.out; have := Z6.out; have := Z7.out; have := Z8.out; have := Z9.out; have := Z10.out; have := Z11.out; have := Z12.out; have := Z13.out; have := Z14.out; have := Z15.out; have := Z16.out; have := Z17.out; have := Z18.out; omega))
  clear T6_17
  have T8_18 := Lib.hid (T8_17.out.chg G18.out (by have := Z1.out; have := Z2.out; have := Z3.out; have := Z4.out; have := Z5.out; have := Z6.out; have := Z7.out; have := Z8.out; have := Z9.out; have := Z10.out; have := Z11.out; have := Z12.out; have := Z13.out; have := Z14.out; have := Z15.out; have := Z16.out; have := Z17.out; have := Z18.out; omega))
  clear T8_17
  have T13_18 := Lib.hid (T13_17.out.chg G18.out (by have := Z1.out; have := Z2.out; have := Z3.out; have := Z4.out; have := Z5.out; have := Z6.out; have := Z7.out; have := Z8.out; have := Z9.out; have := Z10.out; have := Z11.out; have := Z12.out; have := Z13.out; have := Z14.out; have := Z15.out; have := Z16.out; have := Z17.out; have := Z18.out; omega))
  clear T13_17
  have c0_18 := (World.cell?_of_block (a := ⟨w.heap.size, 0, none⟩) (G18.out.block (w.heap.size) (by have := Z1.out; have := Z2.out; have := Z3.out; have := Z4.out; have := Z5.out; have := Z6.out; have := Z7.out; have := Z8.out; have := Z9.out; have := Z10.out; have := Z11.out; have := Z12.out; have := Z13.out; have := Z14.out; have := Z15.out; have := Z16.out; have := Z17.out; have := Z18.out; have := Z1'.out; (try simp only); omega) (by have := Z1.out; have := Z2.out; have := Z3.out; have := Z4.out; have := Z5.out; have := Z6.out; have := Z7.out; have := Z8.out; have := Z9.out; have := Z10.out; have := Z11.out; have := Z12.out; have := Z13.out; have := Z14.out; have := Z15.out; have := Z16.out; have := Z17.out; have := Z18.out; have := Z1'.out; (try simp only); omega))).trans c0_17
  clear c0_17
  have c1_18 := (World.cell?_of_block (a := ⟨w.heap.size, 1, none⟩) (G18.out.block (w.heap.size) (by have := Z1.out; have := Z2.out; have := Z3.out; have := Z4.out; have := Z5.out; have := Z6.out; have := Z7.out; have := Z8.out; have := Z9.out; have := Z10.out; have := Z11.out; have := Z12.out; have := Z13.out; have := Z14.out; have := Z15.out; have := Z16.out; have := Z17.out; have := Z18.out; have := Z1'.out; (try simp only); omega) (by have := Z1.out; have := Z2.out; have := Z3.out; have := Z4.out; have := Z5.out; have := Z6.out; have := Z7.out; have := Z8.out; have := Z9.out; have := Z10.out; have := Z11.out; have := Z12.out; have := Z13.out; have := Z14.out; have := Z15.out; have := Z16.out; have := Z17.out; have := Z18.out; have := Z1'.out; (try simp only); omega))).trans c1_17
  clear c1_17
  have c2_18 := (World.cell?_of_block (a := ⟨w6.heap.size, 0, none⟩) (G18.out.block (w6.heap.size) (by have := Z1.out; have := Z2.out; have := Z3.out; have := Z4.out; have := Z5.out; have := Z6.out; have := Z7.out; have := Z8.out; have := Z9.out; have := Z10.out; have := Z11.out; have := Z12.out; have := Z13.out; have := Z14.out; have := Z15.out; have := Z16.out; have := Z17.out; have := Z18.out; have := Z7'.out; (try simp only); omega) (by have := Z1.out; have := Z2.out; have := Z3.out; have := Z4.out; have := Z5.out; have := Z6.out; have := Z7.out; have := Z8.out; have := Z9.out; have := Z10.out; have := Z11.out; have := Z12.out; have := Z13.out; have := Z14.out; have := Z15.out; have := Z16.out; have := Z17.out; have := Z18.out; have := Z7'.out; (try simp only); omega))).trans c2_17
  clear c2_17
  have c3_18 := (World.cell?_of_block (a := ⟨w6.heap.size, 1, none⟩) (G18.out.block (w6.heap.size) (by have := Z1.out; have := Z2.out; have := Z3.out; have := Z4.out; have := Z5.out; have := Z6.out; have := Z7.out; have := Z8.out; have := Z9.out; have := Z10.out; have := Z11.out; have := Z12.out; have := Z13.out; have := Z14.out; have := Z15.out; have := Z16.out; have := Z17.out; have := Z18.out; have := Z7'.out; (try simp only); omega) (by have := Z1.out; have := Z2.out; have := Z3.out; have := Z4.out; have := Z5.out; have := Z6.out; have := Z7.out; have := Z8.out; have := Z9.out; have := Z10.out; have := Z11.out; have := Z12.out; have := Z13.out; have := Z14.out; have := Z15.out; have := Z16.out; have := Z17.out; have := Z18.out; have := Z7'.out; (try simp only); omega))).trans c3_17
  clear c3_17
  go_wp2_with fail
  refine (heldIntS_any x9 L 1 _ (T9_18.out.ints) (by omega) (by omega)).mono ?_
  rintro e wh ⟨rfl, rfl⟩
  go_wp2_with fail
  refine (toWalkProblem_any _ l0 _ (R0.out.keep K18.out) s0).mono ?_
  rintro e w19 ⟨t19, rfl, o19, k19⟩
  obtain ⟨t19a1, t19c1, rfl⟩ := o19.rd.shape
  have T19 := Lib.hid o19
  clear o19
  have KS19 : Hid (Keeps w18 w19) := k19
  clear k19
  have K19 : Hid (Keeps w w19) := Keeps.trans K18.out KS19.out
  have Z19 : Hid (w18.heap.size ≤ w19.heap.size) := KS19.out.size
  have T3_19 := Lib.hid (T3_18.out.keep KS19.out)
  clear T3_18
  have T4_19 := Lib.hid (T4_18.out.keep KS19.out)
  clear T4_18
  have T5_19 := Lib.hid (T5_18.out.keep KS19.out)
  clear T5_18
  have T6_19 := Lib.hid (T6_18.out.keep KS19.out)
  clear T6_18
  have T8_19 := Lib.hid (T8_18.out.keep KS19.out)
  clear T8_18
  have T9_19 := Lib.hid (T9_18.out.keep KS19.out)
  clear T9_18
  have T13_19 := Lib.hid (T13_18.out.keep KS19.out)
  clear T13_18
  have c0_19 := cell_keep KS19.out c0_18
  clear c0_18
  have c1_19 := cell_keep KS19.out c1_18
  clear c1_18
  have c2_19 := cell_keep KS19.out c2_18
  clear c2_18
  have c3_19 := cell_keep KS19.out c3_18
  clear c3_18
  go_wp2_with fail
  refine (toIntS_any _ l3 _ (R3.out.keep K19.out) s3).mono ?_
  rintro e w20 ⟨t20, rfl, o20, k20⟩
  have T20 := Lib.hid o20.owI
  clear o20
  have KS20 : Hid (Keeps w19 w20) := k20
  clear k20
  have K20 : Hid (Keeps w w20) := Keeps.trans K19.out KS20.out
  have Z20 : Hid (w19.heap.size ≤ w20.heap.size) := KS20.out.size
  have T3_20 := Lib.hid (T3_19.out.keep KS20.out)
  clear T3_19
  have T4_20 := Lib.hid (T4_19.out.keep KS20.out)
  clear T4_19
  have T5_20 := Lib.hid (T5_19.out.keep KS20.out)
  clear T5_19
  have T6_20 := Lib.hid (T6_19.out.keep KS20.out)
  clear T6_19
  have T8_20 := Lib.hid (T8_19.out.keep KS20.out)
  clear T8_19
  have T9_20 := Lib.hid (T9_19.out.keep KS20.out)
  clear T9_19
  have T13_20 := Lib.hid (T13_19.out.keep KS20.out)
  clear T13_19
  have T19_20 := Lib.hid (T19.out.keep KS20.out)
  clear T19
  have c0_20 := cell_keep KS20.out c0_19
  clear c0_19
  have c1_20 := cell_keep KS20.out c1_19
  clear c1_19
  have c2_20 := cell_keep KS20.out c2_19
  clear c2_19
  have c3_20 := cell_keep KS20.out c3_19
  clear c3_19
  go_wp2_with fail
  refine (implFillCycle_any (.agg #[.int .i64 l0.labels, .slice t19a1 l0.arcs.length t19c1]) l0 a1 a2 t20 l3 _ (T19_20.out.rd) IL0.out s0 ia1 ia2 (T20.out.ints) IL3.out s3).mono ?_
  rw [HE.out]
  rintro e w21 ⟨x21, rfl, o21, b21, k21⟩
  rw [HL.out] at o21
  have T21 := Lib.hid o21.owI
  clear o21 b21
  have KS21 : Hid (Keeps w20 w21) := k21
  clear k21
  have K21 : Hid (Keeps w w21) := Keeps.trans K20.out KS21.out
  have Z21 : Hid (w20.heap.size ≤ w21.heap.size) := KS21.out.size
  have T3_21 := Lib.hid (T3_20.out.keep KS21.out)
  clear T3_20
  have T4_21 := Lib.hid (T4_20.out.keep KS21.out)
  clear T4_20
  have T5_21 := Lib.hid (T5_20.out.keep KS21.out)
  clear T5_20
  have T6_21 := Lib.hid (T6_20.out.keep KS21.out)
  clear T6_20
  have T8_21 := Lib.hid (T8_20.out.keep KS21.out)
  clear T8_20
  have T9_21 := Lib.hid (T9_20.out.keep KS21.out)
  clear T9_20
  have T13_21 := Lib.hid (T13_20.out.keep KS21.out)
  clear T13_20
  have T19_21 := Lib.hid (T19_20.out.keep KS21.out)
  clear T19_20
  have T20_21 := Lib.hid (T20.out.keep KS21.out)
  clear T20
  have c0_21 := cell_keep KS21.out c0_20
  clear c0_20
  have c1_21 := cell_keep KS21.out c1_20
  clear c1_20
  have c2_21 := cell_keep KS21.out c2_20
  clear c2_20
  have c3_21 := cell_keep KS21.out c3_20
  clear c3_20
  go_wp2_with fail
  refine (eqIntS_any x21 x5 _ _ _ (T21.out.ints) (T5_21.out.ints)).mono ?_
  rintro e w22 ⟨rfl, d22⟩
  have KS22 : Hid (Keeps w21 w22) := d22.keeps
  clear d22
  have K22 : Hid (Keeps w w22) := Keeps.trans K21.out KS22.out
  have Z22 : Hid (w21.heap.size ≤ w22.heap.size) := KS22.out.size
  have T3_22 := Lib.hid (T3_21.out.keep KS22.out)
  clear T3_21
  have T4_22 := Lib.hid (T4_21.out.keep KS22.out)
  clear T4_21
  have T5_22 := Lib.hid (T5_21.out.keep KS22.out)
  clear T5_21
  have T6_22 := Lib.hid (T6_21.out.keep KS22.out)
  clear T6_21
  have T8_22 := Lib.hid (T8_21.out.keep KS22.out)
  clear T8_21
  have T9_22 := Lib.hid (T9_21.out.keep KS22.out)
  clear T9_21
  have T13_22 := Lib.hid (T13_21.out.keep KS22.out)
  clear T13_21
  have T19_22 := Lib.hid (T19_21.out.keep KS22.out)
  clear T19_21
  have T20_22 := Lib.hid (T20_21.out.keep KS22.out)
  clear T20_21
  have T21_22 := Lib.hid (T21.out.keep KS22.out)
  clear T21
  have c0_22 := cell_keep KS22.out c0_21
  clear c0_21
  have c1_22 := cell_keep KS22.out c1_21
  clear c1_21
  have c2_22 := cell_keep KS22.out c2_21
  clear c2_21
  have c3_22 := cell_keep KS22.out c3_21
  clear c3_21
  go_wp2_with fail
  refine (heldIntS_any x9 L 1 _ (T9_22.out.ints) (by omega) (by omega)).mono ?_
  rintro e wh ⟨rfl, rfl⟩
  go_wp2_with fail
  go_ret
  exact ⟨rfl, K22.out⟩

set_option maxHeartbeats 1600000 in
theorem lawFillCycle (v0 : Value) (l0 : WP) (a1 : Int) (ia1 : I64 a1) (a2 : Int) (ia2 : I64 a2) (v3 : Value) (l3 : List Int) (w : World) (r0 : RdW w v0 l0) (il0 : okW l0) (r3 : Ints w v3 l3) (il3 : ∀ n ∈ l3, I64 n) : Calls Try.prog 5 #[v0, .int .i64 a1, .int .i64 a2, v3] w fun e w' => e = .returned (.bool true) ∧ Below w.heap.size w w' := by
  by_cases s3 : l3.length ≤ 1048576
  case neg =>
    have R0 := Lib.hid r0
    obtain ⟨p0a1, p0c1, rfl⟩ := r0.shape
    have R3 := Lib.hid r3
    obtain ⟨ad3, cp3, rfl, _⟩ := r3.form
    clear r0 il0 r3 il3
    have hgt : (1048576 : Int) < (l3.length : Int) := by omega
    go_enter Try.func5, Try.ntmps5
    go_wp2
    go_ret
    exact ⟨rfl, (by repeat (first | exact Keeps.refl _ | with_reducible refine Keeps.alloc ?_ _))⟩
  by_cases q0 : szW l0 ≤ 1048576
  case neg =>
    have R0 := Lib.hid r0
    obtain ⟨p0a1, p0c1, rfl⟩ := r0.shape
    have R3 := Lib.hid r3
    obtain ⟨ad3, cp3, rfl, _⟩ := r3.form
    clear r0 il0 r3 il3
    have hle3 : ¬ (1048576 : Int) < (l3.length : Int) := by omega
    go_enter Try.func5, Try.ntmps5
    go_wp2_with fail
    refine (szWalkProblem_any _ l0 (1048576) _ (R0.out.keep (by repeat (first | exact Keeps.refl _ | with_reducible refine Keeps.alloc ?_ _))) (by omega) (by omega)).mono ?_
    rintro e W0 ⟨rfl, k0⟩
    rw [szL, if_neg (by omega)]
    have KK0 : Hid (Keeps w W0) := Keeps.trans (by repeat (first | exact Keeps.refl _ | with_reducible refine Keeps.alloc ?_ _)) k0
    obtain ⟨hc0, hf0⟩ := bcell k0
    have hz0 := k0.size
    clear k0
    go_wp2
    go_ret
    exact ⟨rfl, KK0.out⟩
  exact lawFillCycle_small v0 l0 r0 il0 a1 ia1 a2 ia2 v3 l3 r3 il3 (by omega) s3
end Go.Proofs.Ytabclfacjaeblaa
