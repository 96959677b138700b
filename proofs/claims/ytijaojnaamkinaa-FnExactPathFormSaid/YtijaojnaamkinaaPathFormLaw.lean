/- The walk of laws.FnExactPathForm: it returns true at every input and changes nothing that was there. -/
import Derived.Test.YtijaojnaamkinaaPpf
import Derived.Test.YtijaojnaamkinaaRng
import Derived.Test.YtijaojnaamkinaaOpen
import Derived.Deep.RegionHeld3
namespace Go.Proofs.Ytijaojnaamkinaa
open Go.RowKit
set_option linter.unusedSimpArgs false
set_option linter.unusedVariables false

set_option maxRecDepth 100000 in
set_option maxHeartbeats 8000000 in
theorem lawPathForm_small {w : World} (v0 : Value) (l0 : RP) (r0 : RdR w v0 l0) (il0 : okR l0) (s0 : szR l0 ≤ 1048576) : Calls Try.prog 5 #[v0] w fun e w' => e = .returned (.bool true) ∧ Below w.heap.size w w' := by
  have HE := Lib.hid (PathForm_eq l0 il0 s0)
  have R0 := Lib.hid r0
  have IL0 := Lib.hid il0
  obtain ⟨p0a2, p0c2, rfl⟩ := r0.shape
  clear r0 il0
  have K0 : Hid (Keeps w w) := Keeps.refl w
  go_enter Try.func5, Try.ntmps5
  go_wp2_with fail
  have KS1 : Hid (Keeps w (w.alloc (.cells #[.int .i64 l0.labels, .int .i64 l0.children, .slice p0a2 l0.lines.length p0c2] 43))) := (Keeps.refl _).alloc _
  have Z1' : Hid (w.heap.size + 1 ≤ (w.alloc (.cells #[.int .i64 l0.labels, .int .i64 l0.children, .slice p0a2 l0.lines.length p0c2] 43)).heap.size) := by show _ ≤ _; simp
  have E1 : (w.alloc (.cells #[.int .i64 l0.labels, .int .i64 l0.children, .slice p0a2 l0.lines.length p0c2] 43)).heap.size = w.heap.size + 1 := by rw [World.size_alloc]
  have c0_1 : (w.alloc (.cells #[.int .i64 l0.labels, .int .i64 l0.children, .slice p0a2 l0.lines.length p0c2] 43)).cell? ⟨w.heap.size, 0, none⟩ = some (.int .i64 l0.labels) := by rw [World.cell?_alloc_at _ _ _ _ rfl]; rfl
  have c1_1 : (w.alloc (.cells #[.int .i64 l0.labels, .int .i64 l0.children, .slice p0a2 l0.lines.length p0c2] 43)).cell? ⟨w.heap.size, 1, none⟩ = some (.int .i64 l0.children) := by rw [World.cell?_alloc_at _ _ _ _ rfl]; rfl
  have c2_1 : (w.alloc (.cells #[.int .i64 l0.labels, .int .i64 l0.children, .slice p0a2 l0.lines.length p0c2] 43)).cell? ⟨w.heap.size, 2, none⟩ = some (.slice p0a2 l0.lines.length p0c2) := by rw [World.cell?_alloc_at _ _ _ _ rfl]; rfl
  generalize w.alloc (.cells #[.int .i64 l0.labels, .int .i64 l0.children, .slice p0a2 l0.lines.length p0c2] 43) = w1 at KS1 Z1' E1 c0_1 c1_1 c2_1 ⊢
  have K1 : Hid (Keeps w w1) := Keeps.trans K0.out KS1.out
  have Z1 : Hid (w.heap.size ≤ w1.heap.size) := KS1.out.size
  clear E1
  refine (szRootedProblem_any _ l0 1048576 _ (R0.out.keep K1.out) (by omega) (by omega)).mono ?_
  rintro e w2 ⟨rfl, k2⟩
  rw [szL, if_pos (by omega)]
  have KS2 : Hid (Keeps w1 w2) := k2
  clear k2
  have K2 : Hid (Keeps w w2) := Keeps.trans K1.out KS2.out
  have Z2 : Hid (w1.heap.size ≤ w2.heap.size) := KS2.out.size
  have c0_2 := cell_keep KS2.out c0_1
  clear c0_1
  have c1_2 := cell_keep KS2.out c1_1
  clear c1_1
  have c2_2 := cell_keep KS2.out c2_1
  clear c2_1
  go_wp2_with fail
  refine (toRootedProblem_any _ l0 _ (R0.out.keep K2.out) s0).mono ?_
  rintro e w3 ⟨t3, rfl, o3, k3⟩
  obtain ⟨t3a2, t3c2, rfl⟩ := o3.rd.shape
  have T3 := Lib.hid o3
  clear o3
  have KS3 : Hid (Keeps w2 w3) := k3
  clear k3
  have K3 : Hid (Keeps w w3) := Keeps.trans K2.out KS3.out
  have Z3 : Hid (w2.heap.size ≤ w3.heap.size) := KS3.out.size
  have c0_3 := cell_keep KS3.out c0_2
  clear c0_2
  have c1_3 := cell_keep KS3.out c1_2
  clear c1_2
  have c2_3 := cell_keep KS3.out c2_2
  clear c2_2
  go_wp2_with fail
  refine (specPathForm_any (.agg #[.int .i64 l0.labels, .int .i64 l0.children, .slice t3a2 l0.lines.length t3c2]) l0 _ (T3.out.rd) IL0.out s0).mono ?_
  rintro e w4 ⟨x4, rfl, o4, b4, k4⟩
  generalize fPathFormSpec l0 = R at *
  generalize hL : R.getD zeroW = L at *
  have HL := Lib.hid hL
  clear hL
  have BL : szW L ≤ 1000000000 := b4
  have BC := cntW_le L
  obtain ⟨x4a1, x4c1, rfl⟩ := o4.rd.shape
  have T4 := Lib.hid o4
  clear o4 b4
  have KS4 : Hid (Keeps w3 w4) := k4
  clear k4
  have K4 : Hid (Keeps w w4) := Keeps.trans K3.out KS4.out
  have Z4 : Hid (w3.heap.size ≤ w4.heap.size) := KS4.out.size
  have T3_4 := Lib.hid (T3.out.keep KS4.out)
  clear T3
  have c0_4 := cell_keep KS4.out c0_3
  clear c0_3
  have c1_4 := cell_keep KS4.out c1_3
  clear c1_3
  have c2_4 := cell_keep KS4.out c2_3
  clear c2_3
  have pre1 : (w4.alloc (.cells #[.int .i64 L.labels, .slice x4a1 L.arcs.length x4c1] 46)).cell? ⟨w.heap.size, 0, none⟩ = some (.int .i64 l0.labels) := cell_keep ((Keeps.refl _).alloc _) c0_4
  have pre2 : (w4.alloc (.cells #[.int .i64 L.labels, .slice x4a1 L.arcs.length x4c1] 46)).cell? ⟨w.heap.size, 1, none⟩ = some (.int .i64 l0.children) := cell_keep ((Keeps.refl _).alloc _) c1_4
  have pre3 : (w4.alloc (.cells #[.int .i64 L.labels, .slice x4a1 L.arcs.length x4c1] 46)).cell? ⟨w.heap.size, 2, none⟩ = some (.slice p0a2 l0.lines.length p0c2) := cell_keep ((Keeps.refl _).alloc _) c2_4
  go_wp2_with fail
  clear pre1 pre2 pre3
  have KS5 : Hid (Keeps w4 (w4.alloc (.cells #[.int .i64 L.labels, .slice x4a1 L.arcs.length x4c1] 46))) := (Keeps.refl _).alloc _
  have Z5' : Hid (w4.heap.size + 1 ≤ (w4.alloc (.cells #[.int .i64 L.labels, .slice x4a1 L.arcs.length x4c1] 46)).heap.size) := by show _ ≤ _; simp
  have E5 : (w4.alloc (.cells #[.int .i64 L.labels, .slice x4a1 L.arcs.length x4c1] 46)).heap.size = w4.heap.size + 1 := by rw [World.size_alloc]
  have c3_5 : (w4.alloc (.cells #[.int .i64 L.labels, .slice x4a1 L.arcs.length x4c1] 46)).cell? ⟨w4.heap.size, 0, none⟩ = some (.int .i64 L.labels) := by rw [World.cell?_alloc_at _ _ _ _ rfl]; rfl
  have c4_5 : (w4.alloc (.cells #[.int .i64 L.labels, .slice x4a1 L.arcs.length x4c1] 46)).cell? ⟨w4.heap.size, 1, none⟩ = some (.slice x4a1 L.arcs.length x4c1) := by rw [World.cell?_alloc_at _ _ _ _ rfl]; rfl
  generalize w4.alloc (.cells #[.int .i64 L.labels, .slice x4a1 L.arcs.length x4c1] 46) = w5 at KS5 Z5' E5 c3_5 c4_5 ⊢
  have K5 : Hid (Keeps w w5) := Keeps.trans K4.out KS5.out
  have Z5 : Hid (w4.heap.size ≤ w5.heap.size) := KS5.out.size
  have T3_5 := Lib.hid (T3_4.out.keep KS5.out)
  clear T3_4
  have T4_5 := Lib.hid (T4.out.keep KS5.out)
  clear T4
  have c0_5 := cell_keep KS5.out c0_4
  clear c0_4
  have c1_5 := cell_keep KS5.out c1_4
  clear c1_4
  have c2_5 := cell_keep KS5.out c2_4
  clear c2_4
  clear E5
  refine (toRootedProblem_any _ l0 _ (R0.out.keep K5.out) s0).mono ?_
  rintro e w6 ⟨t6, rfl, o6, k6⟩
  obtain ⟨t6a2, t6c2, rfl⟩ := o6.rd.shape
  have T6 := Lib.hid o6
  clear o6
  have KS6 : Hid (Keeps w5 w6) := k6
  clear k6
  have K6 : Hid (Keeps w w6) := Keeps.trans K5.out KS6.out
  have Z6 : Hid (w5.heap.size ≤ w6.heap.size) := KS6.out.size
  have T3_6 := Lib.hid (T3_5.out.keep KS6.out)
  clear T3_5
  have T4_6 := Lib.hid (T4_5.out.keep KS6.out)
  clear T4_5
  have c0_6 := cell_keep KS6.out c0_5
  clear c0_5
  have c1_6 := cell_keep KS6.out c1_5
  clear c1_5
  have c2_6 := cell_keep KS6.out c2_5
  clear c2_5
  have c3_6 := cell_keep KS6.out c3_5
  clear c3_5
  have c4_6 := cell_keep KS6.out c4_5
  clear c4_5
  have pre1 : (w6.alloc (.cells #[.int .i64 l0.labels, .int .i64 l0.children, .slice t6a2 l0.lines.length t6c2] 49)).cell? ⟨w.heap.size, 0, none⟩ = some (.int .i64 l0.labels) := cell_keep ((Keeps.refl _).alloc _) c0_6
  have pre2 : (w6.alloc (.cells #[.int .i64 l0.labels, .int .i64 l0.children, .slice t6a2 l0.lines.length t6c2] 49)).cell? ⟨w.heap.size, 1, none⟩ = some (.int .i64 l0.children) := cell_keep ((Keeps.refl _).alloc _) c1_6
  have pre3 : (w6.alloc (.cells #[.int .i64 l0.labels, .int .i64 l0.children, .slice t6a2 l0.lines.length t6c2] 49)).cell? ⟨w.heap.size, 2, none⟩ = some (.slice p0a2 l0.lines.length p0c2) := cell_keep ((Keeps.refl _).alloc _) c2_6
  have pre4 : (w6.alloc (.cells #[.int .i64 l0.labels, .int .i64 l0.children, .slice t6a2 l0.lines.length t6c2] 49)).cell? ⟨w4.heap.size, 0, none⟩ = some (.int .i64 L.labels) := cell_keep ((Keeps.refl _).alloc _) c3_6
  have pre5 : (w6.alloc (.cells #[.int .i64 l0.labels, .int .i64 l0.children, .slice t6a2 l0.lines.length t6c2] 49)).cell? ⟨w4.heap.size, 1, none⟩ = some (.slice x4a1 L.arcs.length x4c1) := cell_keep ((Keeps.refl _).alloc _) c4_6
  go_wp2_with fail
  clear pre1 pre2 pre3 pre4 pre5
  have KS7 : Hid (Keeps w6 (w6.alloc (.cells #[.int .i64 l0.labels, .int .i64 l0.children, .slice t6a2 l0.lines.length t6c2] 49))) := (Keeps.refl _).alloc _
  have Z7' : Hid (w6.heap.size + 1 ≤ (w6.alloc (.cells #[.int .i64 l0.labels, .int .i64 l0.children, .slice t6a2 l0.lines.length t6c2] 49)).heap.size) := by show _ ≤ _; simp
  have E7 : (w6.alloc (.cells #[.int .i64 l0.labels, .int .i64 l0.children, .slice t6a2 l0.lines.length t6c2] 49)).heap.size = w6.heap.size + 1 := by rw [World.size_alloc]
  have c5_7 : (w6.alloc (.cells #[.int .i64 l0.labels, .int .i64 l0.children, .slice t6a2 l0.lines.length t6c2] 49)).cell? ⟨w6.heap.size, 0, none⟩ = some (.int .i64 l0.labels) := by rw [World.cell?_alloc_at _ _ _ _ rfl]; rfl
  have c6_7 : (w6.alloc (.cells #[.int .i64 l0.labels, .int .i64 l0.children, .slice t6a2 l0.lines.length t6c2] 49)).cell? ⟨w6.heap.size, 1, none⟩ = some (.int .i64 l0.children) := by rw [World.cell?_alloc_at _ _ _ _ rfl]; rfl
  have c7_7 : (w6.alloc (.cells #[.int .i64 l0.labels, .int .i64 l0.children, .slice t6a2 l0.lines.length t6c2] 49)).cell? ⟨w6.heap.size, 2, none⟩ = some (.slice t6a2 l0.lines.length t6c2) := by rw [World.cell?_alloc_at _ _ _ _ rfl]; rfl
  generalize w6.alloc (.cells #[.int .i64 l0.labels, .int .i64 l0.children, .slice t6a2 l0.lines.length t6c2] 49) = w7 at KS7 Z7' E7 c5_7 c6_7 c7_7 ⊢
  have K7 : Hid (Keeps w w7) := Keeps.trans K6.out KS7.out
  have Z7 : Hid (w6.heap.size ≤ w7.heap.size) := KS7.out.size
  have T3_7 := Lib.hid (T3_6.out.keep KS7.out)
  clear T3_6
  have T4_7 := Lib.hid (T4_6.out.keep KS7.out)
  clear T4_6
  have T6_7 := Lib.hid (T6.out.keep KS7.out)
  clear T6
  have c0_7 := cell_keep KS7.out c0_6
  clear c0_6
  have c1_7 := cell_keep KS7.out c1_6
  clear c1_6
  have c2_7 := cell_keep KS7.out c2_6
  clear c2_6
  have c3_7 := cell_keep KS7.out c3_6
  clear c3_6
  have c4_7 := cell_keep KS7.out c4_6
  clear c4_6
  clear E7
  refine (implPathForm_any (.agg #[.int .i64 l0.labels, .int .i64 l0.children, .slice t6a2 l0.lines.length t6c2]) l0 _ (T6_7.out.rd) IL0.out s0).mono ?_
  rw [HE.out]
  rintro e w8 ⟨x8, rfl, o8, b8, k8⟩
  rw [HL.out] at o8
  obtain ⟨x8a1, x8c1, rfl⟩ := o8.rd.shape
  have T8 := Lib.hid o8
  clear o8 b8
  have KS8 : Hid (Keeps w7 w8) := k8
  clear k8
  have K8 : Hid (Keeps w w8) := Keeps.trans K7.out KS8.out
  have Z8 : Hid (w7.heap.size ≤ w8.heap.size) := KS8.out.size
  have T3_8 := Lib.hid (T3_7.out.keep KS8.out)
  clear T3_7
  have T4_8 := Lib.hid (T4_7.out.keep KS8.out)
  clear T4_7
  have T6_8 := Lib.hid (T6_7.out.keep KS8.out)
  clear T6_7
  have c0_8 := cell_keep KS8.out c0_7
  clear c0_7
  have c1_8 := cell_keep KS8.out c1_7
  clear c1_7
  have c2_8 := cell_keep KS8.out c2_7
  clear c2_7
  have c3_8 := cell_keep KS8.out c3_7
  clear c3_7
  have c4_8 := cell_keep KS8.out c4_7
  clear c4_7
  have c5_8 := cell_keep KS8.out c5_7
  clear c5_7
  have c6_8 := cell_keep KS8.out c6_7
  clear c6_7
  have c7_8 := cell_keep KS8.out c7_7
  clear c7_7
  have pre1 : (w8.alloc (.cells #[.int .i64 L.labels, .slice x8a1 L.arcs.length x8c1] 46)).cell? ⟨w.heap.size, 0, none⟩ = some (.int .i64 l0.labels) := cell_keep ((Keeps.refl _).alloc _) c0_8
  have pre2 : (w8.alloc (.cells #[.int .i64 L.labels, .slice x8a1 L.arcs.length x8c1] 46)).cell? ⟨w.heap.size, 1, none⟩ = some (.int .i64 l0.children) := cell_keep ((Keeps.refl _).alloc _) c1_8
  have pre3 : (w8.alloc (.cells #[.int .i64 L.labels, .slice x8a1 L.arcs.length x8c1] 46)).cell? ⟨w.heap.size, 2, none⟩ = some (.slice p0a2 l0.lines.length p0c2) := cell_keep ((Keeps.refl _).alloc _) c2_8
  have pre4 : (w8.alloc (.cells #[.int .i64 L.labels, .slice x8a1 L.arcs.length x8c1] 46)).cell? ⟨w4.heap.size, 0, none⟩ = some (.int .i64 L.labels) := cell_keep ((Keeps.refl _).alloc _) c3_8
  have pre5 : (w8.alloc (.cells #[.int .i64 L.labels, .slice x8a1 L.arcs.length x8c1] 46)).cell? ⟨w4.heap.size, 1, none⟩ = some (.slice x4a1 L.arcs.length x4c1) := cell_keep ((Keeps.refl _).alloc _) c4_8
  have pre6 : (w8.alloc (.cells #[.int .i64 L.labels, .slice x8a1 L.arcs.length x8c1] 46)).cell? ⟨w6.heap.size, 0, none⟩ = some (.int .i64 l0.labels) := cell_keep ((Keeps.refl _).alloc _) c5_8
  have pre7 : (w8.alloc (.cells #[.int .i64 L.labels, .slice x8a1 L.arcs.length x8c1] 46)).cell? ⟨w6.heap.size, 1, none⟩ = some (.int .i64 l0.children) := cell_keep ((Keeps.refl _).alloc _) c6_8
  have pre8 : (w8.alloc (.cells #[.int .i64 L.labels, .slice x8a1 L.arcs.length x8c1] 46)).cell? ⟨w6.heap.size, 2, none⟩ = some (.slice t6a2 l0.lines.length t6c2) := cell_keep ((Keeps.refl _).alloc _) c7_8
  go_wp2_with fail
  clear pre1 pre2 pre3 pre4 pre5 pre6 pre7 pre8
  have KS9 : Hid (Keeps w8 (w8.alloc (.cells #[.int .i64 L.labels, .slice x8a1 L.arcs.length x8c1] 46))) := (Keeps.refl _).alloc _
  have Z9' : Hid (w8.heap.size + 1 ≤ (w8.alloc (.cells #[.int .i64 L.labels, .slice x8a1 L.arcs.length x8c1] 46)).heap.size) := by show _ ≤ _; simp
  have E9 : (w8.alloc (.cells #[.int .i64 L.labels, .slice x8a1 L.arcs.length x8c1] 46)).heap.size = w8.heap.size + 1 := by rw [World.size_alloc]
  have c8_9 : (w8.alloc (.cells #[.int .i64 L.labels, .slice x8a1 L.arcs.length x8c1] 46)).cell? ⟨w8.heap.size, 0, none⟩ = some (.int .i64 L.labels) := by rw [World.cell?_alloc_at _ _ _ _ rfl]; rfl
  have c9_9 : (w8.alloc (.cells #[.int .i64 L.labels, .slice x8a1 L.arcs.length x8c1] 46)).cell? ⟨w8.heap.size, 1, none⟩ = some (.slice x8a1 L.arcs.length x8c1) := by rw [World.cell?_alloc_at _ _ _ _ rfl]; rfl
  generalize w8.alloc (.cells #[.int .i64 L.labels, .slice x8a1 L.arcs.length x8c1] 46) = w9 at KS9 Z9' E9 c8_9 c9_9 ⊢
  have K9 : Hid (Keeps w w9) := Keeps.trans K8.out KS9.out
  have Z9 : Hid (w8.heap.size ≤ w9.heap.size) := KS9.out.size
  have T3_9 := Lib.hid (T3_8.out.keep KS9.out)
  clear T3_8
  have T4_9 := Lib.hid (T4_8.out.keep KS9.out)
  clear T4_8
  have T6_9 := Lib.hid (T6_8.out.keep KS9.out)
  clear T6_8
  have T8_9 := Lib.hid (T8.out.keep KS9.out)
  clear T8
  have c0_9 := cell_keep KS9.out c0_8
  clear c0_8
  have c1_9 := cell_keep KS9.out c1_8
  clear c1_8
  have c2_9 := cell_keep KS9.out c2_8
  clear c2_8
  have c3_9 := cell_keep KS9.out c3_8
  clear c3_8
  have c4_9 := cell_keep KS9.out c4_8
  clear c4_8
  have c5_9 := cell_keep KS9.out c5_8
  clear c5_8
  have c6_9 := cell_keep KS9.out c6_8
  clear c6_8
  have c7_9 := cell_keep KS9.out c7_8
  clear c7_8
  clear E9
  refine (eqWalkProblem_same _ _ L _ (T8_9.out.rd) (T4_9.out.rd)).mono ?_
  rintro e w10 ⟨rfl, k10⟩
  have KS10 : Hid (Keeps w9 w10) := k10
  clear k10
  have K10 : Hid (Keeps w w10) := Keeps.trans K9.out KS10.out
  have Z10 : Hid (w9.heap.size ≤ w10.heap.size) := KS10.out.size
  have T3_10 := Lib.hid (T3_9.out.keep KS10.out)
  clear T3_9
  have T4_10 := Lib.hid (T4_9.out.keep KS10.out)
  clear T4_9
  have T6_10 := Lib.hid (T6_9.out.keep KS10.out)
  clear T6_9
  have T8_10 := Lib.hid (T8_9.out.keep KS10.out)
  clear T8_9
  have c0_10 := cell_keep KS10.out c0_9
  clear c0_9
  have c1_10 := cell_keep KS10.out c1_9
  clear c1_9
  have c2_10 := cell_keep KS10.out c2_9
  clear c2_9
  have c3_10 := cell_keep KS10.out c3_9
  clear c3_9
  have c4_10 := cell_keep KS10.out c4_9
  clear c4_9
  have c5_10 := cell_keep KS10.out c5_9
  clear c5_9
  have c6_10 := cell_keep KS10.out c6_9
  clear c6_9
  have c7_10 := cell_keep KS10.out c7_9
  clear c7_9
  have c8_10 := cell_keep KS10.out c8_9
  clear c8_9
  have c9_10 := cell_keep KS10.out c9_9
  clear c9_9
  go_wp2_with fail
  have SK : Hid (∀ W : World, Keeps w10 W → W.cell? ⟨w.heap.size, 0, none⟩ = some (.int .i64 l0.labels) ∧ W.cell? ⟨w.heap.size, 1, none⟩ = some (.int .i64 l0.children) ∧ W.cell? ⟨w.heap.size, 2, none⟩ = some (.slice p0a2 l0.lines.length p0c2) ∧ W.cell? ⟨w4.heap.size, 0, none⟩ = some (.int .i64 L.labels) ∧ W.cell? ⟨w4.heap.size, 1, none⟩ = some (.slice x4a1 L.arcs.length x4c1) ∧ W.cell? ⟨w6.heap.size, 0, none⟩ = some (.int .i64 l0.labels) ∧ W.cell? ⟨w6.heap.size, 1, none⟩ = some (.int .i64 l0.children) ∧ W.cell? ⟨w6.heap.size, 2, none⟩ = some (.slice t6a2 l0.lines.length t6c2) ∧ W.cell? ⟨w8.heap.size, 0, none⟩ = some (.int .i64 L.labels) ∧ W.cell? ⟨w8.heap.size, 1, none⟩ = some (.slice x8a1 L.arcs.length x8c1)) := fun W k => ⟨cell_keep k c0_10, cell_keep k c1_10, cell_keep k c2_10, cell_keep k c3_10, cell_keep k c4_10, cell_keep k c5_10, cell_keep k c6_10, cell_keep k c7_10, cell_keep k c8_10, cell_keep k c9_10⟩
  have KD : Hid (Keeps w10 w10.drew) := (Keeps.refl _).drew
  go_region_held3 (fun W => W.cell? ⟨w.heap.size, 0, none⟩ = some (.int .i64 l0.labels) ∧ W.cell? ⟨w.heap.size, 1, none⟩ = some (.int .i64 l0.children) ∧ W.cell? ⟨w.heap.size, 2, none⟩ = some (.slice p0a2 l0.lines.length p0c2) ∧ W.cell? ⟨w4.heap.size, 0, none⟩ = some (.int .i64 L.labels) ∧ W.cell? ⟨w4.heap.size, 1, none⟩ = some (.slice x4a1 L.arcs.length x4c1) ∧ W.cell? ⟨w6.heap.size, 0, none⟩ = some (.int .i64 l0.labels) ∧ W.cell? ⟨w6.heap.size, 1, none⟩ = some (.int .i64 l0.children) ∧ W.cell? ⟨w6.heap.size, 2, none⟩ = some (.slice t6a2 l0.lines.length t6c2) ∧ W.cell? ⟨w8.heap.size, 0, none⟩ = some (.int .i64 L.labels) ∧ W.cell? ⟨w8.heap.size, 1, none⟩ = some (.slice x8a1 L.arcs.length x8c1)) (first | exact SK.out _ KD.out | exact SK.out _ (Keeps.trans KD.out KS11'.out) | exact SK.out _ (Keeps.trans KD.out (Keeps.trans KS11'.out KS12.out)))
    ((first
      | (go_at_call 26; refine (toRootedProblem_any _ l0 _ (R0.out.keep (Keeps.trans K10.out KD.out)) s0).mono ?_; rintro e w11 ⟨tt, rfl, o11, k11⟩; obtain ⟨t11a2, t11c2, rfl⟩ := o11.rd.shape; have T11 := Lib.hid o11; have KS11' := Lib.hid k11; clear o11 k11)
      | (go_at_call 29; refine (eqRootedProblem_same _ _ l0 _ ((T6_10.out.rd).keep (Keeps.trans KD.out KS11'.out)) T11.out.rd).mono ?_; rintro e w12 ⟨rfl, k12⟩; have KS12 := Lib.hid k12; clear k12)))
  have KS11 : Hid (Keeps w10 w11) := Keeps.trans KD.out KS11'.out
  have K11 : Hid (Keeps w w11) := Keeps.trans K10.out KS11.out
  have Z11 : Hid (w10.heap.size ≤ w11.heap.size) := KS11.out.size
  have T3_11 := Lib.hid (T3_10.out.keep KS11.out)
  clear T3_10
  have T4_11 := Lib.hid (T4_10.out.keep KS11.out)
  clear T4_10
  have T6_11 := Lib.hid (T6_10.out.keep KS11.out)
  clear T6_10
  have T8_11 := Lib.hid (T8_10.out.keep KS11.out)
  clear T8_10
  have c0_11 := cell_keep KS11.out c0_10
  clear c0_10
  have c1_11 := cell_keep KS11.out c1_10
  clear c1_10
  have c2_11 := cell_keep KS11.out c2_10
  clear c2_10
  have c3_11 := cell_keep KS11.out c3_10
  clear c3_10
  have c4_11 := cell_keep KS11.out c4_10
  clear c4_10
  have c5_11 := cell_keep KS11.out c5_10
  clear c5_10
  have c6_11 := cell_keep KS11.out c6_10
  clear c6_10
  have c7_11 := cell_keep KS11.out c7_10
  clear c7_10
  have c8_11 := cell_keep KS11.out c8_10
  clear c8_10
  have c9_11 := cell_keep KS11.out c9_10
  clear c9_10
  have K12 : Hid (Keeps w w12) := Keeps.trans K11.out KS12.out
  have Z12 : Hid (w11.heap.size ≤ w12.heap.size) := KS12.out.size
  have T3_12 := Lib.hid (T3_11.out.keep KS12.out)
  clear T3_11
  have T4_12 := Lib.hid (T4_11.out.keep KS12.out)
  clear T4_11
  have T6_12 := Lib.hid (T6_11.out.keep KS12.out)
  clear T6_11
  have T8_12 := Lib.hid (T8_11.out.keep KS12.out)
  clear T8_11
  have c0_12 := cell_keep KS12.out c0_11
  clear c0_11
  have c1_12 := cell_keep KS12.out c1_11
  clear c1_11
  have c2_12 := cell_keep KS12.out c2_11
  clear c2_11
  have c3_12 := cell_keep KS12.out c3_11
  clear c3_11
  have c4_12 := cell_keep KS12.out c4_11
  clear c4_11
  have c5_12 := cell_keep KS12.out c5_11
  clear c5_11
  have c6_12 := cell_keep KS12.out c6_11
  clear c6_11
  have c7_12 := cell_keep KS12.out c7_11
  clear c7_11
  have c8_12 := cell_keep KS12.out c8_11
  clear c8_11
  have c9_12 := cell_keep KS12.out c9_11
  clear c9_11
  clear SK KD
  go_wp2_with fail
  have CL13 := cntR_le l0
  refine (markRootedProblem_any w5.heap.size w6.heap.size _ l0 1 _ T6_12.out (by have := Z1.out; have := Z2.out; have := Z3.out; have := Z4.out; have := Z5.out; have := Z6.out; have := Z7.out; have := Z8.out; have := Z9.out; have := Z10.out; have := Z11.out; have := Z12.out; omega) (by omega) (by omega)).mono ?_
  rintro e w13 ⟨rfl, o13, g13⟩
  have G13 : Hid (Chg w5.heap.size w6.heap.size w12 w13) := g13
  have T6_13 := Lib.hid o13
  clear o13 g13 T6_12
  have Z13 : Hid (w12.heap.size ≤ w13.heap.size) := G13.out.size
  have K13 : Hid (Keeps w w13) := G13.out.keeps K12.out (by have := Z1.out; have := Z2.out; have := Z3.out; have := Z4.out; have := Z5.out; have := Z6.out; have := Z7.out; have := Z8.out; have := Z9.out; have := Z10.out; have := Z11.out; have := Z12.out; have := Z13.out; omega)
  have T3_13 := Lib.hid (T3_12.out.chg G13.out (by have := Z1.out; have := Z2.out; have := Z3.out; have := Z4.out; have := Z5.out; have := Z6.out; have := Z7.out; have := Z8.out; have := Z9.out; have := Z10.out; have := Z11.out; have := Z12.out; have := Z13.out; omega))
  clear T3_12
  have T4_13 := Lib.hid (T4_12.out.chg G13.out (by have := Z1.out; have := Z2.out; have := Z3.out; have := Z4.out; have := Z5.out; have := Z6.out; have := Z7.out; have := Z8.out; have := Z9.out; have := Z10.out; have := Z11.out; have := Z12.out; have := Z13.out; omega))
  clear T4_12
  have T8_13 := Lib.hid (T8_12.out.chg G13.out (by have := Z1.out; have := Z2.out; have := Z3.out; have := Z4.out; have := Z5.out; have := Z6.out; have := Z7.out; have := Z8.out; have := Z9.out; have := Z10.out; have := Z11.out; have := Z12.out; have := Z13.out; omega))
  clear T8_12
  have c0_13 := (World.cell?_of_block (a := ⟨w.heap.size, 0, none⟩) (G13.out.block (w.heap.size) (by have := Z1.out; have := Z2.out; have := Z3.out; have := Z4.out; have := Z5.out; have := Z6.out; have := Z7.out; have := Z8.out; have := Z9.out; have := Z10.out; have := Z11.out; have := Z12.out; have := Z13.out; have := Z1'.out; (try simp only); omega) (by have := Z1.out; have := Z2.out; have := Z3.out; have := Z4.out; have := Z5.out; have := Z6.out; have := Z7.out; have := Z8.out; have := Z9.out; have := Z10.out; have := Z11.out; have := Z12.out; have := Z13.out; have := Z1'.out; (try simp only); omega))).trans c0_12
  clear c0_12
  have c1_13 := (World.cell?_of_block (a := ⟨w.heap.size, 1, none⟩) (G13.out.block (w.heap.size) (by have := Z1.out; have := Z2.out; have := Z3.out; have := Z4.out; have := Z5.out; have := Z6.out; have := Z7.out; have := Z8.out; have := Z9.out; have := Z10.out; have := Z11.out; have := Z12.out; have := Z13.out; have := Z1'.out; (try simp only); omega) (by have := Z1.out; have := Z2.out; have := Z3.out; have := Z4.out; have := Z5.out; have := Z6.out; have := Z7.out; have := Z8.out; have := Z9.out; have := Z10.out; have := Z11.out; have := Z12.out; have := Z13.out; have := Z1'.out; (try simp only); omega))).trans c1_12
  clear c1_12
  have c2_13 := (World.cell?_of_block (a := ⟨w.heap.size, 2, none⟩) (G13.out.block (w.heap.size) (by have := Z1.out; have := Z2.out; have := Z3.out; have := Z4.out; have := Z5.out; have := Z6.out; have := Z7.out; have := Z8.out; have := Z9.out; have := Z10.out; have := Z11.out; have := Z12.out; have := Z13.out; have := Z1'.out; (try simp only); omega) (by have := Z1.out; have := Z2.out; have := Z3.out; have := Z4.out; have := Z5.out; have := Z6.out; have := Z7.out; have := Z8.out; have := Z9.out; have := Z10.out; have := Z11.out; have := Z12.out; have := Z13.out; have := Z1'.out; (try simp only); omega))).trans c2_12
  clear c2_12
  have c3_13 := (World.cell?_of_block (a := ⟨w4.heap.size, 0, none⟩) (G13.out.block (w4.heap.size) (by have := Z1.out; have := Z2.out; have := Z3.out; have := Z4.out; have := Z5.out; have := Z6.out; have := Z7.out; have := Z8.out; have := Z9.out; have := Z10.out; have := Z11.out; have := Z12.out; have := Z13.out; have := Z5'.out; (try simp only); omega) (by have := Z1.out; have := Z2.out; have := Z3.out; have := Z4.out; have := Z5.out; have := Z6.out; have := Z7.out; have := Z8.out; have := Z9.out; have := Z10.out; have := Z11.out; have := Z12.out; have := Z13.out; have := Z5'.out; (try simp only); omega))).trans c3_12
  clear c3_12
  have c4_13 := (World.cell?_of_block (a := ⟨w4.heap.size, 1, none⟩) (G13.out.block (w4.heap.size) (by have := Z1.out; have := Z2.out; have := Z3.out; have := Z4.out; have := Z5.out; have := Z6.out; have := Z7.out; have := Z8.out; have := Z9.out; have := Z10.out; have := Z11.out; have := Z12.out; have := Z13.out; have := Z5'.out; (try simp only); omega) (by have := Z1.out; have := Z2.out; have := Z3.out; have := Z4.out; have := Z5.out; have := Z6.out; have := Z7.out; have := Z8.out; have := Z9.out; have := Z10.out; have := Z11.out; have := Z12.out; have := Z13.out; have := Z5'.out; (try simp only); omega))).trans c4_12
  clear c4_12
  have c5_13 := (World.cell?_of_block (a := ⟨w6.heap.size, 0, none⟩) (G13.out.block (w6.heap.size) (by have := Z1.out; have := Z2.out; have := Z3.out; have := Z4.out; have := Z5.out; have := Z6.out; have := Z7.out; have := Z8.out; have := Z9.out; have := Z10.out; have := Z11.out; have := Z12.out; have := Z13.out; have := Z7'.out; (try simp only); omega) (by have := Z1.out; have := Z2.out; have := Z3.out; have := Z4.out; have := Z5.out; have := Z6.out; have := Z7.out; have := Z8.out; have := Z9.out; have := Z10.out; have := Z11.out; have := Z12.out; have := Z13.out; have := Z7'.out; (try simp only); omega))).trans c5_12
  clear c5_12
  have c6_13 := (World.cell?_of_block (a := ⟨w6.heap.size, 1, none⟩) (G13.out.block (w6.heap.size) (by have := Z1.out; have := Z2.out; have := Z3.out; have := Z4.out; have := Z5.out; have := Z6.out; have := Z7.out; have := Z8.out; have := Z9.out; have := Z10.out; have := Z11.out; have := Z12.out; have := Z13.out; have := Z7'.out; (try simp only); omega) (by have := Z1.out; have := Z2.out; have := Z3.out; have := Z4.out; have := Z5.out; have := Z6.out; have := Z7.out; have := Z8.out; have := Z9.out; have := Z10.out; have := Z11.out; have := Z12.out; have := Z13.out; have := Z7'.out; (try simp only); omega))).trans c6_12
  clear c6_12
  have c7_13 := (World.cell?_of_block (a := ⟨w6.heap.size, 2, none⟩) (G13.out.block (w6.heap.size) (by have := Z1.out; have := Z2.out; have := Z3.out; have := Z4.out; have := Z5.out; have := Z6.out; have := Z7.out; have := Z8.out; have := Z9.out; have := Z10.out; have := Z11.out; have := Z12.out; have := Z13.out; have := Z7'.out; (try simp only); omega) (by have := Z1.out; have := Z2.out; have := Z3.out; have := Z4.out; have := Z5.out; have := Z6.out; have := Z7.out; have := Z8.out; have := Z9.out; have := Z10.out; have := Z11.out; have := Z12.out; have := Z13.out; have := Z7'.out; (try simp only); omega))).trans c7_12
  clear c7_12
  have c8_13 := (World.cell?_of_block (a := ⟨w8.heap.size, 0, none⟩) (G13.out.block (w8.heap.size) (by have := Z1.out; have := Z2.out; have := Z3.out; have := Z4.out; have := Z5.out; have := Z6.out; have := Z7.out; have := Z8.out; have := Z9.out; have := Z10.out; have := Z11.out; have := Z12.out; have := Z13.out; have := Z9'.out; (try simp only); omega) (by have := Z1.out; have := Z2.out; have := Z3.out; have := Z4.out; have := Z5.out; have := Z6.out; have := Z7.out; have := Z8.out; have := Z9.out; have := Z10.out; have := Z11.out; have := Z12.out; have := Z13.out; have := Z9'.out; (try simp only); omega))).trans c8_12
  clear c8_12
  have c9_13 := (World.cell?_of_block (a := ⟨w8.heap.size, 1, none⟩) (G13.out.block (w8.heap.size) (by have := Z1.out; have := Z2.out; have := Z3.out; have := Z4.out; have := Z5.out; have := Z6.out; have := Z7.out; have := Z8.out; have := Z9.out; have := Z10.out; have := Z11.out; have := Z12.out; have := Z13.out; have := Z9'.out; (try simp only); omega) (by have := Z1.out; have := Z2.out; have := Z3.out; have := Z4.out; have := Z5.out; have := Z6.out; have := Z7.out; have := Z8.out; have := Z9.out; have := Z10.out; have := Z11.out; have := Z12.out; have := Z13.out; have := Z9'.out; (try simp only); omega))).trans c9_12
  clear c9_12
  go_wp2_with fail
  refine (eqWalkProblem_same _ _ L _ (T8_13.out.rd) (T4_13.out.rd)).mono ?_
  rintro e w14 ⟨rfl, k14⟩
  have KS14 : Hid (Keeps w13 w14) := k14
  clear k14
  have K14 : Hid (Keeps w w14) := Keeps.trans K13.out KS14.out
  have Z14 : Hid (w13.heap.size ≤ w14.heap.size) := KS14.out.size
  have T3_14 := Lib.hid (T3_13.out.keep KS14.out)
  clear T3_13
  have T4_14 := Lib.hid (T4_13.out.keep KS14.out)
  clear T4_13
  have T6_14 := Lib.hid (T6_13.out.keep KS14.out)
  clear T6_13
  have T8_14 := Lib.hid (T8_13.out.keep KS14.out)
  clear T8_13
  have c0_14 := cell_keep KS14.out c0_13
  clear c0_13
  have c1_14 := cell_keep KS14.out c1_13
  clear c1_13
  have c2_14 := cell_keep KS14.out c2_13
  clear c2_13
  have c3_14 := cell_keep KS14.out c3_13
  clear c3_13
  have c4_14 := cell_keep KS14.out c4_13
  clear c4_13
  have c5_14 := cell_keep KS14.out c5_13
  clear c5_13
  have c6_14 := cell_keep KS14.out c6_13
  clear c6_13
  have c7_14 := cell_keep KS14.out c7_13
  clear c7_13
  have c8_14 := cell_keep KS14.out c8_13
  clear c8_13
  have c9_14 := cell_keep KS14.out c9_13
  clear c9_13
  go_wp2_with fail
  have CL15 := cntW_le L
  refine (markWalkProblem_any w7.heap.size w8.heap.size _ L 1 _ T8_14.out (by have := Z1.out; have := Z2.out; have := Z3.out; have := Z4.out; have := Z5.out; have := Z6.out; have := Z7.out; have := Z8.out; have := Z9.out; have := Z10.out; have := Z11.out; have := Z12.out; have := Z13.out; have := Z14.out; omega) (by omega) (by omega)).mono ?_
  rintro e w15 ⟨rfl, o15, g15⟩
  have G15 : Hid (Chg w7.heap.size w8.heap.size w14 w15) := g15
  have T8_15 := Lib.hid o15
  clear o15 g15 T8_14
  have Z15 : Hid (w14.heap.size ≤ w15.heap.size) := G15.out.size
  have K15 : Hid (Keeps w w15) := G15.out.keeps K14.out (by have := Z1.out; have := Z2.out; have := Z3.out; have := Z4.out; have := Z5.out; have := Z6.out; have := Z7.out; have := Z8.out; have := Z9.out; have := Z10.out; have := Z11.out; have := Z12.out; have := Z13.out; have := Z14.out; have := Z15.out; omega)
  have T3_15 := Lib.hid (T3_14.out.chg G15.out (by have := Z1.out; have := Z2.out; have := Z3.out; have := Z4.out; have := Z5.out; have := Z6.out; have := Z7.out; have := Z8.out; have := Z9.out; have := Z10.out; have := Z11.out; have := Z12.out; have := Z13.out; have := Z14.out; have := Z15.out; omega))
  clear T3_14
  have T4_15 := Lib.hid (T4_14.out.chg G15.out (by have := Z1.out; have := Z2.out; have := Z3.out; have := Z4.out; have := Z5.out; have := Z6.out; have := Z7.out; have := Z8.out; have := Z9.out; have := Z10.out; have := Z11.out; have := Z12.out; have := Z13.out; have := Z14.out; have := Z15.out; omega))
  clear T4_14
  have T6_15 := Lib.hid (T6_14.out.chg G15.out (by have := Z1.out; have := Z2.out; have := Z3.out; have := Z4.out; have := Z5.out; have := Z6.out; have := Z7.out; have := Z8.out; have := Z9.out; have := Z10.out; have := Z11.out; have := Z12.out; have := Z13.out; have := Z14.out; have := Z15.out; omega))
  clear T6_14
  have c0_15 := (World.cell?_of_block (a := ⟨w.heap.size, 0, none⟩) (G15.out.block (w.heap.size) (by have := Z1.out; have := Z2.out; have := Z3.out; have := Z4.out; have := Z5.out; have := Z6.out; have := Z7.out; have := Z8.out; have := Z9.out; have := Z10.out; have := Z11.out; have := Z12.out; have := Z13.out; have := Z14.out; have := Z15.out; have := Z1'.out; (try simp only); omega) (by have := Z1.out; have := Z2.out; have := Z3.out; have := Z4.out; have := Z5.out; have := Z6.out; have := Z7.out; have := Z8.out; have := Z9.out; have := Z10.out; have := Z11.out; have := Z12.out; have := Z13.out; have := Z14.out; have := Z15.out; have := Z1'.out; (try simp only); omega))).trans c0_14
  clear c0_14
  have c1_15 := (World.cell?_of_block (a := ⟨w.heap.size, 1, none⟩) (G15.out.block (w.heap.size) (by have := Z1.out; have := Z2.out; have := Z3.out; have := Z4.out; have := Z5.out; have := Z6.out; have := Z7.out; have := Z8.out; have := Z9.out; have := Z10.out; have := Z11.out; have := Z12.out; have := Z13.out; have := Z14.out; have := Z15.out; have := Z1'.out; (try simp only); omega) (by have := Z1.out; have := Z2.out; have := Z3.out; have := Z4.out; have := Z5.out; have := Z6.out; have := Z7.out; have := Z8.out; have := Z9.out; have := Z10.out; have := Z11.out; have := Z12.out; have := Z13.out; have := Z14.out; have := Z15.out; have := Z1'.out; (try simp only); omega))).trans c1_14
  clear c1_14
  have c2_15 := (World.cell?_of_block (a := ⟨w.heap.size, 2, none⟩) (G15.out.block (w.heap.size) (by have := Z1.out; have := Z2.out; have := Z3.out; have := Z4.out; have := Z5.out; have := Z6.out; have := Z7.out; have := Z8.out; have := Z9.out; have := Z10.out; have := Z11.out; have := Z12.out; have := Z13.out; have := Z14.out; have := Z15.out; have := Z1'.out; (try simp only); omega) (by have := Z1.out; have := Z2.out; have := Z3.out; have := Z4.out; have := Z5.out; have := Z6.out; have := Z7.out; have := Z8.out; have := Z9.out; have := Z10.out; have := Z11.out; have := Z12.out; have := Z13.out; have := Z14.out; have := Z15.out; have := Z1'.out; (try simp only); omega))).trans c2_14
  clear c2_14
  have c3_15 := (World.cell?_of_block (a := ⟨w4.heap.size, 0, none⟩) (G15.out.block (w4.heap.size) (by have := Z1.out; have := Z2.out; have := Z3.out; have := Z4.out; have := Z5.out; have := Z6.out; have := Z7.out; have := Z8.out; have := Z9.out; have := Z10.out; have := Z11.out; have := Z12.out; have := Z13.out; have := Z14.out; have := Z15.out; have := Z5'.out; (try simp only); omega) (by have := Z1.out; have := Z2.out; have := Z3.out; have := Z4.out; have := Z5.out; have := Z6.out; have := Z7.out; have := Z8.out; have := Z9.out; have := Z10.out; have := Z11.out; have := Z12.out; have := Z13.out; have := Z14.out; have := Z15.out; have := Z5'.out; (try simp only); omega))).trans c3_14
  clear c3_14
  have c4_15 := (World.cell?_of_block (a := ⟨w4.heap.size, 1, none⟩) (G15.out.block (w4.heap.size) (by have := Z1.out; have := Z2.out; have := Z3.out; have := Z4.out; have := Z5.out; have := Z6.out; have := Z7.out; have := Z8.out; have := Z9.out; have := Z10.out; have := Z11.out; have := Z12.out; have := Z13.out; have := Z14.out; have := Z15.out; have := Z5'.out; (try simp only); omega) (by have := Z1.out; have := Z2.out; have := Z3.out; have := Z4.out; have := Z5.out; have := Z6.out; have := Z7.out; have := Z8.out; have := Z9.out; have := Z10.out; have := Z11.out; have := Z12.out; have := Z13.out; have := Z14.out; have := Z15.out; have := Z5'.out; (try simp only); omega))).trans c4_14
  clear c4_14
  have c5_15 := (World.cell?_of_block (a := ⟨w6.heap.size, 0, none⟩) (G15.out.block (w6.heap.size) (by have := Z1.out; have := Z2.out; have := Z3.out; have := Z4.out; have := Z5.out; have := Z6.out; have := Z7.out; have := Z8.out; have := Z9.out; have := Z10.out; have := Z11.out; have := Z12.out; have := Z13.out; have := Z14.out; have := Z15.out; have := Z7'.out; (try simp only); omega) (by have := Z1.out; have := Z2.out; have := Z3.out; have := Z4.out; have := Z5.out; have := Z6.out; have := Z7.out; have := Z8.out; have := Z9.out; have := Z10.out; have := Z11.out; have := Z12.out; have := Z13.out; have := Z14.out; have := Z15.out; have := Z7'.out; (try simp only); omega))).trans c5_14
  clear c5_14
  have c6_15 := (World.cell?_of_block (a := ⟨w6.heap.size, 1, none⟩) (G15.out.block (w6.heap.size) (by have := Z1.out; have := Z2.out; have := Z3.out; have := Z4.out; have := Z5.out; have := Z6.out; have := Z7.out; have := Z8.out; have := Z9.out; have := Z10.out; have := Z11.out; have := Z12.out; have := Z13.out; have := Z14.out; have := Z15.out; have := Z7'.out; (try simp only); omega) (by have := Z1.out; have := Z2.out; have := Z3.out; have := Z4.out; have := Z5.out; have := Z6.out; have := Z7.out; have := Z8.out; have := Z9.out; have := Z10.out; have := Z11.out; have := Z12.out; have := Z13.out; have := Z14.out; have := Z15.out; have := Z7'.out; (try simp only); omega))).trans c6_14
  clear c6_14
  have c7_15 := (World.cell?_of_block (a := ⟨w6.heap.size, 2, none⟩) (G15.out.block (w6.heap.size) (by have := Z1.out; have := Z2.out; have := Z3.out; have := Z4.out; have := Z5.out; have := Z6.out; have := Z7.out; have := Z8.out; have := Z9.out; have := Z10.out; have := Z11.out; have := Z12.out; have := Z13.out; have := Z14.out; have := Z15.out; have := Z7'.out; (try simp only); omega) (by have := Z1.out; have := Z2.out; have := Z3.out; have := Z4.out; have := Z5.out; have := Z6.out; have := Z7.out; have := Z8.out; have := Z9.out; have := Z10.out; have := Z11.out; have := Z12.out; have := Z13.out; have := Z14.out; have := Z15.out; have := Z7'.out; (try simp only); omega))).trans c7_14
  clear c7_14
  have c8_15 := (World.cell?_of_block (a := ⟨w8.heap.size, 0, none⟩) (G15.out.block (w8.heap.size) (by have := Z1.out; have := Z2.out; have := Z3.out; have := Z4.out; have := Z5.out; have := Z6.out; have := Z7.out; have := Z8.out; have := Z9.out; have := Z10.out; have := Z11.out; have := Z12.out; have := Z13.out; have := Z14.out; have := Z15.out; have := Z9'.out; (try simp only); omega) (by have := Z1.out; have := Z2.out; have := Z3.out; have := Z4.out; have := Z5.out; have := Z6.out; have := Z7.out; have := Z8.out; have := Z9.out; have := Z10.out; have := Z11.out; have := Z12.out; have := Z13.out; have := Z14.out; have := Z15.out; have := Z9'.out; (try simp only); omega))).trans c8_14
  clear c8_14
  have c9_15 := (World.cell?_of_block (a := ⟨w8.heap.size, 1, none⟩) (G15.out.block (w8.heap.size) (by have := Z1.out; have := Z2.out; have := Z3.out; have := Z4.out; have := Z5.out; have := Z6.out; have := Z7.out; have := Z8.out; have := Z9.out; have := Z10.out; have := Z11.out; have := Z12.out; have := Z13.out; have := Z14.out; have := Z15.out; have := Z9'.out; (try simp only); omega) (by have := Z1.out; have := Z2.out; have := Z3.out; have := Z4.out; have := Z5.out; have := Z6.out; have := Z7.out; have := Z8.out; have := Z9.out; have := Z10.out; have := Z11.out; have := Z12.out; have := Z13.out; have := Z14.out; have := Z15.out; have := Z9'.out; (try simp only); omega))).trans c9_14
  clear c9_14
  go_wp2_with fail
  refine (heldWalkProblem_any _ L 1 _ (T8_15.out.rd) (by omega) (by omega)).mono ?_
  rintro e w16 ⟨rfl, k16⟩
  have KS16 : Hid (Keeps w15 w16) := k16
  clear k16
  have K16 : Hid (Keeps w w16) := Keeps.trans K15.out KS16.out
  have Z16 : Hid (w15.heap.size ≤ w16.heap.size) := KS16.out.size
  have T3_16 := Lib.hid (T3_15.out.keep KS16.out)
  clear T3_15
  have T4_16 := Lib.hid (T4_15.out.keep KS16.out)
  clear T4_15
  have T6_16 := Lib.hid (T6_15.out.keep KS16.out)
  clear T6_15
  have T8_16 := Lib.hid (T8_15.out.keep KS16.out)
  clear T8_15
  have c0_16 := cell_keep KS16.out c0_15
  clear c0_15
  have c1_16 := cell_keep KS16.out c1_15
  clear c1_15
  have c2_16 := cell_keep KS16.out c2_15
  clear c2_15
  have c3_16 := cell_keep KS16.out c3_15
  clear c3_15
  have c4_16 := cell_keep KS16.out c4_15
  clear c4_15
  have c5_16 := cell_keep KS16.out c5_15
  clear c5_15
  have c6_16 := cell_keep KS16.out c6_15
  clear c6_15
  have c7_16 := cell_keep KS16.out c7_15
  clear c7_15
  have c8_16 := cell_keep KS16.out c8_15
  clear c8_15
  have c9_16 := cell_keep KS16.out c9_15
  clear c9_15
  go_wp2_with fail
  refine (toRootedProblem_any _ l0 _ (R0.out.keep K16.out) s0).mono ?_
  rintro e w17 ⟨t17, rfl, o17, k17⟩
  obtain ⟨t17a2, t17c2, rfl⟩ := o17.rd.shape
  have T17 := Lib.hid o17
  clear o17
  have KS17 : Hid (Keeps w16 w17) := k17
  clear k17
  have K17 : Hid (Keeps w w17) := Keeps.trans K16.out KS17.out
  have Z17 : Hid (w16.heap.size ≤ w17.heap.size) := KS17.out.size
  have T3_17 := Lib.hid (T3_16.out.keep KS17.out)
  clear T3_16
  have T4_17 := Lib.hid (T4_16.out.keep KS17.out)
  clear T4_16
  have T6_17 := Lib.hid (T6_16.out.keep KS17.out)
  clear T6_16
  have T8_17 := Lib.hid (T8_16.out.keep KS17.out)
  clear T8_16
  have c0_17 := cell_keep KS17.out c0_16
  clear c0_16
  have c1_17 := cell_keep KS17.out c1_16
  clear c1_16
  have c2_17 := cell_keep KS17.out c2_16
  clear c2_16
  have c3_17 := cell_keep KS17.out c3_16
  clear c3_16
  have c4_17 := cell_keep KS17.out c4_16
  clear c4_16
  have c5_17 := cell_keep KS17.out c5_16
  clear c5_16
  have c6_17 := cell_keep KS17.out c6_16
  clear c6_16
  have c7_17 := cell_keep KS17.out c7_16
  clear c7_16
  have c8_17 := cell_keep KS17.out c8_16
  clear c8_16
  have c9_17 := cell_keep KS17.out c9_16
  clear c9_16
  go_wp2_with fail
  refine (implPathForm_any (.agg #[.int .i64 l0.labels, .int .i64 l0.children, .slice t17a2 l0.lines.length t17c2]) l0 _ (T17.out.rd) IL0.out s0).mono ?_
  rw [HE.out]
  rintro e w18 ⟨x18, rfl, o18, b18, k18⟩
  rw [HL.out] at o18
  obtain ⟨x18a1, x18c1, rfl⟩ := o18.rd.shape
  have T18 := Lib.hid o18
  clear o18 b18
  have KS18 : Hid (Keeps w17 w18) := k18
  clear k18
  have K18 : Hid (Keeps w w18) := Keeps.trans K17.out KS18.out
  have Z18 : Hid (w17.heap.size ≤ w18.heap.size) := KS18.out.size
  have T3_18 := Lib.hid (T3_17.out.keep KS18.out)
  clear T3_17
  have T4_18 := Lib.hid (T4_17.out.keep KS18.out)
  clear T4_17
  have T6_18 := Lib.hid (T6_17.out.keep KS18.out)
  clear T6_17
  have T8_18 := Lib.hid (T8_17.out.keep KS18.out)
  clear T8_17
  have T17_18 := Lib.hid (T17.out.keep KS18.out)
  clear T17
  have c0_18 := cell_keep KS18.out c0_17
  clear c0_17
  have c1_18 := cell_keep KS18.out c1_17
  clear c1_17
  have c2_18 := cell_keep KS18.out c2_17
  clear c2_17
  have c3_18 := cell_keep KS18.out c3_17
  clear c3_17
  have c4_18 := cell_keep KS18.out c4_17
  clear c4_17
  have c5_18 := cell_keep KS18.out c5_17
  clear c5_17
  have c6_18 := cell_keep KS18.out c6_17
  clear c6_17
  have c7_18 := cell_keep KS18.out c7_17
  clear c7_17
  have c8_18 := cell_keep KS18.out c8_17
  clear c8_17
  have c9_18 := cell_keep KS18.out c9_17
  clear c9_17
  have pre1 : (w18.alloc (.cells #[.int .i64 L.labels, .slice x18a1 L.arcs.length x18c1] 46)).cell? ⟨w.heap.size, 0, none⟩ = some (.int .i64 l0.labels) := cell_keep ((Keeps.refl _).alloc _) c0_18
  have pre2 : (w18.alloc (.cells #[.int .i64 L.labels, .slice x18a1 L.arcs.length x18c1] 46)).cell? ⟨w.heap.size, 1, none⟩ = some (.int .i64 l0.children) := cell_keep ((Keeps.refl _).alloc _) c1_18
  have pre3 : (w18.alloc (.cells #[.int .i64 L.labels, .slice x18a1 L.arcs.length x18c1] 46)).cell? ⟨w.heap.size, 2, none⟩ = some (.slice p0a2 l0.lines.length p0c2) := cell_keep ((Keeps.refl _).alloc _) c2_18
  have pre4 : (w18.alloc (.cells #[.int .i64 L.labels, .slice x18a1 L.arcs.length x18c1] 46)).cell? ⟨w4.heap.size, 0, none⟩ = some (.int .i64 L.labels) := cell_keep ((Keeps.refl _).alloc _) c3_18
  have pre5 : (w18.alloc (.cells #[.int .i64 L.labels, .slice x18a1 L.arcs.length x18c1] 46)).cell? ⟨w4.heap.size, 1, none⟩ = some (.slice x4a1 L.arcs.length x4c1) := cell_keep ((Keeps.refl _).alloc _) c4_18
  have pre6 : (w18.alloc (.cells #[.int .i64 L.labels, .slice x18a1 L.arcs.length x18c1] 46)).cell? ⟨w6.heap.size, 0, none⟩ = some (.int .i64 l0.labels) := cell_keep ((Keeps.refl _).alloc _) c5_18
  have pre7 : (w18.alloc (.cells #[.int .i64 L.labels, .slice x18a1 L.arcs.length x18c1] 46)).cell? ⟨w6.heap.size, 1, none⟩ = some (.int .i64 l0.children) := cell_keep ((Keeps.refl _).alloc _) c6_18
  have pre8 : (w18.alloc (.cells #[.int .i64 L.labels, .slice x18a1 L.arcs.length x18c1] 46)).cell? ⟨w6.heap.size, 2, none⟩ = some (.slice t6a2 l0.lines.length t6c2) := cell_keep ((Keeps.refl _).alloc _) c7_18
  have pre9 : (w18.alloc (.cells #[.int .i64 L.labels, .slice x18a1 L.arcs.length x18c1] 46)).cell? ⟨w8.heap.size, 0, none⟩ = some (.int .i64 L.labels) := cell_keep ((Keeps.refl _).alloc _) c8_18
  have pre10 : (w18.alloc (.cells #[.int .i64 L.labels, .slice x18a1 L.arcs.length x18c1] 46)).cell? ⟨w8.heap.size, 1, none⟩ = some (.slice x8a1 L.arcs.length x8c1) := cell_keep ((Keeps.refl _).alloc _) c9_18
  go_wp2_with fail
  clear pre1 pre2 pre3 pre4 pre5 pre6 pre7 pre8 pre9 pre10
  have KS19 : Hid (Keeps w18 (w18.alloc (.cells #[.int .i64 L.labels, .slice x18a1 L.arcs.length x18c1] 46))) := (Keeps.refl _).alloc _
  have Z19' : Hid (w18.heap.size + 1 ≤ (w18.alloc (.cells #[.int .i64 L.labels, .slice x18a1 L.arcs.length x18c1] 46)).heap.size) := by show _ ≤ _; simp
  have E19 : (w18.alloc (.cells #[.int .i64 L.labels, .slice x18a1 L.arcs.length x18c1] 46)).heap.size = w18.heap.size + 1 := by rw [World.size_alloc]
  have c10_19 : (w18.alloc (.cells #[.int .i64 L.labels, .slice x18a1 L.arcs.length x18c1] 46)).cell? ⟨w18.heap.size, 0, none⟩ = some (.int .i64 L.labels) := by rw [World.cell?_alloc_at _ _ _ _ rfl]; rfl
  have c11_19 : (w18.alloc (.cells #[.int .i64 L.labels, .slice x18a1 L.arcs.length x18c1] 46)).cell? ⟨w18.heap.size, 1, none⟩ = some (.slice x18a1 L.arcs.length x18c1) := by rw [World.cell?_alloc_at _ _ _ _ rfl]; rfl
  generalize w18.alloc (.cells #[.int .i64 L.labels, .slice x18a1 L.arcs.length x18c1] 46) = w19 at KS19 Z19' E19 c10_19 c11_19 ⊢
  have K19 : Hid (Keeps w w19) := Keeps.trans K18.out KS19.out
  have Z19 : Hid (w18.heap.size ≤ w19.heap.size) := KS19.out.size
  have T3_19 := Lib.hid (T3_18.out.keep KS19.out)
  clear T3_18
  have T4_19 := Lib.hid (T4_18.out.keep KS19.out)
  clear T4_18
  have T6_19 := Lib.hid (T6_18.out.keep KS19.out)
  clear T6_18
  have T8_19 := Lib.hid (T8_18.out.keep KS19.out)
  clear T8_18
  have T17_19 := Lib.hid (T17_18.out.keep KS19.out)
  clear T17_18
  have T18_19 := Lib.hid (T18.out.keep KS19.out)
  clear T18
  have c0_19 := cell_keep KS19.out c0_18
  clear c0_18
  have c1_19 := cell_keep KS19.out c1_18
  clear c1_18
  have c2_19 := cell_keep KS19.out c2_18
  clear c2_18
  have c3_19 := cell_keep KS19.out c3_18
  clear c3_18
  have c4_19 := cell_keep KS19.out c4_18
  clear c4_18
  have c5_19 := cell_keep KS19.out c5_18
  clear c5_18
  have c6_19 := cell_keep KS19.out c6_18
  clear c6_18
  have c7_19 := cell_keep KS19.out c7_18
  clear c7_18
  have c8_19 := cell_keep KS19.out c8_18
  clear c8_18
  have c9_19 := cell_keep KS19.out c9_18
  clear c9_18
  clear E19
  refine (eqWalkProblem_same _ _ L _ (T18_19.out.rd) (T4_19.out.rd)).mono ?_
  rintro e w20 ⟨rfl, k20⟩
  have KS20 : Hid (Keeps w19 w20) := k20
  clear k20
  have K20 : Hid (Keeps w w20) := Keeps.trans K19.out KS20.out
  have Z20 : Hid (w19.heap.size ≤ w20.heap.size) := KS20.out.size
  have T3_20 := Lib.hid (T3_19.out.keep KS20.out)
  clear T3_19
  have T4_20 := Lib.hid (T4_19.out.keep KS20.out)
  clear T4_19
  have T6_20 := Lib.hid (T6_19.out.keep KS20.out)
  clear T6_19
  have T8_20 := Lib.hid (T8_19.out.keep KS20.out)
  clear T8_19
  have T17_20 := Lib.hid (T17_19.out.keep KS20.out)
  clear T17_19
  have T18_20 := Lib.hid (T18_19.out.keep KS20.out)
  clear T18_19
  have c0_20 := cell_keep KS20.out c0_19
  clear c0_19
  have c1_20 := cell_keep KS20.out c1_19
  clear c1_19
  have c2_20 := cell_keep KS20.out c2_19
  clear c2_19
  have c3_20 := cell_keep KS20.out c3_19
  clear c3_19
  have c4_20 := cell_keep KS20.out c4_19
  clear c4_19
  have c5_20 := cell_keep KS20.out c5_19
  clear c5_19
  have c6_20 := cell_keep KS20.out c6_19
  clear c6_19
  have c7_20 := cell_keep KS20.out c7_19
  clear c7_19
  have c8_20 := cell_keep KS20.out c8_19
  clear c8_19
  have c9_20 := cell_keep KS20.out c9_19
  clear c9_19
  have c10_20 := cell_keep KS20.out c10_19
  clear c10_19
  have c11_20 := cell_keep KS20.out c11_19
  clear c11_19
  go_wp2_with fail
  refine (heldWalkProblem_any _ L 1 _ (T8_20.out.rd) (by omega) (by omega)).mono ?_
  rintro e w21 ⟨rfl, k21⟩
  have KS21 : Hid (Keeps w20 w21) := k21
  clear k21
  have K21 : Hid (Keeps w w21) := Keeps.trans K20.out KS21.out
  have Z21 : Hid (w20.heap.size ≤ w21.heap.size) := KS21.out.size
  have T3_21 := Lib.hid (T3_20.out.keep KS21.out)
  clear T3_20
  have T4_21 := Lib.hid (T4_20.out.keep KS21.out)
  clear T4_20
  have T6_21 := Lib.hid (T6_20.out.keep KS21.out)
  clear T6_20
  have T8_21 := Lib.hid (T8_20.out.keep KS21.out)
  clear T8_20
  have T17_21 := Lib.hid (T17_20.out.keep KS21.out)
  clear T17_20
  have T18_21 := Lib.hid (T18_20.out.keep KS21.out)
  clear T18_20
  have c0_21 := cell_keep KS21.out c0_20
  clear c0_20
  have c1_21 := cell_keep KS21.out c1_20
  clear c1_20
  have c2_21 := cell_keep KS21.out c2_20
  clear c2_20
  have c3_21 := cell_keep KS21.out c3_20
  clear c3_20
  have c4_21 := cell_keep KS21.out c4_20
  clear c4_20
  have c5_21 := cell_keep KS21.out c5_20
  clear c5_20
  have c6_21 := cell_keep KS21.out c6_20
  clear c6_20
  have c7_21 := cell_keep KS21.out c7_20
  clear c7_20
  have c8_21 := cell_keep KS21.out c8_20
  clear c8_20
  have c9_21 := cell_keep KS21.out c9_20
  clear c9_20
  have c10_21 := cell_keep KS21.out c10_20
  clear c10_20
  have c11_21 := cell_keep KS21.out c11_20
  clear c11_20
  go_wp2_with fail
  go_ret
  exact ⟨rfl, K21.out⟩

set_option maxHeartbeats 1600000 in
theorem lawPathForm (v0 : Value) (l0 : RP) (w : World) (r0 : RdR w v0 l0) (il0 : okR l0) : Calls Try.prog 5 #[v0] w fun e w' => e = .returned (.bool true) ∧ Below w.heap.size w w' := by
  by_cases q0 : szR l0 ≤ 1048576
  case neg =>
    have R0 := Lib.hid r0
    obtain ⟨p0a2, p0c2, rfl⟩ := r0.shape
    clear r0 il0
    go_enter Try.func5, Try.ntmps5
    go_wp2_with fail
    refine (szRootedProblem_any _ l0 (1048576) _ (R0.out.keep (by repeat (first | exact Keeps.refl _ | with_reducible refine Keeps.alloc ?_ _))) (by omega) (by omega)).mono ?_
    rintro e W0 ⟨rfl, k0⟩
    rw [szL, if_neg (by omega)]
    have KK0 : Hid (Keeps w W0) := Keeps.trans (by repeat (first | exact Keeps.refl _ | with_reducible refine Keeps.alloc ?_ _)) k0
    obtain ⟨hc0, hf0⟩ := bcell k0
    have hz0 := k0.size
    clear k0
    go_wp2
    go_ret
    exact ⟨rfl, KK0.out⟩
  exact lawPathForm_small v0 l0 r0 il0 (by omega)
end Go.Proofs.Ytijaojnaamkinaa
