/- The walk of laws.FnExactWalkOfProblem: it returns true at every input and changes nothing that was there. -/
import Derived.Test.YtiejigogmnkjdaaWop
import Derived.Test.YtiejigogmnkjdaaRk
import Derived.Test.YtiejigogmnkjdaaOpen
import Derived.Deep.RegionHeld3
namespace Go.Proofs.Ytiejigogmnkjdaa
open Go.RowKit
set_option linter.unusedSimpArgs false
set_option linter.unusedVariables false

set_option maxRecDepth 100000 in
set_option maxHeartbeats 8000000 in
theorem lawWalkOfProblem_small {w : World} (v0 : Value) (l0 : PR) (r0 : RdP w v0 l0) (il0 : okP l0) (s0 : szP l0 ≤ 1048576) : Calls Try.prog 13 #[v0] w fun e w' => e = .returned (.bool true) ∧ Below w.heap.size w w' := by
  have HE := Lib.hid (WalkOfProblem_eq l0 il0 s0)
  have R0 := Lib.hid r0
  have IL0 := Lib.hid il0
  obtain ⟨p0a2, p0c2, p0a3, p0c3, rfl⟩ := r0.shape
  clear r0 il0
  have K0 : Hid (Keeps w w) := Keeps.refl w
  go_enter Try.func13, Try.ntmps13
  go_wp2_with fail
  have KS1 : Hid (Keeps w (w.alloc (.cells #[.int .i64 l0.labels, .int .i64 l0.degree, .slice p0a2 l0.nodes.length p0c2, .slice p0a3 l0.edges.length p0c3] 24))) := (Keeps.refl _).alloc _
  have Z1' : Hid (w.heap.size + 1 ≤ (w.alloc (.cells #[.int .i64 l0.labels, .int .i64 l0.degree, .slice p0a2 l0.nodes.length p0c2, .slice p0a3 l0.edges.length p0c3] 24)).heap.size) := by show _ ≤ _; simp
  have E1 : (w.alloc (.cells #[.int .i64 l0.labels, .int .i64 l0.degree, .slice p0a2 l0.nodes.length p0c2, .slice p0a3 l0.edges.length p0c3] 24)).heap.size = w.heap.size + 1 := by rw [World.size_alloc]
  have c0_1 : (w.alloc (.cells #[.int .i64 l0.labels, .int .i64 l0.degree, .slice p0a2 l0.nodes.length p0c2, .slice p0a3 l0.edges.length p0c3] 24)).cell? ⟨w.heap.size, 0, none⟩ = some (.int .i64 l0.labels) := by rw [World.cell?_alloc_at _ _ _ _ rfl]; rfl
  have c1_1 : (w.alloc (.cells #[.int .i64 l0.labels, .int .i64 l0.degree, .slice p0a2 l0.nodes.length p0c2, .slice p0a3 l0.edges.length p0c3] 24)).cell? ⟨w.heap.size, 1, none⟩ = some (.int .i64 l0.degree) := by rw [World.cell?_alloc_at _ _ _ _ rfl]; rfl
  have c2_1 : (w.alloc (.cells #[.int .i64 l0.labels, .int .i64 l0.degree, .slice p0a2 l0.nodes.length p0c2, .slice p0a3 l0.edges.length p0c3] 24)).cell? ⟨w.heap.size, 2, none⟩ = some (.slice p0a2 l0.nodes.length p0c2) := by rw [World.cell?_alloc_at _ _ _ _ rfl]; rfl
  have c3_1 : (w.alloc (.cells #[.int .i64 l0.labels, .int .i64 l0.degree, .slice p0a2 l0.nodes.length p0c2, .slice p0a3 l0.edges.length p0c3] 24)).cell? ⟨w.heap.size, 3, none⟩ = some (.slice p0a3 l0.edges.length p0c3) := by rw [World.cell?_alloc_at _ _ _ _ rfl]; rfl
  generalize w.alloc (.cells #[.int .i64 l0.labels, .int .i64 l0.degree, .slice p0a2 l0.nodes.length p0c2, .slice p0a3 l0.edges.length p0c3] 24) = w1 at KS1 Z1' E1 c0_1 c1_1 c2_1 c3_1 ⊢
  have K1 : Hid (Keeps w w1) := Keeps.trans K0.out KS1.out
  have Z1 : Hid (w.heap.size ≤ w1.heap.size) := KS1.out.size
  clear E1
  refine (szProblem_any _ l0 1048576 _ (R0.out.keep K1.out) (by omega) (by omega)).mono ?_
  rintro e w2 ⟨rfl, k2⟩
  rw [szL, if_pos (by omega)]
  have KS2 : Hid (Keeps w1 w2) := k2
  clear k2
  have K2 : Hid (Keeps w w2) := Keeps.trans K1.out KS2.out
  have Z2 : Hid (w1.heap.size ≤ w2.heap.size) := KS2.out.size
  have c0_2 := cell_keep KS2.out c0_1
  clear c0_1
  have c1_2 := cell_keep KS2.out c1_1
  clear c1_1
  have c2_2 := cell_keep KS2.out c2_1
  clear c2_1
  have c3_2 := cell_keep KS2.out c3_1
  clear c3_1
  go_wp2_with fail
  refine (toProblem_any _ l0 _ (R0.out.keep K2.out) s0).mono ?_
  rintro e w3 ⟨t3, rfl, o3, k3⟩
  obtain ⟨t3a2, t3c2, t3a3, t3c3, rfl⟩ := o3.rd.shape
  have T3 := Lib.hid o3
  clear o3
  have KS3 : Hid (Keeps w2 w3) := k3
  clear k3
  have K3 : Hid (Keeps w w3) := Keeps.trans K2.out KS3.out
  have Z3 : Hid (w2.heap.size ≤ w3.heap.size) := KS3.out.size
  have c0_3 := cell_keep KS3.out c0_2
  clear c0_2
  have c1_3 := cell_keep KS3.out c1_2
  clear c1_2
  have c2_3 := cell_keep KS3.out c2_2
  clear c2_2
  have c3_3 := cell_keep KS3.out c3_2
  clear c3_2
  go_wp2_with fail
  refine (specWalkOfProblem_any (.agg #[.int .i64 l0.labels, .int .i64 l0.degree, .slice t3a2 l0.nodes.length t3c2, .slice t3a3 l0.edges.length t3c3]) l0 _ (T3.out.rd) IL0.out s0).mono ?_
  rintro e w4 ⟨x4, y4, rfl, o4, b4, k4⟩
  generalize fWalkOfProblemSpec l0 = R at *
  generalize hL : R.getD zeroWM = L at *
  obtain ⟨L0, L1⟩ := L
  have HL := Lib.hid hL
  clear hL
  simp only at o4 b4
  have BL : szW L0 + tot L1 ≤ 1000000000 := b4
  have BC := cntW_le L0
  have BD := off_tot L1
  obtain ⟨x4a1, x4c1, rfl⟩ := o4.rd0.shape
  have T4 := Lib.hid o4
  clear o4 b4
  have KS4 : Hid (Keeps w3 w4) := k4
  clear k4
  have K4 : Hid (Keeps w w4) := Keeps.trans K3.out KS4.out
  have Z4 : Hid (w3.heap.size ≤ w4.heap.size) := KS4.out.size
  have T3_4 := Lib.hid (T3.out.keep KS4.out)
  clear T3
  have c0_4 := cell_keep KS4.out c0_3
  clear c0_3
  have c1_4 := cell_keep KS4.out c1_3
  clear c1_3
  have c2_4 := cell_keep KS4.out c2_3
  clear c2_3
  have c3_4 := cell_keep KS4.out c3_3
  clear c3_3
  have pre1 : (w4.alloc (.cells #[.int .i64 L0.labels, .slice x4a1 L0.arcs.length x4c1] 74)).cell? ⟨w.heap.size, 0, none⟩ = some (.int .i64 l0.labels) := cell_keep ((Keeps.refl _).alloc _) c0_4
  have pre2 : (w4.alloc (.cells #[.int .i64 L0.labels, .slice x4a1 L0.arcs.length x4c1] 74)).cell? ⟨w.heap.size, 1, none⟩ = some (.int .i64 l0.degree) := cell_keep ((Keeps.refl _).alloc _) c1_4
  have pre3 : (w4.alloc (.cells #[.int .i64 L0.labels, .slice x4a1 L0.arcs.length x4c1] 74)).cell? ⟨w.heap.size, 2, none⟩ = some (.slice p0a2 l0.nodes.length p0c2) := cell_keep ((Keeps.refl _).alloc _) c2_4
  have pre4 : (w4.alloc (.cells #[.int .i64 L0.labels, .slice x4a1 L0.arcs.length x4c1] 74)).cell? ⟨w.heap.size, 3, none⟩ = some (.slice p0a3 l0.edges.length p0c3) := cell_keep ((Keeps.refl _).alloc _) c3_4
  go_wp2_with fail
  clear pre1 pre2 pre3 pre4
  have KS5 : Hid (Keeps w4 (w4.alloc (.cells #[.int .i64 L0.labels, .slice x4a1 L0.arcs.length x4c1] 74))) := (Keeps.refl _).alloc _
  have Z5' : Hid (w4.heap.size + 1 ≤ (w4.alloc (.cells #[.int .i64 L0.labels, .slice x4a1 L0.arcs.length x4c1] 74)).heap.size) := by show _ ≤ _; simp
  have E5 : (w4.alloc (.cells #[.int .i64 L0.labels, .slice x4a1 L0.arcs.length x4c1] 74)).heap.size = w4.heap.size + 1 := by rw [World.size_alloc]
  have c4_5 : (w4.alloc (.cells #[.int .i64 L0.labels, .slice x4a1 L0.arcs.length x4c1] 74)).cell? ⟨w4.heap.size, 0, none⟩ = some (.int .i64 L0.labels) := by rw [World.cell?_alloc_at _ _ _ _ rfl]; rfl
  have c5_5 : (w4.alloc (.cells #[.int .i64 L0.labels, .slice x4a1 L0.arcs.length x4c1] 74)).cell? ⟨w4.heap.size, 1, none⟩ = some (.slice x4a1 L0.arcs.length x4c1) := by rw [World.cell?_alloc_at _ _ _ _ rfl]; rfl
  generalize w4.alloc (.cells #[.int .i64 L0.labels, .slice x4a1 L0.arcs.length x4c1] 74) = w5 at KS5 Z5' E5 c4_5 c5_5 ⊢
  have K5 : Hid (Keeps w w5) := Keeps.trans K4.out KS5.out
  have Z5 : Hid (w4.heap.size ≤ w5.heap.size) := KS5.out.size
  have T3_5 := Lib.hid (T3_4.out.keep KS5.out)
  clear T3_4
  have T4_5 := Lib.hid (T4.out.keep KS5.out)
  clear T4
  have c0_5 := cell_keep KS5.out c0_4
  clear c0_4
  have c1_5 := cell_keep KS5.out c1_4
  clear c1_4
  have c2_5 := cell_keep KS5.out c2_4
  clear c2_4
  have c3_5 := cell_keep KS5.out c3_4
  clear c3_4
  clear E5
  refine (toProblem_any _ l0 _ (R0.out.keep K5.out) s0).mono ?_
  rintro e w6 ⟨t6, rfl, o6, k6⟩
  obtain ⟨t6a2, t6c2, t6a3, t6c3, rfl⟩ := o6.rd.shape
  have T6 := Lib.hid o6
  clear o6
  have KS6 : Hid (Keeps w5 w6) := k6
  clear k6
  have K6 : Hid (Keeps w w6) := Keeps.trans K5.out KS6.out
  have Z6 : Hid (w5.heap.size ≤ w6.heap.size) := KS6.out.size
  have T3_6 := Lib.hid (T3_5.out.keep KS6.out)
  clear T3_5
  have T4_6 := Lib.hid (T4_5.out.keep KS6.out)
  clear T4_5
  have c0_6 := cell_keep KS6.out c0_5
  clear c0_5
  have c1_6 := cell_keep KS6.out c1_5
  clear c1_5
  have c2_6 := cell_keep KS6.out c2_5
  clear c2_5
  have c3_6 := cell_keep KS6.out c3_5
  clear c3_5
  have c4_6 := cell_keep KS6.out c4_5
  clear c4_5
  have c5_6 := cell_keep KS6.out c5_5
  clear c5_5
  have pre1 : (w6.alloc (.cells #[.int .i64 l0.labels, .int .i64 l0.degree, .slice t6a2 l0.nodes.length t6c2, .slice t6a3 l0.edges.length t6c3] 29)).cell? ⟨w.heap.size, 0, none⟩ = some (.int .i64 l0.labels) := cell_keep ((Keeps.refl _).alloc _) c0_6
  have pre2 : (w6.alloc (.cells #[.int .i64 l0.labels, .int .i64 l0.degree, .slice t6a2 l0.nodes.length t6c2, .slice t6a3 l0.edges.length t6c3] 29)).cell? ⟨w.heap.size, 1, none⟩ = some (.int .i64 l0.degree) := cell_keep ((Keeps.refl _).alloc _) c1_6
  have pre3 : (w6.alloc (.cells #[.int .i64 l0.labels, .int .i64 l0.degree, .slice t6a2 l0.nodes.length t6c2, .slice t6a3 l0.edges.length t6c3] 29)).cell? ⟨w.heap.size, 2, none⟩ = some (.slice p0a2 l0.nodes.length p0c2) := cell_keep ((Keeps.refl _).alloc _) c2_6
  have pre4 : (w6.alloc (.cells #[.int .i64 l0.labels, .int .i64 l0.degree, .slice t6a2 l0.nodes.length t6c2, .slice t6a3 l0.edges.length t6c3] 29)).cell? ⟨w.heap.size, 3, none⟩ = some (.slice p0a3 l0.edges.length p0c3) := cell_keep ((Keeps.refl _).alloc _) c3_6
  have pre5 : (w6.alloc (.cells #[.int .i64 l0.labels, .int .i64 l0.degree, .slice t6a2 l0.nodes.length t6c2, .slice t6a3 l0.edges.length t6c3] 29)).cell? ⟨w4.heap.size, 0, none⟩ = some (.int .i64 L0.labels) := cell_keep ((Keeps.refl _).alloc _) c4_6
  have pre6 : (w6.alloc (.cells #[.int .i64 l0.labels, .int .i64 l0.degree, .slice t6a2 l0.nodes.length t6c2, .slice t6a3 l0.edges.length t6c3] 29)).cell? ⟨w4.heap.size, 1, none⟩ = some (.slice x4a1 L0.arcs.length x4c1) := cell_keep ((Keeps.refl _).alloc _) c5_6
  go_wp2_with fail
  clear pre1 pre2 pre3 pre4 pre5 pre6
  have KS7 : Hid (Keeps w6 (w6.alloc (.cells #[.int .i64 l0.labels, .int .i64 l0.degree, .slice t6a2 l0.nodes.length t6c2, .slice t6a3 l0.edges.length t6c3] 29))) := (Keeps.refl _).alloc _
  have Z7' : Hid (w6.heap.size + 1 ≤ (w6.alloc (.cells #[.int .i64 l0.labels, .int .i64 l0.degree, .slice t6a2 l0.nodes.length t6c2, .slice t6a3 l0.edges.length t6c3] 29)).heap.size) := by show _ ≤ _; simp
  have E7 : (w6.alloc (.cells #[.int .i64 l0.labels, .int .i64 l0.degree, .slice t6a2 l0.nodes.length t6c2, .slice t6a3 l0.edges.length t6c3] 29)).heap.size = w6.heap.size + 1 := by rw [World.size_alloc]
  have c6_7 : (w6.alloc (.cells #[.int .i64 l0.labels, .int .i64 l0.degree, .slice t6a2 l0.nodes.length t6c2, .slice t6a3 l0.edges.length t6c3] 29)).cell? ⟨w6.heap.size, 0, none⟩ = some (.int .i64 l0.labels) := by rw [World.cell?_alloc_at _ _ _ _ rfl]; rfl
  have c7_7 : (w6.alloc (.cells #[.int .i64 l0.labels, .int .i64 l0.degree, .slice t6a2 l0.nodes.length t6c2, .slice t6a3 l0.edges.length t6c3] 29)).cell? ⟨w6.heap.size, 1, none⟩ = some (.int .i64 l0.degree) := by rw [World.cell?_alloc_at _ _ _ _ rfl]; rfl
  have c8_7 : (w6.alloc (.cells #[.int .i64 l0.labels, .int .i64 l0.degree, .slice t6a2 l0.nodes.length t6c2, .slice t6a3 l0.edges.length t6c3] 29)).cell? ⟨w6.heap.size, 2, none⟩ = some (.slice t6a2 l0.nodes.length t6c2) := by rw [World.cell?_alloc_at _ _ _ _ rfl]; rfl
  have c9_7 : (w6.alloc (.cells #[.int .i64 l0.labels, .int .i64 l0.degree, .slice t6a2 l0.nodes.length t6c2, .slice t6a3 l0.edges.length t6c3] 29)).cell? ⟨w6.heap.size, 3, none⟩ = some (.slice t6a3 l0.edges.length t6c3) := by rw [World.cell?_alloc_at _ _ _ _ rfl]; rfl
  generalize w6.alloc (.cells #[.int .i64 l0.labels, .int .i64 l0.degree, .slice t6a2 l0.nodes.length t6c2, .slice t6a3 l0.edges.length t6c3] 29) = w7 at KS7 Z7' E7 c6_7 c7_7 c8_7 c9_7 ⊢
  have K7 : Hid (Keeps w w7) := Keeps.trans K6.out KS7.out
  have Z7 : Hid (w6.heap.size ≤ w7.heap.size) := KS7.out.size
  have T3_7 := Lib.hid (T3_6.out.keep KS7.out)
  clear T3_6
  have T4_7 := Lib.hid (T4_6.out.keep KS7.out)
  clear T4_6
  have T6_7 := Lib.hid (T6.out.keep KS7.out)
  clear T6
  have c0_7 := cell_keep KS7.out c0_6
  clear c0_6
  have c1_7 := cell_keep KS7.out c1_6
  clear c1_6
  have c2_7 := cell_keep KS7.out c2_6
  clear c2_6
  have c3_7 := cell_keep KS7.out c3_6
  clear c3_6
  have c4_7 := cell_keep KS7.out c4_6
  clear c4_6
  have c5_7 := cell_keep KS7.out c5_6
  clear c5_6
  clear E7
  refine (implWalkOfProblem_any (.agg #[.int .i64 l0.labels, .int .i64 l0.degree, .slice t6a2 l0.nodes.length t6c2, .slice t6a3 l0.edges.length t6c3]) l0 _ (T6_7.out.rd) IL0.out s0).mono ?_
  rw [HE.out]
  rintro e w8 ⟨x8, y8, rfl, o8, b8, k8⟩
  rw [HL.out] at o8
  simp only at o8
  obtain ⟨x8a1, x8c1, rfl⟩ := o8.rd0.shape
  have T8 := Lib.hid o8
  clear o8 b8
  have KS8 : Hid (Keeps w7 w8) := k8
  clear k8
  have K8 : Hid (Keeps w w8) := Keeps.trans K7.out KS8.out
  have Z8 : Hid (w7.heap.size ≤ w8.heap.size) := KS8.out.size
  have T3_8 := Lib.hid (T3_7.out.keep KS8.out)
  clear T3_7
  have T4_8 := Lib.hid (T4_7.out.keep KS8.out)
  clear T4_7
  have T6_8 := Lib.hid (T6_7.out.keep KS8.out)
  clear T6_7
  have c0_8 := cell_keep KS8.out c0_7
  clear c0_7
  have c1_8 := cell_keep KS8.out c1_7
  clear c1_7
  have c2_8 := cell_keep KS8.out c2_7
  clear c2_7
  have c3_8 := cell_keep KS8.out c3_7
  clear c3_7
  have c4_8 := cell_keep KS8.out c4_7
  clear c4_7
  have c5_8 := cell_keep KS8.out c5_7
  clear c5_7
  have c6_8 := cell_keep KS8.out c6_7
  clear c6_7
  have c7_8 := cell_keep KS8.out c7_7
  clear c7_7
  have c8_8 := cell_keep KS8.out c8_7
  clear c8_7
  have c9_8 := cell_keep KS8.out c9_7
  clear c9_7
  have pre1 : (w8.alloc (.cells #[.int .i64 L0.labels, .slice x8a1 L0.arcs.length x8c1] 74)).cell? ⟨w.heap.size, 0, none⟩ = some (.int .i64 l0.labels) := cell_keep ((Keeps.refl _).alloc _) c0_8
  have pre2 : (w8.alloc (.cells #[.int .i64 L0.labels, .slice x8a1 L0.arcs.length x8c1] 74)).cell? ⟨w.heap.size, 1, none⟩ = some (.int .i64 l0.degree) := cell_keep ((Keeps.refl _).alloc _) c1_8
  have pre3 : (w8.alloc (.cells #[.int .i64 L0.labels, .slice x8a1 L0.arcs.length x8c1] 74)).cell? ⟨w.heap.size, 2, none⟩ = some (.slice p0a2 l0.nodes.length p0c2) := cell_keep ((Keeps.refl _).alloc _) c2_8
  have pre4 : (w8.alloc (.cells #[.int .i64 L0.labels, .slice x8a1 L0.arcs.length x8c1] 74)).cell? ⟨w.heap.size, 3, none⟩ = some (.slice p0a3 l0.edges.length p0c3) := cell_keep ((Keeps.refl _).alloc _) c3_8
  have pre5 : (w8.alloc (.cells #[.int .i64 L0.labels, .slice x8a1 L0.arcs.length x8c1] 74)).cell? ⟨w4.heap.size, 0, none⟩ = some (.int .i64 L0.labels) := cell_keep ((Keeps.refl _).alloc _) c4_8
  have pre6 : (w8.alloc (.cells #[.int .i64 L0.labels, .slice x8a1 L0.arcs.length x8c1] 74)).cell? ⟨w4.heap.size, 1, none⟩ = some (.slice x4a1 L0.arcs.length x4c1) := cell_keep ((Keeps.refl _).alloc _) c5_8
  have pre7 : (w8.alloc (.cells #[.int .i64 L0.labels, .slice x8a1 L0.arcs.length x8c1] 74)).cell? ⟨w6.heap.size, 0, none⟩ = some (.int .i64 l0.labels) := cell_keep ((Keeps.refl _).alloc _) c6_8
  have pre8 : (w8.alloc (.cells #[.int .i64 L0.labels, .slice x8a1 L0.arcs.length x8c1] 74)).cell? ⟨w6.heap.size, 1, none⟩ = some (.int .i64 l0.degree) := cell_keep ((Keeps.refl _).alloc _) c7_8
  have pre9 : (w8.alloc (.cells #[.int .i64 L0.labels, .slice x8a1 L0.arcs.length x8c1] 74)).cell? ⟨w6.heap.size, 2, none⟩ = some (.slice t6a2 l0.nodes.length t6c2) := cell_keep ((Keeps.refl _).alloc _) c8_8
  have pre10 : (w8.alloc (.cells #[.int .i64 L0.labels, .slice x8a1 L0.arcs.length x8c1] 74)).cell? ⟨w6.heap.size, 3, none⟩ = some (.slice t6a3 l0.edges.length t6c3) := cell_keep ((Keeps.refl _).alloc _) c9_8
  go_wp2_with fail
  clear pre1 pre2 pre3 pre4 pre5 pre6 pre7 pre8 pre9 pre10
  have KS9 : Hid (Keeps w8 (w8.alloc (.cells #[.int .i64 L0.labels, .slice x8a1 L0.arcs.length x8c1] 74))) := (Keeps.refl _).alloc _
  have Z9' : Hid (w8.heap.size + 1 ≤ (w8.alloc (.cells #[.int .i64 L0.labels, .slice x8a1 L0.arcs.length x8c1] 74)).heap.size) := by show _ ≤ _; simp
  have E9 : (w8.alloc (.cells #[.int .i64 L0.labels, .slice x8a1 L0.arcs.length x8c1] 74)).heap.size = w8.heap.size + 1 := by rw [World.size_alloc]
  have c10_9 : (w8.alloc (.cells #[.int .i64 L0.labels, .slice x8a1 L0.arcs.length x8c1] 74)).cell? ⟨w8.heap.size, 0, none⟩ = some (.int .i64 L0.labels) := by rw [World.cell?_alloc_at _ _ _ _ rfl]; rfl
  have c11_9 : (w8.alloc (.cells #[.int .i64 L0.labels, .slice x8a1 L0.arcs.length x8c1] 74)).cell? ⟨w8.heap.size, 1, none⟩ = some (.slice x8a1 L0.arcs.length x8c1) := by rw [World.cell?_alloc_at _ _ _ _ rfl]; rfl
  generalize w8.alloc (.cells #[.int .i64 L0.labels, .slice x8a1 L0.arcs.length x8c1] 74) = w9 at KS9 Z9' E9 c10_9 c11_9 ⊢
  have K9 : Hid (Keeps w w9) := Keeps.trans K8.out KS9.out
  have Z9 : Hid (w8.heap.size ≤ w9.heap.size) := KS9.out.size
  have T3_9 := Lib.hid (T3_8.out.keep KS9.out)
  clear T3_8
  have T4_9 := Lib.hid (T4_8.out.keep KS9.out)
  clear T4_8
  have T6_9 := Lib.hid (T6_8.out.keep KS9.out)
  clear T6_8
  have T8_9 := Lib.hid (T8.out.keep KS9.out)
  clear T8
  have c0_9 := cell_keep KS9.out c0_8
  clear c0_8
  have c1_9 := cell_keep KS9.out c1_8
  clear c1_8
  have c2_9 := cell_keep KS9.out c2_8
  clear c2_8
  have c3_9 := cell_keep KS9.out c3_8
  clear c3_8
  have c4_9 := cell_keep KS9.out c4_8
  clear c4_8
  have c5_9 := cell_keep KS9.out c5_8
  clear c5_8
  have c6_9 := cell_keep KS9.out c6_8
  clear c6_8
  have c7_9 := cell_keep KS9.out c7_8
  clear c7_8
  have c8_9 := cell_keep KS9.out c8_8
  clear c8_8
  have c9_9 := cell_keep KS9.out c9_8
  clear c9_8
  clear E9
  refine (eqWalkProblem_same _ _ L0 _ (T8_9.out.rd0) (T4_9.out.rd0)).mono ?_
  rintro e w10 ⟨rfl, k10⟩
  have KS10 : Hid (Keeps w9 w10) := k10
  clear k10
  have K10 : Hid (Keeps w w10) := Keeps.trans K9.out KS10.out
  have Z10 : Hid (w9.heap.size ≤ w10.heap.size) := KS10.out.size
  have T3_10 := Lib.hid (T3_9.out.keep KS10.out)
  clear T3_9
  have T4_10 := Lib.hid (T4_9.out.keep KS10.out)
  clear T4_9
  have T6_10 := Lib.hid (T6_9.out.keep KS10.out)
  clear T6_9
  have T8_10 := Lib.hid (T8_9.out.keep KS10.out)
  clear T8_9
  have c0_10 := cell_keep KS10.out c0_9
  clear c0_9
  have c1_10 := cell_keep KS10.out c1_9
  clear c1_9
  have c2_10 := cell_keep KS10.out c2_9
  clear c2_9
  have c3_10 := cell_keep KS10.out c3_9
  clear c3_9
  have c4_10 := cell_keep KS10.out c4_9
  clear c4_9
  have c5_10 := cell_keep KS10.out c5_9
  clear c5_9
  have c6_10 := cell_keep KS10.out c6_9
  clear c6_9
  have c7_10 := cell_keep KS10.out c7_9
  clear c7_9
  have c8_10 := cell_keep KS10.out c8_9
  clear c8_9
  have c9_10 := cell_keep KS10.out c9_9
  clear c9_9
  have c10_10 := cell_keep KS10.out c10_9
  clear c10_9
  have c11_10 := cell_keep KS10.out c11_9
  clear c11_9
  go_wp2_with fail
  refine (eqIntSS_any y8 y4 _ _ _ (T8_10.out.rd1) (T4_10.out.rd1)).mono ?_
  rintro e w11 ⟨rfl, d11⟩
  have KS11 : Hid (Keeps w10 w11) := d11.keeps
  clear d11
  have K11 : Hid (Keeps w w11) := Keeps.trans K10.out KS11.out
  have Z11 : Hid (w10.heap.size ≤ w11.heap.size) := KS11.out.size
  have T3_11 := Lib.hid (T3_10.out.keep KS11.out)
  clear T3_10
  have T4_11 := Lib.hid (T4_10.out.keep KS11.out)
  clear T4_10
  have T6_11 := Lib.hid (T6_10.out.keep KS11.out)
  clear T6_10
  have T8_11 := Lib.hid (T8_10.out.keep KS11.out)
  clear T8_10
  have c0_11 := cell_keep KS11.out c0_10
  clear c0_10
  have c1_11 := cell_keep KS11.out c1_10
  clear c1_10
  have c2_11 := cell_keep KS11.out c2_10
  clear c2_10
  have c3_11 := cell_keep KS11.out c3_10
  clear c3_10
  have c4_11 := cell_keep KS11.out c4_10
  clear c4_10
  have c5_11 := cell_keep KS11.out c5_10
  clear c5_10
  have c6_11 := cell_keep KS11.out c6_10
  clear c6_10
  have c7_11 := cell_keep KS11.out c7_10
  clear c7_10
  have c8_11 := cell_keep KS11.out c8_10
  clear c8_10
  have c9_11 := cell_keep KS11.out c9_10
  clear c9_10
  have c10_11 := cell_keep KS11.out c10_10
  clear c10_10
  have c11_11 := cell_keep KS11.out c11_10
  clear c11_10
  go_wp2_with fail
  have SK : Hid (∀ W : World, Keeps w11 W → W.cell? ⟨w.heap.size, 0, none⟩ = some (.int .i64 l0.labels) ∧ W.cell? ⟨w.heap.size, 1, none⟩ = some (.int .i64 l0.degree) ∧ W.cell? ⟨w.heap.size, 2, none⟩ = some (.slice p0a2 l0.nodes.length p0c2) ∧ W.cell? ⟨w.heap.size, 3, none⟩ = some (.slice p0a3 l0.edges.length p0c3) ∧ W.cell? ⟨w4.heap.size, 0, none⟩ = some (.int .i64 L0.labels) ∧ W.cell? ⟨w4.heap.size, 1, none⟩ = some (.slice x4a1 L0.arcs.length x4c1) ∧ W.cell? ⟨w6.heap.size, 0, none⟩ = some (.int .i64 l0.labels) ∧ W.cell? ⟨w6.heap.size, 1, none⟩ = some (.int .i64 l0.degree) ∧ W.cell? ⟨w6.heap.size, 2, none⟩ = some (.slice t6a2 l0.nodes.length t6c2) ∧ W.cell? ⟨w6.heap.size, 3, none⟩ = some (.slice t6a3 l0.edges.length t6c3) ∧ W.cell? ⟨w8.heap.size, 0, none⟩ = some (.int .i64 L0.labels) ∧ W.cell? ⟨w8.heap.size, 1, none⟩ = some (.slice x8a1 L0.arcs.length x8c1)) := fun W k => ⟨cell_keep k c0_11, cell_keep k c1_11, cell_keep k c2_11, cell_keep k c3_11, cell_keep k c4_11, cell_keep k c5_11, cell_keep k c6_11, cell_keep k c7_11, cell_keep k c8_11, cell_keep k c9_11, cell_keep k c10_11, cell_keep k c11_11⟩
  have KD : Hid (Keeps w11 w11.drew) := (Keeps.refl _).drew
  go_region_held3 (fun W => W.cell? ⟨w.heap.size, 0, none⟩ = some (.int .i64 l0.labels) ∧ W.cell? ⟨w.heap.size, 1, none⟩ = some (.int .i64 l0.degree) ∧ W.cell? ⟨w.heap.size, 2, none⟩ = some (.slice p0a2 l0.nodes.length p0c2) ∧ W.cell? ⟨w.heap.size, 3, none⟩ = some (.slice p0a3 l0.edges.length p0c3) ∧ W.cell? ⟨w4.heap.size, 0, none⟩ = some (.int .i64 L0.labels) ∧ W.cell? ⟨w4.heap.size, 1, none⟩ = some (.slice x4a1 L0.arcs.length x4c1) ∧ W.cell? ⟨w6.heap.size, 0, none⟩ = some (.int .i64 l0.labels) ∧ W.cell? ⟨w6.heap.size, 1, none⟩ = some (.int .i64 l0.degree) ∧ W.cell? ⟨w6.heap.size, 2, none⟩ = some (.slice t6a2 l0.nodes.length t6c2) ∧ W.cell? ⟨w6.heap.size, 3, none⟩ = some (.slice t6a3 l0.edges.length t6c3) ∧ W.cell? ⟨w8.heap.size, 0, none⟩ = some (.int .i64 L0.labels) ∧ W.cell? ⟨w8.heap.size, 1, none⟩ = some (.slice x8a1 L0.arcs.length x8c1)) (first | exact SK.out _ KD.out | exact SK.out _ (Keeps.trans KD.out KS12'.out) | exact SK.out _ (Keeps.trans KD.out (Keeps.trans KS12'.out KS13.out)))
    ((first
      | (go_at_call 17; refine (toProblem_any _ l0 _ (R0.out.keep (Keeps.trans K11.out KD.out)) s0).mono ?_; rintro e w12 ⟨tt, rfl, o12, k12⟩; obtain ⟨t12a2, t12c2, t12a3, t12c3, rfl⟩ := o12.rd.shape; have T12 := Lib.hid o12; have KS12' := Lib.hid k12; clear o12 k12)
      | (go_at_call 20; refine (eqProblem_same _ _ l0 _ ((T6_11.out.rd).keep (Keeps.trans KD.out KS12'.out)) T12.out.rd).mono ?_; rintro e w13 ⟨rfl, k13⟩; have KS13 := Lib.hid k13; clear k13)))
  have KS12 : Hid (Keeps w11 w12) := Keeps.trans KD.out KS12'.out
  have K12 : Hid (Keeps w w12) := Keeps.trans K11.out KS12.out
  have Z12 : Hid (w11.heap.size ≤ w12.heap.size) := KS12.out.size
  have T3_12 := Lib.hid (T3_11.out.keep KS12.out)
  clear T3_11
  have T4_12 := Lib.hid (T4_11.out.keep KS12.out)
  clear T4_11
  have T6_12 := Lib.hid (T6_11.out.keep KS12.out)
  clear T6_11
  have T8_12 := Lib.hid (T8_11.out.keep KS12.out)
  clear T8_11
  have c0_12 := cell_keep KS12.out c0_11
  clear c0_11
  have c1_12 := cell_keep KS12.out c1_11
  clear c1_11
  have c2_12 := cell_keep KS12.out c2_11
  clear c2_11
  have c3_12 := cell_keep KS12.out c3_11
  clear c3_11
  have c4_12 := cell_keep KS12.out c4_11
  clear c4_11
  have c5_12 := cell_keep KS12.out c5_11
  clear c5_11
  have c6_12 := cell_keep KS12.out c6_11
  clear c6_11
  have c7_12 := cell_keep KS12.out c7_11
  clear c7_11
  have c8_12 := cell_keep KS12.out c8_11
  clear c8_11
  have c9_12 := cell_keep KS12.out c9_11
  clear c9_11
  have c10_12 := cell_keep KS12.out c10_11
  clear c10_11
  have c11_12 := cell_keep KS12.out c11_11
  clear c11_11
  have K13 : Hid (Keeps w w13) := Keeps.trans K12.out KS13.out
  have Z13 : Hid (w12.heap.size ≤ w13.heap.size) := KS13.out.size
  have T3_13 := Lib.hid (T3_12.out.keep KS13.out)
  clear T3_12
  have T4_13 := Lib.hid (T4_12.out.keep KS13.out)
  clear T4_12
  have T6_13 := Lib.hid (T6_12.out.keep KS13.out)
  clear T6_12
  have T8_13 := Lib.hid (T8_12.out.keep KS13.out)
  clear T8_12
  have c0_13 := cell_keep KS13.out c0_12
  clear c0_12
  have c1_13 := cell_keep KS13.out c1_12
  clear c1_12
  have c2_13 := cell_keep KS13.out c2_12
  clear c2_12
  have c3_13 := cell_keep KS13.out c3_12
  clear c3_12
  have c4_13 := cell_keep KS13.out c4_12
  clear c4_12
  have c5_13 := cell_keep KS13.out c5_12
  clear c5_12
  have c6_13 := cell_keep KS13.out c6_12
  clear c6_12
  have c7_13 := cell_keep KS13.out c7_12
  clear c7_12
  have c8_13 := cell_keep KS13.out c8_12
  clear c8_12
  have c9_13 := cell_keep KS13.out c9_12
  clear c9_12
  have c10_13 := cell_keep KS13.out c10_12
  clear c10_12
  have c11_13 := cell_keep KS13.out c11_12
  clear c11_12
  clear SK KD
  go_wp2_with fail
  have CL14 := cntP_le l0
  refine (markProblem_any w5.heap.size w6.heap.size _ l0 1 _ T6_13.out (by have := Z1.out; have := Z2.out; have := Z3.out; have := Z4.out; have := Z5.out; have := Z6.out; have := Z7.out; have := Z8.out; have := Z9.out; have := Z10.out; have := Z11.out; have := Z12.out; have := Z13.out; omega) (by omega) (by omega)).mono ?_
  rintro e w14 ⟨rfl, o14, g14⟩
  have G14 : Hid (Chg w5.heap.size w6.heap.size w13 w14) := g14
  have T6_14 := Lib.hid o14
  clear o14 g14 T6_13
  have Z14 : Hid (w13.heap.size ≤ w14.heap.size) := G14.out.size
  have K14 : Hid (Keeps w w14) := G14.out.keeps K13.out (by have := Z1.out; have := Z2.out; have := Z3.out; have := Z4.out; have := Z5.out; have := Z6.out; have := Z7.out; have := Z8.out; have := Z9.out; have := Z10.out; have := Z11.out; have := Z12.out; have := Z13.out; have := Z14.out; omega)
  have T3_14 := Lib.hid (T3_13.out.chg G14.out (by have := Z1.out; have := Z2.out; have := Z3.out; have := Z4.out; have := Z5.out; have := Z6.out; have := Z7.out; have := Z8.out; have := Z9.out; have := Z10.out; have := Z11.out; have := Z12.out; have := Z13.out; have := Z14.out; omega))
  clear T3_13
  have T4_14 := Lib.hid (T4_13.out.chg G14.out (by have := Z1.out; have := Z2.out; have := Z3.out; have := Z4.out; have := Z5.out; have := Z6.out; have := Z7.out; have := Z8.out; have := Z9.out; have := Z10.out; have := Z11.out; have := Z12.out; have := Z13.out; have := Z14.out; omega))
  clear T4_13
  have T8_14 := Lib.hid (T8_13.out.chg G14.out (by have := Z1.out; have := Z2.out; have := Z3.out; have := Z4.out; have := Z5.out; have := Z6.out; have := Z7.out; have := Z8.out; have := Z9.out; have := Z10.out; have := Z11.out; have := Z12.out; have := Z13.out; have := Z14.out; omega))
  clear T8_13
  have c0_14 := (World.cell?_of_block (a := ⟨w.heap.size, 0, none⟩) (G14.out.block (w.heap.size) (by have := Z1.out; have := Z2.out; have := Z3.out; have := Z4.out; have := Z5.out; have := Z6.out; have := Z7.out; have := Z8.out; have := Z9.out; have := Z10.out; have := Z11.out; have := Z12.out; have := Z13.out; have := Z14.out; have := Z1'.out; (try simp only); omega) (by have := Z1.out; have := Z2.out; have := Z3.out; have := Z4.out; have := Z5.out; have := Z6.out; have := Z7.out; have := Z8.out; have := Z9.out; have := Z10.out; have := Z11.out; have := Z12.out; have := Z13.out; have := Z14.out; have := Z1'.out; (try simp only); omega))).trans c0_13
  clear c0_13
  have c1_14 := (World.cell?_of_block (a := ⟨w.heap.size, 1, none⟩) (G14.out.block (w.heap.size) (by have := Z1.out; have := Z2.out; have := Z3.out; have := Z4.out; have := Z5.out; have := Z6.out; have := Z7.out; have := Z8.out; have := Z9.out; have := Z10.out; have := Z11.out; have := Z12.out; have := Z13.out; have := Z14.out; have := Z1'.out; (try simp only); omega) (by have := Z1.out; have := Z2.out; have := Z3.out; have := Z4.out; have := Z5.out; have := Z6.out; have := Z7.out; have := Z8.out; have := Z9.out; have := Z10.out; have := Z11.out; have := Z12.out; have := Z13.out; have := Z14.out; have := Z1'.out; (try simp only); omega))).trans c1_13
  clear c1_13
  have c2_14 := (World.cell?_of_block (a := ⟨w.heap.size, 2, none⟩) (G14.out.block (w.heap.size) (by have := Z1.out; have := Z2.out; have := Z3.out; have := Z4.out; have := Z5.out; have := Z6.out; have := Z7.out; have := Z8.out; have := Z9.out; have := Z10.out; have := Z11.out; have := Z12.out; have := Z13.out; have := Z14.out; have := Z1'.out; (try simp only); omega) (by have := Z1.out; have := Z2.out; have := Z3.out; have := Z4.out; have := Z5.out; have := Z6.out; have := Z7.out; have := Z8.out; have := Z9.out; have := Z10.out; have := Z11.out; have := Z12.out; have := Z13.out; have := Z14.out; have := Z1'.out; (try simp only); omega))).trans c2_13
  clear c2_13
  have c3_14 := (World.cell?_of_block (a := ⟨w.heap.size, 3, none⟩) (G14.out.block (w.heap.size) (by have := Z1.out; have := Z2.out; have := Z3.out; have := Z4.out; have := Z5.out; have := Z6.out; have := Z7.out; have := Z8.out; have := Z9.out; have := Z10.out; have := Z11.out; have := Z12.out; have := Z13.out; have := Z14.out; have := Z1'.out; (try simp only); omega) (by have := Z1.out; have := Z2.out; have := Z3.out; have := Z4.out; have := Z5.out; have := Z6.out; have := Z7.out; have := Z8.out; have := Z9.out; have := Z10.out; have := Z11.out; have := Z12.out; have := Z13.out; have := Z14.out; have := Z1'.out; (try simp only); omega))).trans c3_13
  clear c3_13
  have c4_14 := (World.cell?_of_block (a := ⟨w4.heap.size, 0, none⟩) (G14.out.block (w4.heap.size) (by have := Z1.out; have := Z2.out; have := Z3.out; have := Z4.out; have := Z5.out; have := Z6.out; have := Z7.out; have := Z8.out; have := Z9.out; have := Z10.out; have := Z11.out; have := Z12.out; have := Z13.out; have := Z14.out; have := Z5'.out; (try simp only); omega) (by have := Z1.out; have := Z2.out; have := Z3.out; have := Z4.out; have := Z5.out; have := Z6.out; have := Z7.out; have := Z8.out; have := Z9.out; have := Z10.out; have := Z11.out; have := Z12.out; have := Z13.out; have := Z14.out; have := Z5'.out; (try simp only); omega))).trans c4_13
  clear c4_13
  have c5_14 := (World.cell?_of_block (a := ⟨w4.heap.size, 1, none⟩) (G14.out.block (w4.heap.size) (by have := Z1.out; have := Z2.out; have := Z3.out; have := Z4.out; have := Z5.out; have := Z6.out; have := Z7.out; have := Z8.out; have := Z9.out; have := Z10.out; have := Z11.out; have := Z12.out; have := Z13.out; have := Z14.out; have := Z5'.out; (try simp only); omega) (by have := Z1.out; have := Z2.out; have := Z3.out; have := Z4.out; have := Z5.out; have := Z6.out; have := Z7.out; have := Z8.out; have := Z9.out; have := Z10.out; have := Z11.out; have := Z12.out; have := Z13.out; have := Z14.out; have := Z5'.out; (try simp only); omega))).trans c5_13
  clear c5_13
  have c6_14 := (World.cell?_of_block (a := ⟨w6.heap.size, 0, none⟩) (G14.out.block (w6.heap.size) (by have := Z1.out; have := Z2.out; have := Z3.out; have := Z4.out; have := Z5.out; have := Z6.out; have := Z7.out; have := Z8.out; have := Z9.out; have := Z10.out; have := Z11.out; have := Z12.out; have := Z13.out; have := Z14.out; have := Z7'.out; (try simp only); omega) (by have := Z1.out; have := Z2.out; have := Z3.out; have := Z4.out; have := Z5.out; have := Z6.out; have := Z7.out; have := Z8.out; have := Z9.out; have := Z10.out; have := Z11.out; have := Z12.out; have := Z13.out; have := Z14.out; have := Z7'.out; (try simp only); omega))).trans c6_13
  clear c6_13
  have c7_14 := (World.cell?_of_block (a := ⟨w6.heap.size, 1, none⟩) (G14.out.block (w6.heap.size) (by have := Z1.out; have := Z2.out; have := Z3.out; have := Z4.out; have := Z5.out; have := Z6.out; have := Z7.out; have := Z8.out; have := Z9.out; have := Z10.out; have := Z11.out; have := Z12.out; have := Z13.out; have := Z14.out; have := Z7'.out; (try simp only); omega) (by have := Z1.out; have := Z2.out; have := Z3.out; have := Z4.out; have := Z5.out; have := Z6.out; have := Z7.out; have := Z8.out; have := Z9.out; have := Z10.out; have := Z11.out; have := Z12.out; have := Z13.out; have := Z14.out; have := Z7'.out; (try simp only); omega))).trans c7_13
  clear c7_13
  have c8_14 := (World.cell?_of_block (a := ⟨w6.heap.size, 2, none⟩) (G14.out.block (w6.heap.size) (by have := Z1.out; have := Z2.out; have := Z3.out; have := Z4.out; have := Z5.out; have := Z6.out; have := Z7.out; have := Z8.out; have := Z9.out; have := Z10.out; have := Z11.out; have := Z12.out; have := Z13.out; have := Z14.out; have := Z7'.out; (try simp only); omega) (by have := Z1.out; have := Z2.out; have := Z3.out; have := Z4.out; have := Z5.out; have := Z6.out; have := Z7.out; have := Z8.out; have := Z9.out; have := Z10.out; have := Z11.out; have := Z12.out; have := Z13.out; have := Z14.out; have := Z7'.out; (try simp only); omega))).trans c8_13
  clear c8_13
  have c9_14 := (World.cell?_of_block (a := ⟨w6.heap.size, 3, none⟩) (G14.out.block (w6.heap.size) (by have := Z1.out; have := Z2.out; have := Z3.out; have := Z4.out; have := Z5.out; have := Z6.out; have := Z7.out; have := Z8.out; have := Z9.out; have := Z10.out; have := Z11.out; have := Z12.out; have := Z13.out; have := Z14.out; have := Z7'.out; (try simp only); omega) (by have := Z1.out; have := Z2.out; have := Z3.out; have := Z4.out; have := Z5.out; have := Z6.out; have := Z7.out; have := Z8.out; have := Z9.out; have := Z10.out; have := Z11.out; have := Z12.out; have := Z13.out; have := Z14.out; have := Z7'.out; (try simp only); omega))).trans c9_13
  clear c9_13
  have c10_14 := (World.cell?_of_block (a := ⟨w8.heap.size, 0, none⟩) (G14.out.block (w8.heap.size) (by have := Z1.out; have := Z2.out; have := Z3.out; have := Z4.out; have := Z5.out; have := Z6.out; have := Z7.out; have := Z8.out; have := Z9.out; have := Z10.out; have := Z11.out; have := Z12.out; have := Z13.out; have := Z14.out; have := Z9'.out; (try simp only); omega) (by have := Z1.out; have := Z2.out; have := Z3.out; have := Z4.out; have := Z5.out; have := Z6.out; have := Z7.out; have := Z8.out; have := Z9.out; have := Z10.out; have := Z11.out; have := Z12.out; have := Z13.out; have := Z14.out; have := Z9'.out; (try simp only); omega))).trans c10_13
  clear c10_13
  have c11_14 := (World.cell?_of_block (a := ⟨w8.heap.size, 1, none⟩) (G14.out.block (w8.heap.size) (by have := Z1.out; have := Z2.out; have := Z3.out; have := Z4.out; have := Z5.out; have := Z6.out; have := Z7.out; have := Z8.out; have := Z9.out; have := Z10.out; have := Z11.out; have := Z12.out; have := Z13.out; have := Z14.out; have := Z9'.out; (try simp only); omega) (by have := Z1.out; have := Z2.out; have := Z3.out; have := Z4.out; have := Z5.out; have := Z6.out; have := Z7.out; have := Z8.out; have := Z9.out; have := Z10.out; have := Z11.out; have := Z12.out; have := Z13.out; have := Z14.out; have := Z9'.out; (try simp only); omega))).trans c11_13
  clear c11_13
  go_wp2_with fail
  refine (eqWalkProblem_same _ _ L0 _ (T8_14.out.rd0) (T4_14.out.rd0)).mono ?_
  rintro e w15 ⟨rfl, k15⟩
  have KS15 : Hid (Keeps w14 w15) := k15
  clear k15
  have K15 : Hid (Keeps w w15) := Keeps.trans K14.out KS15.out
  have Z15 : Hid (w14.heap.size ≤ w15.heap.size) := KS15.out.size
  have T3_15 := Lib.hid (T3_14.out.keep KS15.out)
  clear T3_14
  have T4_15 := Lib.hid (T4_14.out.keep KS15.out)
  clear T4_14
  have T6_15 := Lib.hid (T6_14.out.keep KS15.out)
  clear T6_14
  have T8_15 := Lib.hid (T8_14.out.keep KS15.out)
  clear T8_14
  have c0_15 := cell_keep KS15.out c0_14
  clear c0_14
  have c1_15 := cell_keep KS15.out c1_14
  clear c1_14
  have c2_15 := cell_keep KS15.out c2_14
  clear c2_14
  have c3_15 := cell_keep KS15.out c3_14
  clear c3_14
  have c4_15 := cell_keep KS15.out c4_14
  clear c4_14
  have c5_15 := cell_keep KS15.out c5_14
  clear c5_14
  have c6_15 := cell_keep KS15.out c6_14
  clear c6_14
  have c7_15 := cell_keep KS15.out c7_14
  clear c7_14
  have c8_15 := cell_keep KS15.out c8_14
  clear c8_14
  have c9_15 := cell_keep KS15.out c9_14
  clear c9_14
  have c10_15 := cell_keep KS15.out c10_14
  clear c10_14
  have c11_15 := cell_keep KS15.out c11_14
  clear c11_14
  go_wp2_with fail
  refine (eqIntSS_any y8 y4 _ _ _ (T8_15.out.rd1) (T4_15.out.rd1)).mono ?_
  rintro e w16 ⟨rfl, d16⟩
  have KS16 : Hid (Keeps w15 w16) := d16.keeps
  clear d16
  have K16 : Hid (Keeps w w16) := Keeps.trans K15.out KS16.out
  have Z16 : Hid (w15.heap.size ≤ w16.heap.size) := KS16.out.size
  have T3_16 := Lib.hid (T3_15.out.keep KS16.out)
  clear T3_15
  have T4_16 := Lib.hid (T4_15.out.keep KS16.out)
  clear T4_15
  have T6_16 := Lib.hid (T6_15.out.keep KS16.out)
  clear T6_15
  have T8_16 := Lib.hid (T8_15.out.keep KS16.out)
  clear T8_15
  have c0_16 := cell_keep KS16.out c0_15
  clear c0_15
  have c1_16 := cell_keep KS16.out c1_15
  clear c1_15
  have c2_16 := cell_keep KS16.out c2_15
  clear c2_15
  have c3_16 := cell_keep KS16.out c3_15
  clear c3_15
  have c4_16 := cell_keep KS16.out c4_15
  clear c4_15
  have c5_16 := cell_keep KS16.out c5_15
  clear c5_15
  have c6_16 := cell_keep KS16.out c6_15
  clear c6_15
  have c7_16 := cell_keep KS16.out c7_15
  clear c7_15
  have c8_16 := cell_keep KS16.out c8_15
  clear c8_15
  have c9_16 := cell_keep KS16.out c9_15
  clear c9_15
  have c10_16 := cell_keep KS16.out c10_15
  clear c10_15
  have c11_16 := cell_keep KS16.out c11_15
  clear c11_15
  go_wp2_with fail
  refine (markWalkProblem_wm w7.heap.size w8.heap.size _ L0 _ L1 1 _ T8_16.out (by have := Z1.out; have := Z2.out; have := Z3.out; have := Z4.out; have := Z5.out; have := Z6.out; have := Z7.out; have := Z8.out; have := Z9.out; have := Z10.out; have := Z11.out; have := Z12.out; have := Z13.out; have := Z14.out; have := Z15.out; have := Z16.out; omega) (by omega) (by omega)).mono ?_
  rintro e w17 ⟨rfl, o17, g17⟩
  have G17 : Hid (Chg w7.heap.size w8.heap.size w16 w17) := g17
  have T8_17 := Lib.hid o17
  clear o17 g17 T8_16
  have Z17 : Hid (w16.heap.size ≤ w17.heap.size) := G17.out.size
  have K17 : Hid (Keeps w w17) := G17.out.keeps K16.out (by have := Z1.out; have := Z2.out; have := Z3.out; have := Z4.out; have := Z5.out; have := Z6.out; have := Z7.out; have := Z8.out; have := Z9.out; have := Z10.out; have := Z11.out; have := Z12.out; have := Z13.out; have := Z14.out; have := Z15.out; have := Z16.out; have := Z17.out; omega)
  have T3_17 := Lib.hid (T3_16.out.chg G17.out (by have := Z1.out; have := Z2.out; have := Z3.out; have := Z4.out; have := Z5.out; have := Z6.out; have := Z7.out; have := Z8.out; have := Z9.out; have := Z10.out; have := Z11.out; have := Z12.out; have := Z13.out; have := Z14.out; have := Z15.out; have := Z16.out; have := Z17.out; omega))
  clear T3_16
  have T4_17 := Lib.hid (T4_16.out.chg G17.out (by have := Z1.out; have := Z2.out; have := Z3.out; have := Z4.out; have := Z5.out; have := Z6.out; have := Z7.out; have := Z8.out; have := Z9.out; have := Z10.out; have := Z11.out; have := Z12.out; have := Z13.out; have := Z14.out; have := Z15.out; have := Z16.out; have := Z17.out; omega))
  clear T4_16
  have T6_17 := Lib.hid (T6_16.out.chg G17.out (by have := Z1.out; have := Z2.out; have := Z3.out; have := Z4.out; have := Z5.out; have := Z6.out; have := Z7.out; have := Z8.out; have := Z9.out; have := Z10.out; have := Z11.out; have := Z12.out; have := Z13.out; have := Z14.out; have := Z15.out; have := Z16.out; have := Z17.out; omega))
  clear T6_16
  have c0_17 := (World.cell?_of_block (a := ⟨w.heap.size, 0, none⟩) (G17.out.block (w.heap.size) (by have := Z1.out; have := Z2.out; have := Z3.out; have := Z4.out; have := Z5.out; have := Z6.out; have := Z7.out; have := Z8.out; have := Z9.out; have := Z10.out; have := Z11.out; have := Z12.out; have := Z13.out; have := Z14.out; have := Z15.out; have := Z16.out; have := Z17.out; have := Z1'.out; (try simp only); omega) (by have := Z1.out; have := Z2.out; have := Z3.out; have := Z4.out; have := Z5.out; have := Z6.out; have := Z7.out; have := Z8.out; have := Z9.out; have := Z10.out; have := Z11.out; have := Z12.out; have := Z13.out; have := Z14.out; have := Z15.out; have := Z16.out; have := Z17.out; have := Z1'.out; (try simp only); omega))).trans c0_16
  clear c0_16
  have c1_17 := (World.cell?_of_block (a := ⟨w.heap.size, 1, none⟩) (G17.out.block (w.heap.size) (by have := Z1.out; have := Z2.out; have := Z3.out; have := Z4.out; have := Z5.out; have := Z6.out; have := Z7.out; have := Z8.out; have := Z9.out; have := Z10.out; have := Z11.out; have := Z12.out; have := Z13.out; have := Z14.out; have := Z15.out; have := Z16.out; have := Z17.out; have := Z1'.out; (try simp only); omega) (by have := Z1.out; have := Z2.out; have := Z3.out; have := Z4.out; have := Z5.out; have := Z6.out; have := Z7.out; have := Z8.out; have := Z9.out; have := Z10.out; have := Z11.out; have := Z12.out; have := Z13.out; have := Z14.out; have := Z15.out; have := Z16.out; have := Z17.out; have := Z1'.out; (try simp only); omega))).trans c1_16
  clear c1_16
  have c2_17 := (World.cell?_of_block (a := ⟨w.heap.size, 2, none⟩) (G17.out.block (w.heap.size) (by have := Z1.out; have := Z2.out; have := Z3.out; have := Z4.out; have := Z5.out; have := Z6.out; have := Z7.out; have := Z8.out; have := Z9.out; have := Z10.out; have := Z11.out; have := Z12.out; have := Z13.out; have := Z14.out; have := Z15.out; have := Z16.out; have := Z17.out; have := Z1'.out; (try simp only); omega) (by have := Z1.out; have := Z2.out; have := Z3.out; have := Z4.out; have := Z5.out; have := Z6.out; have := Z7.out; have := Z8.out; have := Z9.out; have := Z10.out; have := Z11.out; have := Z12.out; have := Z13.out; have := Z14.out; have := Z15.out; have := Z16.out; have := Z17.out; have := Z1'.out; (try simp only); omega))).trans c2_16
  clear c2_16
  have c3_17 := (World.cell?_of_block (a := ⟨w.heap.size, 3, none⟩) (G17.out.block (w.heap.size) (by have := Z1.out; have := Z2.out; have := Z3.out; have := Z4.out; have := Z5.out; have := Z6.out; have := Z7.out; have := Z8.out; have := Z9.out; have := Z10.out; have := Z11.out; have := Z12.out; have := Z13.out; have := Z14.out; have := Z15.out; have := Z16.out; have := Z17.out; have := Z1'.out; (try simp only); omega) (by have := Z1.out; have := Z2.out; have := Z3.out; have := Z4.out; have := Z5.out; have := Z6.out; have := Z7.out; have := Z8.out; have := Z9.out; have := Z10.out; have := Z11.out; have := Z12.out; have := Z13.out; have := Z14.out; have := Z15.out; have := Z16.out; have := Z17.out; have := Z1'.out; (try simp only); omega))).trans c3_16
  clear c3_16
  have c4_17 := (World.cell?_of_block (a := ⟨w4.heap.size, 0, none⟩) (G17.out.block (w4.heap.size) (by have := Z1.out; have := Z2.out; have := Z3.out; have := Z4.out; have := Z5.out; have := Z6.out; have := Z7.out; have := Z8.out; have := Z9.out; have := Z10.out; have := Z11.out; have := Z12.out; have := Z13.out; have := Z14.out; have := Z15.out; have := Z16.out; have := Z17.out; have := Z5'.out; (try simp only); omega) (by have := Z1.out; have := Z2.out; have := Z3.out; have := Z4.out; have := Z5.out; have := Z6.out; have := Z7.out; have := Z8.out; have := Z9.out; have := Z10.out; have := Z11.out; have := Z12.out; have := Z13.out; have := Z14.out; have := Z15.out; have := Z16.out; have := Z17.out; have := Z5'.out; (try simp only); omega))).trans c4_16
  clear c4_16
  have c5_17 := (World.cell?_of_block (a := ⟨w4.heap.size, 1, none⟩) (G17.out.block (w4.heap.size) (by have := Z1.out; have := Z2.out; have := Z3.out; have := Z4.out; have := Z5.out; have := Z6.out; have := Z7.out; have := Z8.out; have := Z9.out; have := Z10.out; have := Z11.out; have := Z12.out; have := Z13.out; have := Z14.out; have := Z15.out; have := Z16.out; have := Z17.out; have := Z5'.out; (try simp only); omega) (by have := Z1.out; have := Z2.out; have := Z3.out; have := Z4.out; have := Z5.out; have := Z6.out; have := Z7.out; have := Z8.out; have := Z9.out; have := Z10.out; have := Z11.out; have := Z12.out; have := Z13.out; have := Z14.out; have := Z15.out; have := Z16.out; have := Z17.out; have := Z5'.out; (try simp only); omega))).trans c5_16
  clear c5_16
  have c6_17 := (World.cell?_of_block (a := ⟨w6.heap.size, 0, none⟩) (G17.out.block (w6.heap.size) (by have := Z1.out; have := Z2.out; have := Z3.out; have := Z4.out; have := Z5.out; have := Z6.out; have := Z7.out; have := Z8.out; have := Z9.out; have := Z10.out; have := Z11.out; have := Z12.out; have := Z13.out; have := Z14.out; have := Z15.out; have := Z16.out; have := Z17.out; have := Z7'.out; (try simp only); omega) (by have := Z1.out; have := Z2.out; have := Z3.out; have := Z4.out; have := Z5.out; have := Z6.out; have := Z7.out; have := Z8.out; have := Z9.out; have := Z10.out; have := Z11.out; have := Z12.out; have := Z13.out; have := Z14.out; have := Z15.out; have := Z16.out; have := Z17.out; have := Z7'.out; (try simp only); omega))).trans c6_16
  clear c6_16
  have c7_17 := (World.cell?_of_block (a := ⟨w6.heap.size, 1, none⟩) (G17.out.block (w6.heap.size) (by have := Z1.out; have := Z2.out; have := Z3.out; have := Z4.out; have := Z5.out; have := Z6.out; have := Z7.out; have := Z8.out; have := Z9.out; have := Z10.out; have := Z11.out; have := Z12.out; have := Z13.out; have := Z14.out; have := Z15.out; have := Z16.out; have := Z17.out; have := Z7'.out; (try simp only); omega) (by have := Z1.out; have := Z2.out; have := Z3.out; have := Z4.out; have := Z5.out; have := Z6.out; have := Z7.out; have := Z8.out; have := Z9.out; have := Z10.out; have := Z11.out; have := Z12.out; have := Z13.out; have := Z14.out; have := Z15.out; have := Z16.out; have := Z17.out; have := Z7'.out; (try simp only); omega))).trans c7_16
  clear c7_16
  have c8_17 := (World.cell?_of_block (a := ⟨w6.heap.size, 2, none⟩) (G17.out.block (w6.heap.size) (by have := Z1.out; have := Z2.out; have := Z3.out; have := Z4.out; have := Z5.out; have := Z6.out; have := Z7.out; have := Z8.out; have := Z9.out; have := Z10.out; have := Z11.out; have := Z12.out; have := Z13.out; have := Z14.out; have := Z15.out; have := Z16.out; have := Z17.out; have := Z7'.out; (try simp only); omega) (by have := Z1.out; have := Z2.out; have := Z3.out; have := Z4.out; have := Z5.out; have := Z6.out; have := Z7.out; have := Z8.out; have := Z9.out; have := Z10.out; have := Z11.out; have := Z12.out; have := Z13.out; have := Z14.out; have := Z15.out; have := Z16.out; have := Z17.out; have := Z7'.out; (try simp only); omega))).trans c8_16
  clear c8_16
  have c9_17 := (World.cell?_of_block (a := ⟨w6.heap.size, 3, none⟩) (G17.out.block (w6.heap.size) (by have := Z1.out; have := Z2.out; have := Z3.out; have := Z4.out; have := Z5.out; have := Z6.out; have := Z7.out; have := Z8.out; have := Z9.out; have := Z10.out; have := Z11.out; have := Z12.out; have := Z13.out; have := Z14.out; have := Z15.out; have := Z16.out; have := Z17.out; have := Z7'.out; (try simp only); omega) (by have := Z1.out; have := Z2.out; have := Z3.out; have := Z4.out; have := Z5.out; have := Z6.out; have := Z7.out; have := Z8.out; have := Z9.out; have := Z10.out; have := Z11.out; have := Z12.out; have := Z13.out; have := Z14.out; have := Z15.out; have := Z16.out; have := Z17.out; have := Z7'.out; (try simp only); omega))).trans c9_16
  clear c9_16
  have c10_17 := (World.cell?_of_block (a := ⟨w8.heap.size, 0, none⟩) (G17.out.block (w8.heap.size) (by have := Z1.out; have := Z2.out; have := Z3.out; have := Z4.out; have := Z5.out; have := Z6.out; have := Z7.out; have := Z8.out; have := Z9.out; have := Z10.out; have := Z11.out; have := Z12.out; have := Z13.out; have := Z14.out; have := Z15.out; have := Z16.out; have := Z17.out; have := Z9'.out; (try simp only); omega) (by have := Z1.out; have := Z2.out; have := Z3.out; have := Z4.out; have := Z5.out; have := Z6.out; have := Z7.out; have := Z8.out; have := Z9.out; have := Z10.out; have := Z11.out; have := Z12.out; have := Z13.out; have := Z14.out; have := Z15.out; have := Z16.out; have := Z17.out; have := Z9'.out; (try simp only); omega))).trans c10_16
  clear c10_16
  have c11_17 := (World.cell?_of_block (a := ⟨w8.heap.size, 1, none⟩) (G17.out.block (w8.heap.size) (by have := Z1.out; have := Z2.out; have := Z3.out; have := Z4.out; have := Z5.out; have := Z6.out; have := Z7.out; have := Z8.out; have := Z9.out; have := Z10.out; have := Z11.out; have := Z12.out; have := Z13.out; have := Z14.out; have := Z15.out; have := Z16.out; have := Z17.out; have := Z9'.out; (try simp only); omega) (by have := Z1.out; have := Z2.out; have := Z3.out; have := Z4.out; have := Z5.out; have := Z6.out; have := Z7.out; have := Z8.out; have := Z9.out; have := Z10.out; have := Z11.out; have := Z12.out; have := Z13.out; have := Z14.out; have := Z15.out; have := Z16.out; have := Z17.out; have := Z9'.out; (try simp only); omega))).trans c11_16
  clear c11_16
  go_wp2_with fail
  refine (markIntSS_wm w7.heap.size w8.heap.size _ _ _ L1 (1 + (cntW L0 : Nat)) _ T8_17.out (by omega) (by omega)).mono ?_
  rintro e w18 ⟨rfl, o18, g18⟩
  have G18 : Hid (Chg w7.heap.size w8.heap.size w17 w18) := g18
  have T8_18 := Lib.hid o18
  clear o18 g18 T8_17
  have Z18 : Hid (w17.heap.size ≤ w18.heap.size) := G18.out.size
  have K18 : Hid (Keeps w w18) := G18.out.keeps K17.out (by have := Z1.out; have := Z2.out; have := Z3.out; have := Z4.out; have := Z5.out; have := Z6.out; have := Z7.out; have := Z8.out; have := Z9.out; have := Z10.out; have := Z11.out; have := Z12.out; have := Z13.out; have := Z14.out; have := Z15.out; have := Z16.out; have := Z17.out; have := Z18.out; omega)
  have T3_18 := Lib.hid (T3_17.out.chg G18.out (by have := Z1.out; have := Z2.out; have := Z3.out; have := Z4.out; have := Z5.out; have := Z6.out; have := Z7.out; have := Z8.out; have := Z9.out; have := Z10.out; have := Z11.out; have := Z12.out; have := Z13.out; have := Z14.out; have := Z15.out; have := Z16.out; have := Z17.out; have := Z18.out; omega))
  clear T3_17
  have T4_18 := Lib.hid (T4_17.out.chg G18.out (by have := Z1.out; have := Z2.out; have := Z3.out; have := Z4.out; have := Z5.out; have := Z6.out; have := Z7.out; have := Z8.out; have := Z9.out; have := Z10.out; have := Z11.out; have := Z12.out; have := Z13.out; have := Z14.out; have := Z15.out; have := Z16.out; have := Z17.out; have := Z18.out; omega))
  clear T4_17
  have T6_18 := Lib.hid (T6_17.out.chg G18.out (by have := Z1.out; have := Z2.out; have := Z3.out; have := Z4.out; have := Z5.out; have := Z6.out; have := Z7.out; have := Z8.out; have := Z9.out; have := Z10.out; have := Z11.out; have := Z12.out; have := Z13.out; have := Z14.out; have := Z15.out; have := Z16.out; have := Z17.out; have := Z18.out; omega))
  clear T6_17
  have c0_18 := (World.cell?_of_block (a := ⟨w.heap.size, 0, none⟩) (G18.out.block (w.heap.size) (by have := Z1.out; have := Z2.out; have := Z3.out; have := Z4.out; have := Z5.out; have := Z6.out; have := Z7.out; have := Z8.out; have := Z9.out; have := Z10.out; have := Z11.out; have := Z12.out; have := Z13.out; have := Z14.out; have := Z15.out; have := Z16.out; have := Z17.out; have := Z18.out; have := Z1'.out; (try simp only); omega) (by have := Z1.out; have := Z2.out; have := Z3.out; have := Z4.out; have := Z5.out; have := Z6.out; have := Z7.out; have := Z8.out; have := Z9.out; have := Z10.out; have := Z11.out; have := Z12.out; have := Z13.out; have := Z14.out; have := Z15.out; have := Z16.out; have := Z17.out; have := Z18.out; have := Z1'.out; (try simp only); omega))).trans c0_17
  clear c0_17
  have c1_18 := (World.cell?_of_block (a := ⟨w.heap.size, 1, none⟩) (G18.out.block (w.heap.size) (by have := Z1.out; have := Z2.out; have := Z3.out; have := Z4.out; have := Z5.out; have := Z6.out; have := Z7.out; have := Z8.out; have := Z9.out; have := Z10.out; have := Z11.out; have := Z12.out; have := Z13.out; have := Z14.out; have := Z15.out; have := Z16.out; have := Z17.out; have := Z18.out; have := Z1'.out; (try simp only); omega) (by have := Z1.out; have := Z2.out; have := Z3.out; have := Z4.out; have := Z5.out; have := Z6.out; have := Z7.out; have := Z8.out; have := Z9.out; have := Z10.out; have := Z11.out; have := Z12.out; have := Z13.out; have := Z14.out; have := Z15.out; have := Z16.out; have := Z17.out; have := Z18.out; have := Z1'.out; (try simp only); omega))).trans c1_17
  clear c1_17
  have c2_18 := (World.cell?_of_block (a := ⟨w.heap.size, 2, none⟩) (G18.out.block (w.heap.size) (by have := Z1.out; have := Z2.out; have := Z3.out; have := Z4.out; have := Z5.out; have := Z6.out; have := Z7.out; have := Z8.out; have := Z9.out; have := Z10.out; have := Z11.out; have := Z12.out; have := Z13.out; have := Z14.out; have := Z15.out; have := Z16.out; have := Z17.out; have := Z18.out; have := Z1'.out; (try simp only); omega) (by have := Z1.out; have := Z2.out; have := Z3.out; have := Z4.out; have := Z5.out; have := Z6.out; have := Z7.out; have := Z8.out; have := Z9.out; have := Z10.out; have := Z11.out; have := Z12.out; have := Z13.out; have := Z14.out; have := Z15.out; have := Z16.out; have := Z17.out; have := Z18.out; have := Z1'.out; (try simp only); omega))).trans c2_17
  clear c2_17
  have c3_18 := (World.cell?_of_block (a := ⟨w.heap.size, 3, none⟩) (G18.out.block (w.heap.size) (by have := Z1.out; have := Z2.out; have := Z3.out; have := Z4.out; have := Z5.out; have := Z6.out; have := Z7.out; have := Z8.out; have := Z9.out; have := Z10.out; have := Z11.out; have := Z12.out; have := Z13.out; have := Z14.out; have := Z15.out; have := Z16.out; have := Z17.out; have := Z18.out; have := Z1'.out; (try simp only); omega) (by have := Z1.out; have := Z2.out; have := Z3.out; have := Z4.out; have := Z5.out; have := Z6.out; have := Z7.out; have := Z8.out; have := Z9.out; have := Z10.out; have := Z11.out; have := Z12.out; have := Z13.out; have := Z14.out; have := Z15.out; have := Z16.out; have := Z17.out; have := Z18.out; have := Z1'.out; (try simp only); omega))).trans c3_17
  clear c3_17
  have c4_18 := (World.cell?_of_block (a := ⟨w4.heap.size, 0, none⟩) (G18.out.block (w4.heap.size) (by have := Z1.out; have := Z2.out; have := Z3.out; have := Z4.out; have := Z5.out; have := Z6.out; have := Z7.out; have := Z8.out; have := Z9.out; have := Z10.out; have := Z11.out; have := Z12.out; have := Z13.out; have := Z14.out; have := Z15.out; have := Z16.out; have := Z17.out; have := Z18.out; have := Z5'.out; (try simp only); omega) (by have := Z1.out; have := Z2.out; have := Z3.out; have := Z4.out; have := Z5.out; have := Z6.out; have := Z7.out; have := Z8.out; have := Z9.out; have := Z10.out; have := Z11.out; have := Z12.out; have := Z13.out; have := Z14.out; have := Z15.out; have := Z16.out; have := Z17.out; have := Z18.out; have := Z5'.out; (try simp only); omega))).trans c4_17
  clear c4_17
  have c5_18 := (World.cell?_of_block (a := ⟨w4.heap.size, 1, none⟩) (G18.out.block (w4.heap.size) (by have := Z1.out; have := Z2.out; have := Z3.out; have := Z4.out; have := Z5.out; have := Z6.out; have := Z7.out; have := Z8.out; have := Z9.out; have := Z10.out; have := Z11.out; have := Z12.out; have := Z13.out; have := Z14.out; have := Z15.out; have := Z16.out; have := Z17.out; have := Z18.out; have := Z5'.out; (try simp only); omega) (by have := Z1.out; have := Z2.out; have := Z3.out; have := Z4.out; have := Z5.out; have := Z6.out; have := Z7.out; have := Z8.out; have := Z9.out; have := Z10.out; have := Z11.out; have := Z12.out; have := Z13.out; have := Z14.out; have := Z15.out; have := Z16.out; have := Z17.out; have := Z18.out; have := Z5'.out; (try simp only); omega))).trans c5_17
  clear c5_17
  have c6_18 := (World.cell?_of_block (a := ⟨w6.heap.size, 0, none⟩) (G18.out.block (w6.heap.size) (by have := Z1.out; have := Z2.out; have := Z3.out; have := Z4.out; have := Z5.out; have := Z6.out; have := Z7.out; have := Z8.out; have := Z9.out; have := Z10.out; have := Z11.out; have := Z12.out; have := Z13.out; have := Z14.out; have := Z15.out; have := Z16.out; have := Z17.out; have := Z18.out; have := Z7'.out; (try simp only); omega) (by have := Z1.out; have := Z2.out; have := Z3.out; have := Z4.out; have := Z5.out; have := Z6.out; have := Z7.out; have := Z8.out; have := Z9.out; have := Z10.out; have := Z11.out; have := Z12.out; have := Z13.out; have := Z14.out; have := Z15.out; have := Z16.out; have := Z17.out; have := Z18.out; have := Z7'.out; (try simp only); omega))).trans c6_17
  clear c6_17
  have c7_18 := (World.cell?_of_block (a := ⟨w6.heap.size, 1, none⟩) (G18.out.block (w6.heap.size) (by have := Z1.out; have := Z2.out; have := Z3.out; have := Z4.out; have := Z5.out; have := Z6.out; have := Z7.out; have := Z8.out; have := Z9.out; have := Z10.out; have := Z11.out; have := Z12.out; have := Z13.out; have := Z14.out; have := Z15.out; have := Z16.out; have := Z17.out; have := Z18.out; have := Z7'.out; (try simp only); omega) (by have := Z1.out; have := Z2.out; have := Z3.out; have := Z4.out; have := Z5.out; have := Z6.out; have := Z7.out; have := Z8.out; have := Z9.out; have := Z10.out; have := Z11.out; have := Z12.out; have := Z13.out; have := Z14.out; have := Z15.out; have := Z16.out; have := Z17.out; have := Z18.out; have := Z7'.out; (try simp only); omega))).trans c7_17
  clear c7_17
  have c8_18 := (World.cell?_of_block (a := ⟨w6.heap.size, 2, none⟩) (G18.out.block (w6.heap.size) (by have := Z1.out; have := Z2.out; have := Z3.out; have := Z4.out; have := Z5.out; have := Z6.out; have := Z7.out; have := Z8.out; have := Z9.out; have := Z10.out; have := Z11.out; have := Z12.out; have := Z13.out; have := Z14.out; have := Z15.out; have := Z16.out; have := Z17.out; have := Z18.out; have := Z7'.out; (try simp only); omega) (by have := Z1.out; have := Z2.out; have := Z3.out; have := Z4.out; have := Z5.out; have := Z6.out; have := Z7.out; have := Z8.out; have := Z9.out; have := Z10.out; have := Z11.out; have := Z12.out; have := Z13.out; have := Z14.out; have := Z15.out; have := Z16.out; have := Z17.out; have := Z18.out; have := Z7'.out; (try simp only); omega))).trans c8_17
  clear c8_17
  have c9_18 := (World.cell?_of_block (a := ⟨w6.heap.size, 3, none⟩) (G18.out.block (w6.heap.size) (by have := Z1.out; have := Z2.out; have := Z3.out; have := Z4.out; have := Z5.out; have := Z6.out; have := Z7.out; have := Z8.out; have := Z9.out; have := Z10.out; have := Z11.out; have := Z12.out; have := Z13.out; have := Z14.out; have := Z15.out; have := Z16.out; have := Z17.out; have := Z18.out; have := Z7'.out; (try simp only); omega) (by have := Z1.out; have := Z2.out; have := Z3.out; have := Z4.out; have := Z5.out; have := Z6.out; have := Z7.out; have := Z8.out; have := Z9.out; have := Z10.out; have := Z11.out; have := Z12.out; have := Z13.out; have := Z14.out; have := Z15.out; have := Z16.out; have := Z17.out; have := Z18.out; have := Z7'.out; (try simp only); omega))).trans c9_17
  clear c9_17
  have c10_18 := (World.cell?_of_block (a := ⟨w8.heap.size, 0, none⟩) (G18.out.block (w8.heap.size) (by have := Z1.out; have := Z2.out; have := Z3.out; have := Z4.out; have := Z5.out; have := Z6.out; have := Z7.out; have := Z8.out; have := Z9.out; have := Z10.out; have := Z11.out; have := Z12.out; have := Z13.out; have := Z14.out; have := Z15.out; have := Z16.out; have := Z17.out; have := Z18.out; have := Z9'.out; (try simp only); omega) (by have := Z1.out; have := Z2.out; have := Z3.out; have := Z4.out; have := Z5.out; have := Z6.out; have := Z7.out; have := Z8.out; have := Z9.out; have := Z10.out; have := Z11.out; have := Z12.out; have := Z13.out; have := Z14.out; have := Z15.out; have := Z16.out; have := Z17.out; have := Z18.out; have := Z9'.out; (try simp only); omega))).trans c10_17
  clear c10_17
  have c11_18 := (World.cell?_of_block (a := ⟨w8.heap.size, 1, none⟩) (G18.out.block (w8.heap.size) (by have := Z1.out; have := Z2.out; have := Z3.out; have := Z4.out; have := Z5.out; have := Z6.out; have := Z7.out; have := Z8.out; have := Z9.out; have := Z10.out; have := Z11.out; have := Z12.out; have := Z13.out; have := Z14.out; have := Z15.out; have := Z16.out; have := Z17.out; have := Z18.out; have := Z9'.out; (try simp only); omega) (by have := Z1.out; have := Z2.out; have := Z3.out; have := Z4.out; have := Z5.out; have := Z6.out; have := Z7.out; have := Z8.out; have := Z9.out; have := Z10.out; have := Z11.out; have := Z12.out; have := Z13.out; have := Z14.out; have := Z15.out; have := Z16.out; have := Z17.out; have := Z18.out; have := Z9'.out; (try simp only); omega))).trans c11_17
  clear c11_17
  go_wp2_with fail
  refine (heldWalkProblem_any _ L0 1 _ (T8_18.out.rd0) (by omega) (by omega)).mono ?_
  rintro e w19 ⟨rfl, k19⟩
  have KS19 : Hid (Keeps w18 w19) := k19
  clear k19
  have K19 : Hid (Keeps w w19) := Keeps.trans K18.out KS19.out
  have Z19 : Hid (w18.heap.size ≤ w19.heap.size) := KS19.out.size
  have T3_19 := Lib.hid (T3_18.out.keep KS19.out)
  clear T3_18
  have T4_19 := Lib.hid (T4_18.out.keep KS19.out)
  clear T4_18
  have T6_19 := Lib.hid (T6_18.out.keep KS19.out)
  clear T6_18
  have T8_19 := Lib.hid (T8_18.out.keep KS19.out)
  clear T8_18
  have c0_19 := cell_keep KS19.out c0_18
  clear c0_18
  have c1_19 := cell_keep KS19.out c1_18
  clear c1_18
  have c2_19 := cell_keep KS19.out c2_18
  clear c2_18
  have c3_19 := cell_keep KS19.out c3_18
  clear c3_18
  have c4_19 := cell_keep KS19.out c4_18
  clear c4_18
  have c5_19 := cell_keep KS19.out c5_18
  clear c5_18
  have c6_19 := cell_keep KS19.out c6_18
  clear c6_18
  have c7_19 := cell_keep KS19.out c7_18
  clear c7_18
  have c8_19 := cell_keep KS19.out c8_18
  clear c8_18
  have c9_19 := cell_keep KS19.out c9_18
  clear c9_18
  have c10_19 := cell_keep KS19.out c10_18
  clear c10_18
  have c11_19 := cell_keep KS19.out c11_18
  clear c11_18
  go_wp2_with fail
  refine (heldIntSS_kp _ L1 (1 + (cntW L0 : Nat)) _ (T8_19.out.rd1) (by omega) (by omega)).mono ?_
  rintro e w20 ⟨rfl, k20⟩
  have KS20 : Hid (Keeps w19 w20) := k20
  clear k20
  have K20 : Hid (Keeps w w20) := Keeps.trans K19.out KS20.out
  have Z20 : Hid (w19.heap.size ≤ w20.heap.size) := KS20.out.size
  have T3_20 := Lib.hid (T3_19.out.keep KS20.out)
  clear T3_19
  have T4_20 := Lib.hid (T4_19.out.keep KS20.out)
  clear T4_19
  have T6_20 := Lib.hid (T6_19.out.keep KS20.out)
  clear T6_19
  have T8_20 := Lib.hid (T8_19.out.keep KS20.out)
  clear T8_19
  have c0_20 := cell_keep KS20.out c0_19
  clear c0_19
  have c1_20 := cell_keep KS20.out c1_19
  clear c1_19
  have c2_20 := cell_keep KS20.out c2_19
  clear c2_19
  have c3_20 := cell_keep KS20.out c3_19
  clear c3_19
  have c4_20 := cell_keep KS20.out c4_19
  clear c4_19
  have c5_20 := cell_keep KS20.out c5_19
  clear c5_19
  have c6_20 := cell_keep KS20.out c6_19
  clear c6_19
  have c7_20 := cell_keep KS20.out c7_19
  clear c7_19
  have c8_20 := cell_keep KS20.out c8_19
  clear c8_19
  have c9_20 := cell_keep KS20.out c9_19
  clear c9_19
  have c10_20 := cell_keep KS20.out c10_19
  clear c10_19
  have c11_20 := cell_keep KS20.out c11_19
  clear c11_19
  go_wp2_with fail
  refine (toProblem_any _ l0 _ (R0.out.keep K20.out) s0).mono ?_
  rintro e w21 ⟨t21, rfl, o21, k21⟩
  obtain ⟨t21a2, t21c2, t21a3, t21c3, rfl⟩ := o21.rd.shape
  have T21 := Lib.hid o21
  clear o21
  have KS21 : Hid (Keeps w20 w21) := k21
  clear k21
  have K21 : Hid (Keeps w w21) := Keeps.trans K20.out KS21.out
  have Z21 : Hid (w20.heap.size ≤ w21.heap.size) := KS21.out.size
  have T3_21 := Lib.hid (T3_20.out.keep KS21.out)
  clear T3_20
  have T4_21 := Lib.hid (T4_20.out.keep KS21.out)
  clear T4_20
  have T6_21 := Lib.hid (T6_20.out.keep KS21.out)
  clear T6_20
  have T8_21 := Lib.hid (T8_20.out.keep KS21.out)
  clear T8_20
  have c0_21 := cell_keep KS21.out c0_20
  clear c0_20
  have c1_21 := cell_keep KS21.out c1_20
  clear c1_20
  have c2_21 := cell_keep KS21.out c2_20
  clear c2_20
  have c3_21 := cell_keep KS21.out c3_20
  clear c3_20
  have c4_21 := cell_keep KS21.out c4_20
  clear c4_20
  have c5_21 := cell_keep KS21.out c5_20
  clear c5_20
  have c6_21 := cell_keep KS21.out c6_20
  clear c6_20
  have c7_21 := cell_keep KS21.out c7_20
  clear c7_20
  have c8_21 := cell_keep KS21.out c8_20
  clear c8_20
  have c9_21 := cell_keep KS21.out c9_20
  clear c9_20
  have c10_21 := cell_keep KS21.out c10_20
  clear c10_20
  have c11_21 := cell_keep KS21.out c11_20
  clear c11_20
  go_wp2_with fail
  refine (implWalkOfProblem_any (.agg #[.int .i64 l0.labels, .int .i64 l0.degree, .slice t21a2 l0.nodes.length t21c2, .slice t21a3 l0.edges.length t21c3]) l0 _ (T21.out.rd) IL0.out s0).mono ?_
  rw [HE.out]
  rintro e w22 ⟨x22, y22, rfl, o22, b22, k22⟩
  rw [HL.out] at o22
  simp only at o22
  obtain ⟨x22a1, x22c1, rfl⟩ := o22.rd0.shape
  have T22 := Lib.hid o22
  clear o22 b22
  have KS22 : Hid (Keeps w21 w22) := k22
  clear k22
  have K22 : Hid (Keeps w w22) := Keeps.trans K21.out KS22.out
  have Z22 : Hid (w21.heap.size ≤ w22.heap.size) := KS22.out.size
  have T3_22 := Lib.hid (T3_21.out.keep KS22.out)
  clear T3_21
  have T4_22 := Lib.hid (T4_21.out.keep KS22.out)
  clear T4_21
  have T6_22 := Lib.hid (T6_21.out.keep KS22.out)
  clear T6_21
  have T8_22 := Lib.hid (T8_21.out.keep KS22.out)
  clear T8_21
  have T21_22 := Lib.hid (T21.out.keep KS22.out)
  clear T21
  have c0_22 := cell_keep KS22.out c0_21
  clear c0_21
  have c1_22 := cell_keep KS22.out c1_21
  clear c1_21
  have c2_22 := cell_keep KS22.out c2_21
  clear c2_21
  have c3_22 := cell_keep KS22.out c3_21
  clear c3_21
  have c4_22 := cell_keep KS22.out c4_21
  clear c4_21
  have c5_22 := cell_keep KS22.out c5_21
  clear c5_21
  have c6_22 := cell_keep KS22.out c6_21
  clear c6_21
  have c7_22 := cell_keep KS22.out c7_21
  clear c7_21
  have c8_22 := cell_keep KS22.out c8_21
  clear c8_21
  have c9_22 := cell_keep KS22.out c9_21
  clear c9_21
  have c10_22 := cell_keep KS22.out c10_21
  clear c10_21
  have c11_22 := cell_keep KS22.out c11_21
  clear c11_21
  have pre1 : (w22.alloc (.cells #[.int .i64 L0.labels, .slice x22a1 L0.arcs.length x22c1] 74)).cell? ⟨w.heap.size, 0, none⟩ = some (.int .i64 l0.labels) := cell_keep ((Keeps.refl _).alloc _) c0_22
  have pre2 : (w22.alloc (.cells #[.int .i64 L0.labels, .slice x22a1 L0.arcs.length x22c1] 74)).cell? ⟨w.heap.size, 1, none⟩ = some (.int .i64 l0.degree) := cell_keep ((Keeps.refl _).alloc _) c1_22
  have pre3 : (w22.alloc (.cells #[.int .i64 L0.labels, .slice x22a1 L0.arcs.length x22c1] 74)).cell? ⟨w.heap.size, 2, none⟩ = some (.slice p0a2 l0.nodes.length p0c2) := cell_keep ((Keeps.refl _).alloc _) c2_22
  have pre4 : (w22.alloc (.cells #[.int .i64 L0.labels, .slice x22a1 L0.arcs.length x22c1] 74)).cell? ⟨w.heap.size, 3, none⟩ = some (.slice p0a3 l0.edges.length p0c3) := cell_keep ((Keeps.refl _).alloc _) c3_22
  have pre5 : (w22.alloc (.cells #[.int .i64 L0.labels, .slice x22a1 L0.arcs.length x22c1] 74)).cell? ⟨w4.heap.size, 0, none⟩ = some (.int .i64 L0.labels) := cell_keep ((Keeps.refl _).alloc _) c4_22
  have pre6 : (w22.alloc (.cells #[.int .i64 L0.labels, .slice x22a1 L0.arcs.length x22c1] 74)).cell? ⟨w4.heap.size, 1, none⟩ = some (.slice x4a1 L0.arcs.length x4c1) := cell_keep ((Keeps.refl _).alloc _) c5_22
  have pre7 : (w22.alloc (.cells #[.int .i64 L0.labels, .slice x22a1 L0.arcs.length x22c1] 74)).cell? ⟨w6.heap.size, 0, none⟩ = some (.int .i64 l0.labels) := cell_keep ((Keeps.refl _).alloc _) c6_22
  have pre8 : (w22.alloc (.cells #[.int .i64 L0.labels, .slice x22a1 L0.arcs.length x22c1] 74)).cell? ⟨w6.heap.size, 1, none⟩ = some (.int .i64 l0.degree) := cell_keep ((Keeps.refl _).alloc _) c7_22
  have pre9 : (w22.alloc (.cells #[.int .i64 L0.labels, .slice x22a1 L0.arcs.length x22c1] 74)).cell? ⟨w6.heap.size, 2, none⟩ = some (.slice t6a2 l0.nodes.length t6c2) := cell_keep ((Keeps.refl _).alloc _) c8_22
  have pre10 : (w22.alloc (.cells #[.int .i64 L0.labels, .slice x22a1 L0.arcs.length x22c1] 74)).cell? ⟨w6.heap.size, 3, none⟩ = some (.slice t6a3 l0.edges.length t6c3) := cell_keep ((Keeps.refl _).alloc _) c9_22
  have pre11 : (w22.alloc (.cells #[.int .i64 L0.labels, .slice x22a1 L0.arcs.length x22c1] 74)).cell? ⟨w8.heap.size, 0, none⟩ = some (.int .i64 L0.labels) := cell_keep ((Keeps.refl _).alloc _) c10_22
  have pre12 : (w22.alloc (.cells #[.int .i64 L0.labels, .slice x22a1 L0.arcs.length x22c1] 74)).cell? ⟨w8.heap.size, 1, none⟩ = some (.slice x8a1 L0.arcs.length x8c1) := cell_keep ((Keeps.refl _).alloc _) c11_22
  go_wp2_with fail
  clear pre1 pre2 pre3 pre4 pre5 pre6 pre7 pre8 pre9 pre10 pre11 pre12
  have KS23 : Hid (Keeps w22 (w22.alloc (.cells #[.int .i64 L0.labels, .slice x22a1 L0.arcs.length x22c1] 74))) := (Keeps.refl _).alloc _
  have Z23' : Hid (w22.heap.size + 1 ≤ (w22.alloc (.cells #[.int .i64 L0.labels, .slice x22a1 L0.arcs.length x22c1] 74)).heap.size) := by show _ ≤ _; simp
  have E23 : (w22.alloc (.cells #[.int .i64 L0.labels, .slice x22a1 L0.arcs.length x22c1] 74)).heap.size = w22.heap.size + 1 := by rw [World.size_alloc]
  have c12_23 : (w22.alloc (.cells #[.int .i64 L0.labels, .slice x22a1 L0.arcs.length x22c1] 74)).cell? ⟨w22.heap.size, 0, none⟩ = some (.int .i64 L0.labels) := by rw [World.cell?_alloc_at _ _ _ _ rfl]; rfl
  have c13_23 : (w22.alloc (.cells #[.int .i64 L0.labels, .slice x22a1 L0.arcs.length x22c1] 74)).cell? ⟨w22.heap.size, 1, none⟩ = some (.slice x22a1 L0.arcs.length x22c1) := by rw [World.cell?_alloc_at _ _ _ _ rfl]; rfl
  generalize w22.alloc (.cells #[.int .i64 L0.labels, .slice x22a1 L0.arcs.length x22c1] 74) = w23 at KS23 Z23' E23 c12_23 c13_23 ⊢
  have K23 : Hid (Keeps w w23) := Keeps.trans K22.out KS23.out
  have Z23 : Hid (w22.heap.size ≤ w23.heap.size) := KS23.out.size
  have T3_23 := Lib.hid (T3_22.out.keep KS23.out)
  clear T3_22
  have T4_23 := Lib.hid (T4_22.out.keep KS23.out)
  clear T4_22
  have T6_23 := Lib.hid (T6_22.out.keep KS23.out)
  clear T6_22
  have T8_23 := Lib.hid (T8_22.out.keep KS23.out)
  clear T8_22
  have T21_23 := Lib.hid (T21_22.out.keep KS23.out)
  clear T21_22
  have T22_23 := Lib.hid (T22.out.keep KS23.out)
  clear T22
  have c0_23 := cell_keep KS23.out c0_22
  clear c0_22
  have c1_23 := cell_keep KS23.out c1_22
  clear c1_22
  have c2_23 := cell_keep KS23.out c2_22
  clear c2_22
  have c3_23 := cell_keep KS23.out c3_22
  clear c3_22
  have c4_23 := cell_keep KS23.out c4_22
  clear c4_22
  have c5_23 := cell_keep KS23.out c5_22
  clear c5_22
  have c6_23 := cell_keep KS23.out c6_22
  clear c6_22
  have c7_23 := cell_keep KS23.out c7_22
  clear c7_22
  have c8_23 := cell_keep KS23.out c8_22
  clear c8_22
  have c9_23 := cell_keep KS23.out c9_22
  clear c9_22
  have c10_23 := cell_keep KS23.out c10_22
  clear c10_22
  have c11_23 := cell_keep KS23.out c11_22
  clear c11_22
  clear E23
  refine (eqWalkProblem_same _ _ L0 _ (T22_23.out.rd0) (T4_23.out.rd0)).mono ?_
  rintro e w24 ⟨rfl, k24⟩
  have KS24 : Hid (Keeps w23 w24) := k24
  clear k24
  have K24 : Hid (Keeps w w24) := Keeps.trans K23.out KS24.out
  have Z24 : Hid (w23.heap.size ≤ w24.heap.size) := KS24.out.size
  have T3_24 := Lib.hid (T3_23.out.keep KS24.out)
  clear T3_23
  have T4_24 := Lib.hid (T4_23.out.keep KS24.out)
  clear T4_23
  have T6_24 := Lib.hid (T6_23.out.keep KS24.out)
  clear T6_23
  have T8_24 := Lib.hid (T8_23.out.keep KS24.out)
  clear T8_23
  have T21_24 := Lib.hid (T21_23.out.keep KS24.out)
  clear T21_23
  have T22_24 := Lib.hid (T22_23.out.keep KS24.out)
  clear T22_23
  have c0_24 := cell_keep KS24.out c0_23
  clear c0_23
  have c1_24 := cell_keep KS24.out c1_23
  clear c1_23
  have c2_24 := cell_keep KS24.out c2_23
  clear c2_23
  have c3_24 := cell_keep KS24.out c3_23
  clear c3_23
  have c4_24 := cell_keep KS24.out c4_23
  clear c4_23
  have c5_24 := cell_keep KS24.out c5_23
  clear c5_23
  have c6_24 := cell_keep KS24.out c6_23
  clear c6_23
  have c7_24 := cell_keep KS24.out c7_23
  clear c7_23
  have c8_24 := cell_keep KS24.out c8_23
  clear c8_23
  have c9_24 := cell_keep KS24.out c9_23
  clear c9_23
  have c10_24 := cell_keep KS24.out c10_23
  clear c10_23
  have c11_24 := cell_keep KS24.out c11_23
  clear c11_23
  have c12_24 := cell_keep KS24.out c12_23
  clear c12_23
  have c13_24 := cell_keep KS24.out c13_23
  clear c13_23
  go_wp2_with fail
  refine (eqIntSS_any y22 y4 _ _ _ (T22_24.out.rd1) (T4_24.out.rd1)).mono ?_
  rintro e w25 ⟨rfl, d25⟩
  have KS25 : Hid (Keeps w24 w25) := d25.keeps
  clear d25
  have K25 : Hid (Keeps w w25) := Keeps.trans K24.out KS25.out
  have Z25 : Hid (w24.heap.size ≤ w25.heap.size) := KS25.out.size
  have T3_25 := Lib.hid (T3_24.out.keep KS25.out)
  clear T3_24
  have T4_25 := Lib.hid (T4_24.out.keep KS25.out)
  clear T4_24
  have T6_25 := Lib.hid (T6_24.out.keep KS25.out)
  clear T6_24
  have T8_25 := Lib.hid (T8_24.out.keep KS25.out)
  clear T8_24
  have T21_25 := Lib.hid (T21_24.out.keep KS25.out)
  clear T21_24
  have T22_25 := Lib.hid (T22_24.out.keep KS25.out)
  clear T22_24
  have c0_25 := cell_keep KS25.out c0_24
  clear c0_24
  have c1_25 := cell_keep KS25.out c1_24
  clear c1_24
  have c2_25 := cell_keep KS25.out c2_24
  clear c2_24
  have c3_25 := cell_keep KS25.out c3_24
  clear c3_24
  have c4_25 := cell_keep KS25.out c4_24
  clear c4_24
  have c5_25 := cell_keep KS25.out c5_24
  clear c5_24
  have c6_25 := cell_keep KS25.out c6_24
  clear c6_24
  have c7_25 := cell_keep KS25.out c7_24
  clear c7_24
  have c8_25 := cell_keep KS25.out c8_24
  clear c8_24
  have c9_25 := cell_keep KS25.out c9_24
  clear c9_24
  have c10_25 := cell_keep KS25.out c10_24
  clear c10_24
  have c11_25 := cell_keep KS25.out c11_24
  clear c11_24
  have c12_25 := cell_keep KS25.out c12_24
  clear c12_24
  have c13_25 := cell_keep KS25.out c13_24
  clear c13_24
  go_wp2_with fail
  refine (heldWalkProblem_any _ L0 1 _ (T8_25.out.rd0) (by omega) (by omega)).mono ?_
  rintro e w26 ⟨rfl, k26⟩
  have KS26 : Hid (Keeps w25 w26) := k26
  clear k26
  have K26 : Hid (Keeps w w26) := Keeps.trans K25.out KS26.out
  have Z26 : Hid (w25.heap.size ≤ w26.heap.size) := KS26.out.size
  have T3_26 := Lib.hid (T3_25.out.keep KS26.out)
  clear T3_25
  have T4_26 := Lib.hid (T4_25.out.keep KS26.out)
  clear T4_25
  have T6_26 := Lib.hid (T6_25.out.keep KS26.out)
  clear T6_25
  have T8_26 := Lib.hid (T8_25.out.keep KS26.out)
  clear T8_25
  have T21_26 := Lib.hid (T21_25.out.keep KS26.out)
  clear T21_25
  have T22_26 := Lib.hid (T22_25.out.keep KS26.out)
  clear T22_25
  have c0_26 := cell_keep KS26.out c0_25
  clear c0_25
  have c1_26 := cell_keep KS26.out c1_25
  clear c1_25
  have c2_26 := cell_keep KS26.out c2_25
  clear c2_25
  have c3_26 := cell_keep KS26.out c3_25
  clear c3_25
  have c4_26 := cell_keep KS26.out c4_25
  clear c4_25
  have c5_26 := cell_keep KS26.out c5_25
  clear c5_25
  have c6_26 := cell_keep KS26.out c6_25
  clear c6_25
  have c7_26 := cell_keep KS26.out c7_25
  clear c7_25
  have c8_26 := cell_keep KS26.out c8_25
  clear c8_25
  have c9_26 := cell_keep KS26.out c9_25
  clear c9_25
  have c10_26 := cell_keep KS26.out c10_25
  clear c10_25
  have c11_26 := cell_keep KS26.out c11_25
  clear c11_25
  have c12_26 := cell_keep KS26.out c12_25
  clear c12_25
  have c13_26 := cell_keep KS26.out c13_25
  clear c13_25
  go_wp2_with fail
  refine (heldIntSS_kp _ L1 (1 + (cntW L0 : Nat)) _ (T8_26.out.rd1) (by omega) (by omega)).mono ?_
  rintro e w27 ⟨rfl, k27⟩
  have KS27 : Hid (Keeps w26 w27) := k27
  clear k27
  have K27 : Hid (Keeps w w27) := Keeps.trans K26.out KS27.out
  have Z27 : Hid (w26.heap.size ≤ w27.heap.size) := KS27.out.size
  have T3_27 := Lib.hid (T3_26.out.keep KS27.out)
  clear T3_26
  have T4_27 := Lib.hid (T4_26.out.keep KS27.out)
  clear T4_26
  have T6_27 := Lib.hid (T6_26.out.keep KS27.out)
  clear T6_26
  have T8_27 := Lib.hid (T8_26.out.keep KS27.out)
  clear T8_26
  have T21_27 := Lib.hid (T21_26.out.keep KS27.out)
  clear T21_26
  have T22_27 := Lib.hid (T22_26.out.keep KS27.out)
  clear T22_26
  have c0_27 := cell_keep KS27.out c0_26
  clear c0_26
  have c1_27 := cell_keep KS27.out c1_26
  clear c1_26
  have c2_27 := cell_keep KS27.out c2_26
  clear c2_26
  have c3_27 := cell_keep KS27.out c3_26
  clear c3_26
  have c4_27 := cell_keep KS27.out c4_26
  clear c4_26
  have c5_27 := cell_keep KS27.out c5_26
  clear c5_26
  have c6_27 := cell_keep KS27.out c6_26
  clear c6_26
  have c7_27 := cell_keep KS27.out c7_26
  clear c7_26
  have c8_27 := cell_keep KS27.out c8_26
  clear c8_26
  have c9_27 := cell_keep KS27.out c9_26
  clear c9_26
  have c10_27 := cell_keep KS27.out c10_26
  clear c10_26
  have c11_27 := cell_keep KS27.out c11_26
  clear c11_26
  have c12_27 := cell_keep KS27.out c12_26
  clear c12_26
  have c13_27 := cell_keep KS27.out c13_26
  clear c13_26
  go_wp2_with fail
  go_ret
  exact ⟨rfl, K27.out⟩

set_option maxHeartbeats 1600000 in
theorem lawWalkOfProblem (v0 : Value) (l0 : PR) (w : World) (r0 : RdP w v0 l0) (il0 : okP l0) : Calls Try.prog 13 #[v0] w fun e w' => e = .returned (.bool true) ∧ Below w.heap.size w w' := by
  by_cases q0 : szP l0 ≤ 1048576
  case neg =>
    have R0 := Lib.hid r0
    obtain ⟨p0a2, p0c2, p0a3, p0c3, rfl⟩ := r0.shape
    clear r0 il0
    go_enter Try.func13, Try.ntmps13
    go_wp2_with fail
    refine (szProblem_any _ l0 (1048576) _ (R0.out.keep (by repeat (first | exact Keeps.refl _ | with_reducible refine Keeps.alloc ?_ _))) (by omega) (by omega)).mono ?_
    rintro e W0 ⟨rfl, k0⟩
    rw [szL, if_neg (by omega)]
    have KK0 : Hid (Keeps w W0) := Keeps.trans (by repeat (first | exact Keeps.refl _ | with_reducible refine Keeps.alloc ?_ _)) k0
    obtain ⟨hc0, hf0⟩ := bcell k0
    have hz0 := k0.size
    clear k0
    go_wp2
    go_ret
    exact ⟨rfl, KK0.out⟩
  exact lawWalkOfProblem_small v0 l0 r0 il0 (by omega)
end Go.Proofs.Ytiejigogmnkjdaa
