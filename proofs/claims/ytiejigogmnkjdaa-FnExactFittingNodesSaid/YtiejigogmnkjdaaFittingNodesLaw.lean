/- The walk of laws.FnExactFittingNodes: it returns true at every input and changes nothing that was there. -/
import Derived.Test.YtiejigogmnkjdaaFn
import Derived.Test.YtiejigogmnkjdaaRk
import Derived.Test.YtiejigogmnkjdaaOpen
import Derived.Deep.RegionHeld3
namespace Go.Proofs.Ytiejigogmnkjdaa
open Go.RowKit
set_option linter.unusedSimpArgs false
set_option linter.unusedVariables false

set_option maxRecDepth 100000 in
set_option maxHeartbeats 8000000 in
theorem lawFittingNodes_small {w : World} (v0 : Value) (l0 : PR) (r0 : RdP w v0 l0) (il0 : okP l0) (v1 : Value) (l1 : List Int) (r1 : Ints w v1 l1) (il1 : ∀ n ∈ l1, I64 n) (s0 : szP l0 ≤ 1048576) (s1 : l1.length ≤ 1048576) : Calls Try.prog 5 #[v0, v1] w fun e w' => e = .returned (.bool true) ∧ Below w.heap.size w w' := by
  have HE := Lib.hid (FittingNodes_eq l0 l1 il0 s0 il1 s1)
  have R0 := Lib.hid r0
  have IL0 := Lib.hid il0
  obtain ⟨p0a2, p0c2, p0a3, p0c3, rfl⟩ := r0.shape
  clear r0 il0
  have R1 := Lib.hid r1
  have IL1 := Lib.hid il1
  obtain ⟨ad1, cp1, rfl, _⟩ := r1.form
  clear r1 il1
  have K0 : Hid (Keeps w w) := Keeps.refl w
  go_enter Try.func5, Try.ntmps5
  go_wp2_with fail
  have KS1 : Hid (Keeps w (w.alloc (.cells #[.int .i64 l0.labels, .int .i64 l0.degree, .slice p0a2 l0.nodes.length p0c2, .slice p0a3 l0.edges.length p0c3] 24))) := (Keeps.refl _).alloc _
  have Z1' : Hid (w.heap.size + 1 ≤ (w.alloc (.cells #[.int .i64 l0.labels, .int .i64 l0.degree, .slice p0a2 l0.nodes.length p0c2, .slice p0a3 l0.edges.length p0c3] 24)).heap.size) := by show _ ≤ _; simp
  have E1 : (w.alloc (.cells #[.int .i64 l0.labels, .int .i64 l0.degree, .slice p0a2 l0.nodes.length p0c2, .slice p0a3 l0.edges.length p0c3] 24)).heap.size = w.heap.size + 1 := by rw [World.size_alloc]
  have c0_1 : (w.alloc (.cells #[.int .i64 l0.labels, .int .i64 l0.degree, .slice p0a2 l0.nodes.length p0c2, .slice p0a3 l0.edges.length p0c3] 24)).cell? ⟨w.heap.size, 0, none⟩ = some (.int .i64 l0.labels) := by rw [World.cell?_alloc_at _ _ _ _ rfl]; rfl
  have c1_1 : (w.alloc (.cells #[.int .i64 l0.labels, .int .i64 l0.degree, .slice p0a2 l0.nodes.length p0c2, .slice p0a3 l0.edges.length p0c3] 24)).cell? ⟨w.heap.size, 1, none⟩ = some (.int .i64 l0.degree) := by rw [World.cell?_alloc_at _ _ _ _ rfl]; rfl
  have c2_1 : (w.alloc (.cells #[.int .i64 l0.labels, .int .i64 l0.degree, .slice p0a2 l0.nodes.length p0c2, .slice p0a3 l0.edges.length p0c3] 24)).cell? ⟨w.heap.size, 2, none⟩ = some (.slice p0a2 l0.nodes.length p0c2) := by rw [World.cell?_alloc_at _ _ _ _ rfl]; rfl
  have c3_1 : (w.alloc (.cells #[.int .i64 l0.labels, .int .i64 l0.degree, .slice p0a2 l0.nodes.length p0c2, .slice p0a3 l0.edges.length p0c3] 24)).cell? ⟨w.heap.size, 3, none⟩ = some (.slice p0a3 l0.edges.length p0c3) := by rw [World.cell?_alloc_at _ _ _ _ rfl]; rfl
  generalize w.alloc (.cells #[.int .i64 l0.labels, .int .i64 l0.degree, .slice p0a2 l0.nodes.length p0c2, .slice p0a3 l0.edges.length p0c3] 24) = w1 at KS1 Z1' E1 c0_1 c1_1 c2_1 c3_1 ⊢
  have K1 : Hid (Keeps w w1) := Keeps.trans K0.out KS1.out
  have Z1 : Hid (w.heap.size ≤ w1.heap.size) := KS1.out.size
  clear E1
  refine (szProblem_any _ l0 1048576 _ (R0.out.keep K1.out) (by omega) (by omega)).mono ?_
  rintro e w2 ⟨rfl, k2⟩
  rw [szL, if_pos (by omega)]
  have KS2 : Hid (Keeps w1 w2) := k2
  clear k2
  have K2 : Hid (Keeps w w2) := Keeps.trans K1.out KS2.out
  have Z2 : Hid (w1.heap.size ≤ w2.heap.size) := KS2.out.size
  have c0_2 := cell_keep KS2.out c0_1
  clear c0_1
  have c1_2 := cell_keep KS2.out c1_1
  clear c1_1
  have c2_2 := cell_keep KS2.out c2_1
  clear c2_1
  have c3_2 := cell_keep KS2.out c3_1
  clear c3_1
  go_wp2_with fail
  refine (toProblem_any _ l0 _ (R0.out.keep K2.out) s0).mono ?_
  rintro e w3 ⟨t3, rfl, o3, k3⟩
  obtain ⟨t3a2, t3c2, t3a3, t3c3, rfl⟩ := o3.rd.shape
  have T3 := Lib.hid o3
  clear o3
  have KS3 : Hid (Keeps w2 w3) := k3
  clear k3
  have K3 : Hid (Keeps w w3) := Keeps.trans K2.out KS3.out
  have Z3 : Hid (w2.heap.size ≤ w3.heap.size) := KS3.out.size
  have c0_3 := cell_keep KS3.out c0_2
  clear c0_2
  have c1_3 := cell_keep KS3.out c1_2
  clear c1_2
  have c2_3 := cell_keep KS3.out c2_2
  clear c2_2
  have c3_3 := cell_keep KS3.out c3_2
  clear c3_2
  go_wp2_with fail
  refine (toIntS_any _ l1 _ (R1.out.keep K3.out) s1).mono ?_
  rintro e w4 ⟨t4, rfl, o4, k4⟩
  have T4 := Lib.hid o4.owI
  clear o4
  have KS4 : Hid (Keeps w3 w4) := k4
  clear k4
  have K4 : Hid (Keeps w w4) := Keeps.trans K3.out KS4.out
  have Z4 : Hid (w3.heap.size ≤ w4.heap.size) := KS4.out.size
  have T3_4 := Lib.hid (T3.out.keep KS4.out)
  clear T3
  have c0_4 := cell_keep KS4.out c0_3
  clear c0_3
  have c1_4 := cell_keep KS4.out c1_3
  clear c1_3
  have c2_4 := cell_keep KS4.out c2_3
  clear c2_3
  have c3_4 := cell_keep KS4.out c3_3
  clear c3_3
  go_wp2_with fail
  refine (specFittingNodes_any (.agg #[.int .i64 l0.labels, .int .i64 l0.degree, .slice t3a2 l0.nodes.length t3c2, .slice t3a3 l0.edges.length t3c3]) l0 t4 l1 _ (T3_4.out.rd) IL0.out s0 (T4.out.ints) IL1.out s1).mono ?_
  rintro e w5 ⟨x5, rfl, o5, b5, k5⟩
  generalize fFittingNodesSpec l0 l1 = R at *
  generalize hL : R.getD [] = L at *
  have HL := Lib.hid hL
  clear hL
  have BL : tot L ≤ 1000000000 := b5
  have BC := off_tot L
  have T5 := Lib.hid o5
  clear o5 b5
  have KS5 : Hid (Keeps w4 w5) := k5
  clear k5
  have K5 : Hid (Keeps w w5) := Keeps.trans K4.out KS5.out
  have Z5 : Hid (w4.heap.size ≤ w5.heap.size) := KS5.out.size
  have T3_5 := Lib.hid (T3_4.out.keep KS5.out)
  clear T3_4
  have T4_5 := Lib.hid (T4.out.keep KS5.out)
  clear T4
  have c0_5 := cell_keep KS5.out c0_4
  clear c0_4
  have c1_5 := cell_keep KS5.out c1_4
  clear c1_4
  have c2_5 := cell_keep KS5.out c2_4
  clear c2_4
  have c3_5 := cell_keep KS5.out c3_4
  clear c3_4
  go_wp2_with fail
  refine (toProblem_any _ l0 _ (R0.out.keep K5.out) s0).mono ?_
  rintro e w6 ⟨t6, rfl, o6, k6⟩
  obtain ⟨t6a2, t6c2, t6a3, t6c3, rfl⟩ := o6.rd.shape
  have T6 := Lib.hid o6
  clear o6
  have KS6 : Hid (Keeps w5 w6) := k6
  clear k6
  have K6 : Hid (Keeps w w6) := Keeps.trans K5.out KS6.out
  have Z6 : Hid (w5.heap.size ≤ w6.heap.size) := KS6.out.size
  have T3_6 := Lib.hid (T3_5.out.keep KS6.out)
  clear T3_5
  have T4_6 := Lib.hid (T4_5.out.keep KS6.out)
  clear T4_5
  have T5_6 := Lib.hid (T5.out.keep KS6.out)
  clear T5
  have c0_6 := cell_keep KS6.out c0_5
  clear c0_5
  have c1_6 := cell_keep KS6.out c1_5
  clear c1_5
  have c2_6 := cell_keep KS6.out c2_5
  clear c2_5
  have c3_6 := cell_keep KS6.out c3_5
  clear c3_5
  have pre1 : (w6.alloc (.cells #[.int .i64 l0.labels, .int .i64 l0.degree, .slice t6a2 l0.nodes.length t6c2, .slice t6a3 l0.edges.length t6c3] 29)).cell? ⟨w.heap.size, 0, none⟩ = some (.int .i64 l0.labels) := cell_keep ((Keeps.refl _).alloc _) c0_6
  have pre2 : (w6.alloc (.cells #[.int .i64 l0.labels, .int .i64 l0.degree, .slice t6a2 l0.nodes.length t6c2, .slice t6a3 l0.edges.length t6c3] 29)).cell? ⟨w.heap.size, 1, none⟩ = some (.int .i64 l0.degree) := cell_keep ((Keeps.refl _).alloc _) c1_6
  have pre3 : (w6.alloc (.cells #[.int .i64 l0.labels, .int .i64 l0.degree, .slice t6a2 l0.nodes.length t6c2, .slice t6a3 l0.edges.length t6c3] 29)).cell? ⟨w.heap.size, 2, none⟩ = some (.slice p0a2 l0.nodes.length p0c2) := cell_keep ((Keeps.refl _).alloc _) c2_6
  have pre4 : (w6.alloc (.cells #[.int .i64 l0.labels, .int .i64 l0.degree, .slice t6a2 l0.nodes.length t6c2, .slice t6a3 l0.edges.length t6c3] 29)).cell? ⟨w.heap.size, 3, none⟩ = some (.slice p0a3 l0.edges.length p0c3) := cell_keep ((Keeps.refl _).alloc _) c3_6
  go_wp2_with fail
  clear pre1 pre2 pre3 pre4
  have KS7 : Hid (Keeps w6 (w6.alloc (.cells #[.int .i64 l0.labels, .int .i64 l0.degree, .slice t6a2 l0.nodes.length t6c2, .slice t6a3 l0.edges.length t6c3] 29))) := (Keeps.refl _).alloc _
  have Z7' : Hid (w6.heap.size + 1 ≤ (w6.alloc (.cells #[.int .i64 l0.labels, .int .i64 l0.degree, .slice t6a2 l0.nodes.length t6c2, .slice t6a3 l0.edges.length t6c3] 29)).heap.size) := by show _ ≤ _; simp
  have E7 : (w6.alloc (.cells #[.int .i64 l0.labels, .int .i64 l0.degree, .slice t6a2 l0.nodes.length t6c2, .slice t6a3 l0.edges.length t6c3] 29)).heap.size = w6.heap.size + 1 := by rw [World.size_alloc]
  have c4_7 : (w6.alloc (.cells #[.int .i64 l0.labels, .int .i64 l0.degree, .slice t6a2 l0.nodes.length t6c2, .slice t6a3 l0.edges.length t6c3] 29)).cell? ⟨w6.heap.size, 0, none⟩ = some (.int .i64 l0.labels) := by rw [World.cell?_alloc_at _ _ _ _ rfl]; rfl
  have c5_7 : (w6.alloc (.cells #[.int .i64 l0.labels, .int .i64 l0.degree, .slice t6a2 l0.nodes.length t6c2, .slice t6a3 l0.edges.length t6c3] 29)).cell? ⟨w6.heap.size, 1, none⟩ = some (.int .i64 l0.degree) := by rw [World.cell?_alloc_at _ _ _ _ rfl]; rfl
  have c6_7 : (w6.alloc (.cells #[.int .i64 l0.labels, .int .i64 l0.degree, .slice t6a2 l0.nodes.length t6c2, .slice t6a3 l0.edges.length t6c3] 29)).cell? ⟨w6.heap.size, 2, none⟩ = some (.slice t6a2 l0.nodes.length t6c2) := by rw [World.cell?_alloc_at _ _ _ _ rfl]; rfl
  have c7_7 : (w6.alloc (.cells #[.int .i64 l0.labels, .int .i64 l0.degree, .slice t6a2 l0.nodes.length t6c2, .slice t6a3 l0.edges.length t6c3] 29)).cell? ⟨w6.heap.size, 3, none⟩ = some (.slice t6a3 l0.edges.length t6c3) := by rw [World.cell?_alloc_at _ _ _ _ rfl]; rfl
  generalize w6.alloc (.cells #[.int .i64 l0.labels, .int .i64 l0.degree, .slice t6a2 l0.nodes.length t6c2, .slice t6a3 l0.edges.length t6c3] 29) = w7 at KS7 Z7' E7 c4_7 c5_7 c6_7 c7_7 ⊢
  have K7 : Hid (Keeps w w7) := Keeps.trans K6.out KS7.out
  have Z7 : Hid (w6.heap.size ≤ w7.heap.size) := KS7.out.size
  have T3_7 := Lib.hid (T3_6.out.keep KS7.out)
  clear T3_6
  have T4_7 := Lib.hid (T4_6.out.keep KS7.out)
  clear T4_6
  have T5_7 := Lib.hid (T5_6.out.keep KS7.out)
  clear T5_6
  have T6_7 := Lib.hid (T6.out.keep KS7.out)
  clear T6
  have c0_7 := cell_keep KS7.out c0_6
  clear c0_6
  have c1_7 := cell_keep KS7.out c1_6
  clear c1_6
  have c2_7 := cell_keep KS7.out c2_6
  clear c2_6
  have c3_7 := cell_keep KS7.out c3_6
  clear c3_6
  clear E7
  refine (toIntS_any _ l1 _ (R1.out.keep K7.out) s1).mono ?_
  rintro e w8 ⟨t8, rfl, o8, k8⟩
  have T8 := Lib.hid o8.owI
  clear o8
  have KS8 : Hid (Keeps w7 w8) := k8
  clear k8
  have K8 : Hid (Keeps w w8) := Keeps.trans K7.out KS8.out
  have Z8 : Hid (w7.heap.size ≤ w8.heap.size) := KS8.out.size
  have T3_8 := Lib.hid (T3_7.out.keep KS8.out)
  clear T3_7
  have T4_8 := Lib.hid (T4_7.out.keep KS8.out)
  clear T4_7
  have T5_8 := Lib.hid (T5_7.out.keep KS8.out)
  clear T5_7
  have T6_8 := Lib.hid (T6_7.out.keep KS8.out)
  clear T6_7
  have c0_8 := cell_keep KS8.out c0_7
  clear c0_7
  have c1_8 := cell_keep KS8.out c1_7
  clear c1_7
  have c2_8 := cell_keep KS8.out c2_7
  clear c2_7
  have c3_8 := cell_keep KS8.out c3_7
  clear c3_7
  have c4_8 := cell_keep KS8.out c4_7
  clear c4_7
  have c5_8 := cell_keep KS8.out c5_7
  clear c5_7
  have c6_8 := cell_keep KS8.out c6_7
  clear c6_7
  have c7_8 := cell_keep KS8.out c7_7
  clear c7_7
  go_wp2_with fail
  refine (implFittingNodes_any (.agg #[.int .i64 l0.labels, .int .i64 l0.degree, .slice t6a2 l0.nodes.length t6c2, .slice t6a3 l0.edges.length t6c3]) l0 t8 l1 _ (T6_8.out.rd) IL0.out s0 (T8.out.ints) IL1.out s1).mono ?_
  rw [HE.out]
  rintro e w9 ⟨x9, rfl, o9, b9, k9⟩
  rw [HL.out] at o9
  have T9 := Lib.hid o9
  clear o9 b9
  have KS9 : Hid (Keeps w8 w9) := k9
  clear k9
  have K9 : Hid (Keeps w w9) := Keeps.trans K8.out KS9.out
  have Z9 : Hid (w8.heap.size ≤ w9.heap.size) := KS9.out.size
  have T3_9 := Lib.hid (T3_8.out.keep KS9.out)
  clear T3_8
  have T4_9 := Lib.hid (T4_8.out.keep KS9.out)
  clear T4_8
  have T5_9 := Lib.hid (T5_8.out.keep KS9.out)
  clear T5_8
  have T6_9 := Lib.hid (T6_8.out.keep KS9.out)
  clear T6_8
  have T8_9 := Lib.hid (T8.out.keep KS9.out)
  clear T8
  have c0_9 := cell_keep KS9.out c0_8
  clear c0_8
  have c1_9 := cell_keep KS9.out c1_8
  clear c1_8
  have c2_9 := cell_keep KS9.out c2_8
  clear c2_8
  have c3_9 := cell_keep KS9.out c3_8
  clear c3_8
  have c4_9 := cell_keep KS9.out c4_8
  clear c4_8
  have c5_9 := cell_keep KS9.out c5_8
  clear c5_8
  have c6_9 := cell_keep KS9.out c6_8
  clear c6_8
  have c7_9 := cell_keep KS9.out c7_8
  clear c7_8
  go_wp2_with fail
  refine (eqIntSS_any x9 x5 _ _ _ (T9.out.rows) (T5_9.out.rows)).mono ?_
  rintro e w10 ⟨rfl, d10⟩
  have KS10 : Hid (Keeps w9 w10) := d10.keeps
  clear d10
  have K10 : Hid (Keeps w w10) := Keeps.trans K9.out KS10.out
  have Z10 : Hid (w9.heap.size ≤ w10.heap.size) := KS10.out.size
  have T3_10 := Lib.hid (T3_9.out.keep KS10.out)
  clear T3_9
  have T4_10 := Lib.hid (T4_9.out.keep KS10.out)
  clear T4_9
  have T5_10 := Lib.hid (T5_9.out.keep KS10.out)
  clear T5_9
  have T6_10 := Lib.hid (T6_9.out.keep KS10.out)
  clear T6_9
  have T8_10 := Lib.hid (T8_9.out.keep KS10.out)
  clear T8_9
  have T9_10 := Lib.hid (T9.out.keep KS10.out)
  clear T9
  have c0_10 := cell_keep KS10.out c0_9
  clear c0_9
  have c1_10 := cell_keep KS10.out c1_9
  clear c1_9
  have c2_10 := cell_keep KS10.out c2_9
  clear c2_9
  have c3_10 := cell_keep KS10.out c3_9
  clear c3_9
  have c4_10 := cell_keep KS10.out c4_9
  clear c4_9
  have c5_10 := cell_keep KS10.out c5_9
  clear c5_9
  have c6_10 := cell_keep KS10.out c6_9
  clear c6_9
  have c7_10 := cell_keep KS10.out c7_9
  clear c7_9
  go_wp2_with fail
  have SK : Hid (∀ W : World, Keeps w10 W → W.cell? ⟨w.heap.size, 0, none⟩ = some (.int .i64 l0.labels) ∧ W.cell? ⟨w.heap.size, 1, none⟩ = some (.int .i64 l0.degree) ∧ W.cell? ⟨w.heap.size, 2, none⟩ = some (.slice p0a2 l0.nodes.length p0c2) ∧ W.cell? ⟨w.heap.size, 3, none⟩ = some (.slice p0a3 l0.edges.length p0c3) ∧ W.cell? ⟨w6.heap.size, 0, none⟩ = some (.int .i64 l0.labels) ∧ W.cell? ⟨w6.heap.size, 1, none⟩ = some (.int .i64 l0.degree) ∧ W.cell? ⟨w6.heap.size, 2, none⟩ = some (.slice t6a2 l0.nodes.length t6c2) ∧ W.cell? ⟨w6.heap.size, 3, none⟩ = some (.slice t6a3 l0.edges.length t6c3)) := fun W k => ⟨cell_keep k c0_10, cell_keep k c1_10, cell_keep k c2_10, cell_keep k c3_10, cell_keep k c4_10, cell_keep k c5_10, cell_keep k c6_10, cell_keep k c7_10⟩
  have KD : Hid (Keeps w10 w10.drew) := (Keeps.refl _).drew
  go_region_held3 (fun W => W.cell? ⟨w.heap.size, 0, none⟩ = some (.int .i64 l0.labels) ∧ W.cell? ⟨w.heap.size, 1, none⟩ = some (.int .i64 l0.degree) ∧ W.cell? ⟨w.heap.size, 2, none⟩ = some (.slice p0a2 l0.nodes.length p0c2) ∧ W.cell? ⟨w.heap.size, 3, none⟩ = some (.slice p0a3 l0.edges.length p0c3) ∧ W.cell? ⟨w6.heap.size, 0, none⟩ = some (.int .i64 l0.labels) ∧ W.cell? ⟨w6.heap.size, 1, none⟩ = some (.int .i64 l0.degree) ∧ W.cell? ⟨w6.heap.size, 2, none⟩ = some (.slice t6a2 l0.nodes.length t6c2) ∧ W.cell? ⟨w6.heap.size, 3, none⟩ = some (.slice t6a3 l0.edges.length t6c3)) (first | exact SK.out _ KD.out | exact SK.out _ (Keeps.trans KD.out KS11'.out) | exact SK.out _ (Keeps.trans KD.out (Keeps.trans KS11'.out KS12.out)))
    ((first
      | (go_at_call 17; refine (toProblem_any _ l0 _ (R0.out.keep (Keeps.trans K10.out KD.out)) s0).mono ?_; rintro e w11 ⟨tt, rfl, o11, k11⟩; obtain ⟨t11a2, t11c2, t11a3, t11c3, rfl⟩ := o11.rd.shape; have T11 := Lib.hid o11; have KS11' := Lib.hid k11; clear o11 k11)
      | (go_at_call 20; refine (eqProblem_same _ _ l0 _ ((T6_10.out.rd).keep (Keeps.trans KD.out KS11'.out)) T11.out.rd).mono ?_; rintro e w12 ⟨rfl, k12⟩; have KS12 := Lib.hid k12; clear k12)))
  have KS11 : Hid (Keeps w10 w11) := Keeps.trans KD.out KS11'.out
  have K11 : Hid (Keeps w w11) := Keeps.trans K10.out KS11.out
  have Z11 : Hid (w10.heap.size ≤ w11.heap.size) := KS11.out.size
  have T3_11 := Lib.hid (T3_10.out.keep KS11.out)
  clear T3_10
  have T4_11 := Lib.hid (T4_10.out.keep KS11.out)
  clear T4_10
  have T5_11 := Lib.hid (T5_10.out.keep KS11.out)
  clear T5_10
  have T6_11 := Lib.hid (T6_10.out.keep KS11.out)
  clear T6_10
  have T8_11 := Lib.hid (T8_10.out.keep KS11.out)
  clear T8_10
  have T9_11 := Lib.hid (T9_10.out.keep KS11.out)
  clear T9_10
  have c0_11 := cell_keep KS11.out c0_10
  clear c0_10
  have c1_11 := cell_keep KS11.out c1_10
  clear c1_10
  have c2_11 := cell_keep KS11.out c2_10
  clear c2_10
  have c3_11 := cell_keep KS11.out c3_10
  clear c3_10
  have c4_11 := cell_keep KS11.out c4_10
  clear c4_10
  have c5_11 := cell_keep KS11.out c5_10
  clear c5_10
  have c6_11 := cell_keep KS11.out c6_10
  clear c6_10
  have c7_11 := cell_keep KS11.out c7_10
  clear c7_10
  have K12 : Hid (Keeps w w12) := Keeps.trans K11.out KS12.out
  have Z12 : Hid (w11.heap.size ≤ w12.heap.size) := KS12.out.size
  have T3_12 := Lib.hid (T3_11.out.keep KS12.out)
  clear T3_11
  have T4_12 := Lib.hid (T4_11.out.keep KS12.out)
  clear T4_11
  have T5_12 := Lib.hid (T5_11.out.keep KS12.out)
  clear T5_11
  have T6_12 := Lib.hid (T6_11.out.keep KS12.out)
  clear T6_11
  have T8_12 := Lib.hid (T8_11.out.keep KS12.out)
  clear T8_11
  have T9_12 := Lib.hid (T9_11.out.keep KS12.out)
  clear T9_11
  have c0_12 := cell_keep KS12.out c0_11
  clear c0_11
  have c1_12 := cell_keep KS12.out c1_11
  clear c1_11
  have c2_12 := cell_keep KS12.out c2_11
  clear c2_11
  have c3_12 := cell_keep KS12.out c3_11
  clear c3_11
  have c4_12 := cell_keep KS12.out c4_11
  clear c4_11
  have c5_12 := cell_keep KS12.out c5_11
  clear c5_11
  have c6_12 := cell_keep KS12.out c6_11
  clear c6_11
  have c7_12 := cell_keep KS12.out c7_11
  clear c7_11
  clear SK KD
  go_wp2_with fail
  refine (toIntS_any _ l1 _ (R1.out.keep K12.out) s1).mono ?_
  rintro e w13 ⟨t13, rfl, o13, k13⟩
  have T13 := Lib.hid o13.owI
  clear o13
  have KS13 : Hid (Keeps w12 w13) := k13
  clear k13
  have K13 : Hid (Keeps w w13) := Keeps.trans K12.out KS13.out
  have Z13 : Hid (w12.heap.size ≤ w13.heap.size) := KS13.out.size
  have T3_13 := Lib.hid (T3_12.out.keep KS13.out)
  clear T3_12
  have T4_13 := Lib.hid (T4_12.out.keep KS13.out)
  clear T4_12
  have T5_13 := Lib.hid (T5_12.out.keep KS13.out)
  clear T5_12
  have T6_13 := Lib.hid (T6_12.out.keep KS13.out)
  clear T6_12
  have T8_13 := Lib.hid (T8_12.out.keep KS13.out)
  clear T8_12
  have T9_13 := Lib.hid (T9_12.out.keep KS13.out)
  clear T9_12
  have c0_13 := cell_keep KS13.out c0_12
  clear c0_12
  have c1_13 := cell_keep KS13.out c1_12
  clear c1_12
  have c2_13 := cell_keep KS13.out c2_12
  clear c2_12
  have c3_13 := cell_keep KS13.out c3_12
  clear c3_12
  have c4_13 := cell_keep KS13.out c4_12
  clear c4_12
  have c5_13 := cell_keep KS13.out c5_12
  clear c5_12
  have c6_13 := cell_keep KS13.out c6_12
  clear c6_12
  have c7_13 := cell_keep KS13.out c7_12
  clear c7_12
  go_wp2_with fail
  refine (eqIntS_any t8 t13 _ _ _ (T8_13.out.ints) (T13.out.ints)).mono ?_
  rintro e w14 ⟨rfl, d14⟩
  have KS14 : Hid (Keeps w13 w14) := d14.keeps
  clear d14
  have K14 : Hid (Keeps w w14) := Keeps.trans K13.out KS14.out
  have Z14 : Hid (w13.heap.size ≤ w14.heap.size) := KS14.out.size
  have T3_14 := Lib.hid (T3_13.out.keep KS14.out)
  clear T3_13
  have T4_14 := Lib.hid (T4_13.out.keep KS14.out)
  clear T4_13
  have T5_14 := Lib.hid (T5_13.out.keep KS14.out)
  clear T5_13
  have T6_14 := Lib.hid (T6_13.out.keep KS14.out)
  clear T6_13
  have T8_14 := Lib.hid (T8_13.out.keep KS14.out)
  clear T8_13
  have T9_14 := Lib.hid (T9_13.out.keep KS14.out)
  clear T9_13
  have T13_14 := Lib.hid (T13.out.keep KS14.out)
  clear T13
  have c0_14 := cell_keep KS14.out c0_13
  clear c0_13
  have c1_14 := cell_keep KS14.out c1_13
  clear c1_13
  have c2_14 := cell_keep KS14.out c2_13
  clear c2_13
  have c3_14 := cell_keep KS14.out c3_13
  clear c3_13
  have c4_14 := cell_keep KS14.out c4_13
  clear c4_13
  have c5_14 := cell_keep KS14.out c5_13
  clear c5_13
  have c6_14 := cell_keep KS14.out c6_13
  clear c6_13
  have c7_14 := cell_keep KS14.out c7_13
  clear c7_13
  go_wp2_with fail
  have CL15 := cntP_le l0
  refine (markProblem_any w5.heap.size w6.heap.size _ l0 1 _ T6_14.out (by have := Z1.out; have := Z2.out; have := Z3.out; have := Z4.out; have := Z5.out; have := Z6.out; have := Z7.out; have := Z8.out; have := Z9.out; have := Z10.out; have := Z11.out; have := Z12.out; have := Z13.out; have := Z14.out; omega) (by omega) (by omega)).mono ?_
  rintro e w15 ⟨rfl, o15, g15⟩
  have G15 : Hid (Chg w5.heap.size w6.heap.size w14 w15) := g15
  have T6_15 := Lib.hid o15
  clear o15 g15 T6_14
  have Z15 : Hid (w14.heap.size ≤ w15.heap.size) := G15.out.size
  have K15 : Hid (Keeps w w15) := G15.out.keeps K14.out (by have := Z1.out; have := Z2.out; have := Z3.out; have := Z4.out; have := Z5.out; have := Z6.out; have := Z7.out; have := Z8.out; have := Z9.out; have := Z10.out; have := Z11.out; have := Z12.out; have := Z13.out; have := Z14.out; have := Z15.out; omega)
  have T3_15 := Lib.hid (T3_14.out.chg G15.out (by have := Z1.out; have := Z2.out; have := Z3.out; have := Z4.out; have := Z5.out; have := Z6.out; have := Z7.out; have := Z8.out; have := Z9.out; have := Z10.out; have := Z11.out; have := Z12.out; have := Z13.out; have := Z14.out; have := Z15.out; omega))
  clear T3_14
  have T4_15 := Lib.hid (T4_14.out.chg G15.out (by have := Z1.out; have := Z2.out; have := Z3.out; have := Z4.out; have := Z5.out; have := Z6.out; have := Z7.out; have := Z8.out; have := Z9.out; have := Z10.out; have := Z11.out; have := Z12.out; have := Z13.out; have := Z14.out; have := Z15.out; omega))
  clear T4_14
  have T5_15 := Lib.hid (T5_14.out.chg G15.out (by have := Z1.out; have := Z2.out; have := Z3.out; have := Z4.out; have := Z5.out; have := Z6.out; have := Z7.out; have := Z8.out; have := Z9.out; have := Z10.out; have := Z11.out; have := Z12.out; have := Z13.out; have := Z14.out; have := Z15.out; omega))
  clear T5_14
  have T8_15 := Lib.hid (T8_14.out.chg G15.out (by have := Z1.out; have := Z2.out; have := Z3.out; have := Z4.out; have := Z5.out; have := Z6.out; have := Z7.out; have := Z8.out; have := Z9.out; have := Z10.out; have := Z11.out; have := Z12.out; have := Z13.out; have := Z14.out; have := Z15.out; omega))
  clear T8_14
  have T9_15 := Lib.hid (T9_14.out.chg G15.out (by have := Z1.out; have := Z2.out; have := Z3.out; have := Z4.out; have := Z5.out; have := Z6.out; have := Z7.out; have := Z8.out; have := Z9.out; have := Z10.out; have := Z11.out; have := Z12.out; have := Z13.out; have := Z14.out; have := Z15.out; omega))
  clear T9_14
  have T13_15 := Lib.hid (T13_14.out.chg G15.out (by have := Z1.out; have := Z2.out; have := Z3.out; have := Z4.out; have := Z5.out; have := Z6.out; have := Z7.out; have := Z8.out; have := Z9.out; have := Z10.out; have := Z11.out; have := Z12.out; have := Z13.out; have := Z14.out; have := Z15.out; omega))
  clear T13_14
  have c0_15 := (World.cell?_of_block (a := ⟨w.heap.size, 0, none⟩) (G15.out.block (w.heap.size) (by have := Z1.out; have := Z2.out; have := Z3.out; have := Z4.out; have := Z5.out; have := Z6.out; have := Z7.out; have := Z8.out; have := Z9.out; have := Z10.out; have := Z11.out; have := Z12.out; have := Z13.out; have := Z14.out; have := Z15.out; have := Z1'.out; (try simp only); omega) (by have := Z1.out; have := Z2.out; have := Z3.out; have := Z4.out; have := Z5.out; have := Z6.out; have := Z7.out; have := Z8.out; have := Z9.out; have := Z10.out; have := Z11.out; have := Z12.out; have := Z13.out; have := Z14.out; have := Z15.out; have := Z1'.out; (try simp only); omega))).trans c0_14
  clear c0_14
  have c1_15 := (World.cell?_of_block (a := ⟨w.heap.size, 1, none⟩) (G15.out.block (w.heap.size) (by have := Z1.out; have := Z2.out; have := Z3.out; have := Z4.out; have := Z5.out; have := Z6.out; have := Z7.out; have := Z8.out; have := Z9.out; have := Z10.out; have := Z11.out; have := Z12.out; have := Z13.out; have := Z14.out; have := Z15.out; have := Z1'.out; (try simp only); omega) (by have := Z1.out; have := Z2.out; have := Z3.out; have := Z4.out; have := Z5.out; have := Z6.out; have := Z7.out; have := Z8.out; have := Z9.out; have := Z10.out; have := Z11.out; have := Z12.out; have := Z13.out; have := Z14.out; have := Z15.out; have := Z1'.out; (try simp only); omega))).trans c1_14
  clear c1_14
  have c2_15 := (World.cell?_of_block (a := ⟨w.heap.size, 2, none⟩) (G15.out.block (w.heap.size) (by have := Z1.out; have := Z2.out; have := Z3.out; have := Z4.out; have := Z5.out; have := Z6.out; have := Z7.out; have := Z8.out; have := Z9.out; have := Z10.out; have := Z11.out; have := Z12.out; have := Z13.out; have := Z14.out; have := Z15.out; have := Z1'.out; (try simp only); omega) (by have := Z1.out; have := Z2.out; have := Z3.out; have := Z4.out; have := Z5.out; have := Z6.out; have := Z7.out; have := Z8.out; have := Z9.out; have := Z10.out; have := Z11.out; have := Z12.out; have := Z13.out; have := Z14.out; have := Z15.out; have := Z1'.out; (try simp only); omega))).trans c2_14
  clear c2_14
  have c3_15 := (World.cell?_of_block (a := ⟨w.heap.size, 3, none⟩) (G15.out.block (w.heap.size) (by have := Z1.out; have := Z2.out; have := Z3.out; have := Z4.out; have := Z5.out; have := Z6.out; have := Z7.out; have := Z8.out; have := Z9.out; have := Z10.out; have := Z11.out; have := Z12.out; have := Z13.out; have := Z14.out; have := Z15.out; have := Z1'.out; (try simp only); omega) (by have := Z1.out; have := Z2.out; have := Z3.out; have := Z4.out; have := Z5.out; have := Z6.out; have := Z7.out; have := Z8.out; have := Z9.out; have := Z10.out; have := Z11.out; have := Z12.out; have := Z13.out; have := Z14.out; have := Z15.out; have := Z1'.out; (try simp only); omega))).trans c3_14
  clear c3_14
  have c4_15 := (World.cell?_of_block (a := ⟨w6.heap.size, 0, none⟩) (G15.out.block (w6.heap.size) (by have := Z1.out; have := Z2.out; have := Z3.out; have := Z4.out; have := Z5.out; have := Z6.out; have := Z7.out; have := Z8.out; have := Z9.out; have := Z10.out; have := Z11.out; have := Z12.out; have := Z13.out; have := Z14.out; have := Z15.out; have := Z7'.out; (try simp only); omega) (by have := Z1.out; have := Z2.out; have := Z3.out; have := Z4.out; have := Z5.out; have := Z6.out; have := Z7.out; have := Z8.out; have := Z9.out; have := Z10.out; have := Z11.out; have := Z12.out; have := Z13.out; have := Z14.out; have := Z15.out; have := Z7'.out; (try simp only); omega))).trans c4_14
  clear c4_14
  have c5_15 := (World.cell?_of_block (a := ⟨w6.heap.size, 1, none⟩) (G15.out.block (w6.heap.size) (by have := Z1.out; have := Z2.out; have := Z3.out; have := Z4.out; have := Z5.out; have := Z6.out; have := Z7.out; have := Z8.out; have := Z9.out; have := Z10.out; have := Z11.out; have := Z12.out; have := Z13.out; have := Z14.out; have := Z15.out; have := Z7'.out; (try simp only); omega) (by have := Z1.out; have := Z2.out; have := Z3.out; have := Z4.out; have := Z5.out; have := Z6.out; have := Z7.out; have := Z8.out; have := Z9.out; have := Z10.out; have := Z11.out; have := Z12.out; have := Z13.out; have := Z14.out; have := Z15.out; have := Z7'.out; (try simp only); omega))).trans c5_14
  clear c5_14
  have c6_15 := (World.cell?_of_block (a := ⟨w6.heap.size, 2, none⟩) (G15.out.block (w6.heap.size) (by have := Z1.out; have := Z2.out; have := Z3.out; have := Z4.out; have := Z5.out; have := Z6.out; have := Z7.out; have := Z8.out; have := Z9.out; have := Z10.out; have := Z11.out; have := Z12.out; have := Z13.out; have := Z14.out; have := Z15.out; have := Z7'.out; (try simp only); omega) (by have := Z1.out; have := Z2.out; have := Z3.out; have := Z4.out; have := Z5.out; have := Z6.out; have := Z7.out; have := Z8.out; have := Z9.out; have := Z10.out; have := Z11.out; have := Z12.out; have := Z13.out; have := Z14.out; have := Z15.out; have := Z7'.out; (try simp only); omega))).trans c6_14
  clear c6_14
  have c7_15 := (World.cell?_of_block (a := ⟨w6.heap.size, 3, none⟩) (G15.out.block (w6.heap.size) (by have := Z1.out; have := Z2.out; have := Z3.out; have := Z4.out; have := Z5.out; have := Z6.out; have := Z7.out; have := Z8.out; have := Z9.out; have := Z10.out; have := Z11.out; have := Z12.out; have := Z13.out; have := Z14.out; have := Z15.out; have := Z7'.out; (try simp only); omega) (by have := Z1.out; have := Z2.out; have := Z3.out; have := Z4.out; have := Z5.out; have := Z6.out; have := Z7.out; have := Z8.out; have := Z9.out; have := Z10.out; have := Z11.out; have := Z12.out; have := Z13.out; have := Z14.out; have := Z15.out; have := Z7'.out; (try simp only); omega))).trans c7_14
  clear c7_14
  go_wp2_with fail
  refine (markIntS_any w7.heap.size t8 l1 (1 + (cntP l0 : Nat)) _ T8_15.out.own (by omega) (by omega)).mono ?_
  rintro e w16 ⟨rfl, o16, g16⟩
  have G16 : Hid (Chg w7.heap.size w8.heap.size w15 w16) := Chg.of_grown g16 fun q hq => ⟨(T8_15.out.own.lt q hq).1, T8_15.out.hi q hq⟩
  have T8_16 : Hid (OwI w7.heap.size w8.heap.size w16 t8 (iota (1 + (cntP l0 : Nat)) l1.length)) := ⟨o16, T8_15.out.hi⟩
  clear o16 g16 T8_15
  have Z16 : Hid (w15.heap.size ≤ w16.heap.size) := G16.out.size
  have K16 : Hid (Keeps w w16) := G16.out.keeps K15.out (by have := Z1.out; have := Z2.out; have := Z3.out; have := Z4.out; have := Z5.out; have := Z6.out; have := Z7.out; have := Z8.out; have := Z9.out; have := Z10.out; have := Z11.out; have := Z12.out; have := Z13.out; have := Z14.out; have := Z15.out; have := Z16.out; omega)
  have T3_16 := Lib.hid (T3_15.out.chg G16.out (by have := Z1.out; have := Z2.out; have := Z3.out; have := Z4.out; have := Z5.out; have := Z6.out; have := Z7.out; have := Z8.out; have := Z9.out; have := Z10.out; have := Z11.out; have := Z12.out; have := Z13.out; have := Z14.out; have := Z15.out; have := Z16.out; omega))
  clear T3_15
  have T4_16 := Lib.hid (T4_15.out.chg G16.out (by have := Z1.out; have := Z2.out; have := Z3.out; have := Z4.out; have := Z5.out; have := Z6.out; have := Z7.out; have := Z8.out; have := Z9.out; have := Z10.out; have := Z11.out; have := Z12.out; have := Z13.out; have := Z14.out; have := Z15.out; have := Z16.out; omega))
  clear T4_15
  have T5_16 := Lib.hid (T5_15.out.chg G16.out (by have := Z1.out; have := Z2.out; have := Z3.out; have := Z4.out; have := Z5.out; have := Z6.out; have := Z7.out; have := Z8.out; have := Z9.out; have := Z10.out; have := Z11.out; have := Z12.out; have := Z13.out; have := Z14.out; have := Z15.out; have := Z16.out; omega))
  clear T5_15
  have T6_16 := Lib.hid (T6_15.out.chg G16.out (by have := Z1.out; have := Z2.out; have := Z3.out; have := Z4.out; have := Z5.out; have := Z6.out; have := Z7.out; have := Z8.out; have := Z9.out; have := Z10.out; have := Z11.out; have := Z12.out; have := Z13.out; have := Z14.out; have := Z15.out; have := Z16.out; omega))
  clear T6_15
  have T9_16 := Lib.hid (T9_15.out.chg G16.out (by have := Z1.out; have := Z2.out; have := Z3.out; have := Z4.out; have := Z5.out; have := Z6.out; have := Z7.out; have := Z8.out; have := Z9.out; have := Z10.out; have := Z11.out; have := Z12.out; have := Z13.out; have := Z14.out; have := Z15.out; have := Z16.out; omega))
  clear T9_15
  have T13_16 := Lib.hid (T13_15.out.chg G16.out (by have := Z1.out; have := Z2.out; have := Z3.out; have := Z4.out; have := Z5.out; have := Z6.out; have := Z7.out; have := Z8.out; have := Z9.out; have := Z10.out; have := Z11.out; have := Z12.out; have := Z13.out; have := Z14.out; have := Z15.out; have := Z16.out; omega))
  clear T13_15
  have c0_16 := (World.cell?_of_block (a := ⟨w.heap.size, 0, none⟩) (G16.out.block (w.heap.size) (by have := Z1.out; have := Z2.out; have := Z3.out; have := Z4.out; have := Z5.out; have := Z6.out; have := Z7.out; have := Z8.out; have := Z9.out; have := Z10.out; have := Z11.out; have := Z12.out; have := Z13.out; have := Z14.out; have := Z15.out; have := Z16.out; have := Z1'.out; (try simp only); omega) (by have := Z1.out; have := Z2.out; have := Z3.out; have := Z4.out; have := Z5.out; have := Z6.out; have := Z7.out; have := Z8.out; have := Z9.out; have := Z10.out; have := Z11.out; have := Z12.out; have := Z13.out; have := Z14.out; have := Z15.out; have := Z16.out; have := Z1'.out; (try simp only); omega))).trans c0_15
  clear c0_15
  have c1_16 := (World.cell?_of_block (a := ⟨w.heap.size, 1, none⟩) (G16.out.block (w.heap.size) (by have := Z1.out; have := Z2.out; have := Z3.out; have := Z4.out; have := Z5.out; have := Z6.out; have := Z7.out; have := Z8.out; have := Z9.out; have := Z10.out; have := Z11.out; have := Z12.out; have := Z13.out; have := Z14.out; have := Z15.out; have := Z16.out; have := Z1'.out; (try simp only); omega) (by have := Z1.out; have := Z2.out; have := Z3.out; have := Z4.out; have := Z5.out; have := Z6.out; have := Z7.out; have := Z8.out; have := Z9.out; have := Z10.out; have := Z11.out; have := Z12.out; have := Z13.out; have := Z14.out; have := Z15.out; have := Z16.out; have := Z1'.out; (try simp only); omega))).trans c1_15
  clear c1_15
  have c2_16 := (World.cell?_of_block (a := ⟨w.heap.size, 2, none⟩) (G16.out.block (w.heap.size) (by have := Z1.out; have := Z2.out; have := Z3.out; have := Z4.out; have := Z5.out; have := Z6.out; have := Z7.out; have := Z8.out; have := Z9.out; have := Z10.out; have := Z11.out; have := Z12.out; have := Z13.out; have := Z14.out; have := Z15.out; have := Z16.out; have := Z1'.out; (try simp only); omega) (by have := Z1.out; have := Z2.out; have := Z3.out; have := Z4.out; have := Z5.out; have := Z6.out; have := Z7.out; have := Z8.out; have := Z9.out; have := Z10.out; have := Z11.out; have := Z12.out; have := Z13.out; have := Z14.out; have := Z15.out; have := Z16.out; have := Z1'.out; (try simp only); omega))).trans c2_15
  clear c2_15
  have c3_16 := (World.cell?_of_block (a := ⟨w.heap.size, 3, none⟩) (G16.out.block (w.heap.size) (by have := Z1.out; have := Z2.out; have := Z3.out; have := Z4.out; have := Z5.out; have := Z6.out; have := Z7.out; have := Z8.out; have := Z9.out; have := Z10.out; have := Z11.out; have := Z12.out; have := Z13.out; have := Z14.out; have := Z15.out; have := Z16.out; have := Z1'.out; (try simp only); omega) (by have := Z1.out; have := Z2.out; have := Z3.out; have := Z4.out; have := Z5.out; have := Z6.out; have := Z7.out; have := Z8.out; have := Z9.out; have := Z10.out; have := Z11.out; have := Z12.out; have := Z13.out; have := Z14.out; have := Z15.out; have := Z16.out; have := Z1'.out; (try simp only); omega))).trans c3_15
  clear c3_15
  have c4_16 := (World.cell?_of_block (a := ⟨w6.heap.size, 0, none⟩) (G16.out.block (w6.heap.size) (by have := Z1.out; have := Z2.out; have := Z3.out; have := Z4.out; have := Z5.out; have := Z6.out; have := Z7.out; have := Z8.out; have := Z9.out; have := Z10.out; have := Z11.out; have := Z12.out; have := Z13.out; have := Z14.out; have := Z15.out; have := Z16.out; have := Z7'.out; (try simp only); omega) (by have := Z1.out; have := Z2.out; have := Z3.out; have := Z4.out; have := Z5.out; have := Z6.out; have := Z7.out; have := Z8.out; have := Z9.out; have := Z10.out; have := Z11.out; have := Z12.out; have := Z13.out; have := Z14.out; have := Z15.out; have := Z16.out; have := Z7'.out; (try simp only); omega))).trans c4_15
  clear c4_15
  have c5_16 := (World.cell?_of_block (a := ⟨w6.heap.size, 1, none⟩) (G16.out.block (w6.heap.size) (by have := Z1.out; have := Z2.out; have := Z3.out; have := Z4.out; have := Z5.out; have := Z6.out; have := Z7.out; have := Z8.out; have := Z9.out; have := Z10.out; have := Z11.out; have := Z12.out; have := Z13.out; have := Z14.out; have := Z15.out; have := Z16.out; have := Z7'.out; (try simp only); omega) (by have := Z1.out; have := Z2.out; have := Z3.out; have := Z4.out; have := Z5.out; have := Z6.out; have := Z7.out; have := Z8.out; have := Z9.out; have := Z10.out; have := Z11.out; have := Z12.out; have := Z13.out; have := Z14.out; have := Z15.out; have := Z16.out; have := Z7'.out; (try simp only); omega))).trans c5_15
  clear c5_15
  have c6_16 := (World.cell?_of_block (a := ⟨w6.heap.size, 2, none⟩) (G16.out.block (w6.heap.size) (by have := Z1.out; have := Z2.out; have := Z3.out; have := Z4.out; have := Z5.out; have := Z6.out; have := Z7.out; have := Z8.out; have := Z9.out; have := Z10.out; have := Z11.out; have := Z12.out; have := Z13.out; have := Z14.out; have := Z15.out; have := Z16.out; have := Z7'.out; (try simp only); omega) (by have := Z1.out; have := Z2.out; have := Z3.out; have := Z4.out; have := Z5.out; have := Z6.out; have := Z7.out; have := Z8.out; have := Z9.out; have := Z10.out; have := Z11.out; have := Z12.out; have := Z13.out; have := Z14.out; have := Z15.out; have := Z16.out; have := Z7'.out; (try simp only); omega))).trans c6_15
  clear c6_15
  have c7_16 := (World.cell?_of_block (a := ⟨w6.heap.size, 3, none⟩) (G16.out.block (w6.heap.size) (by have := Z1.out; have := Z2.out; have := Z3.out; have := Z4.out; have := Z5.out; have := Z6.out; have := Z7.out; have := Z8.out; have := Z9.out; have := Z10.out; have := Z11.out; have := Z12.out; have := Z13.out; have := Z14.out; have := Z15.out; have := Z16.out; have := Z7'.out; (try simp only); omega) (by have := Z1.out; have := Z2.out; have := Z3.out; have := Z4.out; have := Z5.out; have := Z6.out; have := Z7.out; have := Z8.out; have := Z9.out; have := Z10.out; have := Z11.out; have := Z12.out; have := Z13.out; have := Z14.out; have := Z15.out; have := Z16.out; have := Z7'.out; (try simp only); omega))).trans c7_15
  clear c7_15
  go_wp2_with fail
  refine (eqIntSS_any x9 x5 _ _ _ (T9_16.out.rows) (T5_16.out.rows)).mono ?_
  rintro e w17 ⟨rfl, d17⟩
  have KS17 : Hid (Keeps w16 w17) := d17.keeps
  clear d17
  have K17 : Hid (Keeps w w17) := Keeps.trans K16.out KS17.out
  have Z17 : Hid (w16.heap.size ≤ w17.heap.size) := KS17.out.size
  have T3_17 := Lib.hid (T3_16.out.keep KS17.out)
  clear T3_16
  have T4_17 := Lib.hid (T4_16.out.keep KS17.out)
  clear T4_16
  have T5_17 := Lib.hid (T5_16.out.keep KS17.out)
  clear T5_16
  have T6_17 := Lib.hid (T6_16.out.keep KS17.out)
  clear T6_16
  have T8_17 := Lib.hid (T8_16.out.keep KS17.out)
  clear T8_16
  have T9_17 := Lib.hid (T9_16.out.keep KS17.out)
  clear T9_16
  have T13_17 := Lib.hid (T13_16.out.keep KS17.out)
  clear T13_16
  have c0_17 := cell_keep KS17.out c0_16
  clear c0_16
  have c1_17 := cell_keep KS17.out c1_16
  clear c1_16
  have c2_17 := cell_keep KS17.out c2_16
  clear c2_16
  have c3_17 := cell_keep KS17.out c3_16
  clear c3_16
  have c4_17 := cell_keep KS17.out c4_16
  clear c4_16
  have c5_17 := cell_keep KS17.out c5_16
  clear c5_16
  have c6_17 := cell_keep KS17.out c6_16
  clear c6_16
  have c7_17 := cell_keep KS17.out c7_16
  clear c7_16
  go_wp2_with fail
  have CL18 := off_tot L
  refine (markIntSS_any w8.heap.size w9.heap.size x9 L 1 _ T9_17.out (by omega) (by omega)).mono ?_
  rintro e w18 ⟨rfl, o18, g18⟩
  have G18 : Hid (Chg w8.heap.size w9.heap.size w17 w18) := g18
  have T9_18 := Lib.hid o18
  clear o18 g18 T9_17
  have Z18 : Hid (w17.heap.size ≤ w18.heap.size) := G18.out.size
  have K18 : Hid (Keeps w w18) := G18.out.keeps K17.out (by have := Z1.out; have := Z2.out; have := Z3.out; have := Z4.out; have := Z5.out; have := Z6.out; have := Z7.out; have := Z8.out; have := Z9.out; have := Z10.out; have := Z11.out; have := Z12.out; have := Z13.out; have := Z14.out; have := Z15.out; have := Z16.out; have := Z17.out; have := Z18.out; omega)
  have T3_18 := Lib.hid (T3_17.out.chg G18.out (by have := Z1.out; have := Z2.out; have := Z3.out; have := Z4.out; have := Z5.out; have := Z6.out; have := Z7.out; have := Z8.out; have := Z9.out; have := Z10.out; have := Z11.out; have := Z12.out; have := Z13.out; have := Z14.out; have := Z15.out; have := Z16.out; have := Z17.out; have := Z18.out; omega))
  clear T3_17
  have T4_18 := Lib.hid (T4_17.out.chg G18.out (by have := Z1.out; have := Z2.out; have := Z3.out; have := Z4.out; have := Z5.out; have := Z6.out; have := Z7.out; have := Z8.out; have := Z9.out; have := Z10.out; have := Z11.out; have := Z12.out; have := Z13.out; have := Z14.out; have := Z15.out; have := Z16.out; have := Z17.out; have := Z18.out; omega))
  clear T4_17
  have T5_18 := Lib.hid (T5_17.out.chg G18.out (by have := Z1.out; have := Z2.out; have := Z3.out; have := Z4.out; have := Z5.out; have := Z6.out; have := Z7.out; have := Z8.out; have := Z9.out; have := Z10.out; have := Z11.out; have := Z12.out; have := Z13.out; have := Z14.out; have := Z15.out; have := Z16.out; have := Z17.out; have := Z18.out; omega))
  clear T5_17
  have T6_18 := Lib.hid (T6_17.out.chg G18.out (by have := Z1.out; have := Z2.out; have := Z3.out; have := Z4.out; have := Z5.out; have := Z6.out; have := Z7.out; have := Z8.out; have := Z9.out; have := Z10.out; have := Z11.out; have := Z12.out; have := Z13.out; have := Z14.out; have := Z15.out; have := Z16.out; have := Z17.out; have := Z18.out; omega))
  clear T6_17
  have T8_18 := Lib.hid (T8_17.out.chg G18.out (by have := Z1.out; have := Z2.out; have := Z3.out; have := Z4.out; have := Z5.out; have := Z6.out; have := Z7.out; have := Z8.out; have := Z9.out; have := Z10.out; have := Z11.out; have := Z12.out; have := Z13.out; have := Z14.out; have := Z15.out; have := Z16.out; have := Z17.out; have := Z18.out; omega))
  clear T8_17
  have T13_18 := Lib.hid (T13_17.out.chg G18.out (by have := Z1.out; have := Z2.out; have := Z3.out; have := Z4.out; have := Z5.out; have := Z6.out; have := Z7.out; have := Z8.out; have := Z9.out; have := Z10.out; have := Z11.out; have := Z12.out; have := Z13.out; have := Z14.out; have := Z15.out; have := Z16.out; have := Z17.out; have := Z18.out; omega))
  clear T13_17
  have c0_18 := (World.cell?_of_block (a := ⟨w.heap.size, 0, none⟩) (G18.out.block (w.heap.size) (by have := Z1.out; have := Z2.out; have := Z3.out; have := Z4.out; have := Z5.out; have := Z6.out; have := Z7.out; have := Z8.out; have := Z9.out; have := Z10.out; have := Z11.out; have := Z12.out; have := Z13.out; have := Z14.out; have := Z15.out; have := Z16.out; have := Z17.out; have := Z18.out; have := Z1'.out; (try simp only); omega) (by have := Z1.out; have := Z2.out; have := Z3.out; have := Z4.out; have := Z5.out; have := Z6.out; have := Z7.out; have := Z8.out; have := Z9.out; have := Z10.out; have := Z11.out; have := Z12.out; have := Z13.out; have := Z14.out; have := Z15.out; have := Z16.out; have := Z17.out; have := Z18.out; have := Z1'.out; (try simp only); omega))).trans c0_17
  clear c0_17
  have c1_18 := (World.cell?_of_block (a := ⟨w.heap.size, 1, none⟩) (G18.out.block (w.heap.size) (by have := Z1.out; have := Z2.out; have := Z3.out; have := Z4.out; have := Z5.out; have := Z6.out; have := Z7.out; have := Z8.out; have := Z9.out; have := Z10.out; have := Z11.out; have := Z12.out; have := Z13.out; have := Z14.out; have := Z15.out; have := Z16.out; have := Z17.out; have := Z18.out; have := Z1'.out; (try simp only); omega) (by have := Z1.out; have := Z2.out; have := Z3.out; have := Z4.out; have := Z5.out; have := Z6.out; have := Z7.out; have := Z8.out; have := Z9.out; have := Z10.out; have := Z11.out; have := Z12.out; have := Z13.out; have := Z14.out; have := Z15.out; have := Z16.out; have := Z17.out; have := Z18.out; have := Z1'.out; (try simp only); omega))).trans c1_17
  clear c1_17
  have c2_18 := (World.cell?_of_block (a := ⟨w.heap.size, 2, none⟩) (G18.out.block (w.heap.size) (by have := Z1.out; have := Z2.out; have := Z3.out; have := Z4.out; have := Z5.out; have := Z6.out; have := Z7.out; have := Z8.out; have := Z9.out; have := Z10.out; have := Z11.out; have := Z12.out; have := Z13.out; have := Z14.out; have := Z15.out; have := Z16.out; have := Z17.out; have := Z18.out; have := Z1'.out; (try simp only); omega) (by have := Z1.out; have := Z2.out; have := Z3.out; have := Z4.out; have := Z5.out; have := Z6.out; have := Z7.out; have := Z8.out; have := Z9.out; have := Z10.out; have := Z11.out; have := Z12.out; have := Z13.out; have := Z14.out; have := Z15.out; have := Z16.out; have := Z17.out; have := Z18.out; have := Z1'.out; (try simp only); omega))).trans c2_17
  clear c2_17
  have c3_18 := (World.cell?_of_block (a := ⟨w.heap.size, 3, none⟩) (G18.out.block (w.heap.size) (by have := Z1.out; have := Z2.out; have := Z3.out; have := Z4.out; have := Z5.out; have := Z6.out; have := Z7.out; have := Z8.out; have := Z9.out; have := Z10.out; have := Z11.out; have := Z12.out; have := Z13.out; have := Z14.out; have := Z15.out; have := Z16.out; have := Z17.out; have := Z18.out; have := Z1'.out; (try simp only); omega) (by have := Z1.out; have := Z2.out; have := Z3.out; have := Z4.out; have := Z5.out; have := Z6.out; have := Z7.out; have := Z8.out; have := Z9.out; have := Z10.out; have := Z11.out; have := Z12.out; have := Z13.out; have := Z14.out; have := Z15.out; have := Z16.out; have := Z17.out; have := Z18.out; have := Z1'.out; (try simp only); omega))).trans c3_17
  clear c3_17
  have c4_18 := (World.cell?_of_block (a := ⟨w6.heap.size, 0, none⟩) (G18.out.block (w6.heap.size) (by have := Z1.out; have := Z2.out; have := Z3.out; have := Z4.out; have := Z5.out; have := Z6.out; have := Z7.out; have := Z8.out; have := Z9.out; have := Z10.out; have := Z11.out; have := Z12.out; have := Z13.out; have := Z14.out; have := Z15.out; have := Z16.out; have := Z17.out; have := Z18.out; have := Z7'.out; (try simp only); omega) (by have := Z1.out; have := Z2.out; have := Z3.out; have := Z4.out; have := Z5.out; have := Z6.out; have := Z7.out; have := Z8.out; have := Z9.out; have := Z10.out; have := Z11.out; have := Z12.out; have := Z13.out; have := Z14.out; have := Z15.out; have := Z16.out; have := Z17.out; have := Z18.out; have := Z7'.out; (try simp only); omega))).trans c4_17
  clear c4_17
  have c5_18 := (World.cell?_of_block (a := ⟨w6.heap.size, 1, none⟩) (G18.out.block (w6.heap.size) (by have := Z1.out; have := Z2.out; have := Z3.out; have := Z4.out; have := Z5.out; have := Z6.out; have := Z7.out; have := Z8.out; have := Z9.out; have := Z10.out; have := Z11.out; have := Z12.out; have := Z13.out; have := Z14.out; have := Z15.out; have := Z16.out; have := Z17.out; have := Z18.out; have := Z7'.out; (try simp only); omega) (by have := Z1.out; have := Z2.out; have := Z3.out; have := Z4.out; have := Z5.out; have := Z6.out; have := Z7.out; have := Z8.out; have := Z9.out; have := Z10.out; have := Z11.out; have := Z12.out; have := Z13.out; have := Z14.out; have := Z15.out; have := Z16.out; have := Z17.out; have := Z18.out; have := Z7'.out; (try simp only); omega))).trans c5_17
  clear c5_17
  have c6_18 := (World.cell?_of_block (a := ⟨w6.heap.size, 2, none⟩) (G18.out.block (w6.heap.size) (by have := Z1.out; have := Z2.out; have := Z3.out; have := Z4.out; have := Z5.out; have := Z6.out; have := Z7.out; have := Z8.out; have := Z9.out; have := Z10.out; have := Z11.out; have := Z12.out; have := Z13.out; have := Z14.out; have := Z15.out; have := Z16.out; have := Z17.out; have := Z18.out; have := Z7'.out; (try simp only); omega) (by have := Z1.out; have := Z2.out; have := Z3.out; have := Z4.out; have := Z5.out; have := Z6.out; have := Z7.out; have := Z8.out; have := Z9.out; have := Z10.out; have := Z11.out; have := Z12.out; have := Z13.out; have := Z14.out; have := Z15.out; have := Z16.out; have := Z17.out; have := Z18.out; have := Z7'.out; (try simp only); omega))).trans c6_17
  clear c6_17
  have c7_18 := (World.cell?_of_block (a := ⟨w6.heap.size, 3, none⟩) (G18.out.block (w6.heap.size) (by have := Z1.out; have := Z2.out; have := Z3.out; have := Z4.out; have := Z5.out; have := Z6.out; have := Z7.out; have := Z8.out; have := Z9.out; have := Z10.out; have := Z11.out; have := Z12.out; have := Z13.out; have := Z14.out; have := Z15.out; have := Z16.out; have := Z17.out; have := Z18.out; have := Z7'.out; (try simp only); omega) (by have := Z1.out; have := Z2.out; have := Z3.out; have := Z4.out; have := Z5.out; have := Z6.out; have := Z7.out; have := Z8.out; have := Z9.out; have := Z10.out; have := Z11.out; have := Z12.out; have := Z13.out; have := Z14.out; have := Z15.out; have := Z16.out; have := Z17.out; have := Z18.out; have := Z7'.out; (try simp only); omega))).trans c7_17
  clear c7_17
  go_wp2_with fail
  refine (heldIntSS_kp _ L 1 _ (T9_18.out.rows) (by omega) (by omega)).mono ?_
  rintro e w19 ⟨rfl, k19⟩
  have KS19 : Hid (Keeps w18 w19) := k19
  clear k19
  have K19 : Hid (Keeps w w19) := Keeps.trans K18.out KS19.out
  have Z19 : Hid (w18.heap.size ≤ w19.heap.size) := KS19.out.size
  have T3_19 := Lib.hid (T3_18.out.keep KS19.out)
  clear T3_18
  have T4_19 := Lib.hid (T4_18.out.keep KS19.out)
  clear T4_18
  have T5_19 := Lib.hid (T5_18.out.keep KS19.out)
  clear T5_18
  have T6_19 := Lib.hid (T6_18.out.keep KS19.out)
  clear T6_18
  have T8_19 := Lib.hid (T8_18.out.keep KS19.out)
  clear T8_18
  have T9_19 := Lib.hid (T9_18.out.keep KS19.out)
  clear T9_18
  have T13_19 := Lib.hid (T13_18.out.keep KS19.out)
  clear T13_18
  have c0_19 := cell_keep KS19.out c0_18
  clear c0_18
  have c1_19 := cell_keep KS19.out c1_18
  clear c1_18
  have c2_19 := cell_keep KS19.out c2_18
  clear c2_18
  have c3_19 := cell_keep KS19.out c3_18
  clear c3_18
  have c4_19 := cell_keep KS19.out c4_18
  clear c4_18
  have c5_19 := cell_keep KS19.out c5_18
  clear c5_18
  have c6_19 := cell_keep KS19.out c6_18
  clear c6_18
  have c7_19 := cell_keep KS19.out c7_18
  clear c7_18
  go_wp2_with fail
  refine (toProblem_any _ l0 _ (R0.out.keep K19.out) s0).mono ?_
  rintro e w20 ⟨t20, rfl, o20, k20⟩
  obtain ⟨t20a2, t20c2, t20a3, t20c3, rfl⟩ := o20.rd.shape
  have T20 := Lib.hid o20
  clear o20
  have KS20 : Hid (Keeps w19 w20) := k20
  clear k20
  have K20 : Hid (Keeps w w20) := Keeps.trans K19.out KS20.out
  have Z20 : Hid (w19.heap.size ≤ w20.heap.size) := KS20.out.size
  have T3_20 := Lib.hid (T3_19.out.keep KS20.out)
  clear T3_19
  have T4_20 := Lib.hid (T4_19.out.keep KS20.out)
  clear T4_19
  have T5_20 := Lib.hid (T5_19.out.keep KS20.out)
  clear T5_19
  have T6_20 := Lib.hid (T6_19.out.keep KS20.out)
  clear T6_19
  have T8_20 := Lib.hid (T8_19.out.keep KS20.out)
  clear T8_19
  have T9_20 := Lib.hid (T9_19.out.keep KS20.out)
  clear T9_19
  have T13_20 := Lib.hid (T13_19.out.keep KS20.out)
  clear T13_19
  have c0_20 := cell_keep KS20.out c0_19
  clear c0_19
  have c1_20 := cell_keep KS20.out c1_19
  clear c1_19
  have c2_20 := cell_keep KS20.out c2_19
  clear c2_19
  have c3_20 := cell_keep KS20.out c3_19
  clear c3_19
  have c4_20 := cell_keep KS20.out c4_19
  clear c4_19
  have c5_20 := cell_keep KS20.out c5_19
  clear c5_19
  have c6_20 := cell_keep KS20.out c6_19
  clear c6_19
  have c7_20 := cell_keep KS20.out c7_19
  clear c7_19
  go_wp2_with fail
  refine (toIntS_any _ l1 _ (R1.out.keep K20.out) s1).mono ?_
  rintro e w21 ⟨t21, rfl, o21, k21⟩
  have T21 := Lib.hid o21.owI
  clear o21
  have KS21 : Hid (Keeps w20 w21) := k21
  clear k21
  have K21 : Hid (Keeps w w21) := Keeps.trans K20.out KS21.out
  have Z21 : Hid (w20.heap.size ≤ w21.heap.size) := KS21.out.size
  have T3_21 := Lib.hid (T3_20.out.keep KS21.out)
  clear T3_20
  have T4_21 := Lib.hid (T4_20.out.keep KS21.out)
  clear T4_20
  have T5_21 := Lib.hid (T5_20.out.keep KS21.out)
  clear T5_20
  have T6_21 := Lib.hid (T6_20.out.keep KS21.out)
  clear T6_20
  have T8_21 := Lib.hid (T8_20.out.keep KS21.out)
  clear T8_20
  have T9_21 := Lib.hid (T9_20.out.keep KS21.out)
  clear T9_20
  have T13_21 := Lib.hid (T13_20.out.keep KS21.out)
  clear T13_20
  have T20_21 := Lib.hid (T20.out.keep KS21.out)
  clear T20
  have c0_21 := cell_keep KS21.out c0_20
  clear c0_20
  have c1_21 := cell_keep KS21.out c1_20
  clear c1_20
  have c2_21 := cell_keep KS21.out c2_20
  clear c2_20
  have c3_21 := cell_keep KS21.out c3_20
  clear c3_20
  have c4_21 := cell_keep KS21.out c4_20
  clear c4_20
  have c5_21 := cell_keep KS21.out c5_20
  clear c5_20
  have c6_21 := cell_keep KS21.out c6_20
  clear c6_20
  have c7_21 := cell_keep KS21.out c7_20
  clear c7_20
  go_wp2_with fail
  refine (implFittingNodes_any (.agg #[.int .i64 l0.labels, .int .i64 l0.degree, .slice t20a2 l0.nodes.length t20c2, .slice t20a3 l0.edges.length t20c3]) l0 t21 l1 _ (T20_21.out.rd) IL0.out s0 (T21.out.ints) IL1.out s1).mono ?_
  rw [HE.out]
  rintro e w22 ⟨x22, rfl, o22, b22, k22⟩
  rw [HL.out] at o22
  have T22 := Lib.hid o22
  clear o22 b22
  have KS22 : Hid (Keeps w21 w22) := k22
  clear k22
  have K22 : Hid (Keeps w w22) := Keeps.trans K21.out KS22.out
  have Z22 : Hid (w21.heap.size ≤ w22.heap.size) := KS22.out.size
  have T3_22 := Lib.hid (T3_21.out.keep KS22.out)
  clear T3_21
  have T4_22 := Lib.hid (T4_21.out.keep KS22.out)
  clear T4_21
  have T5_22 := Lib.hid (T5_21.out.keep KS22.out)
  clear T5_21
  have T6_22 := Lib.hid (T6_21.out.keep KS22.out)
  clear T6_21
  have T8_22 := Lib.hid (T8_21.out.keep KS22.out)
  clear T8_21
  have T9_22 := Lib.hid (T9_21.out.keep KS22.out)
  clear T9_21
  have T13_22 := Lib.hid (T13_21.out.keep KS22.out)
  clear T13_21
  have T20_22 := Lib.hid (T20_21.out.keep KS22.out)
  clear T20_21
  have T21_22 := Lib.hid (T21.out.keep KS22.out)
  clear T21
  have c0_22 := cell_keep KS22.out c0_21
  clear c0_21
  have c1_22 := cell_keep KS22.out c1_21
  clear c1_21
  have c2_22 := cell_keep KS22.out c2_21
  clear c2_21
  have c3_22 := cell_keep KS22.out c3_21
  clear c3_21
  have c4_22 := cell_keep KS22.out c4_21
  clear c4_21
  have c5_22 := cell_keep KS22.out c5_21
  clear c5_21
  have c6_22 := cell_keep KS22.out c6_21
  clear c6_21
  have c7_22 := cell_keep KS22.out c7_21
  clear c7_21
  go_wp2_with fail
  refine (eqIntSS_any x22 x5 _ _ _ (T22.out.rows) (T5_22.out.rows)).mono ?_
  rintro e w23 ⟨rfl, d23⟩
  have KS23 : Hid (Keeps w22 w23) := d23.keeps
  clear d23
  have K23 : Hid (Keeps w w23) := Keeps.trans K22.out KS23.out
  have Z23 : Hid (w22.heap.size ≤ w23.heap.size) := KS23.out.size
  have T3_23 := Lib.hid (T3_22.out.keep KS23.out)
  clear T3_22
  have T4_23 := Lib.hid (T4_22.out.keep KS23.out)
  clear T4_22
  have T5_23 := Lib.hid (T5_22.out.keep KS23.out)
  clear T5_22
  have T6_23 := Lib.hid (T6_22.out.keep KS23.out)
  clear T6_22
  have T8_23 := Lib.hid (T8_22.out.keep KS23.out)
  clear T8_22
  have T9_23 := Lib.hid (T9_22.out.keep KS23.out)
  clear T9_22
  have T13_23 := Lib.hid (T13_22.out.keep KS23.out)
  clear T13_22
  have T20_23 := Lib.hid (T20_22.out.keep KS23.out)
  clear T20_22
  have T21_23 := Lib.hid (T21_22.out.keep KS23.out)
  clear T21_22
  have T22_23 := Lib.hid (T22.out.keep KS23.out)
  clear T22
  have c0_23 := cell_keep KS23.out c0_22
  clear c0_22
  have c1_23 := cell_keep KS23.out c1_22
  clear c1_22
  have c2_23 := cell_keep KS23.out c2_22
  clear c2_22
  have c3_23 := cell_keep KS23.out c3_22
  clear c3_22
  have c4_23 := cell_keep KS23.out c4_22
  clear c4_22
  have c5_23 := cell_keep KS23.out c5_22
  clear c5_22
  have c6_23 := cell_keep KS23.out c6_22
  clear c6_22
  have c7_23 := cell_keep KS23.out c7_22
  clear c7_22
  go_wp2_with fail
  refine (heldIntSS_kp _ L 1 _ (T9_23.out.rows) (by omega) (by omega)).mono ?_
  rintro e w24 ⟨rfl, k24⟩
  have KS24 : Hid (Keeps w23 w24) := k24
  clear k24
  have K24 : Hid (Keeps w w24) := Keeps.trans K23.out KS24.out
  have Z24 : Hid (w23.heap.size ≤ w24.heap.size) := KS24.out.size
  have T3_24 := Lib.hid (T3_23.out.keep KS24.out)
  clear T3_23
  have T4_24 := Lib.hid (T4_23.out.keep KS24.out)
  clear T4_23
  have T5_24 := Lib.hid (T5_23.out.keep KS24.out)
  clear T5_23
  have T6_24 := Lib.hid (T6_23.out.keep KS24.out)
  clear T6_23
  have T8_24 := Lib.hid (T8_23.out.keep KS24.out)
  clear T8_23
  have T9_24 := Lib.hid (T9_23.out.keep KS24.out)
  clear T9_23
  have T13_24 := Lib.hid (T13_23.out.keep KS24.out)
  clear T13_23
  have T20_24 := Lib.hid (T20_23.out.keep KS24.out)
  clear T20_23
  have T21_24 := Lib.hid (T21_23.out.keep KS24.out)
  clear T21_23
  have T22_24 := Lib.hid (T22_23.out.keep KS24.out)
  clear T22_23
  have c0_24 := cell_keep KS24.out c0_23
  clear c0_23
  have c1_24 := cell_keep KS24.out c1_23
  clear c1_23
  have c2_24 := cell_keep KS24.out c2_23
  clear c2_23
  have c3_24 := cell_keep KS24.out c3_23
  clear c3_23
  have c4_24 := cell_keep KS24.out c4_23
  clear c4_23
  have c5_24 := cell_keep KS24.out c5_23
  clear c5_23
  have c6_24 := cell_keep KS24.out c6_23
  clear c6_23
  have c7_24 := cell_keep KS24.out c7_23
  clear c7_23
  go_wp2_with fail
  go_ret
  exact ⟨rfl, K24.out⟩

set_option maxHeartbeats 1600000 in
theorem lawFittingNodes (v0 : Value) (l0 : PR) (v1 : Value) (l1 : List Int) (w : World) (r0 : RdP w v0 l0) (il0 : okP l0) (r1 : Ints w v1 l1) (il1 : ∀ n ∈ l1, I64 n) : Calls Try.prog 5 #[v0, v1] w fun e w' => e = .returned (.bool true) ∧ Below w.heap.size w w' := by
  by_cases s1 : l1.length ≤ 1048576
  case neg =>
    have R0 := Lib.hid r0
    obtain ⟨p0a2, p0c2, p0a3, p0c3, rfl⟩ := r0.shape
    have R1 := Lib.hid r1
    obtain ⟨ad1, cp1, rfl, _⟩ := r1.form
    clear r0 il0 r1 il1
    have hgt : (1048576 : Int) < (l1.length : Int) := by omega
    go_enter Try.func5, Try.ntmps5
    go_wp2
    go_ret
    exact ⟨rfl, (by repeat (first | exact Keeps.refl _ | with_reducible refine Keeps.alloc ?_ _))⟩
  by_cases q0 : szP l0 ≤ 1048576
  case neg =>
    have R0 := Lib.hid r0
    obtain ⟨p0a2, p0c2, p0a3, p0c3, rfl⟩ := r0.shape
    have R1 := Lib.hid r1
    obtain ⟨ad1, cp1, rfl, _⟩ := r1.form
    clear r0 il0 r1 il1
    have hle1 : ¬ (1048576 : Int) < (l1.length : Int) := by omega
    go_enter Try.func5, Try.ntmps5
    go_wp2_with fail
    refine (szProblem_any _ l0 (1048576) _ (R0.out.keep (by repeat (first | exact Keeps.refl _ | with_reducible refine Keeps.alloc ?_ _))) (by omega) (by omega)).mono ?_
    rintro e W0 ⟨rfl, k0⟩
    rw [szL, if_neg (by omega)]
    have KK0 : Hid (Keeps w W0) := Keeps.trans (by repeat (first | exact Keeps.refl _ | with_reducible refine Keeps.alloc ?_ _)) k0
    obtain ⟨hc0, hf0⟩ := bcell k0
    have hz0 := k0.size
    clear k0
    go_wp2
    go_ret
    exact ⟨rfl, KK0.out⟩
  exact lawFittingNodes_small v0 l0 r0 il0 v1 l1 r1 il1 (by omega) s1
end Go.Proofs.Ytiejigogmnkjdaa
