/- The walk of laws.FnExactIsConfigMap: it returns true at every input and changes nothing that was there. -/
import Derived.Test.YtiejigogmnkjdaaCm
import Derived.Test.YtiejigogmnkjdaaRk
import Derived.Test.YtiejigogmnkjdaaOpen
import Derived.Deep.RegionHeld3
namespace Go.Proofs.Ytiejigogmnkjdaa
open Go.RowKit
set_option linter.unusedSimpArgs false
set_option linter.unusedVariables false

set_option maxRecDepth 100000 in
set_option maxHeartbeats 8000000 in
theorem lawIsConfigMap_small {w : World} (v0 : Value) (l0 : PR) (r0 : RdP w v0 l0) (il0 : okP l0) (v1 : Value) (l1 : PR) (r1 : RdP w v1 l1) (il1 : okP l1) (v2 : Value) (l2 : List (List Int)) (r2 : IntRows w v2 l2) (il2 : ∀ r ∈ l2, ∀ n ∈ r, I64 n) (s0 : szP l0 ≤ 1048576) (s1 : szP l1 ≤ 1048576) (s2 : tot l2 ≤ 1048576) (stot : szP l0 + szP l1 + tot l2 ≤ 1048576) : Calls Try.prog 7 #[v0, v1, v2] w fun e w' => e = .returned (.bool true) ∧ Below w.heap.size w w' := by
  have HE := Lib.hid (IsConfigMap_eq l0 l1 l2 il0 s0 il1 s1 il2 s2)
  have R0 := Lib.hid r0
  have IL0 := Lib.hid il0
  obtain ⟨p0a2, p0c2, p0a3, p0c3, rfl⟩ := r0.shape
  clear r0 il0
  have R1 := Lib.hid r1
  have IL1 := Lib.hid il1
  obtain ⟨p1a2, p1c2, p1a3, p1c3, rfl⟩ := r1.shape
  clear r1 il1
  have R2 := Lib.hid r2
  have IL2 := Lib.hid il2
  obtain ⟨ad2, cp2, rfl, _⟩ := r2.form
  clear r2 il2
  have K0 : Hid (Keeps w w) := Keeps.refl w
  go_enter Try.func7, Try.ntmps7
  go_wp2_with fail
  have KS1 : Hid (Keeps w (w.alloc (.cells #[.int .i64 l0.labels, .int .i64 l0.degree, .slice p0a2 l0.nodes.length p0c2, .slice p0a3 l0.edges.length p0c3] 24))) := (Keeps.refl _).alloc _
  have Z1' : Hid (w.heap.size + 1 ≤ (w.alloc (.cells #[.int .i64 l0.labels, .int .i64 l0.degree, .slice p0a2 l0.nodes.length p0c2, .slice p0a3 l0.edges.length p0c3] 24)).heap.size) := by show _ ≤ _; simp
  have E1 : (w.alloc (.cells #[.int .i64 l0.labels, .int .i64 l0.degree, .slice p0a2 l0.nodes.length p0c2, .slice p0a3 l0.edges.length p0c3] 24)).heap.size = w.heap.size + 1 := by rw [World.size_alloc]
  have c0_1 : (w.alloc (.cells #[.int .i64 l0.labels, .int .i64 l0.degree, .slice p0a2 l0.nodes.length p0c2, .slice p0a3 l0.edges.length p0c3] 24)).cell? ⟨w.heap.size, 0, none⟩ = some (.int .i64 l0.labels) := by rw [World.cell?_alloc_at _ _ _ _ rfl]; rfl
  have c1_1 : (w.alloc (.cells #[.int .i64 l0.labels, .int .i64 l0.degree, .slice p0a2 l0.nodes.length p0c2, .slice p0a3 l0.edges.length p0c3] 24)).cell? ⟨w.heap.size, 1, none⟩ = some (.int .i64 l0.degree) := by rw [World.cell?_alloc_at _ _ _ _ rfl]; rfl
  have c2_1 : (w.alloc (.cells #[.int .i64 l0.labels, .int .i64 l0.degree, .slice p0a2 l0.nodes.length p0c2, .slice p0a3 l0.edges.length p0c3] 24)).cell? ⟨w.heap.size, 2, none⟩ = some (.slice p0a2 l0.nodes.length p0c2) := by rw [World.cell?_alloc_at _ _ _ _ rfl]; rfl
  have c3_1 : (w.alloc (.cells #[.int .i64 l0.labels, .int .i64 l0.degree, .slice p0a2 l0.nodes.length p0c2, .slice p0a3 l0.edges.length p0c3] 24)).cell? ⟨w.heap.size, 3, none⟩ = some (.slice p0a3 l0.edges.length p0c3) := by rw [World.cell?_alloc_at _ _ _ _ rfl]; rfl
  generalize w.alloc (.cells #[.int .i64 l0.labels, .int .i64 l0.degree, .slice p0a2 l0.nodes.length p0c2, .slice p0a3 l0.edges.length p0c3] 24) = w1 at KS1 Z1' E1 c0_1 c1_1 c2_1 c3_1 ⊢
  have K1 : Hid (Keeps w w1) := Keeps.trans K0.out KS1.out
  have Z1 : Hid (w.heap.size ≤ w1.heap.size) := KS1.out.size
  have KS2 : Hid (Keeps w1 (w1.alloc (.cells #[.int .i64 l1.labels, .int .i64 l1.degree, .slice p1a2 l1.nodes.length p1c2, .slice p1a3 l1.edges.length p1c3] 24))) := (Keeps.refl _).alloc _
  have Z2' : Hid (w.heap.size + 1 + 1 ≤ (w1.alloc (.cells #[.int .i64 l1.labels, .int .i64 l1.degree, .slice p1a2 l1.nodes.length p1c2, .slice p1a3 l1.edges.length p1c3] 24)).heap.size) := by show _ ≤ _; simp; omega
  have E2 : (w1.alloc (.cells #[.int .i64 l1.labels, .int .i64 l1.degree, .slice p1a2 l1.nodes.length p1c2, .slice p1a3 l1.edges.length p1c3] 24)).heap.size = w.heap.size + 1 + 1 := by rw [World.size_alloc]; omega
  have c4_2 : (w1.alloc (.cells #[.int .i64 l1.labels, .int .i64 l1.degree, .slice p1a2 l1.nodes.length p1c2, .slice p1a3 l1.edges.length p1c3] 24)).cell? ⟨w.heap.size + 1, 0, none⟩ = some (.int .i64 l1.labels) := by rw [World.cell?_alloc_at _ _ _ _ (by omega)]; rfl
  have c5_2 : (w1.alloc (.cells #[.int .i64 l1.labels, .int .i64 l1.degree, .slice p1a2 l1.nodes.length p1c2, .slice p1a3 l1.edges.length p1c3] 24)).cell? ⟨w.heap.size + 1, 1, none⟩ = some (.int .i64 l1.degree) := by rw [World.cell?_alloc_at _ _ _ _ (by omega)]; rfl
  have c6_2 : (w1.alloc (.cells #[.int .i64 l1.labels, .int .i64 l1.degree, .slice p1a2 l1.nodes.length p1c2, .slice p1a3 l1.edges.length p1c3] 24)).cell? ⟨w.heap.size + 1, 2, none⟩ = some (.slice p1a2 l1.nodes.length p1c2) := by rw [World.cell?_alloc_at _ _ _ _ (by omega)]; rfl
  have c7_2 : (w1.alloc (.cells #[.int .i64 l1.labels, .int .i64 l1.degree, .slice p1a2 l1.nodes.length p1c2, .slice p1a3 l1.edges.length p1c3] 24)).cell? ⟨w.heap.size + 1, 3, none⟩ = some (.slice p1a3 l1.edges.length p1c3) := by rw [World.cell?_alloc_at _ _ _ _ (by omega)]; rfl
  generalize w1.alloc (.cells #[.int .i64 l1.labels, .int .i64 l1.degree, .slice p1a2 l1.nodes.length p1c2, .slice p1a3 l1.edges.length p1c3] 24) = w2 at KS2 Z2' E2 c4_2 c5_2 c6_2 c7_2 ⊢
  have K2 : Hid (Keeps w w2) := Keeps.trans K1.out KS2.out
  have Z2 : Hid (w1.heap.size ≤ w2.heap.size) := KS2.out.size
  have c0_2 := cell_keep KS2.out c0_1
  clear c0_1
  have c1_2 := cell_keep KS2.out c1_1
  clear c1_1
  have c2_2 := cell_keep KS2.out c2_1
  clear c2_1
  have c3_2 := cell_keep KS2.out c3_1
  clear c3_1
  clear E1 E2
  refine (szProblem_any _ l0 1048576 _ (R0.out.keep K2.out) (by omega) (by omega)).mono ?_
  rintro e w3 ⟨rfl, k3⟩
  rw [szL, if_pos (by omega)]
  have KS3 : Hid (Keeps w2 w3) := k3
  clear k3
  have K3 : Hid (Keeps w w3) := Keeps.trans K2.out KS3.out
  have Z3 : Hid (w2.heap.size ≤ w3.heap.size) := KS3.out.size
  have c0_3 := cell_keep KS3.out c0_2
  clear c0_2
  have c1_3 := cell_keep KS3.out c1_2
  clear c1_2
  have c2_3 := cell_keep KS3.out c2_2
  clear c2_2
  have c3_3 := cell_keep KS3.out c3_2
  clear c3_2
  have c4_3 := cell_keep KS3.out c4_2
  clear c4_2
  have c5_3 := cell_keep KS3.out c5_2
  clear c5_2
  have c6_3 := cell_keep KS3.out c6_2
  clear c6_2
  have c7_3 := cell_keep KS3.out c7_2
  clear c7_2
  go_wp2_with fail
  refine (szProblem_any _ l1 (1048576 - (szP l0 : Nat)) _ (R1.out.keep K3.out) (by omega) (by omega)).mono ?_
  rintro e w4 ⟨rfl, k4⟩
  rw [szL, if_pos (by omega)]
  have KS4 : Hid (Keeps w3 w4) := k4
  clear k4
  have K4 : Hid (Keeps w w4) := Keeps.trans K3.out KS4.out
  have Z4 : Hid (w3.heap.size ≤ w4.heap.size) := KS4.out.size
  have c0_4 := cell_keep KS4.out c0_3
  clear c0_3
  have c1_4 := cell_keep KS4.out c1_3
  clear c1_3
  have c2_4 := cell_keep KS4.out c2_3
  clear c2_3
  have c3_4 := cell_keep KS4.out c3_3
  clear c3_3
  have c4_4 := cell_keep KS4.out c4_3
  clear c4_3
  have c5_4 := cell_keep KS4.out c5_3
  clear c5_3
  have c6_4 := cell_keep KS4.out c6_3
  clear c6_3
  have c7_4 := cell_keep KS4.out c7_3
  clear c7_3
  go_wp2_with fail
  refine (szIntSS_kp _ l2 (1048576 - (szP l0 : Nat) - (szP l1 : Nat)) _ (R2.out.keep K4.out) (by omega) (by omega)).mono ?_
  rintro e w5 ⟨rfl, k5⟩
  rw [szL, if_pos (by omega)]
  have KS5 : Hid (Keeps w4 w5) := k5
  clear k5
  have K5 : Hid (Keeps w w5) := Keeps.trans K4.out KS5.out
  have Z5 : Hid (w4.heap.size ≤ w5.heap.size) := KS5.out.size
  have c0_5 := cell_keep KS5.out c0_4
  clear c0_4
  have c1_5 := cell_keep KS5.out c1_4
  clear c1_4
  have c2_5 := cell_keep KS5.out c2_4
  clear c2_4
  have c3_5 := cell_keep KS5.out c3_4
  clear c3_4
  have c4_5 := cell_keep KS5.out c4_4
  clear c4_4
  have c5_5 := cell_keep KS5.out c5_4
  clear c5_4
  have c6_5 := cell_keep KS5.out c6_4
  clear c6_4
  have c7_5 := cell_keep KS5.out c7_4
  clear c7_4
  go_wp2_with fail
  have SK : Hid (∀ W : World, Keeps w5 W → W.cell? ⟨w.heap.size, 0, none⟩ = some (.int .i64 l0.labels) ∧ W.cell? ⟨w.heap.size, 1, none⟩ = some (.int .i64 l0.degree) ∧ W.cell? ⟨w.heap.size, 2, none⟩ = some (.slice p0a2 l0.nodes.length p0c2) ∧ W.cell? ⟨w.heap.size, 3, none⟩ = some (.slice p0a3 l0.edges.length p0c3) ∧ W.cell? ⟨w.heap.size + 1, 0, none⟩ = some (.int .i64 l1.labels) ∧ W.cell? ⟨w.heap.size + 1, 1, none⟩ = some (.int .i64 l1.degree) ∧ W.cell? ⟨w.heap.size + 1, 2, none⟩ = some (.slice p1a2 l1.nodes.length p1c2) ∧ W.cell? ⟨w.heap.size + 1, 3, none⟩ = some (.slice p1a3 l1.edges.length p1c3)) := fun W k => ⟨cell_keep k c0_5, cell_keep k c1_5, cell_keep k c2_5, cell_keep k c3_5, cell_keep k c4_5, cell_keep k c5_5, cell_keep k c6_5, cell_keep k c7_5⟩
  have KD : Hid (Keeps w5 w5.drew) := (Keeps.refl _).drew
  go_region_held3 (fun W => W.cell? ⟨w.heap.size, 0, none⟩ = some (.int .i64 l0.labels) ∧ W.cell? ⟨w.heap.size, 1, none⟩ = some (.int .i64 l0.degree) ∧ W.cell? ⟨w.heap.size, 2, none⟩ = some (.slice p0a2 l0.nodes.length p0c2) ∧ W.cell? ⟨w.heap.size, 3, none⟩ = some (.slice p0a3 l0.edges.length p0c3) ∧ W.cell? ⟨w.heap.size + 1, 0, none⟩ = some (.int .i64 l1.labels) ∧ W.cell? ⟨w.heap.size + 1, 1, none⟩ = some (.int .i64 l1.degree) ∧ W.cell? ⟨w.heap.size + 1, 2, none⟩ = some (.slice p1a2 l1.nodes.length p1c2) ∧ W.cell? ⟨w.heap.size + 1, 3, none⟩ = some (.slice p1a3 l1.edges.length p1c3)) (first | exact SK.out _ KD.out | exact SK.out _ (Keeps.trans KD.out KS6'.out) | exact SK.out _ (Keeps.trans KD.out (Keeps.trans KS6'.out KS7.out)) | exact SK.out _ (Keeps.trans KD.out (Keeps.trans KS6'.out (Keeps.trans KS7.out KS8.out))) | exact SK.out _ (Keeps.trans KD.out (Keeps.trans KS6'.out (Keeps.trans KS7.out (Keeps.trans KS8.out KS9.out)))))
    ((first
      | (go_at_call 17; with_reducible refine (toProblem_any _ l0 _ (R0.out.keep (Keeps.trans K5.out KD.out)) s0).mono ?_; rintro e w6 ⟨tt, rfl, o6, k6⟩; obtain ⟨t6a2, t6c2, t6a3, t6c3, rfl⟩ := o6.rd.shape; have T6 := Lib.hid o6; have KS6' := Lib.hid k6; clear o6 k6)
      | (go_at_call 17; with_reducible refine (toProblem_any _ l1 _ (R1.out.keep (Keeps.trans K5.out (Keeps.trans KD.out KS6'.out))) s1).mono ?_; rintro e w7 ⟨tt, rfl, o7, k7⟩; obtain ⟨t7a2, t7c2, t7a3, t7c3, rfl⟩ := o7.rd.shape; have T7 := Lib.hid o7; have KS7 := Lib.hid k7; clear o7 k7)
      | (go_at_call 40; refine (toIntSS_any _ l2 _ (R2.out.keep (Keeps.trans K5.out (Keeps.trans KD.out (Keeps.trans KS6'.out KS7.out)))) s2).mono ?_; rintro e w8 ⟨t8, rfl, o8, k8⟩; have T8 := Lib.hid o8; have KS8 := Lib.hid k8; clear o8 k8)
      | (go_at_call 39; refine (specIsConfigMap_any (.agg #[.int .i64 l0.labels, .int .i64 l0.degree, .slice t6a2 l0.nodes.length t6c2, .slice t6a3 l0.edges.length t6c3]) l0 (.agg #[.int .i64 l1.labels, .int .i64 l1.degree, .slice t7a2 l1.nodes.length t7c2, .slice t7a3 l1.edges.length t7c3]) l1 t8 l2 _ ((T6.out.keep (Keeps.trans KS7.out KS8.out)).rd) IL0.out s0 ((T7.out.keep KS8.out).rd) IL1.out s1 (T8.out.rows) IL2.out s2).mono ?_; rintro e w9 ⟨rfl, k9⟩; have KS9 := Lib.hid k9; clear k9)))
  have KS6 : Hid (Keeps w5 w6) := Keeps.trans KD.out KS6'.out
  have K6 : Hid (Keeps w w6) := Keeps.trans K5.out KS6.out
  have Z6 : Hid (w5.heap.size ≤ w6.heap.size) := KS6.out.size
  have c0_6 := cell_keep KS6.out c0_5
  clear c0_5
  have c1_6 := cell_keep KS6.out c1_5
  clear c1_5
  have c2_6 := cell_keep KS6.out c2_5
  clear c2_5
  have c3_6 := cell_keep KS6.out c3_5
  clear c3_5
  have c4_6 := cell_keep KS6.out c4_5
  clear c4_5
  have c5_6 := cell_keep KS6.out c5_5
  clear c5_5
  have c6_6 := cell_keep KS6.out c6_5
  clear c6_5
  have c7_6 := cell_keep KS6.out c7_5
  clear c7_5
  have K7 : Hid (Keeps w w7) := Keeps.trans K6.out KS7.out
  have Z7 : Hid (w6.heap.size ≤ w7.heap.size) := KS7.out.size
  have T6_7 := Lib.hid (T6.out.keep KS7.out)
  clear T6
  have c0_7 := cell_keep KS7.out c0_6
  clear c0_6
  have c1_7 := cell_keep KS7.out c1_6
  clear c1_6
  have c2_7 := cell_keep KS7.out c2_6
  clear c2_6
  have c3_7 := cell_keep KS7.out c3_6
  clear c3_6
  have c4_7 := cell_keep KS7.out c4_6
  clear c4_6
  have c5_7 := cell_keep KS7.out c5_6
  clear c5_6
  have c6_7 := cell_keep KS7.out c6_6
  clear c6_6
  have c7_7 := cell_keep KS7.out c7_6
  clear c7_6
  have K8 : Hid (Keeps w w8) := Keeps.trans K7.out KS8.out
  have Z8 : Hid (w7.heap.size ≤ w8.heap.size) := KS8.out.size
  have T6_8 := Lib.hid (T6_7.out.keep KS8.out)
  clear T6_7
  have T7_8 := Lib.hid (T7.out.keep KS8.out)
  clear T7
  have c0_8 := cell_keep KS8.out c0_7
  clear c0_7
  have c1_8 := cell_keep KS8.out c1_7
  clear c1_7
  have c2_8 := cell_keep KS8.out c2_7
  clear c2_7
  have c3_8 := cell_keep KS8.out c3_7
  clear c3_7
  have c4_8 := cell_keep KS8.out c4_7
  clear c4_7
  have c5_8 := cell_keep KS8.out c5_7
  clear c5_7
  have c6_8 := cell_keep KS8.out c6_7
  clear c6_7
  have c7_8 := cell_keep KS8.out c7_7
  clear c7_7
  have K9 : Hid (Keeps w w9) := Keeps.trans K8.out KS9.out
  have Z9 : Hid (w8.heap.size ≤ w9.heap.size) := KS9.out.size
  have T6_9 := Lib.hid (T6_8.out.keep KS9.out)
  clear T6_8
  have T7_9 := Lib.hid (T7_8.out.keep KS9.out)
  clear T7_8
  have T8_9 := Lib.hid (T8.out.keep KS9.out)
  clear T8
  have c0_9 := cell_keep KS9.out c0_8
  clear c0_8
  have c1_9 := cell_keep KS9.out c1_8
  clear c1_8
  have c2_9 := cell_keep KS9.out c2_8
  clear c2_8
  have c3_9 := cell_keep KS9.out c3_8
  clear c3_8
  have c4_9 := cell_keep KS9.out c4_8
  clear c4_8
  have c5_9 := cell_keep KS9.out c5_8
  clear c5_8
  have c6_9 := cell_keep KS9.out c6_8
  clear c6_8
  have c7_9 := cell_keep KS9.out c7_8
  clear c7_8
  clear SK KD
  generalize fIsConfigMapSpec l0 l1 l2 = R at *
  obtain ⟨Ra, Rb⟩ := R
  simp only at HE ⊢
  go_wp2_with fail
  refine (toProblem_any _ l0 _ (R0.out.keep K9.out) s0).mono ?_
  rintro e w10 ⟨t10, rfl, o10, k10⟩
  obtain ⟨t10a2, t10c2, t10a3, t10c3, rfl⟩ := o10.rd.shape
  have T10 := Lib.hid o10
  clear o10
  have KS10 : Hid (Keeps w9 w10) := k10
  clear k10
  have K10 : Hid (Keeps w w10) := Keeps.trans K9.out KS10.out
  have Z10 : Hid (w9.heap.size ≤ w10.heap.size) := KS10.out.size
  have T6_10 := Lib.hid (T6_9.out.keep KS10.out)
  clear T6_9
  have T7_10 := Lib.hid (T7_9.out.keep KS10.out)
  clear T7_9
  have T8_10 := Lib.hid (T8_9.out.keep KS10.out)
  clear T8_9
  have c0_10 := cell_keep KS10.out c0_9
  clear c0_9
  have c1_10 := cell_keep KS10.out c1_9
  clear c1_9
  have c2_10 := cell_keep KS10.out c2_9
  clear c2_9
  have c3_10 := cell_keep KS10.out c3_9
  clear c3_9
  have c4_10 := cell_keep KS10.out c4_9
  clear c4_9
  have c5_10 := cell_keep KS10.out c5_9
  clear c5_9
  have c6_10 := cell_keep KS10.out c6_9
  clear c6_9
  have c7_10 := cell_keep KS10.out c7_9
  clear c7_9
  have pre1 : (w10.alloc (.cells #[.int .i64 l0.labels, .int .i64 l0.degree, .slice t10a2 l0.nodes.length t10c2, .slice t10a3 l0.edges.length t10c3] 29)).cell? ⟨w.heap.size, 0, none⟩ = some (.int .i64 l0.labels) := cell_keep ((Keeps.refl _).alloc _) c0_10
  have pre2 : (w10.alloc (.cells #[.int .i64 l0.labels, .int .i64 l0.degree, .slice t10a2 l0.nodes.length t10c2, .slice t10a3 l0.edges.length t10c3] 29)).cell? ⟨w.heap.size, 1, none⟩ = some (.int .i64 l0.degree) := cell_keep ((Keeps.refl _).alloc _) c1_10
  have pre3 : (w10.alloc (.cells #[.int .i64 l0.labels, .int .i64 l0.degree, .slice t10a2 l0.nodes.length t10c2, .slice t10a3 l0.edges.length t10c3] 29)).cell? ⟨w.heap.size, 2, none⟩ = some (.slice p0a2 l0.nodes.length p0c2) := cell_keep ((Keeps.refl _).alloc _) c2_10
  have pre4 : (w10.alloc (.cells #[.int .i64 l0.labels, .int .i64 l0.degree, .slice t10a2 l0.nodes.length t10c2, .slice t10a3 l0.edges.length t10c3] 29)).cell? ⟨w.heap.size, 3, none⟩ = some (.slice p0a3 l0.edges.length p0c3) := cell_keep ((Keeps.refl _).alloc _) c3_10
  have pre5 : (w10.alloc (.cells #[.int .i64 l0.labels, .int .i64 l0.degree, .slice t10a2 l0.nodes.length t10c2, .slice t10a3 l0.edges.length t10c3] 29)).cell? ⟨w.heap.size + 1, 0, none⟩ = some (.int .i64 l1.labels) := cell_keep ((Keeps.refl _).alloc _) c4_10
  have pre6 : (w10.alloc (.cells #[.int .i64 l0.labels, .int .i64 l0.degree, .slice t10a2 l0.nodes.length t10c2, .slice t10a3 l0.edges.length t10c3] 29)).cell? ⟨w.heap.size + 1, 1, none⟩ = some (.int .i64 l1.degree) := cell_keep ((Keeps.refl _).alloc _) c5_10
  have pre7 : (w10.alloc (.cells #[.int .i64 l0.labels, .int .i64 l0.degree, .slice t10a2 l0.nodes.length t10c2, .slice t10a3 l0.edges.length t10c3] 29)).cell? ⟨w.heap.size + 1, 2, none⟩ = some (.slice p1a2 l1.nodes.length p1c2) := cell_keep ((Keeps.refl _).alloc _) c6_10
  have pre8 : (w10.alloc (.cells #[.int .i64 l0.labels, .int .i64 l0.degree, .slice t10a2 l0.nodes.length t10c2, .slice t10a3 l0.edges.length t10c3] 29)).cell? ⟨w.heap.size + 1, 3, none⟩ = some (.slice p1a3 l1.edges.length p1c3) := cell_keep ((Keeps.refl _).alloc _) c7_10
  go_wp2_with fail
  clear pre1 pre2 pre3 pre4 pre5 pre6 pre7 pre8
  have KS11 : Hid (Keeps w10 (w10.alloc (.cells #[.int .i64 l0.labels, .int .i64 l0.degree, .slice t10a2 l0.nodes.length t10c2, .slice t10a3 l0.edges.length t10c3] 29))) := (Keeps.refl _).alloc _
  have Z11' : Hid (w10.heap.size + 1 ≤ (w10.alloc (.cells #[.int .i64 l0.labels, .int .i64 l0.degree, .slice t10a2 l0.nodes.length t10c2, .slice t10a3 l0.edges.length t10c3] 29)).heap.size) := by show _ ≤ _; simp
  have E11 : (w10.alloc (.cells #[.int .i64 l0.labels, .int .i64 l0.degree, .slice t10a2 l0.nodes.length t10c2, .slice t10a3 l0.edges.length t10c3] 29)).heap.size = w10.heap.size + 1 := by rw [World.size_alloc]
  have c8_11 : (w10.alloc (.cells #[.int .i64 l0.labels, .int .i64 l0.degree, .slice t10a2 l0.nodes.length t10c2, .slice t10a3 l0.edges.length t10c3] 29)).cell? ⟨w10.heap.size, 0, none⟩ = some (.int .i64 l0.labels) := by rw [World.cell?_alloc_at _ _ _ _ rfl]; rfl
  have c9_11 : (w10.alloc (.cells #[.int .i64 l0.labels, .int .i64 l0.degree, .slice t10a2 l0.nodes.length t10c2, .slice t10a3 l0.edges.length t10c3] 29)).cell? ⟨w10.heap.size, 1, none⟩ = some (.int .i64 l0.degree) := by rw [World.cell?_alloc_at _ _ _ _ rfl]; rfl
  have c10_11 : (w10.alloc (.cells #[.int .i64 l0.labels, .int .i64 l0.degree, .slice t10a2 l0.nodes.length t10c2, .slice t10a3 l0.edges.length t10c3] 29)).cell? ⟨w10.heap.size, 2, none⟩ = some (.slice t10a2 l0.nodes.length t10c2) := by rw [World.cell?_alloc_at _ _ _ _ rfl]; rfl
  have c11_11 : (w10.alloc (.cells #[.int .i64 l0.labels, .int .i64 l0.degree, .slice t10a2 l0.nodes.length t10c2, .slice t10a3 l0.edges.length t10c3] 29)).cell? ⟨w10.heap.size, 3, none⟩ = some (.slice t10a3 l0.edges.length t10c3) := by rw [World.cell?_alloc_at _ _ _ _ rfl]; rfl
  generalize w10.alloc (.cells #[.int .i64 l0.labels, .int .i64 l0.degree, .slice t10a2 l0.nodes.length t10c2, .slice t10a3 l0.edges.length t10c3] 29) = w11 at KS11 Z11' E11 c8_11 c9_11 c10_11 c11_11 ⊢
  have K11 : Hid (Keeps w w11) := Keeps.trans K10.out KS11.out
  have Z11 : Hid (w10.heap.size ≤ w11.heap.size) := KS11.out.size
  have T6_11 := Lib.hid (T6_10.out.keep KS11.out)
  clear T6_10
  have T7_11 := Lib.hid (T7_10.out.keep KS11.out)
  clear T7_10
  have T8_11 := Lib.hid (T8_10.out.keep KS11.out)
  clear T8_10
  have T10_11 := Lib.hid (T10.out.keep KS11.out)
  clear T10
  have c0_11 := cell_keep KS11.out c0_10
  clear c0_10
  have c1_11 := cell_keep KS11.out c1_10
  clear c1_10
  have c2_11 := cell_keep KS11.out c2_10
  clear c2_10
  have c3_11 := cell_keep KS11.out c3_10
  clear c3_10
  have c4_11 := cell_keep KS11.out c4_10
  clear c4_10
  have c5_11 := cell_keep KS11.out c5_10
  clear c5_10
  have c6_11 := cell_keep KS11.out c6_10
  clear c6_10
  have c7_11 := cell_keep KS11.out c7_10
  clear c7_10
  clear E11
  refine (toProblem_any _ l1 _ (R1.out.keep K11.out) s1).mono ?_
  rintro e w12 ⟨t12, rfl, o12, k12⟩
  obtain ⟨t12a2, t12c2, t12a3, t12c3, rfl⟩ := o12.rd.shape
  have T12 := Lib.hid o12
  clear o12
  have KS12 : Hid (Keeps w11 w12) := k12
  clear k12
  have K12 : Hid (Keeps w w12) := Keeps.trans K11.out KS12.out
  have Z12 : Hid (w11.heap.size ≤ w12.heap.size) := KS12.out.size
  have T6_12 := Lib.hid (T6_11.out.keep KS12.out)
  clear T6_11
  have T7_12 := Lib.hid (T7_11.out.keep KS12.out)
  clear T7_11
  have T8_12 := Lib.hid (T8_11.out.keep KS12.out)
  clear T8_11
  have T10_12 := Lib.hid (T10_11.out.keep KS12.out)
  clear T10_11
  have c0_12 := cell_keep KS12.out c0_11
  clear c0_11
  have c1_12 := cell_keep KS12.out c1_11
  clear c1_11
  have c2_12 := cell_keep KS12.out c2_11
  clear c2_11
  have c3_12 := cell_keep KS12.out c3_11
  clear c3_11
  have c4_12 := cell_keep KS12.out c4_11
  clear c4_11
  have c5_12 := cell_keep KS12.out c5_11
  clear c5_11
  have c6_12 := cell_keep KS12.out c6_11
  clear c6_11
  have c7_12 := cell_keep KS12.out c7_11
  clear c7_11
  have c8_12 := cell_keep KS12.out c8_11
  clear c8_11
  have c9_12 := cell_keep KS12.out c9_11
  clear c9_11
  have c10_12 := cell_keep KS12.out c10_11
  clear c10_11
  have c11_12 := cell_keep KS12.out c11_11
  clear c11_11
  have pre1 : (w12.alloc (.cells #[.int .i64 l1.labels, .int .i64 l1.degree, .slice t12a2 l1.nodes.length t12c2, .slice t12a3 l1.edges.length t12c3] 29)).cell? ⟨w.heap.size, 0, none⟩ = some (.int .i64 l0.labels) := cell_keep ((Keeps.refl _).alloc _) c0_12
  have pre2 : (w12.alloc (.cells #[.int .i64 l1.labels, .int .i64 l1.degree, .slice t12a2 l1.nodes.length t12c2, .slice t12a3 l1.edges.length t12c3] 29)).cell? ⟨w.heap.size, 1, none⟩ = some (.int .i64 l0.degree) := cell_keep ((Keeps.refl _).alloc _) c1_12
  have pre3 : (w12.alloc (.cells #[.int .i64 l1.labels, .int .i64 l1.degree, .slice t12a2 l1.nodes.length t12c2, .slice t12a3 l1.edges.length t12c3] 29)).cell? ⟨w.heap.size, 2, none⟩ = some (.slice p0a2 l0.nodes.length p0c2) := cell_keep ((Keeps.refl _).alloc _) c2_12
  have pre4 : (w12.alloc (.cells #[.int .i64 l1.labels, .int .i64 l1.degree, .slice t12a2 l1.nodes.length t12c2, .slice t12a3 l1.edges.length t12c3] 29)).cell? ⟨w.heap.size, 3, none⟩ = some (.slice p0a3 l0.edges.length p0c3) := cell_keep ((Keeps.refl _).alloc _) c3_12
  have pre5 : (w12.alloc (.cells #[.int .i64 l1.labels, .int .i64 l1.degree, .slice t12a2 l1.nodes.length t12c2, .slice t12a3 l1.edges.length t12c3] 29)).cell? ⟨w.heap.size + 1, 0, none⟩ = some (.int .i64 l1.labels) := cell_keep ((Keeps.refl _).alloc _) c4_12
  have pre6 : (w12.alloc (.cells #[.int .i64 l1.labels, .int .i64 l1.degree, .slice t12a2 l1.nodes.length t12c2, .slice t12a3 l1.edges.length t12c3] 29)).cell? ⟨w.heap.size + 1, 1, none⟩ = some (.int .i64 l1.degree) := cell_keep ((Keeps.refl _).alloc _) c5_12
  have pre7 : (w12.alloc (.cells #[.int .i64 l1.labels, .int .i64 l1.degree, .slice t12a2 l1.nodes.length t12c2, .slice t12a3 l1.edges.length t12c3] 29)).cell? ⟨w.heap.size + 1, 2, none⟩ = some (.slice p1a2 l1.nodes.length p1c2) := cell_keep ((Keeps.refl _).alloc _) c6_12
  have pre8 : (w12.alloc (.cells #[.int .i64 l1.labels, .int .i64 l1.degree, .slice t12a2 l1.nodes.length t12c2, .slice t12a3 l1.edges.length t12c3] 29)).cell? ⟨w.heap.size + 1, 3, none⟩ = some (.slice p1a3 l1.edges.length p1c3) := cell_keep ((Keeps.refl _).alloc _) c7_12
  have pre9 : (w12.alloc (.cells #[.int .i64 l1.labels, .int .i64 l1.degree, .slice t12a2 l1.nodes.length t12c2, .slice t12a3 l1.edges.length t12c3] 29)).cell? ⟨w10.heap.size, 0, none⟩ = some (.int .i64 l0.labels) := cell_keep ((Keeps.refl _).alloc _) c8_12
  have pre10 : (w12.alloc (.cells #[.int .i64 l1.labels, .int .i64 l1.degree, .slice t12a2 l1.nodes.length t12c2, .slice t12a3 l1.edges.length t12c3] 29)).cell? ⟨w10.heap.size, 1, none⟩ = some (.int .i64 l0.degree) := cell_keep ((Keeps.refl _).alloc _) c9_12
  have pre11 : (w12.alloc (.cells #[.int .i64 l1.labels, .int .i64 l1.degree, .slice t12a2 l1.nodes.length t12c2, .slice t12a3 l1.edges.length t12c3] 29)).cell? ⟨w10.heap.size, 2, none⟩ = some (.slice t10a2 l0.nodes.length t10c2) := cell_keep ((Keeps.refl _).alloc _) c10_12
  have pre12 : (w12.alloc (.cells #[.int .i64 l1.labels, .int .i64 l1.degree, .slice t12a2 l1.nodes.length t12c2, .slice t12a3 l1.edges.length t12c3] 29)).cell? ⟨w10.heap.size, 3, none⟩ = some (.slice t10a3 l0.edges.length t10c3) := cell_keep ((Keeps.refl _).alloc _) c11_12
  go_wp2_with fail
  clear pre1 pre2 pre3 pre4 pre5 pre6 pre7 pre8 pre9 pre10 pre11 pre12
  have KS13 : Hid (Keeps w12 (w12.alloc (.cells #[.int .i64 l1.labels, .int .i64 l1.degree, .slice t12a2 l1.nodes.length t12c2, .slice t12a3 l1.edges.length t12c3] 29))) := (Keeps.refl _).alloc _
  have Z13' : Hid (w12.heap.size + 1 ≤ (w12.alloc (.cells #[.int .i64 l1.labels, .int .i64 l1.degree, .slice t12a2 l1.nodes.length t12c2, .slice t12a3 l1.edges.length t12c3] 29)).heap.size) := by show _ ≤ _; simp
  have E13 : (w12.alloc (.cells #[.int .i64 l1.labels, .int .i64 l1.degree, .slice t12a2 l1.nodes.length t12c2, .slice t12a3 l1.edges.length t12c3] 29)).heap.size = w12.heap.size + 1 := by rw [World.size_alloc]
  have c12_13 : (w12.alloc (.cells #[.int .i64 l1.labels, .int .i64 l1.degree, .slice t12a2 l1.nodes.length t12c2, .slice t12a3 l1.edges.length t12c3] 29)).cell? ⟨w12.heap.size, 0, none⟩ = some (.int .i64 l1.labels) := by rw [World.cell?_alloc_at _ _ _ _ rfl]; rfl
  have c13_13 : (w12.alloc (.cells #[.int .i64 l1.labels, .int .i64 l1.degree, .slice t12a2 l1.nodes.length t12c2, .slice t12a3 l1.edges.length t12c3] 29)).cell? ⟨w12.heap.size, 1, none⟩ = some (.int .i64 l1.degree) := by rw [World.cell?_alloc_at _ _ _ _ rfl]; rfl
  have c14_13 : (w12.alloc (.cells #[.int .i64 l1.labels, .int .i64 l1.degree, .slice t12a2 l1.nodes.length t12c2, .slice t12a3 l1.edges.length t12c3] 29)).cell? ⟨w12.heap.size, 2, none⟩ = some (.slice t12a2 l1.nodes.length t12c2) := by rw [World.cell?_alloc_at _ _ _ _ rfl]; rfl
  have c15_13 : (w12.alloc (.cells #[.int .i64 l1.labels, .int .i64 l1.degree, .slice t12a2 l1.nodes.length t12c2, .slice t12a3 l1.edges.length t12c3] 29)).cell? ⟨w12.heap.size, 3, none⟩ = some (.slice t12a3 l1.edges.length t12c3) := by rw [World.cell?_alloc_at _ _ _ _ rfl]; rfl
  generalize w12.alloc (.cells #[.int .i64 l1.labels, .int .i64 l1.degree, .slice t12a2 l1.nodes.length t12c2, .slice t12a3 l1.edges.length t12c3] 29) = w13 at KS13 Z13' E13 c12_13 c13_13 c14_13 c15_13 ⊢
  have K13 : Hid (Keeps w w13) := Keeps.trans K12.out KS13.out
  have Z13 : Hid (w12.heap.size ≤ w13.heap.size) := KS13.out.size
  have T6_13 := Lib.hid (T6_12.out.keep KS13.out)
  clear T6_12
  have T7_13 := Lib.hid (T7_12.out.keep KS13.out)
  clear T7_12
  have T8_13 := Lib.hid (T8_12.out.keep KS13.out)
  clear T8_12
  have T10_13 := Lib.hid (T10_12.out.keep KS13.out)
  clear T10_12
  have T12_13 := Lib.hid (T12.out.keep KS13.out)
  clear T12
  have c0_13 := cell_keep KS13.out c0_12
  clear c0_12
  have c1_13 := cell_keep KS13.out c1_12
  clear c1_12
  have c2_13 := cell_keep KS13.out c2_12
  clear c2_12
  have c3_13 := cell_keep KS13.out c3_12
  clear c3_12
  have c4_13 := cell_keep KS13.out c4_12
  clear c4_12
  have c5_13 := cell_keep KS13.out c5_12
  clear c5_12
  have c6_13 := cell_keep KS13.out c6_12
  clear c6_12
  have c7_13 := cell_keep KS13.out c7_12
  clear c7_12
  have c8_13 := cell_keep KS13.out c8_12
  clear c8_12
  have c9_13 := cell_keep KS13.out c9_12
  clear c9_12
  have c10_13 := cell_keep KS13.out c10_12
  clear c10_12
  have c11_13 := cell_keep KS13.out c11_12
  clear c11_12
  clear E13
  refine (toIntSS_any _ l2 _ (R2.out.keep K13.out) s2).mono ?_
  rintro e w14 ⟨t14, rfl, o14, k14⟩
  have T14 := Lib.hid o14
  clear o14
  have KS14 : Hid (Keeps w13 w14) := k14
  clear k14
  have K14 : Hid (Keeps w w14) := Keeps.trans K13.out KS14.out
  have Z14 : Hid (w13.heap.size ≤ w14.heap.size) := KS14.out.size
  have T6_14 := Lib.hid (T6_13.out.keep KS14.out)
  clear T6_13
  have T7_14 := Lib.hid (T7_13.out.keep KS14.out)
  clear T7_13
  have T8_14 := Lib.hid (T8_13.out.keep KS14.out)
  clear T8_13
  have T10_14 := Lib.hid (T10_13.out.keep KS14.out)
  clear T10_13
  have T12_14 := Lib.hid (T12_13.out.keep KS14.out)
  clear T12_13
  have c0_14 := cell_keep KS14.out c0_13
  clear c0_13
  have c1_14 := cell_keep KS14.out c1_13
  clear c1_13
  have c2_14 := cell_keep KS14.out c2_13
  clear c2_13
  have c3_14 := cell_keep KS14.out c3_13
  clear c3_13
  have c4_14 := cell_keep KS14.out c4_13
  clear c4_13
  have c5_14 := cell_keep KS14.out c5_13
  clear c5_13
  have c6_14 := cell_keep KS14.out c6_13
  clear c6_13
  have c7_14 := cell_keep KS14.out c7_13
  clear c7_13
  have c8_14 := cell_keep KS14.out c8_13
  clear c8_13
  have c9_14 := cell_keep KS14.out c9_13
  clear c9_13
  have c10_14 := cell_keep KS14.out c10_13
  clear c10_13
  have c11_14 := cell_keep KS14.out c11_13
  clear c11_13
  have c12_14 := cell_keep KS14.out c12_13
  clear c12_13
  have c13_14 := cell_keep KS14.out c13_13
  clear c13_13
  have c14_14 := cell_keep KS14.out c14_13
  clear c14_13
  have c15_14 := cell_keep KS14.out c15_13
  clear c15_13
  go_wp2_with fail
  refine (implIsConfigMap_any (.agg #[.int .i64 l0.labels, .int .i64 l0.degree, .slice t10a2 l0.nodes.length t10c2, .slice t10a3 l0.edges.length t10c3]) l0 (.agg #[.int .i64 l1.labels, .int .i64 l1.degree, .slice t12a2 l1.nodes.length t12c2, .slice t12a3 l1.edges.length t12c3]) l1 t14 l2 _ (T10_14.out.rd) IL0.out s0 (T12_14.out.rd) IL1.out s1 (T14.out.rows) IL2.out s2).mono ?_
  rw [HE.out]
  rintro e w15 ⟨rfl, k15⟩
  have KS15 : Hid (Keeps w14 w15) := k15
  clear k15
  have K15 : Hid (Keeps w w15) := Keeps.trans K14.out KS15.out
  have Z15 : Hid (w14.heap.size ≤ w15.heap.size) := KS15.out.size
  have T6_15 := Lib.hid (T6_14.out.keep KS15.out)
  clear T6_14
  have T7_15 := Lib.hid (T7_14.out.keep KS15.out)
  clear T7_14
  have T8_15 := Lib.hid (T8_14.out.keep KS15.out)
  clear T8_14
  have T10_15 := Lib.hid (T10_14.out.keep KS15.out)
  clear T10_14
  have T12_15 := Lib.hid (T12_14.out.keep KS15.out)
  clear T12_14
  have T14_15 := Lib.hid (T14.out.keep KS15.out)
  clear T14
  have c0_15 := cell_keep KS15.out c0_14
  clear c0_14
  have c1_15 := cell_keep KS15.out c1_14
  clear c1_14
  have c2_15 := cell_keep KS15.out c2_14
  clear c2_14
  have c3_15 := cell_keep KS15.out c3_14
  clear c3_14
  have c4_15 := cell_keep KS15.out c4_14
  clear c4_14
  have c5_15 := cell_keep KS15.out c5_14
  clear c5_14
  have c6_15 := cell_keep KS15.out c6_14
  clear c6_14
  have c7_15 := cell_keep KS15.out c7_14
  clear c7_14
  have c8_15 := cell_keep KS15.out c8_14
  clear c8_14
  have c9_15 := cell_keep KS15.out c9_14
  clear c9_14
  have c10_15 := cell_keep KS15.out c10_14
  clear c10_14
  have c11_15 := cell_keep KS15.out c11_14
  clear c11_14
  have c12_15 := cell_keep KS15.out c12_14
  clear c12_14
  have c13_15 := cell_keep KS15.out c13_14
  clear c13_14
  have c14_15 := cell_keep KS15.out c14_14
  clear c14_14
  have c15_15 := cell_keep KS15.out c15_14
  clear c15_14
  go_wp2_with fail
  have SK : Hid (∀ W : World, Keeps w15 W → W.cell? ⟨w.heap.size, 0, none⟩ = some (.int .i64 l0.labels) ∧ W.cell? ⟨w.heap.size, 1, none⟩ = some (.int .i64 l0.degree) ∧ W.cell? ⟨w.heap.size, 2, none⟩ = some (.slice p0a2 l0.nodes.length p0c2) ∧ W.cell? ⟨w.heap.size, 3, none⟩ = some (.slice p0a3 l0.edges.length p0c3) ∧ W.cell? ⟨w.heap.size + 1, 0, none⟩ = some (.int .i64 l1.labels) ∧ W.cell? ⟨w.heap.size + 1, 1, none⟩ = some (.int .i64 l1.degree) ∧ W.cell? ⟨w.heap.size + 1, 2, none⟩ = some (.slice p1a2 l1.nodes.length p1c2) ∧ W.cell? ⟨w.heap.size + 1, 3, none⟩ = some (.slice p1a3 l1.edges.length p1c3) ∧ W.cell? ⟨w10.heap.size, 0, none⟩ = some (.int .i64 l0.labels) ∧ W.cell? ⟨w10.heap.size, 1, none⟩ = some (.int .i64 l0.degree) ∧ W.cell? ⟨w10.heap.size, 2, none⟩ = some (.slice t10a2 l0.nodes.length t10c2) ∧ W.cell? ⟨w10.heap.size, 3, none⟩ = some (.slice t10a3 l0.edges.length t10c3) ∧ W.cell? ⟨w12.heap.size, 0, none⟩ = some (.int .i64 l1.labels) ∧ W.cell? ⟨w12.heap.size, 1, none⟩ = some (.int .i64 l1.degree) ∧ W.cell? ⟨w12.heap.size, 2, none⟩ = some (.slice t12a2 l1.nodes.length t12c2) ∧ W.cell? ⟨w12.heap.size, 3, none⟩ = some (.slice t12a3 l1.edges.length t12c3)) := fun W k => ⟨cell_keep k c0_15, cell_keep k c1_15, cell_keep k c2_15, cell_keep k c3_15, cell_keep k c4_15, cell_keep k c5_15, cell_keep k c6_15, cell_keep k c7_15, cell_keep k c8_15, cell_keep k c9_15, cell_keep k c10_15, cell_keep k c11_15, cell_keep k c12_15, cell_keep k c13_15, cell_keep k c14_15, cell_keep k c15_15⟩
  have KD : Hid (Keeps w15 w15.drew) := (Keeps.refl _).drew
  go_region_held3 (fun W => W.cell? ⟨w.heap.size, 0, none⟩ = some (.int .i64 l0.labels) ∧ W.cell? ⟨w.heap.size, 1, none⟩ = some (.int .i64 l0.degree) ∧ W.cell? ⟨w.heap.size, 2, none⟩ = some (.slice p0a2 l0.nodes.length p0c2) ∧ W.cell? ⟨w.heap.size, 3, none⟩ = some (.slice p0a3 l0.edges.length p0c3) ∧ W.cell? ⟨w.heap.size + 1, 0, none⟩ = some (.int .i64 l1.labels) ∧ W.cell? ⟨w.heap.size + 1, 1, none⟩ = some (.int .i64 l1.degree) ∧ W.cell? ⟨w.heap.size + 1, 2, none⟩ = some (.slice p1a2 l1.nodes.length p1c2) ∧ W.cell? ⟨w.heap.size + 1, 3, none⟩ = some (.slice p1a3 l1.edges.length p1c3) ∧ W.cell? ⟨w10.heap.size, 0, none⟩ = some (.int .i64 l0.labels) ∧ W.cell? ⟨w10.heap.size, 1, none⟩ = some (.int .i64 l0.degree) ∧ W.cell? ⟨w10.heap.size, 2, none⟩ = some (.slice t10a2 l0.nodes.length t10c2) ∧ W.cell? ⟨w10.heap.size, 3, none⟩ = some (.slice t10a3 l0.edges.length t10c3) ∧ W.cell? ⟨w12.heap.size, 0, none⟩ = some (.int .i64 l1.labels) ∧ W.cell? ⟨w12.heap.size, 1, none⟩ = some (.int .i64 l1.degree) ∧ W.cell? ⟨w12.heap.size, 2, none⟩ = some (.slice t12a2 l1.nodes.length t12c2) ∧ W.cell? ⟨w12.heap.size, 3, none⟩ = some (.slice t12a3 l1.edges.length t12c3)) (first | exact SK.out _ KD.out | exact SK.out _ (Keeps.trans KD.out KS16'.out) | exact SK.out _ (Keeps.trans KD.out (Keeps.trans KS16'.out KS17.out)))
    ((first
      | (go_at_call 17; refine (toProblem_any _ l0 _ (R0.out.keep (Keeps.trans K15.out KD.out)) s0).mono ?_; rintro e w16 ⟨tt, rfl, o16, k16⟩; obtain ⟨t16a2, t16c2, t16a3, t16c3, rfl⟩ := o16.rd.shape; have T16 := Lib.hid o16; have KS16' := Lib.hid k16; clear o16 k16)
      | (go_at_call 20; refine (eqProblem_same _ _ l0 _ ((T10_15.out.rd).keep (Keeps.trans KD.out KS16'.out)) T16.out.rd).mono ?_; rintro e w17 ⟨rfl, k17⟩; have KS17 := Lib.hid k17; clear k17)))
  have KS16 : Hid (Keeps w15 w16) := Keeps.trans KD.out KS16'.out
  have K16 : Hid (Keeps w w16) := Keeps.trans K15.out KS16.out
  have Z16 : Hid (w15.heap.size ≤ w16.heap.size) := KS16.out.size
  have T6_16 := Lib.hid (T6_15.out.keep KS16.out)
  clear T6_15
  have T7_16 := Lib.hid (T7_15.out.keep KS16.out)
  clear T7_15
  have T8_16 := Lib.hid (T8_15.out.keep KS16.out)
  clear T8_15
  have T10_16 := Lib.hid (T10_15.out.keep KS16.out)
  clear T10_15
  have T12_16 := Lib.hid (T12_15.out.keep KS16.out)
  clear T12_15
  have T14_16 := Lib.hid (T14_15.out.keep KS16.out)
  clear T14_15
  have c0_16 := cell_keep KS16.out c0_15
  clear c0_15
  have c1_16 := cell_keep KS16.out c1_15
  clear c1_15
  have c2_16 := cell_keep KS16.out c2_15
  clear c2_15
  have c3_16 := cell_keep KS16.out c3_15
  clear c3_15
  have c4_16 := cell_keep KS16.out c4_15
  clear c4_15
  have c5_16 := cell_keep KS16.out c5_15
  clear c5_15
  have c6_16 := cell_keep KS16.out c6_15
  clear c6_15
  have c7_16 := cell_keep KS16.out c7_15
  clear c7_15
  have c8_16 := cell_keep KS16.out c8_15
  clear c8_15
  have c9_16 := cell_keep KS16.out c9_15
  clear c9_15
  have c10_16 := cell_keep KS16.out c10_15
  clear c10_15
  have c11_16 := cell_keep KS16.out c11_15
  clear c11_15
  have c12_16 := cell_keep KS16.out c12_15
  clear c12_15
  have c13_16 := cell_keep KS16.out c13_15
  clear c13_15
  have c14_16 := cell_keep KS16.out c14_15
  clear c14_15
  have c15_16 := cell_keep KS16.out c15_15
  clear c15_15
  have K17 : Hid (Keeps w w17) := Keeps.trans K16.out KS17.out
  have Z17 : Hid (w16.heap.size ≤ w17.heap.size) := KS17.out.size
  have T6_17 := Lib.hid (T6_16.out.keep KS17.out)
  clear T6_16
  have T7_17 := Lib.hid (T7_16.out.keep KS17.out)
  clear T7_16
  have T8_17 := Lib.hid (T8_16.out.keep KS17.out)
  clear T8_16
  have T10_17 := Lib.hid (T10_16.out.keep KS17.out)
  clear T10_16
  have T12_17 := Lib.hid (T12_16.out.keep KS17.out)
  clear T12_16
  have T14_17 := Lib.hid (T14_16.out.keep KS17.out)
  clear T14_16
  have c0_17 := cell_keep KS17.out c0_16
  clear c0_16
  have c1_17 := cell_keep KS17.out c1_16
  clear c1_16
  have c2_17 := cell_keep KS17.out c2_16
  clear c2_16
  have c3_17 := cell_keep KS17.out c3_16
  clear c3_16
  have c4_17 := cell_keep KS17.out c4_16
  clear c4_16
  have c5_17 := cell_keep KS17.out c5_16
  clear c5_16
  have c6_17 := cell_keep KS17.out c6_16
  clear c6_16
  have c7_17 := cell_keep KS17.out c7_16
  clear c7_16
  have c8_17 := cell_keep KS17.out c8_16
  clear c8_16
  have c9_17 := cell_keep KS17.out c9_16
  clear c9_16
  have c10_17 := cell_keep KS17.out c10_16
  clear c10_16
  have c11_17 := cell_keep KS17.out c11_16
  clear c11_16
  have c12_17 := cell_keep KS17.out c12_16
  clear c12_16
  have c13_17 := cell_keep KS17.out c13_16
  clear c13_16
  have c14_17 := cell_keep KS17.out c14_16
  clear c14_16
  have c15_17 := cell_keep KS17.out c15_16
  clear c15_16
  clear SK KD
  go_wp2_with fail
  have SK : Hid (∀ W : World, Keeps w17 W → W.cell? ⟨w.heap.size, 0, none⟩ = some (.int .i64 l0.labels) ∧ W.cell? ⟨w.heap.size, 1, none⟩ = some (.int .i64 l0.degree) ∧ W.cell? ⟨w.heap.size, 2, none⟩ = some (.slice p0a2 l0.nodes.length p0c2) ∧ W.cell? ⟨w.heap.size, 3, none⟩ = some (.slice p0a3 l0.edges.length p0c3) ∧ W.cell? ⟨w.heap.size + 1, 0, none⟩ = some (.int .i64 l1.labels) ∧ W.cell? ⟨w.heap.size + 1, 1, none⟩ = some (.int .i64 l1.degree) ∧ W.cell? ⟨w.heap.size + 1, 2, none⟩ = some (.slice p1a2 l1.nodes.length p1c2) ∧ W.cell? ⟨w.heap.size + 1, 3, none⟩ = some (.slice p1a3 l1.edges.length p1c3) ∧ W.cell? ⟨w10.heap.size, 0, none⟩ = some (.int .i64 l0.labels) ∧ W.cell? ⟨w10.heap.size, 1, none⟩ = some (.int .i64 l0.degree) ∧ W.cell? ⟨w10.heap.size, 2, none⟩ = some (.slice t10a2 l0.nodes.length t10c2) ∧ W.cell? ⟨w10.heap.size, 3, none⟩ = some (.slice t10a3 l0.edges.length t10c3) ∧ W.cell? ⟨w12.heap.size, 0, none⟩ = some (.int .i64 l1.labels) ∧ W.cell? ⟨w12.heap.size, 1, none⟩ = some (.int .i64 l1.degree) ∧ W.cell? ⟨w12.heap.size, 2, none⟩ = some (.slice t12a2 l1.nodes.length t12c2) ∧ W.cell? ⟨w12.heap.size, 3, none⟩ = some (.slice t12a3 l1.edges.length t12c3)) := fun W k => ⟨cell_keep k c0_17, cell_keep k c1_17, cell_keep k c2_17, cell_keep k c3_17, cell_keep k c4_17, cell_keep k c5_17, cell_keep k c6_17, cell_keep k c7_17, cell_keep k c8_17, cell_keep k c9_17, cell_keep k c10_17, cell_keep k c11_17, cell_keep k c12_17, cell_keep k c13_17, cell_keep k c14_17, cell_keep k c15_17⟩
  have KD : Hid (Keeps w17 w17.drew) := (Keeps.refl _).drew
  go_region_held3 (fun W => W.cell? ⟨w.heap.size, 0, none⟩ = some (.int .i64 l0.labels) ∧ W.cell? ⟨w.heap.size, 1, none⟩ = some (.int .i64 l0.degree) ∧ W.cell? ⟨w.heap.size, 2, none⟩ = some (.slice p0a2 l0.nodes.length p0c2) ∧ W.cell? ⟨w.heap.size, 3, none⟩ = some (.slice p0a3 l0.edges.length p0c3) ∧ W.cell? ⟨w.heap.size + 1, 0, none⟩ = some (.int .i64 l1.labels) ∧ W.cell? ⟨w.heap.size + 1, 1, none⟩ = some (.int .i64 l1.degree) ∧ W.cell? ⟨w.heap.size + 1, 2, none⟩ = some (.slice p1a2 l1.nodes.length p1c2) ∧ W.cell? ⟨w.heap.size + 1, 3, none⟩ = some (.slice p1a3 l1.edges.length p1c3) ∧ W.cell? ⟨w10.heap.size, 0, none⟩ = some (.int .i64 l0.labels) ∧ W.cell? ⟨w10.heap.size, 1, none⟩ = some (.int .i64 l0.degree) ∧ W.cell? ⟨w10.heap.size, 2, none⟩ = some (.slice t10a2 l0.nodes.length t10c2) ∧ W.cell? ⟨w10.heap.size, 3, none⟩ = some (.slice t10a3 l0.edges.length t10c3) ∧ W.cell? ⟨w12.heap.size, 0, none⟩ = some (.int .i64 l1.labels) ∧ W.cell? ⟨w12.heap.size, 1, none⟩ = some (.int .i64 l1.degree) ∧ W.cell? ⟨w12.heap.size, 2, none⟩ = some (.slice t12a2 l1.nodes.length t12c2) ∧ W.cell? ⟨w12.heap.size, 3, none⟩ = some (.slice t12a3 l1.edges.length t12c3)) (first | exact SK.out _ KD.out | exact SK.out _ (Keeps.trans KD.out KS18'.out) | exact SK.out _ (Keeps.trans KD.out (Keeps.trans KS18'.out KS19.out)))
    ((first
      | (go_at_call 17; refine (toProblem_any _ l1 _ (R1.out.keep (Keeps.trans K17.out KD.out)) s1).mono ?_; rintro e w18 ⟨tt, rfl, o18, k18⟩; obtain ⟨t18a2, t18c2, t18a3, t18c3, rfl⟩ := o18.rd.shape; have T18 := Lib.hid o18; have KS18' := Lib.hid k18; clear o18 k18)
      | (go_at_call 20; refine (eqProblem_same _ _ l1 _ ((T12_17.out.rd).keep (Keeps.trans KD.out KS18'.out)) T18.out.rd).mono ?_; rintro e w19 ⟨rfl, k19⟩; have KS19 := Lib.hid k19; clear k19)))
  have KS18 : Hid (Keeps w17 w18) := Keeps.trans KD.out KS18'.out
  have K18 : Hid (Keeps w w18) := Keeps.trans K17.out KS18.out
  have Z18 : Hid (w17.heap.size ≤ w18.heap.size) := KS18.out.size
  have T6_18 := Lib.hid (T6_17.out.keep KS18.out)
  clear T6_17
  have T7_18 := Lib.hid (T7_17.out.keep KS18.out)
  clear T7_17
  have T8_18 := Lib.hid (T8_17.out.keep KS18.out)
  clear T8_17
  have T10_18 := Lib.hid (T10_17.out.keep KS18.out)
  clear T10_17
  have T12_18 := Lib.hid (T12_17.out.keep KS18.out)
  clear T12_17
  have T14_18 := Lib.hid (T14_17.out.keep KS18.out)
  clear T14_17
  have c0_18 := cell_keep KS18.out c0_17
  clear c0_17
  have c1_18 := cell_keep KS18.out c1_17
  clear c1_17
  have c2_18 := cell_keep KS18.out c2_17
  clear c2_17
  have c3_18 := cell_keep KS18.out c3_17
  clear c3_17
  have c4_18 := cell_keep KS18.out c4_17
  clear c4_17
  have c5_18 := cell_keep KS18.out c5_17
  clear c5_17
  have c6_18 := cell_keep KS18.out c6_17
  clear c6_17
  have c7_18 := cell_keep KS18.out c7_17
  clear c7_17
  have c8_18 := cell_keep KS18.out c8_17
  clear c8_17
  have c9_18 := cell_keep KS18.out c9_17
  clear c9_17
  have c10_18 := cell_keep KS18.out c10_17
  clear c10_17
  have c11_18 := cell_keep KS18.out c11_17
  clear c11_17
  have c12_18 := cell_keep KS18.out c12_17
  clear c12_17
  have c13_18 := cell_keep KS18.out c13_17
  clear c13_17
  have c14_18 := cell_keep KS18.out c14_17
  clear c14_17
  have c15_18 := cell_keep KS18.out c15_17
  clear c15_17
  have K19 : Hid (Keeps w w19) := Keeps.trans K18.out KS19.out
  have Z19 : Hid (w18.heap.size ≤ w19.heap.size) := KS19.out.size
  have T6_19 := Lib.hid (T6_18.out.keep KS19.out)
  clear T6_18
  have T7_19 := Lib.hid (T7_18.out.keep KS19.out)
  clear T7_18
  have T8_19 := Lib.hid (T8_18.out.keep KS19.out)
  clear T8_18
  have T10_19 := Lib.hid (T10_18.out.keep KS19.out)
  clear T10_18
  have T12_19 := Lib.hid (T12_18.out.keep KS19.out)
  clear T12_18
  have T14_19 := Lib.hid (T14_18.out.keep KS19.out)
  clear T14_18
  have c0_19 := cell_keep KS19.out c0_18
  clear c0_18
  have c1_19 := cell_keep KS19.out c1_18
  clear c1_18
  have c2_19 := cell_keep KS19.out c2_18
  clear c2_18
  have c3_19 := cell_keep KS19.out c3_18
  clear c3_18
  have c4_19 := cell_keep KS19.out c4_18
  clear c4_18
  have c5_19 := cell_keep KS19.out c5_18
  clear c5_18
  have c6_19 := cell_keep KS19.out c6_18
  clear c6_18
  have c7_19 := cell_keep KS19.out c7_18
  clear c7_18
  have c8_19 := cell_keep KS19.out c8_18
  clear c8_18
  have c9_19 := cell_keep KS19.out c9_18
  clear c9_18
  have c10_19 := cell_keep KS19.out c10_18
  clear c10_18
  have c11_19 := cell_keep KS19.out c11_18
  clear c11_18
  have c12_19 := cell_keep KS19.out c12_18
  clear c12_18
  have c13_19 := cell_keep KS19.out c13_18
  clear c13_18
  have c14_19 := cell_keep KS19.out c14_18
  clear c14_18
  have c15_19 := cell_keep KS19.out c15_18
  clear c15_18
  clear SK KD
  go_wp2_with fail
  refine (toIntSS_any _ l2 _ (R2.out.keep K19.out) s2).mono ?_
  rintro e w20 ⟨t20, rfl, o20, k20⟩
  have T20 := Lib.hid o20
  clear o20
  have KS20 : Hid (Keeps w19 w20) := k20
  clear k20
  have K20 : Hid (Keeps w w20) := Keeps.trans K19.out KS20.out
  have Z20 : Hid (w19.heap.size ≤ w20.heap.size) := KS20.out.size
  have T6_20 := Lib.hid (T6_19.out.keep KS20.out)
  clear T6_19
  have T7_20 := Lib.hid (T7_19.out.keep KS20.out)
  clear T7_19
  have T8_20 := Lib.hid (T8_19.out.keep KS20.out)
  clear T8_19
  have T10_20 := Lib.hid (T10_19.out.keep KS20.out)
  clear T10_19
  have T12_20 := Lib.hid (T12_19.out.keep KS20.out)
  clear T12_19
  have T14_20 := Lib.hid (T14_19.out.keep KS20.out)
  clear T14_19
  have c0_20 := cell_keep KS20.out c0_19
  clear c0_19
  have c1_20 := cell_keep KS20.out c1_19
  clear c1_19
  have c2_20 := cell_keep KS20.out c2_19
  clear c2_19
  have c3_20 := cell_keep KS20.out c3_19
  clear c3_19
  have c4_20 := cell_keep KS20.out c4_19
  clear c4_19
  have c5_20 := cell_keep KS20.out c5_19
  clear c5_19
  have c6_20 := cell_keep KS20.out c6_19
  clear c6_19
  have c7_20 := cell_keep KS20.out c7_19
  clear c7_19
  have c8_20 := cell_keep KS20.out c8_19
  clear c8_19
  have c9_20 := cell_keep KS20.out c9_19
  clear c9_19
  have c10_20 := cell_keep KS20.out c10_19
  clear c10_19
  have c11_20 := cell_keep KS20.out c11_19
  clear c11_19
  have c12_20 := cell_keep KS20.out c12_19
  clear c12_19
  have c13_20 := cell_keep KS20.out c13_19
  clear c13_19
  have c14_20 := cell_keep KS20.out c14_19
  clear c14_19
  have c15_20 := cell_keep KS20.out c15_19
  clear c15_19
  go_wp2_with fail
  refine (eqIntSS_any t14 t20 _ _ _ (T14_20.out.rows) (T20.out.rows)).mono ?_
  rintro e w21 ⟨rfl, d21⟩
  have KS21 : Hid (Keeps w20 w21) := d21.keeps
  clear d21
  have K21 : Hid (Keeps w w21) := Keeps.trans K20.out KS21.out
  have Z21 : Hid (w20.heap.size ≤ w21.heap.size) := KS21.out.size
  have T6_21 := Lib.hid (T6_20.out.keep KS21.out)
  clear T6_20
  have T7_21 := Lib.hid (T7_20.out.keep KS21.out)
  clear T7_20
  have T8_21 := Lib.hid (T8_20.out.keep KS21.out)
  clear T8_20
  have T10_21 := Lib.hid (T10_20.out.keep KS21.out)
  clear T10_20
  have T12_21 := Lib.hid (T12_20.out.keep KS21.out)
  clear T12_20
  have T14_21 := Lib.hid (T14_20.out.keep KS21.out)
  clear T14_20
  have T20_21 := Lib.hid (T20.out.keep KS21.out)
  clear T20
  have c0_21 := cell_keep KS21.out c0_20
  clear c0_20
  have c1_21 := cell_keep KS21.out c1_20
  clear c1_20
  have c2_21 := cell_keep KS21.out c2_20
  clear c2_20
  have c3_21 := cell_keep KS21.out c3_20
  clear c3_20
  have c4_21 := cell_keep KS21.out c4_20
  clear c4_20
  have c5_21 := cell_keep KS21.out c5_20
  clear c5_20
  have c6_21 := cell_keep KS21.out c6_20
  clear c6_20
  have c7_21 := cell_keep KS21.out c7_20
  clear c7_20
  have c8_21 := cell_keep KS21.out c8_20
  clear c8_20
  have c9_21 := cell_keep KS21.out c9_20
  clear c9_20
  have c10_21 := cell_keep KS21.out c10_20
  clear c10_20
  have c11_21 := cell_keep KS21.out c11_20
  clear c11_20
  have c12_21 := cell_keep KS21.out c12_20
  clear c12_20
  have c13_21 := cell_keep KS21.out c13_20
  clear c13_20
  have c14_21 := cell_keep KS21.out c14_20
  clear c14_20
  have c15_21 := cell_keep KS21.out c15_20
  clear c15_20
  go_wp2_with fail
  go_ret
  exact ⟨rfl, K21.out⟩

set_option maxHeartbeats 1600000 in
theorem lawIsConfigMap (v0 : Value) (l0 : PR) (v1 : Value) (l1 : PR) (v2 : Value) (l2 : List (List Int)) (w : World) (r0 : RdP w v0 l0) (il0 : okP l0) (r1 : RdP w v1 l1) (il1 : okP l1) (r2 : IntRows w v2 l2) (il2 : ∀ r ∈ l2, ∀ n ∈ r, I64 n) : Calls Try.prog 7 #[v0, v1, v2] w fun e w' => e = .returned (.bool true) ∧ Below w.heap.size w w' := by
  by_cases q0 : szP l0 ≤ 1048576
  case neg =>
    have R0 := Lib.hid r0
    obtain ⟨p0a2, p0c2, p0a3, p0c3, rfl⟩ := r0.shape
    have R1 := Lib.hid r1
    obtain ⟨p1a2, p1c2, p1a3, p1c3, rfl⟩ := r1.shape
    have R2 := Lib.hid r2
    obtain ⟨ad2, cp2, rfl, _⟩ := r2.form
    clear r0 il0 r1 il1 r2 il2
    go_enter Try.func7, Try.ntmps7
    go_wp2_with fail
    refine (szProblem_any _ l0 (1048576) _ (R0.out.keep (by repeat (first | exact Keeps.refl _ | with_reducible refine Keeps.alloc ?_ _))) (by omega) (by omega)).mono ?_
    rintro e W0 ⟨rfl, k0⟩
    rw [szL, if_neg (by omega)]
    have KK0 : Hid (Keeps w W0) := Keeps.trans (by repeat (first | exact Keeps.refl _ | with_reducible refine Keeps.alloc ?_ _)) k0
    obtain ⟨hc0, hf0⟩ := bcell k0
    have hz0 := k0.size
    clear k0
    go_wp2
    go_ret
    exact ⟨rfl, KK0.out⟩
  by_cases q1 : szP l0 + szP l1 ≤ 1048576
  case neg =>
    have R0 := Lib.hid r0
    obtain ⟨p0a2, p0c2, p0a3, p0c3, rfl⟩ := r0.shape
    have R1 := Lib.hid r1
    obtain ⟨p1a2, p1c2, p1a3, p1c3, rfl⟩ := r1.shape
    have R2 := Lib.hid r2
    obtain ⟨ad2, cp2, rfl, _⟩ := r2.form
    clear r0 il0 r1 il1 r2 il2
    go_enter Try.func7, Try.ntmps7
    go_wp2_with fail
    refine (szProblem_any _ l0 (1048576) _ (R0.out.keep (by repeat (first | exact Keeps.refl _ | with_reducible refine Keeps.alloc ?_ _))) (by omega) (by omega)).mono ?_
    rintro e W0 ⟨rfl, k0⟩
    rw [szL, if_pos (by omega)]
    have KK0 : Hid (Keeps w W0) := Keeps.trans (by repeat (first | exact Keeps.refl _ | with_reducible refine Keeps.alloc ?_ _)) k0
    obtain ⟨hc0, hf0⟩ := bcell k0
    have hz0 := k0.size
    clear k0
    go_wp2_with fail
    refine (szProblem_any _ l1 (1048576 - (szP l0 : Nat)) _ (R1.out.keep KK0.out) (by omega) (by omega)).mono ?_
    rintro e W1 ⟨rfl, k1⟩
    rw [szL, if_neg (by omega)]
    have KK1 : Hid (Keeps w W1) := Keeps.trans KK0.out k1
    obtain ⟨hc1, hf1⟩ := bcell k1
    have hz1 := k1.size
    clear k1
    go_wp2
    go_ret
    exact ⟨rfl, KK1.out⟩
  by_cases q2 : szP l0 + szP l1 + tot l2 ≤ 1048576
  case neg =>
    have R0 := Lib.hid r0
    obtain ⟨p0a2, p0c2, p0a3, p0c3, rfl⟩ := r0.shape
    have R1 := Lib.hid r1
    obtain ⟨p1a2, p1c2, p1a3, p1c3, rfl⟩ := r1.shape
    have R2 := Lib.hid r2
    obtain ⟨ad2, cp2, rfl, _⟩ := r2.form
    clear r0 il0 r1 il1 r2 il2
    go_enter Try.func7, Try.ntmps7
    go_wp2_with fail
    refine (szProblem_any _ l0 (1048576) _ (R0.out.keep (by repeat (first | exact Keeps.refl _ | with_reducible refine Keeps.alloc ?_ _))) (by omega) (by omega)).mono ?_
    rintro e W0 ⟨rfl, k0⟩
    rw [szL, if_pos (by omega)]
    have KK0 : Hid (Keeps w W0) := Keeps.trans (by repeat (first | exact Keeps.refl _ | with_reducible refine Keeps.alloc ?_ _)) k0
    obtain ⟨hc0, hf0⟩ := bcell k0
    have hz0 := k0.size
    clear k0
    go_wp2_with fail
    refine (szProblem_any _ l1 (1048576 - (szP l0 : Nat)) _ (R1.out.keep KK0.out) (by omega) (by omega)).mono ?_
    rintro e W1 ⟨rfl, k1⟩
    rw [szL, if_pos (by omega)]
    have KK1 : Hid (Keeps w W1) := Keeps.trans KK0.out k1
    obtain ⟨hc1, hf1⟩ := bcell k1
    have hz1 := k1.size
    clear k1
    go_wp2_with fail
    refine (szIntSS_kp _ l2 (1048576 - (szP l0 : Nat) - (szP l1 : Nat)) _ (R2.out.keep KK1.out) (by omega) (by omega)).mono ?_
    rintro e W2 ⟨rfl, k2⟩
    rw [szL, if_neg (by omega)]
    have KK2 : Hid (Keeps w W2) := Keeps.trans KK1.out k2
    obtain ⟨hc2, hf2⟩ := bcell k2
    have hz2 := k2.size
    clear k2
    go_wp2
    go_ret
    exact ⟨rfl, KK2.out⟩
  exact lawIsConfigMap_small v0 l0 r0 il0 v1 l1 r1 il1 v2 l2 r2 il2 (by omega) (by omega) (by omega) (by omega)
end Go.Proofs.Ytiejigogmnkjdaa
