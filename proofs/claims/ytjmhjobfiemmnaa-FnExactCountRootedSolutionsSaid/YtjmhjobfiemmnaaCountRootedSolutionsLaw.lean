/- The walk of laws.FnExactCountRootedSolutions: it returns true at every input and changes nothing that was there. -/
import Derived.Test.YtjmhjobfiemmnaaCsx
import Derived.Test.YtjmhjobfiemmnaaRng
import Derived.Test.YtjmhjobfiemmnaaOpen
import Derived.Deep.RegionHeld3
namespace Go.Proofs.Ytjmhjobfiemmnaa
open Go.RowKit
set_option linter.unusedSimpArgs false
set_option linter.unusedVariables false

set_option maxRecDepth 100000 in
set_option maxHeartbeats 8000000 in
theorem lawCountRootedSolutions_small {w : World} (v0 : Value) (l0 : RP) (r0 : RdR w v0 l0) (il0 : okR l0) (v1 : Value) (l1 : List Int) (r1 : Ints w v1 l1) (il1 : ∀ n ∈ l1, I64 n) (s0 : szR l0 ≤ 1048576) (s1 : l1.length ≤ 1048576) : Calls Try.prog 3 #[v0, v1] w fun e w' => e = .returned (.bool true) ∧ Below w.heap.size w w' := by
  have HE := Lib.hid (CountRootedSolutions_eq l0 l1 il0 s0 il1 s1)
  have R0 := Lib.hid r0
  have IL0 := Lib.hid il0
  obtain ⟨p0a2, p0c2, rfl⟩ := r0.shape
  clear r0 il0
  have R1 := Lib.hid r1
  have IL1 := Lib.hid il1
  obtain ⟨ad1, cp1, rfl, _⟩ := r1.form
  clear r1 il1
  have K0 : Hid (Keeps w w) := Keeps.refl w
  go_enter Try.func3, Try.ntmps3
  go_wp2_with fail
  have KS1 : Hid (Keeps w (w.alloc (.cells #[.int .i64 l0.labels, .int .i64 l0.children, .slice p0a2 l0.lines.length p0c2] 24))) := (Keeps.refl _).alloc _
  have Z1' : Hid (w.heap.size + 1 ≤ (w.alloc (.cells #[.int .i64 l0.labels, .int .i64 l0.children, .slice p0a2 l0.lines.length p0c2] 24)).heap.size) := by show _ ≤ _; simp
  have E1 : (w.alloc (.cells #[.int .i64 l0.labels, .int .i64 l0.children, .slice p0a2 l0.lines.length p0c2] 24)).heap.size = w.heap.size + 1 := by rw [World.size_alloc]
  have c0_1 : (w.alloc (.cells #[.int .i64 l0.labels, .int .i64 l0.children, .slice p0a2 l0.lines.length p0c2] 24)).cell? ⟨w.heap.size, 0, none⟩ = some (.int .i64 l0.labels) := by rw [World.cell?_alloc_at _ _ _ _ rfl]; rfl
  have c1_1 : (w.alloc (.cells #[.int .i64 l0.labels, .int .i64 l0.children, .slice p0a2 l0.lines.length p0c2] 24)).cell? ⟨w.heap.size, 1, none⟩ = some (.int .i64 l0.children) := by rw [World.cell?_alloc_at _ _ _ _ rfl]; rfl
  have c2_1 : (w.alloc (.cells #[.int .i64 l0.labels, .int .i64 l0.children, .slice p0a2 l0.lines.length p0c2] 24)).cell? ⟨w.heap.size, 2, none⟩ = some (.slice p0a2 l0.lines.length p0c2) := by rw [World.cell?_alloc_at _ _ _ _ rfl]; rfl
  generalize w.alloc (.cells #[.int .i64 l0.labels, .int .i64 l0.children, .slice p0a2 l0.lines.length p0c2] 24) = w1 at KS1 Z1' E1 c0_1 c1_1 c2_1 ⊢
  have K1 : Hid (Keeps w w1) := Keeps.trans K0.out KS1.out
  have Z1 : Hid (w.heap.size ≤ w1.heap.size) := KS1.out.size
  clear E1
  refine (szRootedProblem_any _ l0 1048576 _ (R0.out.keep K1.out) (by omega) (by omega)).mono ?_
  rintro e w2 ⟨rfl, k2⟩
  rw [szL, if_pos (by omega)]
  have KS2 : Hid (Keeps w1 w2) := k2
  clear k2
  have K2 : Hid (Keeps w w2) := Keeps.trans K1.out KS2.out
  have Z2 : Hid (w1.heap.size ≤ w2.heap.size) := KS2.out.size
  have c0_2 := cell_keep KS2.out c0_1
  clear c0_1
  have c1_2 := cell_keep KS2.out c1_1
  clear c1_1
  have c2_2 := cell_keep KS2.out c2_1
  clear c2_1
  go_wp2_with fail
  refine (toRootedProblem_any _ l0 _ (R0.out.keep K2.out) s0).mono ?_
  rintro e w3 ⟨t3, rfl, o3, k3⟩
  obtain ⟨t3a2, t3c2, rfl⟩ := o3.rd.shape
  have T3 := Lib.hid o3
  clear o3
  have KS3 : Hid (Keeps w2 w3) := k3
  clear k3
  have K3 : Hid (Keeps w w3) := Keeps.trans K2.out KS3.out
  have Z3 : Hid (w2.heap.size ≤ w3.heap.size) := KS3.out.size
  have c0_3 := cell_keep KS3.out c0_2
  clear c0_2
  have c1_3 := cell_keep KS3.out c1_2
  clear c1_2
  have c2_3 := cell_keep KS3.out c2_2
  clear c2_2
  go_wp2_with fail
  refine (toIntS_any _ l1 _ (R1.out.keep K3.out) s1).mono ?_
  rintro e w4 ⟨t4, rfl, o4, k4⟩
  have T4 := Lib.hid o4.owI
  clear o4
  have KS4 : Hid (Keeps w3 w4) := k4
  clear k4
  have K4 : Hid (Keeps w w4) := Keeps.trans K3.out KS4.out
  have Z4 : Hid (w3.heap.size ≤ w4.heap.size) := KS4.out.size
  have T3_4 := Lib.hid (T3.out.keep KS4.out)
  clear T3
  have c0_4 := cell_keep KS4.out c0_3
  clear c0_3
  have c1_4 := cell_keep KS4.out c1_3
  clear c1_3
  have c2_4 := cell_keep KS4.out c2_3
  clear c2_3
  go_wp2_with fail
  refine (specCountRootedSolutions_any (.agg #[.int .i64 l0.labels, .int .i64 l0.children, .slice t3a2 l0.lines.length t3c2]) l0 t4 l1 _ (T3_4.out.rd) IL0.out s0 (T4.out.ints) IL1.out s1).mono ?_
  rintro e w5 ⟨rfl, k5⟩
  generalize fCountRootedSolutionsSpec l0 l1 = R at *
  obtain ⟨Ra, Rb⟩ := R
  simp only at HE ⊢
  have KS5 : Hid (Keeps w4 w5) := k5
  clear k5
  have K5 : Hid (Keeps w w5) := Keeps.trans K4.out KS5.out
  have Z5 : Hid (w4.heap.size ≤ w5.heap.size) := KS5.out.size
  have T3_5 := Lib.hid (T3_4.out.keep KS5.out)
  clear T3_4
  have T4_5 := Lib.hid (T4.out.keep KS5.out)
  clear T4
  have c0_5 := cell_keep KS5.out c0_4
  clear c0_4
  have c1_5 := cell_keep KS5.out c1_4
  clear c1_4
  have c2_5 := cell_keep KS5.out c2_4
  clear c2_4
  go_wp2_with fail
  refine (toRootedProblem_any _ l0 _ (R0.out.keep K5.out) s0).mono ?_
  rintro e w6 ⟨t6, rfl, o6, k6⟩
  obtain ⟨t6a2, t6c2, rfl⟩ := o6.rd.shape
  have T6 := Lib.hid o6
  clear o6
  have KS6 : Hid (Keeps w5 w6) := k6
  clear k6
  have K6 : Hid (Keeps w w6) := Keeps.trans K5.out KS6.out
  have Z6 : Hid (w5.heap.size ≤ w6.heap.size) := KS6.out.size
  have T3_6 := Lib.hid (T3_5.out.keep KS6.out)
  clear T3_5
  have T4_6 := Lib.hid (T4_5.out.keep KS6.out)
  clear T4_5
  have c0_6 := cell_keep KS6.out c0_5
  clear c0_5
  have c1_6 := cell_keep KS6.out c1_5
  clear c1_5
  have c2_6 := cell_keep KS6.out c2_5
  clear c2_5
  have pre1 : (w6.alloc (.cells #[.int .i64 l0.labels, .int .i64 l0.children, .slice t6a2 l0.lines.length t6c2] 29)).cell? ⟨w.heap.size, 0, none⟩ = some (.int .i64 l0.labels) := cell_keep ((Keeps.refl _).alloc _) c0_6
  have pre2 : (w6.alloc (.cells #[.int .i64 l0.labels, .int .i64 l0.children, .slice t6a2 l0.lines.length t6c2] 29)).cell? ⟨w.heap.size, 1, none⟩ = some (.int .i64 l0.children) := cell_keep ((Keeps.refl _).alloc _) c1_6
  have pre3 : (w6.alloc (.cells #[.int .i64 l0.labels, .int .i64 l0.children, .slice t6a2 l0.lines.length t6c2] 29)).cell? ⟨w.heap.size, 2, none⟩ = some (.slice p0a2 l0.lines.length p0c2) := cell_keep ((Keeps.refl _).alloc _) c2_6
  go_wp2_with fail
  clear pre1 pre2 pre3
  have KS7 : Hid (Keeps w6 (w6.alloc (.cells #[.int .i64 l0.labels, .int .i64 l0.children, .slice t6a2 l0.lines.length t6c2] 29))) := (Keeps.refl _).alloc _
  have Z7' : Hid (w6.heap.size + 1 ≤ (w6.alloc (.cells #[.int .i64 l0.labels, .int .i64 l0.children, .slice t6a2 l0.lines.length t6c2] 29)).heap.size) := by show _ ≤ _; simp
  have E7 : (w6.alloc (.cells #[.int .i64 l0.labels, .int .i64 l0.children, .slice t6a2 l0.lines.length t6c2] 29)).heap.size = w6.heap.size + 1 := by rw [World.size_alloc]
  have c3_7 : (w6.alloc (.cells #[.int .i64 l0.labels, .int .i64 l0.children, .slice t6a2 l0.lines.length t6c2] 29)).cell? ⟨w6.heap.size, 0, none⟩ = some (.int .i64 l0.labels) := by rw [World.cell?_alloc_at _ _ _ _ rfl]; rfl
  have c4_7 : (w6.alloc (.cells #[.int .i64 l0.labels, .int .i64 l0.children, .slice t6a2 l0.lines.length t6c2] 29)).cell? ⟨w6.heap.size, 1, none⟩ = some (.int .i64 l0.children) := by rw [World.cell?_alloc_at _ _ _ _ rfl]; rfl
  have c5_7 : (w6.alloc (.cells #[.int .i64 l0.labels, .int .i64 l0.children, .slice t6a2 l0.lines.length t6c2] 29)).cell? ⟨w6.heap.size, 2, none⟩ = some (.slice t6a2 l0.lines.length t6c2) := by rw [World.cell?_alloc_at _ _ _ _ rfl]; rfl
  generalize w6.alloc (.cells #[.int .i64 l0.labels, .int .i64 l0.children, .slice t6a2 l0.lines.length t6c2] 29) = w7 at KS7 Z7' E7 c3_7 c4_7 c5_7 ⊢
  have K7 : Hid (Keeps w w7) := Keeps.trans K6.out KS7.out
  have Z7 : Hid (w6.heap.size ≤ w7.heap.size) := KS7.out.size
  have T3_7 := Lib.hid (T3_6.out.keep KS7.out)
  clear T3_6
  have T4_7 := Lib.hid (T4_6.out.keep KS7.out)
  clear T4_6
  have T6_7 := Lib.hid (T6.out.keep KS7.out)
  clear T6
  have c0_7 := cell_keep KS7.out c0_6
  clear c0_6
  have c1_7 := cell_keep KS7.out c1_6
  clear c1_6
  have c2_7 := cell_keep KS7.out c2_6
  clear c2_6
  clear E7
  refine (toIntS_any _ l1 _ (R1.out.keep K7.out) s1).mono ?_
  rintro e w8 ⟨t8, rfl, o8, k8⟩
  have T8 := Lib.hid o8.owI
  clear o8
  have KS8 : Hid (Keeps w7 w8) := k8
  clear k8
  have K8 : Hid (Keeps w w8) := Keeps.trans K7.out KS8.out
  have Z8 : Hid (w7.heap.size ≤ w8.heap.size) := KS8.out.size
  have T3_8 := Lib.hid (T3_7.out.keep KS8.out)
  clear T3_7
  have T4_8 := Lib.hid (T4_7.out.keep KS8.out)
  clear T4_7
  have T6_8 := Lib.hid (T6_7.out.keep KS8.out)
  clear T6_7
  have c0_8 := cell_keep KS8.out c0_7
  clear c0_7
  have c1_8 := cell_keep KS8.out c1_7
  clear c1_7
  have c2_8 := cell_keep KS8.out c2_7
  clear c2_7
  have c3_8 := cell_keep KS8.out c3_7
  clear c3_7
  have c4_8 := cell_keep KS8.out c4_7
  clear c4_7
  have c5_8 := cell_keep KS8.out c5_7
  clear c5_7
  go_wp2_with fail
  refine (implCountRootedSolutions_any (.agg #[.int .i64 l0.labels, .int .i64 l0.children, .slice t6a2 l0.lines.length t6c2]) l0 t8 l1 _ (T6_8.out.rd) IL0.out s0 (T8.out.ints) IL1.out s1).mono ?_
  rw [HE.out]
  rintro e w9 ⟨rfl, k9⟩
  have KS9 : Hid (Keeps w8 w9) := k9
  clear k9
  have K9 : Hid (Keeps w w9) := Keeps.trans K8.out KS9.out
  have Z9 : Hid (w8.heap.size ≤ w9.heap.size) := KS9.out.size
  have T3_9 := Lib.hid (T3_8.out.keep KS9.out)
  clear T3_8
  have T4_9 := Lib.hid (T4_8.out.keep KS9.out)
  clear T4_8
  have T6_9 := Lib.hid (T6_8.out.keep KS9.out)
  clear T6_8
  have T8_9 := Lib.hid (T8.out.keep KS9.out)
  clear T8
  have c0_9 := cell_keep KS9.out c0_8
  clear c0_8
  have c1_9 := cell_keep KS9.out c1_8
  clear c1_8
  have c2_9 := cell_keep KS9.out c2_8
  clear c2_8
  have c3_9 := cell_keep KS9.out c3_8
  clear c3_8
  have c4_9 := cell_keep KS9.out c4_8
  clear c4_8
  have c5_9 := cell_keep KS9.out c5_8
  clear c5_8
  go_wp2_with fail
  have SK : Hid (∀ W : World, Keeps w9 W → W.cell? ⟨w.heap.size, 0, none⟩ = some (.int .i64 l0.labels) ∧ W.cell? ⟨w.heap.size, 1, none⟩ = some (.int .i64 l0.children) ∧ W.cell? ⟨w.heap.size, 2, none⟩ = some (.slice p0a2 l0.lines.length p0c2) ∧ W.cell? ⟨w6.heap.size, 0, none⟩ = some (.int .i64 l0.labels) ∧ W.cell? ⟨w6.heap.size, 1, none⟩ = some (.int .i64 l0.children) ∧ W.cell? ⟨w6.heap.size, 2, none⟩ = some (.slice t6a2 l0.lines.length t6c2)) := fun W k => ⟨cell_keep k c0_9, cell_keep k c1_9, cell_keep k c2_9, cell_keep k c3_9, cell_keep k c4_9, cell_keep k c5_9⟩
  have KD : Hid (Keeps w9 w9.drew) := (Keeps.refl _).drew
  go_region_held3 (fun W => W.cell? ⟨w.heap.size, 0, none⟩ = some (.int .i64 l0.labels) ∧ W.cell? ⟨w.heap.size, 1, none⟩ = some (.int .i64 l0.children) ∧ W.cell? ⟨w.heap.size, 2, none⟩ = some (.slice p0a2 l0.lines.length p0c2) ∧ W.cell? ⟨w6.heap.size, 0, none⟩ = some (.int .i64 l0.labels) ∧ W.cell? ⟨w6.heap.size, 1, none⟩ = some (.int .i64 l0.children) ∧ W.cell? ⟨w6.heap.size, 2, none⟩ = some (.slice t6a2 l0.lines.length t6c2)) (first | exact SK.out _ KD.out | exact SK.out _ (Keeps.trans KD.out KS10'.out) | exact SK.out _ (Keeps.trans KD.out (Keeps.trans KS10'.out KS11.out)))
    ((first
      | (go_at_call 7; refine (toRootedProblem_any _ l0 _ (R0.out.keep (Keeps.trans K9.out KD.out)) s0).mono ?_; rintro e w10 ⟨tt, rfl, o10, k10⟩; obtain ⟨t10a2, t10c2, rfl⟩ := o10.rd.shape; have T10 := Lib.hid o10; have KS10' := Lib.hid k10; clear o10 k10)
      | (go_at_call 10; refine (eqRootedProblem_same _ _ l0 _ ((T6_9.out.rd).keep (Keeps.trans KD.out KS10'.out)) T10.out.rd).mono ?_; rintro e w11 ⟨rfl, k11⟩; have KS11 := Lib.hid k11; clear k11)))
  have KS10 : Hid (Keeps w9 w10) := Keeps.trans KD.out KS10'.out
  have K10 : Hid (Keeps w w10) := Keeps.trans K9.out KS10.out
  have Z10 : Hid (w9.heap.size ≤ w10.heap.size) := KS10.out.size
  have T3_10 := Lib.hid (T3_9.out.keep KS10.out)
  clear T3_9
  have T4_10 := Lib.hid (T4_9.out.keep KS10.out)
  clear T4_9
  have T6_10 := Lib.hid (T6_9.out.keep KS10.out)
  clear T6_9
  have T8_10 := Lib.hid (T8_9.out.keep KS10.out)
  clear T8_9
  have c0_10 := cell_keep KS10.out c0_9
  clear c0_9
  have c1_10 := cell_keep KS10.out c1_9
  clear c1_9
  have c2_10 := cell_keep KS10.out c2_9
  clear c2_9
  have c3_10 := cell_keep KS10.out c3_9
  clear c3_9
  have c4_10 := cell_keep KS10.out c4_9
  clear c4_9
  have c5_10 := cell_keep KS10.out c5_9
  clear c5_9
  have K11 : Hid (Keeps w w11) := Keeps.trans K10.out KS11.out
  have Z11 : Hid (w10.heap.size ≤ w11.heap.size) := KS11.out.size
  have T3_11 := Lib.hid (T3_10.out.keep KS11.out)
  clear T3_10
  have T4_11 := Lib.hid (T4_10.out.keep KS11.out)
  clear T4_10
  have T6_11 := Lib.hid (T6_10.out.keep KS11.out)
  clear T6_10
  have T8_11 := Lib.hid (T8_10.out.keep KS11.out)
  clear T8_10
  have c0_11 := cell_keep KS11.out c0_10
  clear c0_10
  have c1_11 := cell_keep KS11.out c1_10
  clear c1_10
  have c2_11 := cell_keep KS11.out c2_10
  clear c2_10
  have c3_11 := cell_keep KS11.out c3_10
  clear c3_10
  have c4_11 := cell_keep KS11.out c4_10
  clear c4_10
  have c5_11 := cell_keep KS11.out c5_10
  clear c5_10
  clear SK KD
  go_wp2_with fail
  refine (toIntS_any _ l1 _ (R1.out.keep K11.out) s1).mono ?_
  rintro e w12 ⟨t12, rfl, o12, k12⟩
  have T12 := Lib.hid o12.owI
  clear o12
  have KS12 : Hid (Keeps w11 w12) := k12
  clear k12
  have K12 : Hid (Keeps w w12) := Keeps.trans K11.out KS12.out
  have Z12 : Hid (w11.heap.size ≤ w12.heap.size) := KS12.out.size
  have T3_12 := Lib.hid (T3_11.out.keep KS12.out)
  clear T3_11
  have T4_12 := Lib.hid (T4_11.out.keep KS12.out)
  clear T4_11
  have T6_12 := Lib.hid (T6_11.out.keep KS12.out)
  clear T6_11
  have T8_12 := Lib.hid (T8_11.out.keep KS12.out)
  clear T8_11
  have c0_12 := cell_keep KS12.out c0_11
  clear c0_11
  have c1_12 := cell_keep KS12.out c1_11
  clear c1_11
  have c2_12 := cell_keep KS12.out c2_11
  clear c2_11
  have c3_12 := cell_keep KS12.out c3_11
  clear c3_11
  have c4_12 := cell_keep KS12.out c4_11
  clear c4_11
  have c5_12 := cell_keep KS12.out c5_11
  clear c5_11
  go_wp2_with fail
  refine (eqIntS_any t8 t12 _ _ _ (T8_12.out.ints) (T12.out.ints)).mono ?_
  rintro e w13 ⟨rfl, d13⟩
  have KS13 : Hid (Keeps w12 w13) := d13.keeps
  clear d13
  have K13 : Hid (Keeps w w13) := Keeps.trans K12.out KS13.out
  have Z13 : Hid (w12.heap.size ≤ w13.heap.size) := KS13.out.size
  have T3_13 := Lib.hid (T3_12.out.keep KS13.out)
  clear T3_12
  have T4_13 := Lib.hid (T4_12.out.keep KS13.out)
  clear T4_12
  have T6_13 := Lib.hid (T6_12.out.keep KS13.out)
  clear T6_12
  have T8_13 := Lib.hid (T8_12.out.keep KS13.out)
  clear T8_12
  have T12_13 := Lib.hid (T12.out.keep KS13.out)
  clear T12
  have c0_13 := cell_keep KS13.out c0_12
  clear c0_12
  have c1_13 := cell_keep KS13.out c1_12
  clear c1_12
  have c2_13 := cell_keep KS13.out c2_12
  clear c2_12
  have c3_13 := cell_keep KS13.out c3_12
  clear c3_12
  have c4_13 := cell_keep KS13.out c4_12
  clear c4_12
  have c5_13 := cell_keep KS13.out c5_12
  clear c5_12
  go_wp2_with fail
  go_ret
  exact ⟨rfl, K13.out⟩

set_option maxHeartbeats 1600000 in
theorem lawCountRootedSolutions (v0 : Value) (l0 : RP) (v1 : Value) (l1 : List Int) (w : World) (r0 : RdR w v0 l0) (il0 : okR l0) (r1 : Ints w v1 l1) (il1 : ∀ n ∈ l1, I64 n) : Calls Try.prog 3 #[v0, v1] w fun e w' => e = .returned (.bool true) ∧ Below w.heap.size w w' := by
  by_cases s1 : l1.length ≤ 1048576
  case neg =>
    have R0 := Lib.hid r0
    obtain ⟨p0a2, p0c2, rfl⟩ := r0.shape
    have R1 := Lib.hid r1
    obtain ⟨ad1, cp1, rfl, _⟩ := r1.form
    clear r0 il0 r1 il1
    have hgt : (1048576 : Int) < (l1.length : Int) := by omega
    go_enter Try.func3, Try.ntmps3
    go_wp2
    go_ret
    exact ⟨rfl, (by repeat (first | exact Keeps.refl _ | with_reducible refine Keeps.alloc ?_ _))⟩
  by_cases q0 : szR l0 ≤ 1048576
  case neg =>
    have R0 := Lib.hid r0
    obtain ⟨p0a2, p0c2, rfl⟩ := r0.shape
    have R1 := Lib.hid r1
    obtain ⟨ad1, cp1, rfl, _⟩ := r1.form
    clear r0 il0 r1 il1
    have hle1 : ¬ (1048576 : Int) < (l1.length : Int) := by omega
    go_enter Try.func3, Try.ntmps3
    go_wp2_with fail
    refine (szRootedProblem_any _ l0 (1048576) _ (R0.out.keep (by repeat (first | exact Keeps.refl _ | with_reducible refine Keeps.alloc ?_ _))) (by omega) (by omega)).mono ?_
    rintro e W0 ⟨rfl, k0⟩
    rw [szL, if_neg (by omega)]
    have KK0 : Hid (Keeps w W0) := Keeps.trans (by repeat (first | exact Keeps.refl _ | with_reducible refine Keeps.alloc ?_ _)) k0
    obtain ⟨hc0, hf0⟩ := bcell k0
    have hz0 := k0.size
    clear k0
    go_wp2
    go_ret
    exact ⟨rfl, KK0.out⟩
  exact lawCountRootedSolutions_small v0 l0 r0 il0 v1 l1 r1 il1 (by omega) s1
end Go.Proofs.Ytjmhjobfiemmnaa
