/- The walk of laws.FnExactCompleteRooted: it returns true at every input and changes nothing that was there. -/
import Derived.Test.YtjmhjobfiemmnaaCrx
import Derived.Test.YtjmhjobfiemmnaaRng
import Derived.Test.YtjmhjobfiemmnaaOpen
import Derived.Deep.RegionHeld3
namespace Go.Proofs.Ytjmhjobfiemmnaa
open Go.RowKit
set_option linter.unusedSimpArgs false
set_option linter.unusedVariables false

set_option maxRecDepth 100000 in
set_option maxHeartbeats 8000000 in
theorem lawCompleteRooted_small {w : World} (v0 : Value) (l0 : RP) (r0 : RdR w v0 l0) (il0 : okR l0) (v1 : Value) (l1 : List Int) (r1 : Ints w v1 l1) (il1 : ∀ n ∈ l1, I64 n) (v2 : Value) (l2 : List Int) (r2 : Ints w v2 l2) (il2 : ∀ n ∈ l2, I64 n) (s0 : szR l0 ≤ 1048576) (s1 : l1.length ≤ 1048576) (s2 : l2.length ≤ 1048576) : Calls Try.prog 4 #[v0, v1, v2] w fun e w' => e = .returned (.bool true) ∧ Below w.heap.size w w' := by
  have HE := Lib.hid (CompleteRooted_eq l0 l1 l2 il0 s0 il1 s1 il2 s2)
  have R0 := Lib.hid r0
  have IL0 := Lib.hid il0
  obtain ⟨p0a2, p0c2, rfl⟩ := r0.shape
  clear r0 il0
  have R1 := Lib.hid r1
  have IL1 := Lib.hid il1
  obtain ⟨ad1, cp1, rfl, _⟩ := r1.form
  clear r1 il1
  have R2 := Lib.hid r2
  have IL2 := Lib.hid il2
  obtain ⟨ad2, cp2, rfl, _⟩ := r2.form
  clear r2 il2
  have K0 : Hid (Keeps w w) := Keeps.refl w
  go_enter Try.func4, Try.ntmps4
  go_wp2_with fail
  have KS1 : Hid (Keeps w (w.alloc (.cells #[.int .i64 l0.labels, .int .i64 l0.children, .slice p0a2 l0.lines.length p0c2] 24))) := (Keeps.refl _).alloc _
  have Z1' : Hid (w.heap.size + 1 ≤ (w.alloc (.cells #[.int .i64 l0.labels, .int .i64 l0.children, .slice p0a2 l0.lines.length p0c2] 24)).heap.size) := by show _ ≤ _; simp
  have E1 : (w.alloc (.cells #[.int .i64 l0.labels, .int .i64 l0.children, .slice p0a2 l0.lines.length p0c2] 24)).heap.size = w.heap.size + 1 := by rw [World.size_alloc]
  have c0_1 : (w.alloc (.cells #[.int .i64 l0.labels, .int .i64 l0.children, .slice p0a2 l0.lines.length p0c2] 24)).cell? ⟨w.heap.size, 0, none⟩ = some (.int .i64 l0.labels) := by rw [World.cell?_alloc_at _ _ _ _ rfl]; rfl
  have c1_1 : (w.alloc (.cells #[.int .i64 l0.labels, .int .i64 l0.children, .slice p0a2 l0.lines.length p0c2] 24)).cell? ⟨w.heap.size, 1, none⟩ = some (.int .i64 l0.children) := by rw [World.cell?_alloc_at _ _ _ _ rfl]; rfl
  have c2_1 : (w.alloc (.cells #[.int .i64 l0.labels, .int .i64 l0.children, .slice p0a2 l0.lines.length p0c2] 24)).cell? ⟨w.heap.size, 2, none⟩ = some (.slice p0a2 l0.lines.length p0c2) := by rw [World.cell?_alloc_at _ _ _ _ rfl]; rfl
  generalize w.alloc (.cells #[.int .i64 l0.labels, .int .i64 l0.children, .slice p0a2 l0.lines.length p0c2] 24) = w1 at KS1 Z1' E1 c0_1 c1_1 c2_1 ⊢
  have K1 : Hid (Keeps w w1) := Keeps.trans K0.out KS1.out
  have Z1 : Hid (w.heap.size ≤ w1.heap.size) := KS1.out.size
  clear E1
  refine (szRootedProblem_any _ l0 1048576 _ (R0.out.keep K1.out) (by omega) (by omega)).mono ?_
  rintro e w2 ⟨rfl, k2⟩
  rw [szL, if_pos (by omega)]
  have KS2 : Hid (Keeps w1 w2) := k2
  clear k2
  have K2 : Hid (Keeps w w2) := Keeps.trans K1.out KS2.out
  have Z2 : Hid (w1.heap.size ≤ w2.heap.size) := KS2.out.size
  have c0_2 := cell_keep KS2.out c0_1
  clear c0_1
  have c1_2 := cell_keep KS2.out c1_1
  clear c1_1
  have c2_2 := cell_keep KS2.out c2_1
  clear c2_1
  go_wp2_with fail
  refine (toRootedProblem_any _ l0 _ (R0.out.keep K2.out) s0).mono ?_
  rintro e w3 ⟨t3, rfl, o3, k3⟩
  obtain ⟨t3a2, t3c2, rfl⟩ := o3.rd.shape
  have T3 := Lib.hid o3
  clear o3
  have KS3 : Hid (Keeps w2 w3) := k3
  clear k3
  have K3 : Hid (Keeps w w3) := Keeps.trans K2.out KS3.out
  have Z3 : Hid (w2.heap.size ≤ w3.heap.size) := KS3.out.size
  have c0_3 := cell_keep KS3.out c0_2
  clear c0_2
  have c1_3 := cell_keep KS3.out c1_2
  clear c1_2
  have c2_3 := cell_keep KS3.out c2_2
  clear c2_2
  go_wp2_with fail
  refine (toIntS_any _ l1 _ (R1.out.keep K3.out) s1).mono ?_
  rintro e w4 ⟨t4, rfl, o4, k4⟩
  have T4 := Lib.hid o4.owI
  clear o4
  have KS4 : Hid (Keeps w3 w4) := k4
  clear k4
  have K4 : Hid (Keeps w w4) := Keeps.trans K3.out KS4.out
  have Z4 : Hid (w3.heap.size ≤ w4.heap.size) := KS4.out.size
  have T3_4 := Lib.hid (T3.out.keep KS4.out)
  clear T3
  have c0_4 := cell_keep KS4.out c0_3
  clear c0_3
  have c1_4 := cell_keep KS4.out c1_3
  clear c1_3
  have c2_4 := cell_keep KS4.out c2_3
  clear c2_3
  go_wp2_with fail
  refine (toIntS_any _ l2 _ (R2.out.keep K4.out) s2).mono ?_
  rintro e w5 ⟨t5, rfl, o5, k5⟩
  have T5 := Lib.hid o5.owI
  clear o5
  have KS5 : Hid (Keeps w4 w5) := k5
  clear k5
  have K5 : Hid (Keeps w w5) := Keeps.trans K4.out KS5.out
  have Z5 : Hid (w4.heap.size ≤ w5.heap.size) := KS5.out.size
  have T3_5 := Lib.hid (T3_4.out.keep KS5.out)
  clear T3_4
  have T4_5 := Lib.hid (T4.out.keep KS5.out)
  clear T4
  have c0_5 := cell_keep KS5.out c0_4
  clear c0_4
  have c1_5 := cell_keep KS5.out c1_4
  clear c1_4
  have c2_5 := cell_keep KS5.out c2_4
  clear c2_4
  go_wp2_with fail
  refine (specCompleteRooted_any (.agg #[.int .i64 l0.labels, .int .i64 l0.children, .slice t3a2 l0.lines.length t3c2]) l0 t4 l1 t5 l2 _ (T3_5.out.rd) IL0.out s0 (T4_5.out.ints) IL1.out s1 (T5.out.ints) IL2.out s2).mono ?_
  rintro e w6 ⟨x6, rfl, o6, b6, k6⟩
  generalize fCompleteRootedSpec l0 l1 l2 = R at *
  generalize hL : R.getD [] = L at *
  have HL := Lib.hid hL
  clear hL
  have BL : L.length ≤ 1000000000 := b6
  have T6 := Lib.hid o6.owI
  clear o6 b6
  have KS6 : Hid (Keeps w5 w6) := k6
  clear k6
  have K6 : Hid (Keeps w w6) := Keeps.trans K5.out KS6.out
  have Z6 : Hid (w5.heap.size ≤ w6.heap.size) := KS6.out.size
  have T3_6 := Lib.hid (T3_5.out.keep KS6.out)
  clear T3_5
  have T4_6 := Lib.hid (T4_5.out.keep KS6.out)
  clear T4_5
  have T5_6 := Lib.hid (T5.out.keep KS6.out)
  clear T5
  have c0_6 := cell_keep KS6.out c0_5
  clear c0_5
  have c1_6 := cell_keep KS6.out c1_5
  clear c1_5
  have c2_6 := cell_keep KS6.out c2_5
  clear c2_5
  go_wp2_with fail
  refine (toRootedProblem_any _ l0 _ (R0.out.keep K6.out) s0).mono ?_
  rintro e w7 ⟨t7, rfl, o7, k7⟩
  obtain ⟨t7a2, t7c2, rfl⟩ := o7.rd.shape
  have T7 := Lib.hid o7
  clear o7
  have KS7 : Hid (Keeps w6 w7) := k7
  clear k7
  have K7 : Hid (Keeps w w7) := Keeps.trans K6.out KS7.out
  have Z7 : Hid (w6.heap.size ≤ w7.heap.size) := KS7.out.size
  have T3_7 := Lib.hid (T3_6.out.keep KS7.out)
  clear T3_6
  have T4_7 := Lib.hid (T4_6.out.keep KS7.out)
  clear T4_6
  have T5_7 := Lib.hid (T5_6.out.keep KS7.out)
  clear T5_6
  have T6_7 := Lib.hid (T6.out.keep KS7.out)
  clear T6
  have c0_7 := cell_keep KS7.out c0_6
  clear c0_6
  have c1_7 := cell_keep KS7.out c1_6
  clear c1_6
  have c2_7 := cell_keep KS7.out c2_6
  clear c2_6
  have pre1 : (w7.alloc (.cells #[.int .i64 l0.labels, .int .i64 l0.children, .slice t7a2 l0.lines.length t7c2] 29)).cell? ⟨w.heap.size, 0, none⟩ = some (.int .i64 l0.labels) := cell_keep ((Keeps.refl _).alloc _) c0_7
  have pre2 : (w7.alloc (.cells #[.int .i64 l0.labels, .int .i64 l0.children, .slice t7a2 l0.lines.length t7c2] 29)).cell? ⟨w.heap.size, 1, none⟩ = some (.int .i64 l0.children) := cell_keep ((Keeps.refl _).alloc _) c1_7
  have pre3 : (w7.alloc (.cells #[.int .i64 l0.labels, .int .i64 l0.children, .slice t7a2 l0.lines.length t7c2] 29)).cell? ⟨w.heap.size, 2, none⟩ = some (.slice p0a2 l0.lines.length p0c2) := cell_keep ((Keeps.refl _).alloc _) c2_7
  go_wp2_with fail
  clear pre1 pre2 pre3
  have KS8 : Hid (Keeps w7 (w7.alloc (.cells #[.int .i64 l0.labels, .int .i64 l0.children, .slice t7a2 l0.lines.length t7c2] 29))) := (Keeps.refl _).alloc _
  have Z8' : Hid (w7.heap.size + 1 ≤ (w7.alloc (.cells #[.int .i64 l0.labels, .int .i64 l0.children, .slice t7a2 l0.lines.length t7c2] 29)).heap.size) := by show _ ≤ _; simp
  have E8 : (w7.alloc (.cells #[.int .i64 l0.labels, .int .i64 l0.children, .slice t7a2 l0.lines.length t7c2] 29)).heap.size = w7.heap.size + 1 := by rw [World.size_alloc]
  have c3_8 : (w7.alloc (.cells #[.int .i64 l0.labels, .int .i64 l0.children, .slice t7a2 l0.lines.length t7c2] 29)).cell? ⟨w7.heap.size, 0, none⟩ = some (.int .i64 l0.labels) := by rw [World.cell?_alloc_at _ _ _ _ rfl]; rfl
  have c4_8 : (w7.alloc (.cells #[.int .i64 l0.labels, .int .i64 l0.children, .slice t7a2 l0.lines.length t7c2] 29)).cell? ⟨w7.heap.size, 1, none⟩ = some (.int .i64 l0.children) := by rw [World.cell?_alloc_at _ _ _ _ rfl]; rfl
  have c5_8 : (w7.alloc (.cells #[.int .i64 l0.labels, .int .i64 l0.children, .slice t7a2 l0.lines.length t7c2] 29)).cell? ⟨w7.heap.size, 2, none⟩ = some (.slice t7a2 l0.lines.length t7c2) := by rw [World.cell?_alloc_at _ _ _ _ rfl]; rfl
  generalize w7.alloc (.cells #[.int .i64 l0.labels, .int .i64 l0.children, .slice t7a2 l0.lines.length t7c2] 29) = w8 at KS8 Z8' E8 c3_8 c4_8 c5_8 ⊢
  have K8 : Hid (Keeps w w8) := Keeps.trans K7.out KS8.out
  have Z8 : Hid (w7.heap.size ≤ w8.heap.size) := KS8.out.size
  have T3_8 := Lib.hid (T3_7.out.keep KS8.out)
  clear T3_7
  have T4_8 := Lib.hid (T4_7.out.keep KS8.out)
  clear T4_7
  have T5_8 := Lib.hid (T5_7.out.keep KS8.out)
  clear T5_7
  have T6_8 := Lib.hid (T6_7.out.keep KS8.out)
  clear T6_7
  have T7_8 := Lib.hid (T7.out.keep KS8.out)
  clear T7
  have c0_8 := cell_keep KS8.out c0_7
  clear c0_7
  have c1_8 := cell_keep KS8.out c1_7
  clear c1_7
  have c2_8 := cell_keep KS8.out c2_7
  clear c2_7
  clear E8
  refine (toIntS_any _ l1 _ (R1.out.keep K8.out) s1).mono ?_
  rintro e w9 ⟨t9, rfl, o9, k9⟩
  have T9 := Lib.hid o9.owI
  clear o9
  have KS9 : Hid (Keeps w8 w9) := k9
  clear k9
  have K9 : Hid (Keeps w w9) := Keeps.trans K8.out KS9.out
  have Z9 : Hid (w8.heap.size ≤ w9.heap.size) := KS9.out.size
  have T3_9 := Lib.hid (T3_8.out.keep KS9.out)
  clear T3_8
  have T4_9 := Lib.hid (T4_8.out.keep KS9.out)
  clear T4_8
  have T5_9 := Lib.hid (T5_8.out.keep KS9.out)
  clear T5_8
  have T6_9 := Lib.hid (T6_8.out.keep KS9.out)
  clear T6_8
  have T7_9 := Lib.hid (T7_8.out.keep KS9.out)
  clear T7_8
  have c0_9 := cell_keep KS9.out c0_8
  clear c0_8
  have c1_9 := cell_keep KS9.out c1_8
  clear c1_8
  have c2_9 := cell_keep KS9.out c2_8
  clear c2_8
  have c3_9 := cell_keep KS9.out c3_8
  clear c3_8
  have c4_9 := cell_keep KS9.out c4_8
  clear c4_8
  have c5_9 := cell_keep KS9.out c5_8
  clear c5_8
  go_wp2_with fail
  refine (toIntS_any _ l2 _ (R2.out.keep K9.out) s2).mono ?_
  rintro e w10 ⟨t10, rfl, o10, k10⟩
  have T10 := Lib.hid o10.owI
  clear o10
  have KS10 : Hid (Keeps w9 w10) := k10
  clear k10
  have K10 : Hid (Keeps w w10) := Keeps.trans K9.out KS10.out
  have Z10 : Hid (w9.heap.size ≤ w10.heap.size) := KS10.out.size
  have T3_10 := Lib.hid (T3_9.out.keep KS10.out)
  clear T3_9
  have T4_10 := Lib.hid (T4_9.out.keep KS10.out)
  clear T4_9
  have T5_10 := Lib.hid (T5_9.out.keep KS10.out)
  clear T5_9
  have T6_10 := Lib.hid (T6_9.out.keep KS10.out)
  clear T6_9
  have T7_10 := Lib.hid (T7_9.out.keep KS10.out)
  clear T7_9
  have T9_10 := Lib.hid (T9.out.keep KS10.out)
  clear T9
  have c0_10 := cell_keep KS10.out c0_9
  clear c0_9
  have c1_10 := cell_keep KS10.out c1_9
  clear c1_9
  have c2_10 := cell_keep KS10.out c2_9
  clear c2_9
  have c3_10 := cell_keep KS10.out c3_9
  clear c3_9
  have c4_10 := cell_keep KS10.out c4_9
  clear c4_9
  have c5_10 := cell_keep KS10.out c5_9
  clear c5_9
  go_wp2_with fail
  refine (implCompleteRooted_any (.agg #[.int .i64 l0.labels, .int .i64 l0.children, .slice t7a2 l0.lines.length t7c2]) l0 t9 l1 t10 l2 _ (T7_10.out.rd) IL0.out s0 (T9_10.out.ints) IL1.out s1 (T10.out.ints) IL2.out s2).mono ?_
  rw [HE.out]
  rintro e w11 ⟨x11, rfl, o11, b11, k11⟩
  rw [HL.out] at o11
  have T11 := Lib.hid o11.owI
  clear o11 b11
  have KS11 : Hid (Keeps w10 w11) := k11
  clear k11
  have K11 : Hid (Keeps w w11) := Keeps.trans K10.out KS11.out
  have Z11 : Hid (w10.heap.size ≤ w11.heap.size) := KS11.out.size
  have T3_11 := Lib.hid (T3_10.out.keep KS11.out)
  clear T3_10
  have T4_11 := Lib.hid (T4_10.out.keep KS11.out)
  clear T4_10
  have T5_11 := Lib.hid (T5_10.out.keep KS11.out)
  clear T5_10
  have T6_11 := Lib.hid (T6_10.out.keep KS11.out)
  clear T6_10
  have T7_11 := Lib.hid (T7_10.out.keep KS11.out)
  clear T7_10
  have T9_11 := Lib.hid (T9_10.out.keep KS11.out)
  clear T9_10
  have T10_11 := Lib.hid (T10.out.keep KS11.out)
  clear T10
  have c0_11 := cell_keep KS11.out c0_10
  clear c0_10
  have c1_11 := cell_keep KS11.out c1_10
  clear c1_10
  have c2_11 := cell_keep KS11.out c2_10
  clear c2_10
  have c3_11 := cell_keep KS11.out c3_10
  clear c3_10
  have c4_11 := cell_keep KS11.out c4_10
  clear c4_10
  have c5_11 := cell_keep KS11.out c5_10
  clear c5_10
  go_wp2_with fail
  refine (eqIntS_any x11 x6 _ _ _ (T11.out.ints) (T6_11.out.ints)).mono ?_
  rintro e w12 ⟨rfl, d12⟩
  have KS12 : Hid (Keeps w11 w12) := d12.keeps
  clear d12
  have K12 : Hid (Keeps w w12) := Keeps.trans K11.out KS12.out
  have Z12 : Hid (w11.heap.size ≤ w12.heap.size) := KS12.out.size
  have T3_12 := Lib.hid (T3_11.out.keep KS12.out)
  clear T3_11
  have T4_12 := Lib.hid (T4_11.out.keep KS12.out)
  clear T4_11
  have T5_12 := Lib.hid (T5_11.out.keep KS12.out)
  clear T5_11
  have T6_12 := Lib.hid (T6_11.out.keep KS12.out)
  clear T6_11
  have T7_12 := Lib.hid (T7_11.out.keep KS12.out)
  clear T7_11
  have T9_12 := Lib.hid (T9_11.out.keep KS12.out)
  clear T9_11
  have T10_12 := Lib.hid (T10_11.out.keep KS12.out)
  clear T10_11
  have T11_12 := Lib.hid (T11.out.keep KS12.out)
  clear T11
  have c0_12 := cell_keep KS12.out c0_11
  clear c0_11
  have c1_12 := cell_keep KS12.out c1_11
  clear c1_11
  have c2_12 := cell_keep KS12.out c2_11
  clear c2_11
  have c3_12 := cell_keep KS12.out c3_11
  clear c3_11
  have c4_12 := cell_keep KS12.out c4_11
  clear c4_11
  have c5_12 := cell_keep KS12.out c5_11
  clear c5_11
  go_wp2_with fail
  have SK : Hid (∀ W : World, Keeps w12 W → W.cell? ⟨w.heap.size, 0, none⟩ = some (.int .i64 l0.labels) ∧ W.cell? ⟨w.heap.size, 1, none⟩ = some (.int .i64 l0.children) ∧ W.cell? ⟨w.heap.size, 2, none⟩ = some (.slice p0a2 l0.lines.length p0c2) ∧ W.cell? ⟨w7.heap.size, 0, none⟩ = some (.int .i64 l0.labels) ∧ W.cell? ⟨w7.heap.size, 1, none⟩ = some (.int .i64 l0.children) ∧ W.cell? ⟨w7.heap.size, 2, none⟩ = some (.slice t7a2 l0.lines.length t7c2)) := fun W k => ⟨cell_keep k c0_12, cell_keep k c1_12, cell_keep k c2_12, cell_keep k c3_12, cell_keep k c4_12, cell_keep k c5_12⟩
  have KD : Hid (Keeps w12 w12.drew) := (Keeps.refl _).drew
  go_region_held3 (fun W => W.cell? ⟨w.heap.size, 0, none⟩ = some (.int .i64 l0.labels) ∧ W.cell? ⟨w.heap.size, 1, none⟩ = some (.int .i64 l0.children) ∧ W.cell? ⟨w.heap.size, 2, none⟩ = some (.slice p0a2 l0.lines.length p0c2) ∧ W.cell? ⟨w7.heap.size, 0, none⟩ = some (.int .i64 l0.labels) ∧ W.cell? ⟨w7.heap.size, 1, none⟩ = some (.int .i64 l0.children) ∧ W.cell? ⟨w7.heap.size, 2, none⟩ = some (.slice t7a2 l0.lines.length t7c2)) (first | exact SK.out _ KD.out | exact SK.out _ (Keeps.trans KD.out KS13'.out) | exact SK.out _ (Keeps.trans KD.out (Keeps.trans KS13'.out KS14.out)))
    ((first
      | (go_at_call 7; refine (toRootedProblem_any _ l0 _ (R0.out.keep (Keeps.trans K12.out KD.out)) s0).mono ?_; rintro e w13 ⟨tt, rfl, o13, k13⟩; obtain ⟨t13a2, t13c2, rfl⟩ := o13.rd.shape; have T13 := Lib.hid o13; have KS13' := Lib.hid k13; clear o13 k13)
      | (go_at_call 10; refine (eqRootedProblem_same _ _ l0 _ ((T7_12.out.rd).keep (Keeps.trans KD.out KS13'.out)) T13.out.rd).mono ?_; rintro e w14 ⟨rfl, k14⟩; have KS14 := Lib.hid k14; clear k14)))
  have KS13 : Hid (Keeps w12 w13) := Keeps.trans KD.out KS13'.out
  have K13 : Hid (Keeps w w13) := Keeps.trans K12.out KS13.out
  have Z13 : Hid (w12.heap.size ≤ w13.heap.size) := KS13.out.size
  have T3_13 := Lib.hid (T3_12.out.keep KS13.out)
  clear T3_12
  have T4_13 := Lib.hid (T4_12.out.keep KS13.out)
  clear T4_12
  have T5_13 := Lib.hid (T5_12.out.keep KS13.out)
  clear T5_12
  have T6_13 := Lib.hid (T6_12.out.keep KS13.out)
  clear T6_12
  have T7_13 := Lib.hid (T7_12.out.keep KS13.out)
  clear T7_12
  have T9_13 := Lib.hid (T9_12.out.keep KS13.out)
  clear T9_12
  have T10_13 := Lib.hid (T10_12.out.keep KS13.out)
  clear T10_12
  have T11_13 := Lib.hid (T11_12.out.keep KS13.out)
  clear T11_12
  have c0_13 := cell_keep KS13.out c0_12
  clear c0_12
  have c1_13 := cell_keep KS13.out c1_12
  clear c1_12
  have c2_13 := cell_keep KS13.out c2_12
  clear c2_12
  have c3_13 := cell_keep KS13.out c3_12
  clear c3_12
  have c4_13 := cell_keep KS13.out c4_12
  clear c4_12
  have c5_13 := cell_keep KS13.out c5_12
  clear c5_12
  have K14 : Hid (Keeps w w14) := Keeps.trans K13.out KS14.out
  have Z14 : Hid (w13.heap.size ≤ w14.heap.size) := KS14.out.size
  have T3_14 := Lib.hid (T3_13.out.keep KS14.out)
  clear T3_13
  have T4_14 := Lib.hid (T4_13.out.keep KS14.out)
  clear T4_13
  have T5_14 := Lib.hid (T5_13.out.keep KS14.out)
  clear T5_13
  have T6_14 := Lib.hid (T6_13.out.keep KS14.out)
  clear T6_13
  have T7_14 := Lib.hid (T7_13.out.keep KS14.out)
  clear T7_13
  have T9_14 := Lib.hid (T9_13.out.keep KS14.out)
  clear T9_13
  have T10_14 := Lib.hid (T10_13.out.keep KS14.out)
  clear T10_13
  have T11_14 := Lib.hid (T11_13.out.keep KS14.out)
  clear T11_13
  have c0_14 := cell_keep KS14.out c0_13
  clear c0_13
  have c1_14 := cell_keep KS14.out c1_13
  clear c1_13
  have c2_14 := cell_keep KS14.out c2_13
  clear c2_13
  have c3_14 := cell_keep KS14.out c3_13
  clear c3_13
  have c4_14 := cell_keep KS14.out c4_13
  clear c4_13
  have c5_14 := cell_keep KS14.out c5_13
  clear c5_13
  clear SK KD
  go_wp2_with fail
  refine (toIntS_any _ l1 _ (R1.out.keep K14.out) s1).mono ?_
  rintro e w15 ⟨t15, rfl, o15, k15⟩
  have T15 := Lib.hid o15.owI
  clear o15
  have KS15 : Hid (Keeps w14 w15) := k15
  clear k15
  have K15 : Hid (Keeps w w15) := Keeps.trans K14.out KS15.out
  have Z15 : Hid (w14.heap.size ≤ w15.heap.size) := KS15.out.size
  have T3_15 := Lib.hid (T3_14.out.keep KS15.out)
  clear T3_14
  have T4_15 := Lib.hid (T4_14.out.keep KS15.out)
  clear T4_14
  have T5_15 := Lib.hid (T5_14.out.keep KS15.out)
  clear T5_14
  have T6_15 := Lib.hid (T6_14.out.keep KS15.out)
  clear T6_14
  have T7_15 := Lib.hid (T7_14.out.keep KS15.out)
  clear T7_14
  have T9_15 := Lib.hid (T9_14.out.keep KS15.out)
  clear T9_14
  have T10_15 := Lib.hid (T10_14.out.keep KS15.out)
  clear T10_14
  have T11_15 := Lib.hid (T11_14.out.keep KS15.out)
  clear T11_14
  have c0_15 := cell_keep KS15.out c0_14
  clear c0_14
  have c1_15 := cell_keep KS15.out c1_14
  clear c1_14
  have c2_15 := cell_keep KS15.out c2_14
  clear c2_14
  have c3_15 := cell_keep KS15.out c3_14
  clear c3_14
  have c4_15 := cell_keep KS15.out c4_14
  clear c4_14
  have c5_15 := cell_keep KS15.out c5_14
  clear c5_14
  go_wp2_with fail
  refine (eqIntS_any t9 t15 _ _ _ (T9_15.out.ints) (T15.out.ints)).mono ?_
  rintro e w16 ⟨rfl, d16⟩
  have KS16 : Hid (Keeps w15 w16) := d16.keeps
  clear d16
  have K16 : Hid (Keeps w w16) := Keeps.trans K15.out KS16.out
  have Z16 : Hid (w15.heap.size ≤ w16.heap.size) := KS16.out.size
  have T3_16 := Lib.hid (T3_15.out.keep KS16.out)
  clear T3_15
  have T4_16 := Lib.hid (T4_15.out.keep KS16.out)
  clear T4_15
  have T5_16 := Lib.hid (T5_15.out.keep KS16.out)
  clear T5_15
  have T6_16 := Lib.hid (T6_15.out.keep KS16.out)
  clear T6_15
  have T7_16 := Lib.hid (T7_15.out.keep KS16.out)
  clear T7_15
  have T9_16 := Lib.hid (T9_15.out.keep KS16.out)
  clear T9_15
  have T10_16 := Lib.hid (T10_15.out.keep KS16.out)
  clear T10_15
  have T11_16 := Lib.hid (T11_15.out.keep KS16.out)
  clear T11_15
  have T15_16 := Lib.hid (T15.out.keep KS16.out)
  clear T15
  have c0_16 := cell_keep KS16.out c0_15
  clear c0_15
  have c1_16 := cell_keep KS16.out c1_15
  clear c1_15
  have c2_16 := cell_keep KS16.out c2_15
  clear c2_15
  have c3_16 := cell_keep KS16.out c3_15
  clear c3_15
  have c4_16 := cell_keep KS16.out c4_15
  clear c4_15
  have c5_16 := cell_keep KS16.out c5_15
  clear c5_15
  go_wp2_with fail
  refine (toIntS_any _ l2 _ (R2.out.keep K16.out) s2).mono ?_
  rintro e w17 ⟨t17, rfl, o17, k17⟩
  have T17 := Lib.hid o17.owI
  clear o17
  have KS17 : Hid (Keeps w16 w17) := k17
  clear k17
  have K17 : Hid (Keeps w w17) := Keeps.trans K16.out KS17.out
  have Z17 : Hid (w16.heap.size ≤ w17.heap.size) := KS17.out.size
  have T3_17 := Lib.hid (T3_16.out.keep KS17.out)
  clear T3_16
  have T4_17 := Lib.hid (T4_16.out.keep KS17.out)
  clear T4_16
  have T5_17 := Lib.hid (T5_16.out.keep KS17.out)
  clear T5_16
  have T6_17 := Lib.hid (T6_16.out.keep KS17.out)
  clear T6_16
  have T7_17 := Lib.hid (T7_16.out.keep KS17.out)
  clear T7_16
  have T9_17 := Lib.hid (T9_16.out.keep KS17.out)
  clear T9_16
  have T10_17 := Lib.hid (T10_16.out.keep KS17.out)
  clear T10_16
  have T11_17 := Lib.hid (T11_16.out.keep KS17.out)
  clear T11_16
  have T15_17 := Lib.hid (T15_16.out.keep KS17.out)
  clear T15_16
  have c0_17 := cell_keep KS17.out c0_16
  clear c0_16
  have c1_17 := cell_keep KS17.out c1_16
  clear c1_16
  have c2_17 := cell_keep KS17.out c2_16
  clear c2_16
  have c3_17 := cell_keep KS17.out c3_16
  clear c3_16
  have c4_17 := cell_keep KS17.out c4_16
  clear c4_16
  have c5_17 := cell_keep KS17.out c5_16
  clear c5_16
  go_wp2_with fail
  refine (eqIntS_any t10 t17 _ _ _ (T10_17.out.ints) (T17.out.ints)).mono ?_
  rintro e w18 ⟨rfl, d18⟩
  have KS18 : Hid (Keeps w17 w18) := d18.keeps
  clear d18
  have K18 : Hid (Keeps w w18) := Keeps.trans K17.out KS18.out
  have Z18 : Hid (w17.heap.size ≤ w18.heap.size) := KS18.out.size
  have T3_18 := Lib.hid (T3_17.out.keep KS18.out)
  clear T3_17
  have T4_18 := Lib.hid (T4_17.out.keep KS18.out)
  clear T4_17
  have T5_18 := Lib.hid (T5_17.out.keep KS18.out)
  clear T5_17
  have T6_18 := Lib.hid (T6_17.out.keep KS18.out)
  clear T6_17
  have T7_18 := Lib.hid (T7_17.out.keep KS18.out)
  clear T7_17
  have T9_18 := Lib.hid (T9_17.out.keep KS18.out)
  clear T9_17
  have T10_18 := Lib.hid (T10_17.out.keep KS18.out)
  clear T10_17
  have T11_18 := Lib.hid (T11_17.out.keep KS18.out)
  clear T11_17
  have T15_18 := Lib.hid (T15_17.out.keep KS18.out)
  clear T15_17
  have T17_18 := Lib.hid (T17.out.keep KS18.out)
  clear T17
  have c0_18 := cell_keep KS18.out c0_17
  clear c0_17
  have c1_18 := cell_keep KS18.out c1_17
  clear c1_17
  have c2_18 := cell_keep KS18.out c2_17
  clear c2_17
  have c3_18 := cell_keep KS18.out c3_17
  clear c3_17
  have c4_18 := cell_keep KS18.out c4_17
  clear c4_17
  have c5_18 := cell_keep KS18.out c5_17
  clear c5_17
  go_wp2_with fail
  have CL19 := cntR_le l0
  refine (markRootedProblem_any w6.heap.size w7.heap.size _ l0 1 _ T7_18.out (by have := Z1.out; have := Z2.out; have := Z3.out; have := Z4.out; have := Z5.out; have := Z6.out; have := Z7.out; have := Z8.out; have := Z9.out; have := Z10.out; have := Z11.out; have := Z12.out; have := Z13.out; have := Z14.out; have := Z15.out; have := Z16.out; have := Z17.out; have := Z18.out; omega) (by omega) (by omega)).mono ?_
  rintro e w19 ⟨rfl, o19, g19⟩
  have G19 : Hid (Chg w6.heap.size w7.heap.size w18 w19) := g19
  have T7_19 := Lib.hid o19
  clear o19 g19 T7_18
  have Z19 : Hid (w18.heap.size ≤ w19.heap.size) := G19.out.size
  have K19 : Hid (Keeps w w19) := G19.out.keeps K18.out (by have := Z1.out; have := Z2.out; have := Z3.out; have := Z4.out; have := Z5.out; have := Z6.out; have := Z7.out; have := Z8.out; have := Z9.out; have := Z10.out; have := Z11.out; have := Z12.out; have := Z13.out; have := Z14.out; have := Z15.out; have := Z16.out; have := Z17.out; have := Z18.out; have := Z19.out; omega)
  have T3_19 := Lib.hid (T3_18.out.chg G19.out (by have := Z1.out; have := Z2.out; have := Z3.out; have := Z4.out; have := Z5.out; have := Z6.out; have := Z7.out; have := Z8.out; have := Z9.out; have := Z10.out; have := Z11.out; have := Z12.out; have := Z13.out; have := Z14.out; have := Z15.out; have := Z16.out; have := Z17.out; have := Z18.out; have := Z19.out; omega))
  clear T3_18
  have T4_19 := Lib.hid (T4_18.out.chg G19.out (by have := Z1.out; have := Z2.out; have := Z3.out; have := Z4.out; have := Z5.out; have := Z6.out; have := Z7.out; have := Z8.out; have := Z9.out; have := Z10.out; have := Z11.out; have := Z12.out; have := Z13.out; have := Z14.out; have := Z15.out; have := Z16.out; have := Z17.out; have := Z18.out; have := Z19.out; omega))
  clear T4_18
  have T5_19 := Lib.hid (T5_18.out.chg G19.out (by have := Z1.out; have := Z2.out; have := Z3.out; have := Z4.out; have := Z5.out; have := Z6.out; have := Z7.out; have := Z8.out; have := Z9.out; have := Z10.out; have := Z11.out; have := Z12.out; have := Z13.out; have := Z14.out; have := Z15.out; have := Z16.out; have := Z17.out; have := Z18.out; have := Z19.out; omega))
  clear T5_18
  have T6_19 := Lib.hid (T6_18.out.chg G19.out (by have := Z1.out; have := Z2.out; have := Z3.out; have := Z4.out; have := Z5.out; have := Z6.out; have := Z7.out; have := Z8.out; have := Z9.out; have := Z10.out; have := Z11.out; have := Z12.out; have := Z13.out; have := Z14.out; have := Z15.out; have := Z16.out; have := Z17.out; have := Z18.out; have := Z19.out; omega))
  clear T6_18
  have T9_19 := Lib.hid (T9_18.out.chg G19.out (by have := Z1.out; have := Z2.out; have := Z3.out; have := Z4.out; have := Z5.out; have := Z6.out; have := Z7.out; have := Z8.out; have := Z9.out; have := Z10.out; have := Z11.out; have := Z12.out; have := Z13.out; have := Z14.out; have := Z15.out; have := Z16.out; have := Z17.out; have := Z18.out; have := Z19.out; omega))
  clear T9_18
  have T10_19 := Lib.hid (T10_18.out.chg G19.out (by have := Z1.out; have := Z2.out; have := Z3.out; have := Z4.out; have := Z5.out; have := Z6.out; have := Z7.out; have := Z8.out; have := Z9.out; have := Z10.out; have := Z11.out; have := Z12.out; have := Z13.out; have := Z14.out; have := Z15.out; have := Z16.out; have := Z17.out; have := Z18.out; have := Z19.out; omega))
  clear T10_18
  have T11_19 := Lib.hid (T11_18.out.chg G19.out (by have := Z1.out; have := Z2.out; have := Z3.out; have := Z4.out; have := Z5.out; have := Z6.out; have := Z7.out; have := Z8.out; have := Z9.out; have := Z10.out; have := Z11.out; have := Z12.out; have := Z13.out; have := Z14.out; have := Z15.out; have := Z16.out; have := Z17.out; have := Z18.out; have := Z19.out; omega))
  clear T11_18
  have T15_19 := Lib.hid (T15_18.out.chg G19.out (by have := Z1.out; have := Z2.out; have := Z3.out; have := Z4.out; have := Z5.out; have := Z6.out; have := Z7.out; have := Z8.out; have := Z9.out; have := Z10.out; have := Z11.out; have := Z12.out; have := Z13.out; have := Z14.out; have := Z15.out; have := Z16.out; have := Z17.out; have := Z18.out; have := Z19.out; omega))
  clear T15_18
  have T17_19 := Lib.hid (T17_18.out.chg G19.out (by have := Z1.out; have := Z2.out; have := Z3.out; have := Z4.out; have := Z5.out; have := Z6.out; have := Z7.out; have := Z8.out; have := Z9.out; have := Z10.out; have := Z11.out; have := Z12.out; have := Z13.out; have := Z14.out; have := Z15.out; have := Z16.out; have := Z17.out; have := Z18.out; have := Z19.out; omega))
  clear T17_18
  have c0_19 := (World.cell?_of_block (a := ⟨w.heap.size, 0, none⟩) (G19.out.block (w.heap.size) (by have := Z1.out; have := Z2.out; have := Z3.out; have := Z4.out; have := Z5.out; have := Z6.out; have := Z7.out; have := Z8.out; have := Z9.out; have := Z10.out; have := Z11.out; have := Z12.out; have := Z13.out; have := Z14.out; have := Z15.out; have := Z16.out; have := Z17.out; have := Z18.out; have := Z19.out; have := Z1'.out; (try simp only); omega) (by have := Z1.out; have := Z2.out; have := Z3.out; have := Z4.out; have := Z5.out; have := Z6.out; have := Z7.out; have := Z8.out; have := Z9.out; have := Z10.out; have := Z11.out; have := Z12.out; have := Z13.out; have := Z14.out; have := Z15.out; have := Z16.out; have := Z17.out; have := Z18.out; have := Z19.out; have := Z1'.out; (try simp only); omega))).trans c0_18
  clear c0_18
  have c1_19 := (World.cell?_of_block (a := ⟨w.heap.size, 1, none⟩) (G19.out.block (w.heap.size) (by have := Z1.out; have := Z2.out; have := Z3.out; have := Z4.out; have := Z5.out; have := Z6.out; have := Z7.out; have := Z8.out; have := Z9.out; have := Z10.out; have := Z11.out; have := Z12.out; have := Z13.out; have := Z14.out; have := Z15.out; have := Z16.out; have := Z17.out; have := Z18.out; have := Z19.out; have := Z1'.out; (try simp only); omega) (by have := Z1.out; have := Z2.out; have := Z3.out; have := Z4.out; have := Z5.out; have := Z6.out; have := Z7.out; have := Z8.out; have := Z9.out; have := Z10.out; have := Z11.out; have := Z12.out; have := Z13.out; have := Z14.out; have := Z15.out; have := Z16.out; have := Z17.out; have := Z18.out; have := Z19.out; have := Z1'.out; (try simp only); omega))).trans c1_18
  clear c1_18
  have c2_19 := (World.cell?_of_block (a := ⟨w.heap.size, 2, none⟩) (G19.out.block (w.heap.size) (by have := Z1.out; have := Z2.out; have := Z3.out; have := Z4.out; have := Z5.out; have := Z6.out; have := Z7.out; have := Z8.out; have := Z9.out; have := Z10.out; have := Z11.out; have := Z12.out; have := Z13.out; have := Z14.out; have := Z15.out; have := Z16.out; have := Z17.out; have := Z18.out; have := Z19.out; have := Z1'.out; (try simp only); omega) (by have := Z1.out; have := Z2.out; have := Z3.out; have := Z4.out; have := Z5.out; have := Z6.out; have := Z7.out; have := Z8.out; have := Z9.out; have := Z10.out; have := Z11.out; have := Z12.out; have := Z13.out; have := Z14.out; have := Z15.out; have := Z16.out; have := Z17.out; have := Z18.out; have := Z19.out; have := Z1'.out; (try simp only); omega))).trans c2_18
  clear c2_18
  have c3_19 := (World.cell?_of_block (a := ⟨w7.heap.size, 0, none⟩) (G19.out.block (w7.heap.size) (by have := Z1.out; have := Z2.out; have := Z3.out; have := Z4.out; have := Z5.out; have := Z6.out; have := Z7.out; have := Z8.out; have := Z9.out; have := Z10.out; have := Z11.out; have := Z12.out; have := Z13.out; have := Z14.out; have := Z15.out; have := Z16.out; have := Z17.out; have := Z18.out; have := Z19.out; have := Z8'.out; (try simp only); omega) (by have := Z1.out; have := Z2.out; have := Z3.out; have := Z4.out; have := Z5.out; have := Z6.out; have := Z7.out; have := Z8.out; have := Z9.out; have := Z10.out; have := Z11.out; have := Z12.out; have := Z13.out; have := Z14.out; have := Z15.out; have := Z16.out; have := Z17.out; have := Z18.out; have := Z19.out; have := Z8'.out; (try simp only); omega))).trans c3_18
  clear c3_18
  have c4_19 := (World.cell?_of_block (a := ⟨w7.heap.size, 1, none⟩) (G19.out.block (w7.heap.size) (by have := Z1.out; have := Z2.out; have := Z3.out; have := Z4.out; have := Z5.out; have := Z6.out; have := Z7.out; have := Z8.out; have := Z9.out; have := Z10.out; have := Z11.out; have := Z12.out; have := Z13.out; have := Z14.out; have := Z15.out; have := Z16.out; have := Z17.out; have := Z18.out; have := Z19.out; have := Z8'.out; (try simp only); omega) (by have := Z1.out; have := Z2.out; have := Z3.out; have := Z4.out; have := Z5.out; have := Z6.out; have := Z7.out; have := Z8.out; have := Z9.out; have := Z10.out; have := Z11.out; have := Z12.out; have := Z13.out; have := Z14.out; have := Z15.out; have := Z16.out; have := Z17.out; have := Z18.out; have := Z19.out; have := Z8'.out; (try simp only); omega))).trans c4_18
  clear c4_18
  have c5_19 := (World.cell?_of_block (a := ⟨w7.heap.size, 2, none⟩) (G19.out.block (w7.heap.size) (by have := Z1.out; have := Z2.out; have := Z3.out; have := Z4.out; have := Z5.out; have := Z6.out; have := Z7.out; have := Z8.out; have := Z9.out; have := Z10.out; have := Z11.out; have := Z12.out; have := Z13.out; have := Z14.out; have := Z15.out; have := Z16.out; have := Z17.out; have := Z18.out; have := Z19.out; have := Z8'.out; (try simp only); omega) (by have := Z1.out; have := Z2.out; have := Z3.out; have := Z4.out; have := Z5.out; have := Z6.out; have := Z7.out; have := Z8.out; have := Z9.out; have := Z10.out; have := Z11.out; have := Z12.out; have := Z13.out; have := Z14.out; have := Z15.out; have := Z16.out; have := Z17.out; have := Z18.out; have := Z19.out; have := Z8'.out; (try simp only); omega))).trans c5_18
  clear c5_18
  go_wp2_with fail
  refine (markIntS_any w8.heap.size t9 l1 (1 + (cntR l0 : Nat)) _ T9_19.out.own (by omega) (by omega)).mono ?_
  rintro e w20 ⟨rfl, o20, g20⟩
  have G20 : Hid (Chg w8.heap.size w9.heap.size w19 w20) := Chg.of_grown g20 fun q hq => ⟨(T9_19.out.own.lt q hq).1, T9_19.out.hi q hq⟩
  have T9_20 : Hid (OwI w8.heap.size w9.heap.size w20 t9 (iota (1 + (cntR l0 : Nat)) l1.length)) := ⟨o20, T9_19.out.hi⟩
  clear o20 g20 T9_19
  have Z20 : Hid (w19.heap.size ≤ w20.heap.size) := G20.out.size
  have K20 : Hid (Keeps w w20) := G20.out.keeps K19.out (by have := Z1.out; have := Z2.out; have := Z3.out; have := Z4.out; have := Z5.out; have := Z6.out; have := Z7.out; have := Z8.out; have := Z9.out; have := Z10.out; have := Z11.out; have := Z12.out; have := Z13.out; have := Z14.out; have := Z15.out; have := Z16.out; have := Z17.out; have := Z18.out; have := Z19.out; have := Z20.out; omega)
  have T3_20 := Lib.hid (T3_19.out.chg G20.out (by have := Z1.out; have := Z2.out; have := Z3.out; have := Z4.out; have := Z5.out; have := Z6.out; have := Z7.out; have := Z8.out; have := Z9.out; have := Z10.out; have := Z11.out; have := Z12.out; have := Z13.out; have := Z14.out; have := Z15.out; have := Z16.out; have := Z17.out; have := Z18.out; have := Z19.out; have := Z20.out; omega))
  clear T3_19
  have T4_20 := Lib.hid (T4_19.out.chg G20.out (by have := Z1.out; have := Z2.out; have := Z3.out; have := Z4.out; have := Z5.out; have := Z6.out; have := Z7.out; have := Z8.out; have := Z9.out; have := Z10.out; have := Z11.out; have := Z12.out; have := Z13.out; have := Z14.out; have := Z15.out; have := Z16.out; have := Z17.out; have := Z18.out; have := Z19.out; have := Z20.out; omega))
  clear T4_19
  have T5_20 := Lib.hid (T5_19.out.chg G20.out (by have := Z1.out; have := Z2.out; have := Z3.out; have := Z4.out; have := Z5.out; have := Z6.out; have := Z7.out; have := Z8.out; have := Z9.out; have := Z10.out; have := Z11.out; have := Z12.out; have := Z13.out; have := Z14.out; have := Z15.out; have := Z16.out; have := Z17.out; have := Z18.out; have := Z19.out; have := Z20.out; omega))
  clear T5_19
  have T6_20 := Lib.hid (T6_19.out.chg G20.out (by have := Z1.out; have := Z2.out; have := Z3.out; have := Z4.out; have := Z5.out; have := Z6.out; have := Z7.out; have := Z8.out; have := Z9.out; have := Z10.out; have := Z11.out; have := Z12.out; have := Z13.out; have := Z14.out; have := Z15.out; have := Z16.out; have := Z17.out; have := Z18.out; have := Z19.out; have := Z20.out; omega))
  clear T6_19
  have T7_20 := Lib.hid (T7_19.out.chg G20.out (by have := Z1.out; have := Z2.out; have := Z3.out; have := Z4.out; have := Z5.out; have := Z6.out; have := Z7.out; have := Z8.out; have := Z9.out; have := Z10.out; have := Z11.out; have := Z12.out; have := Z13.out; have := Z14.out; have := Z15.out; have := Z16.out; have := Z17.out; have := Z18.out; have := Z19.out; have := Z20.out; omega))
  clear T7_19
  have T10_20 := Lib.hid (T10_19.out.chg G20.out (by have := Z1.out; have := Z2.out; have := Z3.out; have := Z4.out; have := Z5.out; have := Z6.out; have := Z7.out; have := Z8.out; have := Z9.out; have := Z10.out; have := Z11.out; have := Z12.out; have := Z13.out; have := Z14.out; have := Z15.out; have := Z16.out; have := Z17.out; have := Z18.out; have := Z19.out; have := Z20.out; omega))
  clear T10_19
  have T11_20 := Lib.hid (T11_19.out.chg G20.out (by have := Z1.out; have := Z2.out; have := Z3.out; have := Z4.out; have := Z5.out; have := Z6.out; have := Z7.out; have := Z8.out; have := Z9.out; have := Z10.out; have := Z11.out; have := Z12.out; have := Z13.out; have := Z14.out; have := Z15.out; have := Z16.out; have := Z17.out; have := Z18.out; have := Z19.out; have := Z20.out; omega))
  clear T11_19
  have T15_20 := Lib.hid (T15_19.out.chg G20.out (by have := Z1.out; have := Z2.out; have := Z3.out; have := Z4.out; have := Z5.out; have := Z6.out; have := Z7.out; have := Z8.out; have := Z9.out; have := Z10.out; have := Z11.out; have := Z12.out; have := Z13.out; have := Z14.out; have := Z15.out; have := Z16.out; have := Z17.out; have := Z18.out; have := Z19.out; have := Z20.out; omega))
  clear T15_19
  have T17_20 := Lib.hid (T17_19.out.chg G20.out (by have := Z1.out; have := Z2.out; have := Z3.out; have := Z4.out; have := Z5.out; have := Z6.out; have := Z7.out; have := Z8.out; have := Z9.out; have := Z10.out; have := Z11.out; have := Z12.out; have := Z13.out; have := Z14.out; have := Z15.out; have := Z16.out; have := Z17.out; have := Z18.out; have := Z19.out; have := Z20.out; omega))
  clear T17_19
  have c0_20 := (World.cell?_of_block (a := ⟨w.heap.size, 0, none⟩) (G20.out.block (w.heap.size) (by have := Z1.out; have := Z2.out; have := Z3.out; have := Z4.out; have := Z5.out; have := Z6.out; have := Z7.out; have := Z8.out; have := Z9.out; have := Z10.out; have := Z11.out; have := Z12.out; have := Z13.out; have := Z14.out; have := Z15.out; have := Z16.out; have := Z17.out; have := Z18.out; have := Z19.out; have := Z20.out; have := Z1'.out; (try simp only); omega) (by have := Z1.out; have := Z2.out; have := Z3.out; have := Z4.out; have := Z5.out; have := Z6.out; have := Z7.out; have := Z8.out; have := Z9.out; have := Z10.out; have := Z11.out; have := Z12.out; have := Z13.out; have := Z14.out; have := Z15.out; have := Z16.out; have := Z17.out; have := Z18.out; have := Z19.out; have := Z20.out; have := Z1'.out; (try simp only); omega))).trans c0_19
  clear c0_19
  have c1_20 := (World.cell?_of_block (a := ⟨w.heap.size, 1, none⟩) (G20.out.block (w.heap.size) (by have := Z1.out; have := Z2.out; have := Z3.out; have := Z4.out; have := Z5.out; have := Z6.out; have := Z7.out; have := Z8.out; have := Z9.out; have := Z10.out; have := Z11.out; have := Z12.out; have := Z13.out; have := Z14.out; have := Z15.out; have := Z16.out; have := Z17.out; have := Z18.out; have := Z19.out; have := Z20.out; have := Z1'.out; (try simp only); omega) (by have := Z1.out; have := Z2.out; have := Z3.out; have := Z4.out; have := Z5.out; have := Z6.out; have := Z7.out; have := Z8.out; have := Z9.out; have := Z10.out; have := Z11.out; have := Z12.out; have := Z13.out; have := Z14.out; have := Z15.out; have := Z16.out; have := Z17.out; have := Z18.out; have := Z19.out; have := Z20.out; have := Z1'.out; (try simp only); omega))).trans c1_19
  clear c1_19
  have c2_20 := (World.cell?_of_block (a := ⟨w.heap.size, 2, none⟩) (G20.out.block (w.heap.size) (by have := Z1.out; have := Z2.out; have := Z3.out; have := Z4.out; have := Z5.out; have := Z6.out; have := Z7.out; have := Z8.out; have := Z9.out; have := Z10.out; have := Z11.out; have := Z12.out; have := Z13.out; have := Z14.out; have := Z15.out; have := Z16.out; have := Z17.out; have := Z18.out; have := Z19.out; have := Z20.out; have := Z1'.out; (try simp only); omega) (by have := Z1.out; have := Z2.out; have := Z3.out; have := Z4.out; have := Z5.out; have := Z6.out; have := Z7.out; have := Z8.out; have := Z9.out; have := Z10.out; have := Z11.out; have := Z12.out; have := Z13.out; have := Z14.out; have := Z15.out; have := Z16.out; have := Z17.out; have := Z18.out; have := Z19.out; have := Z20.out; have := Z1'.out; (try simp only); omega))).trans c2_19
  clear c2_19
  have c3_20 := (World.cell?_of_block (a := ⟨w7.heap.size, 0, none⟩) (G20.out.block (w7.heap.size) (by have := Z1.out; have := Z2.out; have := Z3.out; have := Z4.out; have := Z5.out; have := Z6.out; have := Z7.out; have := Z8.out; have := Z9.out; have := Z10.out; have := Z11.out; have := Z12.out; have := Z13.out; have := Z14.out; have := Z15.out; have := Z16.out; have := Z17.out; have := Z18.out; have := Z19.out; have := Z20.out; have := Z8'.out; (try simp only); omega) (by have := Z1.out; have := Z2.out; have := Z3.out; have := Z4.out; have := Z5.out; have := Z6.out; have := Z7.out; have := Z8.out; have := Z9.out; have := Z10.out; have := Z11.out; have := Z12.out; have := Z13.out; have := Z14.out; have := Z15.out; have := Z16.out; have := Z17.out; have := Z18.out; have := Z19.out; have := Z20.out; have := Z8'.out; (try simp only); omega))).trans c3_19
  clear c3_19
  have c4_20 := (World.cell?_of_block (a := ⟨w7.heap.size, 1, none⟩) (G20.out.block (w7.heap.size) (by have := Z1.out; have := Z2.out; have := Z3.out; have := Z4.out; have := Z5.out; have := Z6.out; have := Z7.out; have := Z8.out; have := Z9.out; have := Z10.out; have := Z11.out; have := Z12.out; have := Z13.out; have := Z14.out; have := Z15.out; have := Z16.out; have := Z17.out; have := Z18.out; have := Z19.out; have := Z20.out; have := Z8'.out; (try simp only); omega) (by have := Z1.out; have := Z2.out; have := Z3.out; have := Z4.out; have := Z5.out; have := Z6.out; have := Z7.out; have := Z8.out; have := Z9.out; have := Z10.out; have := Z11.out; have := Z12.out; have := Z13.out; have := Z14.out; have := Z15.out; have := Z16.out; have := Z17.out; have := Z18.out; have := Z19.out; have := Z20.out; have := Z8'.out; (try simp only); omega))).trans c4_19
  clear c4_19
  have c5_20 := (World.cell?_of_block (a := ⟨w7.heap.size, 2, none⟩) (G20.out.block (w7.heap.size) (by have := Z1.out; have := Z2.out; have := Z3.out; have := Z4.out; have := Z5.out; have := Z6.out; have := Z7.out; have := Z8.out; have := Z9.out; have := Z10.out; have := Z11.out; have := Z12.out; have := Z13.out; have := Z14.out; have := Z15.out; have := Z16.out; have := Z17.out; have := Z18.out; have := Z19.out; have := Z20.out; have := Z8'.out; (try simp only); omega) (by have := Z1.out; have := Z2.out; have := Z3.out; have := Z4.out; have := Z5.out; have := Z6.out; have := Z7.out; have := Z8.out; have := Z9.out; have := Z10.out; have := Z11.out; have := Z12.out; have := Z13.out; have := Z14.out; have := Z15.out; have := Z16.out; have := Z17.out; have := Z18.out; have := Z19.out; have := Z20.out; have := Z8'.out; (try simp only); omega))).trans c5_19
  clear c5_19
  go_wp2_with fail
  refine (markIntS_any w9.heap.size t10 l2 (1 + (cntR l0 : Nat) + (l1.length : Nat)) _ T10_20.out.own (by omega) (by omega)).mono ?_
  rintro e w21 ⟨rfl, o21, g21⟩
  have G21 : Hid (Chg w9.heap.size w10.heap.size w20 w21) := Chg.of_grown g21 fun q hq => ⟨(T10_20.out.own.lt q hq).1, T10_20.out.hi q hq⟩
  have T10_21 : Hid (OwI w9.heap.size w10.heap.size w21 t10 (iota (1 + (cntR l0 : Nat) + (l1.length : Nat)) l2.length)) := ⟨o21, T10_20.out.hi⟩
  clear o21 g21 T10_20
  have Z21 : Hid (w20.heap.size ≤ w21.heap.size) := G21.out.size
  have K21 : Hid (Keeps w w21) := G21.out.keeps K20.out (by have := Z1.out; have := Z2.out; have := Z3.out; have := Z4.out; have := Z5.out; have := Z6.out; have := Z7.out; have := Z8.out; have := Z9.out; have := Z10.out; have := Z11.out; have := Z12.out; have := Z13.out; have := Z14.out; have := Z15.out; have := Z16.out; have := Z17.out; have := Z18.out; have := Z19.out; have := Z20.out; have := Z21.out; omega)
  have T3_21 := Lib.hid (T3_20.out.chg G21.out (by have := Z1.out; have := Z2.out; have := Z3.out; have := Z4.out; have := Z5.out; have := Z6.out; have := Z7.out; have := Z8.out; have := Z9.out; have := Z10.out; have := Z11.out; have := Z12.out; have := Z13.out; have := Z14.out; have := Z15.out; have := Z16.out; have := Z17.out; have := Z18.out; have := Z19.out; have := Z20.out; have := Z21.out; omega))
  clear T3_20
  have T4_21 := Lib.hid (T4_20.out.chg G21.out (by have := Z1.out; have := Z2.out; have := Z3.out; have := Z4.out; have := Z5.out; have := Z6.out; have := Z7.out; have := Z8.out; have := Z9.out; have := Z10.out; have := Z11.out; have := Z12.out; have := Z13.out; have := Z14.out; have := Z15.out; have := Z16.out; have := Z17.out; have := Z18.out; have := Z19.out; have := Z20.out; have := Z21.out; omega))
  clear T4_20
  have T5_21 := Lib.hid (T5_20.out.chg G21.out (by have := Z1.out; have := Z2.out; have := Z3.out; have := Z4.out; have := Z5.out; have := Z6.out; have := Z7.out; have := Z8.out; have := Z9.out; have := Z10.out; have := Z11.out; have := Z12.out; have := Z13.out; have := Z14.out; have := Z15.out; have := Z16.out; have := Z17.out; have := Z18.out; have := Z19.out; have := Z20.out; have := Z21.out; omega))
  clear T5_20
  have T6_21 := Lib.hid (T6_20.out.chg G21.out (by have := Z1.out; have := Z2.out; have := Z3.out; have := Z4.out; have := Z5.out; have := Z6.out; have := Z7.out; have := Z8.out; have := Z9.out; have := Z10.out; have := Z11.out; have := Z12.out; have := Z13.out; have := Z14.out; have := Z15.out; have := Z16.out; have := Z17.out; have := Z18.out; have := Z19.out; have := Z20.out; have := Z21.out; omega))
  clear T6_20
  have T7_21 := Lib.hid (T7_20.out.chg G21.out (by have := Z1.out; have := Z2.out; have := Z3.out; have := Z4.out; have := Z5.out; have := Z6.out; have := Z7.out; have := Z8.out; have := Z9.out; have := Z10.out; have := Z11.out; have := Z12.out; have := Z13.out; have := Z14.out; have := Z15.out; have := Z16.out; have := Z17.out; have := Z18.out; have := Z19.out; have := Z20.out; have := Z21.out; omega))
  clear T7_20
  have T9_21 := Lib.hid (T9_20.out.chg G21.out (by have := Z1.out; have := Z2.out; have := Z3.out; have := Z4.out; have := Z5.out; have := Z6.out; have := Z7.out; have := Z8.out; have := Z9.out; have := Z10.out; have := Z11.out; have := Z12.out; have := Z13.out; have := Z14.out; have := Z15.out; have := Z16.out; have := Z17.out; have := Z18.out; have := Z19.out; have := Z20.out; have := Z21.out; omega))
  clear T9_20
  have T11_21 := Lib.hid (T11_20.out.chg G21.out (by have := Z1.out; have := Z2.out; have := Z3.out; have := Z4.out; have := Z5.out; have := Z6.out; have := Z7.out; have := Z8.out; have := Z9.out; have := Z10.out; have := Z11.out; have := Z12.out; have := Z13.out; have := Z14.out; have := Z15.out; have := Z16.out; have := Z17.out; have := Z18.out; have := Z19.out; have := Z20.out; have := Z21.out; omega))
  clear T11_20
  have T15_21 := Lib.hid (T15_20.out.chg G21.out (by have := Z1.out; have := Z2.out; have := Z3.out; have := Z4.out; have := Z5.out; have := Z6.out; have := Z7.out; have := Z8.out; have := Z9.out; have := Z10.out; have := Z11.out; have := Z12.out; have := Z13.out; have := Z14.out; have := Z15.out; have := Z16.out; have := Z17.out; have := Z18.out; have := Z19.out; have := Z20.out; have := Z21.out; omega))
  clear T15_20
  have T17_21 := Lib.hid (T17_20.out.chg G21.out (by have := Z1.out; have := Z2.out; have := Z3.out; have := Z4.out; have := Z5.out; have := Z6.out; have := Z7.out; have := Z8.out; have := Z9.out; have := Z10.out; have := Z11.out; have := Z12.out; have := Z13.out; have := Z14.out; have := Z15.out; have := Z16.out; have := Z17.out; have := Z18.out; have := Z19.out; have := Z20.out; have := Z21.out; omega))
  clear T17_20
  have c0_21 := (World.cell?_of_block (a := ⟨w.heap.size, 0, none⟩) (G21.out.block (w.heap.size) (by have := Z1.out; have := Z2.out; have := Z3.out; have := Z4.out; have := Z5.out; have := Z6.out; have := Z7.out; have := Z8.out; have := Z9.out; have := Z10.out; have := Z11.out; have := Z12.out; have := Z13.out; have := Z14.out; have := Z15.out; have := Z16.out; have := Z17.out; have := Z18.out; have := Z19.out; have := Z20.out; have := Z21.out; have := Z1'.out; (try simp only); omega) (by have := Z1.out; have := Z2.out; have := Z3.out; have := Z4.out; have := Z5.out; have := Z6.out; have := Z7.out; have := Z8.out; have := Z9.out; have := Z10.out; have := Z11.out; have := Z12.out; have := Z13.out; have := Z14.out; have := Z15.out; have := Z16.out; have := Z17.out; have := Z18.out; have := Z19.out; have := Z20.out; have := Z21.out; have := Z1'.out; (try simp only); omega))).trans c0_20
  clear c0_20
  have c1_21 := (World.cell?_of_block (a := ⟨w.heap.size, 1, none⟩) (G21.out.block (w.heap.size) (by have := Z1.out; have := Z2.out; have := Z3.out; have := Z4.out; have := Z5.out; have := Z6.out; have := Z7.out; have := Z8.out; have := Z9.out; have := Z10.out; have := Z11.out; have := Z12.out; have := Z13.out; have := Z14.out; have := Z15.out; have := Z16.out; have := Z17.out; have := Z18.out; have := Z19.out; have := Z20.out; have := Z21.out; have := Z1'.out; (try simp only); omega) (by have := Z1.out; have := Z2.out; have := Z3.out; have := Z4.out; have := Z5.out; have := Z6.out; have := Z7.out; have := Z8.out; have := Z9.out; have := Z10.out; have := Z11.out; have := Z12.out; have := Z13.out; have := Z14.out; have := Z15.out; have := Z16.out; have := Z17.out; have := Z18.out; have := Z19.out; have := Z20.out; have := Z21.out; have := Z1'.out; (try simp only); omega))).trans c1_20
  clear c1_20
  have c2_21 := (World.cell?_of_block (a := ⟨w.heap.size, 2, none⟩) (G21.out.block (w.heap.size) (by have := Z1.out; have := Z2.out; have := Z3.out; have := Z4.out; have := Z5.out; have := Z6.out; have := Z7.out; have := Z8.out; have := Z9.out; have := Z10.out; have := Z11.out; have := Z12.out; have := Z13.out; have := Z14.out; have := Z15.out; have := Z16.out; have := Z17.out; have := Z18.out; have := Z19.out; have := Z20.out; have := Z21.out; have := Z1'.out; (try simp only); omega) (by have := Z1.out; have := Z2.out; have := Z3.out; have := Z4.out; have := Z5.out; have := Z6.out; have := Z7.out; have := Z8.out; have := Z9.out; have := Z10.out; have := Z11.out; have := Z12.out; have := Z13.out; have := Z14.out; have := Z15.out; have := Z16.out; have := Z17.out; have := Z18.out; have := Z19.out; have := Z20.out; have := Z21.out; have := Z1'.out; (try simp only); omega))).trans c2_20
  clear c2_20
  have c3_21 := (World.cell?_of_block (a := ⟨w7.heap.size, 0, none⟩) (G21.out.block (w7.heap.size) (by have := Z1.out; have := Z2.out; have := Z3.out; have := Z4.out; have := Z5.out; have := Z6.out; have := Z7.out; have := Z8.out; have := Z9.out; have := Z10.out; have := Z11.out; have := Z12.out; have := Z13.out; have := Z14.out; have := Z15.out; have := Z16.out; have := Z17.out; have := Z18.out; have := Z19.out; have := Z20.out; have := Z21.out; have := Z8'.out; (try simp only); omega) (by have := Z1.out; have := Z2.out; have := Z3.out; have := Z4.out; have := Z5.out; have := Z6.out; have := Z7.out; have := Z8.out; have := Z9.out; have := Z10.out; have := Z11.out; have := Z12.out; have := Z13.out; have := Z14.out; have := Z15.out; have := Z16.out; have := Z17.out; have := Z18.out; have := Z19.out; have := Z20.out; have := Z21.out; have := Z8'.out; (try simp only); omega))).trans c3_20
  clear c3_20
  have c4_21 := (World.cell?_of_block (a := ⟨w7.heap.size, 1, none⟩) (G21.out.block (w7.heap.size) (by have := Z1.out; have := Z2.out; have := Z3.out; have := Z4.out; have := Z5.out; have := Z6.out; have := Z7.out; have := Z8.out; have := Z9.out; have := Z10.out; have := Z11.out; have := Z12.out; have := Z13.out; have := Z14.out; have := Z15.out; have := Z16.out; have := Z17.out; have := Z18.out; have := Z19.out; have := Z20.out; have := Z21.out; have := Z8'.out; (try simp only); omega) (by have := Z1.out; have := Z2.out; have := Z3.out; have := Z4.out; have := Z5.out; have := Z6.out; have := Z7.out; have := Z8.out; have := Z9.out; have := Z10.out; have := Z11.out; have := Z12.out; have := Z13.out; have := Z14.out; have := Z15.out; have := Z16.out; have := Z17.out; have := Z18.out; have := Z19.out; have := Z20.out; have := Z21.out; have := Z8'.out; (try simp only); omega))).trans c4_20
  clear c4_20
  have c5_21 := (World.cell?_of_block (a := ⟨w7.heap.size, 2, none⟩) (G21.out.block (w7.heap.size) (by have := Z1.out; have := Z2.out; have := Z3.out; have := Z4.out; have := Z5.out; have := Z6.out; have := Z7.out; have := Z8.out; have := Z9.out; have := Z10.out; have := Z11.out; have := Z12.out; have := Z13.out; have := Z14.out; have := Z15.out; have := Z16.out; have := Z17.out; have := Z18.out; have := Z19.out; have := Z20.out; have := Z21.out; have := Z8'.out; (try simp only); omega) (by have := Z1.out; have := Z2.out; have := Z3.out; have := Z4.out; have := Z5.out; have := Z6.out; have := Z7.out; have := Z8.out; have := Z9.out; have := Z10.out; have := Z11.out; have := Z12.out; have := Z13.out; have := Z14.out; have := Z15.out; have := Z16.out; have := Z17.out; have := Z18.out; have := Z19.out; have := Z20.out; have := Z21.out; have := Z8'.out; (try simp only); omega))).trans c5_20
  clear c5_20
  go_wp2_with fail
  refine (eqIntS_any x11 x6 _ _ _ (T11_21.out.ints) (T6_21.out.ints)).mono ?_
  rintro e w22 ⟨rfl, d22⟩
  have KS22 : Hid (Keeps w21 w22) := d22.keeps
  clear d22
  have K22 : Hid (Keeps w w22) := Keeps.trans K21.out KS22.out
  have Z22 : Hid (w21.heap.size ≤ w22.heap.size) := KS22.out.size
  have T3_22 := Lib.hid (T3_21.out.keep KS22.out)
  clear T3_21
  have T4_22 := Lib.hid (T4_21.out.keep KS22.out)
  clear T4_21
  have T5_22 := Lib.hid (T5_21.out.keep KS22.out)
  clear T5_21
  have T6_22 := Lib.hid (T6_21.out.keep KS22.out)
  clear T6_21
  have T7_22 := Lib.hid (T7_21.out.keep KS22.out)
  clear T7_21
  have T9_22 := Lib.hid (T9_21.out.keep KS22.out)
  clear T9_21
  have T10_22 := Lib.hid (T10_21.out.keep KS22.out)
  clear T10_21
  have T11_22 := Lib.hid (T11_21.out.keep KS22.out)
  clear T11_21
  have T15_22 := Lib.hid (T15_21.out.keep KS22.out)
  clear T15_21
  have T17_22 := Lib.hid (T17_21.out.keep KS22.out)
  clear T17_21
  have c0_22 := cell_keep KS22.out c0_21
  clear c0_21
  have c1_22 := cell_keep KS22.out c1_21
  clear c1_21
  have c2_22 := cell_keep KS22.out c2_21
  clear c2_21
  have c3_22 := cell_keep KS22.out c3_21
  clear c3_21
  have c4_22 := cell_keep KS22.out c4_21
  clear c4_21
  have c5_22 := cell_keep KS22.out c5_21
  clear c5_21
  go_wp2_with fail
  refine (markIntS_any w10.heap.size x11 L 1 _ T11_22.out.own (by omega) (by omega)).mono ?_
  rintro e w23 ⟨rfl, o23, g23⟩
  have G23 : Hid (Chg w10.heap.size w11.heap.size w22 w23) := Chg.of_grown g23 fun q hq => ⟨(T11_22.out.own.lt q hq).1, T11_22.out.hi q hq⟩
  have T11_23 : Hid (OwI w10.heap.size w11.heap.size w23 x11 (iota 1 L.length)) := ⟨o23, T11_22.out.hi⟩
  clear o23 g23 T11_22
  have Z23 : Hid (w22.heap.size ≤ w23.heap.size) := G23.out.size
  have K23 : Hid (Keeps w w23) := G23.out.keeps K22.out (by have := Z1.out; have := Z2.out; have := Z3.out; have := Z4.out; have := Z5.out; have := Z6.out; have := Z7.out; have := Z8.out; have := Z9.out; have := Z10.out; have := Z11.out; have := Z12.out; have := Z13.out; have := Z14.out; have := Z15.out; have := Z16.out; have := Z17.out; have := Z18.out; have := Z19.out; have := Z20.out; have := Z21.out; have := Z22.out; have := Z23.out; omega)
  have T3_23 := Lib.hid (T3_22.out.chg G23.out (by have := Z1.out; have := Z2.out; have := Z3.out; have := Z4.out; have := Z5.out; have := Z6.out; have := Z7.out; have := Z8.out; have := Z9.out; have := Z10.out; have := Z11.out; have := Z12.out; have := Z13.out; have := Z14.out; have := Z15.out; have := Z16.out; have := Z17.out; have := Z18.out; have := Z19.out; have := Z20.out; have := Z21.out; have := Z22.out; have := Z23.out; omega))
  clear T3_22
  have T4_23 := Lib.hid (T4_22.out.chg G23.out (by have := Z1.out; have := Z2.out; have := Z3.out; have := Z4.out; have := Z5.out; have := Z6.out; have := Z7.out; have := Z8.out; have := Z9.out; have := Z10.out; have := Z11.out; have := Z12.out; have := Z13.out; have := Z14.out; have := Z15.out; have := Z16.out; have := Z17.out; have := Z18.out; have := Z19.out; have := Z20.out; have := Z21.out; have := Z22.out; have := Z23.out; omega))
  clear T4_22
  have T5_23 := Lib.hid (T5_22.out.chg G23.out (by have := Z1.out; have := Z2.out; have := Z3.out; have := Z4.out; have := Z5.out; have := Z6.out; have := Z7.out; have := Z8.out; have := Z9.out; have := Z10.out; have := Z11.out; have := Z12.out; have := Z13.out; have := Z14.out; have := Z15.out; have := Z16.out; have := Z17.out; have := Z18.out; have := Z19.out; have := Z20.out; have := Z21.out; have := Z22.out; have := Z23.out; omega))
  clear T5_22
  have T6_23 := Lib.hid (T6_22.out.chg G23.out (by have := Z1.out; have := Z2.out; have := Z3.out; have := Z4.out; have := Z5.out; have := Z6.out; have := Z7.out; have := Z8.out; have := Z9.out; have := Z10.out; have := Z11.out; have := Z12.out; have := Z13.out; have := Z14.out; have := Z15.out; have := Z16.out; have := Z17.out; have := Z18.out; have := Z19.out; have := Z20.out; have := Z21.out; have := Z22.out; have := Z23.out; omega))
  clear T6_22
  have T7_23 := Lib.hid (T7_22.out.chg G23.out (by have := Z1.out; have := Z2.out; have := Z3.out; have := Z4.out; have := Z5.out; have := Z6.out; have := Z7.out; have := Z8.out; have := Z9.out; have := Z10.out; have := Z11.out; have := Z12.out; have := Z13.out; have := Z14.out; have := Z15.out; have := Z16.out; have := Z17.out; have := Z18.out; have := Z19.out; have := Z20.out; have := Z21.out; have := Z22.out; have := Z23.out; omega))
  clear T7_22
  have T9_23 := Lib.hid (T9_22.out.chg G23.out (by have := Z1.out; have := Z2.out; have := Z3.out; have := Z4.out; have := Z5.out; have := Z6.out; have := Z7.out; have := Z8.out; have := Z9.out; have := Z10.out; have := Z11.out; have := Z12.out; have := Z13.out; have := Z14.out; have := Z15.out; have := Z16.out; have := Z17.out; have := Z18.out; have := Z19.out; have := Z20.out; have := Z21.out; have := Z22.out; have := Z23.out; omega))
  clear T9_22
  have T10_23 := Lib.hid (T10_22.out.chg G23.out (by have := Z1.out; have := Z2.out; have := Z3.out; have := Z4.out; have := Z5.out; have := Z6.out; have := Z7.out; have := Z8.out; have := Z9.out; have := Z10.out; have := Z11.out; have := Z12.out; have := Z13.out; have := Z14.out; have := Z15.out; have := Z16.out; have := Z17.out; have := Z18.out; have := Z19.out; have := Z20.out; have := Z21.out; have := Z22.out; have := Z23.out; omega))
  clear T10_22
  have T15_23 := Lib.hid (T15_22.out.chg G23.out (by have := Z1.out; have := Z2.out; have := Z3.out; have := Z4.out; have := Z5.out; have := Z6.out; have := Z7.out; have := Z8.out; have := Z9.out; have := Z10.out; have := Z11.out; have := Z12.out; have := Z13.out; have := Z14.out; have := Z15.out; have := Z16.out; have := Z17.out; have := Z18.out; have := Z19.out; have := Z20.out; have := Z21.out; have := Z22.out; have := Z23.out; omega))
  clear T15_22
  have T17_23 := Lib.hid (T17_22.out.chg G23.out (by have := Z1.out; have := Z2.out; have := Z3.out; have := Z4.out; have := Z5.out; have := Z6.out; have := Z7.out; have := Z8.out; have := Z9.out; have := Z10.out; have := Z11.out; have := Z12.out; have := Z13.out; have := Z14.out; have := Z15.out; have := Z16.out; have := Z17.out; have := Z18.out; have := Z19.out; have := Z20.out; have := Z21.out; have := Z22.out; have := Z23.out; omega))
  clear T17_22
  have c0_23 := (World.cell?_of_block (a := ⟨w.heap.size, 0, none⟩) (G23.out.block (w.heap.size) (by have := Z1.out; have := Z2.out; have := Z3.out; have := Z4.out; have := Z5.out; have := Z6.out; have := Z7.out; have := Z8.out; have := Z9.out; have := Z10.out; have := Z11.out; have := Z12.out; have := Z13.out; have := Z14.out; have := Z15.out; have := Z16.out; have := Z17.out; have := Z18.out; have := Z19.out; have := Z20.out; have := Z21.out; have := Z22.out; have := Z23.out; have := Z1'.out; (try simp only); omega) (by have := Z1.out; have := Z2.out; have := Z3.out; have := Z4.out; have := Z5.out; have := Z6.out; have := Z7.out; have := Z8.out; have := Z9.out; have := Z10.out; have := Z11.out; have := Z12.out; have := Z13.out; have := Z14.out; have := Z15.out; have := Z16.out; have := Z17.out; have := Z18.out; have := Z19.out; have := Z20.out; have := Z21.out; have := Z22.out; have := Z23.out; have := Z1'.out; (try simp only); omega))).trans c0_22
  clear c0_22
  have c1_23 := (World.cell?_of_block (a := ⟨w.heap.size, 1, none⟩) (G23.out.block (w.heap.size) (by have := Z1.out; have := Z2.out; have := Z3.out; have := Z4.out; have := Z5.out; have := Z6.out; have := Z7.out; have := Z8.out; have := Z9.out; have := Z10.out; have := Z11.out; have := Z12.out; have := Z13.out; have := Z14.out; have := Z15.out; have := Z16.out; have := Z17.out; have := Z18.out; have := Z19.out; have := Z20.out; have := Z21.out; have := Z22.out; have := Z23.out; have := Z1'.out; (try simp only); omega) (by have := Z1.out; have := Z2.out; have := Z3.out; have := Z4.out; have := Z5.out; have := Z6.out; have := Z7.out; have := Z8.out; have := Z9.out; have := Z10.out; have := Z11.out; have := Z12.out; have := Z13.out; have := Z14.out; have := Z15.out; have := Z16.out; have := Z17.out; have := Z18.out; have := Z19.out; have := Z20.out; have := Z21.out; have := Z22.out; have := Z23.out; have := Z1'.out; (try simp only); omega))).trans c1_22
  clear c1_22
  have c2_23 := (World.cell?_of_block (a := ⟨w.heap.size, 2, none⟩) (G23.out.block (w.heap.size) (by have := Z1.out; have := Z2.out; have := Z3.out; have := Z4.out; have := Z5.out; have := Z6.out; have := Z7.out; have := Z8.out; have := Z9.out; have := Z10.out; have := Z11.out; have := Z12.out; have := Z13.out; have := Z14.out; have := Z15.out; have := Z16.out; have := Z17.out; have := Z18.out; have := Z19.out; have := Z20.out; have := Z21.out; have := Z22.out; have := Z23.out; have := Z1'.out; (try simp only); omega) (by have := Z1.out; have := Z2.out; have := Z3.out; have := Z4.out; have := Z5.out; have := Z6.out; have := Z7.out; have := Z8.out; have := Z9.out; have := Z10.out; have := Z11.out; have := Z12.out; have := Z13.out; have := Z14.out; have := Z15.out; have := Z16.out; have := Z17.out; have := Z18.out; have := Z19.out; have := Z20.out; have := Z21.out; have := Z22.out; have := Z23.out; have := Z1'.out; (try simp only); omega))).trans c2_22
  clear c2_22
  have c3_23 := (World.cell?_of_block (a := ⟨w7.heap.size, 0, none⟩) (G23.out.block (w7.heap.size) (by have := Z1.out; have := Z2.out; have := Z3.out; have := Z4.out; have := Z5.out; have := Z6.out; have := Z7.out; have := Z8.out; have := Z9.out; have := Z10.out; have := Z11.out; have := Z12.out; have := Z13.out; have := Z14.out; have := Z15.out; have := Z16.out; have := Z17.out; have := Z18.out; have := Z19.out; have := Z20.out; have := Z21.out; have := Z22.out; have := Z23.out; have := Z8'.out; (try simp only); omega) (by have := Z1.out; have := Z2.out; have := Z3.out; have := Z4.out; have := Z5.out; have := Z6.out; have := Z7.out; have := Z8.out; have := Z9.out; have := Z10.out; have := Z11.out; have := Z12.out; have := Z13.out; have := Z14.out; have := Z15.out; have := Z16.out; have := Z17.out; have := Z18.out; have := Z19.out; have := Z20.out; have := Z21.out; have := Z22.out; have := Z23.out; have := Z8'.out; (try simp only); omega))).trans c3_22
  clear c3_22
  have c4_23 := (World.cell?_of_block (a := ⟨w7.heap.size, 1, none⟩) (G23.out.block (w7.heap.size) (by have := Z1.out; have := Z2.out; have := Z3.out; have := Z4.out; have := Z5.out; have := Z6.out; have := Z7.out; have := Z8.out; have := Z9.out; have := Z10.out; have := Z11.out; have := Z12.out; have := Z13.out; have := Z14.out; have := Z15.out; have := Z16.out; have := Z17.out; have := Z18.out; have := Z19.out; have := Z20.out; have := Z21.out; have := Z22.out; have := Z23.out; have := Z8'.out; (try simp only); omega) (by have := Z1.out; have := Z2.out; have := Z3.out; have := Z4.out; have := Z5.out; have := Z6.out; have := Z7.out; have := Z8.out; have := Z9.out; have := Z10.out; have := Z11.out; have := Z12.out; have := Z13.out; have := Z14.out; have := Z15.out; have := Z16.out; have := Z17.out; have := Z18.out; have := Z19.out; have := Z20.out; have := Z21.out; have := Z22.out; have := Z23.out; have := Z8'.out; (try simp only); omega))).trans c4_22
  clear c4_22
  have c5_23 := (World.cell?_of_block (a := ⟨w7.heap.size, 2, none⟩) (G23.out.block (w7.heap.size) (by have := Z1.out; have := Z2.out; have := Z3.out; have := Z4.out; have := Z5.out; have := Z6.out; have := Z7.out; have := Z8.out; have := Z9.out; have := Z10.out; have := Z11.out; have := Z12.out; have := Z13.out; have := Z14.out; have := Z15.out; have := Z16.out; have := Z17.out; have := Z18.out; have := Z19.out; have := Z20.out; have := Z21.out; have := Z22.out; have := Z23.out; have := Z8'.out; (try simp only); omega) (by have := Z1.out; have := Z2.out; have := Z3.out; have := Z4.out; have := Z5.out; have := Z6.out; have := Z7.out; have := Z8.out; have := Z9.out; have := Z10.out; have := Z11.out; have := Z12.out; have := Z13.out; have := Z14.out; have := Z15.out; have := Z16.out; have := Z17.out; have := Z18.out; have := Z19.out; have := Z20.out; have := Z21.out; have := Z22.out; have := Z23.out; have := Z8'.out; (try simp only); omega))).trans c5_22
  clear c5_22
  go_wp2_with fail
  refine (heldIntS_any x11 L 1 _ (T11_23.out.ints) (by omega) (by omega)).mono ?_
  rintro e wh ⟨rfl, rfl⟩
  go_wp2_with fail
  refine (toRootedProblem_any _ l0 _ (R0.out.keep K23.out) s0).mono ?_
  rintro e w24 ⟨t24, rfl, o24, k24⟩
  obtain ⟨t24a2, t24c2, rfl⟩ := o24.rd.shape
  have T24 := Lib.hid o24
  clear o24
  have KS24 : Hid (Keeps w23 w24) := k24
  clear k24
  have K24 : Hid (Keeps w w24) := Keeps.trans K23.out KS24.out
  have Z24 : Hid (w23.heap.size ≤ w24.heap.size) := KS24.out.size
  have T3_24 := Lib.hid (T3_23.out.keep KS24.out)
  clear T3_23
  have T4_24 := Lib.hid (T4_23.out.keep KS24.out)
  clear T4_23
  have T5_24 := Lib.hid (T5_23.out.keep KS24.out)
  clear T5_23
  have T6_24 := Lib.hid (T6_23.out.keep KS24.out)
  clear T6_23
  have T7_24 := Lib.hid (T7_23.out.keep KS24.out)
  clear T7_23
  have T9_24 := Lib.hid (T9_23.out.keep KS24.out)
  clear T9_23
  have T10_24 := Lib.hid (T10_23.out.keep KS24.out)
  clear T10_23
  have T11_24 := Lib.hid (T11_23.out.keep KS24.out)
  clear T11_23
  have T15_24 := Lib.hid (T15_23.out.keep KS24.out)
  clear T15_23
  have T17_24 := Lib.hid (T17_23.out.keep KS24.out)
  clear T17_23
  have c0_24 := cell_keep KS24.out c0_23
  clear c0_23
  have c1_24 := cell_keep KS24.out c1_23
  clear c1_23
  have c2_24 := cell_keep KS24.out c2_23
  clear c2_23
  have c3_24 := cell_keep KS24.out c3_23
  clear c3_23
  have c4_24 := cell_keep KS24.out c4_23
  clear c4_23
  have c5_24 := cell_keep KS24.out c5_23
  clear c5_23
  go_wp2_with fail
  refine (toIntS_any _ l1 _ (R1.out.keep K24.out) s1).mono ?_
  rintro e w25 ⟨t25, rfl, o25, k25⟩
  have T25 := Lib.hid o25.owI
  clear o25
  have KS25 : Hid (Keeps w24 w25) := k25
  clear k25
  have K25 : Hid (Keeps w w25) := Keeps.trans K24.out KS25.out
  have Z25 : Hid (w24.heap.size ≤ w25.heap.size) := KS25.out.size
  have T3_25 := Lib.hid (T3_24.out.keep KS25.out)
  clear T3_24
  have T4_25 := Lib.hid (T4_24.out.keep KS25.out)
  clear T4_24
  have T5_25 := Lib.hid (T5_24.out.keep KS25.out)
  clear T5_24
  have T6_25 := Lib.hid (T6_24.out.keep KS25.out)
  clear T6_24
  have T7_25 := Lib.hid (T7_24.out.keep KS25.out)
  clear T7_24
  have T9_25 := Lib.hid (T9_24.out.keep KS25.out)
  clear T9_24
  have T10_25 := Lib.hid (T10_24.out.keep KS25.out)
  clear T10_24
  have T11_25 := Lib.hid (T11_24.out.keep KS25.out)
  clear T11_24
  have T15_25 := Lib.hid (T15_24.out.keep KS25.out)
  clear T15_24
  have T17_25 := Lib.hid (T17_24.out.keep KS25.out)
  clear T17_24
  have T24_25 := Lib.hid (T24.out.keep KS25.out)
  clear T24
  have c0_25 := cell_keep KS25.out c0_24
  clear c0_24
  have c1_25 := cell_keep KS25.out c1_24
  clear c1_24
  have c2_25 := cell_keep KS25.out c2_24
  clear c2_24
  have c3_25 := cell_keep KS25.out c3_24
  clear c3_24
  have c4_25 := cell_keep KS25.out c4_24
  clear c4_24
  have c5_25 := cell_keep KS25.out c5_24
  clear c5_24
  go_wp2_with fail
  refine (toIntS_any _ l2 _ (R2.out.keep K25.out) s2).mono ?_
  rintro e w26 ⟨t26, rfl, o26, k26⟩
  have T26 := Lib.hid o26.owI
  clear o26
  have KS26 : Hid (Keeps w25 w26) := k26
  clear k26
  have K26 : Hid (Keeps w w26) := Keeps.trans K25.out KS26.out
  have Z26 : Hid (w25.heap.size ≤ w26.heap.size) := KS26.out.size
  have T3_26 := Lib.hid (T3_25.out.keep KS26.out)
  clear T3_25
  have T4_26 := Lib.hid (T4_25.out.keep KS26.out)
  clear T4_25
  have T5_26 := Lib.hid (T5_25.out.keep KS26.out)
  clear T5_25
  have T6_26 := Lib.hid (T6_25.out.keep KS26.out)
  clear T6_25
  have T7_26 := Lib.hid (T7_25.out.keep KS26.out)
  clear T7_25
  have T9_26 := Lib.hid (T9_25.out.keep KS26.out)
  clear T9_25
  have T10_26 := Lib.hid (T10_25.out.keep KS26.out)
  clear T10_25
  have T11_26 := Lib.hid (T11_25.out.keep KS26.out)
  clear T11_25
  have T15_26 := Lib.hid (T15_25.out.keep KS26.out)
  clear T15_25
  have T17_26 := Lib.hid (T17_25.out.keep KS26.out)
  clear T17_25
  have T24_26 := Lib.hid (T24_25.out.keep KS26.out)
  clear T24_25
  have T25_26 := Lib.hid (T25.out.keep KS26.out)
  clear T25
  have c0_26 := cell_keep KS26.out c0_25
  clear c0_25
  have c1_26 := cell_keep KS26.out c1_25
  clear c1_25
  have c2_26 := cell_keep KS26.out c2_25
  clear c2_25
  have c3_26 := cell_keep KS26.out c3_25
  clear c3_25
  have c4_26 := cell_keep KS26.out c4_25
  clear c4_25
  have c5_26 := cell_keep KS26.out c5_25
  clear c5_25
  go_wp2_with fail
  refine (implCompleteRooted_any (.agg #[.int .i64 l0.labels, .int .i64 l0.children, .slice t24a2 l0.lines.length t24c2]) l0 t25 l1 t26 l2 _ (T24_26.out.rd) IL0.out s0 (T25_26.out.ints) IL1.out s1 (T26.out.ints) IL2.out s2).mono ?_
  rw [HE.out]
  rintro e w27 ⟨x27, rfl, o27, b27, k27⟩
  rw [HL.out] at o27
  have T27 := Lib.hid o27.owI
  clear o27 b27
  have KS27 : Hid (Keeps w26 w27) := k27
  clear k27
  have K27 : Hid (Keeps w w27) := Keeps.trans K26.out KS27.out
  have Z27 : Hid (w26.heap.size ≤ w27.heap.size) := KS27.out.size
  have T3_27 := Lib.hid (T3_26.out.keep KS27.out)
  clear T3_26
  have T4_27 := Lib.hid (T4_26.out.keep KS27.out)
  clear T4_26
  have T5_27 := Lib.hid (T5_26.out.keep KS27.out)
  clear T5_26
  have T6_27 := Lib.hid (T6_26.out.keep KS27.out)
  clear T6_26
  have T7_27 := Lib.hid (T7_26.out.keep KS27.out)
  clear T7_26
  have T9_27 := Lib.hid (T9_26.out.keep KS27.out)
  clear T9_26
  have T10_27 := Lib.hid (T10_26.out.keep KS27.out)
  clear T10_26
  have T11_27 := Lib.hid (T11_26.out.keep KS27.out)
  clear T11_26
  have T15_27 := Lib.hid (T15_26.out.keep KS27.out)
  clear T15_26
  have T17_27 := Lib.hid (T17_26.out.keep KS27.out)
  clear T17_26
  have T24_27 := Lib.hid (T24_26.out.keep KS27.out)
  clear T24_26
  have T25_27 := Lib.hid (T25_26.out.keep KS27.out)
  clear T25_26
  have T26_27 := Lib.hid (T26.out.keep KS27.out)
  clear T26
  have c0_27 := cell_keep KS27.out c0_26
  clear c0_26
  have c1_27 := cell_keep KS27.out c1_26
  clear c1_26
  have c2_27 := cell_keep KS27.out c2_26
  clear c2_26
  have c3_27 := cell_keep KS27.out c3_26
  clear c3_26
  have c4_27 := cell_keep KS27.out c4_26
  clear c4_26
  have c5_27 := cell_keep KS27.out c5_26
  clear c5_26
  go_wp2_with fail
  refine (eqIntS_any x27 x6 _ _ _ (T27.out.ints) (T6_27.out.ints)).mono ?_
  rintro e w28 ⟨rfl, d28⟩
  have KS28 : Hid (Keeps w27 w28) := d28.keeps
  clear d28
  have K28 : Hid (Keeps w w28) := Keeps.trans K27.out KS28.out
  have Z28 : Hid (w27.heap.size ≤ w28.heap.size) := KS28.out.size
  have T3_28 := Lib.hid (T3_27.out.keep KS28.out)
  clear T3_27
  have T4_28 := Lib.hid (T4_27.out.keep KS28.out)
  clear T4_27
  have T5_28 := Lib.hid (T5_27.out.keep KS28.out)
  clear T5_27
  have T6_28 := Lib.hid (T6_27.out.keep KS28.out)
  clear T6_27
  have T7_28 := Lib.hid (T7_27.out.keep KS28.out)
  clear T7_27
  have T9_28 := Lib.hid (T9_27.out.keep KS28.out)
  clear T9_27
  have T10_28 := Lib.hid (T10_27.out.keep KS28.out)
  clear T10_27
  have T11_28 := Lib.hid (T11_27.out.keep KS28.out)
  clear T11_27
  have T15_28 := Lib.hid (T15_27.out.keep KS28.out)
  clear T15_27
  have T17_28 := Lib.hid (T17_27.out.keep KS28.out)
  clear T17_27
  have T24_28 := Lib.hid (T24_27.out.keep KS28.out)
  clear T24_27
  have T25_28 := Lib.hid (T25_27.out.keep KS28.out)
  clear T25_27
  have T26_28 := Lib.hid (T26_27.out.keep KS28.out)
  clear T26_27
  have T27_28 := Lib.hid (T27.out.keep KS28.out)
  clear T27
  have c0_28 := cell_keep KS28.out c0_27
  clear c0_27
  have c1_28 := cell_keep KS28.out c1_27
  clear c1_27
  have c2_28 := cell_keep KS28.out c2_27
  clear c2_27
  have c3_28 := cell_keep KS28.out c3_27
  clear c3_27
  have c4_28 := cell_keep KS28.out c4_27
  clear c4_27
  have c5_28 := cell_keep KS28.out c5_27
  clear c5_27
  go_wp2_with fail
  refine (heldIntS_any x11 L 1 _ (T11_28.out.ints) (by omega) (by omega)).mono ?_
  rintro e wh ⟨rfl, rfl⟩
  go_wp2_with fail
  go_ret
  exact ⟨rfl, K28.out⟩

set_option maxHeartbeats 1600000 in
theorem lawCompleteRooted (v0 : Value) (l0 : RP) (v1 : Value) (l1 : List Int) (v2 : Value) (l2 : List Int) (w : World) (r0 : RdR w v0 l0) (il0 : okR l0) (r1 : Ints w v1 l1) (il1 : ∀ n ∈ l1, I64 n) (r2 : Ints w v2 l2) (il2 : ∀ n ∈ l2, I64 n) : Calls Try.prog 4 #[v0, v1, v2] w fun e w' => e = .returned (.bool true) ∧ Below w.heap.size w w' := by
  by_cases s1 : l1.length ≤ 1048576
  case neg =>
    have R0 := Lib.hid r0
    obtain ⟨p0a2, p0c2, rfl⟩ := r0.shape
    have R1 := Lib.hid r1
    obtain ⟨ad1, cp1, rfl, _⟩ := r1.form
    have R2 := Lib.hid r2
    obtain ⟨ad2, cp2, rfl, _⟩ := r2.form
    clear r0 il0 r1 il1 r2 il2
    have hgt : (1048576 : Int) < (l1.length : Int) := by omega
    go_enter Try.func4, Try.ntmps4
    go_wp2
    go_ret
    exact ⟨rfl, (by repeat (first | exact Keeps.refl _ | with_reducible refine Keeps.alloc ?_ _))⟩
  by_cases s2 : l2.length ≤ 1048576
  case neg =>
    have R0 := Lib.hid r0
    obtain ⟨p0a2, p0c2, rfl⟩ := r0.shape
    have R1 := Lib.hid r1
    obtain ⟨ad1, cp1, rfl, _⟩ := r1.form
    have R2 := Lib.hid r2
    obtain ⟨ad2, cp2, rfl, _⟩ := r2.form
    clear r0 il0 r1 il1 r2 il2
    have hgt : (1048576 : Int) < (l2.length : Int) := by omega
    go_enter Try.func4, Try.ntmps4
    go_wp2
    go_ret
    exact ⟨rfl, (by repeat (first | exact Keeps.refl _ | with_reducible refine Keeps.alloc ?_ _))⟩
  by_cases q0 : szR l0 ≤ 1048576
  case neg =>
    have R0 := Lib.hid r0
    obtain ⟨p0a2, p0c2, rfl⟩ := r0.shape
    have R1 := Lib.hid r1
    obtain ⟨ad1, cp1, rfl, _⟩ := r1.form
    have R2 := Lib.hid r2
    obtain ⟨ad2, cp2, rfl, _⟩ := r2.form
    clear r0 il0 r1 il1 r2 il2
    have hle1 : ¬ (1048576 : Int) < (l1.length : Int) := by omega
    have hle2 : ¬ (1048576 : Int) < (l2.length : Int) := by omega
    go_enter Try.func4, Try.ntmps4
    go_wp2_with fail
    refine (szRootedProblem_any _ l0 (1048576) _ (R0.out.keep (by repeat (first | exact Keeps.refl _ | with_reducible refine Keeps.alloc ?_ _))) (by omega) (by omega)).mono ?_
    rintro e W0 ⟨rfl, k0⟩
    rw [szL, if_neg (by omega)]
    have KK0 : Hid (Keeps w W0) := Keeps.trans (by repeat (first | exact Keeps.refl _ | with_reducible refine Keeps.alloc ?_ _)) k0
    obtain ⟨hc0, hf0⟩ := bcell k0
    have hz0 := k0.size
    clear k0
    go_wp2
    go_ret
    exact ⟨rfl, KK0.out⟩
  exact lawCompleteRooted_small v0 l0 r0 il0 v1 l1 r1 il1 v2 l2 r2 il2 (by omega) s1 s2
end Go.Proofs.Ytjmhjobfiemmnaa
