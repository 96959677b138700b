/- The walk of laws.FnExactFirstRootedFault: it returns true at every input and changes nothing that was there. -/
import Derived.Test.YtiejigogmnkjdaaRs
import Derived.Test.YtiejigogmnkjdaaRng
import Derived.Test.YtiejigogmnkjdaaOpen
import Derived.Deep.RegionHeld3
namespace Go.Proofs.Ytiejigogmnkjdaa
open Go.RowKit
set_option linter.unusedSimpArgs false
set_option linter.unusedVariables false

set_option maxRecDepth 100000 in
set_option maxHeartbeats 8000000 in
theorem lawFirstRootedFault_small {w : World} (v0 : Value) (l0 : RP) (r0 : RdR w v0 l0) (il0 : okR l0) (v1 : Value) (l1 : List Int) (r1 : Ints w v1 l1) (il1 : ∀ n ∈ l1, I64 n) (v2 : Value) (l2 : List Int) (r2 : Ints w v2 l2) (il2 : ∀ n ∈ l2, I64 n) (s0 : szR l0 ≤ 1048576) (s1 : l1.length ≤ 1048576) (s2 : l2.length ≤ 1048576) : Calls Try.prog 9 #[v0, v1, v2] w fun e w' => e = .returned (.bool true) ∧ Below w.heap.size w w' := by
  have HE := Lib.hid (FirstRootedFault_eq l0 l1 l2 il0 s0 il1 s1 il2 s2)
  have R0 := Lib.hid r0
  have IL0 := Lib.hid il0
  obtain ⟨p0a2, p0c2, rfl⟩ := r0.shape
  clear r0 il0
  have R1 := Lib.hid r1
  have IL1 := Lib.hid il1
  obtain ⟨ad1, cp1, rfl, _⟩ := r1.form
  clear r1 il1
  have R2 := Lib.hid r2
  have IL2 := Lib.hid il2
  obtain ⟨ad2, cp2, rfl, _⟩ := r2.form
  clear r2 il2
  have K0 : Hid (Keeps w w) := Keeps.refl w
  go_enter Try.func9, Try.ntmps9
  go_wp2_with fail
  have KS1 : Hid (Keeps w (w.alloc (.cells #[.int .i64 l0.labels, .int .i64 l0.children, .slice p0a2 l0.lines.length p0c2] 61))) := (Keeps.refl _).alloc _
  have Z1' : Hid (w.heap.size + 1 ≤ (w.alloc (.cells #[.int .i64 l0.labels, .int .i64 l0.children, .slice p0a2 l0.lines.length p0c2] 61)).heap.size) := by show _ ≤ _; simp
  have E1 : (w.alloc (.cells #[.int .i64 l0.labels, .int .i64 l0.children, .slice p0a2 l0.lines.length p0c2] 61)).heap.size = w.heap.size + 1 := by rw [World.size_alloc]
  have c0_1 : (w.alloc (.cells #[.int .i64 l0.labels, .int .i64 l0.children, .slice p0a2 l0.lines.length p0c2] 61)).cell? ⟨w.heap.size, 0, none⟩ = some (.int .i64 l0.labels) := by rw [World.cell?_alloc_at _ _ _ _ rfl]; rfl
  have c1_1 : (w.alloc (.cells #[.int .i64 l0.labels, .int .i64 l0.children, .slice p0a2 l0.lines.length p0c2] 61)).cell? ⟨w.heap.size, 1, none⟩ = some (.int .i64 l0.children) := by rw [World.cell?_alloc_at _ _ _ _ rfl]; rfl
  have c2_1 : (w.alloc (.cells #[.int .i64 l0.labels, .int .i64 l0.children, .slice p0a2 l0.lines.length p0c2] 61)).cell? ⟨w.heap.size, 2, none⟩ = some (.slice p0a2 l0.lines.length p0c2) := by rw [World.cell?_alloc_at _ _ _ _ rfl]; rfl
  generalize w.alloc (.cells #[.int .i64 l0.labels, .int .i64 l0.children, .slice p0a2 l0.lines.length p0c2] 61) = w1 at KS1 Z1' E1 c0_1 c1_1 c2_1 ⊢
  have K1 : Hid (Keeps w w1) := Keeps.trans K0.out KS1.out
  have Z1 : Hid (w.heap.size ≤ w1.heap.size) := KS1.out.size
  clear E1
  refine (szRootedProblem_any _ l0 1048576 _ (R0.out.keep K1.out) (by omega) (by omega)).mono ?_
  rintro e w2 ⟨rfl, k2⟩
  rw [szL, if_pos (by omega)]
  have KS2 : Hid (Keeps w1 w2) := k2
  clear k2
  have K2 : Hid (Keeps w w2) := Keeps.trans K1.out KS2.out
  have Z2 : Hid (w1.heap.size ≤ w2.heap.size) := KS2.out.size
  have c0_2 := cell_keep KS2.out c0_1
  clear c0_1
  have c1_2 := cell_keep KS2.out c1_1
  clear c1_1
  have c2_2 := cell_keep KS2.out c2_1
  clear c2_1
  go_wp2_with fail
  refine (toRootedProblem_any _ l0 _ (R0.out.keep K2.out) s0).mono ?_
  rintro e w3 ⟨t3, rfl, o3, k3⟩
  obtain ⟨t3a2, t3c2, rfl⟩ := o3.rd.shape
  have T3 := Lib.hid o3
  clear o3
  have KS3 : Hid (Keeps w2 w3) := k3
  clear k3
  have K3 : Hid (Keeps w w3) := Keeps.trans K2.out KS3.out
  have Z3 : Hid (w2.heap.size ≤ w3.heap.size) := KS3.out.size
  have c0_3 := cell_keep KS3.out c0_2
  clear c0_2
  have c1_3 := cell_keep KS3.out c1_2
  clear c1_2
  have c2_3 := cell_keep KS3.out c2_2
  clear c2_2
  go_wp2_with fail
  refine (toIntS_any _ l1 _ (R1.out.keep K3.out) s1).mono ?_
  rintro e w4 ⟨t4, rfl, o4, k4⟩
  have T4 := Lib.hid o4.owI
  clear o4
  have KS4 : Hid (Keeps w3 w4) := k4
  clear k4
  have K4 : Hid (Keeps w w4) := Keeps.trans K3.out KS4.out
  have Z4 : Hid (w3.heap.size ≤ w4.heap.size) := KS4.out.size
  have T3_4 := Lib.hid (T3.out.keep KS4.out)
  clear T3
  have c0_4 := cell_keep KS4.out c0_3
  clear c0_3
  have c1_4 := cell_keep KS4.out c1_3
  clear c1_3
  have c2_4 := cell_keep KS4.out c2_3
  clear c2_3
  go_wp2_with fail
  refine (toIntS_any _ l2 _ (R2.out.keep K4.out) s2).mono ?_
  rintro e w5 ⟨t5, rfl, o5, k5⟩
  have T5 := Lib.hid o5.owI
  clear o5
  have KS5 : Hid (Keeps w4 w5) := k5
  clear k5
  have K5 : Hid (Keeps w w5) := Keeps.trans K4.out KS5.out
  have Z5 : Hid (w4.heap.size ≤ w5.heap.size) := KS5.out.size
  have T3_5 := Lib.hid (T3_4.out.keep KS5.out)
  clear T3_4
  have T4_5 := Lib.hid (T4.out.keep KS5.out)
  clear T4
  have c0_5 := cell_keep KS5.out c0_4
  clear c0_4
  have c1_5 := cell_keep KS5.out c1_4
  clear c1_4
  have c2_5 := cell_keep KS5.out c2_4
  clear c2_4
  go_wp2_with fail
  refine (specFirstRootedFault_any (.agg #[.int .i64 l0.labels, .int .i64 l0.children, .slice t3a2 l0.lines.length t3c2]) l0 t4 l1 t5 l2 _ (T3_5.out.rd) IL0.out s0 (T4_5.out.ints) IL1.out s1 (T5.out.ints) IL2.out s2).mono ?_
  rintro e w6 ⟨rfl, k6⟩
  generalize fFirstRootedFaultSpec l0 l1 l2 = R at *
  obtain ⟨Ra, Rb⟩ := R
  simp only at HE ⊢
  have KS6 : Hid (Keeps w5 w6) := k6
  clear k6
  have K6 : Hid (Keeps w w6) := Keeps.trans K5.out KS6.out
  have Z6 : Hid (w5.heap.size ≤ w6.heap.size) := KS6.out.size
  have T3_6 := Lib.hid (T3_5.out.keep KS6.out)
  clear T3_5
  have T4_6 := Lib.hid (T4_5.out.keep KS6.out)
  clear T4_5
  have T5_6 := Lib.hid (T5.out.keep KS6.out)
  clear T5
  have c0_6 := cell_keep KS6.out c0_5
  clear c0_5
  have c1_6 := cell_keep KS6.out c1_5
  clear c1_5
  have c2_6 := cell_keep KS6.out c2_5
  clear c2_5
  go_wp2_with fail
  refine (toRootedProblem_any _ l0 _ (R0.out.keep K6.out) s0).mono ?_
  rintro e w7 ⟨t7, rfl, o7, k7⟩
  obtain ⟨t7a2, t7c2, rfl⟩ := o7.rd.shape
  have T7 := Lib.hid o7
  clear o7
  have KS7 : Hid (Keeps w6 w7) := k7
  clear k7
  have K7 : Hid (Keeps w w7) := Keeps.trans K6.out KS7.out
  have Z7 : Hid (w6.heap.size ≤ w7.heap.size) := KS7.out.size
  have T3_7 := Lib.hid (T3_6.out.keep KS7.out)
  clear T3_6
  have T4_7 := Lib.hid (T4_6.out.keep KS7.out)
  clear T4_6
  have T5_7 := Lib.hid (T5_6.out.keep KS7.out)
  clear T5_6
  have c0_7 := cell_keep KS7.out c0_6
  clear c0_6
  have c1_7 := cell_keep KS7.out c1_6
  clear c1_6
  have c2_7 := cell_keep KS7.out c2_6
  clear c2_6
  have pre1 : (w7.alloc (.cells #[.int .i64 l0.labels, .int .i64 l0.children, .slice t7a2 l0.lines.length t7c2] 64)).cell? ⟨w.heap.size, 0, none⟩ = some (.int .i64 l0.labels) := cell_keep ((Keeps.refl _).alloc _) c0_7
  have pre2 : (w7.alloc (.cells #[.int .i64 l0.labels, .int .i64 l0.children, .slice t7a2 l0.lines.length t7c2] 64)).cell? ⟨w.heap.size, 1, none⟩ = some (.int .i64 l0.children) := cell_keep ((Keeps.refl _).alloc _) c1_7
  have pre3 : (w7.alloc (.cells #[.int .i64 l0.labels, .int .i64 l0.children, .slice t7a2 l0.lines.length t7c2] 64)).cell? ⟨w.heap.size, 2, none⟩ = some (.slice p0a2 l0.lines.length p0c2) := cell_keep ((Keeps.refl _).alloc _) c2_7
  go_wp2_with fail
  clear pre1 pre2 pre3
  have KS8 : Hid (Keeps w7 (w7.alloc (.cells #[.int .i64 l0.labels, .int .i64 l0.children, .slice t7a2 l0.lines.length t7c2] 64))) := (Keeps.refl _).alloc _
  have Z8' : Hid (w7.heap.size + 1 ≤ (w7.alloc (.cells #[.int .i64 l0.labels, .int .i64 l0.children, .slice t7a2 l0.lines.length t7c2] 64)).heap.size) := by show _ ≤ _; simp
  have E8 : (w7.alloc (.cells #[.int .i64 l0.labels, .int .i64 l0.children, .slice t7a2 l0.lines.length t7c2] 64)).heap.size = w7.heap.size + 1 := by rw [World.size_alloc]
  have c3_8 : (w7.alloc (.cells #[.int .i64 l0.labels, .int .i64 l0.children, .slice t7a2 l0.lines.length t7c2] 64)).cell? ⟨w7.heap.size, 0, none⟩ = some (.int .i64 l0.labels) := by rw [World.cell?_alloc_at _ _ _ _ rfl]; rfl
  have c4_8 : (w7.alloc (.cells #[.int .i64 l0.labels, .int .i64 l0.children, .slice t7a2 l0.lines.length t7c2] 64)).cell? ⟨w7.heap.size, 1, none⟩ = some (.int .i64 l0.children) := by rw [World.cell?_alloc_at _ _ _ _ rfl]; rfl
  have c5_8 : (w7.alloc (.cells #[.int .i64 l0.labels, .int .i64 l0.children, .slice t7a2 l0.lines.length t7c2] 64)).cell? ⟨w7.heap.size, 2, none⟩ = some (.slice t7a2 l0.lines.length t7c2) := by rw [World.cell?_alloc_at _ _ _ _ rfl]; rfl
  generalize w7.alloc (.cells #[.int .i64 l0.labels, .int .i64 l0.children, .slice t7a2 l0.lines.length t7c2] 64) = w8 at KS8 Z8' E8 c3_8 c4_8 c5_8 ⊢
  have K8 : Hid (Keeps w w8) := Keeps.trans K7.out KS8.out
  have Z8 : Hid (w7.heap.size ≤ w8.heap.size) := KS8.out.size
  have T3_8 := Lib.hid (T3_7.out.keep KS8.out)
  clear T3_7
  have T4_8 := Lib.hid (T4_7.out.keep KS8.out)
  clear T4_7
  have T5_8 := Lib.hid (T5_7.out.keep KS8.out)
  clear T5_7
  have T7_8 := Lib.hid (T7.out.keep KS8.out)
  clear T7
  have c0_8 := cell_keep KS8.out c0_7
  clear c0_7
  have c1_8 := cell_keep KS8.out c1_7
  clear c1_7
  have c2_8 := cell_keep KS8.out c2_7
  clear c2_7
  clear E8
  refine (toIntS_any _ l1 _ (R1.out.keep K8.out) s1).mono ?_
  rintro e w9 ⟨t9, rfl, o9, k9⟩
  have T9 := Lib.hid o9.owI
  clear o9
  have KS9 : Hid (Keeps w8 w9) := k9
  clear k9
  have K9 : Hid (Keeps w w9) := Keeps.trans K8.out KS9.out
  have Z9 : Hid (w8.heap.size ≤ w9.heap.size) := KS9.out.size
  have T3_9 := Lib.hid (T3_8.out.keep KS9.out)
  clear T3_8
  have T4_9 := Lib.hid (T4_8.out.keep KS9.out)
  clear T4_8
  have T5_9 := Lib.hid (T5_8.out.keep KS9.out)
  clear T5_8
  have T7_9 := Lib.hid (T7_8.out.keep KS9.out)
  clear T7_8
  have c0_9 := cell_keep KS9.out c0_8
  clear c0_8
  have c1_9 := cell_keep KS9.out c1_8
  clear c1_8
  have c2_9 := cell_keep KS9.out c2_8
  clear c2_8
  have c3_9 := cell_keep KS9.out c3_8
  clear c3_8
  have c4_9 := cell_keep KS9.out c4_8
  clear c4_8
  have c5_9 := cell_keep KS9.out c5_8
  clear c5_8
  go_wp2_with fail
  refine (toIntS_any _ l2 _ (R2.out.keep K9.out) s2).mono ?_
  rintro e w10 ⟨t10, rfl, o10, k10⟩
  have T10 := Lib.hid o10.owI
  clear o10
  have KS10 : Hid (Keeps w9 w10) := k10
  clear k10
  have K10 : Hid (Keeps w w10) := Keeps.trans K9.out KS10.out
  have Z10 : Hid (w9.heap.size ≤ w10.heap.size) := KS10.out.size
  have T3_10 := Lib.hid (T3_9.out.keep KS10.out)
  clear T3_9
  have T4_10 := Lib.hid (T4_9.out.keep KS10.out)
  clear T4_9
  have T5_10 := Lib.hid (T5_9.out.keep KS10.out)
  clear T5_9
  have T7_10 := Lib.hid (T7_9.out.keep KS10.out)
  clear T7_9
  have T9_10 := Lib.hid (T9.out.keep KS10.out)
  clear T9
  have c0_10 := cell_keep KS10.out c0_9
  clear c0_9
  have c1_10 := cell_keep KS10.out c1_9
  clear c1_9
  have c2_10 := cell_keep KS10.out c2_9
  clear c2_9
  have c3_10 := cell_keep KS10.out c3_9
  clear c3_9
  have c4_10 := cell_keep KS10.out c4_9
  clear c4_9
  have c5_10 := cell_keep KS10.out c5_9
  clear c5_9
  go_wp2_with fail
  refine (implFirstRootedFault_any (.agg #[.int .i64 l0.labels, .int .i64 l0.children, .slice t7a2 l0.lines.length t7c2]) l0 t9 l1 t10 l2 _ (T7_10.out.rd) IL0.out s0 (T9_10.out.ints) IL1.out s1 (T10.out.ints) IL2.out s2).mono ?_
  rw [HE.out]
  rintro e w11 ⟨rfl, k11⟩
  have KS11 : Hid (Keeps w10 w11) := k11
  clear k11
  have K11 : Hid (Keeps w w11) := Keeps.trans K10.out KS11.out
  have Z11 : Hid (w10.heap.size ≤ w11.heap.size) := KS11.out.size
  have T3_11 := Lib.hid (T3_10.out.keep KS11.out)
  clear T3_10
  have T4_11 := Lib.hid (T4_10.out.keep KS11.out)
  clear T4_10
  have T5_11 := Lib.hid (T5_10.out.keep KS11.out)
  clear T5_10
  have T7_11 := Lib.hid (T7_10.out.keep KS11.out)
  clear T7_10
  have T9_11 := Lib.hid (T9_10.out.keep KS11.out)
  clear T9_10
  have T10_11 := Lib.hid (T10.out.keep KS11.out)
  clear T10
  have c0_11 := cell_keep KS11.out c0_10
  clear c0_10
  have c1_11 := cell_keep KS11.out c1_10
  clear c1_10
  have c2_11 := cell_keep KS11.out c2_10
  clear c2_10
  have c3_11 := cell_keep KS11.out c3_10
  clear c3_10
  have c4_11 := cell_keep KS11.out c4_10
  clear c4_10
  have c5_11 := cell_keep KS11.out c5_10
  clear c5_10
  go_wp2_with fail
  have SK : Hid (∀ W : World, Keeps w11 W → W.cell? ⟨w.heap.size, 0, none⟩ = some (.int .i64 l0.labels) ∧ W.cell? ⟨w.heap.size, 1, none⟩ = some (.int .i64 l0.children) ∧ W.cell? ⟨w.heap.size, 2, none⟩ = some (.slice p0a2 l0.lines.length p0c2) ∧ W.cell? ⟨w7.heap.size, 0, none⟩ = some (.int .i64 l0.labels) ∧ W.cell? ⟨w7.heap.size, 1, none⟩ = some (.int .i64 l0.children) ∧ W.cell? ⟨w7.heap.size, 2, none⟩ = some (.slice t7a2 l0.lines.length t7c2)) := fun W k => ⟨cell_keep k c0_11, cell_keep k c1_11, cell_keep k c2_11, cell_keep k c3_11, cell_keep k c4_11, cell_keep k c5_11⟩
  have KD : Hid (Keeps w11 w11.drew) := (Keeps.refl _).drew
  go_region_held3 (fun W => W.cell? ⟨w.heap.size, 0, none⟩ = some (.int .i64 l0.labels) ∧ W.cell? ⟨w.heap.size, 1, none⟩ = some (.int .i64 l0.children) ∧ W.cell? ⟨w.heap.size, 2, none⟩ = some (.slice p0a2 l0.lines.length p0c2) ∧ W.cell? ⟨w7.heap.size, 0, none⟩ = some (.int .i64 l0.labels) ∧ W.cell? ⟨w7.heap.size, 1, none⟩ = some (.int .i64 l0.children) ∧ W.cell? ⟨w7.heap.size, 2, none⟩ = some (.slice t7a2 l0.lines.length t7c2)) (first | exact SK.out _ KD.out | exact SK.out _ (Keeps.trans KD.out KS12'.out) | exact SK.out _ (Keeps.trans KD.out (Keeps.trans KS12'.out KS13.out)))
    ((first
      | (go_at_call 44; refine (toRootedProblem_any _ l0 _ (R0.out.keep (Keeps.trans K11.out KD.out)) s0).mono ?_; rintro e w12 ⟨tt, rfl, o12, k12⟩; obtain ⟨t12a2, t12c2, rfl⟩ := o12.rd.shape; have T12 := Lib.hid o12; have KS12' := Lib.hid k12; clear o12 k12)
      | (go_at_call 46; refine (eqRootedProblem_same _ _ l0 _ ((T7_11.out.rd).keep (Keeps.trans KD.out KS12'.out)) T12.out.rd).mono ?_; rintro e w13 ⟨rfl, k13⟩; have KS13 := Lib.hid k13; clear k13)))
  have KS12 : Hid (Keeps w11 w12) := Keeps.trans KD.out KS12'.out
  have K12 : Hid (Keeps w w12) := Keeps.trans K11.out KS12.out
  have Z12 : Hid (w11.heap.size ≤ w12.heap.size) := KS12.out.size
  have T3_12 := Lib.hid (T3_11.out.keep KS12.out)
  clear T3_11
  have T4_12 := Lib.hid (T4_11.out.keep KS12.out)
  clear T4_11
  have T5_12 := Lib.hid (T5_11.out.keep KS12.out)
  clear T5_11
  have T7_12 := Lib.hid (T7_11.out.keep KS12.out)
  clear T7_11
  have T9_12 := Lib.hid (T9_11.out.keep KS12.out)
  clear T9_11
  have T10_12 := Lib.hid (T10_11.out.keep KS12.out)
  clear T10_11
  have c0_12 := cell_keep KS12.out c0_11
  clear c0_11
  have c1_12 := cell_keep KS12.out c1_11
  clear c1_11
  have c2_12 := cell_keep KS12.out c2_11
  clear c2_11
  have c3_12 := cell_keep KS12.out c3_11
  clear c3_11
  have c4_12 := cell_keep KS12.out c4_11
  clear c4_11
  have c5_12 := cell_keep KS12.out c5_11
  clear c5_11
  have K13 : Hid (Keeps w w13) := Keeps.trans K12.out KS13.out
  have Z13 : Hid (w12.heap.size ≤ w13.heap.size) := KS13.out.size
  have T3_13 := Lib.hid (T3_12.out.keep KS13.out)
  clear T3_12
  have T4_13 := Lib.hid (T4_12.out.keep KS13.out)
  clear T4_12
  have T5_13 := Lib.hid (T5_12.out.keep KS13.out)
  clear T5_12
  have T7_13 := Lib.hid (T7_12.out.keep KS13.out)
  clear T7_12
  have T9_13 := Lib.hid (T9_12.out.keep KS13.out)
  clear T9_12
  have T10_13 := Lib.hid (T10_12.out.keep KS13.out)
  clear T10_12
  have c0_13 := cell_keep KS13.out c0_12
  clear c0_12
  have c1_13 := cell_keep KS13.out c1_12
  clear c1_12
  have c2_13 := cell_keep KS13.out c2_12
  clear c2_12
  have c3_13 := cell_keep KS13.out c3_12
  clear c3_12
  have c4_13 := cell_keep KS13.out c4_12
  clear c4_12
  have c5_13 := cell_keep KS13.out c5_12
  clear c5_12
  clear SK KD
  go_wp2_with fail
  refine (toIntS_any _ l1 _ (R1.out.keep K13.out) s1).mono ?_
  rintro e w14 ⟨t14, rfl, o14, k14⟩
  have T14 := Lib.hid o14.owI
  clear o14
  have KS14 : Hid (Keeps w13 w14) := k14
  clear k14
  have K14 : Hid (Keeps w w14) := Keeps.trans K13.out KS14.out
  have Z14 : Hid (w13.heap.size ≤ w14.heap.size) := KS14.out.size
  have T3_14 := Lib.hid (T3_13.out.keep KS14.out)
  clear T3_13
  have T4_14 := Lib.hid (T4_13.out.keep KS14.out)
  clear T4_13
  have T5_14 := Lib.hid (T5_13.out.keep KS14.out)
  clear T5_13
  have T7_14 := Lib.hid (T7_13.out.keep KS14.out)
  clear T7_13
  have T9_14 := Lib.hid (T9_13.out.keep KS14.out)
  clear T9_13
  have T10_14 := Lib.hid (T10_13.out.keep KS14.out)
  clear T10_13
  have c0_14 := cell_keep KS14.out c0_13
  clear c0_13
  have c1_14 := cell_keep KS14.out c1_13
  clear c1_13
  have c2_14 := cell_keep KS14.out c2_13
  clear c2_13
  have c3_14 := cell_keep KS14.out c3_13
  clear c3_13
  have c4_14 := cell_keep KS14.out c4_13
  clear c4_13
  have c5_14 := cell_keep KS14.out c5_13
  clear c5_13
  go_wp2_with fail
  refine (eqIntS_any t9 t14 _ _ _ (T9_14.out.ints) (T14.out.ints)).mono ?_
  rintro e w15 ⟨rfl, d15⟩
  have KS15 : Hid (Keeps w14 w15) := d15.keeps
  clear d15
  have K15 : Hid (Keeps w w15) := Keeps.trans K14.out KS15.out
  have Z15 : Hid (w14.heap.size ≤ w15.heap.size) := KS15.out.size
  have T3_15 := Lib.hid (T3_14.out.keep KS15.out)
  clear T3_14
  have T4_15 := Lib.hid (T4_14.out.keep KS15.out)
  clear T4_14
  have T5_15 := Lib.hid (T5_14.out.keep KS15.out)
  clear T5_14
  have T7_15 := Lib.hid (T7_14.out.keep KS15.out)
  clear T7_14
  have T9_15 := Lib.hid (T9_14.out.keep KS15.out)
  clear T9_14
  have T10_15 := Lib.hid (T10_14.out.keep KS15.out)
  clear T10_14
  have T14_15 := Lib.hid (T14.out.keep KS15.out)
  clear T14
  have c0_15 := cell_keep KS15.out c0_14
  clear c0_14
  have c1_15 := cell_keep KS15.out c1_14
  clear c1_14
  have c2_15 := cell_keep KS15.out c2_14
  clear c2_14
  have c3_15 := cell_keep KS15.out c3_14
  clear c3_14
  have c4_15 := cell_keep KS15.out c4_14
  clear c4_14
  have c5_15 := cell_keep KS15.out c5_14
  clear c5_14
  go_wp2_with fail
  refine (toIntS_any _ l2 _ (R2.out.keep K15.out) s2).mono ?_
  rintro e w16 ⟨t16, rfl, o16, k16⟩
  have T16 := Lib.hid o16.owI
  clear o16
  have KS16 : Hid (Keeps w15 w16) := k16
  clear k16
  have K16 : Hid (Keeps w w16) := Keeps.trans K15.out KS16.out
  have Z16 : Hid (w15.heap.size ≤ w16.heap.size) := KS16.out.size
  have T3_16 := Lib.hid (T3_15.out.keep KS16.out)
  clear T3_15
  have T4_16 := Lib.hid (T4_15.out.keep KS16.out)
  clear T4_15
  have T5_16 := Lib.hid (T5_15.out.keep KS16.out)
  clear T5_15
  have T7_16 := Lib.hid (T7_15.out.keep KS16.out)
  clear T7_15
  have T9_16 := Lib.hid (T9_15.out.keep KS16.out)
  clear T9_15
  have T10_16 := Lib.hid (T10_15.out.keep KS16.out)
  clear T10_15
  have T14_16 := Lib.hid (T14_15.out.keep KS16.out)
  clear T14_15
  have c0_16 := cell_keep KS16.out c0_15
  clear c0_15
  have c1_16 := cell_keep KS16.out c1_15
  clear c1_15
  have c2_16 := cell_keep KS16.out c2_15
  clear c2_15
  have c3_16 := cell_keep KS16.out c3_15
  clear c3_15
  have c4_16 := cell_keep KS16.out c4_15
  clear c4_15
  have c5_16 := cell_keep KS16.out c5_15
  clear c5_15
  go_wp2_with fail
  refine (eqIntS_any t10 t16 _ _ _ (T10_16.out.ints) (T16.out.ints)).mono ?_
  rintro e w17 ⟨rfl, d17⟩
  have KS17 : Hid (Keeps w16 w17) := d17.keeps
  clear d17
  have K17 : Hid (Keeps w w17) := Keeps.trans K16.out KS17.out
  have Z17 : Hid (w16.heap.size ≤ w17.heap.size) := KS17.out.size
  have T3_17 := Lib.hid (T3_16.out.keep KS17.out)
  clear T3_16
  have T4_17 := Lib.hid (T4_16.out.keep KS17.out)
  clear T4_16
  have T5_17 := Lib.hid (T5_16.out.keep KS17.out)
  clear T5_16
  have T7_17 := Lib.hid (T7_16.out.keep KS17.out)
  clear T7_16
  have T9_17 := Lib.hid (T9_16.out.keep KS17.out)
  clear T9_16
  have T10_17 := Lib.hid (T10_16.out.keep KS17.out)
  clear T10_16
  have T14_17 := Lib.hid (T14_16.out.keep KS17.out)
  clear T14_16
  have T16_17 := Lib.hid (T16.out.keep KS17.out)
  clear T16
  have c0_17 := cell_keep KS17.out c0_16
  clear c0_16
  have c1_17 := cell_keep KS17.out c1_16
  clear c1_16
  have c2_17 := cell_keep KS17.out c2_16
  clear c2_16
  have c3_17 := cell_keep KS17.out c3_16
  clear c3_16
  have c4_17 := cell_keep KS17.out c4_16
  clear c4_16
  have c5_17 := cell_keep KS17.out c5_16
  clear c5_16
  go_wp2_with fail
  go_ret
  exact ⟨rfl, K17.out⟩

set_option maxHeartbeats 1600000 in
theorem lawFirstRootedFault (v0 : Value) (l0 : RP) (v1 : Value) (l1 : List Int) (v2 : Value) (l2 : List Int) (w : World) (r0 : RdR w v0 l0) (il0 : okR l0) (r1 : Ints w v1 l1) (il1 : ∀ n ∈ l1, I64 n) (r2 : Ints w v2 l2) (il2 : ∀ n ∈ l2, I64 n) : Calls Try.prog 9 #[v0, v1, v2] w fun e w' => e = .returned (.bool true) ∧ Below w.heap.size w w' := by
  by_cases s1 : l1.length ≤ 1048576
  case neg =>
    have R0 := Lib.hid r0
    obtain ⟨p0a2, p0c2, rfl⟩ := r0.shape
    have R1 := Lib.hid r1
    obtain ⟨ad1, cp1, rfl, _⟩ := r1.form
    have R2 := Lib.hid r2
    obtain ⟨ad2, cp2, rfl, _⟩ := r2.form
    clear r0 il0 r1 il1 r2 il2
    have hgt : (1048576 : Int) < (l1.length : Int) := by omega
    go_enter Try.func9, Try.ntmps9
    go_wp2
    go_ret
    exact ⟨rfl, (by repeat (first | exact Keeps.refl _ | with_reducible refine Keeps.alloc ?_ _))⟩
  by_cases s2 : l2.length ≤ 1048576
  case neg =>
    have R0 := Lib.hid r0
    obtain ⟨p0a2, p0c2, rfl⟩ := r0.shape
    have R1 := Lib.hid r1
    obtain ⟨ad1, cp1, rfl, _⟩ := r1.form
    have R2 := Lib.hid r2
    obtain ⟨ad2, cp2, rfl, _⟩ := r2.form
    clear r0 il0 r1 il1 r2 il2
    have hgt : (1048576 : Int) < (l2.length : Int) := by omega
    go_enter Try.func9, Try.ntmps9
    go_wp2
    go_ret
    exact ⟨rfl, (by repeat (first | exact Keeps.refl _ | with_reducible refine Keeps.alloc ?_ _))⟩
  by_cases q0 : szR l0 ≤ 1048576
  case neg =>
    have R0 := Lib.hid r0
    obtain ⟨p0a2, p0c2, rfl⟩ := r0.shape
    have R1 := Lib.hid r1
    obtain ⟨ad1, cp1, rfl, _⟩ := r1.form
    have R2 := Lib.hid r2
    obtain ⟨ad2, cp2, rfl, _⟩ := r2.form
    clear r0 il0 r1 il1 r2 il2
    have hle1 : ¬ (1048576 : Int) < (l1.length : Int) := by omega
    have hle2 : ¬ (1048576 : Int) < (l2.length : Int) := by omega
    go_enter Try.func9, Try.ntmps9
    go_wp2_with fail
    refine (szRootedProblem_any _ l0 (1048576) _ (R0.out.keep (by repeat (first | exact Keeps.refl _ | with_reducible refine Keeps.alloc ?_ _))) (by omega) (by omega)).mono ?_
    rintro e W0 ⟨rfl, k0⟩
    rw [szL, if_neg (by omega)]
    have KK0 : Hid (Keeps w W0) := Keeps.trans (by repeat (first | exact Keeps.refl _ | with_reducible refine Keeps.alloc ?_ _)) k0
    obtain ⟨hc0, hf0⟩ := bcell k0
    have hz0 := k0.size
    clear k0
    go_wp2
    go_ret
    exact ⟨rfl, KK0.out⟩
  exact lawFirstRootedFault_small v0 l0 r0 il0 v1 l1 r1 il1 v2 l2 r2 il2 (by omega) s1 s2
end Go.Proofs.Ytiejigogmnkjdaa
