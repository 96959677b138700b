/- The walk of laws.FnExactKeepRooted: it returns true at every input and changes nothing that was there. -/
import Derived.Test.YtcjmpodljhcbhaaKeep
import Derived.Test.YtcjmpodljhcbhaaRng
import Derived.Test.YtcjmpodljhcbhaaOpen
import Derived.Deep.RegionHeld3
namespace Go.Proofs.Ytcjmpodljhcbhaa
open Go.RowKit
set_option linter.unusedSimpArgs false
set_option linter.unusedVariables false

set_option maxRecDepth 100000 in
set_option maxHeartbeats 8000000 in
theorem lawKeepRooted_small {w : World} (v0 : Value) (l0 : RP) (r0 : RdR w v0 l0) (il0 : okR l0) (v1 : Value) (l1 : List Int) (r1 : Ints w v1 l1) (il1 : ∀ n ∈ l1, I64 n) (s0 : szR l0 ≤ 1048576) (s1 : l1.length ≤ 1048576) : Calls Try.prog 14 #[v0, v1] w fun e w' => e = .returned (.bool true) ∧ Below w.heap.size w w' := by
  have HE := Lib.hid (KeepRooted_eq l0 l1 il0 s0 il1 s1)
  have R0 := Lib.hid r0
  have IL0 := Lib.hid il0
  obtain ⟨p0a2, p0c2, rfl⟩ := r0.shape
  clear r0 il0
  have R1 := Lib.hid r1
  have IL1 := Lib.hid il1
  obtain ⟨ad1, cp1, rfl, _⟩ := r1.form
  clear r1 il1
  have K0 : Hid (Keeps w w) := Keeps.refl w
  go_enter Try.func14, Try.ntmps14
  go_wp2_with fail
  have KS1 : Hid (Keeps w (w.alloc (.cells #[.int .i64 l0.labels, .int .i64 l0.children, .slice p0a2 l0.lines.length p0c2] 34))) := (Keeps.refl _).alloc _
  have Z1' : Hid (w.heap.size + 1 ≤ (w.alloc (.cells #[.int .i64 l0.labels, .int .i64 l0.children, .slice p0a2 l0.lines.length p0c2] 34)).heap.size) := by show _ ≤ _; simp
  have c0_1 : (w.alloc (.cells #[.int .i64 l0.labels, .int .i64 l0.children, .slice p0a2 l0.lines.length p0c2] 34)).cell? ⟨w.heap.size, 0, none⟩ = some (.int .i64 l0.labels) := by rw [World.cell?_alloc_at _ _ _ _ rfl]; rfl
  have c1_1 : (w.alloc (.cells #[.int .i64 l0.labels, .int .i64 l0.children, .slice p0a2 l0.lines.length p0c2] 34)).cell? ⟨w.heap.size, 1, none⟩ = some (.int .i64 l0.children) := by rw [World.cell?_alloc_at _ _ _ _ rfl]; rfl
  have c2_1 : (w.alloc (.cells #[.int .i64 l0.labels, .int .i64 l0.children, .slice p0a2 l0.lines.length p0c2] 34)).cell? ⟨w.heap.size, 2, none⟩ = some (.slice p0a2 l0.lines.length p0c2) := by rw [World.cell?_alloc_at _ _ _ _ rfl]; rfl
  generalize w.alloc (.cells #[.int .i64 l0.labels, .int .i64 l0.children, .slice p0a2 l0.lines.length p0c2] 34) = w1 at KS1 Z1' c0_1 c1_1 c2_1 ⊢
  have K1 : Hid (Keeps w w1) := Keeps.trans K0.out KS1.out
  have Z1 : Hid (w.heap.size ≤ w1.heap.size) := KS1.out.size
  refine (szRootedProblem_any _ l0 1048576 _ (R0.out.keep K1.out) (by omega) (by omega)).mono ?_
  rintro e w2 ⟨rfl, k2⟩
  rw [szL, if_pos (by omega)]
  have KS2 : Hid (Keeps w1 w2) := k2
  clear k2
  have K2 : Hid (Keeps w w2) := Keeps.trans K1.out KS2.out
  have Z2 : Hid (w1.heap.size ≤ w2.heap.size) := KS2.out.size
  have c0_2 := cell_keep KS2.out c0_1
  clear c0_1
  have c1_2 := cell_keep KS2.out c1_1
  clear c1_1
  have c2_2 := cell_keep KS2.out c2_1
  clear c2_1
  go_wp2_with fail
  refine (toRootedProblem_any _ l0 _ (R0.out.keep K2.out) s0).mono ?_
  rintro e w3 ⟨t3, rfl, o3, k3⟩
  obtain ⟨t3a2, t3c2, rfl⟩ := o3.rd.shape
  have T3 := Lib.hid o3
  clear o3
  have KS3 : Hid (Keeps w2 w3) := k3
  clear k3
  have K3 : Hid (Keeps w w3) := Keeps.trans K2.out KS3.out
  have Z3 : Hid (w2.heap.size ≤ w3.heap.size) := KS3.out.size
  have c0_3 := cell_keep KS3.out c0_2
  clear c0_2
  have c1_3 := cell_keep KS3.out c1_2
  clear c1_2
  have c2_3 := cell_keep KS3.out c2_2
  clear c2_2
  go_wp2_with fail
  refine (toIntS_any _ l1 _ (R1.out.keep K3.out) s1).mono ?_
  rintro e w4 ⟨t4, rfl, o4, k4⟩
  have T4 := Lib.hid o4.owI
  clear o4
  have KS4 : Hid (Keeps w3 w4) := k4
  clear k4
  have K4 : Hid (Keeps w w4) := Keeps.trans K3.out KS4.out
  have Z4 : Hid (w3.heap.size ≤ w4.heap.size) := KS4.out.size
  have T3_4 := Lib.hid (T3.out.keep KS4.out)
  clear T3
  have c0_4 := cell_keep KS4.out c0_3
  clear c0_3
  have c1_4 := cell_keep KS4.out c1_3
  clear c1_3
  have c2_4 := cell_keep KS4.out c2_3
  clear c2_3
  go_wp2_with fail
  refine (specKeepRooted_any (.agg #[.int .i64 l0.labels, .int .i64 l0.children, .slice t3a2 l0.lines.length t3c2]) l0 t4 l1 _ (T3_4.out.rd) IL0.out s0 (T4.out.ints) IL1.out s1).mono ?_
  rintro e w5 ⟨x5, rfl, o5, b5, k5⟩
  generalize fKeepRootedSpec l0 l1 = R at *
  generalize hL : R.getD zeroR = L at *
  have HL := Lib.hid hL
  clear hL
  have BL : szR L ≤ 1000000000 := b5
  have BC := cntR_le L
  obtain ⟨x5a2, x5c2, rfl⟩ := o5.rd.shape
  have T5 := Lib.hid o5
  clear o5 b5
  have KS5 : Hid (Keeps w4 w5) := k5
  clear k5
  have K5 : Hid (Keeps w w5) := Keeps.trans K4.out KS5.out
  have Z5 : Hid (w4.heap.size ≤ w5.heap.size) := KS5.out.size
  have T3_5 := Lib.hid (T3_4.out.keep KS5.out)
  clear T3_4
  have T4_5 := Lib.hid (T4.out.keep KS5.out)
  clear T4
  have c0_5 := cell_keep KS5.out c0_4
  clear c0_4
  have c1_5 := cell_keep KS5.out c1_4
  clear c1_4
  have c2_5 := cell_keep KS5.out c2_4
  clear c2_4
  have pre1 : (w5.alloc (.cells #[.int .i64 L.labels, .int .i64 L.children, .slice x5a2 L.lines.length x5c2] 37)).cell? ⟨w.heap.size, 0, none⟩ = some (.int .i64 l0.labels) := cell_keep ((Keeps.refl _).alloc _) c0_5
  have pre2 : (w5.alloc (.cells #[.int .i64 L.labels, .int .i64 L.children, .slice x5a2 L.lines.length x5c2] 37)).cell? ⟨w.heap.size, 1, none⟩ = some (.int .i64 l0.children) := cell_keep ((Keeps.refl _).alloc _) c1_5
  have pre3 : (w5.alloc (.cells #[.int .i64 L.labels, .int .i64 L.children, .slice x5a2 L.lines.length x5c2] 37)).cell? ⟨w.heap.size, 2, none⟩ = some (.slice p0a2 l0.lines.length p0c2) := cell_keep ((Keeps.refl _).alloc _) c2_5
  go_wp2_with fail
  clear pre1 pre2 pre3
  have KS6 : Hid (Keeps w5 (w5.alloc (.cells #[.int .i64 L.labels, .int .i64 L.children, .slice x5a2 L.lines.length x5c2] 37))) := (Keeps.refl _).alloc _
  have Z6' : Hid (w5.heap.size + 1 ≤ (w5.alloc (.cells #[.int .i64 L.labels, .int .i64 L.children, .slice x5a2 L.lines.length x5c2] 37)).heap.size) := by show _ ≤ _; simp
  have c3_6 : (w5.alloc (.cells #[.int .i64 L.labels, .int .i64 L.children, .slice x5a2 L.lines.length x5c2] 37)).cell? ⟨w5.heap.size, 0, none⟩ = some (.int .i64 L.labels) := by rw [World.cell?_alloc_at _ _ _ _ rfl]; rfl
  have c4_6 : (w5.alloc (.cells #[.int .i64 L.labels, .int .i64 L.children, .slice x5a2 L.lines.length x5c2] 37)).cell? ⟨w5.heap.size, 1, none⟩ = some (.int .i64 L.children) := by rw [World.cell?_alloc_at _ _ _ _ rfl]; rfl
  have c5_6 : (w5.alloc (.cells #[.int .i64 L.labels, .int .i64 L.children, .slice x5a2 L.lines.length x5c2] 37)).cell? ⟨w5.heap.size, 2, none⟩ = some (.slice x5a2 L.lines.length x5c2) := by rw [World.cell?_alloc_at _ _ _ _ rfl]; rfl
  generalize w5.alloc (.cells #[.int .i64 L.labels, .int .i64 L.children, .slice x5a2 L.lines.length x5c2] 37) = w6 at KS6 Z6' c3_6 c4_6 c5_6 ⊢
  have K6 : Hid (Keeps w w6) := Keeps.trans K5.out KS6.out
  have Z6 : Hid (w5.heap.size ≤ w6.heap.size) := KS6.out.size
  have T3_6 := Lib.hid (T3_5.out.keep KS6.out)
  clear T3_5
  have T4_6 := Lib.hid (T4_5.out.keep KS6.out)
  clear T4_5
  have T5_6 := Lib.hid (T5.out.keep KS6.out)
  clear T5
  have c0_6 := cell_keep KS6.out c0_5
  clear c0_5
  have c1_6 := cell_keep KS6.out c1_5
  clear c1_5
  have c2_6 := cell_keep KS6.out c2_5
  clear c2_5
  refine (toRootedProblem_any _ l0 _ (R0.out.keep K6.out) s0).mono ?_
  rintro e w7 ⟨t7, rfl, o7, k7⟩
  obtain ⟨t7a2, t7c2, rfl⟩ := o7.rd.shape
  have T7 := Lib.hid o7
  clear o7
  have KS7 : Hid (Keeps w6 w7) := k7
  clear k7
  have K7 : Hid (Keeps w w7) := Keeps.trans K6.out KS7.out
  have Z7 : Hid (w6.heap.size ≤ w7.heap.size) := KS7.out.size
  have T3_7 := Lib.hid (T3_6.out.keep KS7.out)
  clear T3_6
  have T4_7 := Lib.hid (T4_6.out.keep KS7.out)
  clear T4_6
  have T5_7 := Lib.hid (T5_6.out.keep KS7.out)
  clear T5_6
  have c0_7 := cell_keep KS7.out c0_6
  clear c0_6
  have c1_7 := cell_keep KS7.out c1_6
  clear c1_6
  have c2_7 := cell_keep KS7.out c2_6
  clear c2_6
  have c3_7 := cell_keep KS7.out c3_6
  clear c3_6
  have c4_7 := cell_keep KS7.out c4_6
  clear c4_6
  have c5_7 := cell_keep KS7.out c5_6
  clear c5_6
  have pre1 : (w7.alloc (.cells #[.int .i64 l0.labels, .int .i64 l0.children, .slice t7a2 l0.lines.length t7c2] 37)).cell? ⟨w.heap.size, 0, none⟩ = some (.int .i64 l0.labels) := cell_keep ((Keeps.refl _).alloc _) c0_7
  have pre2 : (w7.alloc (.cells #[.int .i64 l0.labels, .int .i64 l0.children, .slice t7a2 l0.lines.length t7c2] 37)).cell? ⟨w.heap.size, 1, none⟩ = some (.int .i64 l0.children) := cell_keep ((Keeps.refl _).alloc _) c1_7
  have pre3 : (w7.alloc (.cells #[.int .i64 l0.labels, .int .i64 l0.children, .slice t7a2 l0.lines.length t7c2] 37)).cell? ⟨w.heap.size, 2, none⟩ = some (.slice p0a2 l0.lines.length p0c2) := cell_keep ((Keeps.refl _).alloc _) c2_7
  have pre4 : (w7.alloc (.cells #[.int .i64 l0.labels, .int .i64 l0.children, .slice t7a2 l0.lines.length t7c2] 37)).cell? ⟨w5.heap.size, 0, none⟩ = some (.int .i64 L.labels) := cell_keep ((Keeps.refl _).alloc _) c3_7
  have pre5 : (w7.alloc (.cells #[.int .i64 l0.labels, .int .i64 l0.children, .slice t7a2 l0.lines.length t7c2] 37)).cell? ⟨w5.heap.size, 1, none⟩ = some (.int .i64 L.children) := cell_keep ((Keeps.refl _).alloc _) c4_7
  have pre6 : (w7.alloc (.cells #[.int .i64 l0.labels, .int .i64 l0.children, .slice t7a2 l0.lines.length t7c2] 37)).cell? ⟨w5.heap.size, 2, none⟩ = some (.slice x5a2 L.lines.length x5c2) := cell_keep ((Keeps.refl _).alloc _) c5_7
  go_wp2_with fail
  clear pre1 pre2 pre3 pre4 pre5 pre6
  have KS8 : Hid (Keeps w7 (w7.alloc (.cells #[.int .i64 l0.labels, .int .i64 l0.children, .slice t7a2 l0.lines.length t7c2] 37))) := (Keeps.refl _).alloc _
  have Z8' : Hid (w7.heap.size + 1 ≤ (w7.alloc (.cells #[.int .i64 l0.labels, .int .i64 l0.children, .slice t7a2 l0.lines.length t7c2] 37)).heap.size) := by show _ ≤ _; simp
  have c6_8 : (w7.alloc (.cells #[.int .i64 l0.labels, .int .i64 l0.children, .slice t7a2 l0.lines.length t7c2] 37)).cell? ⟨w7.heap.size, 0, none⟩ = some (.int .i64 l0.labels) := by rw [World.cell?_alloc_at _ _ _ _ rfl]; rfl
  have c7_8 : (w7.alloc (.cells #[.int .i64 l0.labels, .int .i64 l0.children, .slice t7a2 l0.lines.length t7c2] 37)).cell? ⟨w7.heap.size, 1, none⟩ = some (.int .i64 l0.children) := by rw [World.cell?_alloc_at _ _ _ _ rfl]; rfl
  have c8_8 : (w7.alloc (.cells #[.int .i64 l0.labels, .int .i64 l0.children, .slice t7a2 l0.lines.length t7c2] 37)).cell? ⟨w7.heap.size, 2, none⟩ = some (.slice t7a2 l0.lines.length t7c2) := by rw [World.cell?_alloc_at _ _ _ _ rfl]; rfl
  generalize w7.alloc (.cells #[.int .i64 l0.labels, .int .i64 l0.children, .slice t7a2 l0.lines.length t7c2] 37) = w8 at KS8 Z8' c6_8 c7_8 c8_8 ⊢
  have K8 : Hid (Keeps w w8) := Keeps.trans K7.out KS8.out
  have Z8 : Hid (w7.heap.size ≤ w8.heap.size) := KS8.out.size
  have T3_8 := Lib.hid (T3_7.out.keep KS8.out)
  clear T3_7
  have T4_8 := Lib.hid (T4_7.out.keep KS8.out)
  clear T4_7
  have T5_8 := Lib.hid (T5_7.out.keep KS8.out)
  clear T5_7
  have T7_8 := Lib.hid (T7.out.keep KS8.out)
  clear T7
  have c0_8 := cell_keep KS8.out c0_7
  clear c0_7
  have c1_8 := cell_keep KS8.out c1_7
  clear c1_7
  have c2_8 := cell_keep KS8.out c2_7
  clear c2_7
  have c3_8 := cell_keep KS8.out c3_7
  clear c3_7
  have c4_8 := cell_keep KS8.out c4_7
  clear c4_7
  have c5_8 := cell_keep KS8.out c5_7
  clear c5_7
  refine (toIntS_any _ l1 _ (R1.out.keep K8.out) s1).mono ?_
  rintro e w9 ⟨t9, rfl, o9, k9⟩
  have T9 := Lib.hid o9.owI
  clear o9
  have KS9 : Hid (Keeps w8 w9) := k9
  clear k9
  have K9 : Hid (Keeps w w9) := Keeps.trans K8.out KS9.out
  have Z9 : Hid (w8.heap.size ≤ w9.heap.size) := KS9.out.size
  have T3_9 := Lib.hid (T3_8.out.keep KS9.out)
  clear T3_8
  have T4_9 := Lib.hid (T4_8.out.keep KS9.out)
  clear T4_8
  have T5_9 := Lib.hid (T5_8.out.keep KS9.out)
  clear T5_8
  have T7_9 := Lib.hid (T7_8.out.keep KS9.out)
  clear T7_8
  have c0_9 := cell_keep KS9.out c0_8
  clear c0_8
  have c1_9 := cell_keep KS9.out c1_8
  clear c1_8
  have c2_9 := cell_keep KS9.out c2_8
  clear c2_8
  have c3_9 := cell_keep KS9.out c3_8
  clear c3_8
  have c4_9 := cell_keep KS9.out c4_8
  clear c4_8
  have c5_9 := cell_keep KS9.out c5_8
  clear c5_8
  have c6_9 := cell_keep KS9.out c6_8
  clear c6_8
  have c7_9 := cell_keep KS9.out c7_8
  clear c7_8
  have c8_9 := cell_keep KS9.out c8_8
  clear c8_8
  go_wp2_with fail
  refine (implKeepRooted_any (.agg #[.int .i64 l0.labels, .int .i64 l0.children, .slice t7a2 l0.lines.length t7c2]) l0 t9 l1 _ (T7_9.out.rd) IL0.out s0 (T9.out.ints) IL1.out s1).mono ?_
  rw [HE.out]
  rintro e w10 ⟨x10, rfl, o10, b10, k10⟩
  rw [HL.out] at o10
  obtain ⟨x10a2, x10c2, rfl⟩ := o10.rd.shape
  have T10 := Lib.hid o10
  clear o10 b10
  have KS10 : Hid (Keeps w9 w10) := k10
  clear k10
  have K10 : Hid (Keeps w w10) := Keeps.trans K9.out KS10.out
  have Z10 : Hid (w9.heap.size ≤ w10.heap.size) := KS10.out.size
  have T3_10 := Lib.hid (T3_9.out.keep KS10.out)
  clear T3_9
  have T4_10 := Lib.hid (T4_9.out.keep KS10.out)
  clear T4_9
  have T5_10 := Lib.hid (T5_9.out.keep KS10.out)
  clear T5_9
  have T7_10 := Lib.hid (T7_9.out.keep KS10.out)
  clear T7_9
  have T9_10 := Lib.hid (T9.out.keep KS10.out)
  clear T9
  have c0_10 := cell_keep KS10.out c0_9
  clear c0_9
  have c1_10 := cell_keep KS10.out c1_9
  clear c1_9
  have c2_10 := cell_keep KS10.out c2_9
  clear c2_9
  have c3_10 := cell_keep KS10.out c3_9
  clear c3_9
  have c4_10 := cell_keep KS10.out c4_9
  clear c4_9
  have c5_10 := cell_keep KS10.out c5_9
  clear c5_9
  have c6_10 := cell_keep KS10.out c6_9
  clear c6_9
  have c7_10 := cell_keep KS10.out c7_9
  clear c7_9
  have c8_10 := cell_keep KS10.out c8_9
  clear c8_9
  have pre1 : (w10.alloc (.cells #[.int .i64 L.labels, .int .i64 L.children, .slice x10a2 L.lines.length x10c2] 37)).cell? ⟨w.heap.size, 0, none⟩ = some (.int .i64 l0.labels) := cell_keep ((Keeps.refl _).alloc _) c0_10
  have pre2 : (w10.alloc (.cells #[.int .i64 L.labels, .int .i64 L.children, .slice x10a2 L.lines.length x10c2] 37)).cell? ⟨w.heap.size, 1, none⟩ = some (.int .i64 l0.children) := cell_keep ((Keeps.refl _).alloc _) c1_10
  have pre3 : (w10.alloc (.cells #[.int .i64 L.labels, .int .i64 L.children, .slice x10a2 L.lines.length x10c2] 37)).cell? ⟨w.heap.size, 2, none⟩ = some (.slice p0a2 l0.lines.length p0c2) := cell_keep ((Keeps.refl _).alloc _) c2_10
  have pre4 : (w10.alloc (.cells #[.int .i64 L.labels, .int .i64 L.children, .slice x10a2 L.lines.length x10c2] 37)).cell? ⟨w5.heap.size, 0, none⟩ = some (.int .i64 L.labels) := cell_keep ((Keeps.refl _).alloc _) c3_10
  have pre5 : (w10.alloc (.cells #[.int .i64 L.labels, .int .i64 L.children, .slice x10a2 L.lines.length x10c2] 37)).cell? ⟨w5.heap.size, 1, none⟩ = some (.int .i64 L.children) := cell_keep ((Keeps.refl _).alloc _) c4_10
  have pre6 : (w10.alloc (.cells #[.int .i64 L.labels, .int .i64 L.children, .slice x10a2 L.lines.length x10c2] 37)).cell? ⟨w5.heap.size, 2, none⟩ = some (.slice x5a2 L.lines.length x5c2) := cell_keep ((Keeps.refl _).alloc _) c5_10
  have pre7 : (w10.alloc (.cells #[.int .i64 L.labels, .int .i64 L.children, .slice x10a2 L.lines.length x10c2] 37)).cell? ⟨w7.heap.size, 0, none⟩ = some (.int .i64 l0.labels) := cell_keep ((Keeps.refl _).alloc _) c6_10
  have pre8 : (w10.alloc (.cells #[.int .i64 L.labels, .int .i64 L.children, .slice x10a2 L.lines.length x10c2] 37)).cell? ⟨w7.heap.size, 1, none⟩ = some (.int .i64 l0.children) := cell_keep ((Keeps.refl _).alloc _) c7_10
  have pre9 : (w10.alloc (.cells #[.int .i64 L.labels, .int .i64 L.children, .slice x10a2 L.lines.length x10c2] 37)).cell? ⟨w7.heap.size, 2, none⟩ = some (.slice t7a2 l0.lines.length t7c2) := cell_keep ((Keeps.refl _).alloc _) c8_10
  go_wp2_with fail
  clear pre1 pre2 pre3 pre4 pre5 pre6 pre7 pre8 pre9
  have KS11 : Hid (Keeps w10 (w10.alloc (.cells #[.int .i64 L.labels, .int .i64 L.children, .slice x10a2 L.lines.length x10c2] 37))) := (Keeps.refl _).alloc _
  have Z11' : Hid (w10.heap.size + 1 ≤ (w10.alloc (.cells #[.int .i64 L.labels, .int .i64 L.children, .slice x10a2 L.lines.length x10c2] 37)).heap.size) := by show _ ≤ _; simp
  have c9_11 : (w10.alloc (.cells #[.int .i64 L.labels, .int .i64 L.children, .slice x10a2 L.lines.length x10c2] 37)).cell? ⟨w10.heap.size, 0, none⟩ = some (.int .i64 L.labels) := by rw [World.cell?_alloc_at _ _ _ _ rfl]; rfl
  have c10_11 : (w10.alloc (.cells #[.int .i64 L.labels, .int .i64 L.children, .slice x10a2 L.lines.length x10c2] 37)).cell? ⟨w10.heap.size, 1, none⟩ = some (.int .i64 L.children) := by rw [World.cell?_alloc_at _ _ _ _ rfl]; rfl
  have c11_11 : (w10.alloc (.cells #[.int .i64 L.labels, .int .i64 L.children, .slice x10a2 L.lines.length x10c2] 37)).cell? ⟨w10.heap.size, 2, none⟩ = some (.slice x10a2 L.lines.length x10c2) := by rw [World.cell?_alloc_at _ _ _ _ rfl]; rfl
  generalize w10.alloc (.cells #[.int .i64 L.labels, .int .i64 L.children, .slice x10a2 L.lines.length x10c2] 37) = w11 at KS11 Z11' c9_11 c10_11 c11_11 ⊢
  have K11 : Hid (Keeps w w11) := Keeps.trans K10.out KS11.out
  have Z11 : Hid (w10.heap.size ≤ w11.heap.size) := KS11.out.size
  have T3_11 := Lib.hid (T3_10.out.keep KS11.out)
  clear T3_10
  have T4_11 := Lib.hid (T4_10.out.keep KS11.out)
  clear T4_10
  have T5_11 := Lib.hid (T5_10.out.keep KS11.out)
  clear T5_10
  have T7_11 := Lib.hid (T7_10.out.keep KS11.out)
  clear T7_10
  have T9_11 := Lib.hid (T9_10.out.keep KS11.out)
  clear T9_10
  have T10_11 := Lib.hid (T10.out.keep KS11.out)
  clear T10
  have c0_11 := cell_keep KS11.out c0_10
  clear c0_10
  have c1_11 := cell_keep KS11.out c1_10
  clear c1_10
  have c2_11 := cell_keep KS11.out c2_10
  clear c2_10
  have c3_11 := cell_keep KS11.out c3_10
  clear c3_10
  have c4_11 := cell_keep KS11.out c4_10
  clear c4_10
  have c5_11 := cell_keep KS11.out c5_10
  clear c5_10
  have c6_11 := cell_keep KS11.out c6_10
  clear c6_10
  have c7_11 := cell_keep KS11.out c7_10
  clear c7_10
  have c8_11 := cell_keep KS11.out c8_10
  clear c8_10
  refine (eqRootedProblem_same _ _ L _ (T10_11.out.rd) (T5_11.out.rd)).mono ?_
  rintro e w12 ⟨rfl, k12⟩
  have KS12 : Hid (Keeps w11 w12) := k12
  clear k12
  have K12 : Hid (Keeps w w12) := Keeps.trans K11.out KS12.out
  have Z12 : Hid (w11.heap.size ≤ w12.heap.size) := KS12.out.size
  have T3_12 := Lib.hid (T3_11.out.keep KS12.out)
  clear T3_11
  have T4_12 := Lib.hid (T4_11.out.keep KS12.out)
  clear T4_11
  have T5_12 := Lib.hid (T5_11.out.keep KS12.out)
  clear T5_11
  have T7_12 := Lib.hid (T7_11.out.keep KS12.out)
  clear T7_11
  have T9_12 := Lib.hid (T9_11.out.keep KS12.out)
  clear T9_11
  have T10_12 := Lib.hid (T10_11.out.keep KS12.out)
  clear T10_11
  have c0_12 := cell_keep KS12.out c0_11
  clear c0_11
  have c1_12 := cell_keep KS12.out c1_11
  clear c1_11
  have c2_12 := cell_keep KS12.out c2_11
  clear c2_11
  have c3_12 := cell_keep KS12.out c3_11
  clear c3_11
  have c4_12 := cell_keep KS12.out c4_11
  clear c4_11
  have c5_12 := cell_keep KS12.out c5_11
  clear c5_11
  have c6_12 := cell_keep KS12.out c6_11
  clear c6_11
  have c7_12 := cell_keep KS12.out c7_11
  clear c7_11
  have c8_12 := cell_keep KS12.out c8_11
  clear c8_11
  have c9_12 := cell_keep KS12.out c9_11
  clear c9_11
  have c10_12 := cell_keep KS12.out c10_11
  clear c10_11
  have c11_12 := cell_keep KS12.out c11_11
  clear c11_11
  go_wp2_with fail
  have SK : Hid (∀ W : World, Keeps w12 W → W.cell? ⟨w.heap.size, 0, none⟩ = some (.int .i64 l0.labels) ∧ W.cell? ⟨w.heap.size, 1, none⟩ = some (.int .i64 l0.children) ∧ W.cell? ⟨w.heap.size, 2, none⟩ = some (.slice p0a2 l0.lines.length p0c2) ∧ W.cell? ⟨w5.heap.size, 0, none⟩ = some (.int .i64 L.labels) ∧ W.cell? ⟨w5.heap.size, 1, none⟩ = some (.int .i64 L.children) ∧ W.cell? ⟨w5.heap.size, 2, none⟩ = some (.slice x5a2 L.lines.length x5c2) ∧ W.cell? ⟨w7.heap.size, 0, none⟩ = some (.int .i64 l0.labels) ∧ W.cell? ⟨w7.heap.size, 1, none⟩ = some (.int .i64 l0.children) ∧ W.cell? ⟨w7.heap.size, 2, none⟩ = some (.slice t7a2 l0.lines.length t7c2) ∧ W.cell? ⟨w10.heap.size, 0, none⟩ = some (.int .i64 L.labels) ∧ W.cell? ⟨w10.heap.size, 1, none⟩ = some (.int .i64 L.children) ∧ W.cell? ⟨w10.heap.size, 2, none⟩ = some (.slice x10a2 L.lines.length x10c2)) := fun W k => ⟨cell_keep k c0_12, cell_keep k c1_12, cell_keep k c2_12, cell_keep k c3_12, cell_keep k c4_12, cell_keep k c5_12, cell_keep k c6_12, cell_keep k c7_12, cell_keep k c8_12, cell_keep k c9_12, cell_keep k c10_12, cell_keep k c11_12⟩
  have KD : Hid (Keeps w12 w12.drew) := (Keeps.refl _).drew
  go_region_held3 (fun W => W.cell? ⟨w.heap.size, 0, none⟩ = some (.int .i64 l0.labels) ∧ W.cell? ⟨w.heap.size, 1, none⟩ = some (.int .i64 l0.children) ∧ W.cell? ⟨w.heap.size, 2, none⟩ = some (.slice p0a2 l0.lines.length p0c2) ∧ W.cell? ⟨w5.heap.size, 0, none⟩ = some (.int .i64 L.labels) ∧ W.cell? ⟨w5.heap.size, 1, none⟩ = some (.int .i64 L.children) ∧ W.cell? ⟨w5.heap.size, 2, none⟩ = some (.slice x5a2 L.lines.length x5c2) ∧ W.cell? ⟨w7.heap.size, 0, none⟩ = some (.int .i64 l0.labels) ∧ W.cell? ⟨w7.heap.size, 1, none⟩ = some (.int .i64 l0.children) ∧ W.cell? ⟨w7.heap.size, 2, none⟩ = some (.slice t7a2 l0.lines.length t7c2) ∧ W.cell? ⟨w10.heap.size, 0, none⟩ = some (.int .i64 L.labels) ∧ W.cell? ⟨w10.heap.size, 1, none⟩ = some (.int .i64 L.children) ∧ W.cell? ⟨w10.heap.size, 2, none⟩ = some (.slice x10a2 L.lines.length x10c2)) (first | exact SK.out _ KD.out | exact SK.out _ (Keeps.trans KD.out KS13'.out) | exact SK.out _ (Keeps.trans KD.out (Keeps.trans KS13'.out KS14.out)))
    ((first
      | (go_at_call 24; refine (toRootedProblem_any _ l0 _ (R0.out.keep (Keeps.trans K12.out KD.out)) s0).mono ?_; rintro e w13 ⟨tt, rfl, o13, k13⟩; obtain ⟨t13a2, t13c2, rfl⟩ := o13.rd.shape; have T13 := Lib.hid o13; have KS13' := Lib.hid k13; clear o13 k13)
      | (go_at_call 26; refine (eqRootedProblem_same _ _ l0 _ ((T7_12.out.rd).keep (Keeps.trans KD.out KS13'.out)) T13.out.rd).mono ?_; rintro e w14 ⟨rfl, k14⟩; have KS14 := Lib.hid k14; clear k14)))
  have KS13 : Hid (Keeps w12 w13) := Keeps.trans KD.out KS13'.out
  have K13 : Hid (Keeps w w13) := Keeps.trans K12.out KS13.out
  have Z13 : Hid (w12.heap.size ≤ w13.heap.size) := KS13.out.size
  have T3_13 := Lib.hid (T3_12.out.keep KS13.out)
  clear T3_12
  have T4_13 := Lib.hid (T4_12.out.keep KS13.out)
  clear T4_12
  have T5_13 := Lib.hid (T5_12.out.keep KS13.out)
  clear T5_12
  have T7_13 := Lib.hid (T7_12.out.keep KS13.out)
  clear T7_12
  have T9_13 := Lib.hid (T9_12.out.keep KS13.out)
  clear T9_12
  have T10_13 := Lib.hid (T10_12.out.keep KS13.out)
  clear T10_12
  have c0_13 := cell_keep KS13.out c0_12
  clear c0_12
  have c1_13 := cell_keep KS13.out c1_12
  clear c1_12
  have c2_13 := cell_keep KS13.out c2_12
  clear c2_12
  have c3_13 := cell_keep KS13.out c3_12
  clear c3_12
  have c4_13 := cell_keep KS13.out c4_12
  clear c4_12
  have c5_13 := cell_keep KS13.out c5_12
  clear c5_12
  have c6_13 := cell_keep KS13.out c6_12
  clear c6_12
  have c7_13 := cell_keep KS13.out c7_12
  clear c7_12
  have c8_13 := cell_keep KS13.out c8_12
  clear c8_12
  have c9_13 := cell_keep KS13.out c9_12
  clear c9_12
  have c10_13 := cell_keep KS13.out c10_12
  clear c10_12
  have c11_13 := cell_keep KS13.out c11_12
  clear c11_12
  have K14 : Hid (Keeps w w14) := Keeps.trans K13.out KS14.out
  have Z14 : Hid (w13.heap.size ≤ w14.heap.size) := KS14.out.size
  have T3_14 := Lib.hid (T3_13.out.keep KS14.out)
  clear T3_13
  have T4_14 := Lib.hid (T4_13.out.keep KS14.out)
  clear T4_13
  have T5_14 := Lib.hid (T5_13.out.keep KS14.out)
  clear T5_13
  have T7_14 := Lib.hid (T7_13.out.keep KS14.out)
  clear T7_13
  have T9_14 := Lib.hid (T9_13.out.keep KS14.out)
  clear T9_13
  have T10_14 := Lib.hid (T10_13.out.keep KS14.out)
  clear T10_13
  have c0_14 := cell_keep KS14.out c0_13
  clear c0_13
  have c1_14 := cell_keep KS14.out c1_13
  clear c1_13
  have c2_14 := cell_keep KS14.out c2_13
  clear c2_13
  have c3_14 := cell_keep KS14.out c3_13
  clear c3_13
  have c4_14 := cell_keep KS14.out c4_13
  clear c4_13
  have c5_14 := cell_keep KS14.out c5_13
  clear c5_13
  have c6_14 := cell_keep KS14.out c6_13
  clear c6_13
  have c7_14 := cell_keep KS14.out c7_13
  clear c7_13
  have c8_14 := cell_keep KS14.out c8_13
  clear c8_13
  have c9_14 := cell_keep KS14.out c9_13
  clear c9_13
  have c10_14 := cell_keep KS14.out c10_13
  clear c10_13
  have c11_14 := cell_keep KS14.out c11_13
  clear c11_13
  clear SK KD
  go_wp2_with fail
  refine (toIntS_any _ l1 _ (R1.out.keep K14.out) s1).mono ?_
  rintro e w15 ⟨t15, rfl, o15, k15⟩
  have T15 := Lib.hid o15.owI
  clear o15
  have KS15 : Hid (Keeps w14 w15) := k15
  clear k15
  have K15 : Hid (Keeps w w15) := Keeps.trans K14.out KS15.out
  have Z15 : Hid (w14.heap.size ≤ w15.heap.size) := KS15.out.size
  have T3_15 := Lib.hid (T3_14.out.keep KS15.out)
  clear T3_14
  have T4_15 := Lib.hid (T4_14.out.keep KS15.out)
  clear T4_14
  have T5_15 := Lib.hid (T5_14.out.keep KS15.out)
  clear T5_14
  have T7_15 := Lib.hid (T7_14.out.keep KS15.out)
  clear T7_14
  have T9_15 := Lib.hid (T9_14.out.keep KS15.out)
  clear T9_14
  have T10_15 := Lib.hid (T10_14.out.keep KS15.out)
  clear T10_14
  have c0_15 := cell_keep KS15.out c0_14
  clear c0_14
  have c1_15 := cell_keep KS15.out c1_14
  clear c1_14
  have c2_15 := cell_keep KS15.out c2_14
  clear c2_14
  have c3_15 := cell_keep KS15.out c3_14
  clear c3_14
  have c4_15 := cell_keep KS15.out c4_14
  clear c4_14
  have c5_15 := cell_keep KS15.out c5_14
  clear c5_14
  have c6_15 := cell_keep KS15.out c6_14
  clear c6_14
  have c7_15 := cell_keep KS15.out c7_14
  clear c7_14
  have c8_15 := cell_keep KS15.out c8_14
  clear c8_14
  have c9_15 := cell_keep KS15.out c9_14
  clear c9_14
  have c10_15 := cell_keep KS15.out c10_14
  clear c10_14
  have c11_15 := cell_keep KS15.out c11_14
  clear c11_14
  go_wp2_with fail
  refine (eqIntS_any t9 t15 _ _ _ (T9_15.out.ints) (T15.out.ints)).mono ?_
  rintro e w16 ⟨rfl, d16⟩
  have KS16 : Hid (Keeps w15 w16) := d16.keeps
  clear d16
  have K16 : Hid (Keeps w w16) := Keeps.trans K15.out KS16.out
  have Z16 : Hid (w15.heap.size ≤ w16.heap.size) := KS16.out.size
  have T3_16 := Lib.hid (T3_15.out.keep KS16.out)
  clear T3_15
  have T4_16 := Lib.hid (T4_15.out.keep KS16.out)
  clear T4_15
  have T5_16 := Lib.hid (T5_15.out.keep KS16.out)
  clear T5_15
  have T7_16 := Lib.hid (T7_15.out.keep KS16.out)
  clear T7_15
  have T9_16 := Lib.hid (T9_15.out.keep KS16.out)
  clear T9_15
  have T10_16 := Lib.hid (T10_15.out.keep KS16.out)
  clear T10_15
  have T15_16 := Lib.hid (T15.out.keep KS16.out)
  clear T15
  have c0_16 := cell_keep KS16.out c0_15
  clear c0_15
  have c1_16 := cell_keep KS16.out c1_15
  clear c1_15
  have c2_16 := cell_keep KS16.out c2_15
  clear c2_15
  have c3_16 := cell_keep KS16.out c3_15
  clear c3_15
  have c4_16 := cell_keep KS16.out c4_15
  clear c4_15
  have c5_16 := cell_keep KS16.out c5_15
  clear c5_15
  have c6_16 := cell_keep KS16.out c6_15
  clear c6_15
  have c7_16 := cell_keep KS16.out c7_15
  clear c7_15
  have c8_16 := cell_keep KS16.out c8_15
  clear c8_15
  have c9_16 := cell_keep KS16.out c9_15
  clear c9_15
  have c10_16 := cell_keep KS16.out c10_15
  clear c10_15
  have c11_16 := cell_keep KS16.out c11_15
  clear c11_15
  go_wp2_with fail
  have CL17 := cntR_le l0
  refine (markRootedProblem_any w6.heap.size w7.heap.size _ l0 1 _ T7_16.out (by have := Z1.out; have := Z2.out; have := Z3.out; have := Z4.out; have := Z5.out; have := Z6.out; have := Z7.out; have := Z8.out; have := Z9.out; have := Z10.out; have := Z11.out; have := Z12.out; have := Z13.out; have := Z14.out; have := Z15.out; have := Z16.out; omega) (by omega) (by omega)).mono ?_
  rintro e w17 ⟨rfl, o17, g17⟩
  have G17 : Hid (Chg w6.heap.size w7.heap.size w16 w17) := g17
  have T7_17 := Lib.hid o17
  clear o17 g17 T7_16
  have Z17 : Hid (w16.heap.size ≤ w17.heap.size) := G17.out.size
  have K17 : Hid (Keeps w w17) := G17.out.keeps K16.out (by have := Z1.out; have := Z2.out; have := Z3.out; have := Z4.out; have := Z5.out; have := Z6.out; have := Z7.out; have := Z8.out; have := Z9.out; have := Z10.out; have := Z11.out; have := Z12.out; have := Z13.out; have := Z14.out; have := Z15.out; have := Z16.out; have := Z17.out; omega)
  have T3_17 := Lib.hid (T3_16.out.chg G17.out (by have := Z1.out; have := Z2.out; have := Z3.out; have := Z4.out; have := Z5.out; have := Z6.out; have := Z7.out; have := Z8.out; have := Z9.out; have := Z10.out; have := Z11.out; have := Z12.out; have := Z13.out; have := Z14.out; have := Z15.out; have := Z16.out; have := Z17.out; omega))
  clear T3_16
  have T4_17 := Lib.hid (T4_16.out.chg G17.out (by have := Z1.out; have := Z2.out; have := Z3.out; have := Z4.out; have := Z5.out; have := Z6.out; have := Z7.out; have := Z8.out; have := Z9.out; have := Z10.out; have := Z11.out; have := Z12.out; have := Z13.out; have := Z14.out; have := Z15.out; have := Z16.out; have := Z17.out; omega))
  clear T4_16
  have T5_17 := Lib.hid (T5_16.out.chg G17.out (by have := Z1.out; have := Z2.out; have := Z3.out; have := Z4.out; have := Z5.out; have := Z6.out; have := Z7.out; have := Z8.out; have := Z9.out; have := Z10.out; have := Z11.out; have := Z12.out; have := Z13.out; have := Z14.out; have := Z15.out; have := Z16.out; have := Z17.out; omega))
  clear T5_16
  have T9_17 := Lib.hid (T9_16.out.chg G17.out (by have := Z1.out; have := Z2.out; have := Z3.out; have := Z4.out; have := Z5.out; have := Z6.out; have := Z7.out; have := Z8.out; have := Z9.out; have := Z10.out; have := Z11.out; have := Z12.out; have := Z13.out; have := Z14.out; have := Z15.out; have := Z16.out; have := Z17.out; omega))
  clear T9_16
  have T10_17 := Lib.hid (T10_16.out.chg G17.out (by have := Z1.out; have := Z2.out; have := Z3.out; have := Z4.out; have := Z5.out; have := Z6.out; have := Z7.out; have := Z8.out; have := Z9.out; have := Z10.out; have := Z11.out; have := Z12.out; have := Z13.out; have := Z14.out; have := Z15.out; have := Z16.out; have := Z17.out; omega))
  clear T10_16
  have T15_17 := Lib.hid (T15_16.out.chg G17.out (by have := Z1.out; have := Z2.out; have := Z3.out; have := Z4.out; have := Z5.out; have := Z6.out; have := Z7.out; have := Z8.out; have := Z9.out; have := Z10.out; have := Z11.out; have := Z12.out; have := Z13.out; have := Z14.out; have := Z15.out; have := Z16.out; have := Z17.out; omega))
  clear T15_16
  have c0_17 := (World.cell?_of_block (a := ⟨w.heap.size, 0, none⟩) (G17.out.block w.heap.size (by have := Z1.out; have := Z2.out; have := Z3.out; have := Z4.out; have := Z5.out; have := Z6.out; have := Z7.out; have := Z8.out; have := Z9.out; have := Z10.out; have := Z11.out; have := Z12.out; have := Z13.out; have := Z14.out; have := Z15.out; have := Z16.out; have := Z17.out; have := Z1'.out; (try simp only); omega) (by have := Z1.out; have := Z2.out; have := Z3.out; have := Z4.out; have := Z5.out; have := Z6.out; have := Z7.out; have := Z8.out; have := Z9.out; have := Z10.out; have := Z11.out; have := Z12.out; have := Z13.out; have := Z14.out; have := Z15.out; have := Z16.out; have := Z17.out; have := Z1'.out; (try simp only); omega))).trans c0_16
  clear c0_16
  have c1_17 := (World.cell?_of_block (a := ⟨w.heap.size, 1, none⟩) (G17.out.block w.heap.size (by have := Z1.out; have := Z2.out; have := Z3.out; have := Z4.out; have := Z5.out; have := Z6.out; have := Z7.out; have := Z8.out; have := Z9.out; have := Z10.out; have := Z11.out; have := Z12.out; have := Z13.out; have := Z14.out; have := Z15.out; have := Z16.out; have := Z17.out; have := Z1'.out; (try simp only); omega) (by have := Z1.out; have := Z2.out; have := Z3.out; have := Z4.out; have := Z5.out; have := Z6.out; have := Z7.out; have := Z8.out; have := Z9.out; have := Z10.out; have := Z11.out; have := Z12.out; have := Z13.out; have := Z14.out; have := Z15.out; have := Z16.out; have := Z17.out; have := Z1'.out; (try simp only); omega))).trans c1_16
  clear c1_16
  have c2_17 := (World.cell?_of_block (a := ⟨w.heap.size, 2, none⟩) (G17.out.block w.heap.size (by have := Z1.out; have := Z2.out; have := Z3.out; have := Z4.out; have := Z5.out; have := Z6.out; have := Z7.out; have := Z8.out; have := Z9.out; have := Z10.out; have := Z11.out; have := Z12.out; have := Z13.out; have := Z14.out; have := Z15.out; have := Z16.out; have := Z17.out; have := Z1'.out; (try simp only); omega) (by have := Z1.out; have := Z2.out; have := Z3.out; have := Z4.out; have := Z5.out; have := Z6.out; have := Z7.out; have := Z8.out; have := Z9.out; have := Z10.out; have := Z11.out; have := Z12.out; have := Z13.out; have := Z14.out; have := Z15.out; have := Z16.out; have := Z17.out; have := Z1'.out; (try simp only); omega))).trans c2_16
  clear c2_16
  have c3_17 := (World.cell?_of_block (a := ⟨w5.heap.size, 0, none⟩) (G17.out.block w5.heap.size (by have := Z1.out; have := Z2.out; have := Z3.out; have := Z4.out; have := Z5.out; have := Z6.out; have := Z7.out; have := Z8.out; have := Z9.out; have := Z10.out; have := Z11.out; have := Z12.out; have := Z13.out; have := Z14.out; have := Z15.out; have := Z16.out; have := Z17.out; have := Z6'.out; (try simp only); omega) (by have := Z1.out; have := Z2.out; have := Z3.out; have := Z4.out; have := Z5.out; have := Z6.out; have := Z7.out; have := Z8.out; have := Z9.out; have := Z10.out; have := Z11.out; have := Z12.out; have := Z13.out; have := Z14.out; have := Z15.out; have := Z16.out; have := Z17.out; have := Z6'.out; (try simp only); omega))).trans c3_16
  clear c3_16
  have c4_17 := (World.cell?_of_block (a := ⟨w5.heap.size, 1, none⟩) (G17.out.block w5.heap.size (by have := Z1.out; have := Z2.out; have := Z3.out; have := Z4.out; have := Z5.out; have := Z6.out; have := Z7.out; have := Z8.out; have := Z9.out; have := Z10.out; have := Z11.out; have := Z12.out; have := Z13.out; have := Z14.out; have := Z15.out; have := Z16.out; have := Z17.out; have := Z6'.out; (try simp only); omega) (by have := Z1.out; have := Z2.out; have := Z3.out; have := Z4.out; have := Z5.out; have := Z6.out; have := Z7.out; have := Z8.out; have := Z9.out; have := Z10.out; have := Z11.out; have := Z12.out; have := Z13.out; have := Z14.out; have := Z15.out; have := Z16.out; have := Z17.out; have := Z6'.out; (try simp only); omega))).trans c4_16
  clear c4_16
  have c5_17 := (World.cell?_of_block (a := ⟨w5.heap.size, 2, none⟩) (G17.out.block w5.heap.size (by have := Z1.out; have := Z2.out; have := Z3.out; have := Z4.out; have := Z5.out; have := Z6.out; have := Z7.out; have := Z8.out; have := Z9.out; have := Z10.out; have := Z11.out; have := Z12.out; have := Z13.out; have := Z14.out; have := Z15.out; have := Z16.out; have := Z17.out; have := Z6'.out; (try simp only); omega) (by have := Z1.out; have := Z2.out; have := Z3.out; have := Z4.out; have := Z5.out; have := Z6.out; have := Z7.out; have := Z8.out; have := Z9.out; have := Z10.out; have := Z11.out; have := Z12.out; have := Z13.out; have := Z14.out; have := Z15.out; have := Z16.out; have := Z17.out; have := Z6'.out; (try simp only); omega))).trans c5_16
  clear c5_16
  have c6_17 := (World.cell?_of_block (a := ⟨w7.heap.size, 0, none⟩) (G17.out.block w7.heap.size (by have := Z1.out; have := Z2.out; have := Z3.out; have := Z4.out; have := Z5.out; have := Z6.out; have := Z7.out; have := Z8.out; have := Z9.out; have := Z10.out; have := Z11.out; have := Z12.out; have := Z13.out; have := Z14.out; have := Z15.out; have := Z16.out; have := Z17.out; have := Z8'.out; (try simp only); omega) (by have := Z1.out; have := Z2.out; have := Z3.out; have := Z4.out; have := Z5.out; have := Z6.out; have := Z7.out; have := Z8.out; have := Z9.out; have := Z10.out; have := Z11.out; have := Z12.out; have := Z13.out; have := Z14.out; have := Z15.out; have := Z16.out; have := Z17.out; have := Z8'.out; (try simp only); omega))).trans c6_16
  clear c6_16
  have c7_17 := (World.cell?_of_block (a := ⟨w7.heap.size, 1, none⟩) (G17.out.block w7.heap.size (by have := Z1.out; have := Z2.out; have := Z3.out; have := Z4.out; have := Z5.out; have := Z6.out; have := Z7.out; have := Z8.out; have := Z9.out; have := Z10.out; have := Z11.out; have := Z12.out; have := Z13.out; have := Z14.out; have := Z15.out; have := Z16.out; have := Z17.out; have := Z8'.out; (try simp only); omega) (by have := Z1.out; have := Z2.out; have := Z3.out; have := Z4.out; have := Z5.out; have := Z6.out; have := Z7.out; have := Z8.out; have := Z9.out; have := Z10.out; have := Z11.out; have := Z12.out; have := Z13.out; have := Z14.out; have := Z15.out; have := Z16.out; have := Z17.out; have := Z8'.out; (try simp only); omega))).trans c7_16
  clear c7_16
  have c8_17 := (World.cell?_of_block (a := ⟨w7.heap.size, 2, none⟩) (G17.out.block w7.heap.size (by have := Z1.out; have := Z2.out; have := Z3.out; have := Z4.out; have := Z5.out; have := Z6.out; have := Z7.out; have := Z8.out; have := Z9.out; have := Z10.out; have := Z11.out; have := Z12.out; have := Z13.out; have := Z14.out; have := Z15.out; have := Z16.out; have := Z17.out; have := Z8'.out; (try simp only); omega) (by have := Z1.out; have := Z2.out; have := Z3.out; have := Z4.out; have := Z5.out; have := Z6.out; have := Z7.out; have := Z8.out; have := Z9.out; have := Z10.out; have := Z11.out; have := Z12.out; have := Z13.out; have := Z14.out; have := Z15.out; have := Z16.out; have := Z17.out; have := Z8'.out; (try simp only); omega))).trans c8_16
  clear c8_16
  have c9_17 := (World.cell?_of_block (a := ⟨w10.heap.size, 0, none⟩) (G17.out.block w10.heap.size (by have := Z1.out; have := Z2.out; have := Z3.out; have := Z4.out; have := Z5.out; have := Z6.out; have := Z7.out; have := Z8.out; have := Z9.out; have := Z10.out; have := Z11.out; have := Z12.out; have := Z13.out; have := Z14.out; have := Z15.out; have := Z16.out; have := Z17.out; have := Z11'.out; (try simp only); omega) (by have := Z1.out; have := Z2.out; have := Z3.out; have := Z4.out; have := Z5.out; have := Z6.out; have := Z7.out; have := Z8.out; have := Z9.out; have := Z10.out; have := Z11.out; have := Z12.out; have := Z13.out; have := Z14.out; have := Z15.out; have := Z16.out; have := Z17.out; have := Z11'.out; (try simp only); omega))).trans c9_16
  clear c9_16
  have c10_17 := (World.cell?_of_block (a := ⟨w10.heap.size, 1, none⟩) (G17.out.block w10.heap.size (by have := Z1.out; have := Z2.out; have := Z3.out; have := Z4.out; have := Z5.out; have := Z6.out; have := Z7.out; have := Z8.out; have := Z9.out; have := Z10.out; have := Z11.out; have := Z12.out; have := Z13.out; have := Z14.out; have := Z15.out; have := Z16.out; have := Z17.out; have := Z11'.out; (try simp only); omega) (by have := Z1.out; have := Z2.out; have := Z3.out; have := Z4.out; have := Z5.out; have := Z6.out; have := Z7.out; have := Z8.out; have := Z9.out; have := Z10.out; have := Z11.out; have := Z12.out; have := Z13.out; have := Z14.out; have := Z15.out; have := Z16.out; have := Z17.out; have := Z11'.out; (try simp only); omega))).trans c10_16
  clear c10_16
  have c11_17 := (World.cell?_of_block (a := ⟨w10.heap.size, 2, none⟩) (G17.out.block w10.heap.size (by have := Z1.out; have := Z2.out; have := Z3.out; have := Z4.out; have := Z5.out; have := Z6.out; have := Z7.out; have := Z8.out; have := Z9.out; have := Z10.out; have := Z11.out; have := Z12.out; have := Z13.out; have := Z14.out; have := Z15.out; have := Z16.out; have := Z17.out; have := Z11'.out; (try simp only); omega) (by have := Z1.out; have := Z2.out; have := Z3.out; have := Z4.out; have := Z5.out; have := Z6.out; have := Z7.out; have := Z8.out; have := Z9.out; have := Z10.out; have := Z11.out; have := Z12.out; have := Z13.out; have := Z14.out; have := Z15.out; have := Z16.out; have := Z17.out; have := Z11'.out; (try simp only); omega))).trans c11_16
  clear c11_16
  go_wp2_with fail
  refine (markIntS_any w8.heap.size t9 l1 (1 + (cntR l0 : Nat)) _ T9_17.out.own (by omega) (by omega)).mono ?_
  rintro e w18 ⟨rfl, o18, g18⟩
  have G18 : Hid (Chg w8.heap.size w9.heap.size w17 w18) := Chg.of_grown g18 fun q hq => ⟨(T9_17.out.own.lt q hq).1, T9_17.out.hi q hq⟩
  have T9_18 : Hid (OwI w8.heap.size w9.heap.size w18 t9 (iota (1 + (cntR l0 : Nat)) l1.length)) := ⟨o18, T9_17.out.hi⟩
  clear o18 g18 T9_17
  have Z18 : Hid (w17.heap.size ≤ w18.heap.size) := G18.out.size
  have K18 : Hid (Keeps w w18) := G18.out.keeps K17.out (by have := Z1.out; have := Z2.out; have := Z3.out; have := Z4.out; have := Z5.out; have := Z6.out; have := Z7.out; have := Z8.out; have := Z9.out; have := Z10.out; have := Z11.out; have := Z12.out; have := Z13.out; have := Z14.out; have := Z15.out; have := Z16.out; have := Z17.out; have := Z18.out; omega)
  have T3_18 := Lib.hid (T3_17.out.chg G18.out (by have := Z1.out; have := Z2.out; have := Z3.out; have := Z4.out; have := Z5.out; have := Z6.out; have := Z7.out; have := Z8.out; have := Z9.out; have := Z10.out; have := Z11.out; have := Z12.out; have := Z13.out; have := Z14.out; have := Z15.out; have := Z16.out; have := Z17.out; have := Z18.out; omega))
  clear T3_17
  have T4_18 := Lib.hid (T4_17.out.chg G18.out (by have := Z1.out; have := Z2.out; have := Z3.out; have := Z4.out; have := Z5.out; have := Z6.out; have := Z7.out; have := Z8.out; have := Z9.out; have := Z10.out; have := Z11.out; have := Z12.out; have := Z13.out; have := Z14.out; have := Z15.out; have := Z16.out; have := Z17.out; have := Z18.out; omega))
  clear T4_17
  have T5_18 := Lib.hid (T5_17.out.chg G18.out (by have := Z1.out; have := Z2.out; have := Z3.out; have := Z4.out; have := Z5.out; have := Z6.out; have := Z7.out; have := Z8.out; have := Z9.out; have := Z10.out; have := Z11.out; have := Z12.out; have := Z13.out; have := Z14.out; have := Z15.out; have := Z16.out; have := Z17.out; have := Z18.out; omega))
  clear T5_17
  have T7_18 := Lib.hid (T7_17.out.chg G18.out (by have := Z1.out; have := Z2.out; have := Z3.out; have := Z4.out; have := Z5.out; have := Z6.out; have := Z7.out; have := Z8.out; have := Z9.out; have := Z10.out; have := Z11.out; have := Z12.out; have := Z13.out; have := Z14.out; have := Z15.out; have := Z16.out; have := Z17.out; have := Z18.out; omega))
  clear T7_17
  have T10_18 := Lib.hid (T10_17.out.chg G18.out (by have := Z1.out; have := Z2.out; have := Z3.out; have := Z4.out; have := Z5.out; have := Z6.out; have := Z7.out; have := Z8.out; have := Z9.out; have := Z10.out; have := Z11.out; have := Z12.out; have := Z13.out; have := Z14.out; have := Z15.out; have := Z16.out; have := Z17.out; have := Z18.out; omega))
  clear T10_17
  have T15_18 := Lib.hid (T15_17.out.chg G18.out (by have := Z1.out; have := Z2.out; have := Z3.out; have := Z4.out; have := Z5.out; have := Z6.out; have := Z7.out; have := Z8.out; have := Z9.out; have := Z10.out; have := Z11.out; have := Z12.out; have := Z13.out; have := Z14.out; have := Z15.out; have := Z16.out; have := Z17.out; have := Z18.out; omega))
  clear T15_17
  have c0_18 := (World.cell?_of_block (a := ⟨w.heap.size, 0, none⟩) (G18.out.block w.heap.size (by have := Z1.out; have := Z2.out; have := Z3.out; have := Z4.out; have := Z5.out; have := Z6.out; have := Z7.out; have := Z8.out; have := Z9.out; have := Z10.out; have := Z11.out; have := Z12.out; have := Z13.out; have := Z14.out; have := Z15.out; have := Z16.out; have := Z17.out; have := Z18.out; have := Z1'.out; (try simp only); omega) (by have := Z1.out; have := Z2.out; have := Z3.out; have := Z4.out; have := Z5.out; have := Z6.out; have := Z7.out; have := Z8.out; have := Z9.out; have := Z10.out; have := Z11.out; have := Z12.out; have := Z13.out; have := Z14.out; have := Z15.out; have := Z16.out; have := Z17.out; have := Z18.out; have := Z1'.out; (try simp only); omega))).trans c0_17
  clear c0_17
  have c1_18 := (World.cell?_of_block (a := ⟨w.heap.size, 1, none⟩) (G18.out.block w.heap.size (by have := Z1.out; have := Z2.out; have := Z3.out; have := Z4.out; have := Z5.out; have := Z6.out; have := Z7.out; have := Z8.out; have := Z9.out; have := Z10.out; have := Z11.out; have := Z12.out; have := Z13.out; have := Z14.out; have := Z15.out; have := Z16.out; have := Z17.out; have := Z18.out; have := Z1'.out; (try simp only); omega) (by have := Z1.out; have := Z2.out; have := Z3.out; have := Z4.out; have := Z5.out; have := Z6.out; have := Z7.out; have := Z8.out; have := Z9.out; have := Z10.out; have := Z11.out; have := Z12.out; have := Z13.out; have := Z14.out; have := Z15.out; have := Z16.out; have := Z17.out; have := Z18.out; have := Z1'.out; (try simp only); omega))).trans c1_17
  clear c1_17
  have c2_18 := (World.cell?_of_block (a := ⟨w.heap.size, 2, none⟩) (G18.out.block w.heap.size (by have := Z1.out; have := Z2.out; have := Z3.out; have := Z4.out; have := Z5.out; have := Z6.out; have := Z7.out; have := Z8.out; have := Z9.out; have := Z10.out; have := Z11.out; have := Z12.out; have := Z13.out; have := Z14.out; have := Z15.out; have := Z16.out; have := Z17.out; have := Z18.out; have := Z1'.out; (try simp only); omega) (by have := Z1.out; have := Z2.out; have := Z3.out; have := Z4.out; have := Z5.out; have := Z6.out; have := Z7.out; have := Z8.out; have := Z9.out; have := Z10.out; have := Z11.out; have := Z12.out; have := Z13.out; have := Z14.out; have := Z15.out; have := Z16.out; have := Z17.out; have := Z18.out; have := Z1'.out; (try simp only); omega))).trans c2_17
  clear c2_17
  have c3_18 := (World.cell?_of_block (a := ⟨w5.heap.size, 0, none⟩) (G18.out.block w5.heap.size (by have := Z1.out; have := Z2.out; have := Z3.out; have := Z4.out; have := Z5.out; have := Z6.out; have := Z7.out; have := Z8.out; have := Z9.out; have := Z10.out; have := Z11.out; have := Z12.out; have := Z13.out; have := Z14.out; have := Z15.out; have := Z16.out; have := Z17.out; have := Z18.out; have := Z6'.out; (try simp only); omega) (by have := Z1.out; have := Z2.out; have := Z3.out; have := Z4.out; have := Z5.out; have := Z6.out; have := Z7.out; have := Z8.out; have := Z9.out; have := Z10.out; have := Z11.out; have := Z12.out; have := Z13.out; have := Z14.out; have := Z15.out; have := Z16.out; have := Z17.out; have := Z18.out; have := Z6'.out; (try simp only); omega))).trans c3_17
  clear c3_17
  have c4_18 := (World.cell?_of_block (a := ⟨w5.heap.size, 1, none⟩) (G18.out.block w5.heap.size (by have := Z1.out; have := Z2.out; have := Z3.out; have := Z4.out; have := Z5.out; have := Z6.out; have := Z7.out; have := Z8.out; have := Z9.out; have := Z10.out; have := Z11.out; have := Z12.out; have := Z13.out; have := Z14.out; have := Z15.out; have := Z16.out; have := Z17.out; have := Z18.out; have := Z6'.out; (try simp only); omega) (by have := Z1.out; have := Z2.out; have := Z3.out; have := Z4.out; have := Z5.out; have := Z6.out; have := Z7.out; have := Z8.out; have := Z9.out; have := Z10.out; have := Z11.out; have := Z12.out; have := Z13.out; have := Z14.out; have := Z15.out; have := Z16.out; have := Z17.out; have := Z18.out; have := Z6'.out; (try simp only); omega))).trans c4_17
  clear c4_17
  have c5_18 := (World.cell?_of_block (a := ⟨w5.heap.size, 2, none⟩) (G18.out.block w5.heap.size (by have := Z1.out; have := Z2.out; have := Z3.out; have := Z4.out; have := Z5.out; have := Z6.out; have := Z7.out; have := Z8.out; have := Z9.out; have := Z10.out; have := Z11.out; have := Z12.out; have := Z13.out; have := Z14.out; have := Z15.out; have := Z16.out; have := Z17.out; have := Z18.out; have := Z6'.out; (try simp only); omega) (by have := Z1.out; have := Z2.out; have := Z3.out; have := Z4.out; have := Z5.out; have := Z6.out; have := Z7.out; have := Z8.out; have := Z9.out; have := Z10.out; have := Z11.out; have := Z12.out; have := Z13.out; have := Z14.out; have := Z15.out; have := Z16.out; have := Z17.out; have := Z18.out; have := Z6'.out; (try simp only); omega))).trans c5_17
  clear c5_17
  have c6_18 := (World.cell?_of_block (a := ⟨w7.heap.size, 0, none⟩) (G18.out.block w7.heap.size (by have := Z1.out; have := Z2.out; have := Z3.out; have := Z4.out; have := Z5.out; have := Z6.out; have := Z7.out; have := Z8.out; have := Z9.out; have := Z10.out; have := Z11.out; have := Z12.out; have := Z13.out; have := Z14.out; have := Z15.out; have := Z16.out; have := Z17.out; have := Z18.out; have := Z8'.out; (try simp only); omega) (by have := Z1.out; have := Z2.out; have := Z3.out; have := Z4.out; have := Z5.out; have := Z6.out; have := Z7.out; have := Z8.out; have := Z9.out; have := Z10.out; have := Z11.out; have := Z12.out; have := Z13.out; have := Z14.out; have := Z15.out; have := Z16.out; have := Z17.out; have := Z18.out; have := Z8'.out; (try simp only); omega))).trans c6_17
  clear c6_17
  have c7_18 := (World.cell?_of_block (a := ⟨w7.heap.size, 1, none⟩) (G18.out.block w7.heap.size (by have := Z1.out; have := Z2.out; have := Z3.out; have := Z4.out; have := Z5.out; have := Z6.out; have := Z7.out; have := Z8.out; have := Z9.out; have := Z10.out; have := Z11.out; have := Z12.out; have := Z13.out; have := Z14.out; have := Z15.out; have := Z16.out; have := Z17.out; have := Z18.out; have := Z8'.out; (try simp only); omega) (by have := Z1.out; have := Z2.out; have := Z3.out; have := Z4.out; have := Z5.out; have := Z6.out; have := Z7.out; have := Z8.out; have := Z9.out; have := Z10.out; have := Z11.out; have := Z12.out; have := Z13.out; have := Z14.out; have := Z15.out; have := Z16.out; have := Z17.out; have := Z18.out; have := Z8'.out; (try simp only); omega))).trans c7_17
  clear c7_17
  have c8_18 := (World.cell?_of_block (a := ⟨w7.heap.size, 2, none⟩) (G18.out.block w7.heap.size (by have := Z1.out; have := Z2.out; have := Z3.out; have := Z4.out; have := Z5.out; have := Z6.out; have := Z7.out; have := Z8.out; have := Z9.out; have := Z10.out; have := Z11.out; have := Z12.out; have := Z13.out; have := Z14.out; have := Z15.out; have := Z16.out; have := Z17.out; have := Z18.out; have := Z8'.out; (try simp only); omega) (by have := Z1.out; have := Z2.out; have := Z3.out; have := Z4.out; have := Z5.out; have := Z6.out; have := Z7.out; have := Z8.out; have := Z9.out; have := Z10.out; have := Z11.out; have := Z12.out; have := Z13.out; have := Z14.out; have := Z15.out; have := Z16.out; have := Z17.out; have := Z18.out; have := Z8'.out; (try simp only); omega))).trans c8_17
  clear c8_17
  have c9_18 := (World.cell?_of_block (a := ⟨w10.heap.size, 0, none⟩) (G18.out.block w10.heap.size (by have := Z1.out; have := Z2.out; have := Z3.out; have := Z4.out; have := Z5.out; have := Z6.out; have := Z7.out; have := Z8.out; have := Z9.out; have := Z10.out; have := Z11.out; have := Z12.out; have := Z13.out; have := Z14.out; have := Z15.out; have := Z16.out; have := Z17.out; have := Z18.out; have := Z11'.out; (try simp only); omega) (by have := Z1.out; have := Z2.out; have := Z3.out; have := Z4.out; have := Z5.out; have := Z6.out; have := Z7.out; have := Z8.out; have := Z9.out; have := Z10.out; have := Z11.out; have := Z12.out; have := Z13.out; have := Z14.out; have := Z15.out; have := Z16.out; have := Z17.out; have := Z18.out; have := Z11'.out; (try simp only); omega))).trans c9_17
  clear c9_17
  have c10_18 := (World.cell?_of_block (a := ⟨w10.heap.size, 1, none⟩) (G18.out.block w10.heap.size (by have := Z1.out; have := Z2.out; have := Z3.out; have := Z4.out; have := Z5.out; have := Z6.out; have := Z7.out; have := Z8.out; have := Z9.out; have := Z10.out; have := Z11.out; have := Z12.out; have := Z13.out; have := Z14.out; have := Z15.out; have := Z16.out; have := Z17.out; have := Z18.out; have := Z11'.out; (try simp only); omega) (by have := Z1.out; have := Z2.out; have := Z3.out; have := Z4.out; have := Z5.out; have := Z6.out; have := Z7.out; have := Z8.out; have := Z9.out; have := Z10.out; have := Z11.out; have := Z12.out; have := Z13.out; have := Z14.out; have := Z15.out; have := Z16.out; have := Z17.out; have := Z18.out; have := Z11'.out; (try simp only); omega))).trans c10_17
  clear c10_17
  have c11_18 := (World.cell?_of_block (a := ⟨w10.heap.size, 2, none⟩) (G18.out.block w10.heap.size (by have := Z1.out; have := Z2.out; have := Z3.out; have := Z4.out; have := Z5.out; have := Z6.out; have := Z7.out; have := Z8.out; have := Z9.out; have := Z10.out; have := Z11.out; have := Z12.out; have := Z13.out; have := Z14.out; have := Z15.out; have := Z16.out; have := Z17.out; have := Z18.out; have := Z11'.out; (try simp only); omega) (by have := Z1.out; have := Z2.out; have := Z3.out; have := Z4.out; have := Z5.out; have := Z6.out; have := Z7.out; have := Z8.out; have := Z9.out; have := Z10.out; have := Z11.out; have := Z12.out; have := Z13.out; have := Z14.out; have := Z15.out; have := Z16.out; have := Z17.out; have := Z18.out; have := Z11'.out; (try simp only); omega))).trans c11_17
  clear c11_17
  go_wp2_with fail
  refine (eqRootedProblem_same _ _ L _ (T10_18.out.rd) (T5_18.out.rd)).mono ?_
  rintro e w19 ⟨rfl, k19⟩
  have KS19 : Hid (Keeps w18 w19) := k19
  clear k19
  have K19 : Hid (Keeps w w19) := Keeps.trans K18.out KS19.out
  have Z19 : Hid (w18.heap.size ≤ w19.heap.size) := KS19.out.size
  have T3_19 := Lib.hid (T3_18.out.keep KS19.out)
  clear T3_18
  have T4_19 := Lib.hid (T4_18.out.keep KS19.out)
  clear T4_18
  have T5_19 := Lib.hid (T5_18.out.keep KS19.out)
  clear T5_18
  have T7_19 := Lib.hid (T7_18.out.keep KS19.out)
  clear T7_18
  have T9_19 := Lib.hid (T9_18.out.keep KS19.out)
  clear T9_18
  have T10_19 := Lib.hid (T10_18.out.keep KS19.out)
  clear T10_18
  have T15_19 := Lib.hid (T15_18.out.keep KS19.out)
  clear T15_18
  have c0_19 := cell_keep KS19.out c0_18
  clear c0_18
  have c1_19 := cell_keep KS19.out c1_18
  clear c1_18
  have c2_19 := cell_keep KS19.out c2_18
  clear c2_18
  have c3_19 := cell_keep KS19.out c3_18
  clear c3_18
  have c4_19 := cell_keep KS19.out c4_18
  clear c4_18
  have c5_19 := cell_keep KS19.out c5_18
  clear c5_18
  have c6_19 := cell_keep KS19.out c6_18
  clear c6_18
  have c7_19 := cell_keep KS19.out c7_18
  clear c7_18
  have c8_19 := cell_keep KS19.out c8_18
  clear c8_18
  have c9_19 := cell_keep KS19.out c9_18
  clear c9_18
  have c10_19 := cell_keep KS19.out c10_18
  clear c10_18
  have c11_19 := cell_keep KS19.out c11_18
  clear c11_18
  go_wp2_with fail
  have CL20 := cntR_le L
  refine (markRootedProblem_any w9.heap.size w10.heap.size _ L 1 _ T10_19.out (by have := Z1.out; have := Z2.out; have := Z3.out; have := Z4.out; have := Z5.out; have := Z6.out; have := Z7.out; have := Z8.out; have := Z9.out; have := Z10.out; have := Z11.out; have := Z12.out; have := Z13.out; have := Z14.out; have := Z15.out; have := Z16.out; have := Z17.out; have := Z18.out; have := Z19.out; omega) (by omega) (by omega)).mono ?_
  rintro e w20 ⟨rfl, o20, g20⟩
  have G20 : Hid (Chg w9.heap.size w10.heap.size w19 w20) := g20
  have T10_20 := Lib.hid o20
  clear o20 g20 T10_19
  have Z20 : Hid (w19.heap.size ≤ w20.heap.size) := G20.out.size
  have K20 : Hid (Keeps w w20) := G20.out.keeps K19.out (by have := Z1.out; have := Z2.out; have := Z3.out; have := Z4.out; have := Z5.out; have := Z6.out; have := Z7.out; have := Z8.out; have := Z9.out; have := Z10.out; have := Z11.out; have := Z12.out; have := Z13.out; have := Z14.out; have := Z15.out; have := Z16.out; have := Z17.out; have := Z18.out; have := Z19.out; have := Z20.out; omega)
  have T3_20 := Lib.hid (T3_19.out.chg G20.out (by have := Z1.out; have := Z2.out; have := Z3.out; have := Z4.out; have := Z5.out; have := Z6.out; have := Z7.out; have := Z8.out; have := Z9.out; have := Z10.out; have := Z11.out; have := Z12.out; have := Z13.out; have := Z14.out; have := Z15.out; have := Z16.out; have := Z17.out; have := Z18.out; have := Z19.out; have := Z20.out; omega))
  clear T3_19
  have T4_20 := Lib.hid (T4_19.out.chg G20.out (by have := Z1.out; have := Z2.out; have := Z3.out; have := Z4.out; have := Z5.out; have := Z6.out; have := Z7.out; have := Z8.out; have := Z9.out; have := Z10.out; have := Z11.out; have := Z12.out; have := Z13.out; have := Z14.out; have := Z15.out; have := Z16.out; have := Z17.out; have := Z18.out; have := Z19.out; have := Z20.out; omega))
  clear T4_19
  have T5_20 := Lib.hid (T5_19.out.chg G20.out (by have := Z1.out; have := Z2.out; have := Z3.out; have := Z4.out; have := Z5.out; have := Z6.out; have := Z7.out; have := Z8.out; have := Z9.out; have := Z10.out; have := Z11.out; have := Z12.out; have := Z13.out; have := Z14.out; have := Z15.out; have := Z16.out; have := Z17.out; have := Z18.out; have := Z19.out; have := Z20.out; omega))
  clear T5_19
  have T7_20 := Lib.hid (T7_19.out.chg G20.out (by have := Z1.out; have := Z2.out; have := Z3.out; have := Z4.out; have := Z5.out; have := Z6.out; have := Z7.out; have := Z8.out; have := Z9.out; have := Z10.out; have := Z11.out; have := Z12.out; have := Z13.out; have := Z14.out; have := Z15.out; have := Z16.out; have := Z17.out; have := Z18.out; have := Z19.out; have := Z20.out; omega))
  clear T7_19
  have T9_20 := Lib.hid (T9_19.out.chg G20.out (by have := Z1.out; have := Z2.out; have := Z3.out; have := Z4.out; have := Z5.out; have := Z6.out; have := Z7.out; have := Z8.out; have := Z9.out; have := Z10.out; have := Z11.out; have := Z12.out; have := Z13.out; have := Z14.out; have := Z15.out; have := Z16.out; have := Z17.out; have := Z18.out; have := Z19.out; have := Z20.out; omega))
  clear T9_19
  have T15_20 := Lib.hid (T15_19.out.chg G20.out (by have := Z1.out; have := Z2.out; have := Z3.out; have := Z4.out; have := Z5.out; have := Z6.out; have := Z7.out; have := Z8.out; have := Z9.out; have := Z10.out; have := Z11.out; have := Z12.out; have := Z13.out; have := Z14.out; have := Z15.out; have := Z16.out; have := Z17.out; have := Z18.out; have := Z19.out; have := Z20.out; omega))
  clear T15_19
  have c0_20 := (World.cell?_of_block (a := ⟨w.heap.size, 0, none⟩) (G20.out.block w.heap.size (by have := Z1.out; have := Z2.out; have := Z3.out; have := Z4.out; have := Z5.out; have := Z6.out; have := Z7.out; have := Z8.out; have := Z9.out; have := Z10.out; have := Z11.out; have := Z12.out; have := Z13.out; have := Z14.out; have := Z15.out; have := Z16.out; have := Z17.out; have := Z18.out; have := Z19.out; have := Z20.out; have := Z1'.out; (try simp only); omega) (by have := Z1.out; have := Z2.out; have := Z3.out; have := Z4.out; have := Z5.out; have := Z6.out; have := Z7.out; have := Z8.out; have := Z9.out; have := Z10.out; have := Z11.out; have := Z12.out; have := Z13.out; have := Z14.out; have := Z15.out; have := Z16.out; have := Z17.out; have := Z18.out; have := Z19.out; have := Z20.out; have := Z1'.out; (try simp only); omega))).trans c0_19
  clear c0_19
  have c1_20 := (World.cell?_of_block (a := ⟨w.heap.size, 1, none⟩) (G20.out.block w.heap.size (by have := Z1.out; have := Z2.out; have := Z3.out; have := Z4.out; have := Z5.out; have := Z6.out; have := Z7.out; have := Z8.out; have := Z9.out; have := Z10.out; have := Z11.out; have := Z12.out; have := Z13.out; have := Z14.out; have := Z15.out; have := Z16.out; have := Z17.out; have := Z18.out; have := Z19.out; have := Z20.out; have := Z1'.out; (try simp only); omega) (by have := Z1.out; have := Z2.out; have := Z3.out; have := Z4.out; have := Z5.out; have := Z6.out; have := Z7.out; have := Z8.out; have := Z9.out; have := Z10.out; have := Z11.out; have := Z12.out; have := Z13.out; have := Z14.out; have := Z15.out; have := Z16.out; have := Z17.out; have := Z18.out; have := Z19.out; have := Z20.out; have := Z1'.out; (try simp only); omega))).trans c1_19
  clear c1_19
  have c2_20 := (World.cell?_of_block (a := ⟨w.heap.size, 2, none⟩) (G20.out.block w.heap.size (by have := Z1.out; have := Z2.out; have := Z3.out; have := Z4.out; have := Z5.out; have := Z6.out; have := Z7.out; have := Z8.out; have := Z9.out; have := Z10.out; have := Z11.out; have := Z12.out; have := Z13.out; have := Z14.out; have := Z15.out; have := Z16.out; have := Z17.out; have := Z18.out; have := Z19.out; have := Z20.out; have := Z1'.out; (try simp only); omega) (by have := Z1.out; have := Z2.out; have := Z3.out; have := Z4.out; have := Z5.out; have := Z6.out; have := Z7.out; have := Z8.out; have := Z9.out; have := Z10.out; have := Z11.out; have := Z12.out; have := Z13.out; have := Z14.out; have := Z15.out; have := Z16.out; have := Z17.out; have := Z18.out; have := Z19.out; have := Z20.out; have := Z1'.out; (try simp only); omega))).trans c2_19
  clear c2_19
  have c3_20 := (World.cell?_of_block (a := ⟨w5.heap.size, 0, none⟩) (G20.out.block w5.heap.size (by have := Z1.out; have := Z2.out; have := Z3.out; have := Z4.out; have := Z5.out; have := Z6.out; have := Z7.out; have := Z8.out; have := Z9.out; have := Z10.out; have := Z11.out; have := Z12.out; have := Z13.out; have := Z14.out; have := Z15.out; have := Z16.out; have := Z17.out; have := Z18.out; have := Z19.out; have := Z20.out; have := Z6'.out; (try simp only); omega) (by have := Z1.out; have := Z2.out; have := Z3.out; have := Z4.out; have := Z5.out; have := Z6.out; have := Z7.out; have := Z8.out; have := Z9.out; have := Z10.out; have := Z11.out; have := Z12.out; have := Z13.out; have := Z14.out; have := Z15.out; have := Z16.out; have := Z17.out; have := Z18.out; have := Z19.out; have := Z20.out; have := Z6'.out; (try simp only); omega))).trans c3_19
  clear c3_19
  have c4_20 := (World.cell?_of_block (a := ⟨w5.heap.size, 1, none⟩) (G20.out.block w5.heap.size (by have := Z1.out; have := Z2.out; have := Z3.out; have := Z4.out; have := Z5.out; have := Z6.out; have := Z7.out; have := Z8.out; have := Z9.out; have := Z10.out; have := Z11.out; have := Z12.out; have := Z13.out; have := Z14.out; have := Z15.out; have := Z16.out; have := Z17.out; have := Z18.out; have := Z19.out; have := Z20.out; have := Z6'.out; (try simp only); omega) (by have := Z1.out; have := Z2.out; have := Z3.out; have := Z4.out; have := Z5.out; have := Z6.out; have := Z7.out; have := Z8.out; have := Z9.out; have := Z10.out; have := Z11.out; have := Z12.out; have := Z13.out; have := Z14.out; have := Z15.out; have := Z16.out; have := Z17.out; have := Z18.out; have := Z19.out; have := Z20.out; have := Z6'.out; (try simp only); omega))).trans c4_19
  clear c4_19
  have c5_20 := (World.cell?_of_block (a := ⟨w5.heap.size, 2, none⟩) (G20.out.block w5.heap.size (by have := Z1.out; have := Z2.out; have := Z3.out; have := Z4.out; have := Z5.out; have := Z6.out; have := Z7.out; have := Z8.out; have := Z9.out; have := Z10.out; have := Z11.out; have := Z12.out; have := Z13.out; have := Z14.out; have := Z15.out; have := Z16.out; have := Z17.out; have := Z18.out; have := Z19.out; have := Z20.out; have := Z6'.out; (try simp only); omega) (by have := Z1.out; have := Z2.out; have := Z3.out; have := Z4.out; have := Z5.out; have := Z6.out; have := Z7.out; have := Z8.out; have := Z9.out; have := Z10.out; have := Z11.out; have := Z12.out; have := Z13.out; have := Z14.out; have := Z15.out; have := Z16.out; have := Z17.out; have := Z18.out; have := Z19.out; have := Z20.out; have := Z6'.out; (try simp only); omega))).trans c5_19
  clear c5_19
  have c6_20 := (World.cell?_of_block (a := ⟨w7.heap.size, 0, none⟩) (G20.out.block w7.heap.size (by have := Z1.out; have := Z2.out; have := Z3.out; have := Z4.out; have := Z5.out; have := Z6.out; have := Z7.out; have := Z8.out; have := Z9.out; have := Z10.out; have := Z11.out; have := Z12.out; have := Z13.out; have := Z14.out; have := Z15.out; have := Z16.out; have := Z17.out; have := Z18.out; have := Z19.out; have := Z20.out; have := Z8'.out; (try simp only); omega) (by have := Z1.out; have := Z2.out; have := Z3.out; have := Z4.out; have := Z5.out; have := Z6.out; have := Z7.out; have := Z8.out; have := Z9.out; have := Z10.out; have := Z11.out; have := Z12.out; have := Z13.out; have := Z14.out; have := Z15.out; have := Z16.out; have := Z17.out; have := Z18.out; have := Z19.out; have := Z20.out; have := Z8'.out; (try simp only); omega))).trans c6_19
  clear c6_19
  have c7_20 := (World.cell?_of_block (a := ⟨w7.heap.size, 1, none⟩) (G20.out.block w7.heap.size (by have := Z1.out; have := Z2.out; have := Z3.out; have := Z4.out; have := Z5.out; have := Z6.out; have := Z7.out; have := Z8.out; have := Z9.out; have := Z10.out; have := Z11.out; have := Z12.out; have := Z13.out; have := Z14.out; have := Z15.out; have := Z16.out; have := Z17.out; have := Z18.out; have := Z19.out; have := Z20.out; have := Z8'.out; (try simp only); omega) (by have := Z1.out; have := Z2.out; have := Z3.out; have := Z4.out; have := Z5.out; have := Z6.out; have := Z7.out; have := Z8.out; have := Z9.out; have := Z10.out; have := Z11.out; have := Z12.out; have := Z13.out; have := Z14.out; have := Z15.out; have := Z16.out; have := Z17.out; have := Z18.out; have := Z19.out; have := Z20.out; have := Z8'.out; (try simp only); omega))).trans c7_19
  clear c7_19
  have c8_20 := (World.cell?_of_block (a := ⟨w7.heap.size, 2, none⟩) (G20.out.block w7.heap.size (by have := Z1.out; have := Z2.out; have := Z3.out; have := Z4.out; have := Z5.out; have := Z6.out; have := Z7.out; have := Z8.out; have := Z9.out; have := Z10.out; have := Z11.out; have := Z12.out; have := Z13.out; have := Z14.out; have := Z15.out; have := Z16.out; have := Z17.out; have := Z18.out; have := Z19.out; have := Z20.out; have := Z8'.out; (try simp only); omega) (by have := Z1.out; have := Z2.out; have := Z3.out; have := Z4.out; have := Z5.out; have := Z6.out; have := Z7.out; have := Z8.out; have := Z9.out; have := Z10.out; have := Z11.out; have := Z12.out; have := Z13.out; have := Z14.out; have := Z15.out; have := Z16.out; have := Z17.out; have := Z18.out; have := Z19.out; have := Z20.out; have := Z8'.out; (try simp only); omega))).trans c8_19
  clear c8_19
  have c9_20 := (World.cell?_of_block (a := ⟨w10.heap.size, 0, none⟩) (G20.out.block w10.heap.size (by have := Z1.out; have := Z2.out; have := Z3.out; have := Z4.out; have := Z5.out; have := Z6.out; have := Z7.out; have := Z8.out; have := Z9.out; have := Z10.out; have := Z11.out; have := Z12.out; have := Z13.out; have := Z14.out; have := Z15.out; have := Z16.out; have := Z17.out; have := Z18.out; have := Z19.out; have := Z20.out; have := Z11'.out; (try simp only); omega) (by have := Z1.out; have := Z2.out; have := Z3.out; have := Z4.out; have := Z5.out; have := Z6.out; have := Z7.out; have := Z8.out; have := Z9.out; have := Z10.out; have := Z11.out; have := Z12.out; have := Z13.out; have := Z14.out; have := Z15.out; have := Z16.out; have := Z17.out; have := Z18.out; have := Z19.out; have := Z20.out; have := Z11'.out; (try simp only); omega))).trans c9_19
  clear c9_19
  have c10_20 := (World.cell?_of_block (a := ⟨w10.heap.size, 1, none⟩) (G20.out.block w10.heap.size (by have := Z1.out; have := Z2.out; have := Z3.out; have := Z4.out; have := Z5.out; have := Z6.out; have := Z7.out; have := Z8.out; have := Z9.out; have := Z10.out; have := Z11.out; have := Z12.out; have := Z13.out; have := Z14.out; have := Z15.out; have := Z16.out; have := Z17.out; have := Z18.out; have := Z19.out; have := Z20.out; have := Z11'.out; (try simp only); omega) (by have := Z1.out; have := Z2.out; have := Z3.out; have := Z4.out; have := Z5.out; have := Z6.out; have := Z7.out; have := Z8.out; have := Z9.out; have := Z10.out; have := Z11.out; have := Z12.out; have := Z13.out; have := Z14.out; have := Z15.out; have := Z16.out; have := Z17.out; have := Z18.out; have := Z19.out; have := Z20.out; have := Z11'.out; (try simp only); omega))).trans c10_19
  clear c10_19
  have c11_20 := (World.cell?_of_block (a := ⟨w10.heap.size, 2, none⟩) (G20.out.block w10.heap.size (by have := Z1.out; have := Z2.out; have := Z3.out; have := Z4.out; have := Z5.out; have := Z6.out; have := Z7.out; have := Z8.out; have := Z9.out; have := Z10.out; have := Z11.out; have := Z12.out; have := Z13.out; have := Z14.out; have := Z15.out; have := Z16.out; have := Z17.out; have := Z18.out; have := Z19.out; have := Z20.out; have := Z11'.out; (try simp only); omega) (by have := Z1.out; have := Z2.out; have := Z3.out; have := Z4.out; have := Z5.out; have := Z6.out; have := Z7.out; have := Z8.out; have := Z9.out; have := Z10.out; have := Z11.out; have := Z12.out; have := Z13.out; have := Z14.out; have := Z15.out; have := Z16.out; have := Z17.out; have := Z18.out; have := Z19.out; have := Z20.out; have := Z11'.out; (try simp only); omega))).trans c11_19
  clear c11_19
  go_wp2_with fail
  refine (heldRootedProblem_any _ L 1 _ (T10_20.out.rd) (by omega) (by omega)).mono ?_
  rintro e w21 ⟨rfl, k21⟩
  have KS21 : Hid (Keeps w20 w21) := k21
  clear k21
  have K21 : Hid (Keeps w w21) := Keeps.trans K20.out KS21.out
  have Z21 : Hid (w20.heap.size ≤ w21.heap.size) := KS21.out.size
  have T3_21 := Lib.hid (T3_20.out.keep KS21.out)
  clear T3_20
  have T4_21 := Lib.hid (T4_20.out.keep KS21.out)
  clear T4_20
  have T5_21 := Lib.hid (T5_20.out.keep KS21.out)
  clear T5_20
  have T7_21 := Lib.hid (T7_20.out.keep KS21.out)
  clear T7_20
  have T9_21 := Lib.hid (T9_20.out.keep KS21.out)
  clear T9_20
  have T10_21 := Lib.hid (T10_20.out.keep KS21.out)
  clear T10_20
  have T15_21 := Lib.hid (T15_20.out.keep KS21.out)
  clear T15_20
  have c0_21 := cell_keep KS21.out c0_20
  clear c0_20
  have c1_21 := cell_keep KS21.out c1_20
  clear c1_20
  have c2_21 := cell_keep KS21.out c2_20
  clear c2_20
  have c3_21 := cell_keep KS21.out c3_20
  clear c3_20
  have c4_21 := cell_keep KS21.out c4_20
  clear c4_20
  have c5_21 := cell_keep KS21.out c5_20
  clear c5_20
  have c6_21 := cell_keep KS21.out c6_20
  clear c6_20
  have c7_21 := cell_keep KS21.out c7_20
  clear c7_20
  have c8_21 := cell_keep KS21.out c8_20
  clear c8_20
  have c9_21 := cell_keep KS21.out c9_20
  clear c9_20
  have c10_21 := cell_keep KS21.out c10_20
  clear c10_20
  have c11_21 := cell_keep KS21.out c11_20
  clear c11_20
  go_wp2_with fail
  refine (toRootedProblem_any _ l0 _ (R0.out.keep K21.out) s0).mono ?_
  rintro e w22 ⟨t22, rfl, o22, k22⟩
  obtain ⟨t22a2, t22c2, rfl⟩ := o22.rd.shape
  have T22 := Lib.hid o22
  clear o22
  have KS22 : Hid (Keeps w21 w22) := k22
  clear k22
  have K22 : Hid (Keeps w w22) := Keeps.trans K21.out KS22.out
  have Z22 : Hid (w21.heap.size ≤ w22.heap.size) := KS22.out.size
  have T3_22 := Lib.hid (T3_21.out.keep KS22.out)
  clear T3_21
  have T4_22 := Lib.hid (T4_21.out.keep KS22.out)
  clear T4_21
  have T5_22 := Lib.hid (T5_21.out.keep KS22.out)
  clear T5_21
  have T7_22 := Lib.hid (T7_21.out.keep KS22.out)
  clear T7_21
  have T9_22 := Lib.hid (T9_21.out.keep KS22.out)
  clear T9_21
  have T10_22 := Lib.hid (T10_21.out.keep KS22.out)
  clear T10_21
  have T15_22 := Lib.hid (T15_21.out.keep KS22.out)
  clear T15_21
  have c0_22 := cell_keep KS22.out c0_21
  clear c0_21
  have c1_22 := cell_keep KS22.out c1_21
  clear c1_21
  have c2_22 := cell_keep KS22.out c2_21
  clear c2_21
  have c3_22 := cell_keep KS22.out c3_21
  clear c3_21
  have c4_22 := cell_keep KS22.out c4_21
  clear c4_21
  have c5_22 := cell_keep KS22.out c5_21
  clear c5_21
  have c6_22 := cell_keep KS22.out c6_21
  clear c6_21
  have c7_22 := cell_keep KS22.out c7_21
  clear c7_21
  have c8_22 := cell_keep KS22.out c8_21
  clear c8_21
  have c9_22 := cell_keep KS22.out c9_21
  clear c9_21
  have c10_22 := cell_keep KS22.out c10_21
  clear c10_21
  have c11_22 := cell_keep KS22.out c11_21
  clear c11_21
  go_wp2_with fail
  refine (toIntS_any _ l1 _ (R1.out.keep K22.out) s1).mono ?_
  rintro e w23 ⟨t23, rfl, o23, k23⟩
  have T23 := Lib.hid o23.owI
  clear o23
  have KS23 : Hid (Keeps w22 w23) := k23
  clear k23
  have K23 : Hid (Keeps w w23) := Keeps.trans K22.out KS23.out
  have Z23 : Hid (w22.heap.size ≤ w23.heap.size) := KS23.out.size
  have T3_23 := Lib.hid (T3_22.out.keep KS23.out)
  clear T3_22
  have T4_23 := Lib.hid (T4_22.out.keep KS23.out)
  clear T4_22
  have T5_23 := Lib.hid (T5_22.out.keep KS23.out)
  clear T5_22
  have T7_23 := Lib.hid (T7_22.out.keep KS23.out)
  clear T7_22
  have T9_23 := Lib.hid (T9_22.out.keep KS23.out)
  clear T9_22
  have T10_23 := Lib.hid (T10_22.out.keep KS23.out)
  clear T10_22
  have T15_23 := Lib.hid (T15_22.out.keep KS23.out)
  clear T15_22
  have T22_23 := Lib.hid (T22.out.keep KS23.out)
  clear T22
  have c0_23 := cell_keep KS23.out c0_22
  clear c0_22
  have c1_23 := cell_keep KS23.out c1_22
  clear c1_22
  have c2_23 := cell_keep KS23.out c2_22
  clear c2_22
  have c3_23 := cell_keep KS23.out c3_22
  clear c3_22
  have c4_23 := cell_keep KS23.out c4_22
  clear c4_22
  have c5_23 := cell_keep KS23.out c5_22
  clear c5_22
  have c6_23 := cell_keep KS23.out c6_22
  clear c6_22
  have c7_23 := cell_keep KS23.out c7_22
  clear c7_22
  have c8_23 := cell_keep KS23.out c8_22
  clear c8_22
  have c9_23 := cell_keep KS23.out c9_22
  clear c9_22
  have c10_23 := cell_keep KS23.out c10_22
  clear c10_22
  have c11_23 := cell_keep KS23.out c11_22
  clear c11_22
  go_wp2_with fail
  refine (implKeepRooted_any (.agg #[.int .i64 l0.labels, .int .i64 l0.children, .slice t22a2 l0.lines.length t22c2]) l0 t23 l1 _ (T22_23.out.rd) IL0.out s0 (T23.out.ints) IL1.out s1).mono ?_
  rw [HE.out]
  rintro e w24 ⟨x24, rfl, o24, b24, k24⟩
  rw [HL.out] at o24
  obtain ⟨x24a2, x24c2, rfl⟩ := o24.rd.shape
  have T24 := Lib.hid o24
  clear o24 b24
  have KS24 : Hid (Keeps w23 w24) := k24
  clear k24
  have K24 : Hid (Keeps w w24) := Keeps.trans K23.out KS24.out
  have Z24 : Hid (w23.heap.size ≤ w24.heap.size) := KS24.out.size
  have T3_24 := Lib.hid (T3_23.out.keep KS24.out)
  clear T3_23
  have T4_24 := Lib.hid (T4_23.out.keep KS24.out)
  clear T4_23
  have T5_24 := Lib.hid (T5_23.out.keep KS24.out)
  clear T5_23
  have T7_24 := Lib.hid (T7_23.out.keep KS24.out)
  clear T7_23
  have T9_24 := Lib.hid (T9_23.out.keep KS24.out)
  clear T9_23
  have T10_24 := Lib.hid (T10_23.out.keep KS24.out)
  clear T10_23
  have T15_24 := Lib.hid (T15_23.out.keep KS24.out)
  clear T15_23
  have T22_24 := Lib.hid (T22_23.out.keep KS24.out)
  clear T22_23
  have T23_24 := Lib.hid (T23.out.keep KS24.out)
  clear T23
  have c0_24 := cell_keep KS24.out c0_23
  clear c0_23
  have c1_24 := cell_keep KS24.out c1_23
  clear c1_23
  have c2_24 := cell_keep KS24.out c2_23
  clear c2_23
  have c3_24 := cell_keep KS24.out c3_23
  clear c3_23
  have c4_24 := cell_keep KS24.out c4_23
  clear c4_23
  have c5_24 := cell_keep KS24.out c5_23
  clear c5_23
  have c6_24 := cell_keep KS24.out c6_23
  clear c6_23
  have c7_24 := cell_keep KS24.out c7_23
  clear c7_23
  have c8_24 := cell_keep KS24.out c8_23
  clear c8_23
  have c9_24 := cell_keep KS24.out c9_23
  clear c9_23
  have c10_24 := cell_keep KS24.out c10_23
  clear c10_23
  have c11_24 := cell_keep KS24.out c11_23
  clear c11_23
  have pre1 : (w24.alloc (.cells #[.int .i64 L.labels, .int .i64 L.children, .slice x24a2 L.lines.length x24c2] 37)).cell? ⟨w.heap.size, 0, none⟩ = some (.int .i64 l0.labels) := cell_keep ((Keeps.refl _).alloc _) c0_24
  have pre2 : (w24.alloc (.cells #[.int .i64 L.labels, .int .i64 L.children, .slice x24a2 L.lines.length x24c2] 37)).cell? ⟨w.heap.size, 1, none⟩ = some (.int .i64 l0.children) := cell_keep ((Keeps.refl _).alloc _) c1_24
  have pre3 : (w24.alloc (.cells #[.int .i64 L.labels, .int .i64 L.children, .slice x24a2 L.lines.length x24c2] 37)).cell? ⟨w.heap.size, 2, none⟩ = some (.slice p0a2 l0.lines.length p0c2) := cell_keep ((Keeps.refl _).alloc _) c2_24
  have pre4 : (w24.alloc (.cells #[.int .i64 L.labels, .int .i64 L.children, .slice x24a2 L.lines.length x24c2] 37)).cell? ⟨w5.heap.size, 0, none⟩ = some (.int .i64 L.labels) := cell_keep ((Keeps.refl _).alloc _) c3_24
  have pre5 : (w24.alloc (.cells #[.int .i64 L.labels, .int .i64 L.children, .slice x24a2 L.lines.length x24c2] 37)).cell? ⟨w5.heap.size, 1, none⟩ = some (.int .i64 L.children) := cell_keep ((Keeps.refl _).alloc _) c4_24
  have pre6 : (w24.alloc (.cells #[.int .i64 L.labels, .int .i64 L.children, .slice x24a2 L.lines.length x24c2] 37)).cell? ⟨w5.heap.size, 2, none⟩ = some (.slice x5a2 L.lines.length x5c2) := cell_keep ((Keeps.refl _).alloc _) c5_24
  have pre7 : (w24.alloc (.cells #[.int .i64 L.labels, .int .i64 L.children, .slice x24a2 L.lines.length x24c2] 37)).cell? ⟨w7.heap.size, 0, none⟩ = some (.int .i64 l0.labels) := cell_keep ((Keeps.refl _).alloc _) c6_24
  have pre8 : (w24.alloc (.cells #[.int .i64 L.labels, .int .i64 L.children, .slice x24a2 L.lines.length x24c2] 37)).cell? ⟨w7.heap.size, 1, none⟩ = some (.int .i64 l0.children) := cell_keep ((Keeps.refl _).alloc _) c7_24
  have pre9 : (w24.alloc (.cells #[.int .i64 L.labels, .int .i64 L.children, .slice x24a2 L.lines.length x24c2] 37)).cell? ⟨w7.heap.size, 2, none⟩ = some (.slice t7a2 l0.lines.length t7c2) := cell_keep ((Keeps.refl _).alloc _) c8_24
  have pre10 : (w24.alloc (.cells #[.int .i64 L.labels, .int .i64 L.children, .slice x24a2 L.lines.length x24c2] 37)).cell? ⟨w10.heap.size, 0, none⟩ = some (.int .i64 L.labels) := cell_keep ((Keeps.refl _).alloc _) c9_24
  have pre11 : (w24.alloc (.cells #[.int .i64 L.labels, .int .i64 L.children, .slice x24a2 L.lines.length x24c2] 37)).cell? ⟨w10.heap.size, 1, none⟩ = some (.int .i64 L.children) := cell_keep ((Keeps.refl _).alloc _) c10_24
  have pre12 : (w24.alloc (.cells #[.int .i64 L.labels, .int .i64 L.children, .slice x24a2 L.lines.length x24c2] 37)).cell? ⟨w10.heap.size, 2, none⟩ = some (.slice x10a2 L.lines.length x10c2) := cell_keep ((Keeps.refl _).alloc _) c11_24
  go_wp2_with fail
  clear pre1 pre2 pre3 pre4 pre5 pre6 pre7 pre8 pre9 pre10 pre11 pre12
  have KS25 : Hid (Keeps w24 (w24.alloc (.cells #[.int .i64 L.labels, .int .i64 L.children, .slice x24a2 L.lines.length x24c2] 37))) := (Keeps.refl _).alloc _
  have Z25' : Hid (w24.heap.size + 1 ≤ (w24.alloc (.cells #[.int .i64 L.labels, .int .i64 L.children, .slice x24a2 L.lines.length x24c2] 37)).heap.size) := by show _ ≤ _; simp
  have c12_25 : (w24.alloc (.cells #[.int .i64 L.labels, .int .i64 L.children, .slice x24a2 L.lines.length x24c2] 37)).cell? ⟨w24.heap.size, 0, none⟩ = some (.int .i64 L.labels) := by rw [World.cell?_alloc_at _ _ _ _ rfl]; rfl
  have c13_25 : (w24.alloc (.cells #[.int .i64 L.labels, .int .i64 L.children, .slice x24a2 L.lines.length x24c2] 37)).cell? ⟨w24.heap.size, 1, none⟩ = some (.int .i64 L.children) := by rw [World.cell?_alloc_at _ _ _ _ rfl]; rfl
  have c14_25 : (w24.alloc (.cells #[.int .i64 L.labels, .int .i64 L.children, .slice x24a2 L.lines.length x24c2] 37)).cell? ⟨w24.heap.size, 2, none⟩ = some (.slice x24a2 L.lines.length x24c2) := by rw [World.cell?_alloc_at _ _ _ _ rfl]; rfl
  generalize w24.alloc (.cells #[.int .i64 L.labels, .int .i64 L.children, .slice x24a2 L.lines.length x24c2] 37) = w25 at KS25 Z25' c12_25 c13_25 c14_25 ⊢
  have K25 : Hid (Keeps w w25) := Keeps.trans K24.out KS25.out
  have Z25 : Hid (w24.heap.size ≤ w25.heap.size) := KS25.out.size
  have T3_25 := Lib.hid (T3_24.out.keep KS25.out)
  clear T3_24
  have T4_25 := Lib.hid (T4_24.out.keep KS25.out)
  clear T4_24
  have T5_25 := Lib.hid (T5_24.out.keep KS25.out)
  clear T5_24
  have T7_25 := Lib.hid (T7_24.out.keep KS25.out)
  clear T7_24
  have T9_25 := Lib.hid (T9_24.out.keep KS25.out)
  clear T9_24
  have T10_25 := Lib.hid (T10_24.out.keep KS25.out)
  clear T10_24
  have T15_25 := Lib.hid (T15_24.out.keep KS25.out)
  clear T15_24
  have T22_25 := Lib.hid (T22_24.out.keep KS25.out)
  clear T22_24
  have T23_25 := Lib.hid (T23_24.out.keep KS25.out)
  clear T23_24
  have T24_25 := Lib.hid (T24.out.keep KS25.out)
  clear T24
  have c0_25 := cell_keep KS25.out c0_24
  clear c0_24
  have c1_25 := cell_keep KS25.out c1_24
  clear c1_24
  have c2_25 := cell_keep KS25.out c2_24
  clear c2_24
  have c3_25 := cell_keep KS25.out c3_24
  clear c3_24
  have c4_25 := cell_keep KS25.out c4_24
  clear c4_24
  have c5_25 := cell_keep KS25.out c5_24
  clear c5_24
  have c6_25 := cell_keep KS25.out c6_24
  clear c6_24
  have c7_25 := cell_keep KS25.out c7_24
  clear c7_24
  have c8_25 := cell_keep KS25.out c8_24
  clear c8_24
  have c9_25 := cell_keep KS25.out c9_24
  clear c9_24
  have c10_25 := cell_keep KS25.out c10_24
  clear c10_24
  have c11_25 := cell_keep KS25.out c11_24
  clear c11_24
  refine (eqRootedProblem_same _ _ L _ (T24_25.out.rd) (T5_25.out.rd)).mono ?_
  rintro e w26 ⟨rfl, k26⟩
  have KS26 : Hid (Keeps w25 w26) := k26
  clear k26
  have K26 : Hid (Keeps w w26) := Keeps.trans K25.out KS26.out
  have Z26 : Hid (w25.heap.size ≤ w26.heap.size) := KS26.out.size
  have T3_26 := Lib.hid (T3_25.out.keep KS26.out)
  clear T3_25
  have T4_26 := Lib.hid (T4_25.out.keep KS26.out)
  clear T4_25
  have T5_26 := Lib.hid (T5_25.out.keep KS26.out)
  clear T5_25
  have T7_26 := Lib.hid (T7_25.out.keep KS26.out)
  clear T7_25
  have T9_26 := Lib.hid (T9_25.out.keep KS26.out)
  clear T9_25
  have T10_26 := Lib.hid (T10_25.out.keep KS26.out)
  clear T10_25
  have T15_26 := Lib.hid (T15_25.out.keep KS26.out)
  clear T15_25
  have T22_26 := Lib.hid (T22_25.out.keep KS26.out)
  clear T22_25
  have T23_26 := Lib.hid (T23_25.out.keep KS26.out)
  clear T23_25
  have T24_26 := Lib.hid (T24_25.out.keep KS26.out)
  clear T24_25
  have c0_26 := cell_keep KS26.out c0_25
  clear c0_25
  have c1_26 := cell_keep KS26.out c1_25
  clear c1_25
  have c2_26 := cell_keep KS26.out c2_25
  clear c2_25
  have c3_26 := cell_keep KS26.out c3_25
  clear c3_25
  have c4_26 := cell_keep KS26.out c4_25
  clear c4_25
  have c5_26 := cell_keep KS26.out c5_25
  clear c5_25
  have c6_26 := cell_keep KS26.out c6_25
  clear c6_25
  have c7_26 := cell_keep KS26.out c7_25
  clear c7_25
  have c8_26 := cell_keep KS26.out c8_25
  clear c8_25
  have c9_26 := cell_keep KS26.out c9_25
  clear c9_25
  have c10_26 := cell_keep KS26.out c10_25
  clear c10_25
  have c11_26 := cell_keep KS26.out c11_25
  clear c11_25
  have c12_26 := cell_keep KS26.out c12_25
  clear c12_25
  have c13_26 := cell_keep KS26.out c13_25
  clear c13_25
  have c14_26 := cell_keep KS26.out c14_25
  clear c14_25
  go_wp2_with fail
  refine (heldRootedProblem_any _ L 1 _ (T10_26.out.rd) (by omega) (by omega)).mono ?_
  rintro e w27 ⟨rfl, k27⟩
  have KS27 : Hid (Keeps w26 w27) := k27
  clear k27
  have K27 : Hid (Keeps w w27) := Keeps.trans K26.out KS27.out
  have Z27 : Hid (w26.heap.size ≤ w27.heap.size) := KS27.out.size
  have T3_27 := Lib.hid (T3_26.out.keep KS27.out)
  clear T3_26
  have T4_27 := Lib.hid (T4_26.out.keep KS27.out)
  clear T4_26
  have T5_27 := Lib.hid (T5_26.out.keep KS27.out)
  clear T5_26
  have T7_27 := Lib.hid (T7_26.out.keep KS27.out)
  clear T7_26
  have T9_27 := Lib.hid (T9_26.out.keep KS27.out)
  clear T9_26
  have T10_27 := Lib.hid (T10_26.out.keep KS27.out)
  clear T10_26
  have T15_27 := Lib.hid (T15_26.out.keep KS27.out)
  clear T15_26
  have T22_27 := Lib.hid (T22_26.out.keep KS27.out)
  clear T22_26
  have T23_27 := Lib.hid (T23_26.out.keep KS27.out)
  clear T23_26
  have T24_27 := Lib.hid (T24_26.out.keep KS27.out)
  clear T24_26
  have c0_27 := cell_keep KS27.out c0_26
  clear c0_26
  have c1_27 := cell_keep KS27.out c1_26
  clear c1_26
  have c2_27 := cell_keep KS27.out c2_26
  clear c2_26
  have c3_27 := cell_keep KS27.out c3_26
  clear c3_26
  have c4_27 := cell_keep KS27.out c4_26
  clear c4_26
  have c5_27 := cell_keep KS27.out c5_26
  clear c5_26
  have c6_27 := cell_keep KS27.out c6_26
  clear c6_26
  have c7_27 := cell_keep KS27.out c7_26
  clear c7_26
  have c8_27 := cell_keep KS27.out c8_26
  clear c8_26
  have c9_27 := cell_keep KS27.out c9_26
  clear c9_26
  have c10_27 := cell_keep KS27.out c10_26
  clear c10_26
  have c11_27 := cell_keep KS27.out c11_26
  clear c11_26
  have c12_27 := cell_keep KS27.out c12_26
  clear c12_26
  have c13_27 := cell_keep KS27.out c13_26
  clear c13_26
  have c14_27 := cell_keep KS27.out c14_26
  clear c14_26
  go_wp2_with fail
  go_ret
  exact ⟨rfl, K27.out⟩

set_option maxHeartbeats 1600000 in
theorem lawKeepRooted (v0 : Value) (l0 : RP) (v1 : Value) (l1 : List Int) (w : World) (r0 : RdR w v0 l0) (il0 : okR l0) (r1 : Ints w v1 l1) (il1 : ∀ n ∈ l1, I64 n) : Calls Try.prog 14 #[v0, v1] w fun e w' => e = .returned (.bool true) ∧ Below w.heap.size w w' := by
  by_cases s1 : l1.length ≤ 1048576
  case neg =>
    have R0 := Lib.hid r0
    obtain ⟨p0a2, p0c2, rfl⟩ := r0.shape
    have R1 := Lib.hid r1
    obtain ⟨ad1, cp1, rfl, _⟩ := r1.form
    clear r0 il0 r1 il1
    have hgt : (1048576 : Int) < (l1.length : Int) := by omega
    go_enter Try.func14, Try.ntmps14
    go_wp2
    go_ret
    exact ⟨rfl, (by repeat (first | exact Keeps.refl _ | with_reducible refine Keeps.alloc ?_ _))⟩
  by_cases q0 : szR l0 ≤ 1048576
  case neg =>
    have R0 := Lib.hid r0
    obtain ⟨p0a2, p0c2, rfl⟩ := r0.shape
    have R1 := Lib.hid r1
    obtain ⟨ad1, cp1, rfl, _⟩ := r1.form
    clear r0 il0 r1 il1
    have hle1 : ¬ (1048576 : Int) < (l1.length : Int) := by omega
    go_enter Try.func14, Try.ntmps14
    go_wp2_with fail
    refine (szRootedProblem_any _ l0 (1048576) _ (R0.out.keep (by repeat (first | exact Keeps.refl _ | with_reducible refine Keeps.alloc ?_ _))) (by omega) (by omega)).mono ?_
    rintro e W0 ⟨rfl, k0⟩
    rw [szL, if_neg (by omega)]
    have KK0 : Hid (Keeps w W0) := Keeps.trans (by repeat (first | exact Keeps.refl _ | with_reducible refine Keeps.alloc ?_ _)) k0
    obtain ⟨hc0, hf0⟩ := bcell k0
    have hz0 := k0.size
    clear k0
    go_wp2
    go_ret
    exact ⟨rfl, KK0.out⟩
  exact lawKeepRooted_small v0 l0 r0 il0 v1 l1 r1 il1 (by omega) s1
end Go.Proofs.Ytcjmpodljhcbhaa
