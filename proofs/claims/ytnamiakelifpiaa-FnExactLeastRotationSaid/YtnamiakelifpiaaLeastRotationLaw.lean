/- The walk of laws.FnExactLeastRotation: it returns true at every input and changes nothing that was there. -/
import Derived.Test.YtnamiakelifpiaaRot
import Derived.Test.YtnamiakelifpiaaOpen
namespace Go.Proofs.Ytnamiakelifpiaa
open Go.RowKit
set_option linter.unusedSimpArgs false
set_option linter.unusedVariables false

set_option maxHeartbeats 2000000 in
theorem lawLeastRotation_small {w : World} (v0 : Value) (l0 : List Int) (r0 : Ints w v0 l0) (il0 : ∀ n ∈ l0, I64 n) (s0 : l0.length ≤ 1048576) : Calls Try.prog 7 #[v0] w fun e w' => e = .returned (.bool true) ∧ Below w.heap.size w w' := by
  have HE := Lib.hid (LeastRotation_eq l0 il0 s0)
  have R0 := Lib.hid r0
  have IL0 := Lib.hid il0
  obtain ⟨ad0, cp0, rfl, _⟩ := r0.form
  clear r0 il0
  have K0 : Hid (Keeps w w) := Keeps.refl w
  go_enter Try.func7, Try.ntmps7
  go_wp2_with fail
  refine (toIntS_any _ l0 _ (R0.out.keep K0.out) s0).mono ?_
  rintro e w1 ⟨t1, rfl, o1, k1⟩
  have T1 := Lib.hid o1
  clear o1
  have KS1 : Hid (Keeps w w1) := k1
  have K1 : Hid (Keeps w w1) := Keeps.trans K0.out KS1.out
  have Z1 : Hid (w.heap.size ≤ w1.heap.size) := KS1.out.size
  clear k1
  go_wp2_with fail
  refine (specLeastRotation_any t1 l0 _ T1.out.ints IL0.out s0).mono ?_
  rintro e w2 ⟨x2, rfl, o2, b2, k2⟩
  generalize fLeastRotationSpec l0 = R at *
  generalize hL : R.getD [] = L at *
  have HL := Lib.hid hL
  clear hL
  have BL : L.length ≤ 1000000000 := b2
  have X2 := Lib.hid o2
  clear o2 b2
  have KS2 : Hid (Keeps w1 w2) := k2
  have K2 : Hid (Keeps w w2) := Keeps.trans K1.out KS2.out
  have T1_2 := Lib.hid (T1.out.keep KS2.out)
  have Z2 : Hid (w1.heap.size ≤ w2.heap.size) := KS2.out.size
  clear k2
  go_wp2_with fail
  refine (toIntS_any _ l0 _ (R0.out.keep K2.out) s0).mono ?_
  rintro e w3 ⟨t3, rfl, o3, k3⟩
  have T3 := Lib.hid o3
  clear o3
  have KS3 : Hid (Keeps w2 w3) := k3
  have K3 : Hid (Keeps w w3) := Keeps.trans K2.out KS3.out
  have T1_3 := Lib.hid (T1_2.out.keep KS3.out)
  have X2_3 := Lib.hid (X2.out.keep KS3.out)
  have Z3 : Hid (w2.heap.size ≤ w3.heap.size) := KS3.out.size
  clear k3
  go_wp2_with fail
  refine (implLeastRotation_any t3 l0 _ T3.out.ints IL0.out s0).mono ?_
  rw [HE.out]
  rintro e w4 ⟨x4, rfl, o4, b4, k4⟩
  rw [HL.out] at o4
  have X4 := Lib.hid o4
  clear o4 b4
  have KS4 : Hid (Keeps w3 w4) := k4
  have K4 : Hid (Keeps w w4) := Keeps.trans K3.out KS4.out
  have T1_4 := Lib.hid (T1_3.out.keep KS4.out)
  have X2_4 := Lib.hid (X2_3.out.keep KS4.out)
  have T3_4 := Lib.hid (T3.out.keep KS4.out)
  have Z4 : Hid (w3.heap.size ≤ w4.heap.size) := KS4.out.size
  clear k4
  go_wp2_with fail
  refine (eqIntS_any x4 x2 _ _ _ X4.out.ints X2_4.out.ints).mono ?_
  rintro e w5 ⟨rfl, d5⟩
  have KS5 : Hid (Keeps w4 w5) := d5.keeps
  have K5 : Hid (Keeps w w5) := Keeps.trans K4.out KS5.out
  have T1_5 := Lib.hid (T1_4.out.keep KS5.out)
  have X2_5 := Lib.hid (X2_4.out.keep KS5.out)
  have T3_5 := Lib.hid (T3_4.out.keep KS5.out)
  have X4_5 := Lib.hid (X4.out.keep KS5.out)
  have Z5 : Hid (w4.heap.size ≤ w5.heap.size) := KS5.out.size
  clear d5
  go_wp2_with fail
  refine (toIntS_any _ l0 _ (R0.out.keep K5.out) s0).mono ?_
  rintro e w6 ⟨t6, rfl, o6, k6⟩
  have T6 := Lib.hid o6
  clear o6
  have KS6 : Hid (Keeps w5 w6) := k6
  have K6 : Hid (Keeps w w6) := Keeps.trans K5.out KS6.out
  have T1_6 := Lib.hid (T1_5.out.keep KS6.out)
  have X2_6 := Lib.hid (X2_5.out.keep KS6.out)
  have T3_6 := Lib.hid (T3_5.out.keep KS6.out)
  have X4_6 := Lib.hid (X4_5.out.keep KS6.out)
  have Z6 : Hid (w5.heap.size ≤ w6.heap.size) := KS6.out.size
  clear k6
  go_wp2_with fail
  refine (eqIntS_any t3 t6 _ _ _ T3_6.out.ints T6.out.ints).mono ?_
  rintro e w7 ⟨rfl, d7⟩
  have KS7 : Hid (Keeps w6 w7) := d7.keeps
  have K7 : Hid (Keeps w w7) := Keeps.trans K6.out KS7.out
  have T1_7 := Lib.hid (T1_6.out.keep KS7.out)
  have X2_7 := Lib.hid (X2_6.out.keep KS7.out)
  have T3_7 := Lib.hid (T3_6.out.keep KS7.out)
  have X4_7 := Lib.hid (X4_6.out.keep KS7.out)
  have T6_7 := Lib.hid (T6.out.keep KS7.out)
  have Z7 : Hid (w6.heap.size ≤ w7.heap.size) := KS7.out.size
  clear d7
  go_wp2_with fail
  refine (markIntS_any w2.heap.size t3 l0 1 _ T3_7.out (by omega) (by omega)).mono ?_
  rintro e w8 ⟨rfl, o8, g8⟩
  have K8 : Hid (Keeps w w8) := Below.grown K7.out g8 K7.out.size (fun k hk => by have := (T3.out.lt k hk).1; have := Z1.out; have := Z2.out; have := Z3.out; have := Z4.out; have := Z5.out; have := Z6.out; have := Z7.out; omega)
  have T1_8 := Lib.hid (T1_7.out.kept g8 (Own.apart_old T1.out T3.out (by have := Z1.out; have := Z2.out; have := Z3.out; have := Z4.out; have := Z5.out; have := Z6.out; have := Z7.out; omega)))
  have X2_8 := Lib.hid (X2_7.out.kept g8 (Own.apart_old X2.out T3.out (by have := Z1.out; have := Z2.out; have := Z3.out; have := Z4.out; have := Z5.out; have := Z6.out; have := Z7.out; omega)))
  have X4_8 := Lib.hid (X4_7.out.kept g8 (Own.apart_old T3.out X4.out (by have := Z1.out; have := Z2.out; have := Z3.out; have := Z4.out; have := Z5.out; have := Z6.out; have := Z7.out; omega)).symm)
  have T6_8 := Lib.hid (T6_7.out.kept g8 (Own.apart_old T3.out T6.out (by have := Z1.out; have := Z2.out; have := Z3.out; have := Z4.out; have := Z5.out; have := Z6.out; have := Z7.out; omega)).symm)
  have Z8 : Hid (w7.heap.size ≤ w8.heap.size) := g8.size
  have T3_8 := Lib.hid o8
  clear o8 g8
  go_wp2_with fail
  refine (eqIntS_any x4 x2 _ _ _ X4_8.out.ints X2_8.out.ints).mono ?_
  rintro e w9 ⟨rfl, d9⟩
  have KS9 : Hid (Keeps w8 w9) := d9.keeps
  have K9 : Hid (Keeps w w9) := Keeps.trans K8.out KS9.out
  have T1_9 := Lib.hid (T1_8.out.keep KS9.out)
  have X2_9 := Lib.hid (X2_8.out.keep KS9.out)
  have T3_9 := Lib.hid (T3_8.out.keep KS9.out)
  have X4_9 := Lib.hid (X4_8.out.keep KS9.out)
  have T6_9 := Lib.hid (T6_8.out.keep KS9.out)
  have Z9 : Hid (w8.heap.size ≤ w9.heap.size) := KS9.out.size
  clear d9
  go_wp2_with fail
  refine (markIntS_any w3.heap.size x4 L 1 _ X4_9.out (by omega) (by omega)).mono ?_
  rintro e w10 ⟨rfl, o10, g10⟩
  have K10 : Hid (Keeps w w10) := Below.grown K9.out g10 K9.out.size (fun k hk => by have := (X4.out.lt k hk).1; have := Z1.out; have := Z2.out; have := Z3.out; have := Z4.out; have := Z5.out; have := Z6.out; have := Z7.out; have := Z8.out; have := Z9.out; omega)
  have T1_10 := Lib.hid (T1_9.out.kept g10 (Own.apart_old T1.out X4.out (by have := Z1.out; have := Z2.out; have := Z3.out; have := Z4.out; have := Z5.out; have := Z6.out; have := Z7.out; have := Z8.out; have := Z9.out; omega)))
  have X2_10 := Lib.hid (X2_9.out.kept g10 (Own.apart_old X2.out X4.out (by have := Z1.out; have := Z2.out; have := Z3.out; have := Z4.out; have := Z5.out; have := Z6.out; have := Z7.out; have := Z8.out; have := Z9.out; omega)))
  have T3_10 := Lib.hid (T3_9.out.kept g10 (Own.apart_old T3.out X4.out (by have := Z1.out; have := Z2.out; have := Z3.out; have := Z4.out; have := Z5.out; have := Z6.out; have := Z7.out; have := Z8.out; have := Z9.out; omega)))
  have T6_10 := Lib.hid (T6_9.out.kept g10 (Own.apart_old X4.out T6.out (by have := Z1.out; have := Z2.out; have := Z3.out; have := Z4.out; have := Z5.out; have := Z6.out; have := Z7.out; have := Z8.out; have := Z9.out; omega)).symm)
  have Z10 : Hid (w9.heap.size ≤ w10.heap.size) := g10.size
  have X4_10 := Lib.hid o10
  clear o10 g10
  go_wp2_with fail
  refine (heldIntS_any x4 L 1 _ X4_10.out.ints (by omega) (by omega)).mono ?_
  rintro e wh ⟨rfl, rfl⟩
  go_wp2_with fail
  refine (toIntS_any _ l0 _ (R0.out.keep K10.out) s0).mono ?_
  rintro e w11 ⟨t11, rfl, o11, k11⟩
  have T11 := Lib.hid o11
  clear o11
  have KS11 : Hid (Keeps w10 w11) := k11
  have K11 : Hid (Keeps w w11) := Keeps.trans K10.out KS11.out
  have T1_11 := Lib.hid (T1_10.out.keep KS11.out)
  have X2_11 := Lib.hid (X2_10.out.keep KS11.out)
  have T3_11 := Lib.hid (T3_10.out.keep KS11.out)
  have X4_11 := Lib.hid (X4_10.out.keep KS11.out)
  have T6_11 := Lib.hid (T6_10.out.keep KS11.out)
  have Z11 : Hid (w10.heap.size ≤ w11.heap.size) := KS11.out.size
  clear k11
  go_wp2_with fail
  refine (implLeastRotation_any t11 l0 _ T11.out.ints IL0.out s0).mono ?_
  rw [HE.out]
  rintro e w12 ⟨x12, rfl, o12, b12, k12⟩
  rw [HL.out] at o12
  have X12 := Lib.hid o12
  clear o12 b12
  have KS12 : Hid (Keeps w11 w12) := k12
  have K12 : Hid (Keeps w w12) := Keeps.trans K11.out KS12.out
  have T1_12 := Lib.hid (T1_11.out.keep KS12.out)
  have X2_12 := Lib.hid (X2_11.out.keep KS12.out)
  have T3_12 := Lib.hid (T3_11.out.keep KS12.out)
  have X4_12 := Lib.hid (X4_11.out.keep KS12.out)
  have T6_12 := Lib.hid (T6_11.out.keep KS12.out)
  have T11_12 := Lib.hid (T11.out.keep KS12.out)
  have Z12 : Hid (w11.heap.size ≤ w12.heap.size) := KS12.out.size
  clear k12
  go_wp2_with fail
  refine (eqIntS_any x12 x2 _ _ _ X12.out.ints X2_12.out.ints).mono ?_
  rintro e w13 ⟨rfl, d13⟩
  have KS13 : Hid (Keeps w12 w13) := d13.keeps
  have K13 : Hid (Keeps w w13) := Keeps.trans K12.out KS13.out
  have T1_13 := Lib.hid (T1_12.out.keep KS13.out)
  have X2_13 := Lib.hid (X2_12.out.keep KS13.out)
  have T3_13 := Lib.hid (T3_12.out.keep KS13.out)
  have X4_13 := Lib.hid (X4_12.out.keep KS13.out)
  have T6_13 := Lib.hid (T6_12.out.keep KS13.out)
  have T11_13 := Lib.hid (T11_12.out.keep KS13.out)
  have X12_13 := Lib.hid (X12.out.keep KS13.out)
  have Z13 : Hid (w12.heap.size ≤ w13.heap.size) := KS13.out.size
  clear d13
  go_wp2_with fail
  refine (heldIntS_any x4 L 1 _ X4_13.out.ints (by omega) (by omega)).mono ?_
  rintro e wh ⟨rfl, rfl⟩
  go_wp2_with fail
  go_ret
  exact ⟨rfl, K13.out⟩

set_option maxHeartbeats 400000 in
theorem lawLeastRotation (v0 : Value) (l0 : List Int) (w : World) (r0 : Ints w v0 l0) (il0 : ∀ n ∈ l0, I64 n) : Calls Try.prog 7 #[v0] w fun e w' => e = .returned (.bool true) ∧ Below w.heap.size w w' := by
  by_cases s0 : l0.length ≤ 1048576
  case neg =>
    obtain ⟨ad0, cp0, rfl, _⟩ := r0.form
    clear r0 il0
    have hgt : (1048576 : Int) < (l0.length : Int) := by omega
    go_enter Try.func7, Try.ntmps7
    go_wp2
    go_ret
    exact ⟨rfl, Below.refl _ _⟩
  exact lawLeastRotation_small v0 l0 r0 il0 s0
end Go.Proofs.Ytnamiakelifpiaa
