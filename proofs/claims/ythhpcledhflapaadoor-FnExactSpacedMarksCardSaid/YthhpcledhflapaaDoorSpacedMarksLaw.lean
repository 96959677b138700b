/- The walk of laws.FnExactSpacedMarks: it returns true at every input and changes nothing that was there. -/
import Derived.Test.YthhpcledhflapaaDoorTcg
import Derived.Test.YthhpcledhflapaaDoorOpen
import Derived.Deep.RegionHeld3
namespace Go.Proofs.YthhpcledhflapaaDoor
open Go.RowKit
set_option linter.unusedSimpArgs false
set_option linter.unusedVariables false

set_option maxRecDepth 100000 in
set_option maxHeartbeats 8000000 in
theorem lawSpacedMarks_small {w : World} (v0 : Value) (l0 : List Int) (r0 : Ints w v0 l0) (il0 : ∀ n ∈ l0, I64 n) (a1 : Int) (ia1 : I64 a1) (s0 : l0.length ≤ 1048576) (hTab : TabAt 0 Lib.deBruijn64tab w) : Calls Tryd.prog 5 #[v0, .int .i64 a1] w fun e w' => e = .returned (.bool true) ∧ Below w.heap.size w w' := by
  have HTAB := Lib.hid hTab
  clear hTab
  have HE := Lib.hid (SpacedMarks_eq l0 a1 il0 s0 ia1)
  have R0 := Lib.hid r0
  have IL0 := Lib.hid il0
  obtain ⟨ad0, cp0, rfl, _⟩ := r0.form
  clear r0 il0
  have K0 : Hid (Keeps w w) := Keeps.refl w
  go_enter Tryd.func5, Tryd.ntmps5
  go_wp2_with fail
  refine (toIntS_any _ l0 _ (R0.out.keep K0.out) s0).mono ?_
  rintro e w1 ⟨t1, rfl, o1, k1⟩
  have T1 := Lib.hid o1.owI
  clear o1
  have KS1 : Hid (Keeps w w1) := k1
  clear k1
  have K1 : Hid (Keeps w w1) := Keeps.trans K0.out KS1.out
  have Z1 : Hid (w.heap.size ≤ w1.heap.size) := KS1.out.size
  go_wp2_with fail
  refine (specSpacedMarks_any t1 l0 a1 _ (T1.out.ints) IL0.out s0 ia1).mono ?_
  rintro e w2 ⟨x2, rfl, o2, b2, k2⟩
  generalize fSpacedMarksSpec l0 a1 = R at *
  generalize hL : R.getD [] = L at *
  have HL := Lib.hid hL
  clear hL
  have BL : L.length ≤ 1000000000 := b2
  have T2 := Lib.hid o2.owI
  clear o2 b2
  have KS2 : Hid (Keeps w1 w2) := k2
  clear k2
  have K2 : Hid (Keeps w w2) := Keeps.trans K1.out KS2.out
  have Z2 : Hid (w1.heap.size ≤ w2.heap.size) := KS2.out.size
  have T1_2 := Lib.hid (T1.out.keep KS2.out)
  clear T1
  go_wp2_with fail
  refine (toIntS_any _ l0 _ (R0.out.keep K2.out) s0).mono ?_
  rintro e w3 ⟨t3, rfl, o3, k3⟩
  have T3 := Lib.hid o3.owI
  clear o3
  have KS3 : Hid (Keeps w2 w3) := k3
  clear k3
  have K3 : Hid (Keeps w w3) := Keeps.trans K2.out KS3.out
  have Z3 : Hid (w2.heap.size ≤ w3.heap.size) := KS3.out.size
  have T1_3 := Lib.hid (T1_2.out.keep KS3.out)
  clear T1_2
  have T2_3 := Lib.hid (T2.out.keep KS3.out)
  clear T2
  go_wp2_with fail
  refine (implSpacedMarks_any t3 l0 a1 _ (T3.out.ints) IL0.out s0 ia1 (tab_keep HTAB.out K3.out)).mono ?_
  rw [HE.out]
  rintro e w4 ⟨x4, rfl, o4, b4, k4⟩
  rw [HL.out] at o4
  have T4 := Lib.hid o4.owI
  clear o4 b4
  have KS4 : Hid (Keeps w3 w4) := k4
  clear k4
  have K4 : Hid (Keeps w w4) := Keeps.trans K3.out KS4.out
  have Z4 : Hid (w3.heap.size ≤ w4.heap.size) := KS4.out.size
  have T1_4 := Lib.hid (T1_3.out.keep KS4.out)
  clear T1_3
  have T2_4 := Lib.hid (T2_3.out.keep KS4.out)
  clear T2_3
  have T3_4 := Lib.hid (T3.out.keep KS4.out)
  clear T3
  go_wp2_with fail
  refine (eqIntS_any x4 x2 _ _ _ (T4.out.ints) (T2_4.out.ints)).mono ?_
  rintro e w5 ⟨rfl, d5⟩
  have KS5 : Hid (Keeps w4 w5) := d5.keeps
  clear d5
  have K5 : Hid (Keeps w w5) := Keeps.trans K4.out KS5.out
  have Z5 : Hid (w4.heap.size ≤ w5.heap.size) := KS5.out.size
  have T1_5 := Lib.hid (T1_4.out.keep KS5.out)
  clear T1_4
  have T2_5 := Lib.hid (T2_4.out.keep KS5.out)
  clear T2_4
  have T3_5 := Lib.hid (T3_4.out.keep KS5.out)
  clear T3_4
  have T4_5 := Lib.hid (T4.out.keep KS5.out)
  clear T4
  go_wp2_with fail
  refine (toIntS_any _ l0 _ (R0.out.keep K5.out) s0).mono ?_
  rintro e w6 ⟨t6, rfl, o6, k6⟩
  have T6 := Lib.hid o6.owI
  clear o6
  have KS6 : Hid (Keeps w5 w6) := k6
  clear k6
  have K6 : Hid (Keeps w w6) := Keeps.trans K5.out KS6.out
  have Z6 : Hid (w5.heap.size ≤ w6.heap.size) := KS6.out.size
  have T1_6 := Lib.hid (T1_5.out.keep KS6.out)
  clear T1_5
  have T2_6 := Lib.hid (T2_5.out.keep KS6.out)
  clear T2_5
  have T3_6 := Lib.hid (T3_5.out.keep KS6.out)
  clear T3_5
  have T4_6 := Lib.hid (T4_5.out.keep KS6.out)
  clear T4_5
  go_wp2_with fail
  refine (eqIntS_any t3 t6 _ _ _ (T3_6.out.ints) (T6.out.ints)).mono ?_
  rintro e w7 ⟨rfl, d7⟩
  have KS7 : Hid (Keeps w6 w7) := d7.keeps
  clear d7
  have K7 : Hid (Keeps w w7) := Keeps.trans K6.out KS7.out
  have Z7 : Hid (w6.heap.size ≤ w7.heap.size) := KS7.out.size
  have T1_7 := Lib.hid (T1_6.out.keep KS7.out)
  clear T1_6
  have T2_7 := Lib.hid (T2_6.out.keep KS7.out)
  clear T2_6
  have T3_7 := Lib.hid (T3_6.out.keep KS7.out)
  clear T3_6
  have T4_7 := Lib.hid (T4_6.out.keep KS7.out)
  clear T4_6
  have T6_7 := Lib.hid (T6.out.keep KS7.out)
  clear T6
  go_wp2_with fail
  refine (markIntS_any w2.heap.size t3 l0 1 _ T3_7.out.own (by omega) (by omega)).mono ?_
  rintro e w8 ⟨rfl, o8, g8⟩
  have G8 : Hid (Chg w2.heap.size w3.heap.size w7 w8) := Chg.of_grown g8 fun q hq => ⟨(T3_7.out.own.lt q hq).1, T3_7.out.hi q hq⟩
  have T3_8 : Hid (OwI w2.heap.size w3.heap.size w8 t3 (iota 1 l0.length)) := ⟨o8, T3_7.out.hi⟩
  clear o8 g8 T3_7
  have Z8 : Hid (w7.heap.size ≤ w8.heap.size) := G8.out.size
  have K8 : Hid (Keeps w w8) := G8.out.keeps K7.out (by have := Z1.out; have := Z2.out; have := Z3.out; have := Z4.out; have := Z5.out; have := Z6.out; have := Z7.out; have := Z8.out; omega)
  have T1_8 := Lib.hid (T1_7.out.chg G8.out (by have := Z1.out; have := Z2.out; have := Z3.out; have := Z4.out; have := Z5.out; have := Z6.out; have := Z7.out; have := Z8.out; omega))
  clear T1_7
  have T2_8 := Lib.hid (T2_7.out.chg G8.out (by have := Z1.out; have := Z2.out; have := Z3.out; have := Z4.out; have := Z5.out; have := Z6.out; have := Z7.out; have := Z8.out; omega))
  clear T2_7
  have T4_8 := Lib.hid (T4_7.out.chg G8.out (by have := Z1.out; have := Z2.out; have := Z3.out; have := Z4.out; have := Z5.out; have := Z6.out; have := Z7.out; have := Z8.out; omega))
  clear T4_7
  have T6_8 := Lib.hid (T6_7.out.chg G8.out (by have := Z1.out; have := Z2.out; have := Z3.out; have := Z4.out; have := Z5.out; have := Z6.out; have := Z7.out; have := Z8.out; omega))
  clear T6_7
  go_wp2_with fail
  refine (eqIntS_any x4 x2 _ _ _ (T4_8.out.ints) (T2_8.out.ints)).mono ?_
  rintro e w9 ⟨rfl, d9⟩
  have KS9 : Hid (Keeps w8 w9) := d9.keeps
  clear d9
  have K9 : Hid (Keeps w w9) := Keeps.trans K8.out KS9.out
  have Z9 : Hid (w8.heap.size ≤ w9.heap.size) := KS9.out.size
  have T1_9 := Lib.hid (T1_8.out.keep KS9.out)
  clear T1_8
  have T2_9 := Lib.hid (T2_8.out.keep KS9.out)
  clear T2_8
  have T3_9 := Lib.hid (T3_8.out.keep KS9.out)
  clear T3_8
  have T4_9 := Lib.hid (T4_8.out.keep KS9.out)
  clear T4_8
  have T6_9 := Lib.hid (T6_8.out.keep KS9.out)
  clear T6_8
  go_wp2_with fail
  refine (markIntS_any w3.heap.size x4 L 1 _ T4_9.out.own (by omega) (by omega)).mono ?_
  rintro e w10 ⟨rfl, o10, g10⟩
  have G10 : Hid (Chg w3.heap.size w4.heap.size w9 w10) := Chg.of_grown g10 fun q hq => ⟨(T4_9.out.own.lt q hq).1, T4_9.out.hi q hq⟩
  have T4_10 : Hid (OwI w3.heap.size w4.heap.size w10 x4 (iota 1 L.length)) := ⟨o10, T4_9.out.hi⟩
  clear o10 g10 T4_9
  have Z10 : Hid (w9.heap.size ≤ w10.heap.size) := G10.out.size
  have K10 : Hid (Keeps w w10) := G10.out.keeps K9.out (by have := Z1.out; have := Z2.out; have := Z3.out; have := Z4.out; have := Z5.out; have := Z6.out; have := Z7.out; have := Z8.out; have := Z9.out; have := Z10.out; omega)
  have T1_10 := Lib.hid (T1_9.out.chg G10.out (by have := Z1.out; have := Z2.out; have := Z3.out; have := Z4.out; have := Z5.out; have := Z6.out; have := Z7.out; have := Z8.out; have := Z9.out; have := Z10.out; omega))
  clear T1_9
  have T2_10 := Lib.hid (T2_9.out.chg G10.out (by have := Z1.out; have := Z2.out; have := Z3.out; have := Z4.out; have := Z5.out; have := Z6.out; have := Z7.out; have := Z8.out; have := Z9.out; have := Z10.out; omega))
  clear T2_9
  have T3_10 := Lib.hid (T3_9.out.chg G10.out (by have := Z1.out; have := Z2.out; have := Z3.out; have := Z4.out; have := Z5.out; have := Z6.out; have := Z7.out; have := Z8.out; have := Z9.out; have := Z10.out; omega))
  clear T3_9
  have T6_10 := Lib.hid (T6_9.out.chg G10.out (by have := Z1.out; have := Z2.out; have := Z3.out; have := Z4.out; have := Z5.out; have := Z6.out; have := Z7.out; have := Z8.out; have := Z9.out; have := Z10.out; omega))
  clear T6_9
  go_wp2_with fail
  refine (heldIntS_any x4 L 1 _ (T4_10.out.ints) (by omega) (by omega)).mono ?_
  rintro e wh ⟨rfl, rfl⟩
  go_wp2_with fail
  refine (toIntS_any _ l0 _ (R0.out.keep K10.out) s0).mono ?_
  rintro e w11 ⟨t11, rfl, o11, k11⟩
  have T11 := Lib.hid o11.owI
  clear o11
  have KS11 : Hid (Keeps w10 w11) := k11
  clear k11
  have K11 : Hid (Keeps w w11) := Keeps.trans K10.out KS11.out
  have Z11 : Hid (w10.heap.size ≤ w11.heap.size) := KS11.out.size
  have T1_11 := Lib.hid (T1_10.out.keep KS11.out)
  clear T1_10
  have T2_11 := Lib.hid (T2_10.out.keep KS11.out)
  clear T2_10
  have T3_11 := Lib.hid (T3_10.out.keep KS11.out)
  clear T3_10
  have T4_11 := Lib.hid (T4_10.out.keep KS11.out)
  clear T4_10
  have T6_11 := Lib.hid (T6_10.out.keep KS11.out)
  clear T6_10
  go_wp2_with fail
  refine (implSpacedMarks_any t11 l0 a1 _ (T11.out.ints) IL0.out s0 ia1 (tab_keep HTAB.out K11.out)).mono ?_
  rw [HE.out]
  rintro e w12 ⟨x12, rfl, o12, b12, k12⟩
  rw [HL.out] at o12
  have T12 := Lib.hid o12.owI
  clear o12 b12
  have KS12 : Hid (Keeps w11 w12) := k12
  clear k12
  have K12 : Hid (Keeps w w12) := Keeps.trans K11.out KS12.out
  have Z12 : Hid (w11.heap.size ≤ w12.heap.size) := KS12.out.size
  have T1_12 := Lib.hid (T1_11.out.keep KS12.out)
  clear T1_11
  have T2_12 := Lib.hid (T2_11.out.keep KS12.out)
  clear T2_11
  have T3_12 := Lib.hid (T3_11.out.keep KS12.out)
  clear T3_11
  have T4_12 := Lib.hid (T4_11.out.keep KS12.out)
  clear T4_11
  have T6_12 := Lib.hid (T6_11.out.keep KS12.out)
  clear T6_11
  have T11_12 := Lib.hid (T11.out.keep KS12.out)
  clear T11
  go_wp2_with fail
  refine (eqIntS_any x12 x2 _ _ _ (T12.out.ints) (T2_12.out.ints)).mono ?_
  rintro e w13 ⟨rfl, d13⟩
  have KS13 : Hid (Keeps w12 w13) := d13.keeps
  clear d13
  have K13 : Hid (Keeps w w13) := Keeps.trans K12.out KS13.out
  have Z13 : Hid (w12.heap.size ≤ w13.heap.size) := KS13.out.size
  have T1_13 := Lib.hid (T1_12.out.keep KS13.out)
  clear T1_12
  have T2_13 := Lib.hid (T2_12.out.keep KS13.out)
  clear T2_12
  have T3_13 := Lib.hid (T3_12.out.keep KS13.out)
  clear T3_12
  have T4_13 := Lib.hid (T4_12.out.keep KS13.out)
  clear T4_12
  have T6_13 := Lib.hid (T6_12.out.keep KS13.out)
  clear T6_12
  have T11_13 := Lib.hid (T11_12.out.keep KS13.out)
  clear T11_12
  have T12_13 := Lib.hid (T12.out.keep KS13.out)
  clear T12
  go_wp2_with fail
  refine (heldIntS_any x4 L 1 _ (T4_13.out.ints) (by omega) (by omega)).mono ?_
  rintro e wh ⟨rfl, rfl⟩
  go_wp2_with fail
  go_ret
  exact ⟨rfl, K13.out⟩

set_option maxHeartbeats 1600000 in
theorem lawSpacedMarks (v0 : Value) (l0 : List Int) (a1 : Int) (ia1 : I64 a1) (w : World) (r0 : Ints w v0 l0) (il0 : ∀ n ∈ l0, I64 n) (hTab : TabAt 0 Lib.deBruijn64tab w) : Calls Tryd.prog 5 #[v0, .int .i64 a1] w fun e w' => e = .returned (.bool true) ∧ Below w.heap.size w w' := by
  by_cases s0 : l0.length ≤ 1048576
  case neg =>
    have R0 := Lib.hid r0
    obtain ⟨ad0, cp0, rfl, _⟩ := r0.form
    clear r0 il0
    have hgt : (1048576 : Int) < (l0.length : Int) := by omega
    go_enter Tryd.func5, Tryd.ntmps5
    go_wp2
    go_ret
    exact ⟨rfl, (by repeat (first | exact Keeps.refl _ | with_reducible refine Keeps.alloc ?_ _))⟩
  exact lawSpacedMarks_small v0 l0 r0 il0 a1 ia1 s0 hTab
end Go.Proofs.YthhpcledhflapaaDoor
