/- The walk of laws.FnExactIsRootedTree: it returns true at every input and changes nothing that was there. -/
import Derived.Test.YtnamiakelifpiaaTreeI
import Derived.Test.YtnamiakelifpiaaOpen
namespace Go.Proofs.Ytnamiakelifpiaa
open Go.RowKit
set_option linter.unusedSimpArgs false
set_option linter.unusedVariables false

set_option maxHeartbeats 2000000 in
theorem lawIsRootedTree_small {w : World} (a0 : Int) (ia0 : I64 a0) (v1 : Value) (l1 : List Int) (r1 : Ints w v1 l1) (il1 : ∀ n ∈ l1, I64 n) (s1 : l1.length ≤ 1048576) : Calls Try.prog 4 #[.int .i64 a0, v1] w fun e w' => e = .returned (.bool true) ∧ Below w.heap.size w w' := by
  have HE := Lib.hid (IsRootedTree_eq a0 l1 ia0 il1 s1)
  have R1 := Lib.hid r1
  have IL1 := Lib.hid il1
  obtain ⟨ad1, cp1, rfl, _⟩ := r1.form
  clear r1 il1
  have K0 : Hid (Keeps w w) := Keeps.refl w
  go_enter Try.func4, Try.ntmps4
  go_wp2_with fail
  refine (toIntS_any _ l1 _ (R1.out.keep K0.out) s1).mono ?_
  rintro e w1 ⟨t1, rfl, o1, k1⟩
  have T1 := Lib.hid o1
  clear o1
  have KS1 : Hid (Keeps w w1) := k1
  have K1 : Hid (Keeps w w1) := Keeps.trans K0.out KS1.out
  have Z1 : Hid (w.heap.size ≤ w1.heap.size) := KS1.out.size
  clear k1
  go_wp2_with fail
  refine (specIsRootedTree_any a0 t1 l1 _ ia0 T1.out.ints IL1.out s1).mono ?_
  rintro e w2 ⟨rfl, k2⟩
  generalize fIsRootedTreeSpec a0 l1 = R at *
  have KS2 : Hid (Keeps w1 w2) := k2
  have K2 : Hid (Keeps w w2) := Keeps.trans K1.out KS2.out
  have T1_2 := Lib.hid (T1.out.keep KS2.out)
  have Z2 : Hid (w1.heap.size ≤ w2.heap.size) := KS2.out.size
  clear k2
  go_wp2_with fail
  refine (toIntS_any _ l1 _ (R1.out.keep K2.out) s1).mono ?_
  rintro e w3 ⟨t3, rfl, o3, k3⟩
  have T3 := Lib.hid o3
  clear o3
  have KS3 : Hid (Keeps w2 w3) := k3
  have K3 : Hid (Keeps w w3) := Keeps.trans K2.out KS3.out
  have T1_3 := Lib.hid (T1_2.out.keep KS3.out)
  have Z3 : Hid (w2.heap.size ≤ w3.heap.size) := KS3.out.size
  clear k3
  go_wp2_with fail
  refine (implIsRootedTree_any a0 t3 l1 _ ia0 T3.out.ints IL1.out s1).mono ?_
  rw [HE.out]
  rintro e w4 ⟨rfl, k4⟩
  have KS4 : Hid (Keeps w3 w4) := k4
  have K4 : Hid (Keeps w w4) := Keeps.trans K3.out KS4.out
  have T1_4 := Lib.hid (T1_3.out.keep KS4.out)
  have T3_4 := Lib.hid (T3.out.keep KS4.out)
  have Z4 : Hid (w3.heap.size ≤ w4.heap.size) := KS4.out.size
  clear k4
  go_wp2_with fail
  refine (toIntS_any _ l1 _ (R1.out.keep K4.out) s1).mono ?_
  rintro e w5 ⟨t5, rfl, o5, k5⟩
  have T5 := Lib.hid o5
  clear o5
  have KS5 : Hid (Keeps w4 w5) := k5
  have K5 : Hid (Keeps w w5) := Keeps.trans K4.out KS5.out
  have T1_5 := Lib.hid (T1_4.out.keep KS5.out)
  have T3_5 := Lib.hid (T3_4.out.keep KS5.out)
  have Z5 : Hid (w4.heap.size ≤ w5.heap.size) := KS5.out.size
  clear k5
  go_wp2_with fail
  refine (eqIntS_any t3 t5 _ _ _ T3_5.out.ints T5.out.ints).mono ?_
  rintro e w6 ⟨rfl, d6⟩
  have KS6 : Hid (Keeps w5 w6) := d6.keeps
  have K6 : Hid (Keeps w w6) := Keeps.trans K5.out KS6.out
  have T1_6 := Lib.hid (T1_5.out.keep KS6.out)
  have T3_6 := Lib.hid (T3_5.out.keep KS6.out)
  have T5_6 := Lib.hid (T5.out.keep KS6.out)
  have Z6 : Hid (w5.heap.size ≤ w6.heap.size) := KS6.out.size
  clear d6
  go_wp2_with fail
  go_ret
  exact ⟨rfl, K6.out⟩

set_option maxHeartbeats 400000 in
theorem lawIsRootedTree (a0 : Int) (ia0 : I64 a0) (v1 : Value) (l1 : List Int) (w : World) (r1 : Ints w v1 l1) (il1 : ∀ n ∈ l1, I64 n) : Calls Try.prog 4 #[.int .i64 a0, v1] w fun e w' => e = .returned (.bool true) ∧ Below w.heap.size w w' := by
  by_cases s1 : l1.length ≤ 1048576
  case neg =>
    obtain ⟨ad1, cp1, rfl, _⟩ := r1.form
    clear r1 il1
    have hgt : (1048576 : Int) < (l1.length : Int) := by omega
    go_enter Try.func4, Try.ntmps4
    go_wp2
    go_ret
    exact ⟨rfl, Below.refl _ _⟩
  exact lawIsRootedTree_small a0 ia0 v1 l1 r1 il1 s1
end Go.Proofs.Ytnamiakelifpiaa
