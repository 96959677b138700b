/- The walk of laws.FnExactSameOrderPair: it returns true at every input and changes nothing that was there. -/
import Derived.Test.YtabclfacjaeblaaOwc
import Derived.Test.YtabclfacjaeblaaRng
import Derived.Test.YtabclfacjaeblaaOpen
import Derived.Deep.RegionHeld3
namespace Go.Proofs.Ytabclfacjaeblaa
open Go.RowKit
set_option linter.unusedSimpArgs false
set_option linter.unusedVariables false

set_option maxRecDepth 100000 in
set_option maxHeartbeats 8000000 in
theorem lawSameOrderPair_small {w : World} (v0 : Value) (l0 : List Int) (r0 : Ints w v0 l0) (il0 : ∀ n ∈ l0, I64 n) (a1 : Int) (ia1 : I64 a1) (s0 : l0.length ≤ 1048576) : Calls Try.prog 9 #[v0, .int .i64 a1] w fun e w' => e = .returned (.bool true) ∧ Below w.heap.size w w' := by
  have HE := Lib.hid (SameOrderPair_eq l0 a1 il0 s0 ia1)
  have R0 := Lib.hid r0
  have IL0 := Lib.hid il0
  obtain ⟨ad0, cp0, rfl, _⟩ := r0.form
  clear r0 il0
  have K0 : Hid (Keeps w w) := Keeps.refl w
  go_enter Try.func9, Try.ntmps9
  go_wp2_with fail
  refine (toIntS_any _ l0 _ (R0.out.keep K0.out) s0).mono ?_
  rintro e w1 ⟨t1, rfl, o1, k1⟩
  have T1 := Lib.hid o1.owI
  clear o1
  have KS1 : Hid (Keeps w w1) := k1
  clear k1
  have K1 : Hid (Keeps w w1) := Keeps.trans K0.out KS1.out
  have Z1 : Hid (w.heap.size ≤ w1.heap.size) := KS1.out.size
  go_wp2_with fail
  refine (specSameOrderPair_any t1 l0 a1 _ (T1.out.ints) IL0.out s0 ia1).mono ?_
  rintro e w2 ⟨rfl, k2⟩
  generalize fSameOrderPairSpec l0 a1 = R at *
  obtain ⟨Ra, Rb⟩ := R
  simp only at HE ⊢
  have KS2 : Hid (Keeps w1 w2) := k2
  clear k2
  have K2 : Hid (Keeps w w2) := Keeps.trans K1.out KS2.out
  have Z2 : Hid (w1.heap.size ≤ w2.heap.size) := KS2.out.size
  have T1_2 := Lib.hid (T1.out.keep KS2.out)
  clear T1
  go_wp2_with fail
  refine (toIntS_any _ l0 _ (R0.out.keep K2.out) s0).mono ?_
  rintro e w3 ⟨t3, rfl, o3, k3⟩
  have T3 := Lib.hid o3.owI
  clear o3
  have KS3 : Hid (Keeps w2 w3) := k3
  clear k3
  have K3 : Hid (Keeps w w3) := Keeps.trans K2.out KS3.out
  have Z3 : Hid (w2.heap.size ≤ w3.heap.size) := KS3.out.size
  have T1_3 := Lib.hid (T1_2.out.keep KS3.out)
  clear T1_2
  go_wp2_with fail
  refine (implSameOrderPair_any t3 l0 a1 _ (T3.out.ints) IL0.out s0 ia1).mono ?_
  rw [HE.out]
  rintro e w4 ⟨rfl, k4⟩
  have KS4 : Hid (Keeps w3 w4) := k4
  clear k4
  have K4 : Hid (Keeps w w4) := Keeps.trans K3.out KS4.out
  have Z4 : Hid (w3.heap.size ≤ w4.heap.size) := KS4.out.size
  have T1_4 := Lib.hid (T1_3.out.keep KS4.out)
  clear T1_3
  have T3_4 := Lib.hid (T3.out.keep KS4.out)
  clear T3
  go_wp2_with fail
  refine (toIntS_any _ l0 _ (R0.out.keep K4.out) s0).mono ?_
  rintro e w5 ⟨t5, rfl, o5, k5⟩
  have T5 := Lib.hid o5.owI
  clear o5
  have KS5 : Hid (Keeps w4 w5) := k5
  clear k5
  have K5 : Hid (Keeps w w5) := Keeps.trans K4.out KS5.out
  have Z5 : Hid (w4.heap.size ≤ w5.heap.size) := KS5.out.size
  have T1_5 := Lib.hid (T1_4.out.keep KS5.out)
  clear T1_4
  have T3_5 := Lib.hid (T3_4.out.keep KS5.out)
  clear T3_4
  go_wp2_with fail
  refine (eqIntS_any t3 t5 _ _ _ (T3_5.out.ints) (T5.out.ints)).mono ?_
  rintro e w6 ⟨rfl, d6⟩
  have KS6 : Hid (Keeps w5 w6) := d6.keeps
  clear d6
  have K6 : Hid (Keeps w w6) := Keeps.trans K5.out KS6.out
  have Z6 : Hid (w5.heap.size ≤ w6.heap.size) := KS6.out.size
  have T1_6 := Lib.hid (T1_5.out.keep KS6.out)
  clear T1_5
  have T3_6 := Lib.hid (T3_5.out.keep KS6.out)
  clear T3_5
  have T5_6 := Lib.hid (T5.out.keep KS6.out)
  clear T5
  go_wp2_with fail
  go_ret
  exact ⟨rfl, K6.out⟩

set_option maxHeartbeats 1600000 in
theorem lawSameOrderPair (v0 : Value) (l0 : List Int) (a1 : Int) (ia1 : I64 a1) (w : World) (r0 : Ints w v0 l0) (il0 : ∀ n ∈ l0, I64 n) : Calls Try.prog 9 #[v0, .int .i64 a1] w fun e w' => e = .returned (.bool true) ∧ Below w.heap.size w w' := by
  by_cases s0 : l0.length ≤ 1048576
  case neg =>
    have R0 := Lib.hid r0
    obtain ⟨ad0, cp0, rfl, _⟩ := r0.form
    clear r0 il0
    have hgt : (1048576 : Int) < (l0.length : Int) := by omega
    go_enter Try.func9, Try.ntmps9
    go_wp2
    go_ret
    exact ⟨rfl, (by repeat (first | exact Keeps.refl _ | with_reducible refine Keeps.alloc ?_ _))⟩
  exact lawSameOrderPair_small v0 l0 r0 il0 a1 ia1 s0
end Go.Proofs.Ytabclfacjaeblaa
