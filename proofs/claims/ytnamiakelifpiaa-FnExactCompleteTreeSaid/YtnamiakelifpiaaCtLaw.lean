/- The walk of laws.FnExactCompleteTree: it returns true at every input and changes nothing that was there. -/
import Derived.Test.YtnamiakelifpiaaCtEq
import Derived.Test.YtnamiakelifpiaaOpen
namespace Go.Proofs.Ytnamiakelifpiaa
open Go.RowKit
set_option linter.unusedSimpArgs false
set_option linter.unusedVariables false

theorem ct_eq (c d : Int) : ctImpl c d = ctSpec c d := by
  unfold ctImpl ctSpec
  by_cases h : (inB c 1 3 && inB d 0 200) = true
  · rw [if_pos h, if_pos h]
    simp only [Bool.and_eq_true, inB_true] at h
    obtain ⟨⟨h1, h2⟩, h3, h4⟩ := h
    obtain ⟨C, rfl⟩ := Int.eq_ofNat_of_zero_le (show 0 ≤ c by omega)
    obtain ⟨D, rfl⟩ := Int.eq_ofNat_of_zero_le h3
    simp only [Int.toNat_natCast]
    exact (ct_small D (by simp; omega) C (by simp; omega)).symm
  · rw [if_neg h, if_neg h]

set_option maxHeartbeats 1000000 in
theorem lawCompleteTree (c : Int) (hc : I64 c) (d : Int) (hd : I64 d) (w : World) :
    Calls Try.prog 3 #[.int .i64 c, .int .i64 d] w fun e w' => e = .returned (.bool true) ∧ Below w.heap.size w w' := by
  have HE := Lib.hid (ct_eq c d)
  go_enter Try.func3, Try.ntmps3
  go_wp2_with fail
  refine (specCompleteTree_any c d _).mono ?_
  rintro e w1 ⟨vw, rfl, ow, hlw, k1⟩
  generalize ctSpec c d = R at *
  have OW := Lib.hid ow
  have K1 := Lib.hid k1
  clear ow k1
  go_wp2_with fail
  refine (implCompleteTree_any c d _).mono ?_
  rw [HE.out]
  rintro e w2 ⟨vg, rfl, og, _, k2⟩
  generalize hL : R.getD [] = L at *
  have HL := Lib.hid hL
  clear hL
  have OG := Lib.hid og
  have OW2 := Lib.hid (OW.out.keep k2)
  have K2 := Lib.hid k2
  clear og k2
  go_wp2_with fail
  refine (eqIntS_any vg vw _ _ _ OG.out.ints OW2.out.ints).mono ?_
  rintro e w3 ⟨rfl, d3⟩
  have OG3 := Lib.hid (OG.out.keep d3.keeps)
  have OW3 := Lib.hid (OW2.out.keep d3.keeps)
  have K3 : Hid (Keeps w w3) := Keeps.trans (Keeps.trans K1.out K2.out) d3.keeps
  clear d3
  go_wp2_with fail
  refine (markIntS_any w1.heap.size vg L 1 w3 OG3.out (by omega) (by omega)).mono ?_
  rintro e w4 ⟨rfl, og4, g4⟩
  have OG4 := Lib.hid og4
  have OW4 := Lib.hid (OW3.out.kept g4 (Own.apart_old OW.out OG.out (Nat.le_refl _)))
  have K4 : Hid (Keeps w w4) := Below.grown K3.out g4 K3.out.size (fun k hk => Nat.le_trans K1.out.size (OG.out.lt k hk).1)
  clear og4 g4
  go_wp2_with fail
  refine (heldIntS_any vg L 1 w4 OG4.out.ints (by omega) (by omega)).mono ?_
  rintro e w4' ⟨rfl, rfl⟩
  go_wp2_with fail
  refine (implCompleteTree_any c d _).mono ?_
  rw [HE.out]
  rintro e w5 ⟨vh, rfl, oh, _, k5⟩
  rw [HL.out] at oh
  have OH := Lib.hid oh
  have K5 := Lib.hid k5
  clear oh k5
  go_wp2_with fail
  refine (eqIntS_any vh vw _ _ _ OH.out.ints (OW4.out.keep K5.out).ints).mono ?_
  rintro e w6 ⟨rfl, d6⟩
  have D6 := Lib.hid d6
  clear d6
  go_wp2_with fail
  refine (heldIntS_any vg L 1 w6 ((OG4.out.keep K5.out).keep D6.out.keeps).ints (by omega) (by omega)).mono ?_
  rintro e w6' ⟨rfl, rfl⟩
  go_wp2_with fail
  go_ret
  exact ⟨rfl, Keeps.trans (Keeps.trans K4.out K5.out) D6.out.keeps⟩
end Go.Proofs.Ytnamiakelifpiaa
