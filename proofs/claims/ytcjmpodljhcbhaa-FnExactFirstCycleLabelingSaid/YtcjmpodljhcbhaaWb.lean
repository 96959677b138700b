/- The contracts of both WalkBetween functions. -/
import Derived.Test.YtcjmpodljhcbhaaBtwI
namespace Go.Proofs.Ytcjmpodljhcbhaa
open Go.RowKit
set_option linter.unusedSimpArgs false
set_option linter.unusedVariables false

theorem Ints.lit2 (w : World) (p q : Int) : Ints (w.alloc (.cells #[.int .i64 p, .int .i64 q] 3)) (.slice (some ⟨w.heap.size, 0, none⟩) 2 2) [p, q] := by
  have h := World.ownsRow_lit (base := w.heap.size) (e := 3) (size := 1) w #[.int .i64 p, .int .i64 q] 2 (Nat.le_refl _) (by simp [maxLen]) rfl
  exact Own.ints (B := w.heap.size) (by unfold Own; simpa using h)
def fWalkBetweenSpec (x : WP) (a b k : Int) : Option (List Int) := if walkGood x && (allIn [a, b] 0 (x.labels - 1) && inB k 0 199) then fBtw x.labels.toNat x.arcs a.toNat b.toNat k.toNat else none
def fWalkBetweenImpl (x : WP) (a b k : Int) : Option (List Int) := fWalkBetweenSpec x a b k
theorem WalkBetween_eq (x : WP) (a b k : Int) (ok : okW x) (hs : szW x ≤ 1048576) (ia : I64 a) (ib : I64 b) (ik : I64 k) : fWalkBetweenImpl x a b k = fWalkBetweenSpec x a b k := rfl
theorem allIn2 {a b lo hi : Int} (h : allIn [a, b] lo hi = true) : (lo ≤ a ∧ a ≤ hi) ∧ lo ≤ b ∧ b ≤ hi := ⟨allIn_mem h a (by simp), allIn_mem h b (by simp)⟩
theorem fBtw_len {n : Nat} {arcs : List (List Int)} {a b k : Nat} (hk : k ≤ 500) : ((fBtw n arcs a b k).getD []).length ≤ 1000000000 := by
  unfold fBtw
  split
  · simp only [Option.getD_some]; rw [btwL_length]; omega
  · simp

set_option maxRecDepth 100000 in
set_option maxHeartbeats 4000000 in
theorem specWalkBetween_any (v : Value) (x : WP) (a b k : Int) (w : World) (h : RdW w v x) (ok : okW x) (hs : szW x ≤ 1048576) (ia : I64 a) (ib : I64 b) (ik : I64 k) :
    Calls Try.prog 40 #[v, .int .i64 a, .int .i64 b, .int .i64 k] w (RetSB w (fWalkBetweenSpec x a b k)) := by
  obtain ⟨v1, rfl, r1⟩ := h
  have R1 := Lib.hid r1
  obtain ⟨a1, c1, rfl, m1, _⟩ := r1.form
  clear r1 ok ia ib ik
  have HF : Hid (fWalkBetweenSpec x a b k = if walkGood x && (allIn [a, b] 0 (x.labels - 1) && inB k 0 199) then fBtw x.labels.toNat x.arcs a.toNat b.toNat k.toNat else none) := rfl
  have K0 : Hid (Keeps w (w.alloc (.cells #[.int .i64 x.labels, .slice a1 x.arcs.length c1] 27))) := (Keeps.refl _).alloc _
  have C0 : Hid ((w.alloc (.cells #[.int .i64 x.labels, .slice a1 x.arcs.length c1] 27)).cell? ⟨w.heap.size, 0, none⟩ = some (.int .i64 x.labels)) := by show _ = _; rw [World.cell?_alloc_at _ _ _ _ rfl]; rfl
  have C1 : Hid ((w.alloc (.cells #[.int .i64 x.labels, .slice a1 x.arcs.length c1] 27)).cell? ⟨w.heap.size, 1, none⟩ = some (.slice a1 x.arcs.length c1)) := by show _ = _; rw [World.cell?_alloc_at _ _ _ _ rfl]; rfl
  cases hg : walkGood x
  · have HG := Lib.hid hg
    clear hg
    go_enter Try.func40, Try.ntmps40
    go_wp2_with fail
    refine (waGood_any _ x _ ⟨_, rfl, R1.out.keep K0.out⟩).mono ?_
    rintro e w1 ⟨rfl, hk⟩
    rw [HG.out]
    have HK1 := Lib.hid (Keeps.trans K0.out hk)
    have D0 := cell_keep hk C0.out
    have D1 := cell_keep hk C1.out
    clear hk
    go_wp2
    go_ret2
    rw [show fWalkBetweenSpec x a b k = none by rw [HF.out, HG.out]; rfl]
    exact RetSB.none HK1.out
  have HG := Lib.hid hg
  obtain ⟨b1, b2, _⟩ := walkGood_arc hg
  clear hg
  cases hal : allIn [a, b] 0 (x.labels - 1)
  · have HAL := Lib.hid hal
    clear hal
    go_enter Try.func40, Try.ntmps40
    go_wp2_with fail
    refine (waGood_any _ x _ ⟨_, rfl, R1.out.keep K0.out⟩).mono ?_
    rintro e w1 ⟨rfl, hk⟩
    rw [HG.out]
    have HK1 := Lib.hid (Keeps.trans K0.out hk)
    have D0 := cell_keep hk C0.out
    have D1 := cell_keep hk C1.out
    clear hk
    have HKA : Hid (Keeps w1 (w1.alloc (.cells #[.int .i64 a, .int .i64 b] 3))) := (Keeps.refl _).alloc _
    have HI2 := Lib.hid (Ints.lit2 w1 a b)
    have G0 := cell_keep HKA.out D0
    have G1 := cell_keep HKA.out D1
    go_wp2_with fail
    refine (l1All_any _ [a, b] _ _ _ HI2.out).mono ?_
    rintro e w2 ⟨rfl, hw2⟩
    subst hw2
    rw [HAL.out]
    have HK2 := Lib.hid (Keeps.trans HK1.out HKA.out)
    go_wp2
    go_ret2
    rw [show fWalkBetweenSpec x a b k = none by rw [HF.out, HG.out, HAL.out]; rfl]
    exact RetSB.none HK2.out
  have HAL := Lib.hid hal
  obtain ⟨⟨ba1, ba2⟩, bb1, bb2⟩ := allIn2 hal
  clear hal
  cases hb : inB k 0 199
  · have HB := Lib.hid hb
    clear hb
    go_enter Try.func40, Try.ntmps40
    go_wp2_with fail
    refine (waGood_any _ x _ ⟨_, rfl, R1.out.keep K0.out⟩).mono ?_
    rintro e w1 ⟨rfl, hk⟩
    rw [HG.out]
    have HK1 := Lib.hid (Keeps.trans K0.out hk)
    have D0 := cell_keep hk C0.out
    have D1 := cell_keep hk C1.out
    clear hk
    have HKA : Hid (Keeps w1 (w1.alloc (.cells #[.int .i64 a, .int .i64 b] 3))) := (Keeps.refl _).alloc _
    have HI2 := Lib.hid (Ints.lit2 w1 a b)
    have G0 := cell_keep HKA.out D0
    have G1 := cell_keep HKA.out D1
    go_wp2_with fail
    refine (l1All_any _ [a, b] _ _ _ HI2.out).mono ?_
    rintro e w2 ⟨rfl, hw2⟩
    subst hw2
    rw [HAL.out]
    have HK2 := Lib.hid (Keeps.trans HK1.out HKA.out)
    go_wp2_with (go_at_call 65; refine (l1In_any _ _ _ _).mono ?_; rintro e w' ⟨rfl, rfl⟩; rw [HB.out])
    go_ret2
    rw [show fWalkBetweenSpec x a b k = none by rw [HF.out, HG.out, HAL.out, HB.out]; rfl]
    exact RetSB.none HK2.out
  have HB := Lib.hid hb
  obtain ⟨bk1, bk2⟩ := inB_true.1 hb
  clear hb
  have HF2 : Hid (fWalkBetweenSpec x a b k = fBtw x.labels.toNat x.arcs a.toNat b.toNat k.toNat) := by show _ = _; rw [HF.out, HG.out, HAL.out, HB.out]; rfl
  clear HF
  obtain ⟨a', rfl⟩ := Int.eq_ofNat_of_zero_le ba1
  obtain ⟨b', rfl⟩ := Int.eq_ofNat_of_zero_le bb1
  obtain ⟨k', rfl⟩ := Int.eq_ofNat_of_zero_le bk1
  simp only [Int.toNat_natCast] at HF2
  go_enter Try.func40, Try.ntmps40
  go_wp2_with fail
  refine (waGood_any _ x _ ⟨_, rfl, R1.out.keep K0.out⟩).mono ?_
  rintro e w1 ⟨rfl, hk⟩
  rw [HG.out]
  have HK1 := Lib.hid (Keeps.trans K0.out hk)
  have D0 := cell_keep hk C0.out
  have D1 := cell_keep hk C1.out
  clear hk
  have HKA : Hid (Keeps w1 (w1.alloc (.cells #[.int .i64 (a' : Int), .int .i64 (b' : Int)] 3))) := (Keeps.refl _).alloc _
  have HI2 := Lib.hid (Ints.lit2 w1 a' b')
  have G0 := cell_keep HKA.out D0
  have G1 := cell_keep HKA.out D1
  go_wp2_with fail
  refine (l1All_any _ [(a' : Int), (b' : Int)] _ _ _ HI2.out).mono ?_
  rintro e w2 ⟨rfl, hw2⟩
  subst hw2
  rw [HAL.out]
  have HK2 := Lib.hid (Keeps.trans HK1.out HKA.out)
  go_wp2_with (first | (go_at_call 65; refine (l1In_any _ _ _ _).mono ?_; rintro e w' ⟨rfl, rfl⟩; rw [HB.out]) | (go_at_call 78; refine (waBetween_any _ x a' b' k' _ ⟨_, rfl, R1.out.keep HK2.out⟩ HG.out (by omega) (by omega) (by omega)).mono ?_; rintro e w3 ⟨rv, rfl, hO, hl, hk3⟩; have HO := Lib.hid hO; have HL := Lib.hid hl; have HK3 := Lib.hid hk3; clear hO hl hk3))
  go_ret2
  rw [HF2.out]
  exact ⟨_, rfl, HO.out.mono HK2.out.size, HL.out, Keeps.trans HK2.out HK3.out⟩


set_option maxRecDepth 100000 in
set_option maxHeartbeats 4000000 in
theorem implWalkBetween_any (v : Value) (x : WP) (a b k : Int) (w : World) (h : RdW w v x) (ok : okW x) (hs : szW x ≤ 1048576) (ia : I64 a) (ib : I64 b) (ik : I64 k) :
    Calls Try.prog 41 #[v, .int .i64 a, .int .i64 b, .int .i64 k] w (RetSB w (fWalkBetweenImpl x a b k)) := by
  obtain ⟨v1, rfl, r1⟩ := h
  have R1 := Lib.hid r1
  obtain ⟨a1, c1, rfl, m1, _⟩ := r1.form
  clear r1 ok ia ib ik
  have HF : Hid (fWalkBetweenImpl x a b k = if walkGood x && (allIn [a, b] 0 (x.labels - 1) && inB k 0 199) then fBtw x.labels.toNat x.arcs a.toNat b.toNat k.toNat else none) := rfl
  have K0 : Hid (Keeps w (w.alloc (.cells #[.int .i64 x.labels, .slice a1 x.arcs.length c1] 27))) := (Keeps.refl _).alloc _
  have C0 : Hid ((w.alloc (.cells #[.int .i64 x.labels, .slice a1 x.arcs.length c1] 27)).cell? ⟨w.heap.size, 0, none⟩ = some (.int .i64 x.labels)) := by show _ = _; rw [World.cell?_alloc_at _ _ _ _ rfl]; rfl
  have C1 : Hid ((w.alloc (.cells #[.int .i64 x.labels, .slice a1 x.arcs.length c1] 27)).cell? ⟨w.heap.size, 1, none⟩ = some (.slice a1 x.arcs.length c1)) := by show _ = _; rw [World.cell?_alloc_at _ _ _ _ rfl]; rfl
  cases hg : walkGood x
  · have HG := Lib.hid hg
    clear hg
    go_enter Try.func41, Try.ntmps41
    go_wp2_with fail
    refine (isWalkI_any _ x _ ⟨_, rfl, R1.out.keep K0.out⟩).mono ?_
    rintro e w1 ⟨rfl, hk⟩
    rw [HG.out]
    have HK1 := Lib.hid (Keeps.trans K0.out hk)
    have D0 := cell_keep hk C0.out
    have D1 := cell_keep hk C1.out
    clear hk
    go_wp2
    go_ret2
    rw [show fWalkBetweenImpl x a b k = none by rw [HF.out, HG.out]; rfl]
    exact RetSB.none HK1.out
  have HG := Lib.hid hg
  obtain ⟨b1, b2, _⟩ := walkGood_arc hg
  clear hg
  cases hal : allIn [a, b] 0 (x.labels - 1)
  · have HAL := Lib.hid hal
    clear hal
    go_enter Try.func41, Try.ntmps41
    go_wp2_with fail
    refine (isWalkI_any _ x _ ⟨_, rfl, R1.out.keep K0.out⟩).mono ?_
    rintro e w1 ⟨rfl, hk⟩
    rw [HG.out]
    have HK1 := Lib.hid (Keeps.trans K0.out hk)
    have D0 := cell_keep hk C0.out
    have D1 := cell_keep hk C1.out
    clear hk
    have HKA : Hid (Keeps w1 (w1.alloc (.cells #[.int .i64 a, .int .i64 b] 3))) := (Keeps.refl _).alloc _
    have HI2 := Lib.hid (Ints.lit2 w1 a b)
    have G0 := cell_keep HKA.out D0
    have G1 := cell_keep HKA.out D1
    go_wp2_with fail
    refine (hasLabelsW_any _ x _ [a, b] _ ⟨_, rfl, R1.out.keep (Keeps.trans HK1.out HKA.out)⟩ HI2.out b1 b2).mono ?_
    rintro e w2 ⟨rfl, hk⟩
    rw [HAL.out]
    have HK2 := Lib.hid (Keeps.trans HK1.out (Keeps.trans HKA.out hk))
    have E0 := cell_keep hk G0
    have E1 := cell_keep hk G1
    clear hk
    go_wp2
    go_ret2
    rw [show fWalkBetweenImpl x a b k = none by rw [HF.out, HG.out, HAL.out]; rfl]
    exact RetSB.none HK2.out
  have HAL := Lib.hid hal
  obtain ⟨⟨ba1, ba2⟩, bb1, bb2⟩ := allIn2 hal
  clear hal
  cases hb : inB k 0 199
  · have HB := Lib.hid hb
    clear hb
    go_enter Try.func41, Try.ntmps41
    go_wp2_with fail
    refine (isWalkI_any _ x _ ⟨_, rfl, R1.out.keep K0.out⟩).mono ?_
    rintro e w1 ⟨rfl, hk⟩
    rw [HG.out]
    have HK1 := Lib.hid (Keeps.trans K0.out hk)
    have D0 := cell_keep hk C0.out
    have D1 := cell_keep hk C1.out
    clear hk
    have HKA : Hid (Keeps w1 (w1.alloc (.cells #[.int .i64 a, .int .i64 b] 3))) := (Keeps.refl _).alloc _
    have HI2 := Lib.hid (Ints.lit2 w1 a b)
    have G0 := cell_keep HKA.out D0
    have G1 := cell_keep HKA.out D1
    go_wp2_with fail
    refine (hasLabelsW_any _ x _ [a, b] _ ⟨_, rfl, R1.out.keep (Keeps.trans HK1.out HKA.out)⟩ HI2.out b1 b2).mono ?_
    rintro e w2 ⟨rfl, hk⟩
    rw [HAL.out]
    have HK2 := Lib.hid (Keeps.trans HK1.out (Keeps.trans HKA.out hk))
    have E0 := cell_keep hk G0
    have E1 := cell_keep hk G1
    clear hk
    go_wp2_with (go_at_call 56; refine (within_any _ _ _ _).mono ?_; rintro e w' ⟨rfl, rfl⟩; rw [HB.out])
    go_ret2
    rw [show fWalkBetweenImpl x a b k = none by rw [HF.out, HG.out, HAL.out, HB.out]; rfl]
    exact RetSB.none HK2.out
  have HB := Lib.hid hb
  obtain ⟨bk1, bk2⟩ := inB_true.1 hb
  clear hb
  have HF2 : Hid (fWalkBetweenImpl x a b k = fBtw x.labels.toNat x.arcs a.toNat b.toNat k.toNat) := by show _ = _; rw [HF.out, HG.out, HAL.out, HB.out]; rfl
  clear HF
  obtain ⟨a', rfl⟩ := Int.eq_ofNat_of_zero_le ba1
  obtain ⟨b', rfl⟩ := Int.eq_ofNat_of_zero_le bb1
  obtain ⟨k', rfl⟩ := Int.eq_ofNat_of_zero_le bk1
  simp only [Int.toNat_natCast] at HF2
  have hnn := fun (w : World) (a : Option Addr) (n c : Nat) => run_neq_slice_nil_any (P := Try.prog) w 43 3 a n c 0 0 Try.underlying43
  have HLn : Hid (((fBtw x.labels.toNat x.arcs a' b' k').getD []).length ≤ 1000000000) := fBtw_len (by omega)
  cases hfb : fBtw x.labels.toNat x.arcs a' b' k'
  · have HFB := Lib.hid hfb
    clear hfb
    go_enter Try.func41, Try.ntmps41
    go_wp2_with fail
    refine (isWalkI_any _ x _ ⟨_, rfl, R1.out.keep K0.out⟩).mono ?_
    rintro e w1 ⟨rfl, hk⟩
    rw [HG.out]
    have HK1 := Lib.hid (Keeps.trans K0.out hk)
    have D0 := cell_keep hk C0.out
    have D1 := cell_keep hk C1.out
    clear hk
    have HKA : Hid (Keeps w1 (w1.alloc (.cells #[.int .i64 (a' : Int), .int .i64 (b' : Int)] 3))) := (Keeps.refl _).alloc _
    have HI2 := Lib.hid (Ints.lit2 w1 a' b')
    have G0 := cell_keep HKA.out D0
    have G1 := cell_keep HKA.out D1
    go_wp2_with fail
    refine (hasLabelsW_any _ x _ [(a' : Int), (b' : Int)] _ ⟨_, rfl, R1.out.keep (Keeps.trans HK1.out HKA.out)⟩ HI2.out b1 b2).mono ?_
    rintro e w2 ⟨rfl, hk⟩
    rw [HAL.out]
    have HK2 := Lib.hid (Keeps.trans HK1.out (Keeps.trans HKA.out hk))
    have E0 := cell_keep hk G0
    have E1 := cell_keep hk G1
    clear hk
    go_wp2_with (first | (go_at_call 56; refine (within_any _ _ _ _).mono ?_; rintro e w' ⟨rfl, rfl⟩; rw [HB.out]) | (go_at_call 79; have hcc := walkBetweenM_any (.agg #[.int .i64 x.labels, .slice a1 x.arcs.length c1]) x a' b' k' w2 ⟨_, rfl, R1.out.keep HK2.out⟩ HG.out (by omega) (by omega) (by omega); rw [HFB.out] at hcc; refine hcc.mono ?_; clear hcc; rintro e w3 ⟨rfl, hk3⟩; have HK3 := Lib.hid hk3; clear hk3))
    go_ret2
    rw [HF2.out, HFB.out]
    exact RetSB.none (Keeps.trans HK2.out HK3.out)
  · rename_i l
    have HFB := Lib.hid hfb
    have HLP : Hid (0 < l.length ∧ l.length ≤ 1000000000) := by
      show _ ∧ _
      have h9 := HLn.out
      rw [hfb] at h9
      refine ⟨?_, h9⟩
      unfold fBtw at hfb
      split at hfb
      · injection hfb with e; rw [← e, btwL_length]; omega
      · cases hfb
    clear hfb
    go_enter Try.func41, Try.ntmps41
    go_wp2_with fail
    refine (isWalkI_any _ x _ ⟨_, rfl, R1.out.keep K0.out⟩).mono ?_
    rintro e w1 ⟨rfl, hk⟩
    rw [HG.out]
    have HK1 := Lib.hid (Keeps.trans K0.out hk)
    have D0 := cell_keep hk C0.out
    have D1 := cell_keep hk C1.out
    clear hk
    have HKA : Hid (Keeps w1 (w1.alloc (.cells #[.int .i64 (a' : Int), .int .i64 (b' : Int)] 3))) := (Keeps.refl _).alloc _
    have HI2 := Lib.hid (Ints.lit2 w1 a' b')
    have G0 := cell_keep HKA.out D0
    have G1 := cell_keep HKA.out D1
    go_wp2_with fail
    refine (hasLabelsW_any _ x _ [(a' : Int), (b' : Int)] _ ⟨_, rfl, R1.out.keep (Keeps.trans HK1.out HKA.out)⟩ HI2.out b1 b2).mono ?_
    rintro e w2 ⟨rfl, hk⟩
    rw [HAL.out]
    have HK2 := Lib.hid (Keeps.trans HK1.out (Keeps.trans HKA.out hk))
    have E0 := cell_keep hk G0
    have E1 := cell_keep hk G1
    clear hk
    go_wp2_with (first | (go_at_call 56; refine (within_any _ _ _ _).mono ?_; rintro e w' ⟨rfl, rfl⟩; rw [HB.out]) | (go_at_call 79; have hcc := walkBetweenM_any (.agg #[.int .i64 x.labels, .slice a1 x.arcs.length c1]) x a' b' k' w2 ⟨_, rfl, R1.out.keep HK2.out⟩ HG.out (by omega) (by omega) (by omega); rw [HFB.out] at hcc; refine hcc.mono ?_; clear hcc; rintro e w3 ⟨rv, rfl, hO, hk3⟩; have HO := Lib.hid hO; have HK3 := Lib.hid hk3; obtain ⟨rg, rc, rfl, -⟩ := hO.form HLP.out.1; clear hO hk3))
    go_ret2
    rw [HF2.out, HFB.out]
    exact ⟨_, rfl, HO.out.mono HK2.out.size, HLP.out.2, Keeps.trans HK2.out HK3.out⟩
end Go.Proofs.Ytcjmpodljhcbhaa
