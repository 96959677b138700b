/- The contracts of both SolvableLengths functions, and that they answer alike. -/
import Derived.Test.YtcjmpodljhcbhaaPow
namespace Go.Proofs.Ytcjmpodljhcbhaa
open Go.RowKit
set_option linter.unusedSimpArgs false
set_option linter.unusedVariables false

/-! ### Powers and reached sets -/
def powB (n : Nat) (arcs : List (List Int)) (k a b : Nat) : Bool := ((powM n arcs k).getD a []).getD b false
theorem powB_zero (n : Nat) (arcs : List (List Int)) (a b : Nat) (ha : a < n) (hb : b < n) : powB n arcs 0 a b = decide (a = b) := by
  unfold powB
  rw [powM, idM_row _ _ _ ha]
  simp [hb, ha]
theorem powB_succ (n : Nat) (arcs : List (List Int)) (k a b : Nat) (ha : a < n) (hb : b < n) : powB n arcs (k + 1) a b = (List.range n).any fun c => powB n arcs k a c && mayB arcs arcs.length c b := by
  unfold powB
  rw [powM, timesM_row _ _ _ _ (by rw [powM_length]; exact ha), compL_getD _ _ _ _ _ hb, tm]
  rw [Bool.eq_iff_iff, List.any_eq_true, List.any_eq_true]
  constructor
  · rintro ⟨c, hc, h⟩
    refine ⟨c, hc, ?_⟩
    rw [mayM_get _ _ _ _ _ (by simpa using hc) hb] at h
    exact h
  · rintro ⟨c, hc, h⟩
    refine ⟨c, hc, ?_⟩
    rw [mayM_get _ _ _ _ _ (by simpa using hc) hb]
    exact h
theorem foldl_or_test (f : Int → Nat) (l : List Int) (s b : Nat) : (l.foldl (fun s y => s ||| f y) s).testBit b = (s.testBit b || l.any fun y => (f y).testBit b) := by
  induction l generalizing s with
  | nil => simp
  | cons y l ih => rw [List.foldl_cons, ih, Nat.testBit_or, List.any_cons, Bool.or_assoc]
theorem rch_test {x : WP} (h : walkGood x = true) {n : Nat} (hn : x.labels = n) (a : Nat) (ha : a < n) : ∀ (k b : Nat), b < n → (rch x.arcs n a k).testBit b = powB n x.arcs k a b
  | 0, b, hb => by
    rw [powB_zero _ _ _ _ ha hb, rch, Nat.testBit_two_pow]
  | k + 1, b, hb => by
    rw [powB_succ _ _ _ _ _ ha hb, rch, nxt, List.take_length, foldl_or_test]
    simp only [Nat.zero_testBit, Bool.false_or]
    rw [Bool.eq_iff_iff, List.any_eq_true, List.any_eq_true]
    constructor
    · rintro ⟨y, hy, hyb⟩
      obtain ⟨c, rfl, hc, ht⟩ := mem_labs.1 hy
      refine ⟨c, by simpa using hc, ?_⟩
      rw [Bool.and_eq_true, ← rch_test h hn a ha k c hc]
      exact ⟨ht, by rw [← aft_may _ _ _ _ (arcs_pairs h)]; simpa using hyb⟩
    · rintro ⟨c, hc, hh⟩
      have hc' : c < n := by simpa using hc
      rw [Bool.and_eq_true, ← rch_test h hn a ha k c hc', ← aft_may _ _ _ _ (arcs_pairs h)] at hh
      exact ⟨(c : Int), mem_labs.2 ⟨c, rfl, hc', hh.1⟩, by simpa using hh.2⟩

/-- The lengths from 1 on with a property. -/
def lens (p : Nat → Bool) (j : Nat) : List Int := ((List.range j).filter fun k => decide (0 < k) && p k).map fun k : Nat => (k : Int)
theorem lens_succ (p : Nat → Bool) (j : Nat) : lens p (j + 1) = if decide (0 < j) && p j then lens p j ++ [(j : Int)] else lens p j := by
  unfold lens
  rw [List.range_succ, List.filter_append]
  by_cases h : (decide (0 < j) && p j) = true
  · rw [if_pos h]; simp [h]
  · rw [if_neg h]
    have : (decide (0 < j) && p j) = false := by simpa using h
    simp [this]
theorem lens_length (p : Nat → Bool) (j : Nat) : (lens p j).length ≤ j := by
  unfold lens
  rw [List.length_map]
  exact Nat.le_trans (List.length_filter_le _ _) (by simp)
def solvS (n : Nat) (arcs : List (List Int)) (k : Nat) : Bool := closedB (powM n arcs k) n
def solvI (n : Nat) (arcs : List (List Int)) (a k : Nat) : Bool := (List.range a).any fun a => (rch arcs n a k).testBit a
def fSolvableLengthsSpec (x : WP) (m : Int) : Option (List Int) := if walkGood x && inB m 0 60 then some (lens (solvS x.labels.toNat x.arcs) (m.toNat + 1)) else none
def fSolvableLengthsImpl (x : WP) (m : Int) : Option (List Int) := if walkGood x && inB m 0 60 then some (lens (solvI x.labels.toNat x.arcs x.labels.toNat) (m.toNat + 1)) else none
theorem lens_congr {p q : Nat → Bool} (h : ∀ k, p k = q k) (j : Nat) : lens p j = lens q j := by unfold lens; simp only [h]
theorem SolvableLengths_eq (x : WP) (m : Int) (ok : okW x) (hs : szW x ≤ 1048576) (hm : I64 m) : fSolvableLengthsImpl x m = fSolvableLengthsSpec x m := by
  unfold fSolvableLengthsImpl fSolvableLengthsSpec
  cases h : walkGood x
  · rfl
  · simp only [Bool.true_and]
    congr 2
    apply lens_congr
    intro k
    obtain ⟨b1, b2, _⟩ := walkGood_arc h
    unfold solvS solvI closedB
    rw [Bool.eq_iff_iff, List.any_eq_true, List.any_eq_true]
    constructor
    · rintro ⟨a, ha, hh⟩
      refine ⟨a, ha, ?_⟩
      have ha' : a < x.labels.toNat := by simpa using ha
      rw [rch_test h (n := x.labels.toNat) (by omega) a ha' k a ha'] at hh
      exact hh
    · rintro ⟨a, ha, hh⟩
      refine ⟨a, ha, ?_⟩
      have ha' : a < x.labels.toNat := by simpa using ha
      rw [rch_test h (n := x.labels.toNat) (by omega) a ha' k a ha']
      exact hh

set_option maxRecDepth 100000 in
set_option maxHeartbeats 4000000 in
theorem specSolvableLengths_any (v : Value) (x : WP) (k : Int) (w : World) (h : RdW w v x) (ok : okW x) (hs : szW x ≤ 1048576) (hk0 : I64 k) :
    Calls Try.prog 35 #[v, .int .i64 k] w (RetSB w (fSolvableLengthsSpec x k)) := by
  obtain ⟨v1, rfl, r1⟩ := h
  have R1 := Lib.hid r1
  obtain ⟨a1, c1, rfl, m1, _⟩ := r1.form
  clear r1 ok hk0
  have HF : Hid (fSolvableLengthsSpec x k = if walkGood x && inB k 0 60 then some (lens (solvS x.labels.toNat x.arcs) (k.toNat + 1)) else none) := rfl
  have K0 : Hid (Keeps w (w.alloc (.cells #[.int .i64 x.labels, .slice a1 x.arcs.length c1] 27))) := (Keeps.refl _).alloc _
  have C0 : Hid ((w.alloc (.cells #[.int .i64 x.labels, .slice a1 x.arcs.length c1] 27)).cell? ⟨w.heap.size, 0, none⟩ = some (.int .i64 x.labels)) := by show _ = _; rw [World.cell?_alloc_at _ _ _ _ rfl]; rfl
  have C1 : Hid ((w.alloc (.cells #[.int .i64 x.labels, .slice a1 x.arcs.length c1] 27)).cell? ⟨w.heap.size, 1, none⟩ = some (.slice a1 x.arcs.length c1)) := by show _ = _; rw [World.cell?_alloc_at _ _ _ _ rfl]; rfl
  cases hg : walkGood x
  · have HG := Lib.hid hg
    clear hg
    go_enter Try.func35, Try.ntmps35
    go_wp2_with fail
    refine (waGood_any _ x _ ⟨_, rfl, R1.out.keep K0.out⟩).mono ?_
    rintro e w1 ⟨rfl, hk⟩
    rw [HG.out]
    have HK1 := Lib.hid (Keeps.trans K0.out hk)
    have D0 := cell_keep hk C0.out
    have D1 := cell_keep hk C1.out
    clear hk
    go_wp2
    go_ret2
    rw [show fSolvableLengthsSpec x k = none by rw [HF.out, HG.out]; rfl]
    exact RetSB.none HK1.out
  have HG := Lib.hid hg
  obtain ⟨b1, b2, _⟩ := walkGood_arc hg
  clear hg
  cases hb : inB k 0 60
  · have HB := Lib.hid hb
    clear hb
    go_enter Try.func35, Try.ntmps35
    go_wp2_with fail
    refine (waGood_any _ x _ ⟨_, rfl, R1.out.keep K0.out⟩).mono ?_
    rintro e w1 ⟨rfl, hk⟩
    rw [HG.out]
    have HK1 := Lib.hid (Keeps.trans K0.out hk)
    have D0 := cell_keep hk C0.out
    have D1 := cell_keep hk C1.out
    clear hk
    go_wp2_with (go_at_call 65; refine (l1In_any _ _ _ _).mono ?_; rintro e w' ⟨rfl, rfl⟩; rw [HB.out])
    go_ret2
    rw [show fSolvableLengthsSpec x k = none by rw [HF.out, HG.out, HB.out]; rfl]
    exact RetSB.none HK1.out
  have HB := Lib.hid hb
  obtain ⟨bk1, bk2⟩ := inB_true.1 hb
  clear hb
  obtain ⟨kk, rfl⟩ := Int.eq_ofNat_of_zero_le (show 0 ≤ k by omega)
  obtain ⟨n, hn⟩ : ∃ n : Nat, x.labels = n := ⟨x.labels.toNat, by omega⟩
  have HN := Lib.hid hn
  have HNN : Hid (x.labels.toNat = n) := by show _ = _; omega
  have hn12 : n ≤ 12 := by omega
  have hn1 : 1 ≤ n := by omega
  clear hn
  have HF2 : Hid (fSolvableLengthsSpec x kk = some (lens (solvS n x.arcs) (kk + 1))) := by show _ = _; rw [HF.out, HG.out, HB.out, HNN.out]; rfl
  go_enter Try.func35, Try.ntmps35
  go_wp2_with fail
  refine (waGood_any _ x _ ⟨_, rfl, R1.out.keep K0.out⟩).mono ?_
  rintro e w1 ⟨rfl, hk⟩
  rw [HG.out]
  have HK1 := Lib.hid (Keeps.trans K0.out hk)
  have D0 := cell_keep hk C0.out
  have D1 := cell_keep hk C1.out
  clear hk
  go_wp2_with (first | (go_at_call 65; refine (l1In_any _ _ _ _).mono ?_; rintro e w' ⟨rfl, rfl⟩; rw [HB.out]) | (go_at_call 73; refine (waPowers_any _ x kk _ ⟨_, rfl, R1.out.keep HK1.out⟩ (WIn.of HG.out) (by omega)).mono ?_; rintro e w2 ⟨cv, cvs, rfl, hC, hk⟩; rw [HNN.out] at hC; have HC := Lib.hid hC; have HK2 := Lib.hid (Keeps.trans HK1.out hk); obtain ⟨cg, cc, rfl, _⟩ := hC.form (by rw [powL_length]; omega); rw [powL_length] at *; clear hC hk))
  clear D0 D1
  go_loopw [6, 21] (fun ov jv wr => ∃ (j : Nat) (L : List Int), jv = .int .i64 j ∧ j ≤ kk + 1 ∧ L = lens (solvS n x.arcs) j ∧ Own w2.heap.size wr ov L ∧ Keeps w2 wr) (fun _ jv _ => kk + 1 - (intOf jv).toNat)
  case atStart => exact ⟨0, [], rfl, Nat.zero_le _, rfl, Own.nil _ _, Keeps.refl _⟩
  case round =>
    obtain ⟨j, L, rfl, hj, hL, hO, hK⟩ := hrel
    have HL := Lib.hid hL
    have HO := Lib.hid hO
    have HK := Lib.hid hK
    have hll : L.length < 1000000000 := by rw [hL]; have := lens_length (solvS n x.arcs) j; omega
    obtain ⟨oa, oc, rfl, _⟩ := hO.len
    clear hL hO hK
    by_cases hlt : j < kk + 1
    · obtain ⟨g', c', e, hcf⟩ := (HC.out.keep HK.out).form (by rw [powL_length]; omega)
      rw [powL_length] at e
      cases e
      obtain ⟨hc, hrd⟩ := hcf j (by rw [powL_length]; exact hlt)
      rw [powL_getD _ _ _ _ hlt] at hrd
      have HRD := Lib.hid hrd
      generalize cvs.getD j undef = u at hc hrd HRD
      obtain ⟨ua, uc, rfl, _, _⟩ := hrd.form
      have HLS := Lib.hid (lens_succ (solvS n x.arcs) j)
      have HCl := Lib.hid (waClosed_any _ (powM n x.arcs j) n wr HRD.out (powM_length _ _ _) (fun i hi => powM_row_length _ _ _ _ hi) (by omega))
      have HSV : Hid (solvS n x.arcs j = closedB (powM n x.arcs j) n) := rfl
      clear hcf hrd
      by_cases h0 : (0 : Int) < (j : Int)
      · have h0n : 0 < j := by omega
        cases hcl : closedB (powM n x.arcs j) n
        · rw [hcl] at HCl HSV
          clear hcl
          go_wp2_with (go_at_call 74; refine (HCl.out).mono ?_; rintro e w' ⟨rfl, rfl⟩)
          go_roundw
          case rel => exact ⟨j + 1, L, by go_num, by omega, by rw [HLS.out, HSV.out, HL.out]; simp, HO.out, HK.out⟩
          case measure => simp [intOf]; omega
        · rw [hcl] at HCl HSV
          clear hcl
          go_wp2_with (first | (go_at_call 74; refine (HCl.out).mono ?_; rintro e w' ⟨rfl, rfl⟩) | (at_builtin; refine wpL_app1 HO.out hll HK.out.size rfl rfl rfl rfl ?_; intro v' w3 hA))
          go_roundw
          case rel => exact ⟨j + 1, _, by go_num, by omega, by rw [HLS.out, HSV.out, HL.out]; simp [h0n], hA.own, hA.keeps HK.out (Nat.le_refl _)⟩
          case measure => simp [intOf]; omega
      · go_wp2
        go_roundw
        case rel => exact ⟨j + 1, L, by go_num, by omega, by rw [HLS.out, HL.out, show decide (0 < j) = false by simp; omega]; rfl, HO.out, HK.out⟩
        case measure => simp [intOf]; omega
    · go_wp2
      go_ret2
      rw [HF2.out]
      refine ⟨_, rfl, ?_, ?_, Keeps.trans HK2.out HK.out⟩
      · have e := HL.out
        rw [show j = kk + 1 by omega] at e
        show Own _ _ _ (lens (solvS n x.arcs) (kk + 1))
        rw [← e]; exact HO.out.mono HK2.out.size
      · show (lens (solvS n x.arcs) (kk + 1)).length ≤ 1000000000
        have := lens_length (solvS n x.arcs) (kk + 1)
        omega

/-- Which lengths are solvable, over the first a labels. -/
def solvL (n : Nat) (arcs : List (List Int)) (m a : Nat) : List Bool := (List.range m).map fun k => solvI n arcs a k
theorem solvL_length (n : Nat) (arcs : List (List Int)) (m a : Nat) : (solvL n arcs m a).length = m := by simp [solvL]
theorem solvL_getD (n : Nat) (arcs : List (List Int)) (m a k : Nat) (h : k < m) : (solvL n arcs m a).getD k false = solvI n arcs a k := by simp [solvL, h]
theorem solvI_succ (n : Nat) (arcs : List (List Int)) (a k : Nat) : solvI n arcs (a + 1) k = (solvI n arcs a k || (rch arcs n a k).testBit a) := by simp [solvI, List.range_succ]
theorem solvL_zero (n : Nat) (arcs : List (List Int)) (m : Nat) : solvL n arcs m 0 = List.replicate m false := by
  apply List.ext_getElem (by simp [solvL])
  intro i h1 h2
  simp [solvL, solvI]

set_option maxRecDepth 100000 in
set_option maxHeartbeats 4000000 in
theorem implSolvableLengths_any (v : Value) (x : WP) (k : Int) (w : World) (h : RdW w v x) (ok : okW x) (hs : szW x ≤ 1048576) (hk0 : I64 k) :
    Calls Try.prog 36 #[v, .int .i64 k] w (RetSB w (fSolvableLengthsImpl x k)) := by
  obtain ⟨v1, rfl, r1⟩ := h
  have R1 := Lib.hid r1
  obtain ⟨a1, c1, rfl, m1, _⟩ := r1.form
  clear r1 ok hk0
  have HF : Hid (fSolvableLengthsImpl x k = if walkGood x && inB k 0 60 then some (lens (solvI x.labels.toNat x.arcs x.labels.toNat) (k.toNat + 1)) else none) := rfl
  have K0 : Hid (Keeps w (w.alloc (.cells #[.int .i64 x.labels, .slice a1 x.arcs.length c1] 27))) := (Keeps.refl _).alloc _
  have C0 : Hid ((w.alloc (.cells #[.int .i64 x.labels, .slice a1 x.arcs.length c1] 27)).cell? ⟨w.heap.size, 0, none⟩ = some (.int .i64 x.labels)) := by show _ = _; rw [World.cell?_alloc_at _ _ _ _ rfl]; rfl
  have C1 : Hid ((w.alloc (.cells #[.int .i64 x.labels, .slice a1 x.arcs.length c1] 27)).cell? ⟨w.heap.size, 1, none⟩ = some (.slice a1 x.arcs.length c1)) := by show _ = _; rw [World.cell?_alloc_at _ _ _ _ rfl]; rfl
  cases hg : walkGood x
  · have HG := Lib.hid hg
    clear hg
    go_enter Try.func36, Try.ntmps36
    go_wp2_with fail
    refine (isWalkI_any _ x _ ⟨_, rfl, R1.out.keep K0.out⟩).mono ?_
    rintro e w1 ⟨rfl, hk⟩
    rw [HG.out]
    have HK1 := Lib.hid (Keeps.trans K0.out hk)
    have D0 := cell_keep hk C0.out
    have D1 := cell_keep hk C1.out
    clear hk
    go_wp2
    go_ret2
    rw [show fSolvableLengthsImpl x k = none by rw [HF.out, HG.out]; rfl]
    exact RetSB.none HK1.out
  have HG := Lib.hid hg
  obtain ⟨b1, b2, _⟩ := walkGood_arc hg
  clear hg
  cases hb : inB k 0 60
  · have HB := Lib.hid hb
    clear hb
    go_enter Try.func36, Try.ntmps36
    go_wp2_with fail
    refine (isWalkI_any _ x _ ⟨_, rfl, R1.out.keep K0.out⟩).mono ?_
    rintro e w1 ⟨rfl, hk⟩
    rw [HG.out]
    have HK1 := Lib.hid (Keeps.trans K0.out hk)
    have D0 := cell_keep hk C0.out
    have D1 := cell_keep hk C1.out
    clear hk
    go_wp2_with (go_at_call 56; refine (within_any _ _ _ _).mono ?_; rintro e w' ⟨rfl, rfl⟩; rw [HB.out])
    go_ret2
    rw [show fSolvableLengthsImpl x k = none by rw [HF.out, HG.out, HB.out]; rfl]
    exact RetSB.none HK1.out
  have HB := Lib.hid hb
  obtain ⟨bk1, bk2⟩ := inB_true.1 hb
  clear hb
  obtain ⟨kk, rfl⟩ := Int.eq_ofNat_of_zero_le (show 0 ≤ k by omega)
  obtain ⟨n, hn⟩ : ∃ n : Nat, x.labels = n := ⟨x.labels.toNat, by omega⟩
  have HN := Lib.hid hn
  have HNN : Hid (x.labels.toNat = n) := by show _ = _; omega
  have hn12 : n ≤ 12 := by omega
  have hn1 : 1 ≤ n := by omega
  clear hn
  have HF2 : Hid (fSolvableLengthsImpl x kk = some (lens (solvI n x.arcs n) (kk + 1))) := by show _ = _; rw [HF.out, HG.out, HB.out, HNN.out]; rfl
  have HQ := Lib.hid (arcs_q HG.out HN.out)
  obtain ⟨i0, hi, hz0, hz1, hz2⟩ := info_parts Bo.info_int
  have HI := Lib.hid hi
  have HZ0 := Lib.hid hz0
  have HZ1 := Lib.hid hz1
  have HZ2 := Lib.hid hz2
  clear hi hz0 hz1 hz2
  go_enter Try.func36, Try.ntmps36
  go_wp2_with fail
  refine (isWalkI_any _ x _ ⟨_, rfl, R1.out.keep K0.out⟩).mono ?_
  rintro e w1 ⟨rfl, hk⟩
  rw [HG.out]
  have HK1 := Lib.hid (Keeps.trans K0.out hk)
  have D0 := cell_keep hk C0.out
  have D1 := cell_keep hk C1.out
  clear hk
  have HD0 := Lib.hid D0
  have HD1 := Lib.hid D1
  rw [HN.out] at D0
  go_wp2_with (first | (go_at_call 56; refine (within_any _ _ _ _).mono ?_; rintro e w' ⟨rfl, rfl⟩; rw [HB.out]) | (at_make; refine wpList_make_full _ rfl _ _ 77 rfl w1.heap.size 4 i0 (.bool false) 1 Try.underlying77 HI.out HZ0.out HZ1.out .i64 .i64 _ _ (kk + 1) (by rfl) (by rfl) (by first | rfl | simp) (by first | rfl | simp) (by rw [HZ2.out]; omega) (by unfold maxLen; omega) (Nat.le_refl _) ?_; intro w2 hown hgr; obtain ⟨hO, hK2⟩ := Bo.made_ints hown hgr; have HO := Lib.hid hO; have HK2 := Lib.hid hK2; have E0 := cell_keep hK2 D0; clear hown hgr hO hK2))
  clear E0 D0 D1
  go_loopw [25] (fun av wr => ∃ a : Nat, av = .int .i64 a ∧ a ≤ n ∧ Bo.Own w1.heap.size wr (.slice (some ⟨w1.heap.size, 0, none⟩) (kk + 1) (kk + 1)) (solvL n x.arcs (kk + 1) a) ∧ Keeps w1 wr) (fun av _ => n - (intOf av).toNat)
  case atStart => exact ⟨0, rfl, Nat.zero_le _, by rw [solvL_zero]; exact HO.out, HK2.out⟩
  case round =>
    obtain ⟨a, rfl, ha, hO, hK⟩ := hrel
    have HO3 := Lib.hid hO
    have HK3 := Lib.hid hK
    have E0 := cell_keep hK HD0.out
    have E1 := cell_keep hK HD1.out
    obtain ⟨wa, hwa⟩ : ∃ wa : World, wa = wr := ⟨_, rfl⟩
    subst hwa
    clear hO hK HO HK2
    by_cases hlt : a < n
    · go_wp2_with fail
      refine (reached_any _ x a kk _ ⟨_, rfl, R1.out.keep (Keeps.trans HK1.out HK3.out)⟩ HG.out (by rw [HN.out]; omega) (by omega)).mono ?_
      rintro e w3 ⟨rv, rfl, hR, hk3⟩
      rw [HNN.out] at hR
      have HR := Lib.hid hR
      have HK4 := Lib.hid hk3
      obtain ⟨rg, rc, rfl, _⟩ := hR.form (by rw [rchL_length]; omega)
      rw [rchL_length] at *
      clear hR hk3 E0 E1
      go_wp2
      go_loopw [33] (fun jv wr => ∃ j : Nat, jv = .int .i64 j ∧ j ≤ kk + 1 ∧ Bo.Own w1.heap.size wr (.slice (some ⟨w1.heap.size, 0, none⟩) (kk + 1) (kk + 1)) ((solvL n x.arcs (kk + 1) (a + 1)).take j ++ (solvL n x.arcs (kk + 1) a).drop j) ∧ Own wa.heap.size wr (.slice (some ⟨rg, 0, none⟩) (kk + 1) rc) (rchL x.arcs n a kk) ∧ Keeps w1 wr) (fun jv _ => kk + 1 - (intOf jv).toNat)
      case atStart => exact ⟨0, rfl, Nat.zero_le _, by simpa using HO3.out.keep HK4.out, HR.out, Keeps.trans HK3.out HK4.out⟩
      case round =>
        obtain ⟨j, rfl, hj, hO, hR, hK⟩ := hrel
        have HO5 := Lib.hid hO
        have HR5 := Lib.hid hR
        have HK5 := Lib.hid hK
        clear hO hR hK HR
        have HLN : Hid (((solvL n x.arcs (kk + 1) (a + 1)).take j ++ (solvL n x.arcs (kk + 1) a).drop j).length = kk + 1) := by show _ = _; simp [solvL_length]; omega
        by_cases hlt2 : j < kk + 1
        · have hl1 := HO5.out.cellAt' j (by rw [HLN.out]; exact hlt2)
          have hl2 := HO5.out.frozen' j
          rw [mix_getD _ _ _ _ (by rw [solvL_length]; exact hlt2) (by rw [solvL_length, solvL_length]), solvL_getD _ _ _ _ _ hlt2] at hl1
          have hr := HR5.out.cellAt' j (by rw [rchL_length]; exact hlt2)
          rw [rchL_getD _ _ _ _ _ hlt2] at hr
          have HTS := Lib.hid (solvI_succ n x.arcs a j)
          have ht := tst_i64 (a := a) (rch_lt hlt HQ.out j) (by omega)
          have ha64 : a < 64 := by omega
          generalize solvI n x.arcs a j = c at *
          generalize rch x.arcs n a j = R at *
          cases hb : R.testBit a
          all_goals
            rw [hb] at ht HTS
            clear hb
            have fin : ∀ z : Bool, solvI n x.arcs (a + 1) j = z → Bo.Own w1.heap.size (wr.setCell ⟨w1.heap.size, j, none⟩ (.bool z)) (.slice (some ⟨w1.heap.size, 0, none⟩) (kk + 1) (kk + 1)) ((solvL n x.arcs (kk + 1) (a + 1)).take (j + 1) ++ (solvL n x.arcs (kk + 1) a).drop (j + 1)) ∧ Own wa.heap.size (wr.setCell ⟨w1.heap.size, j, none⟩ (.bool z)) (.slice (some ⟨rg, 0, none⟩) (kk + 1) rc) (rchL x.arcs n a kk) ∧ Keeps w1 (wr.setCell ⟨w1.heap.size, j, none⟩ (.bool z)) := by
              intro z hz
              obtain ⟨h6, h7⟩ := HO5.out.setAt (y := z) j (by rw [HLN.out]; exact hlt2)
              refine ⟨?_, HR5.out.kept (u := .slice (some ⟨w1.heap.size, 0, none⟩) (kk + 1) (kk + 1)) h7 (owns_apart_ty (by decide) HR5.out HO5.out), HK5.out.setCell (by simp) _⟩
              rw [← mix_set (d := false) _ _ _ (by rw [solvL_length]; exact hlt2) (by rw [solvL_length, solvL_length]), solvL_getD _ _ _ _ _ hlt2, hz]
              exact h6
            have FIN := Lib.hid fin
            clear fin
            cases c
            all_goals
              go_wp2
              go_roundw
              case rel =>
                have := FIN.out _ (by rw [HTS.out] <;> rfl)
                exact ⟨j + 1, by go_num, by omega, this.1, this.2.1, this.2.2⟩
              case measure => simp [intOf]; omega
        · go_wp2
          go_roundw
          case rel =>
            refine ⟨a + 1, by go_num, by omega, ?_, HK5.out⟩
            have := HO5.out
            rw [List.take_of_length_le (by rw [solvL_length]; omega), List.drop_eq_nil_of_le (by rw [solvL_length]; omega), List.append_nil] at this
            exact this
          case measure => simp [intOf]; omega
    · have hae : a = n := by omega
      rw [hae] at HO3
      clear E0 E1 hae
      go_wp2
      go_loopw [10, 11] (fun ov jv wr => ∃ (j : Nat) (L : List Int), jv = .int .i64 j ∧ 1 ≤ j ∧ j ≤ kk + 1 ∧ L = lens (solvI n x.arcs n) j ∧ Own wa.heap.size wr ov L ∧ Keeps wa wr) (fun _ jv _ => kk + 1 - (intOf jv).toNat)
      case atStart => exact ⟨1, [], rfl, Nat.le_refl _, by omega, by simp [lens], Own.nil _ _, Keeps.refl _⟩
      case round =>
        obtain ⟨j, L, rfl, hj1, hj, hL, hO, hK⟩ := hrel
        have HL := Lib.hid hL
        have HO := Lib.hid hO
        have HK := Lib.hid hK
        have hll : L.length < 1000000000 := by rw [hL]; have := lens_length (solvI n x.arcs n) j; omega
        obtain ⟨oa, oc, rfl, _⟩ := hO.len
        clear hL hO hK
        have HLS := Lib.hid (lens_succ (solvI n x.arcs n) j)
        by_cases hlt2 : j ≤ kk
        · have hl1 := (HO3.out.keep HK.out).cellAt' j (by rw [solvL_length]; omega)
          rw [solvL_getD _ _ _ _ _ (by omega)] at hl1
          have hj2 : j < kk + 1 := by omega
          generalize solvI n x.arcs n j = c at *
          cases c
          · go_wp2
            go_roundw
            case rel => exact ⟨j + 1, L, by go_num, by omega, by omega, by rw [HLS.out, HL.out]; simp, HO.out, HK.out⟩
            case measure => simp [intOf]; omega
          · go_wp2_with (at_builtin; refine wpL_app1 HO.out hll HK.out.size rfl rfl rfl rfl ?_; intro v' w3 hA)
            go_roundw
            case rel => exact ⟨j + 1, _, by go_num, by omega, by omega, by rw [HLS.out, HL.out]; simp; omega, hA.own, hA.keeps HK.out (Nat.le_refl _)⟩
            case measure => simp [intOf]; omega
        · go_wp2
          go_ret2
          rw [HF2.out]
          refine ⟨_, rfl, ?_, ?_, Keeps.trans HK1.out (Keeps.trans HK3.out HK.out)⟩
          · have e := HL.out
            rw [show j = kk + 1 by omega] at e
            show Own _ _ _ (lens (solvI n x.arcs n) (kk + 1))
            rw [← e]; exact HO.out.mono (Keeps.trans HK1.out HK3.out).size
          · show (lens (solvI n x.arcs n) (kk + 1)).length ≤ 1000000000
            have := lens_length (solvI n x.arcs n) (kk + 1)
            omega
end Go.Proofs.Ytcjmpodljhcbhaa
