/- The contracts of waWalk, waList, isWalk and areWalkLabels. -/
import Derived.Test.YtcjmpodljhcbhaaMay
namespace Go.Proofs.Ytcjmpodljhcbhaa
open Go.RowKit
set_option linter.unusedSimpArgs false
set_option linter.unusedVariables false

theorem WIn.of {x : WP} (h : walkGood x = true) : WIn x := walkGood_arc h
/-- l is a walk. -/
def stepOk (arcs : List (List Int)) (l : List Int) (i : Nat) : Bool := decide (i = 0) || mayB arcs arcs.length (l.getD (i - 1) 0).toNat (l.getD i 0).toNat
def walkOk (arcs : List (List Int)) (l : List Int) : Bool := (List.range l.length).all (stepOk arcs l)
theorem aft_may (arcs : List (List Int)) (a b j : Nat) (h : ∀ i, i < j → ∃ p q : Nat, arcs.getD i [] = [(p : Int), (q : Int)]) : (aft arcs a j).testBit b = mayB arcs j a b := by
  rw [Bool.eq_iff_iff, aft_test _ _ _ _ h, mayB, List.any_eq_true]
  constructor
  · rintro ⟨i, hi, e⟩
    exact ⟨i, by simpa using hi, by simp only [e, BEq.rfl]⟩
  · rintro ⟨i, hi, e⟩
    exact ⟨i, by simpa using hi, by simpa using e⟩
theorem mayM_get (n : Nat) (arcs : List (List Int)) (j a b : Nat) (ha : a < n) (hb : b < n) : ((mayM n arcs j).getD a []).getD b false = mayB arcs j a b := by rw [mayM_row _ _ _ _ ha]; simp [hb]

set_option maxRecDepth 100000 in
set_option maxHeartbeats 4000000 in
theorem waWalk_any (v : Value) (x : WP) (lv : Value) (l : List Int) (w : World) (h : RdW w v x) (hl : Ints w lv l) (hg : WIn x) (hin : allIn l 0 (x.labels - 1) = true) :
    Calls Try.prog 68 #[v, lv] w fun e w' => e = .returned (.bool (walkOk x.arcs l)) ∧ Keeps w w' := by
  obtain ⟨v1, rfl, r1⟩ := h
  have R1 := Lib.hid r1
  obtain ⟨a1, c1, rfl, m1, _⟩ := r1.form
  clear r1 
  have HL := Lib.hid hl
  obtain ⟨la, lc, rfl, lm, _⟩ := hl.form
  have HG := Lib.hid hg
  obtain ⟨b1, b2, _⟩ := hg
  have HIN := Lib.hid (allIn_bounds hin)
  have HX : Hid (mayL x = mayM x.labels.toNat x.arcs x.arcs.length) := rfl
  have HW : Hid (walkOk x.arcs l = (List.range l.length).all (stepOk x.arcs l)) := rfl
  clear hl hin
  have K0 : Hid (Keeps w (w.alloc (.cells #[.int .i64 x.labels, .slice a1 x.arcs.length c1] 27))) := (Keeps.refl _).alloc _
  have C0 : Hid ((w.alloc (.cells #[.int .i64 x.labels, .slice a1 x.arcs.length c1] 27)).cell? ⟨w.heap.size, 0, none⟩ = some (.int .i64 x.labels)) := by show _ = _; rw [World.cell?_alloc_at _ _ _ _ rfl]; rfl
  have C1 : Hid ((w.alloc (.cells #[.int .i64 x.labels, .slice a1 x.arcs.length c1] 27)).cell? ⟨w.heap.size, 1, none⟩ = some (.slice a1 x.arcs.length c1)) := by show _ = _; rw [World.cell?_alloc_at _ _ _ _ rfl]; rfl
  go_enter Try.func68, Try.ntmps68
  go_wp2_with fail
  refine (waMay_any _ x _ ⟨_, rfl, R1.out.keep K0.out⟩ HG.out).mono ?_
  rintro e w1 ⟨mv, mvs, rfl, hM, hk⟩
  have HK1 := Lib.hid (Keeps.trans K0.out hk)
  clear hk
  have HM := Lib.hid hM
  rw [HX.out] at HM
  obtain ⟨n, hn⟩ : ∃ n : Nat, x.labels = n := ⟨x.labels.toNat, by omega⟩
  have HN := Lib.hid hn
  have HNN : Hid (x.labels.toNat = n) := by show _ = _; omega
  rw [HNN.out] at HM
  have hn1 : 1 ≤ n := by omega
  obtain ⟨g, cap, rfl, hgc⟩ := HM.out.form (by rw [mayM_length]; omega)
  have HGC := Lib.hid hgc
  clear hM hgc hn
  rw [mayM_length] at *
  go_wp2
  go_loopw [6] (fun iv wr => ∃ i : Nat, iv = .int .i64 i ∧ 1 ≤ i ∧ (∀ j, j < i → j < l.length → stepOk x.arcs l j = true) ∧ Keeps w1 wr) (fun iv _ => l.length - (intOf iv).toNat)
  case atStart => exact ⟨1, rfl, Nat.le_refl _, fun j hj _ => by rw [show j = 0 by omega]; simp [stepOk], Keeps.refl _⟩
  case round =>
    obtain ⟨i, rfl, hi, hall, hK⟩ := hrel
    have HA := Lib.hid hall
    have HK := Lib.hid hK
    clear hall hK
    by_cases hlt : i < l.length
    · obtain ⟨_, _, e1, _, hf⟩ := (HL.out.keep (Keeps.trans HK1.out HK.out)).form
      cases e1
      obtain ⟨b, o, rfl, hc1⟩ := hf i hlt
      obtain ⟨b', o', e2, hc0⟩ := hf (i - 1) (by omega)
      cases e2
      have q1 := HIN.out i hlt
      have q0 := HIN.out (i - 1) (by omega)
      have HS : Hid (stepOk x.arcs l i = mayB x.arcs x.arcs.length (l.getD (i - 1) 0).toNat (l.getD i 0).toNat) := by show _ = _; rw [stepOk]; simp; omega
      rw [HN.out] at q0 q1
      clear hf
      generalize l.getD i 0 = y1 at *
      generalize l.getD (i - 1) 0 = y0 at *
      obtain ⟨p, rfl⟩ := Int.eq_ofNat_of_zero_le q0.1
      obtain ⟨q, rfl⟩ := Int.eq_ofNat_of_zero_le q1.1
      have hp : p < n := by omega
      have hq : q < n := by omega
      have hd0 : 0 ≤ (i : Int) - 1 := by omega
      have hd1 : ((i : Int) - 1).toNat = i - 1 := by omega
      have hd2 : i - 1 < l.length := by omega
      clear q0 q1
      obtain ⟨hm1, _⟩ := HGC.out p hp
      have hm1 := cell_keep HK.out hm1
      have hR := (HM.out.keep HK.out).own p (by rw [mayM_length]; exact hp)
      obtain ⟨gr, rcap, hrv, hrc⟩ := hR.form (by rw [mayM_row_length _ _ _ _ hp]; omega)
      obtain ⟨hq1, _⟩ := hrc q (by rw [mayM_row_length _ _ _ _ hp]; exact hq)
      rw [hrv, mayM_row_length _ _ _ _ hp] at hm1
      rw [mayM_get _ _ _ _ _ hp hq] at hq1
      simp only [Int.toNat_natCast] at HS
      clear hR hrc hrv
      generalize mayB x.arcs x.arcs.length p q = r at hq1 HS
      have HD1 := Lib.hid hd1
      clear hd1
      cases r
      · go_wp2
        go_quiet (fail)
        go_wp2
        go_ret
        exact ⟨by rw [HW.out, rangeAll_false hlt HS.out]; rfl, Keeps.drewN (Keeps.trans HK1.out HK.out) _⟩
      · go_wp2
        go_quiet (fail)
        go_wp2
        go_roundw
        case rel =>
          refine ⟨i + 1, by go_num, by omega, fun j hj hjl => ?_, Keeps.drewN HK.out _⟩
          by_cases e : j = i
          · rw [e]; exact HS.out
          · exact HA.out j (by omega) hjl
        case measure => simp [intOf]; omega
    · go_wp2
      go_ret
      exact ⟨by rw [HW.out, rangeAll_true (fun j hj => HA.out j (by omega) hj)]; rfl, Keeps.trans HK1.out HK.out⟩

theorem tst0_i64 {A a n : Nat} (hA : A < 2 ^ n) (hn : n ≤ 62) : (bits BinOp.and IntKind.i64 ((A : Int) / 2 ^ a) 1 == 0) = !A.testBit a := by
  have h := tst_i64 (a := a) hA hn
  have h2 : A < 2 ^ 63 := Nat.lt_of_lt_of_le hA (Nat.pow_le_pow_right (by decide) (by omega))
  have e : ((A : Int) / 2 ^ a) = ((A / 2 ^ a : Nat) : Int) := by simp
  rw [← h, e, show (1 : Int) = ((1 : Nat) : Int) from rfl, and_i64 _ _ (Nat.lt_of_le_of_lt (Nat.div_le_self _ _) h2) (by decide), Nat.and_comm, Nat.one_and_eq_mod_two]
  have := Nat.mod_two_eq_zero_or_one (A / 2 ^ a)
  rcases this with h | h <;> simp [h]

set_option maxRecDepth 100000 in
set_option maxHeartbeats 4000000 in
theorem isWalkM_any (v : Value) (x : WP) (lv : Value) (l : List Int) (w : World) (h : RdW w v x) (hl : Ints w lv l) (hg : walkGood x = true) (hin : allIn l 0 (x.labels - 1) = true) :
    Calls Try.prog 70 #[v, lv] w fun e w' => e = .returned (.bool (walkOk x.arcs l)) ∧ Keeps w w' := by
  obtain ⟨v1, rfl, r1⟩ := h
  have R1 := Lib.hid r1
  obtain ⟨a1, c1, rfl, m1, _⟩ := r1.form
  clear r1 
  have HL := Lib.hid hl
  obtain ⟨la, lc, rfl, lm, _⟩ := hl.form
  have HG := Lib.hid hg
  obtain ⟨b1, b2, _⟩ := walkGood_arc hg
  have HIN := Lib.hid (allIn_bounds hin)
  have HX : Hid (afterL x = aftL x.labels.toNat x.arcs x.arcs.length) := rfl
  have HW : Hid (walkOk x.arcs l = (List.range l.length).all (stepOk x.arcs l)) := rfl
  have HP := Lib.hid (arcs_pairs hg)
  have HQ := Lib.hid (aft_q hg)
  clear hl hin hg
  have K0 : Hid (Keeps w (w.alloc (.cells #[.int .i64 x.labels, .slice a1 x.arcs.length c1] 27))) := (Keeps.refl _).alloc _
  have C0 : Hid ((w.alloc (.cells #[.int .i64 x.labels, .slice a1 x.arcs.length c1] 27)).cell? ⟨w.heap.size, 0, none⟩ = some (.int .i64 x.labels)) := by show _ = _; rw [World.cell?_alloc_at _ _ _ _ rfl]; rfl
  have C1 : Hid ((w.alloc (.cells #[.int .i64 x.labels, .slice a1 x.arcs.length c1] 27)).cell? ⟨w.heap.size, 1, none⟩ = some (.slice a1 x.arcs.length c1)) := by show _ = _; rw [World.cell?_alloc_at _ _ _ _ rfl]; rfl
  go_enter Try.func70, Try.ntmps70
  go_wp2_with fail
  refine (after_any _ x _ ⟨_, rfl, R1.out.keep K0.out⟩ HG.out).mono ?_
  rintro e w1 ⟨mv, rfl, hM, hk⟩
  have HK1 := Lib.hid (Keeps.trans K0.out hk)
  clear hk
  have HM := Lib.hid hM
  rw [HX.out] at HM
  obtain ⟨n, hn⟩ : ∃ n : Nat, x.labels = n := ⟨x.labels.toNat, by omega⟩
  have HN := Lib.hid hn
  have HNN : Hid (x.labels.toNat = n) := by show _ = _; omega
  rw [HNN.out] at HM
  have hn1 : 1 ≤ n := by omega
  obtain ⟨g, cap, rfl, hgc⟩ := HM.out.form (by rw [aftL_length]; omega)
  have HGC := Lib.hid hgc
  clear hM hgc hn
  rw [aftL_length] at *
  go_wp2
  go_loopw [6] (fun iv wr => ∃ i : Nat, iv = .int .i64 i ∧ 1 ≤ i ∧ (∀ j, j < i → j < l.length → stepOk x.arcs l j = true) ∧ Keeps w1 wr) (fun iv _ => l.length - (intOf iv).toNat)
  case atStart => exact ⟨1, rfl, Nat.le_refl _, fun j hj _ => by rw [show j = 0 by omega]; simp [stepOk], Keeps.refl _⟩
  case round =>
    obtain ⟨i, rfl, hi, hall, hK⟩ := hrel
    have HA := Lib.hid hall
    have HK := Lib.hid hK
    clear hall hK
    by_cases hlt : i < l.length
    · obtain ⟨_, _, e1, _, hf⟩ := (HL.out.keep (Keeps.trans HK1.out HK.out)).form
      cases e1
      obtain ⟨b, o, rfl, hc1⟩ := hf i hlt
      obtain ⟨b', o', e2, hc0⟩ := hf (i - 1) (by omega)
      cases e2
      have q1 := HIN.out i hlt
      have q0 := HIN.out (i - 1) (by omega)
      have HS : Hid (stepOk x.arcs l i = mayB x.arcs x.arcs.length (l.getD (i - 1) 0).toNat (l.getD i 0).toNat) := by show _ = _; rw [stepOk]; simp; omega
      rw [HN.out] at q0 q1
      clear hf
      generalize l.getD i 0 = y1 at *
      generalize l.getD (i - 1) 0 = y0 at *
      obtain ⟨p, rfl⟩ := Int.eq_ofNat_of_zero_le q0.1
      obtain ⟨q, rfl⟩ := Int.eq_ofNat_of_zero_le q1.1
      have hp : p < n := by omega
      have hq : q < n := by omega
      have hd0 : 0 ≤ (i : Int) - 1 := by omega
      have hd2 : i - 1 < l.length := by omega
      clear q0 q1
      obtain ⟨hm1, _⟩ := HGC.out p hp
      have hm1 := cell_keep HK.out hm1
      rw [aftL_getD _ _ _ _ hp] at hm1
      simp only [Int.toNat_natCast, ← aft_may x.arcs p q x.arcs.length HP.out] at HS
      have hq64 : q < 64 := by have := HN.out; omega
      have HT := Lib.hid (tst0_i64 (a := q) (aft_lt (n := 12) x.arcs p x.arcs.length HQ.out) (by omega))
      generalize aft x.arcs p x.arcs.length = A at *
      cases hb : A.testBit q
      · rw [hb] at HT HS
        clear hb
        go_wp2
        go_quiet (fail)
        rw [HT.out]
        go_wp2
        go_ret
        exact ⟨by rw [HW.out, rangeAll_false hlt HS.out]; rfl, Keeps.drewN (Keeps.trans HK1.out HK.out) _⟩
      · rw [hb] at HT HS
        clear hb
        go_wp2
        go_quiet (fail)
        rw [HT.out]
        go_wp2
        go_roundw
        case rel =>
          refine ⟨i + 1, by go_num, by omega, fun j hj hjl => ?_, Keeps.drewN HK.out _⟩
          by_cases e : j = i
          · rw [e]; exact HS.out
          · exact HA.out j (by omega) hjl
        case measure => simp [intOf]; omega
    · go_wp2
      go_ret
      exact ⟨by rw [HW.out, rangeAll_true (fun j hj => HA.out j (by omega) hj)]; rfl, Keeps.trans HK1.out HK.out⟩

/-- Some labels, and not too many. -/
def labsOk (x : WP) (l : List Int) : Bool := inB l.length 1 200 && allIn l 0 (x.labels - 1)

set_option maxRecDepth 100000 in
set_option maxHeartbeats 4000000 in
theorem waList_any (v : Value) (x : WP) (lv : Value) (l : List Int) (w : World) (h : RdW w v x) (hl : Ints w lv l) :
    Calls Try.prog 67 #[v, lv] w fun e w' => e = .returned (.bool (walkGood x && labsOk x l)) ∧ Keeps w w' := by
  obtain ⟨v1, rfl, r1⟩ := h
  have R1 := Lib.hid r1
  obtain ⟨a1, c1, rfl, m1, _⟩ := r1.form
  clear r1 
  have HL := Lib.hid hl
  obtain ⟨la, lc, rfl, lm, _⟩ := hl.form
  clear hl
  have HD : Hid (labsOk x l = (inB l.length 1 200 && allIn l 0 (x.labels - 1))) := rfl
  have K0 : Hid (Keeps w (w.alloc (.cells #[.int .i64 x.labels, .slice a1 x.arcs.length c1] 27))) := (Keeps.refl _).alloc _
  have C0 : Hid ((w.alloc (.cells #[.int .i64 x.labels, .slice a1 x.arcs.length c1] 27)).cell? ⟨w.heap.size, 0, none⟩ = some (.int .i64 x.labels)) := by show _ = _; rw [World.cell?_alloc_at _ _ _ _ rfl]; rfl
  have C1 : Hid ((w.alloc (.cells #[.int .i64 x.labels, .slice a1 x.arcs.length c1] 27)).cell? ⟨w.heap.size, 1, none⟩ = some (.slice a1 x.arcs.length c1)) := by show _ = _; rw [World.cell?_alloc_at _ _ _ _ rfl]; rfl
  cases hg : walkGood x
  · have HG := Lib.hid hg
    clear hg
    go_enter Try.func67, Try.ntmps67
    go_wp2_with fail
    refine (waGood_any _ x _ ⟨_, rfl, R1.out.keep K0.out⟩).mono ?_
    rintro e w1 ⟨rfl, hk⟩
    rw [HG.out]
    have HK1 := Lib.hid (Keeps.trans K0.out hk)
    have D0 := cell_keep hk C0.out
    have D1 := cell_keep hk C1.out
    clear hk
    go_wp2
    go_ret
    exact ⟨rfl, HK1.out⟩
  have HG := Lib.hid hg
  obtain ⟨b1, b2, _⟩ := walkGood_arc hg
  clear hg
  cases hb : inB l.length 1 200
  · have HB := Lib.hid hb
    clear hb
    go_enter Try.func67, Try.ntmps67
    go_wp2_with fail
    refine (waGood_any _ x _ ⟨_, rfl, R1.out.keep K0.out⟩).mono ?_
    rintro e w1 ⟨rfl, hk⟩
    rw [HG.out]
    have HK1 := Lib.hid (Keeps.trans K0.out hk)
    have D0 := cell_keep hk C0.out
    have D1 := cell_keep hk C1.out
    clear hk
    go_wp2_with (go_at_call 65; refine (l1In_any _ _ _ _).mono ?_; rintro e w' ⟨rfl, rfl⟩; rw [HB.out])
    go_ret
    exact ⟨by rw [HD.out, HB.out]; rfl, HK1.out⟩
  have HB := Lib.hid hb
  clear hb
  go_enter Try.func67, Try.ntmps67
  go_wp2_with fail
  refine (waGood_any _ x _ ⟨_, rfl, R1.out.keep K0.out⟩).mono ?_
  rintro e w1 ⟨rfl, hk⟩
  rw [HG.out]
  have HK1 := Lib.hid (Keeps.trans K0.out hk)
  have D0 := cell_keep hk C0.out
  have D1 := cell_keep hk C1.out
  clear hk
  go_wp2_with (first | (go_at_call 65; refine (l1In_any _ _ _ _).mono ?_; rintro e w' ⟨rfl, rfl⟩; rw [HB.out]) | (go_at_call 77; refine (l1All_any _ l _ _ _ (HL.out.keep HK1.out)).mono ?_; rintro e w' ⟨rfl, rfl⟩))
  go_ret
  exact ⟨by rw [HD.out, HB.out]; rfl, HK1.out⟩

set_option maxRecDepth 100000 in
set_option maxHeartbeats 4000000 in
theorem areWalkLabels_any (v : Value) (x : WP) (lv : Value) (l : List Int) (w : World) (h : RdW w v x) (hl : Ints w lv l) (h1 : 1 ≤ x.labels) (h2 : x.labels ≤ 12) :
    Calls Try.prog 69 #[v, lv] w fun e w' => e = .returned (.bool (labsOk x l)) ∧ Keeps w w' := by
  obtain ⟨v1, rfl, r1⟩ := h
  have R1 := Lib.hid r1
  obtain ⟨a1, c1, rfl, m1, _⟩ := r1.form
  clear r1 
  have HL := Lib.hid hl
  obtain ⟨la, lc, rfl, lm, _⟩ := hl.form
  clear hl
  have HD : Hid (labsOk x l = (inB l.length 1 200 && allIn l 0 (x.labels - 1))) := rfl
  have K0 : Hid (Keeps w (w.alloc (.cells #[.int .i64 x.labels, .slice a1 x.arcs.length c1] 27))) := (Keeps.refl _).alloc _
  have C0 : Hid ((w.alloc (.cells #[.int .i64 x.labels, .slice a1 x.arcs.length c1] 27)).cell? ⟨w.heap.size, 0, none⟩ = some (.int .i64 x.labels)) := by show _ = _; rw [World.cell?_alloc_at _ _ _ _ rfl]; rfl
  have C1 : Hid ((w.alloc (.cells #[.int .i64 x.labels, .slice a1 x.arcs.length c1] 27)).cell? ⟨w.heap.size, 1, none⟩ = some (.slice a1 x.arcs.length c1)) := by show _ = _; rw [World.cell?_alloc_at _ _ _ _ rfl]; rfl
  cases hb : inB l.length 1 200
  · have HB := Lib.hid hb
    clear hb
    go_enter Try.func69, Try.ntmps69
    go_wp2_with (go_at_call 56; refine (within_any _ _ _ _).mono ?_; rintro e w' ⟨rfl, rfl⟩; rw [HB.out])
    go_ret
    exact ⟨by rw [HD.out, HB.out]; rfl, K0.out⟩
  have HB := Lib.hid hb
  clear hb
  go_enter Try.func69, Try.ntmps69
  go_wp2_with (first | (go_at_call 56; refine (within_any _ _ _ _).mono ?_; rintro e w' ⟨rfl, rfl⟩; rw [HB.out]) | (go_at_call 57; refine (hasLabelsW_any _ x _ l _ ⟨_, rfl, R1.out.keep K0.out⟩ (HL.out.keep K0.out) h1 h2).mono ?_; rintro e w1 ⟨rfl, hk⟩; have HK1 := Lib.hid hk; clear hk))
  go_ret
  exact ⟨by rw [HD.out, HB.out]; rfl, Keeps.trans K0.out HK1.out⟩
end Go.Proofs.Ytcjmpodljhcbhaa
