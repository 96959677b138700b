/- The contracts of increasing, l1Rising, marksOk, cyMarks, gapsOf, cyGaps and both GapsOf functions. -/
import Derived.Test.YtnamiakelifpiaaCt
import Derived.Test.YtnamiakelifpiaaOpen
namespace Go.Proofs.Ytnamiakelifpiaa
open Go.RowKit
set_option linter.unusedSimpArgs false
set_option linter.unusedVariables false

def riseAt (l : List Int) (lo hi : Int) (k : Nat) : Bool := inB (l.getD k 0) lo hi && (decide (k = 0) || decide (l.getD (k - 1) 0 < l.getD k 0))
def rising (l : List Int) (lo hi : Int) : Bool := (List.range l.length).all (riseAt l lo hi)

theorem range_all_false {n k : Nat} {p : Nat → Bool} (hk : k < n) (h : p k = false) : (List.range n).all p = false := by
  rw [List.all_eq_false]
  exact ⟨k, by simpa using hk, by simp [h]⟩
theorem range_all_true {n : Nat} {p : Nat → Bool} (h : ∀ k, k < n → p k = true) : (List.range n).all p = true := by
  rw [List.all_eq_true]
  intro k hk
  exact h k (by simpa using hk)

theorem rising_bounds {l : List Int} {lo hi : Int} (h : rising l lo hi = true) : ∀ i, i < l.length → lo ≤ l.getD i 0 ∧ l.getD i 0 ≤ hi := by
  intro i hi'
  have := List.all_eq_true.1 h i (by simpa using hi')
  simp only [riseAt, Bool.and_eq_true] at this
  exact inB_true.1 this.1

set_option maxHeartbeats 800000 in
theorem increasing_any (v : Value) (l : List Int) (lo hi : Int) (w : World) (h : Ints w v l) :
    Calls Try.prog 46 #[v, .int .i64 lo, .int .i64 hi] w fun e w' => e = .returned (.bool (rising l lo hi)) ∧ w = w' := by
  obtain ⟨a, c, rfl, hm, hf⟩ := h.form
  have HF := Lib.hid hf
  clear h hf
  go_enter Try.func46, Try.ntmps46
  go_wp2
  go_loop [11] (fun i => ∃ k : Nat, i = .int .i64 k ∧ k ≤ l.length ∧ ∀ j, j < k → riseAt l lo hi j = true) (fun i => l.length - (intOf i).toNat)
  case atStart => exact ⟨0, rfl, Nat.zero_le _, fun j hj => by omega⟩
  case round =>
    obtain ⟨k, rfl, hk, hall⟩ := hrel
    have HA := Lib.hid hall
    clear hall
    by_cases hlt : k < l.length
    · obtain ⟨b, o, rfl, hc⟩ := HF.out k hlt
      have hp : ∃ y, (0 < k → w.cell? ⟨b, o + (k - 1), none⟩ = some (.int .i64 y)) ∧ y = l.getD (k - 1) 0 := by
        refine ⟨_, fun h0 => ?_, rfl⟩
        obtain ⟨b', o', he, hc'⟩ := HF.out (k - 1) (by omega)
        cases he
        exact hc'
      obtain ⟨y, hp, hy⟩ := hp
      have Hy := Lib.hid hy
      clear hy
      generalize hx : l.getD k 0 = x at hc
      have Hx := Lib.hid hx
      clear hx
      have HR : Hid (riseAt l lo hi k = (inB x lo hi && (decide (k = 0) || decide (y < x)))) := by
        show _ = _
        rw [riseAt, Hx.out, Hy.out]
      cases hb : inB x lo hi
      · go_wp2_with (go_at_call 23; refine (within_any _ _ _ _).mono ?_; rintro e w' ⟨rfl, rfl⟩)
        go_ret
        exact ⟨by rw [rising, range_all_false hlt (by rw [HR.out, hb]; rfl)]; rfl, rfl⟩
      · by_cases h0 : k = 0
        · have H0 := Lib.hid h0
          have h0' : ¬ (0 : Int) < (k : Int) := by omega
          clear h0 hp
          go_wp2_with (go_at_call 23; refine (within_any _ _ _ _).mono ?_; rintro e w' ⟨rfl, rfl⟩)
          go_round
          case rel => exact ⟨k + 1, by go_num, by omega, fun j hj => by have := H0.out; rw [show j = k by omega, HR.out, hb]; simp [this]⟩
          case measure => simp [intOf]; omega
        · have h0' : (0 : Int) < (k : Int) := by omega
          have hp' := hp (by omega)
          have hsub : ((k : Int) - 1).toNat = k - 1 := by omega
          clear hp
          by_cases hyx : y < x
          · go_wp2_with (go_at_call 23; refine (within_any _ _ _ _).mono ?_; rintro e w' ⟨rfl, rfl⟩)
            go_round
            case rel =>
              refine ⟨k + 1, by go_num, by omega, fun j hj => ?_⟩
              by_cases hjk : j = k
              · rw [hjk, HR.out, hb]; simp [hyx]
              · exact HA.out j (by omega)
            case measure => simp [intOf]; omega
          · go_wp2_with (go_at_call 23; refine (within_any _ _ _ _).mono ?_; rintro e w' ⟨rfl, rfl⟩)
            go_ret
            exact ⟨by rw [rising, range_all_false hlt (by rw [HR.out, hb]; simp [hyx, h0])]; rfl, rfl⟩
    · go_wp2
      go_ret
      exact ⟨by rw [rising, range_all_true (fun j hj => HA.out j (by omega))]; rfl, rfl⟩

set_option maxHeartbeats 800000 in
theorem l1Rising_any (v : Value) (l : List Int) (lo hi : Int) (w : World) (h : Ints w v l) :
    Calls Try.prog 45 #[v, .int .i64 lo, .int .i64 hi] w fun e w' => e = .returned (.bool (rising l lo hi)) ∧ w = w' := by
  obtain ⟨a, c, rfl, hm, hf⟩ := h.form
  have HF := Lib.hid hf
  clear h hf
  go_enter Try.func45, Try.ntmps45
  go_wp2
  go_loop [11] (fun i => ∃ k : Nat, i = .int .i64 k ∧ k ≤ l.length ∧ ∀ j, j < k → riseAt l lo hi j = true) (fun i => l.length - (intOf i).toNat)
  case atStart => exact ⟨0, rfl, Nat.zero_le _, fun j hj => by omega⟩
  case round =>
    obtain ⟨k, rfl, hk, hall⟩ := hrel
    have HA := Lib.hid hall
    clear hall
    by_cases hlt : k < l.length
    · obtain ⟨b, o, rfl, hc⟩ := HF.out k hlt
      have hp : ∃ y, (0 < k → w.cell? ⟨b, o + (k - 1), none⟩ = some (.int .i64 y)) ∧ y = l.getD (k - 1) 0 := by
        refine ⟨_, fun h0 => ?_, rfl⟩
        obtain ⟨b', o', he, hc'⟩ := HF.out (k - 1) (by omega)
        cases he
        exact hc'
      obtain ⟨y, hp, hy⟩ := hp
      have Hy := Lib.hid hy
      clear hy
      generalize hx : l.getD k 0 = x at hc
      have Hx := Lib.hid hx
      clear hx
      have HR : Hid (riseAt l lo hi k = (inB x lo hi && (decide (k = 0) || decide (y < x)))) := by
        show _ = _
        rw [riseAt, Hx.out, Hy.out]
      cases hb : inB x lo hi
      · go_wp2_with (go_at_call 22; refine (l1In_any _ _ _ _).mono ?_; rintro e w' ⟨rfl, rfl⟩)
        go_ret
        exact ⟨by rw [rising, range_all_false hlt (by rw [HR.out, hb]; rfl)]; rfl, rfl⟩
      · by_cases h0 : k = 0
        · have H0 := Lib.hid h0
          have h0' : ¬ (0 : Int) < (k : Int) := by omega
          clear h0 hp
          go_wp2_with (go_at_call 22; refine (l1In_any _ _ _ _).mono ?_; rintro e w' ⟨rfl, rfl⟩)
          go_round
          case rel => exact ⟨k + 1, by go_num, by omega, fun j hj => by have := H0.out; rw [show j = k by omega, HR.out, hb]; simp [this]⟩
          case measure => simp [intOf]; omega
        · have h0' : (0 : Int) < (k : Int) := by omega
          have hp' := hp (by omega)
          have hsub : ((k : Int) - 1).toNat = k - 1 := by omega
          clear hp
          by_cases hyx : y < x
          · go_wp2_with (go_at_call 22; refine (l1In_any _ _ _ _).mono ?_; rintro e w' ⟨rfl, rfl⟩)
            go_round
            case rel =>
              refine ⟨k + 1, by go_num, by omega, fun j hj => ?_⟩
              by_cases hjk : j = k
              · rw [hjk, HR.out, hb]; simp [hyx]
              · exact HA.out j (by omega)
            case measure => simp [intOf]; omega
          · go_wp2_with (go_at_call 22; refine (l1In_any _ _ _ _).mono ?_; rintro e w' ⟨rfl, rfl⟩)
            go_ret
            exact ⟨by rw [rising, range_all_false hlt (by rw [HR.out, hb]; simp [hyx, h0])]; rfl, rfl⟩
    · go_wp2
      go_ret
      exact ⟨by rw [rising, range_all_true (fun j hj => HA.out j (by omega))]; rfl, rfl⟩

/-! ### Marks -/
def marksB (k : Int) (l : List Int) : Bool := inB k 2 180 && decide (0 < l.length) && rising l 0 (k - 1)
def gapAt (k : Int) (l : List Int) (i : Nat) : Int := (if i + 1 < l.length then l.getD (i + 1) 0 else k + l.getD 0 0) - l.getD i 0
def gaps (k : Int) (l : List Int) : List Int := (List.range l.length).map (gapAt k l)
def fGapsOfSpec (k : Int) (l : List Int) : Option (List Int) := if marksB k l then some (gaps k l) else none
def fGapsOfImpl (k : Int) (l : List Int) : Option (List Int) := fGapsOfSpec k l
theorem GapsOf_eq (k : Int) (l : List Int) (hk : I64 k) (hl : ∀ n ∈ l, I64 n) (hs : l.length ≤ 1048576) : fGapsOfImpl k l = fGapsOfSpec k l := rfl

/-- A rising list between bounds is no longer than they allow. -/
theorem rising_ge {l : List Int} {lo hi : Int} (h : rising l lo hi = true) : ∀ i : Nat, i < l.length → lo + (i : Int) ≤ l.getD i 0 := by
  intro i
  induction i with
  | zero => intro hi'; have := (rising_bounds h 0 hi').1; omega
  | succ i ih =>
    intro hi'
    have h1 := ih (by omega)
    have h2 := List.all_eq_true.1 h (i + 1) (by simpa using hi')
    simp only [riseAt, Bool.and_eq_true, Bool.or_eq_true, decide_eq_true_eq, Nat.add_sub_cancel] at h2
    have h3 := h2.2
    simp at h3
    rw [← List.getD_eq_getElem?_getD, ← List.getD_eq_getElem?_getD] at h3
    omega
theorem rising_length {l : List Int} {lo hi : Int} (h : rising l lo hi = true) (hb : lo ≤ hi + 1) : (l.length : Int) ≤ hi - lo + 1 := by
  by_cases h0 : l.length = 0
  · omega
  · have h1 := rising_ge h (l.length - 1) (by omega)
    have h2 := (rising_bounds h (l.length - 1) (by omega)).2
    omega
theorem marksB_bounds {k : Int} {l : List Int} (h : marksB k l = true) : 0 ≤ k ∧ k ≤ 1000 ∧ l.length ≤ 1000 ∧ ∀ i, i < l.length → 0 ≤ l.getD i 0 ∧ l.getD i 0 ≤ 1000 := by
  simp only [marksB, Bool.and_eq_true, inB_true] at h
  obtain ⟨⟨⟨h1, h2⟩, h3⟩, h4⟩ := h
  have h5 := rising_length h4 (by omega)
  refine ⟨by omega, by omega, by omega, fun i hi => ?_⟩
  have := rising_bounds h4 i hi
  omega

set_option maxHeartbeats 400000 in
theorem marksOk_any (k : Int) (v : Value) (l : List Int) (w : World) (h : Ints w v l) :
    Calls Try.prog 30 #[.int .i64 k, v] w fun e w' => e = .returned (.bool (marksB k l)) ∧ w = w' := by
  obtain ⟨a, c, rfl, hm, hf⟩ := h.form
  have H := Lib.hid h
  clear h hf
  have HM : Hid (marksB k l = (inB k 2 180 && decide (0 < l.length) && rising l 0 (k - 1))) := rfl
  cases hb : inB k 2 180
  · go_enter Try.func30, Try.ntmps30
    go_wp2_with (go_at_call 23; refine (within_any _ _ _ _).mono ?_; rintro e w' ⟨rfl, rfl⟩)
    go_ret
    exact ⟨by rw [HM.out, hb]; rfl, rfl⟩
  · have hk := inB_true.1 hb
    obtain ⟨hk1, hk2⟩ := hk
    by_cases h0 : 0 < l.length
    · have h0' : (0 : Int) < (l.length : Int) := by omega
      cases hr : rising l 0 (k - 1)
      all_goals
        have HR := Lib.hid hr
        clear hr
        go_enter Try.func30, Try.ntmps30
        go_wp2_with (first | (go_at_call 23; refine (within_any _ _ _ _).mono ?_; rintro e w' ⟨rfl, rfl⟩) | (go_at_call 46; refine (increasing_any _ _ _ _ _ H.out).mono ?_; rintro e w' ⟨rfl, rfl⟩; rw [HR.out]))
        go_ret
        exact ⟨by rw [HM.out, hb, HR.out]; simp [h0], rfl⟩
    · have h0' : ¬ (0 : Int) < (l.length : Int) := by omega
      have h0'' : decide ((0 : Int) < (l.length : Int)) = false := by simpa using h0'
      go_enter Try.func30, Try.ntmps30
      go_wp2_with (go_at_call 23; refine (within_any _ _ _ _).mono ?_; rintro e w' ⟨rfl, rfl⟩)
      go_ret
      exact ⟨by rw [HM.out, hb]; simp [h0], rfl⟩

set_option maxHeartbeats 400000 in
theorem cyMarks_any (k : Int) (v : Value) (l : List Int) (w : World) (h : Ints w v l) :
    Calls Try.prog 28 #[.int .i64 k, v] w fun e w' => e = .returned (.bool (marksB k l)) ∧ w = w' := by
  obtain ⟨a, c, rfl, hm, hf⟩ := h.form
  have H := Lib.hid h
  clear h hf
  have HM : Hid (marksB k l = (inB k 2 180 && decide (0 < l.length) && rising l 0 (k - 1))) := rfl
  cases hb : inB k 2 180
  · go_enter Try.func28, Try.ntmps28
    go_wp2_with (go_at_call 22; refine (l1In_any _ _ _ _).mono ?_; rintro e w' ⟨rfl, rfl⟩)
    go_ret
    exact ⟨by rw [HM.out, hb]; rfl, rfl⟩
  · have hk := inB_true.1 hb
    obtain ⟨hk1, hk2⟩ := hk
    by_cases h0 : 0 < l.length
    · have h0' : (0 : Int) < (l.length : Int) := by omega
      cases hr : rising l 0 (k - 1)
      all_goals
        have HR := Lib.hid hr
        clear hr
        go_enter Try.func28, Try.ntmps28
        go_wp2_with (first | (go_at_call 22; refine (l1In_any _ _ _ _).mono ?_; rintro e w' ⟨rfl, rfl⟩) | (go_at_call 45; refine (l1Rising_any _ _ _ _ _ H.out).mono ?_; rintro e w' ⟨rfl, rfl⟩; rw [HR.out]))
        go_ret
        exact ⟨by rw [HM.out, hb, HR.out]; simp [h0], rfl⟩
    · have h0' : ¬ (0 : Int) < (l.length : Int) := by omega
      have h0'' : decide ((0 : Int) < (l.length : Int)) = false := by simpa using h0'
      go_enter Try.func28, Try.ntmps28
      go_wp2_with (go_at_call 22; refine (l1In_any _ _ _ _).mono ?_; rintro e w' ⟨rfl, rfl⟩)
      go_ret
      exact ⟨by rw [HM.out, hb]; simp [h0], rfl⟩

set_option maxHeartbeats 1000000 in
theorem gapsOf_any (k : Int) (v : Value) (l : List Int) (w : World) (h : Ints w v l) (hk : 0 ≤ k ∧ k ≤ 1000) (hl : l.length ≤ 1000) (hb : ∀ i, i < l.length → 0 ≤ l.getD i 0 ∧ l.getD i 0 ≤ 1000) :
    Calls Try.prog 31 #[.int .i64 k, v] w fun e w' => ∃ r, e = .returned r ∧ Own w.heap.size w' r (gaps k l) ∧ Keeps w w' := by
  obtain ⟨a, c, rfl, hm, hf⟩ := h.form
  have HF := Lib.hid hf
  have HB := Lib.hid hb
  clear h hf hb
  obtain ⟨hk1, hk2⟩ := hk
  go_enter Try.func31, Try.ntmps31
  go_wp2
  go_loopw [5, 11] (fun o i wr => ∃ (j : Nat) (L : List Int), i = .int .i64 j ∧ j ≤ l.length ∧ L = (List.range j).map (gapAt k l) ∧ Own w.heap.size wr o L ∧ Keeps w wr) (fun _ i _ => l.length - (intOf i).toNat)
  case atStart => exact ⟨0, [], rfl, Nat.zero_le _, rfl, Own.nil _ _, Keeps.refl _⟩
  case round =>
    obtain ⟨j, L, rfl, hj, hL, hO, hK⟩ := hrel
    have HL := Lib.hid hL
    have HO := Lib.hid hO
    have HK := Lib.hid hK
    clear hL hO hK
    by_cases hlt : j < l.length
    · obtain ⟨b, o, rfl, hc0⟩ := HF.out j hlt
      have hc : wr.cell? ⟨b, o + j, none⟩ = some (.int .i64 (l.getD j 0)) := cell_keep HK.out hc0
      obtain ⟨b', o', he, hz0⟩ := HF.out 0 (by omega)
      cases he
      have hz : wr.cell? ⟨b, o, none⟩ = some (.int .i64 (l.getD 0 0)) := cell_keep HK.out hz0
      have hbx := HB.out j hlt
      have hbz := HB.out 0 (by omega)
      generalize hx : l.getD j 0 = x at hc hbx
      generalize hy : l.getD 0 0 = z at hz hbz
      have Hx := Lib.hid hx
      have Hz := Lib.hid hy
      obtain ⟨hbx1, hbx2⟩ := hbx
      obtain ⟨hbz1, hbz2⟩ := hbz
      clear hx hy hc0 hz0
      have hlen : L.length < 1000000000 := by rw [HL.out]; simp; omega
      by_cases hn : j + 1 < l.length
      · obtain ⟨b', o', he, hn0⟩ := HF.out (j + 1) hn
        cases he
        have hnc : wr.cell? ⟨b, o + (j + 1), none⟩ = some (.int .i64 (l.getD (j + 1) 0)) := cell_keep HK.out hn0
        have hbn := HB.out (j + 1) hn
        generalize hy : l.getD (j + 1) 0 = y at hnc hbn
        obtain ⟨hbn1, hbn2⟩ := hbn
        have Hy := Lib.hid hy
        have hn' : (j : Int) + 1 < (l.length : Int) := by omega
        have htn : ((j : Int) + 1).toNat = j + 1 := by omega
        clear hy hn0
        go_wp2_with (at_builtin; refine wpL_app1 HO.out hlen HK.out.size rfl rfl rfl rfl ?_; intro v' w' hA)
        go_roundw
        case rel =>
          refine ⟨j + 1, _, by go_num, by omega, ?_, hA.own, hA.keeps HK.out (Nat.le_refl _)⟩
          have e : gapAt k l j = y - x := by unfold gapAt; rw [if_pos hn, Hy.out, Hx.out]
          rw [List.range_succ, List.map_append, HL.out, List.map_cons, List.map_nil, e]
        case measure => simp [intOf]; omega
      · have hn' : ¬ (j : Int) + 1 < (l.length : Int) := by omega
        go_wp2_with (at_builtin; refine wpL_app1 HO.out hlen HK.out.size rfl rfl rfl rfl ?_; intro v' w' hA)
        go_roundw
        case rel =>
          refine ⟨j + 1, _, by go_num, by omega, ?_, hA.own, hA.keeps HK.out (Nat.le_refl _)⟩
          have e : gapAt k l j = (k + z) - x := by unfold gapAt; rw [if_neg hn, Hz.out, Hx.out]; try omega
          rw [List.range_succ, List.map_append, HL.out, List.map_cons, List.map_nil, e]
        case measure => simp [intOf]; omega
    · go_wp2
      go_ret
      refine ⟨_, rfl, ?_, HK.out⟩
      have := HO.out
      rw [HL.out, show j = l.length by omega] at this
      exact this

set_option maxHeartbeats 1000000 in
theorem cyGaps_any (k : Int) (v : Value) (l : List Int) (w : World) (h : Ints w v l) (hk : 0 ≤ k ∧ k ≤ 1000) (hl : l.length ≤ 1000) (hb : ∀ i, i < l.length → 0 ≤ l.getD i 0 ∧ l.getD i 0 ≤ 1000) :
    Calls Try.prog 29 #[.int .i64 k, v] w fun e w' => ∃ r, e = .returned r ∧ Own w.heap.size w' r (gaps k l) ∧ Keeps w w' := by
  obtain ⟨a, c, rfl, hm, hf⟩ := h.form
  have HF := Lib.hid hf
  have HB := Lib.hid hb
  clear h hf hb
  obtain ⟨hk1, hk2⟩ := hk
  go_enter Try.func29, Try.ntmps29
  go_wp2
  go_loopw [5, 10] (fun o i wr => ∃ (j : Nat) (L : List Int), i = .int .i64 j ∧ j ≤ l.length ∧ L = (List.range j).map (gapAt k l) ∧ Own w.heap.size wr o L ∧ Keeps w wr) (fun _ i _ => l.length - (intOf i).toNat)
  case atStart => exact ⟨0, [], rfl, Nat.zero_le _, rfl, Own.nil _ _, Keeps.refl _⟩
  case round =>
    obtain ⟨j, L, rfl, hj, hL, hO, hK⟩ := hrel
    have HL := Lib.hid hL
    have HO := Lib.hid hO
    have HK := Lib.hid hK
    clear hL hO hK
    by_cases hlt : j < l.length
    · obtain ⟨b, o, rfl, hc0⟩ := HF.out j hlt
      have hc : wr.cell? ⟨b, o + j, none⟩ = some (.int .i64 (l.getD j 0)) := cell_keep HK.out hc0
      obtain ⟨b', o', he, hz0⟩ := HF.out 0 (by omega)
      cases he
      have hz : wr.cell? ⟨b, o, none⟩ = some (.int .i64 (l.getD 0 0)) := cell_keep HK.out hz0
      have hbx := HB.out j hlt
      have hbz := HB.out 0 (by omega)
      generalize hx : l.getD j 0 = x at hc hbx
      generalize hy : l.getD 0 0 = z at hz hbz
      have Hx := Lib.hid hx
      have Hz := Lib.hid hy
      obtain ⟨hbx1, hbx2⟩ := hbx
      obtain ⟨hbz1, hbz2⟩ := hbz
      clear hx hy hc0 hz0
      have hlen : L.length < 1000000000 := by rw [HL.out]; simp; omega
      by_cases hn : j + 1 < l.length
      · obtain ⟨b', o', he, hn0⟩ := HF.out (j + 1) hn
        cases he
        have hnc : wr.cell? ⟨b, o + (j + 1), none⟩ = some (.int .i64 (l.getD (j + 1) 0)) := cell_keep HK.out hn0
        have hbn := HB.out (j + 1) hn
        generalize hy : l.getD (j + 1) 0 = y at hnc hbn
        obtain ⟨hbn1, hbn2⟩ := hbn
        have Hy := Lib.hid hy
        have hn' : (j : Int) + 1 < (l.length : Int) := by omega
        have htn : ((j : Int) + 1).toNat = j + 1 := by omega
        clear hy hn0
        go_wp2_with (at_builtin; refine wpL_app1 HO.out hlen HK.out.size rfl rfl rfl rfl ?_; intro v' w' hA)
        go_roundw
        case rel =>
          refine ⟨j + 1, _, by go_num, by omega, ?_, hA.own, hA.keeps HK.out (Nat.le_refl _)⟩
          have e : gapAt k l j = y - x := by unfold gapAt; rw [if_pos hn, Hy.out, Hx.out]
          rw [List.range_succ, List.map_append, HL.out, List.map_cons, List.map_nil, e]
        case measure => simp [intOf]; omega
      · have hn' : ¬ (j : Int) + 1 < (l.length : Int) := by omega
        go_wp2_with (at_builtin; refine wpL_app1 HO.out hlen HK.out.size rfl rfl rfl rfl ?_; intro v' w' hA)
        go_roundw
        case rel =>
          refine ⟨j + 1, _, by go_num, by omega, ?_, hA.own, hA.keeps HK.out (Nat.le_refl _)⟩
          have e : gapAt k l j = (z + k) - x := by unfold gapAt; rw [if_neg hn, Hz.out, Hx.out]; try omega
          rw [List.range_succ, List.map_append, HL.out, List.map_cons, List.map_nil, e]
        case measure => simp [intOf]; omega
    · go_wp2
      go_ret
      refine ⟨_, rfl, ?_, HK.out⟩
      have := HO.out
      rw [HL.out, show j = l.length by omega] at this
      exact this

set_option maxHeartbeats 400000 in
theorem implGapsOf_any (k : Int) (v : Value) (l : List Int) (w : World) (hk : I64 k) (h : Ints w v l) (hl : ∀ n ∈ l, I64 n) (hs : l.length ≤ 1048576) :
    Calls Try.prog 17 #[.int .i64 k, v] w (RetSB w (fGapsOfImpl k l)) := by
  have H := Lib.hid h
  have HL := Lib.hid hl
  obtain ⟨a, c, rfl, hm, hf⟩ := h.form
  clear h hl hf hk
  have HS : Hid (fGapsOfImpl k l = if marksB k l then some (gaps k l) else none) := rfl
  cases hb : marksB k l
  · go_enter Try.func17, Try.ntmps17
    go_wp2_with (go_at_call 30; refine (marksOk_any _ _ _ _ H.out).mono ?_; rintro e w' ⟨rfl, rfl⟩)
    go_ret2
    rw [HS.out, hb]
    exact RetSB.none (Keeps.refl _)
  · have hbb := marksB_bounds hb
    obtain ⟨h1, h2, h3, h4⟩ := hbb
    have H4 := Lib.hid h4
    clear h4
    go_enter Try.func17, Try.ntmps17
    go_wp2_with (first | (go_at_call 30; refine (marksOk_any _ _ _ _ H.out).mono ?_; rintro e w' ⟨rfl, rfl⟩) | (go_at_call 31; refine (gapsOf_any _ _ _ _ H.out ⟨h1, h2⟩ h3 H4.out).mono ?_; rintro e w1 ⟨r, rfl, ho, hk⟩))
    go_ret2
    rw [HS.out, hb]
    exact ⟨_, rfl, ho, by simp [gaps]; omega, hk⟩

set_option maxHeartbeats 400000 in
theorem specGapsOf_any (k : Int) (v : Value) (l : List Int) (w : World) (hk : I64 k) (h : Ints w v l) (hl : ∀ n ∈ l, I64 n) (hs : l.length ≤ 1048576) :
    Calls Try.prog 16 #[.int .i64 k, v] w (RetSB w (fGapsOfSpec k l)) := by
  have H := Lib.hid h
  have HL := Lib.hid hl
  obtain ⟨a, c, rfl, hm, hf⟩ := h.form
  clear h hl hf hk
  have HS : Hid (fGapsOfSpec k l = if marksB k l then some (gaps k l) else none) := rfl
  cases hb : marksB k l
  · go_enter Try.func16, Try.ntmps16
    go_wp2_with (go_at_call 28; refine (cyMarks_any _ _ _ _ H.out).mono ?_; rintro e w' ⟨rfl, rfl⟩)
    go_ret2
    rw [HS.out, hb]
    exact RetSB.none (Keeps.refl _)
  · have hbb := marksB_bounds hb
    obtain ⟨h1, h2, h3, h4⟩ := hbb
    have H4 := Lib.hid h4
    clear h4
    go_enter Try.func16, Try.ntmps16
    go_wp2_with (first | (go_at_call 28; refine (cyMarks_any _ _ _ _ H.out).mono ?_; rintro e w' ⟨rfl, rfl⟩) | (go_at_call 29; refine (cyGaps_any _ _ _ _ H.out ⟨h1, h2⟩ h3 H4.out).mono ?_; rintro e w1 ⟨r, rfl, ho, hk⟩))
    go_ret2
    rw [HS.out, hb]
    exact ⟨_, rfl, ho, by simp [gaps]; omega, hk⟩
end Go.Proofs.Ytnamiakelifpiaa
