/- The contracts of l1Sign, prOrder, waArcs, waGood, hasLabels and both IsWalkProblem functions. -/
import Derived.Test.YtcjmpodljhcbhaaSeq
import Derived.Test.YtcjmpodljhcbhaaAll
import Derived.Test.YtcjmpodljhcbhaaWp
namespace Go.Proofs.Ytcjmpodljhcbhaa
open Go.RowKit
set_option linter.unusedSimpArgs false
set_option linter.unusedVariables false

def sgn (n : Int) : Int := if 0 < n then 1 else if n < 0 then -1 else 0
theorem l1Sign_any (n : Int) (w : World) : Calls Try.prog 113 #[.int .i64 n] w fun e w' => e = .returned (.int .i64 (sgn n)) ∧ w = w' := by
  have HS : Hid (sgn n = if 0 < n then 1 else if n < 0 then -1 else 0) := rfl
  by_cases h1 : 0 < n
  · go_enter Try.func113, Try.ntmps113
    go_wp2
    go_ret
    exact ⟨ret_int (by rw [HS.out, if_pos h1]), rfl⟩
  · by_cases h2 : n < 0
    · go_enter Try.func113, Try.ntmps113
      go_wp2
      go_ret
      exact ⟨ret_int (by rw [HS.out, if_neg (by omega), if_pos h2]), rfl⟩
    · go_enter Try.func113, Try.ntmps113
      go_wp2
      go_ret
      exact ⟨ret_int (by rw [HS.out, if_neg (by omega), if_neg (by omega)]), rfl⟩

theorem lexCmp_drop_le {a b : List Int} {k : Nat} (hl : a.length = b.length) (h : a.length ≤ k) : lexCmp (a.drop k) (b.drop k) = 0 := by
  rw [lexCmp_drop_end h, if_neg (by omega)]

set_option maxHeartbeats 800000 in
theorem prOrder_any (va vb : Value) (la lb : List Int) (w : World) (ha : Ints w va la) (hb : Ints w vb lb) (hl : la.length = lb.length)
    (ba : ∀ i, i < la.length → -1000000000000000 ≤ la.getD i 0 ∧ la.getD i 0 ≤ 1000000000000000) (bb : ∀ i, i < lb.length → -1000000000000000 ≤ lb.getD i 0 ∧ lb.getD i 0 ≤ 1000000000000000) :
    Calls Try.prog 100 #[va, vb] w fun e w' => e = .returned (.int .i64 (lexCmp la lb)) ∧ w = w' := by
  obtain ⟨a, ca, rfl, ma, fa⟩ := ha.form
  obtain ⟨b, cb, rfl, mb, fb⟩ := hb.form
  have Fa := Lib.hid fa
  have Fb := Lib.hid fb
  have BA := Lib.hid ba
  have BB := Lib.hid bb
  have HL := Lib.hid hl
  clear fa fb ha hb ba bb hl
  go_enter Try.func100, Try.ntmps100
  go_wp2
  go_loop [9] (fun i => ∃ k : Nat, i = .int .i64 k ∧ k ≤ la.length ∧ lexCmp (la.drop k) (lb.drop k) = lexCmp la lb) (fun i => la.length - (intOf i).toNat)
  case atStart => exact ⟨0, rfl, Nat.zero_le _, rfl⟩
  case round =>
    obtain ⟨k, rfl, hk1, hlex⟩ := hrel
    have HX := Lib.hid hlex
    clear hlex
    by_cases hlt : k < la.length
    · have hlb : k < lb.length := by have := HL.out; omega
      obtain ⟨ba, oa, rfl, hca⟩ := Fa.out k hlt
      obtain ⟨bb, ob, rfl, hcb⟩ := Fb.out k hlb
      have HD := Lib.hid (lexCmp_drop hlt hlb)
      have b1 := BA.out k hlt
      have b2 := BB.out k hlb
      generalize la.getD k 0 = x at hca HD b1
      generalize lb.getD k 0 = y at hcb HD b2
      obtain ⟨b11, b12⟩ := b1
      obtain ⟨b21, b22⟩ := b2
      cases hne : (x != y)
      · have he : x = y := by simpa using hne
        have HE := Lib.hid he
        clear he
        go_wp2
        go_round
        case rel => exact ⟨k + 1, by go_num, by omega, by rw [← HX.out, HD.out, if_neg (by have := HE.out; omega), if_neg (by have := HE.out; omega)]⟩
        case measure => simp [intOf]; omega
      · have he : x ≠ y := by simpa using hne
        have HE := Lib.hid he
        clear he
        have HS : Hid (sgn (x - y) = lexCmp la lb) := by
          show _ = _
          have := HE.out
          rw [← HX.out, HD.out, sgn]
          by_cases h1 : x < y
          · rw [if_neg (by omega), if_pos (by omega), if_pos h1]
          · rw [if_pos (by omega), if_neg h1, if_pos (by omega)]
        go_wp2_with (go_at_call 113; refine (l1Sign_any _ _).mono ?_; rintro e w' ⟨rfl, rfl⟩; rw [HS.out])
        go_ret
        exact ⟨rfl, rfl⟩
    · go_wp2
      go_ret
      exact ⟨ret_int (by rw [← HX.out, lexCmp_drop_le HL.out (by omega)]), rfl⟩

/-! ### Walk problems -/
def arcOk (n : Int) (LL : List (List Int)) (i : Nat) : Bool :=
  (((LL.getD i []).length : Int) == 2) && allIn (LL.getD i []) 0 (n - 1) && (decide (i = 0) || decide (lexCmp (LL.getD (i - 1) []) (LL.getD i []) < 0))
def arcsOk (n : Int) (LL : List (List Int)) : Bool := (List.range LL.length).all (arcOk n LL)
def walkGood (x : WP) : Bool := inB x.labels 1 12 && arcsOk x.labels x.arcs

theorem rangeAll_false {n k : Nat} {p : Nat → Bool} (hk : k < n) (h : p k = false) : (List.range n).all p = false := by
  rw [List.all_eq_false]
  exact ⟨k, by simpa using hk, by simp [h]⟩
theorem rangeAll_true {n : Nat} {p : Nat → Bool} (h : ∀ k, k < n → p k = true) : (List.range n).all p = true := by
  rw [List.all_eq_true]
  intro k hk
  exact h k (by simpa using hk)
theorem arcOk_parts {n : Int} {LL : List (List Int)} {i : Nat} (h : arcOk n LL i = true) : (LL.getD i []).length = 2 ∧ ∀ j, j < (LL.getD i []).length → 0 ≤ (LL.getD i []).getD j 0 ∧ (LL.getD i []).getD j 0 ≤ n - 1 := by
  simp only [arcOk, Bool.and_eq_true, beq_iff_eq] at h
  exact ⟨by have := h.1.1; omega, allIn_bounds h.1.2⟩

set_option maxHeartbeats 2000000 in
theorem waArcs_any (v : Value) (LL : List (List Int)) (n : Int) (w : World) (h : IntRows w v LL) (hn : 1 ≤ n) (hn2 : n ≤ 1000) :
    Calls Try.prog 91 #[v, .int .i64 n] w fun e w' => e = .returned (.bool (arcsOk n LL)) ∧ w = w' := by
  obtain ⟨a, c, rfl, hm, hf⟩ := h.form
  have HF := Lib.hid hf
  clear h hf
  have HT : Hid (arcsOk n LL = (List.range LL.length).all (arcOk n LL)) := rfl
  go_enter Try.func91, Try.ntmps91
  go_wp2
  go_loop [9] (fun i => ∃ k : Nat, i = .int .i64 k ∧ k ≤ LL.length ∧ ∀ j, j < k → arcOk n LL j = true) (fun i => LL.length - (intOf i).toNat)
  case atStart => exact ⟨0, rfl, Nat.zero_le _, fun j hj => by omega⟩
  case round =>
    obtain ⟨k, rfl, hk, hall⟩ := hrel
    have HA := Lib.hid hall
    clear hall
    by_cases hlt : k < LL.length
    · obtain ⟨b, o, u, rfl, hcell, hu⟩ := HF.out k hlt
      have HU := Lib.hid hu
      obtain ⟨ua, uc, rfl, hum, _⟩ := hu.form
      have HR : Hid (arcOk n LL k = ((((LL.getD k []).length : Int) == 2) && allIn (LL.getD k []) 0 (n - 1) && (decide (k = 0) || decide (lexCmp (LL.getD (k - 1) []) (LL.getD k []) < 0)))) := rfl
      have step : arcOk n LL k = true → ∀ j, j < k + 1 → arcOk n LL j = true := by
        intro hp j hj
        by_cases hjk : j = k
        · rw [hjk]; exact hp
        · exact HA.out j (by omega)
      have STEP := Lib.hid step
      clear step hu
      have hp : ∃ pv, (0 < k → w.cell? ⟨b, o + (k - 1), none⟩ = some pv ∧ Ints w pv (LL.getD (k - 1) [])) := by
        by_cases h0 : 0 < k
        · obtain ⟨b', o', u', he, hc', hu'⟩ := HF.out (k - 1) (by omega)
          cases he
          exact ⟨u', fun _ => ⟨hc', hu'⟩⟩
        · exact ⟨undef, fun h => absurd h h0⟩
      obtain ⟨pv, hp⟩ := hp
      have HP := Lib.hid hp
      have HPP : Hid (0 < k → (LL.getD (k - 1) []).length = 2 ∧ ∀ j, j < (LL.getD (k - 1) []).length → 0 ≤ (LL.getD (k - 1) []).getD j 0 ∧ (LL.getD (k - 1) []).getD j 0 ≤ n - 1) := fun h0 => arcOk_parts (HA.out (k - 1) (by omega))
      clear hp
      generalize LL.getD k [] = r at HU HR hum hcell
      generalize LL.getD (k - 1) [] = q at HP HR HPP
      cases h2 : ((r.length : Int) != 2)
      case true =>
        have h2' : ((r.length : Int) == 2) = false := by simpa using h2
        go_wp2
        go_ret
        exact ⟨by rw [HT.out, rangeAll_false hlt (by rw [HR.out, h2']; rfl)]; rfl, rfl⟩
      have h2' : ((r.length : Int) == 2) = true := by simpa using h2
      have H2 : Hid (r.length = 2) := by show _ = _; simp at h2'; omega
      cases hal : allIn r 0 (n - 1)
      · have HAL := Lib.hid hal
        clear hal
        go_wp2_with (go_at_call 77; refine (l1All_any _ r _ _ _ HU.out).mono ?_; rintro e w' ⟨rfl, rfl⟩; rw [HAL.out])
        go_ret
        exact ⟨by rw [HT.out, rangeAll_false hlt (by rw [HR.out, h2', HAL.out]; rfl)]; rfl, rfl⟩
      have HB := Lib.hid (allIn_bounds hal)
      have HAL := Lib.hid hal
      clear hal
      by_cases h0 : (0 : Int) < (k : Int)
      · have h0n : 0 < k := by omega
        obtain ⟨hpc, hpu⟩ := HP.out h0n
        have HPU := Lib.hid hpu
        obtain ⟨pa, pc, rfl, _, _⟩ := hpu.form
        have hsub : ((k : Int) - 1).toNat = k - 1 := by omega
        obtain ⟨hq1, hq2⟩ := HPP.out h0n
        have HQ1 := Lib.hid hq1
        have HQ2 := Lib.hid hq2
        clear hpu hq1 hq2
        have HPR : Hid (Calls Try.prog 100 #[.slice pa q.length pc, .slice ua r.length uc] w fun e w' => e = .returned (.int .i64 (lexCmp q r)) ∧ w = w') :=
          prOrder_any _ _ q r w HPU.out HU.out (by rw [HQ1.out, H2.out]) (fun i hi => by have := HQ2.out i hi; omega) (fun i hi => by have := HB.out i hi; omega)
        cases hx : decide (0 ≤ lexCmp q r)
        · have hx' : lexCmp q r < 0 := by simpa using hx
          have HX := Lib.hid hx'
          clear hx hx'
          generalize lexCmp q r = z at HPR HX HR
          have hz := HX.out
          have hz' : ¬ 0 ≤ z := by omega
          go_wp2_with (first | (go_at_call 77; refine (l1All_any _ r _ _ _ HU.out).mono ?_; rintro e w' ⟨rfl, rfl⟩; rw [HAL.out]) | (go_at_call 100; refine (HPR.out).mono ?_; rintro e w' ⟨rfl, rfl⟩))
          go_round
          case rel => exact ⟨k + 1, by go_num, by omega, STEP.out (by rw [HR.out, h2', HAL.out]; simp; omega)⟩
          case measure => simp [intOf]; omega
        · have hx' : 0 ≤ lexCmp q r := by simpa using hx
          have HX := Lib.hid hx'
          clear hx hx'
          generalize lexCmp q r = z at HPR HX HR
          have hz := HX.out
          go_wp2_with (first | (go_at_call 77; refine (l1All_any _ r _ _ _ HU.out).mono ?_; rintro e w' ⟨rfl, rfl⟩; rw [HAL.out]) | (go_at_call 100; refine (HPR.out).mono ?_; rintro e w' ⟨rfl, rfl⟩))
          go_ret
          exact ⟨by rw [HT.out, rangeAll_false hlt (by rw [HR.out, h2', HAL.out]; simp; omega)]; rfl, rfl⟩
      · go_wp2_with (go_at_call 77; refine (l1All_any _ r _ _ _ HU.out).mono ?_; rintro e w' ⟨rfl, rfl⟩; rw [HAL.out])
        go_round
        case rel => exact ⟨k + 1, by go_num, by omega, STEP.out (by rw [HR.out, h2', HAL.out]; simp; omega)⟩
        case measure => simp [intOf]; omega
    · go_wp2
      go_ret
      exact ⟨by rw [HT.out, rangeAll_true (fun j hj => HA.out j (by omega))]; rfl, rfl⟩

set_option maxHeartbeats 400000 in
theorem waGood_any (v : Value) (x : WP) (w : World) (h : RdW w v x) :
    Calls Try.prog 54 #[v] w fun e w' => e = .returned (.bool (walkGood x)) ∧ Keeps w w' := by
  obtain ⟨v1, rfl, r1⟩ := h
  have R1 := Lib.hid r1
  obtain ⟨a1, c1, rfl, m1, _⟩ := r1.form
  have HG : Hid (walkGood x = (inB x.labels 1 12 && arcsOk x.labels x.arcs)) := rfl
  clear r1
  cases hb : inB x.labels 1 12
  · have HB := Lib.hid hb
    go_enter Try.func54, Try.ntmps54
    go_wp2_with (go_at_call 65; refine (l1In_any _ _ _ _).mono ?_; rintro e w' ⟨rfl, rfl⟩; rw [HB.out])
    go_ret
    exact ⟨by rw [HG.out, HB.out]; rfl, (Keeps.refl _).alloc _⟩
  · have HB := Lib.hid hb
    have b := inB_true.1 hb
    obtain ⟨b1, b2⟩ := b
    clear hb
    go_enter Try.func54, Try.ntmps54
    go_wp2_with (first | (go_at_call 65; refine (l1In_any _ _ _ _).mono ?_; rintro e w' ⟨rfl, rfl⟩; rw [HB.out]) | (go_at_call 91; refine (waArcs_any _ x.arcs _ _ (R1.out.keep ((Keeps.refl _).alloc _)) (by omega) (by omega)).mono ?_; rintro e w' ⟨rfl, rfl⟩))
    go_ret
    exact ⟨by rw [HG.out, HB.out]; rfl, (Keeps.refl _).alloc _⟩

theorem hasLabelsW_any (v : Value) (x : WP) (lv : Value) (l : List Int) (w : World) (h : RdW w v x) (hl : Ints w lv l) (h1 : 1 ≤ x.labels) (h2 : x.labels ≤ 12) :
    Calls Try.prog 57 #[v, lv] w fun e w' => e = .returned (.bool (allIn l 0 (x.labels - 1))) ∧ Keeps w w' := by
  obtain ⟨v1, rfl, r1⟩ := h
  have HL := Lib.hid hl
  obtain ⟨a1, c1, rfl, m1, _⟩ := r1.form
  obtain ⟨la, lc, rfl, lm, _⟩ := hl.form
  clear r1 hl
  have HK : Hid (Keeps w (w.alloc (.cells #[.int .i64 x.labels, .slice a1 x.arcs.length c1] 27))) := (Keeps.refl _).alloc _
  go_enter Try.func57, Try.ntmps57
  go_wp2_with (go_at_call 92; refine (allWithin_any _ l _ _ _ (HL.out.keep HK.out)).mono ?_; rintro e w' ⟨rfl, hk⟩)
  go_ret
  exact ⟨rfl, Keeps.trans HK.out hk⟩
end Go.Proofs.Ytcjmpodljhcbhaa
