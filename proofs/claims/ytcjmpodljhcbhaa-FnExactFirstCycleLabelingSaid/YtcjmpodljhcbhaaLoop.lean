/- The contracts of both LoopOf functions, and that they answer alike. -/
import Derived.Test.YtcjmpodljhcbhaaBit
namespace Go.Proofs.Ytcjmpodljhcbhaa
open Go.RowKit
set_option linter.unusedSimpArgs false
set_option linter.unusedVariables false

/-- The spec's waLoop: the first arc between a label and itself. -/
def isLoop (arcs : List (List Int)) (i : Nat) : Bool := (arcs.getD i []).getD 0 0 == (arcs.getD i []).getD 1 0
def waLoopF (arcs : List (List Int)) : Int := match (List.range arcs.length).find? (isLoop arcs) with | some i => (arcs.getD i []).getD 0 0 | none => -1

theorem waLoopF_some {arcs : List (List Int)} {k : Nat} (hk : k < arcs.length) (h : isLoop arcs k = true) (hb : ∀ j, j < k → isLoop arcs j = false) : waLoopF arcs = (arcs.getD k []).getD 0 0 := by
  have : (List.range arcs.length).find? (isLoop arcs) = some k := by
    rw [List.find?_range_eq_some]
    exact ⟨h, by simpa using hk, fun j hj => by simp [hb j hj]⟩
  simp [waLoopF, this]
theorem waLoopF_none {arcs : List (List Int)} (h : ∀ j, j < arcs.length → isLoop arcs j = false) : waLoopF arcs = -1 := by
  have : (List.range arcs.length).find? (isLoop arcs) = none := by
    rw [List.find?_eq_none]
    intro x hx
    simp [h x (by simpa using hx)]
  simp [waLoopF, this]

set_option maxRecDepth 100000 in
set_option maxHeartbeats 2000000 in
theorem waLoop_any (v : Value) (x : WP) (w : World) (h : RdW w v x) (hg : walkGood x = true) :
    Calls Try.prog 60 #[v] w fun e w' => e = .returned (.int .i64 (waLoopF x.arcs)) ∧ Keeps w w' := by
  obtain ⟨v1, rfl, r1⟩ := h
  have R1 := Lib.hid r1
  obtain ⟨a1, c1, rfl, m1, _⟩ := r1.form
  obtain ⟨b1, b2, har⟩ := walkGood_arc hg
  have HAR := Lib.hid har
  clear r1 har hg
  generalize x.labels = xl at *
  generalize x.arcs = arcs at *
  have K0 : Hid (Keeps w (w.alloc (.cells #[.int .i64 xl, .slice a1 arcs.length c1] 27))) := (Keeps.refl _).alloc _
  go_enter Try.func60, Try.ntmps60
  go_wp2
  go_loopw [8] (fun i wr => ∃ j : Nat, i = .int .i64 j ∧ j ≤ arcs.length ∧ (∀ k, k < j → isLoop arcs k = false) ∧ Keeps w wr) (fun i _ => arcs.length - (intOf i).toNat)
  case atStart => exact ⟨0, rfl, Nat.zero_le _, fun k hk => by omega, K0.out⟩
  case round =>
    obtain ⟨j, rfl, hj, hall, hK⟩ := hrel
    have HA := Lib.hid hall
    have HK := Lib.hid hK
    clear hall hK K0
    by_cases hlt : j < arcs.length
    · obtain ⟨_, _, e1, _, hf⟩ := (R1.out.keep HK.out).form
      cases e1
      obtain ⟨b, o, u, rfl, hcell, hu⟩ := hf j hlt
      obtain ⟨p, q, hpq, hp, hq⟩ := HAR.out j hlt
      rw [hpq] at hu
      obtain ⟨rb, ro, rc, rfl, hr0, hr1⟩ := hu.pair
      have HPQ := Lib.hid hpq
      have HL : Hid (isLoop arcs j = ((p : Int) == (q : Int))) := by show _ = _; rw [isLoop, hpq]; rfl
      clear hpq hu hf
      cases hpe : ((p : Int) == (q : Int))
      · have HE := Lib.hid hpe
        go_wp2
        go_quiet (fail)
        go_wp2
        go_roundw
        case rel =>
          refine ⟨j + 1, by go_num, by omega, fun k hk => ?_, Keeps.drewN HK.out _⟩
          by_cases e : k = j
          · rw [e, HL.out, HE.out]
          · exact HA.out k (by omega)
        case measure => simp [intOf]; omega
      · have HE := Lib.hid hpe
        go_wp2
        go_quiet (fail)
        go_wp2
        go_ret
        exact ⟨ret_int (by rw [waLoopF_some hlt (by rw [HL.out, HE.out]) HA.out, HPQ.out]; rfl), Keeps.drewN HK.out _⟩
    · go_wp2
      go_ret
      exact ⟨ret_int (by rw [waLoopF_none (fun k hk => HA.out k (by omega))]), HK.out⟩
def fLoopOfSpec (x : WP) : Int × Bool := if walkGood x then (if waLoopF x.arcs < 0 then (0, false) else (waLoopF x.arcs, true)) else (0, false)
def fLoopOfImpl (x : WP) : Int × Bool := if walkGood x then (if loopF x < 0 then (0, false) else (loopF x, true)) else (0, false)

set_option maxRecDepth 100000 in
set_option maxHeartbeats 2000000 in
theorem specLoopOf_any (v : Value) (x : WP) (w : World) (h : RdW w v x) (ok : okW x) (hs : szW x ≤ 1048576) :
    Calls Try.prog 20 #[v] w fun e w' => e = .returned (.tuple #[.int .i64 (fLoopOfSpec x).1, .bool (fLoopOfSpec x).2]) ∧ Keeps w w' := by
  obtain ⟨v1, rfl, r1⟩ := h
  have R1 := Lib.hid r1
  obtain ⟨a1, c1, rfl, m1, _⟩ := r1.form
  clear r1 ok
  have HF : Hid (fLoopOfSpec x = if walkGood x then (if waLoopF x.arcs < 0 then (0, false) else (waLoopF x.arcs, true)) else (0, false)) := rfl
  have K0 : Hid (Keeps w (w.alloc (.cells #[.int .i64 x.labels, .slice a1 x.arcs.length c1] 27))) := (Keeps.refl _).alloc _
  have C0 : Hid ((w.alloc (.cells #[.int .i64 x.labels, .slice a1 x.arcs.length c1] 27)).cell? ⟨w.heap.size, 0, none⟩ = some (.int .i64 x.labels)) := by show _ = _; rw [World.cell?_alloc_at _ _ _ _ rfl]; rfl
  have C1 : Hid ((w.alloc (.cells #[.int .i64 x.labels, .slice a1 x.arcs.length c1] 27)).cell? ⟨w.heap.size, 1, none⟩ = some (.slice a1 x.arcs.length c1)) := by show _ = _; rw [World.cell?_alloc_at _ _ _ _ rfl]; rfl
  cases hg : walkGood x
  · have HG := Lib.hid hg
    clear hg
    go_enter Try.func20, Try.ntmps20
    go_wp2_with (go_at_call 54; refine (waGood_any _ x _ ⟨_, rfl, R1.out.keep K0.out⟩).mono ?_; rintro e w1 ⟨rfl, hk1⟩; rw [HG.out]; have HK1 := Lib.hid hk1; clear hk1)
    go_ret2
    exact ⟨by rw [HF.out, HG.out]; rfl, Keeps.trans K0.out HK1.out⟩
  have HG := Lib.hid hg
  clear hg
  by_cases hv : waLoopF x.arcs < 0
  · have HV := Lib.hid hv
    go_enter Try.func20, Try.ntmps20
    go_wp2_with fail
    refine (waGood_any _ x _ ⟨_, rfl, R1.out.keep K0.out⟩).mono ?_
    rintro e w1 ⟨rfl, hk1⟩
    rw [HG.out]
    have HK1 := Lib.hid (Keeps.trans K0.out hk1)
    have D0 := cell_keep hk1 C0.out
    have D1 := cell_keep hk1 C1.out
    clear hk1
    go_wp2_with fail
    refine (waLoop_any _ x _ ⟨_, rfl, R1.out.keep HK1.out⟩ HG.out).mono ?_
    rintro e w2 ⟨rfl, hk2⟩
    have HK2 := Lib.hid (Keeps.trans HK1.out hk2)
    clear hk2
    go_wp2
    go_ret2
    exact ⟨by rw [HF.out, HG.out, if_pos rfl, if_pos HV.out]; rfl, HK2.out⟩
  · have HV := Lib.hid hv
    go_enter Try.func20, Try.ntmps20
    go_wp2_with fail
    refine (waGood_any _ x _ ⟨_, rfl, R1.out.keep K0.out⟩).mono ?_
    rintro e w1 ⟨rfl, hk1⟩
    rw [HG.out]
    have HK1 := Lib.hid (Keeps.trans K0.out hk1)
    have D0 := cell_keep hk1 C0.out
    have D1 := cell_keep hk1 C1.out
    clear hk1
    go_wp2_with fail
    refine (waLoop_any _ x _ ⟨_, rfl, R1.out.keep HK1.out⟩ HG.out).mono ?_
    rintro e w2 ⟨rfl, hk2⟩
    have HK2 := Lib.hid (Keeps.trans HK1.out hk2)
    have E0 := cell_keep hk2 D0
    have E1 := cell_keep hk2 D1
    clear hk2
    go_wp2_with fail
    refine (waLoop_any _ x _ ⟨_, rfl, R1.out.keep HK2.out⟩ HG.out).mono ?_
    rintro e w3 ⟨rfl, hk3⟩
    have HK3 := Lib.hid (Keeps.trans HK2.out hk3)
    clear hk3
    go_wp2
    go_ret2
    exact ⟨by rw [HF.out, HG.out, if_pos rfl, if_neg (Int.not_lt.2 HV.out)]; rfl, HK3.out⟩

set_option maxRecDepth 100000 in
set_option maxHeartbeats 2000000 in
theorem implLoopOf_any (v : Value) (x : WP) (w : World) (h : RdW w v x) (ok : okW x) (hs : szW x ≤ 1048576) :
    Calls Try.prog 21 #[v] w fun e w' => e = .returned (.tuple #[.int .i64 (fLoopOfImpl x).1, .bool (fLoopOfImpl x).2]) ∧ Keeps w w' := by
  obtain ⟨v1, rfl, r1⟩ := h
  have R1 := Lib.hid r1
  obtain ⟨a1, c1, rfl, m1, _⟩ := r1.form
  clear r1 ok
  have HF : Hid (fLoopOfImpl x = if walkGood x then (if loopF x < 0 then (0, false) else (loopF x, true)) else (0, false)) := rfl
  have K0 : Hid (Keeps w (w.alloc (.cells #[.int .i64 x.labels, .slice a1 x.arcs.length c1] 27))) := (Keeps.refl _).alloc _
  have C0 : Hid ((w.alloc (.cells #[.int .i64 x.labels, .slice a1 x.arcs.length c1] 27)).cell? ⟨w.heap.size, 0, none⟩ = some (.int .i64 x.labels)) := by show _ = _; rw [World.cell?_alloc_at _ _ _ _ rfl]; rfl
  have C1 : Hid ((w.alloc (.cells #[.int .i64 x.labels, .slice a1 x.arcs.length c1] 27)).cell? ⟨w.heap.size, 1, none⟩ = some (.slice a1 x.arcs.length c1)) := by show _ = _; rw [World.cell?_alloc_at _ _ _ _ rfl]; rfl
  cases hg : walkGood x
  · have HG := Lib.hid hg
    clear hg
    go_enter Try.func21, Try.ntmps21
    go_wp2_with (go_at_call 18; refine (isWalkI_any _ x _ ⟨_, rfl, R1.out.keep K0.out⟩).mono ?_; rintro e w1 ⟨rfl, hk1⟩; rw [HG.out]; have HK1 := Lib.hid hk1; clear hk1)
    go_ret2
    exact ⟨by rw [HF.out, HG.out]; rfl, Keeps.trans K0.out HK1.out⟩
  have HG := Lib.hid hg
  clear hg
  by_cases hv : loopF x < 0
  · have HV := Lib.hid hv
    go_enter Try.func21, Try.ntmps21
    go_wp2_with fail
    refine (isWalkI_any _ x _ ⟨_, rfl, R1.out.keep K0.out⟩).mono ?_
    rintro e w1 ⟨rfl, hk1⟩
    rw [HG.out]
    have HK1 := Lib.hid (Keeps.trans K0.out hk1)
    have D0 := cell_keep hk1 C0.out
    have D1 := cell_keep hk1 C1.out
    clear hk1
    go_wp2_with fail
    refine (loopOfM_any _ x _ ⟨_, rfl, R1.out.keep HK1.out⟩ HG.out).mono ?_
    rintro e w2 ⟨rfl, hk2⟩
    have HK2 := Lib.hid (Keeps.trans HK1.out hk2)
    clear hk2
    go_wp2
    go_ret2
    exact ⟨by rw [HF.out, HG.out, if_pos rfl, if_pos HV.out]; rfl, HK2.out⟩
  · have HV := Lib.hid hv
    go_enter Try.func21, Try.ntmps21
    go_wp2_with fail
    refine (isWalkI_any _ x _ ⟨_, rfl, R1.out.keep K0.out⟩).mono ?_
    rintro e w1 ⟨rfl, hk1⟩
    rw [HG.out]
    have HK1 := Lib.hid (Keeps.trans K0.out hk1)
    have D0 := cell_keep hk1 C0.out
    have D1 := cell_keep hk1 C1.out
    clear hk1
    go_wp2_with fail
    refine (loopOfM_any _ x _ ⟨_, rfl, R1.out.keep HK1.out⟩ HG.out).mono ?_
    rintro e w2 ⟨rfl, hk2⟩
    have HK2 := Lib.hid (Keeps.trans HK1.out hk2)
    have E0 := cell_keep hk2 D0
    have E1 := cell_keep hk2 D1
    clear hk2
    go_wp2_with fail
    refine (loopOfM_any _ x _ ⟨_, rfl, R1.out.keep HK2.out⟩ HG.out).mono ?_
    rintro e w3 ⟨rfl, hk3⟩
    have HK3 := Lib.hid (Keeps.trans HK2.out hk3)
    clear hk3
    go_wp2
    go_ret2
    exact ⟨by rw [HF.out, HG.out, if_pos rfl, if_neg (Int.not_lt.2 HV.out)]; rfl, HK3.out⟩

/-! ### They answer alike -/
theorem find_least {P : Nat → Bool} {n : Nat} (h : ∃ i, i < n ∧ P i = true) : ∃ k, k < n ∧ P k = true ∧ ∀ j, j < k → P j = false := by
  induction n with
  | zero => obtain ⟨i, hi, _⟩ := h; omega
  | succ n ih =>
    by_cases hex : ∃ i, i < n ∧ P i = true
    · obtain ⟨k, hk, h1, h2⟩ := ih hex
      exact ⟨k, by omega, h1, h2⟩
    · obtain ⟨i, hi, hp⟩ := h
      have : i = n := by
        apply Classical.byContradiction
        intro hne
        exact hex ⟨i, by omega, hp⟩
      subst this
      refine ⟨i, by omega, hp, fun j hj => ?_⟩
      cases hb : P j
      · rfl
      · exact absurd ⟨j, hj, hb⟩ hex
theorem aft_test (arcs : List (List Int)) (a b j : Nat) (h : ∀ i, i < j → ∃ p q : Nat, arcs.getD i [] = [(p : Int), (q : Int)]) : (aft arcs a j).testBit b = true ↔ ∃ i, i < j ∧ arcs.getD i [] = [(a : Int), (b : Int)] := by
  induction j with
  | zero => simp [aft]
  | succ j ih =>
    have ih' := ih fun i hi => h i (by omega)
    obtain ⟨p, q, e⟩ := h j (by omega)
    rw [aft_succ, e]
    by_cases hp : p = a
    · subst hp
      simp only [List.getD_cons_zero, if_true, List.getD_cons_succ, Int.toNat_natCast, Nat.testBit_or, Bool.or_eq_true, Nat.testBit_two_pow, decide_eq_true_eq, ih']
      constructor
      · rintro (⟨i, hi, hh⟩ | rfl)
        · exact ⟨i, by omega, hh⟩
        · exact ⟨j, by omega, e⟩
      · rintro ⟨i, hi, hh⟩
        by_cases hij : i = j
        · subst hij
          rw [e] at hh
          simp at hh
          exact .inr (by omega)
        · exact .inl ⟨i, by omega, hh⟩
    · rw [if_neg (by simp; omega), ih']
      constructor
      · rintro ⟨i, hi, hh⟩
        exact ⟨i, by omega, hh⟩
      · rintro ⟨i, hi, hh⟩
        by_cases hij : i = j
        · subst hij
          rw [e] at hh
          simp at hh
          omega
        · exact ⟨i, by omega, hh⟩
theorem arcs_pairs {x : WP} (h : walkGood x = true) : ∀ i, i < x.arcs.length → ∃ p q : Nat, x.arcs.getD i [] = [(p : Int), (q : Int)] := by
  intro i hi
  obtain ⟨p, q, e, _⟩ := (walkGood_arc h).2.2 i hi
  exact ⟨p, q, e⟩
/-- An arc's place in the order. -/
def akey (arcs : List (List Int)) (i : Nat) : Int := 100 * (arcs.getD i []).getD 0 0 + (arcs.getD i []).getD 1 0
theorem akey_step {x : WP} (h : walkGood x = true) (i : Nat) (hi : i + 1 < x.arcs.length) : akey x.arcs i < akey x.arcs (i + 1) := by
  obtain ⟨b1, b2, h3⟩ := walkGood_arc h
  simp only [walkGood, Bool.and_eq_true] at h
  have h5 := List.all_eq_true.1 h.2 (i + 1) (by simpa using hi)
  simp only [arcOk, Bool.and_eq_true, Bool.or_eq_true, decide_eq_true_eq, Nat.add_sub_cancel] at h5
  have h6 := h5.2.resolve_left (by omega)
  obtain ⟨p, q, e, _, hq⟩ := h3 i (by omega)
  obtain ⟨p', q', e', _, hq'⟩ := h3 (i + 1) hi
  rw [e, e'] at h6
  simp only [lexCmp] at h6
  simp only [akey, e, e', List.getD_cons_zero, List.getD_cons_succ]
  split at h6
  · omega
  · split at h6
    · omega
    · split at h6
      · omega
      · split at h6 <;> omega
theorem akey_mono {x : WP} (h : walkGood x = true) : ∀ (d i : Nat), i + d < x.arcs.length → 0 < d → akey x.arcs i < akey x.arcs (i + d)
  | 0, i, _, hd => by omega
  | 1, i, hi, _ => akey_step h i hi
  | d + 2, i, hi, _ => Int.lt_trans (akey_mono h (d + 1) i (by omega) (by omega)) (akey_step h (i + (d + 1)) (by omega))

theorem loop_eq {x : WP} (h : walkGood x = true) : loopF x = waLoopF x.arcs := by
  have hp := arcs_pairs h
  obtain ⟨b1, b2, h3⟩ := walkGood_arc h
  by_cases hex : ∃ i, i < x.arcs.length ∧ isLoop x.arcs i = true
  · obtain ⟨k, hk, hl, hmin⟩ : ∃ k, k < x.arcs.length ∧ isLoop x.arcs k = true ∧ ∀ j, j < k → isLoop x.arcs j = false := by
      have := find_least hex
      exact this
    obtain ⟨p, q, e, hpl, _⟩ := h3 k hk
    have hpq : p = q := by rw [isLoop, e] at hl; simp at hl; omega
    subst hpq
    rw [waLoopF_some hk hl hmin, e]
    refine firstIdx_some (by omega) ((aft_test _ _ _ _ hp).2 ⟨k, hk, e⟩) fun a ha => ?_
    cases ht : (aft x.arcs a x.arcs.length).testBit a
    · rfl
    · obtain ⟨i, hi, ei⟩ := (aft_test _ _ _ _ hp).1 ht
      have hik : k ≤ i := by
        apply Nat.le_of_not_lt
        intro hlt
        have := hmin i hlt
        rw [isLoop, ei] at this; simp at this
      by_cases hki : k = i
      · subst hki
        rw [e] at ei
        simp at ei
        omega
      · have := akey_mono h (i - k) k (by omega) (by omega)
        rw [show k + (i - k) = i by omega] at this
        simp only [akey, e, ei, List.getD_cons_zero, List.getD_cons_succ] at this
        omega
  · have hn : ∀ j, j < x.arcs.length → isLoop x.arcs j = false := by
      intro j hj
      cases hb : isLoop x.arcs j
      · rfl
      · exact absurd ⟨j, hj, hb⟩ hex
    rw [waLoopF_none hn]
    refine firstIdx_none fun a _ => ?_
    cases ht : (aft x.arcs a x.arcs.length).testBit a
    · rfl
    · obtain ⟨i, hi, ei⟩ := (aft_test _ _ _ _ hp).1 ht
      have := hn i hi
      rw [isLoop, ei] at this; simp at this

theorem LoopOf_eq (x : WP) (ok : okW x) (hs : szW x ≤ 1048576) : fLoopOfImpl x = fLoopOfSpec x := by
  unfold fLoopOfImpl fLoopOfSpec
  cases h : walkGood x
  · rfl
  · rw [loop_eq h]
end Go.Proofs.Ytcjmpodljhcbhaa
