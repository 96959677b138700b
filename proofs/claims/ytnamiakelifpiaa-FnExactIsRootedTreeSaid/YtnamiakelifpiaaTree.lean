/- The contracts of roBelow, childrenOf and both IsRootedTree functions. -/
import Derived.Test.YtnamiakelifpiaaCt
import Derived.Test.YtnamiakelifpiaaMat
import Derived.Test.YtnamiakelifpiaaIdxR
namespace Go.Proofs.Ytnamiakelifpiaa
open Go.RowKit
set_option linter.unusedSimpArgs false
set_option linter.unusedVariables false

def belowStep (l : List Int) (LL : List (List Int)) (v : Nat) : List (List Int) :=
  if 0 ≤ l.getD v 0 then LL.set (l.getD v 0).toNat (LL.getD (l.getD v 0).toNat [] ++ [(v : Int)]) else LL
def below (l : List Int) (k : Nat) : List (List Int) := (List.range k).foldl (belowStep l) (List.replicate l.length [])
theorem below_succ (l : List Int) (k : Nat) : below l (k + 1) = belowStep l (below l k) k := by simp [below, List.range_succ]
theorem below_length (l : List Int) (k : Nat) : (below l k).length = l.length := by
  induction k with
  | zero => simp [below]
  | succ k ih => rw [below_succ, belowStep]; split <;> simp [ih]
theorem below_row (l : List Int) (k : Nat) : ∀ i, ((below l k).getD i []).length ≤ k := by
  induction k with
  | zero => intro i; simp [below, List.getD_eq_getElem?_getD, List.getElem?_replicate]; split <;> simp
  | succ k ih =>
    intro i
    rw [below_succ, belowStep]
    split
    · by_cases hi : i = (l.getD k 0).toNat
      · subst hi
        by_cases hl : (l.getD k 0).toNat < (below l k).length
        · rw [getD_set_same _ _ _ _ hl]
          have := ih (l.getD k 0).toNat
          simp only [List.length_append, List.length_cons, List.length_nil]; omega
        · rw [List.set_eq_of_length_le (by omega)]
          have := ih (l.getD k 0).toNat
          omega
      · rw [getD_set_ne _ _ _ _ _ hi]
        have := ih i
        omega
    · have := ih i
      omega

/-- The call returns a matrix of its own. -/
def RetM (w0 : World) (LL : List (List Int)) (e : Ending) (w' : World) : Prop := ∃ v vs, e = .returned v ∧ MatIn w0.heap.size w' v vs LL ∧ Keeps w0 w'

set_option maxHeartbeats 800000 in
theorem roBelow_any (v : Value) (l : List Int) (w : World) (h : Ints w v l) (hl : l.length ≤ 1000000) (hb : ∀ i, i < l.length → l.getD i 0 < l.length) :
    Calls Try.prog 43 #[v] w (RetM w (below l l.length)) := by
  obtain ⟨a, c, rfl, hm, hf⟩ := h.form
  have HF := Lib.hid hf
  have HB := Lib.hid hb
  clear h hf hb
  obtain ⟨i0, hi, hz0, hz1, hz2⟩ := info_parts info_ints
  have HI := Lib.hid hi
  have HZ0 := Lib.hid hz0
  have HZ1 := Lib.hid hz1
  have HZ2 := Lib.hid hz2
  clear hi hz0 hz1 hz2
  go_enter Try.func43, Try.ntmps43
  go_wp2_with (at_make; refine wpList_make_full _ rfl _ _ 35 rfl w.heap.size 22 i0 (.slice none 0 0) 1 Try.underlying35 HI.out HZ0.out HZ1.out .i64 .i64 _ _ l.length rfl rfl rfl rfl (by rw [HZ2.out]; omega) (by unfold maxLen; omega) (Nat.le_refl _) ?_; intro w1 hown hgr)
  rw [replicate_slices] at hown
  have H1 : Hid (MatIn w.heap.size w1 (.slice (some ⟨w.heap.size, 0, none⟩) l.length l.length) (List.replicate l.length (.slice none 0 0)) (below l 0)) := MatIn.made hown
  have H2 : Hid (Below w.heap.size w w1) := (Below.refl _ _).grown hgr (Nat.le_refl _) (by simp)
  clear hown hgr HI HZ0 HZ1 HZ2
  go_wp2
  go_loopw [11] (fun i wr => ∃ (k : Nat) (vs : List Value) (LL : List (List Int)), k ≤ l.length ∧ i = .int .i64 k ∧ LL = below l k ∧ MatIn w.heap.size wr (.slice (some ⟨w.heap.size, 0, none⟩) l.length l.length) vs LL ∧ Keeps w wr) (fun i _ => l.length - (intOf i).toNat)
  case atStart => exact ⟨0, _, _, Nat.zero_le _, rfl, rfl, H1.out, H2.out⟩
  case round =>
    obtain ⟨k, vs, LL, hk, rfl, hLL, hO, hK⟩ := hrel
    have HL := Lib.hid hLL
    have HO := Lib.hid hO
    have HK := Lib.hid hK
    clear hLL hO hK H1 H2
    by_cases hlt : k < l.length
    · obtain ⟨b, o, rfl, hc0⟩ := HF.out k hlt
      have hc := cell_keep HK.out hc0
      have hbk := HB.out k hlt
      have HST : Hid (below l (k + 1) = if 0 ≤ l.getD k 0 then LL.set (l.getD k 0).toNat (LL.getD (l.getD k 0).toNat [] ++ [(k : Int)]) else LL) := by
        show _ = _
        rw [below_succ, belowStep, HL.out]
      have HLN : Hid (LL.length = l.length) := by show _ = _; rw [HL.out, below_length]
      have HRL : Hid (∀ i, (LL.getD i []).length ≤ k) := by show ∀ i, _; rw [HL.out]; exact below_row l k
      clear hc0
      generalize l.getD k 0 = x at hc hbk HST
      by_cases hx : 0 ≤ x
      · obtain ⟨U, rfl⟩ := Int.eq_ofNat_of_zero_le hx
        have hU : U < l.length := by omega
        obtain ⟨g, cap, hv, hcell⟩ := HO.out.form (by rw [HLN.out]; omega)
        simp only [Value.slice.injEq, Option.some.injEq, Addr.mk.injEq] at hv
        obtain ⟨⟨rfl, -⟩, -, rfl⟩ := hv
        obtain ⟨c1, c2⟩ := hcell U (by rw [HLN.out]; exact hU)
        clear hcell
        have hown : Hid (Own w.heap.size wr (vs.getD U undef) (LL.getD U [])) := HO.out.own U (by rw [HLN.out]; exact hU)
        have HAP : Hid (∀ v' w', App w.heap.size wr (vs.getD U undef) (LL.getD U []) [(k : Int)] v' w' → MatIn w.heap.size (w'.setCell ⟨w.heap.size, U, none⟩ v') (.slice (some ⟨w.heap.size, 0, none⟩) l.length l.length) (vs.set U v') (LL.set U (LL.getD U [] ++ [(k : Int)])) ∧ (∃ u, w'.cell? ⟨w.heap.size, U, none⟩ = some u) ∧ w'.frozen? ⟨w.heap.size, U, none⟩ = false) := by
          intro v' w' hA
          refine ⟨HO.out.app (by rw [HLN.out]; exact hU) (Keeps.refl _) hA, ?_⟩
          have hr := World.ownsRow.kept HO.out.row hA.grown (owns_apart_ty (by decide) HO.out.row hown.out)
          rw [HLN.out] at hr
          have e1 := World.ownsRow.cellAt hr U (by omega)
          have e2 := World.ownsRow.frozenAt hr U
          have := HO.out.len
          rw [List.getElem?_eq_getElem (by rw [this, HLN.out]; exact hU)] at e1
          exact ⟨⟨_, e1⟩, e2⟩
        have hrl := HRL.out U
        generalize vs.getD U undef = rv at c1 hown HAP
        go_wp2_with (at_builtin; refine wpL_app1 hown.out (by omega) HK.out.size rfl rfl rfl rfl ?_; intro v' w' hA; obtain ⟨na, nn, nc, rfl⟩ := hA.own.sl; obtain ⟨hM, ⟨u', d1⟩, d2⟩ := HAP.out _ w' hA; have HM := Lib.hid hM; have HA := Lib.hid hA; clear hM hA)
        go_roundw
        case rel =>
          refine ⟨k + 1, _, _, by omega, by go_num, ?_, HM.out, (HA.out.keeps HK.out (Nat.le_refl _)).setCell (Nat.le_refl _) _⟩
          rw [HST.out, if_pos hx]; rfl
        case measure => simp [intOf]; omega
      · go_wp2
        go_roundw
        case rel =>
          refine ⟨k + 1, _, _, by omega, by go_num, ?_, HO.out, HK.out⟩
          rw [HST.out, if_neg hx]
        case measure => simp [intOf]; omega
    · go_wp2
      go_ret
      refine ⟨_, vs, rfl, ?_, HK.out⟩
      have := HO.out
      rw [HL.out, show k = l.length by omega] at this
      exact this

set_option maxHeartbeats 800000 in
theorem childrenOf_any (v : Value) (l : List Int) (w : World) (h : Ints w v l) (hl : l.length ≤ 1000000) (hb : ∀ i, i < l.length → l.getD i 0 < l.length) :
    Calls Try.prog 26 #[v] w (RetM w (below l l.length)) := by
  obtain ⟨a, c, rfl, hm, hf⟩ := h.form
  have HF := Lib.hid hf
  have HB := Lib.hid hb
  clear h hf hb
  obtain ⟨i0, hi, hz0, hz1, hz2⟩ := info_parts info_ints
  have HI := Lib.hid hi
  have HZ0 := Lib.hid hz0
  have HZ1 := Lib.hid hz1
  have HZ2 := Lib.hid hz2
  clear hi hz0 hz1 hz2
  go_enter Try.func26, Try.ntmps26
  go_wp2_with (at_make; refine wpList_make_full _ rfl _ _ 35 rfl w.heap.size 22 i0 (.slice none 0 0) 1 Try.underlying35 HI.out HZ0.out HZ1.out .i64 .i64 _ _ l.length rfl rfl rfl rfl (by rw [HZ2.out]; omega) (by unfold maxLen; omega) (Nat.le_refl _) ?_; intro w1 hown hgr)
  rw [replicate_slices] at hown
  have H1 : Hid (MatIn w.heap.size w1 (.slice (some ⟨w.heap.size, 0, none⟩) l.length l.length) (List.replicate l.length (.slice none 0 0)) (below l 0)) := MatIn.made hown
  have H2 : Hid (Below w.heap.size w w1) := (Below.refl _ _).grown hgr (Nat.le_refl _) (by simp)
  clear hown hgr HI HZ0 HZ1 HZ2
  go_wp2
  go_loopw [11] (fun i wr => ∃ (k : Nat) (vs : List Value) (LL : List (List Int)), k ≤ l.length ∧ i = .int .i64 k ∧ LL = below l k ∧ MatIn w.heap.size wr (.slice (some ⟨w.heap.size, 0, none⟩) l.length l.length) vs LL ∧ Keeps w wr) (fun i _ => l.length - (intOf i).toNat)
  case atStart => exact ⟨0, _, _, Nat.zero_le _, rfl, rfl, H1.out, H2.out⟩
  case round =>
    obtain ⟨k, vs, LL, hk, rfl, hLL, hO, hK⟩ := hrel
    have HL := Lib.hid hLL
    have HO := Lib.hid hO
    have HK := Lib.hid hK
    clear hLL hO hK H1 H2
    by_cases hlt : k < l.length
    · obtain ⟨b, o, rfl, hc0⟩ := HF.out k hlt
      have hc := cell_keep HK.out hc0
      have hbk := HB.out k hlt
      have HST : Hid (below l (k + 1) = if 0 ≤ l.getD k 0 then LL.set (l.getD k 0).toNat (LL.getD (l.getD k 0).toNat [] ++ [(k : Int)]) else LL) := by
        show _ = _
        rw [below_succ, belowStep, HL.out]
      have HLN : Hid (LL.length = l.length) := by show _ = _; rw [HL.out, below_length]
      have HRL : Hid (∀ i, (LL.getD i []).length ≤ k) := by show ∀ i, _; rw [HL.out]; exact below_row l k
      clear hc0
      generalize l.getD k 0 = x at hc hbk HST
      by_cases hx : 0 ≤ x
      · obtain ⟨U, rfl⟩ := Int.eq_ofNat_of_zero_le hx
        have hU : U < l.length := by omega
        obtain ⟨g, cap, hv, hcell⟩ := HO.out.form (by rw [HLN.out]; omega)
        simp only [Value.slice.injEq, Option.some.injEq, Addr.mk.injEq] at hv
        obtain ⟨⟨rfl, -⟩, -, rfl⟩ := hv
        obtain ⟨c1, c2⟩ := hcell U (by rw [HLN.out]; exact hU)
        clear hcell
        have hown : Hid (Own w.heap.size wr (vs.getD U undef) (LL.getD U [])) := HO.out.own U (by rw [HLN.out]; exact hU)
        have HAP : Hid (∀ v' w', App w.heap.size wr (vs.getD U undef) (LL.getD U []) [(k : Int)] v' w' → MatIn w.heap.size (w'.setCell ⟨w.heap.size, U, none⟩ v') (.slice (some ⟨w.heap.size, 0, none⟩) l.length l.length) (vs.set U v') (LL.set U (LL.getD U [] ++ [(k : Int)])) ∧ (∃ u, w'.cell? ⟨w.heap.size, U, none⟩ = some u) ∧ w'.frozen? ⟨w.heap.size, U, none⟩ = false) := by
          intro v' w' hA
          refine ⟨HO.out.app (by rw [HLN.out]; exact hU) (Keeps.refl _) hA, ?_⟩
          have hr := World.ownsRow.kept HO.out.row hA.grown (owns_apart_ty (by decide) HO.out.row hown.out)
          rw [HLN.out] at hr
          have e1 := World.ownsRow.cellAt hr U (by omega)
          have e2 := World.ownsRow.frozenAt hr U
          have := HO.out.len
          rw [List.getElem?_eq_getElem (by rw [this, HLN.out]; exact hU)] at e1
          exact ⟨⟨_, e1⟩, e2⟩
        have hrl := HRL.out U
        generalize vs.getD U undef = rv at c1 hown HAP
        go_wp2_with (at_builtin; refine wpL_app1 hown.out (by omega) HK.out.size rfl rfl rfl rfl ?_; intro v' w' hA; obtain ⟨na, nn, nc, rfl⟩ := hA.own.sl; obtain ⟨hM, ⟨u', d1⟩, d2⟩ := HAP.out _ w' hA; have HM := Lib.hid hM; have HA := Lib.hid hA; clear hM hA)
        go_roundw
        case rel =>
          refine ⟨k + 1, _, _, by omega, by go_num, ?_, HM.out, (HA.out.keeps HK.out (Nat.le_refl _)).setCell (Nat.le_refl _) _⟩
          rw [HST.out, if_pos hx]; rfl
        case measure => simp [intOf]; omega
      · go_wp2
        go_roundw
        case rel =>
          refine ⟨k + 1, _, _, by omega, by go_num, ?_, HO.out, HK.out⟩
          rw [HST.out, if_neg hx]
        case measure => simp [intOf]; omega
    · go_wp2
      go_ret
      refine ⟨_, vs, rfl, ?_, HK.out⟩
      have := HO.out
      rw [HL.out, show k = l.length by omega] at this
      exact this

def parOk (l : List Int) (v : Nat) : Bool := inB (l.getD v 0) 0 ((v : Int) - 1) || (decide (v = 0) && (l.getD v 0 == -1))
def rowOk (c : Int) (r : List Int) : Bool := ((r.length : Int) == 0) || ((r.length : Int) == c)
def isTree (c : Int) (l : List Int) : Bool := inB c 1 3 && inB l.length 1 200 && (List.range l.length).all (parOk l) && (below l l.length).all (rowOk c)

theorem parOk_lt {l : List Int} {n : Nat} (h : ∀ j, j < n → parOk l j = true) : ∀ j, j < n → l.getD j 0 < n := by
  intro j hj
  have := h j hj
  simp only [parOk, Bool.or_eq_true, inB_true, Bool.and_eq_true, decide_eq_true_eq, beq_iff_eq] at this
  omega
theorem all_getD (l : List (List Int)) (p : List Int → Bool) : l.all p = (List.range l.length).all fun i => p (l.getD i []) := by
  rw [Bool.eq_iff_iff, List.all_eq_true, List.all_eq_true]
  constructor
  · intro h i hi
    have : i < l.length := by simpa using hi
    exact h _ (by simp [this])
  · intro h x hx
    obtain ⟨i, hi, rfl⟩ := List.mem_iff_getElem.1 hx
    have := h i (by simpa using hi)
    simpa [hi] using this
theorem all_range_false {n k : Nat} {p : Nat → Bool} (hk : k < n) (h : p k = false) : (List.range n).all p = false := by
  rw [List.all_eq_false]
  exact ⟨k, by simpa using hk, by simp [h]⟩
theorem all_range_true {n : Nat} {p : Nat → Bool} (h : ∀ k, k < n → p k = true) : (List.range n).all p = true := by
  rw [List.all_eq_true]
  intro k hk
  exact h k (by simpa using hk)

set_option maxHeartbeats 1600000 in
theorem roTree_any (c : Int) (v : Value) (l : List Int) (w : World) (h : Ints w v l) :
    Calls Try.prog 24 #[.int .i64 c, v] w fun e w' => e = .returned (.bool (isTree c l)) ∧ Keeps w w' := by
  have HI := Lib.hid h
  obtain ⟨a, cp, rfl, hm, hf⟩ := h.form
  have HF := Lib.hid hf
  clear h hf
  have HT : Hid (isTree c l = (inB c 1 3 && inB l.length 1 200 && (List.range l.length).all (parOk l) && (below l l.length).all (rowOk c))) := rfl
  cases hc : inB c 1 3
  · go_enter Try.func24, Try.ntmps24
    go_wp2_with (go_at_call 22; refine (l1In_any _ _ _ _).mono ?_; rintro e w' ⟨rfl, rfl⟩)
    go_ret
    exact ⟨by rw [HT.out, hc]; rfl, Keeps.refl _⟩
  cases hn : inB l.length 1 200
  · go_enter Try.func24, Try.ntmps24
    go_wp2_with (go_at_call 22; refine (l1In_any _ _ _ _).mono ?_; rintro e w' ⟨rfl, rfl⟩)
    go_ret
    exact ⟨by rw [HT.out, hc, hn]; rfl, Keeps.refl _⟩
  have bn := inB_true.1 hn
  obtain ⟨bn1, bn2⟩ := bn
  go_enter Try.func24, Try.ntmps24
  go_wp2_with (go_at_call 22; refine (l1In_any _ _ _ _).mono ?_; rintro e w' ⟨rfl, rfl⟩)
  go_loop [20] (fun i => ∃ k : Nat, i = .int .i64 k ∧ k ≤ l.length ∧ ∀ j, j < k → parOk l j = true) (fun i => l.length - (intOf i).toNat)
  case atStart => exact ⟨0, rfl, Nat.zero_le _, fun j hj => by omega⟩
  case round =>
    obtain ⟨k, rfl, hk, hall⟩ := hrel
    have HA := Lib.hid hall
    clear hall
    by_cases hlt : k < l.length
    · obtain ⟨b, o, rfl, hcell⟩ := HF.out k hlt
      have HR : Hid (parOk l k = (inB (l.getD k 0) 0 ((k : Int) - 1) || (decide (k = 0) && (l.getD k 0 == -1)))) := rfl
      generalize l.getD k 0 = x at hcell HR
      have step : parOk l k = true → ∀ j, j < k + 1 → parOk l j = true := by
        intro hp j hj
        by_cases hjk : j = k
        · rw [hjk]; exact hp
        · exact HA.out j (by omega)
      have STEP := Lib.hid step
      clear step
      cases hb : inB x 0 ((k : Int) - 1)
      · by_cases h0 : (0 : Int) < (k : Int)
        · go_wp2_with (go_at_call 22; refine (l1In_any _ _ _ _).mono ?_; rintro e w' ⟨rfl, rfl⟩)
          go_ret
          exact ⟨by rw [HT.out, all_range_false hlt (by rw [HR.out, hb]; simp; omega)]; simp, Keeps.refl _⟩
        · cases hx : (x != -1)
          · have hx2 : (x == -1) = true := by simpa using hx
            go_wp2_with (go_at_call 22; refine (l1In_any _ _ _ _).mono ?_; rintro e w' ⟨rfl, rfl⟩)
            go_round
            case rel => exact ⟨k + 1, by go_num, by omega, STEP.out (by rw [HR.out, hb, hx2]; simp; omega)⟩
            case measure => simp [intOf]; omega
          · have hx2 : (x == -1) = false := by simpa using hx
            go_wp2_with (go_at_call 22; refine (l1In_any _ _ _ _).mono ?_; rintro e w' ⟨rfl, rfl⟩)
            go_ret
            exact ⟨by rw [HT.out, all_range_false hlt (by rw [HR.out, hb, hx2]; simp)]; simp, Keeps.refl _⟩
      · go_wp2_with (go_at_call 22; refine (l1In_any _ _ _ _).mono ?_; rintro e w' ⟨rfl, rfl⟩)
        go_round
        case rel => exact ⟨k + 1, by go_num, by omega, STEP.out (by rw [HR.out, hb]; rfl)⟩
        case measure => simp [intOf]; omega
    · have HP : Hid ((List.range l.length).all (parOk l) = true) := all_range_true fun j hj => HA.out j (by omega)
      have HB := Lib.hid (roBelow_any _ l w HI.out (by omega) (parOk_lt fun j hj => HA.out j (by omega)))
      have HLN : Hid ((below l l.length).length = l.length) := below_length _ _
      have HT2 : Hid (isTree c l = (List.range (below l l.length).length).all fun i => rowOk c ((below l l.length).getD i [])) := by
        show _ = _
        rw [HT.out, hc, hn, HP.out, all_getD]; rfl
      clear HT HP
      generalize below l l.length = LL at HB HLN HT2
      go_wp2_with fail
      refine (HB.out).mono ?_
      rintro e w1 ⟨mv, vs, rfl, hM, hK⟩
      obtain ⟨ma, mc, rfl, hmm, hmf⟩ := hM.rows.form
      have HMF := Lib.hid hmf
      have HK := Lib.hid hK
      clear hM hK hmf
      have hL2 : LL.length ≤ 200 := by have := HLN.out; omega
      go_wp2
      go_loop [42] (fun i => ∃ k : Nat, i = .int .i64 k ∧ k ≤ LL.length ∧ ∀ j, j < k → rowOk c (LL.getD j []) = true) (fun i => LL.length - (intOf i).toNat)
      case atStart => exact ⟨0, rfl, Nat.zero_le _, fun j hj => by omega⟩
      case round =>
        obtain ⟨k, rfl, hk, hall⟩ := hrel
        have HA := Lib.hid hall
        clear hall
        by_cases hlt : k < LL.length
        · obtain ⟨b, o, u, rfl, hcell, hu⟩ := HMF.out k hlt
          obtain ⟨ua, uc, rfl, hum, _⟩ := hu.form
          have HR : Hid (rowOk c (LL.getD k []) = ((((LL.getD k []).length : Int) == 0) || (((LL.getD k []).length : Int) == c))) := rfl
          have step : rowOk c (LL.getD k []) = true → ∀ j, j < k + 1 → rowOk c (LL.getD j []) = true := by
            intro hp j hj
            by_cases hjk : j = k
            · rw [hjk]; exact hp
            · exact HA.out j (by omega)
          have STEP := Lib.hid step
          clear step hu
          generalize hr : LL.getD k [] = r at *
          have Hr := Lib.hid hr
          clear hr
          cases h0 : ((r.length : Int) != 0)
          · have h0' : ((r.length : Int) == 0) = true := by simpa using h0
            go_wp2
            go_round
            case rel => exact ⟨k + 1, by go_num, by omega, STEP.out (by rw [HR.out, h0']; rfl)⟩
            case measure => simp [intOf]; omega
          · have h0' : ((r.length : Int) == 0) = false := by simpa using h0
            cases h1 : ((r.length : Int) != c)
            · have h1' : ((r.length : Int) == c) = true := by simpa using h1
              go_wp2
              go_round
              case rel => exact ⟨k + 1, by go_num, by omega, STEP.out (by rw [HR.out, h1']; simp)⟩
              case measure => simp [intOf]; omega
            · have h1' : ((r.length : Int) == c) = false := by simpa using h1
              go_wp2
              go_ret
              exact ⟨by rw [HT2.out, all_range_false hlt (by rw [Hr.out, HR.out, h0', h1']; rfl)]; rfl, HK.out⟩
        · go_wp2
          go_ret
          exact ⟨by rw [HT2.out, all_range_true (fun j hj => HA.out j (by omega))]; rfl, HK.out⟩
end Go.Proofs.Ytnamiakelifpiaa
