/- CompleteRooted of both sides, as the law calls them. -/
import Derived.Test.YtjmhjobfiemmnaaPlx
import Derived.Test.YtjmhjobfiemmnaaGRx
import Derived.Test.YtjmhjobfiemmnaaGFcr
import Derived.Test.YtjmhjobfiemmnaaAd
namespace Go.Proofs.Ytjmhjobfiemmnaa
set_option linter.unusedSimpArgs false
set_option linter.unusedVariables false

/-! ### The specification's choices -/
/-- The labels can be given to the children, one to each. -/
def arrA : List (List Int) → List Int → Prop
  | [], _ => True
  | r :: R, l => ∃ i, i < l.length ∧ 0 < r.getD (l.getD i 0).toNat 0 ∧ arrA R (l.eraseIdx i)
structure OkRow (n : Nat) (r : List Int) : Prop where
  ln : r.length = n
  el : ∀ y ∈ r, 0 ≤ y ∧ y ≤ 1000000000001
theorem OkRow.get {n : Nat} {r : List Int} (h : OkRow n r) {a : Int} (ha : 0 ≤ a ∧ a < n) : ix r a = some (r.getD a.toNat 0) ∧ 0 ≤ r.getD a.toNat 0 ∧ r.getD a.toNat 0 ≤ 1000000000001 := by
  have h1 := h.ln
  have hlt : a.toNat < r.length := by omega
  have e : r.getD a.toNat 0 = r[a.toNat] := by rw [List.getD_eq_getElem?_getD, List.getElem?_eq_getElem hlt]; rfl
  have h2 := h.el _ (List.getElem_mem hlt)
  refine ⟨?_, by omega, by omega⟩
  unfold ix
  rw [if_pos ha.1, List.getElem?_eq_getElem hlt, e]
theorem erase_same {l : List Int} {i : Nat} {x : Int} (h1 : l[i]? = some x) (h2 : l[i + 1]? = some x) : l.eraseIdx (i + 1) = l.eraseIdx i := by
  apply List.ext_getElem?
  intro j
  rw [List.getElem?_eraseIdx, List.getElem?_eraseIdx]
  by_cases e1 : j < i
  · rw [if_pos (by omega), if_pos e1]
  · by_cases e2 : j = i
    · subst e2
      rw [if_pos (by omega), if_neg (by omega), h1, h2]
    · rw [if_neg (by omega), if_neg (by omega)]
theorem e_least (a b : Int) : fS_l1Least a b = some (min a b) := by
  unfold fS_l1Least
  by_cases h : a < b
  · rw [if_pos (by simpa using h), Int.min_eq_left (by omega)]
  · rw [if_neg (by simpa using h), Int.min_eq_right (by omega)]
theorem quo_le {c w : Int} (hc : 0 < c) (hw : 0 ≤ w) : ∃ q, quo 1000000000000 c = some q ∧ 0 ≤ q ∧ (¬ w > q → w * c ≤ 1000000000000) := by
  have h0 : (1000000000000 : Int).tdiv c = 1000000000000 / c := Int.tdiv_eq_ediv_of_nonneg (by decide)
  have h1 : 0 ≤ (1000000000000 : Int) / c := Int.ediv_nonneg (by decide) (by omega)
  have h2 : (1000000000000 : Int) / c ≤ 1000000000000 := Int.ediv_le_self _ (by decide)
  refine ⟨1000000000000 / c, ?_, h1, fun h => ?_⟩
  · unfold quo
    rw [if_neg (by omega), h0, ck_in (by omega) (by omega)]
  · have h3 : w ≤ 1000000000000 / c := by omega
    have h4 := Int.mul_le_mul_of_nonneg_right h3 (Int.le_of_lt hc)
    have h5 := Int.ediv_mul_le (1000000000000 : Int) (show c ≠ 0 by omega)
    omega
def goodI (r : List Int) (R : List (List Int)) (l : List Int) (i : Nat) : Prop := 0 < r.getD (l.getD i 0).toNat 0 ∧ arrA R (l.eraseIdx i)
theorem roWays_loop (n q : Nat) (r : List Int) (R : List (List Int)) (l : List Int) (hr : OkRow n r) (hl2 : l.length ≤ 1000) (hy : ∀ y ∈ l, 0 ≤ y ∧ y < n)
    (ih : ∀ (i : Nat), i < l.length → ∃ w, fS_roWays q (l.eraseIdx i) R = some w ∧ 0 ≤ w ∧ w ≤ 1000000000001 ∧ (0 < w ↔ arrA R (l.eraseIdx i))) :
    ∀ (xs pre : List Int) (s : Int), pre ++ xs = l → 0 ≤ s → s ≤ 1000000000001 → (0 < s ↔ ∃ i, i < pre.length ∧ goodI r R l i) →
      ∃ z, forI (fS_roWays_s1 l (r :: R) (fS_roWays q)) xs (pre.length : Int) s = some z ∧
        ((∃ s', z = .inl s' ∧ 0 ≤ s' ∧ s' ≤ 1000000000001 ∧ (0 < s' ↔ ∃ i, i < l.length ∧ goodI r R l i)) ∨ (z = .inr 1000000000001 ∧ ∃ i, i < l.length ∧ goodI r R l i))
  | [], pre, s, hp, h1, h2, h3 => by
    rw [List.append_nil] at hp
    subst hp
    exact ⟨_, rfl, .inl ⟨s, rfl, h1, h2, h3⟩⟩
  | x :: xs, pre, s, hp, h1, h2, h3 => by
    have hlt : pre.length < l.length := by rw [← hp]; simp
    have hx : l[pre.length]? = some x := by rw [← hp, List.getElem?_append_right (Nat.le_refl _)]; simp
    have hxd : l.getD pre.length 0 = x := by rw [List.getD_eq_getElem?_getD, hx]; rfl
    have hxm := hy x (List.mem_of_getElem? hx)
    obtain ⟨g1, g2, g3⟩ := hr.get hxm
    have hnext : ∀ s', 0 ≤ s' → s' ≤ 1000000000001 → (0 < s' ↔ ∃ i, i < pre.length + 1 ∧ goodI r R l i) → ∃ z, forI (fS_roWays_s1 l (r :: R) (fS_roWays q)) xs ((pre.length : Int) + 1) s' = some z ∧
        ((∃ s', z = .inl s' ∧ 0 ≤ s' ∧ s' ≤ 1000000000001 ∧ (0 < s' ↔ ∃ i, i < l.length ∧ goodI r R l i)) ∨ (z = .inr 1000000000001 ∧ ∃ i, i < l.length ∧ goodI r R l i)) := fun s' a1 a2 a3 => by
      have := roWays_loop n q r R l hr hl2 hy ih xs (pre ++ [x]) s' (by rw [← hp]; simp) a1 a2 (by rw [List.length_append, List.length_singleton]; exact a3)
      rw [List.length_append, List.length_singleton] at this
      rw [show ((pre.length : Int) + 1) = ((pre.length + 1 : Nat) : Int) by omega]
      exact this
    by_cases hskip : 0 < pre.length ∧ l[pre.length - 1]? = some x
    · have hbody : fS_roWays_s1 l (r :: R) (fS_roWays q) (pre.length : Int) x s = some (.go s) := by
        unfold fS_roWays_s1
        rw [if_pos (by rw [decide_eq_true_eq]; omega), ck_in (by omega) (by omega), sb, show ((pre.length : Int) - 1) = ((pre.length - 1 : Nat) : Int) by omega, ix_nat, hskip.2, sb, sb, if_pos (by simp)]
      simp only [forI, hbody]
      refine hnext s h1 h2 ?_
      rw [h3]
      constructor
      · rintro ⟨i, hi, hg⟩; exact ⟨i, by omega, hg⟩
      · rintro ⟨i, hi, hg⟩
        by_cases e : i = pre.length
        · subst e
          refine ⟨pre.length - 1, by omega, ?_⟩
          have he := erase_same (l := l) (i := pre.length - 1) (x := x) hskip.2 (by rw [show pre.length - 1 + 1 = pre.length by omega]; exact hx)
          rw [show pre.length - 1 + 1 = pre.length by omega] at he
          unfold goodI at hg ⊢
          rw [← he]
          have : l.getD (pre.length - 1) 0 = x := by rw [List.getD_eq_getElem?_getD, hskip.2]; rfl
          rw [this]
          rw [hxd] at hg
          exact hg
        · exact ⟨i, by omega, hg⟩
    · obtain ⟨w, w1, w2, w3, w4⟩ := ih pre.length hlt
      have hgi : goodI r R l pre.length ↔ 0 < r.getD x.toNat 0 ∧ 0 < w := by unfold goodI; rw [hxd, w4]
      have hrest : cat (l.take pre.length) (l.drop (pre.length + 1)) = some (l.eraseIdx pre.length) := by
        unfold cat
        rw [if_pos (by rw [List.length_take, List.length_drop]; omega), List.eraseIdx_eq_take_drop_succ]
      have hc1 : cut l 0 (pre.length : Int) = some (l.take pre.length) := by
        unfold cut
        rw [if_pos (by omega)]; simp
      have hc2 : cut l ((pre.length : Int) + 1) l.length = some (l.drop (pre.length + 1)) := by
        unfold cut
        rw [if_pos (by omega), Int.toNat_natCast, List.take_length, show ((pre.length : Int) + 1).toNat = pre.length + 1 by omega]
      have hdup : (if decide ((pre.length : Int) > 0) then (ck ((pre.length : Int) - 1)) >>= fun x26 => (ix l x26) >>= fun x27 => some (x27 == x) else some false : Option Bool) = some false := by
        by_cases h0 : 0 < pre.length
        · have hlt' : pre.length - 1 < l.length := by omega
          rw [if_pos (by rw [decide_eq_true_eq]; omega), ck_in (by omega) (by omega), sb, show ((pre.length : Int) - 1) = ((pre.length - 1 : Nat) : Int) by omega, ix_nat, List.getElem?_eq_getElem hlt', sb]
          have hne : l[pre.length - 1] ≠ x := fun e => hskip ⟨h0, by rw [List.getElem?_eq_getElem hlt', e]⟩
          simp [hne]
        · rw [if_neg (by rw [decide_eq_true_eq]; omega)]
      have hr0 : ix (r :: R) 0 = some r := rfl
      by_cases hc : 0 < r.getD x.toNat 0
      · obtain ⟨qq, q1, q2, q3⟩ := quo_le hc w2
        by_cases hbig : w > qq
        · have hbody : fS_roWays_s1 l (r :: R) (fS_roWays q) (pre.length : Int) x s = some (.ret 1000000000001) := by
            unfold fS_roWays_s1
            rw [hdup, sb, if_neg (by simp), hc1, sb, e_l1Own _ (by rw [List.length_take]; omega), sb, ck_in (by omega) (by omega), sb, hc2, sb, hrest, sb, cut_tail (r :: R) (by simp), sb]
            simp only [List.tail_cons]
            rw [w1, sb, hr0, sb, g1, sb, if_pos (by simpa using hc), sb, g1, sb, q1, sb, sb, if_pos (by simpa using hbig)]
          simp only [forI, hbody]
          exact ⟨_, rfl, .inr ⟨rfl, pre.length, hlt, hgi.2 ⟨hc, by omega⟩⟩⟩
        · have hp1 := q3 hbig
          have hp0 : 0 ≤ w * r.getD x.toNat 0 := Int.mul_nonneg w2 g2
          have hbody : fS_roWays_s1 l (r :: R) (fS_roWays q) (pre.length : Int) x s = some (.go (min (s + w * r.getD x.toNat 0) 1000000000001)) := by
            unfold fS_roWays_s1
            rw [hdup, sb, if_neg (by simp), hc1, sb, e_l1Own _ (by rw [List.length_take]; omega), sb, ck_in (by omega) (by omega), sb, hc2, sb, hrest, sb, cut_tail (r :: R) (by simp), sb]
            simp only [List.tail_cons]
            rw [w1, sb, hr0, sb, g1, sb, if_pos (by simpa using hc), sb, g1, sb, q1, sb, sb, if_neg (by simpa using hbig), sb, g1, sb, ck_in (by omega) (by omega), sb, ck_in (by omega) (by omega), sb, e_least, sb]
          simp only [forI, hbody]
          refine hnext _ (by omega) (by omega) ?_
          have hpos : 0 < min (s + w * r.getD x.toNat 0) 1000000000001 ↔ 0 < s ∨ 0 < w := by
            constructor
            · intro h
              by_cases h0 : 0 < s
              · exact .inl h0
              · right
                have : w ≠ 0 := fun e => by rw [e, Int.zero_mul] at h; omega
                omega
            · rintro (h | h)
              · omega
              · have := Int.mul_pos h hc
                omega
          rw [hpos, h3]
          constructor
          · rintro (⟨i, hi, hg⟩ | h)
            · exact ⟨i, by omega, hg⟩
            · exact ⟨pre.length, by omega, hgi.2 ⟨hc, h⟩⟩
          · rintro ⟨i, hi, hg⟩
            by_cases e : i = pre.length
            · subst e; exact .inr (hgi.1 hg).2
            · exact .inl ⟨i, by omega, hg⟩
      · have hc0 : r.getD x.toNat 0 = 0 := by omega
        have hbody : fS_roWays_s1 l (r :: R) (fS_roWays q) (pre.length : Int) x s = some (.go s) := by
          unfold fS_roWays_s1
          rw [hdup, sb, if_neg (by simp), hc1, sb, e_l1Own _ (by rw [List.length_take]; omega), sb, ck_in (by omega) (by omega), sb, hc2, sb, hrest, sb, cut_tail (r :: R) (by simp), sb]
          simp only [List.tail_cons]
          rw [w1, sb, hr0, sb, g1, sb, if_neg (by simpa using hc), sb, if_neg (by simp), sb, g1, sb, hc0, Int.mul_zero, ck_in (by omega) (by omega), sb, Int.add_zero, ck_in (by omega) (by omega), sb, e_least, sb, Int.min_eq_left h2]
        simp only [forI, hbody]
        refine hnext s h1 h2 ?_
        rw [h3]
        constructor
        · rintro ⟨i, hi, hg⟩; exact ⟨i, by omega, hg⟩
        · rintro ⟨i, hi, hg⟩
          by_cases e : i = pre.length
          · subst e; exact absurd (hgi.1 hg).1 hc
          · exact ⟨i, by omega, hg⟩
theorem e_roWays (n : Nat) : ∀ (R : List (List Int)) (l : List Int) (fuel : Nat), R.length < fuel → (∀ r ∈ R, OkRow n r) → l.length = R.length → l.length ≤ 1000 → (∀ y ∈ l, 0 ≤ y ∧ y < n) →
    ∃ w, fS_roWays fuel l R = some w ∧ 0 ≤ w ∧ w ≤ 1000000000001 ∧ (0 < w ↔ arrA R l)
  | [], l, fuel, hf, _, _, _, _ => by
    obtain ⟨q, rfl⟩ : ∃ q, fuel = q + 1 := ⟨fuel - 1, by simp at hf; omega⟩
    exact ⟨1, by unfold fS_roWays; rw [if_pos (by simp)], by decide, by decide, by simp [arrA]⟩
  | r :: R, l, fuel, hf, hR, hl, hl2, hy => by
    simp only [List.length_cons] at hf hl
    obtain ⟨q, rfl⟩ : ∃ q, fuel = q + 1 := ⟨fuel - 1, by omega⟩
    obtain ⟨z, z1, z2⟩ := roWays_loop n q r R l (hR r (by simp)) hl2 hy (fun i hi => e_roWays n R (l.eraseIdx i) q (by omega) (fun r hr => hR r (by simp [hr])) (by rw [List.length_eraseIdx, if_pos hi]; omega) (by rw [List.length_eraseIdx]; split <;> omega) (fun y hy' => hy y (List.mem_of_mem_eraseIdx hy'))) l [] 0 (by simp) (by decide) (by decide) (by simp)
    rw [List.length_nil, show ((0 : Nat) : Int) = 0 from rfl] at z1
    unfold fS_roWays
    rw [if_neg (by simp; omega), z1, sb]
    rcases z2 with ⟨s', rfl, a1, a2, a3⟩ | ⟨rfl, hg⟩
    · exact ⟨s', rfl, a1, a2, a3⟩
    · exact ⟨_, rfl, by decide, by decide, ⟨fun _ => hg, fun _ => by decide⟩⟩
theorem srt_sorC (xs : List Int) : (srt xs).Pairwise (· ≤ ·) := by
  have := List.pairwise_mergeSort (le := fun x y : Int => decide (x ≤ y)) (fun a b c h1 h2 => by simp at h1 h2 ⊢; omega) (fun a b => by simp; omega) xs
  exact this.imp fun {a b} h => by simpa using h
theorem srt_perC (xs : List Int) : (srt xs).Perm xs := List.mergeSort_perm xs _
/-! ### Choices, one to each child -/
def posR (R : List (List Int)) (m : List Int) : Prop := m.length = R.length ∧ ∀ (i : Nat) r a, R[i]? = some r → m[i]? = some a → 0 < r.getD a.toNat 0
theorem arr_perm : ∀ (R : List (List Int)) (l : List Int), l.length = R.length → (arrA R l ↔ ∃ m, m.Perm l ∧ posR R m)
  | [], l, hl => by
    have : l = [] := List.eq_nil_of_length_eq_zero (by simpa using hl)
    subst this
    exact ⟨fun _ => ⟨[], List.Perm.refl _, rfl, by simp⟩, fun _ => trivial⟩
  | r :: R, l, hl => by
    simp only [List.length_cons] at hl
    constructor
    · rintro ⟨i, hi, h1, h2⟩
      have hle : (l.eraseIdx i).length = R.length := by rw [List.length_eraseIdx, if_pos hi]; omega
      obtain ⟨m, m1, m2, m3⟩ := (arr_perm R _ hle).1 h2
      refine ⟨l.getD i 0 :: m, ?_, by simp [m2], fun j r' a hr ha => ?_⟩
      · have hg : l.getD i 0 = l[i] := by rw [List.getD_eq_getElem?_getD, List.getElem?_eq_getElem hi]; rfl
        rw [hg]
        refine (m1.cons _).trans ?_
        rw [List.eraseIdx_eq_take_drop_succ]
        have h3 : l = l.take i ++ l[i] :: l.drop (i + 1) := by rw [List.getElem_cons_drop, List.take_append_drop]
        have h4 := (List.perm_middle (a := l[i]) (l₁ := l.take i) (l₂ := l.drop (i + 1))).symm
        rw [← h3] at h4
        exact h4
      · cases j with
        | zero => simp at hr ha; subst hr; subst ha; exact h1
        | succ j => exact m3 j r' a (by simpa using hr) (by simpa using ha)
    · rintro ⟨m, m1, m2, m3⟩
      cases m with
      | nil => simp at m2
      | cons a m =>
        have ha : a ∈ l := m1.subset (by simp)
        obtain ⟨i, hi, hia⟩ := List.mem_iff_getElem.1 ha
        have hg : l.getD i 0 = a := by rw [List.getD_eq_getElem?_getD, List.getElem?_eq_getElem hi]; exact hia
        have hle : (l.eraseIdx i).length = R.length := by rw [List.length_eraseIdx, if_pos hi]; omega
        refine ⟨i, hi, by rw [hg]; exact m3 0 r a rfl rfl, (arr_perm R _ hle).2 ⟨m, ?_, by simpa using m2, fun j r' b hr hb => m3 (j + 1) r' b (by simpa using hr) (by simpa using hb)⟩⟩
        have h3 : l = l.take i ++ l[i] :: l.drop (i + 1) := by rw [List.getElem_cons_drop, List.take_append_drop]
        have h4 := (List.perm_middle (a := l[i]) (l₁ := l.take i) (l₂ := l.drop (i + 1)))
        rw [← h3] at h4
        have h5 := m1.trans h4
        rw [hia] at h5
        rw [List.eraseIdx_eq_take_drop_succ]
        exact List.Perm.cons_inv h5
/-! ### roMay -/
theorem line_facts {p : T_RootedProblem} (h : rootedB p = true) : ∀ x, x ∈ p.Lines → ∃ a t, x = a :: t ∧ (t.length : Int) = p.Children ∧ (∀ y ∈ t, 0 ≤ y ∧ y < p.Labels.toNat) ∧ srt t = t := fun x hx => by
  obtain ⟨h1, h2⟩ := lines_of h x hx
  have hC : 1 ≤ p.Children ∧ p.Children ≤ 3 := by
    have := h
    simp only [rootedB, Bool.and_eq_true] at this
    exact inB_iff.1 this.1.2
  have hL : 1 ≤ p.Labels := by
    have := h
    simp only [rootedB, Bool.and_eq_true] at this
    exact (inB_iff.1 this.1.1).1
  cases x with
  | nil => simp at h1; omega
  | cons a t =>
    refine ⟨a, t, rfl, by simp at h1; omega, fun y hy => by have := h2 y (by simp [hy]); omega, ?_⟩
    simp only [rootedB, Bool.and_eq_true, Option.isNone_iff_eq_none] at h
    obtain ⟨j, hj⟩ := List.getElem?_of_mem hx
    have := firstP_none.1 h.2 j _ hj
    rw [Nat.zero_add] at this
    unfold lineP at this
    split at this
    · rename_i hb
      simp only [lineB, Bool.and_eq_true, Bool.or_eq_true, decide_eq_true_eq] at hb
      have hs : t.Pairwise (· ≤ ·) := sortB_pair.1 hb.1.2
      unfold srt
      exact List.mergeSort_of_pairwise (hs.imp fun {a b} h => by simpa using h)
    · cases this
def mayP (p : T_RootedProblem) (a : Int) (R : List (List Int)) : Prop := ∃ m, (a :: srt m) ∈ p.Lines ∧ posR R m
theorem may_line {p : T_RootedProblem} (h : rootedB p = true) (a : Int) (R : List (List Int)) (hR : (R.length : Int) = p.Children) : (∃ x ∈ p.Lines, x.headD 0 = a ∧ arrA R x.tail) ↔ mayP p a R := by
  constructor
  · rintro ⟨x, hx, h1, h2⟩
    obtain ⟨b, t, rfl, q1, q2, q3⟩ := line_facts h x hx
    simp only [List.headD_cons, List.tail_cons] at h1 h2
    obtain ⟨m, m1, m2⟩ := (arr_perm R t (by omega)).1 h2
    refine ⟨m, ?_, m2⟩
    have : srt m = srt t := by
      refine List.Perm.eq_of_pairwise (le := fun x y : Int => x ≤ y) (fun x y _ _ a b => by omega) (srt_sorC m) (srt_sorC t) ?_
      exact (srt_perC m).trans (m1.trans (srt_perC t).symm)
    rw [this, q3, ← h1]; exact hx
  · rintro ⟨m, m1, m2⟩
    refine ⟨_, m1, rfl, ?_⟩
    simp only [List.tail_cons]
    exact (arr_perm R _ (by rw [srt_length]; exact m2.1)).2 ⟨m, (srt_perC m).symm, m2⟩
theorem e_roMay (fuel n : Nat) (p : T_RootedProblem) (h : rootedB p = true) (hn : p.Labels.toNat = n) (a : Int) (R : List (List Int)) (hR : (R.length : Int) = p.Children) (hr : ∀ r ∈ R, OkRow n r) (hf : 4 < fuel) : ∃ b, fS_roMay fuel p a R = some b ∧ (b = true ↔ mayP p a R) := by
  have hC : p.Children ≤ 3 := by
    have := h
    simp only [rootedB, Bool.and_eq_true] at this
    exact (inB_iff.1 this.1.2).2
  have hl := line_facts h
  rw [← may_line h a R hR]
  have key : ∀ (xs pre : List (List Int)), pre ++ xs = p.Lines → (¬ ∃ x ∈ pre, x.headD 0 = a ∧ arrA R x.tail) → ∃ z, forI (fS_roMay_s1 fuel a R) xs (pre.length : Int) () = some z ∧ ((z = .inl () ∧ ¬ ∃ x ∈ p.Lines, x.headD 0 = a ∧ arrA R x.tail) ∨ (z = .inr true ∧ ∃ x ∈ p.Lines, x.headD 0 = a ∧ arrA R x.tail)) := by
    intro xs
    induction xs with
    | nil =>
      intro pre hp hno
      rw [List.append_nil] at hp
      subst hp
      exact ⟨_, rfl, .inl ⟨rfl, hno⟩⟩
    | cons x xs ih =>
      intro pre hp hno
      have hx : x ∈ p.Lines := by rw [← hp]; simp
      obtain ⟨b, t, rfl, q1, q2, q3⟩ := hl x hx
      obtain ⟨w, w1, w2, w3, w4⟩ := e_roWays n R t fuel (by omega) hr (by omega) (by omega) (by rw [← hn]; exact q2)
      have hbody : fS_roMay_s1 fuel a R (pre.length : Int) (b :: t) () = some (if b = a ∧ 0 < w then .ret true else .go ()) := by
        unfold fS_roMay_s1
        rw [show ix (b :: t) 0 = some b from rfl, sb]
        by_cases hb : b = a
        · rw [if_pos (by simpa using hb), cut_tail (b :: t) (by simp), sb]
          simp only [List.tail_cons]
          rw [w1, sb, sb]
          by_cases hw : 0 < w
          · rw [if_pos (by simpa using hw), if_pos ⟨hb, hw⟩]
          · rw [if_neg (by simpa using hw), if_neg (fun h => hw h.2)]
        · rw [if_neg (by simpa using hb), sb, if_neg (by simp), if_neg (fun h => hb h.1)]
      simp only [forI, hbody]
      by_cases hg : b = a ∧ 0 < w
      · rw [if_pos hg]
        exact ⟨_, rfl, .inr ⟨rfl, _, hx, hg.1, w4.1 hg.2⟩⟩
      · rw [if_neg hg]
        have := ih (pre ++ [b :: t]) (by rw [← hp]; simp) (by
          rintro ⟨y, hy, hy2⟩
          rcases List.mem_append.1 hy with hy | hy
          · exact hno ⟨y, hy, hy2⟩
          · rw [List.mem_singleton.1 hy] at hy2
            exact hg ⟨hy2.1, w4.2 hy2.2⟩)
        rw [List.length_append, List.length_singleton] at this
        rw [show ((pre.length : Int) + 1) = ((pre.length + 1 : Nat) : Int) by omega]
        exact this
  obtain ⟨z, z1, z2⟩ := key p.Lines [] (by simp) (by simp)
  rw [List.length_nil, show ((0 : Nat) : Int) = 0 from rfl] at z1
  unfold fS_roMay
  rw [z1, sb]
  rcases z2 with ⟨rfl, hno⟩ | ⟨rfl, hyes⟩
  · exact ⟨false, rfl, by simpa using hno⟩
  · exact ⟨true, rfl, by simpa using hyes⟩
/-! ### firstChoice -/
def chP (lists : List (List Int)) (g : List Int → Bool) (k : Nat) (lab : List Int) : Prop := ∃ m, m.length = lists.length ∧ m.take k = lab.take k ∧ (∀ (i : Nat) L a, k ≤ i → lists[i]? = some L → m[i]? = some a → a ∈ L) ∧ g m = true
theorem e_fill (lists : List (List Int)) (G : List Int → Option Bool) (g : List Int → Bool) (hG : ∀ m, m.length = lists.length → G m = some (g m)) (hl : lists.length ≤ 1000) : ∀ (d k fuel : Nat) (lab : List Int), k + d = lists.length → d < fuel → lab.length = lists.length →
    ∃ b lab', fI_firstChoice_1 fuel (k : Int) lists G lab = some (b, lab') ∧ lab'.length = lists.length ∧ lab'.take k = lab.take k ∧ (b = true ↔ chP lists g k lab)
  | 0, k, fuel, lab, hd, hf, hlab => by
    obtain ⟨q, rfl⟩ : ∃ q, fuel = q + 1 := ⟨fuel - 1, by omega⟩
    refine ⟨g lab, lab, ?_, hlab, rfl, ?_⟩
    · unfold fI_firstChoice_1
      rw [if_pos (by simp; omega), hG lab hlab, sb]
    · constructor
      · intro h
        exact ⟨lab, hlab, rfl, fun i L a hi hL _ => by have := (List.getElem?_eq_some_iff.1 hL).1; omega, h⟩
      · rintro ⟨m, m1, m2, m3, m4⟩
        rw [List.take_of_length_le (by omega), List.take_of_length_le (by omega)] at m2
        rw [← m2]; exact m4
  | d + 1, k, fuel, lab, hd, hf, hlab => by
    obtain ⟨q, rfl⟩ : ∃ q, fuel = q + 1 := ⟨fuel - 1, by omega⟩
    have hk : k < lists.length := by omega
    obtain ⟨L, hL⟩ : ∃ L, lists[k]? = some L := ⟨_, List.getElem?_eq_getElem hk⟩
    have one : ∀ (a : Int) (s : List Int), s.length = lists.length → s.take k = lab.take k → ∃ b s', fI_firstChoice_1_s1 (k : Int) lists G (fI_firstChoice_1 q) 0 a s = some (if b then .ret (true, s') else .go s') ∧ s'.length = lists.length ∧ s'.take k = lab.take k ∧ (b = true ↔ chP lists g (k + 1) (s.set k a)) := fun a s hs1 hs2 => by
      obtain ⟨b, s', e1, e2, e3, e4⟩ := e_fill lists G g hG hl d (k + 1) q (s.set k a) (by omega) (by omega) (by simpa using hs1)
      refine ⟨b, s', ?_, e2, ?_, e4⟩
      · unfold fI_firstChoice_1_s1
        rw [ix_nat, List.getElem?_eq_getElem (show k < s.length by omega), sb, st_nat _ _ _ (show k < s.length by omega), sb, ck_in (by omega) (by omega), sb, show ((k : Int) + 1) = ((k + 1 : Nat) : Int) by omega, e1, sb]
        cases b <;> rfl
      · have := congrArg (List.take k) e3
        rw [List.take_take, List.take_take, Nat.min_eq_left (by omega), List.take_set_of_le (Nat.le_refl _)] at this
        rw [this, hs2]
    have chs : ∀ (a : Int) (s : List Int), s.length = lists.length → s.take k = lab.take k → (chP lists g (k + 1) (s.set k a) ↔ ∃ m, m.length = lists.length ∧ m.take k = lab.take k ∧ m[k]? = some a ∧ (∀ (i : Nat) L a, k + 1 ≤ i → lists[i]? = some L → m[i]? = some a → a ∈ L) ∧ g m = true) := fun a s hs1 hs2 => by
      have ht : (s.set k a).take (k + 1) = lab.take k ++ [a] := by
        rw [List.take_add_one, List.take_set_of_le (Nat.le_refl _), hs2, List.getElem?_set_self (by omega)]; rfl
      constructor
      · rintro ⟨m, m1, m2, m3, m4⟩
        rw [ht, List.take_add_one] at m2
        have hm : m[k]? = some m[k] := List.getElem?_eq_getElem (by omega)
        rw [hm] at m2
        obtain ⟨u1, u2⟩ := List.append_inj m2 (by rw [List.length_take, List.length_take]; omega)
        exact ⟨m, m1, u1, by rw [hm]; simpa using u2, m3, m4⟩
      · rintro ⟨m, m1, m2, m3, m4, m5⟩
        exact ⟨m, m1, by rw [ht, List.take_add_one, m2, m3]; rfl, m4, m5⟩
    have loop : ∀ (xs pre : List Int) (i : Int) (s : List Int), pre ++ xs = L → s.length = lists.length → s.take k = lab.take k → (¬ ∃ a ∈ pre, chP lists g (k + 1) (lab.set k a)) →
        ∃ z, forI (fI_firstChoice_1_s1 (k : Int) lists G (fI_firstChoice_1 q)) xs i s = some z ∧ ((∃ s', z = .inl s' ∧ s'.length = lists.length ∧ s'.take k = lab.take k ∧ ¬ ∃ a ∈ L, chP lists g (k + 1) (lab.set k a)) ∨ (∃ s', z = .inr (true, s') ∧ s'.length = lists.length ∧ s'.take k = lab.take k ∧ ∃ a ∈ L, chP lists g (k + 1) (lab.set k a))) := by
      intro xs
      induction xs with
      | nil =>
        intro pre i s hp h1 h2 h3
        rw [List.append_nil] at hp
        subst hp
        exact ⟨_, rfl, .inl ⟨s, rfl, h1, h2, h3⟩⟩
      | cons x xs ih =>
        intro pre i s hp h1 h2 h3
        obtain ⟨b, s', e1, e2, e3, e4⟩ := one x s h1 h2
        have e1' : fI_firstChoice_1_s1 (k : Int) lists G (fI_firstChoice_1 q) i x s = some (if b then .ret (true, s') else .go s') := e1
        have hxL : x ∈ L := by rw [← hp]; simp
        have e5 : b = true ↔ chP lists g (k + 1) (lab.set k x) := by rw [e4, chs x s h1 h2, chs x lab hlab rfl]
        simp only [forI, e1']
        cases b with
        | true => exact ⟨_, rfl, .inr ⟨s', rfl, e2, e3, x, hxL, e5.1 rfl⟩⟩
        | false =>
          refine ih (pre ++ [x]) (i + 1) s' (by rw [← hp]; simp) e2 e3 ?_
          rintro ⟨a, ha, hca⟩
          rcases List.mem_append.1 ha with ha | ha
          · exact h3 ⟨a, ha, hca⟩
          · rw [List.mem_singleton.1 ha] at hca
            exact absurd (e5.2 hca) (by simp)
    obtain ⟨z, z1, z2⟩ := loop L [] 0 lab (by simp) hlab rfl (by simp)
    have hall : chP lists g k lab ↔ ∃ a ∈ L, chP lists g (k + 1) (lab.set k a) := by
      constructor
      · rintro ⟨m, m1, m2, m3, m4⟩
        have hm : m[k]? = some m[k] := List.getElem?_eq_getElem (by omega)
        exact ⟨m[k], m3 k L _ (Nat.le_refl _) hL hm, (chs _ lab hlab rfl).2 ⟨m, m1, m2, hm, fun i L a hi => m3 i L a (by omega), m4⟩⟩
      · rintro ⟨a, ha, hc⟩
        obtain ⟨m, m1, m2, m3, m4, m5⟩ := (chs a lab hlab rfl).1 hc
        refine ⟨m, m1, m2, fun i L' b hi hL' hb => ?_, m5⟩
        by_cases e : i = k
        · subst e
          rw [hL] at hL'; cases hL'
          rw [m3] at hb; cases hb
          exact ha
        · exact m4 i L' b (by omega) hL' hb
    have hhead : fI_firstChoice_1 (q + 1) (k : Int) lists G lab = ((forI (fI_firstChoice_1_s1 (k : Int) lists G (fI_firstChoice_1 q)) L 0 lab) >>= fun q20 => match q20 with | .inl y15 => some (false, y15) | .inr r' => some r') := by
      conv => lhs; unfold fI_firstChoice_1
      rw [if_neg (by simp; omega), ix_nat, hL, sb]
      rfl
    rw [hhead, z1, sb, hall]
    rcases z2 with ⟨s', rfl, a1, a2, a3⟩ | ⟨s', rfl, a1, a2, a3⟩
    · exact ⟨false, s', rfl, a1, a2, by simpa using a3⟩
    · exact ⟨true, s', rfl, a1, a2, by simpa using a3⟩
theorem e_firstChoice (fuel : Nat) (lists : List (List Int)) (G : List Int → Option Bool) (g : List Int → Bool) (hG : ∀ m, m.length = lists.length → G m = some (g m)) (hl : lists.length ≤ 1000) (hf : lists.length < fuel) :
    ∃ l b, fI_firstChoice fuel lists G = some (l, b) ∧ (b = true ↔ ∃ m, m.length = lists.length ∧ (∀ (i : Nat) L a, lists[i]? = some L → m[i]? = some a → a ∈ L) ∧ g m = true) := by
  obtain ⟨b, lab', e1, e2, e3, e4⟩ := e_fill lists G g hG hl lists.length 0 fuel (List.replicate lists.length 0) (by omega) hf (by simp)
  rw [show ((0 : Nat) : Int) = 0 from rfl] at e1
  have hm : mk (Rz.z : Int) (lists.length : Int) = some (List.replicate lists.length 0) := by
    unfold mk
    rw [if_pos (by omega)]; rfl
  have hc : chP lists g 0 (List.replicate lists.length 0) ↔ ∃ m, m.length = lists.length ∧ (∀ (i : Nat) L a, lists[i]? = some L → m[i]? = some a → a ∈ L) ∧ g m = true :=
    ⟨fun ⟨m, m1, _, m3, m4⟩ => ⟨m, m1, fun i L a => m3 i L a (Nat.zero_le _), m4⟩, fun ⟨m, m1, m3, m4⟩ => ⟨m, m1, by simp, fun i L a _ => m3 i L a, m4⟩⟩
  rw [hc] at e4
  unfold fI_firstChoice
  rw [hm, sb, e1, sb]
  cases b with
  | true => exact ⟨lab', true, by rfl, e4⟩
  | false => exact ⟨[], false, by rfl, e4⟩
/-! ### Sets and rows -/
structure RelR (n : Nat) (r : List Int) (t : Int) : Prop where
  ok : OkRow n r
  ex : ∃ S : Nat, t = S ∧ S < 2 ^ n ∧ ∀ b, b < n → (0 < r.getD b 0 ↔ S.testBit b = true)
theorem e_canComplete (fuel n : Nat) (p : T_RootedProblem) (h : rootedB p = true) (hn : p.Labels.toNat = n) (hJ : p.Lines.length ≤ 1048576) (hf : 2000000 ≤ fuel) (a : Int) (R : List (List Int)) (ts : List Int) (hR : (R.length : Int) = p.Children) (hl : ts.length = R.length)
    (hrel : ∀ (i : Nat) r t, R[i]? = some r → ts[i]? = some t → RelR n r t) : ∃ b, fI_RootedProblem_canComplete fuel p a ts = some b ∧ (b = true ↔ mayP p a R) := by
  obtain ⟨hL, hn8, hok⟩ := okLines_of h
  have hC : 1 ≤ p.Children ∧ p.Children ≤ 3 := by
    have := h
    simp only [rootedB, Bool.and_eq_true] at this
    exact inB_iff.1 this.1.2
  have hts : ∀ (i : Nat) t, ts[i]? = some t → ∃ S : Nat, t = S ∧ S < 2 ^ n ∧ ∃ r, R[i]? = some r ∧ ∀ b, b < n → (0 < r.getD b 0 ↔ S.testBit b = true) := fun i t ht => by
    have hi := (List.getElem?_eq_some_iff.1 ht).1
    have hr := List.getElem?_eq_getElem (show i < R.length by omega)
    obtain ⟨S, s1, s2, s3⟩ := (hrel i _ t hr ht).ex
    exact ⟨S, s1, s2, _, hr, s3⟩
  have hloop := forI_invk0 (body := fI_RootedProblem_canComplete_s1 fuel) (fun j => (ts.take j).map fun t => lbs n t.toNat) ts (fun j t ht => by
    have hj := (List.getElem?_eq_some_iff.1 ht).1
    obtain ⟨S, rfl, s2, _⟩ := hts j t ht
    unfold fI_RootedProblem_canComplete_s1 push
    rw [e_labelsIn n S fuel s2 (by omega) (by omega), sb, if_pos (by rw [List.length_map, List.length_take]; omega), sb, take_snoc ht, List.map_append]
    rfl)
  rw [List.take_length] at hloop
  have hg : ∀ m : List Int, m.length = (ts.map fun t => lbs n t.toNat).length → (fun z66 => fI_RootedProblem_canComplete_1 fuel z66 p a) m = some (decide ((a :: srt m) ∈ p.Lines)) := fun m hm => by
    rw [List.length_map] at hm
    show fI_RootedProblem_canComplete_1 fuel m p a = _
    unfold fI_RootedProblem_canComplete_1
    rw [e_line fuel p h a m (by omega) (by omega) (by omega), sb]
  obtain ⟨l, b, e1, e2⟩ := e_firstChoice fuel (ts.map fun t => lbs n t.toNat) _ _ hg (by rw [List.length_map]; omega) (by rw [List.length_map]; omega)
  refine ⟨b, ?_, ?_⟩
  · unfold fI_RootedProblem_canComplete
    rw [show ([] : List (List Int)) = (ts.take 0).map fun t => lbs n t.toNat from rfl, hloop, sb]
    simp only
    rw [e1, sb]
  · rw [e2]
    constructor
    · rintro ⟨m, m1, m2, m3⟩
      rw [List.length_map] at m1
      refine ⟨m, of_decide_eq_true m3, by omega, fun i r y hr hy => ?_⟩
      have hi := (List.getElem?_eq_some_iff.1 hr).1
      have ht := List.getElem?_eq_getElem (show i < ts.length by omega)
      obtain ⟨S, s1, s2, r', s3, s4⟩ := hts i _ ht
      rw [hr] at s3; cases s3
      have := m2 i _ y (by rw [List.getElem?_map, ht]; rfl) hy
      rw [s1] at this
      have this : y ∈ lbs n ((S : Int)).toNat := this
      rw [Int.toNat_natCast, mem_lbs] at this
      obtain ⟨q, rfl, q2, q3⟩ := this
      rw [Int.toNat_natCast]
      exact (s4 q q2).2 q3
    · rintro ⟨m, m1, m2, m3⟩
      refine ⟨m, by rw [List.length_map]; omega, fun i L y hL' hy => ?_, decide_eq_true m1⟩
      rw [List.getElem?_map] at hL'
      cases ht : ts[i]? with
      | none => rw [ht] at hL'; cases hL'
      | some t =>
        rw [ht] at hL'
        cases hL'
        obtain ⟨S, s1, s2, r, s3, s4⟩ := hts i t ht
        have hin : 0 ≤ y ∧ y < n := by
          obtain ⟨b', t', q1, q2, q3, q4⟩ := line_facts h _ m1
          cases q1
          have := q3 y ((srt_perC m).symm.subset (List.mem_of_getElem? hy))
          omega
        rw [s1]
        show y ∈ lbs n ((S : Int)).toNat
        rw [Int.toNat_natCast, mem_lbs]
        exact ⟨y.toNat, by omega, by omega, (s4 y.toNat (by omega)).1 (m3 i r y s3 hy)⟩
/-! ### Sets of numbers, by a property -/
noncomputable def bitsN (P : Nat → Prop) : Nat → Nat
  | 0 => 0
  | a + 1 => if Classical.propDecidable (P a) |>.decide then bitsN P a ||| 2 ^ a else bitsN P a
theorem bitsN_test (P : Nat → Prop) : ∀ (a b : Nat), (bitsN P a).testBit b = true ↔ b < a ∧ P b
  | 0, b => by simp [bitsN]
  | a + 1, b => by
    have ih := bitsN_test P a b
    unfold bitsN
    by_cases hp : P a
    · rw [if_pos (by simpa using hp), Nat.testBit_or, Nat.testBit_two_pow, Bool.or_eq_true, ih, decide_eq_true_eq]
      constructor
      · rintro (⟨h1, h2⟩ | rfl)
        · exact ⟨by omega, h2⟩
        · exact ⟨by omega, hp⟩
      · rintro ⟨h1, h2⟩
        by_cases e : a = b
        · exact .inr e
        · exact .inl ⟨by omega, h2⟩
    · rw [if_neg (by simpa using hp), ih]
      constructor
      · rintro ⟨h1, h2⟩; exact ⟨by omega, h2⟩
      · rintro ⟨h1, h2⟩
        by_cases e : b = a
        · subst e; exact absurd h2 hp
        · exact ⟨by omega, h2⟩
theorem bitsN_lt (P : Nat → Prop) : ∀ a, bitsN P a < 2 ^ a
  | 0 => by simp [bitsN]
  | a + 1 => by
    have ih := bitsN_lt P a
    have h2 : 2 ^ (a + 1) = 2 ^ a + 2 ^ a := by rw [Nat.pow_succ]; omega
    unfold bitsN
    split
    · exact Nat.or_lt_two_pow (by omega) (Nat.pow_lt_pow_right (by decide) (by omega))
    · omega
theorem bitsN_yes {P : Nat → Prop} {a : Nat} (h : P a) : bitsN P (a + 1) = bitsN P a ||| 2 ^ a := by
  conv => lhs; unfold bitsN
  rw [if_pos (by simpa using h)]
theorem bitsN_no {P : Nat → Prop} {a : Nat} (h : ¬ P a) : bitsN P (a + 1) = bitsN P a := by
  conv => lhs; unfold bitsN
  rw [if_neg (by simpa using h)]
/-! ### One node's counts -/
theorem set_getD {s : List Int} {a b : Nat} {c : Int} (ha : a < s.length) : (s.set a c).getD b 0 = if a = b then c else s.getD b 0 := by
  rw [List.getD_eq_getElem?_getD, List.getD_eq_getElem?_getD, List.getElem?_set]
  by_cases e : a = b
  · rw [if_pos e, if_pos ha, if_pos e]; rfl
  · rw [if_neg e, if_neg e]
theorem OkRow.set {n : Nat} {s : List Int} (h : OkRow n s) {a : Nat} {c : Int} (h1 : 0 ≤ c) (h2 : c ≤ 1000000000001) : OkRow n (s.set a c) :=
  ⟨by rw [List.length_set]; exact h.ln, fun y hy => by
    rcases List.mem_or_eq_of_mem_set hy with hy | rfl
    · exact h.el y hy
    · exact ⟨h1, h2⟩⟩
theorem lines_sum (fuel n : Nat) (p : T_RootedProblem) (h : rootedB p = true) (hn : p.Labels.toNat = n) (hf : 4 < fuel) (kl : List (List Int)) (v : Int) (kids : List Int) (hk : ix kl v = some kids) (hk0 : kids ≠ []) (R : List (List Int)) (hR : (R.length : Int) = p.Children) (hr : ∀ r ∈ R, OkRow n r) (a : Nat) (ha : a < n) :
    ∀ (xs pre : List (List Int)) (s : List Int), pre ++ xs = p.Lines → OkRow n s → (0 < s.getD a 0 ↔ ∃ x ∈ pre, x.headD 0 = (a : Int) ∧ arrA R x.tail) →
      ∃ c, forI (fS_roCounts_s5 fuel kl v R (a : Int)) xs (pre.length : Int) s = some (.inl (s.set a c)) ∧ 0 ≤ c ∧ c ≤ 1000000000001 ∧ (0 < c ↔ ∃ x ∈ p.Lines, x.headD 0 = (a : Int) ∧ arrA R x.tail)
  | [], pre, s, hp, hs, hpos => by
    rw [List.append_nil] at hp
    subst hp
    have hsl := hs.ln
    obtain ⟨g1, g2, g3⟩ := hs.get (a := (a : Int)) (by omega)
    rw [Int.toNat_natCast] at g2 g3
    refine ⟨s.getD a 0, ?_, g2, g3, hpos⟩
    show some (Sum.inl s) = _
    congr 2
    apply List.ext_getElem?
    intro j
    rw [List.getElem?_set]
    by_cases e : a = j
    · subst e
      rw [if_pos rfl, if_pos (by omega), List.getD_eq_getElem?_getD, List.getElem?_eq_getElem (by omega)]; rfl
    · rw [if_neg e]
  | x :: xs, pre, s, hp, hs, hpos => by
    have hsl := hs.ln
    have hC : p.Children ≤ 3 := by
      have := h
      simp only [rootedB, Bool.and_eq_true] at this
      exact (inB_iff.1 this.1.2).2
    have hx : x ∈ p.Lines := by rw [← hp]; simp
    obtain ⟨b, t, rfl, q1, q2, q3⟩ := line_facts h x hx
    obtain ⟨w, w1, w2, w3, w4⟩ := e_roWays n R t fuel (by omega) hr (by omega) (by omega) (by rw [← hn]; exact q2)
    obtain ⟨g1, g2, g3⟩ := hs.get (a := (a : Int)) (by omega)
    rw [Int.toNat_natCast] at g1 g2 g3
    have hkl : ((kids.length : Int) > 0) := by
      have : kids.length ≠ 0 := fun e => hk0 (List.eq_nil_of_length_eq_zero e)
      omega
    by_cases hb : b = (a : Int)
    · have hbody : fS_roCounts_s5 fuel kl v R (a : Int) (pre.length : Int) (b :: t) s = some (.go (s.set a (min (s.getD a 0 + w) 1000000000001))) := by
        unfold fS_roCounts_s5
        rw [show ix (b :: t) 0 = some b from rfl, sb, if_pos (by simpa using hb), hk, sb, sb, if_pos (decide_eq_true hkl), g1, sb, cut_tail (b :: t) (by simp), sb]
        simp only [List.tail_cons]
        rw [w1, sb, ck_in (by omega) (by omega), sb, e_least, sb, sb, st_nat _ _ _ (by omega), sb]
      simp only [forI, hbody]
      have := lines_sum fuel n p h hn hf kl v kids hk hk0 R hR hr a ha xs (pre ++ [b :: t]) (s.set a (min (s.getD a 0 + w) 1000000000001)) (by rw [← hp]; simp) (hs.set (by omega) (by omega)) (by
        rw [set_getD (by omega), if_pos rfl]
        constructor
        · intro h0
          by_cases h1 : 0 < s.getD a 0
          · obtain ⟨y, y1, y2⟩ := hpos.1 h1
            exact ⟨y, by simp [y1], y2⟩
          · exact ⟨b :: t, by simp, hb, w4.1 (by omega)⟩
        · rintro ⟨y, y1, y2⟩
          rcases List.mem_append.1 y1 with y1 | y1
          · have := hpos.2 ⟨y, y1, y2⟩; omega
          · rw [List.mem_singleton.1 y1] at y2
            have := w4.2 y2.2; omega)
      obtain ⟨c, c1, c2⟩ := this
      refine ⟨c, ?_, c2⟩
      rw [List.length_append, List.length_singleton] at c1
      rw [show ((pre.length : Int) + 1) = ((pre.length + 1 : Nat) : Int) by omega, c1, List.set_set]
    · have hbody : fS_roCounts_s5 fuel kl v R (a : Int) (pre.length : Int) (b :: t) s = some (.go s) := by
        unfold fS_roCounts_s5
        rw [show ix (b :: t) 0 = some b from rfl, sb, if_neg (by simpa using hb), sb, if_neg (by simp)]
      simp only [forI, hbody]
      have := lines_sum fuel n p h hn hf kl v kids hk hk0 R hR hr a ha xs (pre ++ [b :: t]) s (by rw [← hp]; simp) hs (by
        rw [hpos]
        constructor
        · rintro ⟨y, y1, y2⟩; exact ⟨y, by simp [y1], y2⟩
        · rintro ⟨y, y1, y2⟩
          rcases List.mem_append.1 y1 with y1 | y1
          · exact ⟨y, y1, y2⟩
          · rw [List.mem_singleton.1 y1] at y2
            exact absurd y2.1 hb)
      rw [List.length_append, List.length_singleton] at this
      rw [show ((pre.length : Int) + 1) = ((pre.length + 1 : Nat) : Int) by omega]
      exact this
theorem lines_leaf (fuel : Nat) (p : T_RootedProblem) (h : rootedB p = true) (kl : List (List Int)) (v : Int) (hk : ix kl v = some []) (R : List (List Int)) (a : Int) (s : List Int) : ∀ (xs : List (List Int)) (i : Int), (∀ x ∈ xs, x ∈ p.Lines) → forI (fS_roCounts_s4 fuel kl v R a) xs i s = some (.inl s)
  | [], i, _ => rfl
  | x :: xs, i, hx => by
    obtain ⟨b, t, rfl, q1, q2, q3⟩ := line_facts h x (hx x (by simp))
    have hbody : fS_roCounts_s4 fuel kl v R a i (b :: t) s = some (.go s) := by
      unfold fS_roCounts_s4
      rw [show ix (b :: t) 0 = some b from rfl, sb]
      by_cases hb : b = a
      · rw [if_pos (by simpa using hb), hk, sb, sb, if_neg (by simp)]
      · rw [if_neg (by simpa using hb), sb, if_neg (by simp)]
    simp only [forI, hbody]
    exact lines_leaf fuel p h kl v hk R a s xs (i + 1) fun y hy => hx y (by simp [hy])
def condN (p : T_RootedProblem) (g : Int) (kids : List Int) (R : List (List Int)) (a : Nat) : Prop := (g < 0 ∨ g = (a : Int)) ∧ (kids = [] ∨ mayP p a R)
theorem row_counts (fuel n : Nat) (p : T_RootedProblem) (h : rootedB p = true) (hn : p.Labels.toNat = n) (hf : 4 < fuel) (given : List Int) (kl : List (List Int)) (v : Int) (kids : List Int) (hk : ix kl v = some kids) (g : Int) (hg : ix given v = some g) (R : List (List Int)) (hR : kids ≠ [] → (R.length : Int) = p.Children) (hr : ∀ r ∈ R, OkRow n r) :
    ∀ (d a : Nat) (s : List Int), a + d = n → OkRow n s → (∀ b, b < a → (0 < s.getD b 0 ↔ condN p g kids R b)) → (∀ b, a ≤ b → b < n → s.getD b 0 = 0) →
      ∃ s', forN (fS_roCounts_s3 fuel p given kl v R) d (a : Int) s = some (.inl s') ∧ OkRow n s' ∧ ∀ b, b < n → (0 < s'.getD b 0 ↔ condN p g kids R b)
  | 0, a, s, hd, hs, h1, h2 => ⟨s, rfl, hs, fun b hb => h1 b (by omega)⟩
  | d + 1, a, s, hd, hs, h1, h2 => by
    have hsl := hs.ln
    have ha : a < n := by omega
    obtain ⟨g1, g2, g3⟩ := hs.get (a := (a : Int)) (by omega)
    rw [Int.toNat_natCast] at g1
    have next : ∀ c, 0 ≤ c → c ≤ 1000000000001 → (0 < c ↔ condN p g kids R a) → fS_roCounts_s3 fuel p given kl v R (a : Int) s = some (.go (s.set a c)) →
        ∃ s', forN (fS_roCounts_s3 fuel p given kl v R) (d + 1) (a : Int) s = some (.inl s') ∧ OkRow n s' ∧ ∀ b, b < n → (0 < s'.getD b 0 ↔ condN p g kids R b) := fun c c1 c2 c3 hb => by
      simp only [forN, hb]
      rw [show ((a : Int) + 1) = ((a + 1 : Nat) : Int) by omega]
      refine row_counts fuel n p h hn hf given kl v kids hk g hg R hR hr d (a + 1) (s.set a c) (by omega) (hs.set c1 c2) (fun b hb => ?_) fun b hb1 hb2 => ?_
      · rw [set_getD (by omega)]
        by_cases e : a = b
        · subst e; rw [if_pos rfl]; exact c3
        · rw [if_neg e]; exact h1 b (by omega)
      · rw [set_getD (by omega), if_neg (by omega)]
        exact h2 b (by omega) hb2
    have hguard : (if decide (g ≥ 0) then (some g) >>= fun x147 => some (x147 != (a : Int)) else some false : Option Bool) = some (decide (0 ≤ g ∧ g ≠ (a : Int))) := by
      by_cases h0 : g ≥ 0
      · rw [if_pos (by simpa using h0), sb]
        congr 1
        by_cases e : g = (a : Int)
        · simp [e]
        · simp [e, h0]
      · rw [if_neg (by simpa using h0)]
        congr 1
        have : ¬ (0 ≤ g ∧ g ≠ (a : Int)) := fun h => h0 h.1
        simp [this]
    by_cases hno : 0 ≤ g ∧ g ≠ (a : Int)
    · have hs0 : s.set a 0 = s := by
        apply List.ext_getElem?
        intro j
        rw [List.getElem?_set]
        by_cases e : a = j
        · subst e
          have := h2 a (Nat.le_refl _) ha
          rw [List.getD_eq_getElem?_getD, List.getElem?_eq_getElem (by omega)] at this
          rw [if_pos rfl, if_pos (by omega), List.getElem?_eq_getElem (by omega)]
          simpa using this.symm
        · rw [if_neg e]
      refine next 0 (by decide) (by decide) ?_ ?_
      · constructor
        · intro h0; omega
        · rintro ⟨h0 | h0, _⟩ <;> omega
      · unfold fS_roCounts_s3
        rw [hg, sb, hguard, sb, if_pos (by simpa using hno), hs0]
    · have hfit : g < 0 ∨ g = (a : Int) := by
        by_cases e : g < 0
        · exact .inl e
        · right
          exact Classical.byContradiction fun e2 => hno ⟨by omega, e2⟩
      by_cases hk0 : kids = []
      · subst hk0
        refine next 1 (by decide) (by decide) ⟨fun _ => ⟨hfit, .inl rfl⟩, fun _ => by decide⟩ ?_
        unfold fS_roCounts_s3
        rw [hg, sb, hguard, sb, if_neg (by simpa using hno), hk, sb, if_pos (by simp), g1, sb, st_nat _ _ _ (by omega), sb, lines_leaf fuel p h kl v hk R _ _ p.Lines 0 (fun x hx => hx), sb]
      · have hRl := hR hk0
        obtain ⟨c, c1, c2, c3, c4⟩ := lines_sum fuel n p h hn hf kl v kids hk hk0 R hRl hr a ha p.Lines [] s (by simp) hs (by rw [h2 a (Nat.le_refl _) ha]; simp)
        rw [List.length_nil, show ((0 : Nat) : Int) = 0 from rfl] at c1
        refine next c c2 c3 ?_ ?_
        · rw [c4, may_line h _ R hRl]
          exact ⟨fun hm => ⟨hfit, .inr hm⟩, fun hm => hm.2.resolve_left hk0⟩
        · have hkl : ¬ ((kids.length : Int) = 0) := fun e => hk0 (List.eq_nil_of_length_eq_zero (by omega))
          unfold fS_roCounts_s3
          rw [hg, sb, hguard, sb, if_neg (by simpa using hno), hk, sb, if_neg (by simpa using hkl), c1, sb]
theorem goC {σ τ ρ : Type} {f : σ → Option (Lp σ τ ρ)} {s s' : σ} (h : f s = some (.go s')) (fuel : Nat) : loopF f (fuel + 1) s = loopF f fuel s' := by simp only [loopF, h]
theorem outC {σ τ ρ : Type} {f : σ → Option (Lp σ τ ρ)} {s : σ} {t : τ} (h : f s = some (.out t)) (fuel : Nat) : loopF f (fuel + 1) s = some (.inl t) := by simp only [loopF, h]
/-! ### One node's set -/
theorem imgL_set {t : List Int} {v : Nat} {c : Int} {kids : List Int} (h : ∀ y ∈ kids, 0 ≤ y ∧ y.toNat ≠ v) : imgL (t.set v c) kids = imgL t kids := by
  unfold imgL
  refine List.map_congr_left fun y hy => ?_
  have := h y hy
  rw [List.getD_eq_getElem?_getD, List.getD_eq_getElem?_getD, List.getElem?_set_ne (by omega)]
theorem row_sets (fuel n : Nat) (p : T_RootedProblem) (h : rootedB p = true) (hn : p.Labels.toNat = n) (hJ : p.Lines.length ≤ 1048576) (hf : 2000000 ≤ fuel) (given : List Int) (kl : List (List Int)) (v : Nat) (kids : List Int) (hk : ix kl (v : Int) = some kids) (g : Int) (hg : ix given (v : Int) = some g) (R : List (List Int)) (hR : kids ≠ [] → (R.length : Int) = p.Children) (T : List Int) (hT : v < T.length) (hT2 : T.length ≤ 1000)
    (hkv : ∀ y ∈ kids, 0 ≤ y ∧ y.toNat ≠ v ∧ y < T.length) (hkl : kids.length = R.length) (hrel : ∀ (i : Nat) r t, R[i]? = some r → (imgL T kids)[i]? = some t → RelR n r t) :
    ∀ (d a : Nat), a + d = n → forN (fI_CompleteRooted_s2 fuel p given kl (v : Int)) d (a : Int) (T.set v (bitsN (condN p g kids R) a : Int)) = some (.inl (T.set v (bitsN (condN p g kids R) n : Int)))
  | 0, a, hd => by
    have : a = n := by omega
    subst this
    rfl
  | d + 1, a, hd => by
    obtain ⟨hL, hn8, hok⟩ := okLines_of h
    have ih := row_sets fuel n p h hn hJ hf given kl v kids hk g hg R hR T hT hT2 hkv hkl hrel d (a + 1) (by omega)
    have ha : a < n := by omega
    have hC : p.Children ≤ 3 := by
      have := h
      simp only [rootedB, Bool.and_eq_true] at this
      exact (inB_iff.1 this.1.2).2
    have hlt := bitsN_lt (condN p g kids R) a
    have hlt' : 2 ^ a ≤ 2 ^ 8 := Nat.pow_le_pow_right (by decide) (by omega)
    have hget : ix (T.set v (bitsN (condN p g kids R) a : Int)) (v : Int) = some (bitsN (condN p g kids R) a : Int) := by
      rw [ix_nat, List.getElem?_set_self hT]
    have hfitE : (if decide (g < 0) then some true else (some g) >>= fun x91 => some (x91 == (a : Int)) : Option Bool) = some (decide (g < 0 ∨ g = (a : Int))) := by
      by_cases h0 : g < 0
      · rw [if_pos (by simpa using h0)]; simp [h0]
      · rw [if_neg (by simpa using h0), sb]
        congr 1
        by_cases e : g = (a : Int)
        · simp [e]
        · simp [e, h0]
    have hbody : fI_CompleteRooted_s2 fuel p given kl (v : Int) (a : Int) (T.set v (bitsN (condN p g kids R) a : Int)) = some (.go (T.set v (bitsN (condN p g kids R) (a + 1) : Int))) := by
      have fin : ∀ (q : Bool), (q = true ↔ condN p g kids R a) → ((some q : Option Bool) >>= fun q100 => if q100 then (ix (T.set v (bitsN (condN p g kids R) a : Int)) (v : Int)) >>= fun x403 => (shl 1 (a : Int)) >>= fun x406 => (ix (T.set v (bitsN (condN p g kids R) a : Int)) (v : Int)) >>= fun x441 => (st (T.set v (bitsN (condN p g kids R) a : Int)) (v : Int) (bor x403 x406)) >>= fun x450 => some (.go x450) else some (.go (T.set v (bitsN (condN p g kids R) a : Int))) : Option (Lp (List Int) (List Int) ((List Int) × Bool))) = some (.go (T.set v (bitsN (condN p g kids R) (a + 1) : Int))) := fun q hq => by
        rw [sb]
        by_cases hc : condN p g kids R a
        · rw [if_pos (hq.2 hc), hget, sb, shl_one (by omega), sb, sb, bor_nat (by omega) (by omega), st_nat _ _ _ (by rw [List.length_set]; exact hT), sb, List.set_set, bitsN_yes hc]
        · rw [if_neg (fun e => hc (hq.1 e)), bitsN_no hc]
      unfold fI_CompleteRooted_s2
      rw [hg, sb, hfitE, sb]
      by_cases hfit : g < 0 ∨ g = (a : Int)
      · rw [if_pos (by simpa using hfit), hk, sb]
        by_cases hk0 : kids = []
        · rw [if_pos (by simp [hk0])]
          exact fin true ⟨fun _ => ⟨hfit, .inl hk0⟩, fun _ => rfl⟩
        · have hkl0 : ¬ ((kids.length : Int) = 0) := fun e => hk0 (List.eq_nil_of_length_eq_zero (by omega))
          have hRl := hR hk0
          have himg := imgL_set (t := T) (v := v) (c := (bitsN (condN p g kids R) a : Int)) (kids := kids) fun y hy => ⟨(hkv y hy).1, (hkv y hy).2.1⟩
          obtain ⟨b, b1, b2⟩ := e_canComplete fuel n p h hn hJ hf (a : Int) R (imgL T kids) hRl (by rw [imgL_len]; exact hkl) hrel
          rw [if_neg (by simpa using hkl0), sb, (e_coThrough _ kids (by rw [List.length_set]; omega) (fun y hy => by rw [List.length_set]; exact ⟨(hkv y hy).1, (hkv y hy).2.2⟩) (by omega)).2, sb, himg, b1, sb]
          exact fin b ⟨fun e => ⟨hfit, .inr (b2.1 e)⟩, fun e => b2.2 (e.2.resolve_left hk0)⟩
      · rw [if_neg (by simpa using hfit)]
        exact fin false ⟨fun e => (by simp at e), fun e => absurd e.1 hfit⟩
    simp only [forN, hbody]
    rw [show ((a : Int) + 1) = ((a + 1 : Nat) : Int) by omega]
    exact ih
/-! ### All nodes, from the last -/
structure Tree (p : T_RootedProblem) (par : List Int) : Prop where
  rb : rootedB p = true
  n1 : 1 ≤ par.length
  n2 : par.length ≤ 200
  pr : ∀ (j : Nat) x, par[j]? = some x → if j = 0 then x = -1 else 0 ≤ x ∧ x < j
  kid : ∀ l, l ∈ kidsL par par.length → l = [] ∨ (l.length : Int) = p.Children
theorem Tree.of {p : T_RootedProblem} {par : List Int} (h : askB p par = true) : Tree p par := by
  unfold askB at h
  rw [Bool.and_eq_true] at h
  obtain ⟨h1, h2, h3, h4, h5, h6⟩ := treeB_iff h.2
  exact ⟨h.1, h3, h4, parP_none h5, h6⟩
theorem Tree.lt {p : T_RootedProblem} {par : List Int} (t : Tree p par) : ∀ x, x ∈ par → x < par.length := fun x hx => by
  obtain ⟨j, hj⟩ := List.getElem?_of_mem hx
  have hjl := (List.getElem?_eq_some_iff.1 hj).1
  have := t.pr j x hj
  split at this <;> omega
def kidsOf (par : List Int) (v : Nat) : List Int := kidF par par.length v
theorem Tree.kids {p : T_RootedProblem} {par : List Int} (t : Tree p par) {v : Nat} (hv : v < par.length) : ix (kidsL par par.length) (v : Int) = some (kidsOf par v) ∧ (kidsOf par v ≠ [] → ((kidsOf par v).length : Int) = p.Children) ∧ ∀ y ∈ kidsOf par v, ∃ w : Nat, y = w ∧ v < w ∧ w < par.length ∧ par[w]? = some (v : Int) := by
  refine ⟨by rw [ix_nat, kidsL_get hv]; rfl, fun h0 => ?_, fun y hy => ?_⟩
  · exact (t.kid _ (List.mem_of_getElem? (kidsL_get hv))).resolve_left h0
  · obtain ⟨w, rfl, h1, h2⟩ := mem_kidF.1 hy
    have h3 := List.getElem?_eq_getElem h1
    rw [List.getD_eq_getElem?_getD, h3] at h2
    have h2' : par[w] = (v : Int) := h2
    have := t.pr w _ h3
    rw [h2'] at this h3
    refine ⟨w, rfl, ?_, h1, h3⟩
    split at this <;> omega
def rowsOf (cs : List (List Int)) (kids : List Int) : List (List Int) := kids.map fun y => cs.getD y.toNat []
theorem rowsOf_len (cs : List (List Int)) (kids : List Int) : (rowsOf cs kids).length = kids.length := by simp [rowsOf]
theorem rows_rel {n : Nat} {cs : List (List Int)} {ts : List Int} {kids : List Int} (h : ∀ y ∈ kids, RelR n (cs.getD y.toNat []) (ts.getD y.toNat 0)) : (∀ r ∈ rowsOf cs kids, OkRow n r) ∧ ∀ (i : Nat) r t, (rowsOf cs kids)[i]? = some r → (imgL ts kids)[i]? = some t → RelR n r t := by
  constructor
  · intro r hr
    obtain ⟨y, hy, rfl⟩ := List.mem_map.1 hr
    exact (h y hy).ok
  · intro i r t hr ht
    unfold rowsOf at hr
    unfold imgL at ht
    rw [List.getElem?_map] at hr ht
    cases hy : kids[i]? with
    | none => rw [hy] at hr; cases hr
    | some y =>
      rw [hy] at hr ht
      cases hr; cases ht
      exact h y (List.mem_of_getElem? hy)
theorem getD_set_neD {α : Type} {cs : List α} {v w : Nat} {c d : α} (h : v ≠ w) : (cs.set v c).getD w d = cs.getD w d := by
  rw [List.getD_eq_getElem?_getD, List.getD_eq_getElem?_getD, List.getElem?_set_ne h]
theorem getD_set_eqD {α : Type} {cs : List α} {v : Nat} {c d : α} (h : v < cs.length) : (cs.set v c).getD v d = c := by
  rw [List.getD_eq_getElem?_getD, List.getElem?_set_self h]; rfl
theorem phase1 (fuel n : Nat) (p : T_RootedProblem) (par given : List Int) (t : Tree p par) (hn : p.Labels.toNat = n) (hJ : p.Lines.length ≤ 1048576) (hf : 2000000 ≤ fuel) (hgl : given.length = par.length) :
    ∀ (j f1 : Nat) (cs : List (List Int)) (ts : List Int), j ≤ par.length → j < f1 → cs.length = par.length → ts.length = par.length → (∀ w, j ≤ w → w < par.length → RelR n (cs.getD w []) (ts.getD w 0)) → (∀ w, w < j → ts.getD w 0 = 0) →
      ∃ cs' ts', loopF (fS_roCounts_s1 fuel p given (kidsL par par.length)) f1 (cs, (j : Int) - 1) = some (.inl (cs', -1)) ∧ loopF (fI_CompleteRooted_s1 fuel p given (kidsL par par.length)) f1 (ts, (j : Int) - 1) = some (.inl (ts', -1)) ∧
        cs'.length = par.length ∧ ts'.length = par.length ∧ ∀ w, w < par.length → RelR n (cs'.getD w []) (ts'.getD w 0)
  | 0, f1, cs, ts, hj, hf1, h1, h2, h3, h4 => by
    obtain ⟨f1, rfl⟩ : ∃ q, f1 = q + 1 := ⟨f1 - 1, by omega⟩
    refine ⟨cs, ts, outC ?_ f1, outC ?_ f1, h1, h2, fun w hw => h3 w (Nat.zero_le _) hw⟩
    · unfold fS_roCounts_s1
      rw [if_neg (by simp)]; rfl
    · unfold fI_CompleteRooted_s1
      rw [if_neg (by simp)]; rfl
  | v + 1, f1, cs, ts, hj, hf1, h1, h2, h3, h4 => by
    obtain ⟨f1, rfl⟩ : ∃ q, f1 = q + 1 := ⟨f1 - 1, by omega⟩
    obtain ⟨hL, hn8, hok⟩ := okLines_of t.rb
    have n2 := t.n2
    have hv : v < par.length := by omega
    obtain ⟨k1, k2, k3⟩ := t.kids hv
    obtain ⟨g, hg⟩ : ∃ g, ix given (v : Int) = some g := ⟨_, ix_lt given v (by omega)⟩
    have hrel : ∀ y ∈ kidsOf par v, RelR n (cs.getD y.toNat []) (ts.getD y.toNat 0) := fun y hy => by
      obtain ⟨w, rfl, w1, w2, _⟩ := k3 y hy
      exact h3 w (by omega) w2
    obtain ⟨r1, r2⟩ := rows_rel hrel
    have hkl := kidF_length par par.length v
    have hkl' : (kidsOf par v).length ≤ 200 := by unfold kidsOf; omega
    have hz : mk (Rz.z : Int) p.Labels = some (List.replicate n 0) := by
      unfold mk
      rw [if_pos (by omega), hn]; rfl
    have hzr : OkRow n (List.replicate n (0 : Int)) := ⟨by simp, fun y hy => by rw [List.mem_replicate] at hy; omega⟩
    have hz0 : ∀ b, (List.replicate n (0 : Int)).getD b 0 = 0 := fun b => by
      rw [List.getD_eq_getElem?_getD, List.getElem?_replicate]
      split <;> rfl
    obtain ⟨row, row1, row2, row3⟩ := row_counts fuel n p t.rb hn (by omega) given (kidsL par par.length) (v : Int) (kidsOf par v) k1 g hg (rowsOf cs (kidsOf par v)) (fun h0 => by rw [rowsOf_len]; exact k2 h0) r1 n 0 (List.replicate n 0) (by omega) hzr (fun b hb => by omega) (fun b _ _ => hz0 b)
    rw [show ((0 : Nat) : Int) = 0 from rfl] at row1
    have hloop2 := forI_invk0 (body := fS_roCounts_s2 (v : Int) (cs.set v (List.replicate n 0))) (fun i => rowsOf cs ((kidsOf par v).take i)) (kidsOf par v) (fun i y hy => by
      have hi := (List.getElem?_eq_some_iff.1 hy).1
      obtain ⟨w, rfl, w1, w2, _⟩ := k3 y (List.mem_of_getElem? hy)
      have hne : v ≠ w := by omega
      unfold fS_roCounts_s2 nei
      rw [ix_nat, List.getElem?_set_ne hne, List.getElem?_eq_getElem (show w < cs.length by omega), sb, if_neg (by omega), sb]
      unfold push
      rw [if_pos (by rw [rowsOf_len, List.length_take]; omega), sb, take_snoc hy]
      unfold rowsOf
      rw [List.map_append]
      simp [List.getElem?_eq_getElem (show w < cs.length by omega)])
    rw [List.take_length] at hloop2
    have hS1 : fS_roCounts_s1 fuel p given (kidsL par par.length) (cs, ((v + 1 : Nat) : Int) - 1) = some (.go (cs.set v row, (v : Int) - 1)) := by
      unfold fS_roCounts_s1
      simp only
      rw [show (((v + 1 : Nat) : Int) - 1) = (v : Int) by omega, if_pos (by simp), hz, sb, ix_lt cs v (by omega), sb, st_nat _ _ _ (show v < cs.length by omega), sb, k1, sb]
      rw [show ([] : List (List Int)) = rowsOf cs ((kidsOf par v).take 0) from rfl, hloop2, sb]
      simp only
      rw [List.length_replicate, ck_in (by omega) (by omega), sb, Int.toNat_natCast, row1, sb]
      simp only
      rw [ck_in (by omega) (by omega), sb, Int.toNat_natCast, List.set_set]
    have hset0 : ts.set v (bitsN (condN p g (kidsOf par v) (rowsOf cs (kidsOf par v))) 0 : Int) = ts := by
      apply List.ext_getElem?
      intro j'
      rw [List.getElem?_set]
      by_cases e : v = j'
      · subst e
        have := h4 v (by omega)
        rw [List.getD_eq_getElem?_getD, List.getElem?_eq_getElem (by omega)] at this
        rw [if_pos rfl, if_pos (by omega), List.getElem?_eq_getElem (by omega)]
        have : ts[v]'(by omega) = 0 := this
        rw [this]; rfl
      · rw [if_neg e]
    have hsets := row_sets fuel n p t.rb hn hJ hf given (kidsL par par.length) v (kidsOf par v) k1 g hg (rowsOf cs (kidsOf par v)) (fun h0 => by rw [rowsOf_len]; exact k2 h0) ts (by omega) (by omega) (fun y hy => by
      obtain ⟨w, rfl, w1, w2, _⟩ := k3 y hy
      exact ⟨by omega, by omega, by omega⟩) (by rw [rowsOf_len]) r2 n 0 (by omega)
    rw [hset0, show ((0 : Nat) : Int) = 0 from rfl] at hsets
    have hI1 : fI_CompleteRooted_s1 fuel p given (kidsL par par.length) (ts, ((v + 1 : Nat) : Int) - 1) = some (.go (ts.set v (bitsN (condN p g (kidsOf par v) (rowsOf cs (kidsOf par v))) n : Int), (v : Int) - 1)) := by
      unfold fI_CompleteRooted_s1
      simp only
      rw [show (((v + 1 : Nat) : Int) - 1) = (v : Int) by omega, if_pos (by simp), ck_in (by omega) (by omega), sb, hn, hsets, sb]
      simp only
      rw [ck_in (by omega) (by omega), sb]
    rw [goC hS1, goC hI1]
    refine phase1 fuel n p par given t hn hJ hf hgl v f1 _ _ (by omega) (by omega) (by rw [List.length_set]; exact h1) (by rw [List.length_set]; exact h2) (fun w hw1 hw2 => ?_) (fun w hw => ?_)
    · by_cases e : v = w
      · subst e
        rw [getD_set_eqD (by omega), getD_set_eqD (by omega)]
        exact ⟨row2, _, rfl, bitsN_lt _ _, fun b hb => by rw [row3 b hb, bitsN_test]; exact ⟨fun hc => ⟨hb, hc⟩, fun hc => hc.2⟩⟩
      · rw [getD_set_neD e, getD_set_neD e]
        exact h3 w (by omega) hw2
    · rw [getD_set_neD (by omega)]
      exact h4 w (by omega)
/-- The labels of a set from a on. -/
def remL (S : Nat) : Nat → Nat → List Int
  | 0, _ => []
  | d + 1, a => if S.testBit a then (a : Int) :: remL S d (a + 1) else remL S d (a + 1)
theorem remL_succ (S d a : Nat) : remL S (d + 1) a = if S.testBit a then (a : Int) :: remL S d (a + 1) else remL S d (a + 1) := rfl
theorem remL_lbs (S : Nat) : ∀ (d a : Nat), lbs a S ++ remL S d a = lbs (a + d) S
  | 0, a => by simp [remL]
  | d + 1, a => by
    have ih := remL_lbs S d (a + 1)
    rw [show a + (d + 1) = a + 1 + d by omega, ← ih, lbs_succ]
    rw [remL_succ]
    split <;> simp
theorem unit_row {n a : Nat} (ha : a < n) : RelR n ((List.replicate n (0 : Int)).set a 1) ((2 ^ a : Nat) : Int) := by
  refine ⟨OkRow.set ⟨by simp, fun y hy => by rw [List.mem_replicate] at hy; omega⟩ (by decide) (by decide), 2 ^ a, rfl, Nat.pow_lt_pow_right (by decide) ha, fun b hb => ?_⟩
  rw [set_getD (by simpa using ha), Nat.testBit_two_pow, decide_eq_true_eq]
  by_cases e : a = b
  · rw [if_pos e]; exact ⟨fun _ => e, fun _ => by decide⟩
  · rw [if_neg e, List.getD_eq_getElem?_getD, List.getElem?_replicate, if_pos hb]
    exact ⟨fun h => by simp at h, fun h => absurd h e⟩
structure Both (n N : Nat) (cs : List (List Int)) (ts : List Int) : Prop where
  l1 : cs.length = N
  l2 : ts.length = N
  rel : ∀ w, w < N → RelR n (cs.getD w []) (ts.getD w 0)
theorem try_node (fuel n : Nat) (p : T_RootedProblem) (par : List Int) (t : Tree p par) (hn : p.Labels.toNat = n) (hJ : p.Lines.length ≤ 1048576) (hf : 2000000 ≤ fuel) (v : Nat) (hv : v < par.length) (u : Int) (hu : par[v]? = some u) (outl : List Int) (ho : outl.length = v) (own : List Int) (S : Nat) (hown : OkRow n own) (hS : ∀ b, b < n → (0 < own.getD b 0 ↔ S.testBit b = true)) :
    ∀ (d a f1 : Nat) (i : Int) (cs : List (List Int)) (ts : List Int), a + d = n → d + 1 < f1 → cs.length = par.length → ts.length = par.length → (∀ w, w < par.length → w ≠ v → RelR n (cs.getD w []) (ts.getD w 0)) →
      ∃ (cs' : List (List Int)) (ts' : List Int) (at' ae : Int), loopF (fS_CompleteRooted_s2 fuel p par (kidsL par par.length) outl (v : Int) own) f1 (cs, -1, (a : Int)) = some (.inl (cs', at', ae)) ∧
        forI (fI_CompleteRooted_s4 fuel p (kidsL par par.length) outl (v : Int) u) (remL S d a) i (ts, -1) = some (.inl (ts', at')) ∧ (at' < 0 ∨ (0 ≤ at' ∧ at' < n ∧ Both n par.length cs' ts'))
  | 0, a, f1, i, cs, ts, hd, hf1, h1, h2, h3 => by
    obtain ⟨hL, hn8, hok⟩ := okLines_of t.rb
    obtain ⟨f1, rfl⟩ : ∃ q, f1 = q + 1 := ⟨f1 - 1, by omega⟩
    refine ⟨cs, ts, -1, (a : Int), outC ?_ f1, rfl, .inl (by decide)⟩
    unfold fS_CompleteRooted_s2
    simp only
    rw [if_neg (by simp; omega), sb]; rfl
  | d + 1, a, f1, i, cs, ts, hd, hf1, h1, h2, h3 => by
    obtain ⟨hL, hn8, hok⟩ := okLines_of t.rb
    obtain ⟨f1, rfl⟩ : ∃ q, f1 = q + 1 := ⟨f1 - 1, by omega⟩
    have n2 := t.n2
    have ha : a < n := by omega
    obtain ⟨o1, o2, o3⟩ := hown.get (a := (a : Int)) (by omega)
    rw [Int.toNat_natCast] at o1 o2 o3
    have hguard : (if decide ((a : Int) < p.Labels) then some (decide ((-1 : Int) < 0)) else some false : Option Bool) = some true := by
      rw [if_pos (by simp; omega)]; rfl
    by_cases h0 : own.getD a 0 = 0
    · have hbit : ¬ S.testBit a = true := fun e => by have := (hS a ha).2 e; omega
      have hbody : fS_CompleteRooted_s2 fuel p par (kidsL par par.length) outl (v : Int) own (cs, -1, (a : Int)) = some (.go (cs, -1, ((a + 1 : Nat) : Int))) := by
        unfold fS_CompleteRooted_s2
        simp only
        rw [hguard, sb, if_pos rfl, o1, sb, if_pos (by rw [beq_iff_eq]; exact h0), ck_in (by omega) (by omega), sb]
        rfl
      rw [goC hbody]
      rw [remL_succ, if_neg hbit]
      exact try_node fuel n p par t hn hJ hf v hv u hu outl ho own S hown hS d (a + 1) f1 i cs ts (by omega) (by omega) h1 h2 h3
    · have hbit : S.testBit a = true := (hS a ha).1 (by omega)
      have hz : mk (Rz.z : Int) p.Labels = some (List.replicate n 0) := by
        unfold mk
        rw [if_pos (by omega), hn]; rfl
      have hcs1 : (cs.set v (List.replicate n 0)).set (v : Int).toNat ((List.replicate n (0 : Int)).set a 1) = cs.set v ((List.replicate n (0 : Int)).set a 1) := by
        rw [Int.toNat_natCast, List.set_set]
      have hboth : Both n par.length (cs.set v ((List.replicate n (0 : Int)).set a 1)) (ts.set v ((2 ^ a : Nat) : Int)) := by
        refine ⟨by rw [List.length_set]; exact h1, by rw [List.length_set]; exact h2, fun w hw => ?_⟩
        by_cases e : v = w
        · subst e
          rw [getD_set_eqD (by omega), getD_set_eqD (by omega)]
          exact unit_row ha
        · rw [getD_set_neD e, getD_set_neD e]
          exact h3 w hw (Ne.symm e)
      have hsh : shl 1 (a : Int) = some ((2 ^ a : Nat) : Int) := shl_one (by omega)
      have hstop : ∀ (cs2 : List (List Int)), loopF (fS_CompleteRooted_s2 fuel p par (kidsL par par.length) outl (v : Int) own) f1 (cs2, (a : Int), ((a + 1 : Nat) : Int)) = some (.inl (cs2, (a : Int), ((a + 1 : Nat) : Int))) := fun cs2 => by
        obtain ⟨f2, rfl⟩ : ∃ q, f1 = q + 1 := ⟨f1 - 1, by omega⟩
        refine outC ?_ f2
        unfold fS_CompleteRooted_s2
        simp only
        by_cases hlt : ((a + 1 : Nat) : Int) < p.Labels
        · rw [if_pos (by simpa using hlt), sb, if_neg (by simp)]
        · rw [if_neg (by simpa using hlt), sb, if_neg (by simp)]
      have hpv := t.pr v u hu
      by_cases hv0 : v = 0
      · subst hv0
        rw [if_pos rfl] at hpv
        have hbody : fS_CompleteRooted_s2 fuel p par (kidsL par par.length) outl ((0 : Nat) : Int) own (cs, -1, (a : Int)) = some (.go (cs.set 0 ((List.replicate n (0 : Int)).set a 1), (a : Int), ((a + 1 : Nat) : Int))) := by
          unfold fS_CompleteRooted_s2
          simp only
          rw [hguard, sb, if_pos rfl, o1, sb, if_neg (by simpa using h0), hz, sb, ix_lt cs 0 (by omega), sb, st_nat _ _ _ (show 0 < cs.length by omega), sb, ix_lt _ a (by simpa using ha), sb, st_nat _ _ _ (by simpa using ha), sb, if_pos (by simp), ck_in (by omega) (by omega), sb, hcs1]
          rfl
        rw [goC hbody, hstop]
        refine ⟨_, ts.set 0 ((2 ^ a : Nat) : Int), (a : Int), _, rfl, ?_, .inr ⟨by omega, by omega, hboth⟩⟩
        have hb2 : fI_CompleteRooted_s4 fuel p (kidsL par par.length) outl ((0 : Nat) : Int) u i (a : Int) (ts, -1) = some (.out (ts.set 0 ((2 ^ a : Nat) : Int), (a : Int))) := by
          unfold fI_CompleteRooted_s4
          simp only
          rw [hsh, sb, ix_lt ts 0 (by omega), sb, st_nat _ _ _ (show 0 < ts.length by omega), sb, if_pos (by simp [hpv]), sb, if_pos rfl]
        rw [remL_succ, if_pos hbit]
        simp only [forI, hb2]
      · rw [if_neg hv0] at hpv
        obtain ⟨uu, rfl⟩ : ∃ q : Nat, u = q := ⟨u.toNat, by omega⟩
        have huv : uu < v := by omega
        obtain ⟨k1, k2, k3⟩ := t.kids (show uu < par.length by omega)
        have hvk : ((v : Int)) ∈ kidsOf par uu := by
          unfold kidsOf
          exact mem_kidF.2 ⟨v, rfl, hv, by rw [List.getD_eq_getElem?_getD, hu]; rfl⟩
        have hkne : kidsOf par uu ≠ [] := fun e => by rw [e] at hvk; cases hvk
        have hkc := k2 hkne
        have hkin : ∀ y ∈ kidsOf par uu, RelR n ((cs.set v ((List.replicate n (0 : Int)).set a 1)).getD y.toNat []) ((ts.set v ((2 ^ a : Nat) : Int)).getD y.toNat 0) := fun y hy => by
          obtain ⟨w, rfl, w1, w2, _⟩ := k3 y hy
          exact hboth.rel w w2
        obtain ⟨r1, r2⟩ := rows_rel hkin
        have hkl := kidF_length par par.length uu
        have hkl' : (kidsOf par uu).length ≤ 200 := by unfold kidsOf; omega
        obtain ⟨lab, hlab⟩ : ∃ lab, ix outl (uu : Int) = some lab := ⟨_, ix_lt outl uu (by omega)⟩
        obtain ⟨b, b1, b2⟩ := e_roMay fuel n p t.rb hn lab (rowsOf (cs.set v ((List.replicate n (0 : Int)).set a 1)) (kidsOf par uu)) (by rw [rowsOf_len]; exact hkc) r1 (by omega)
        obtain ⟨b', b3, b4⟩ := e_canComplete fuel n p t.rb hn hJ hf lab (rowsOf (cs.set v ((List.replicate n (0 : Int)).set a 1)) (kidsOf par uu)) (imgL (ts.set v ((2 ^ a : Nat) : Int)) (kidsOf par uu)) (by rw [rowsOf_len]; exact hkc) (by rw [imgL_len, rowsOf_len]) r2
        have hbb : b = b' := by rw [Bool.eq_iff_iff, b2, b4]
        subst hbb
        have hloop3 := forI_invk0 (body := fS_CompleteRooted_s3 (v : Int) (cs.set v (List.replicate n 0)) ((List.replicate n (0 : Int)).set a 1)) (fun q => rowsOf (cs.set v ((List.replicate n (0 : Int)).set a 1)) ((kidsOf par uu).take q)) (kidsOf par uu) (fun q y hy => by
          have hq := (List.getElem?_eq_some_iff.1 hy).1
          obtain ⟨w, rfl, w1, w2, _⟩ := k3 y (List.mem_of_getElem? hy)
          have hwl : w < (cs.set v ((List.replicate n (0 : Int)).set a 1)).length := by rw [List.length_set]; omega
          unfold fS_CompleteRooted_s3
          rw [hcs1, ix_lt _ w hwl, sb]
          unfold push
          rw [if_pos (by rw [rowsOf_len, List.length_take]; omega), sb, take_snoc hy]
          unfold rowsOf
          rw [List.map_append]
          have : (cs.set v ((List.replicate n (0 : Int)).set a 1)).getD w [] = (cs.set v ((List.replicate n (0 : Int)).set a 1))[w] := by rw [List.getD_eq_getElem?_getD, List.getElem?_eq_getElem hwl]; rfl
          simp only [List.map_cons, List.map_nil, Int.toNat_natCast, this])
        rw [List.take_length] at hloop3
        have hparv : ix par (v : Int) = some (uu : Int) := by rw [ix_nat]; exact hu
        have hbody : fS_CompleteRooted_s2 fuel p par (kidsL par par.length) outl (v : Int) own (cs, -1, (a : Int)) = some (.go (cs.set v ((List.replicate n (0 : Int)).set a 1), if b then (a : Int) else -1, ((a + 1 : Nat) : Int))) := by
          unfold fS_CompleteRooted_s2
          simp only
          rw [hguard, sb, if_pos rfl, o1, sb, if_neg (by simpa using h0), hz, sb, ix_lt cs v (by omega), sb, st_nat _ _ _ (show v < cs.length by omega), sb, ix_lt _ a (by simpa using ha), sb, st_nat _ _ _ (by simpa using ha), sb, if_neg (by simp; omega), hparv, sb, k1, sb]
          rw [show ([] : List (List Int)) = rowsOf (cs.set v ((List.replicate n (0 : Int)).set a 1)) ((kidsOf par uu).take 0) from rfl, hloop3, sb]
          simp only
          rw [sb, hlab, sb, b1, sb, hcs1, ck_in (by omega) (by omega), sb]
          cases b <;> rfl
        have hb2 : fI_CompleteRooted_s4 fuel p (kidsL par par.length) outl (v : Int) (uu : Int) i (a : Int) (ts, -1) = some (if b then .out (ts.set v ((2 ^ a : Nat) : Int), (a : Int)) else .go (ts.set v ((2 ^ a : Nat) : Int), -1)) := by
          unfold fI_CompleteRooted_s4
          simp only
          rw [hsh, sb, ix_lt ts v (by omega), sb, st_nat _ _ _ (show v < ts.length by omega), sb, if_neg (by simp), hlab, sb, k1, sb, (e_coThrough _ _ (by rw [List.length_set]; omega) (fun y hy => by
            obtain ⟨w, rfl, w1, w2, _⟩ := k3 y hy
            rw [List.length_set]; omega) (by omega)).2, sb, b3, sb, sb]
          cases b <;> rfl
        rw [goC hbody]
        rw [remL_succ, if_pos hbit]
        simp only [forI, hb2]
        cases b with
        | true =>
          simp only [if_true]
          rw [hstop]
          exact ⟨_, ts.set v ((2 ^ a : Nat) : Int), (a : Int), _, rfl, rfl, .inr ⟨by omega, by omega, hboth⟩⟩
        | false =>
          simp only [Bool.false_eq_true, if_false]
          exact try_node fuel n p par t hn hJ hf v hv _ hu outl ho own S hown hS d (a + 1) f1 (i + 1) _ _ (by omega) (by omega) (by rw [List.length_set]; exact h1) (by rw [List.length_set]; exact h2) fun w hw hne => hboth.rel w hw
theorem phase2 (fuel n : Nat) (p : T_RootedProblem) (par : List Int) (t : Tree p par) (hn : p.Labels.toNat = n) (hJ : p.Lines.length ≤ 1048576) (hf : 2000000 ≤ fuel) :
    ∀ (d v : Nat) (cs : List (List Int)) (ts outl : List Int), v + d = par.length → outl.length = v → Both n par.length cs ts →
      (∃ cs' ts' l, forN (fS_CompleteRooted_s1 fuel p par (kidsL par par.length)) d (v : Int) (cs, outl) = some (.inl (cs', l)) ∧ forI (fI_CompleteRooted_s3 fuel p (kidsL par par.length)) (par.drop v) (v : Int) (ts, outl) = some (.inl (ts', l)) ∧ l.length = par.length) ∨
      (forN (fS_CompleteRooted_s1 fuel p par (kidsL par par.length)) d (v : Int) (cs, outl) = some (.inr ([], false)) ∧ forI (fI_CompleteRooted_s3 fuel p (kidsL par par.length)) (par.drop v) (v : Int) (ts, outl) = some (.inr ([], false)))
  | 0, v, cs, ts, outl, hd, ho, hb => by
    left
    rw [List.drop_eq_nil_of_le (by omega)]
    exact ⟨cs, ts, outl, rfl, rfl, by omega⟩
  | d + 1, v, cs, ts, outl, hd, ho, hb => by
    obtain ⟨hL, hn8, hok⟩ := okLines_of t.rb
    have n2 := t.n2
    have hv : v < par.length := by omega
    have hu := List.getElem?_eq_getElem hv
    obtain ⟨q1, q2, q3⟩ := hb
    have hr := q3 v hv
    obtain ⟨S, s1, s2, s3⟩ := hr.ex
    have hcv : ix cs (v : Int) = some (cs.getD v []) := by
      rw [ix_lt cs v (by omega), List.getD_eq_getElem?_getD, List.getElem?_eq_getElem (show v < cs.length by omega)]; rfl
    have htv : ix ts (v : Int) = some (S : Int) := by
      rw [ix_lt ts v (by omega)]
      rw [List.getD_eq_getElem?_getD, List.getElem?_eq_getElem (show v < ts.length by omega)] at s1
      congr 1
    obtain ⟨cs', ts', at', ae, g1, g2, g3⟩ := try_node fuel n p par t hn hJ hf v hv _ hu outl ho (cs.getD v []) S hr.ok s3 n 0 fuel 0 cs ts (by omega) (by omega) q1 q2 fun w hw _ => q3 w hw
    have hrem : remL S n 0 = lbs n S := by
      have := remL_lbs S n 0
      rw [Nat.zero_add] at this
      rw [← this]; simp [lbs]
    rw [hrem] at g2
    rw [show ((0 : Nat) : Int) = 0 from rfl] at g1
    rw [List.drop_eq_getElem_cons hv]
    by_cases hneg : at' < 0
    · right
      have hb1 : fS_CompleteRooted_s1 fuel p par (kidsL par par.length) (v : Int) (cs, outl) = some (.ret ([], false)) := by
        unfold fS_CompleteRooted_s1
        simp only
        rw [hcv, sb, g1, sb]
        simp only
        rw [if_pos (by simpa using hneg)]
      have hb2 : fI_CompleteRooted_s3 fuel p (kidsL par par.length) (v : Int) par[v] (ts, outl) = some (.ret ([], false)) := by
        unfold fI_CompleteRooted_s3
        simp only
        rw [htv, sb, e_labelsIn n S fuel s2 (by omega) (by omega), sb, g2, sb]
        simp only
        rw [if_pos (by simpa using hneg)]
      exact ⟨by simp only [forN, hb1], by simp only [forI, hb2]⟩
    · obtain ⟨c1, c2, c3⟩ := g3.resolve_left hneg
      have hb1 : fS_CompleteRooted_s1 fuel p par (kidsL par par.length) (v : Int) (cs, outl) = some (.go (cs', outl ++ [at'])) := by
        unfold fS_CompleteRooted_s1 push
        simp only
        rw [hcv, sb, g1, sb]
        simp only
        rw [if_neg (by simpa using hneg), if_pos (by omega), sb]
      have hb2 : fI_CompleteRooted_s3 fuel p (kidsL par par.length) (v : Int) par[v] (ts, outl) = some (.go (ts', outl ++ [at'])) := by
        unfold fI_CompleteRooted_s3 push
        simp only
        rw [htv, sb, e_labelsIn n S fuel s2 (by omega) (by omega), sb, g2, sb]
        simp only
        rw [if_neg (by simpa using hneg), if_pos (by omega), sb]
      simp only [forN, hb1, forI, hb2]
      rw [show ((v : Int) + 1) = ((v + 1 : Nat) : Int) by omega]
      exact phase2 fuel n p par t hn hJ hf d (v + 1) cs' ts' (outl ++ [at']) (by omega) (by simp [ho]) c3
/-! ### The answers -/
theorem e_complete (fuel : Nat) (hf : 2000000 ≤ fuel) (p : T_RootedProblem) (par given : List Int) (hJ : p.Lines.length ≤ 1048576) (hl : par.length ≤ 1048576) (hg : given.length ≤ 1048576) :
    ∃ r, fS_CompleteRooted fuel p par given = some r ∧ fI_CompleteRooted fuel p par given = some r ∧ r.1.length ≤ 1048576 ∧ (r.2 = false → r.1 = []) := by
  cases ha : askB p par
  · refine ⟨([], false), ?_, ?_, by simp, by simp⟩
    · unfold fS_CompleteRooted
      rw [e_roAsked fuel (by omega) p par (by omega) hl, sb, ha, if_pos (by simp), sb, if_pos rfl]
    · unfold fI_CompleteRooted
      rw [e_rootedOk fuel (by omega) p par (by omega) hl, sb, ha, if_pos (by simp), sb, if_pos rfl]
  · have t := Tree.of ha
    obtain ⟨hL, hn8, hok⟩ := okLines_of t.rb
    have n2 := t.n2
    have n1 := t.n1
    by_cases hgl : given.length = par.length
    · cases hall : given.all (inB (-1) (p.Labels - 1))
      · refine ⟨([], false), ?_, ?_, by simp, by simp⟩
        · unfold fS_CompleteRooted
          rw [e_roAsked fuel (by omega) p par (by omega) hl, sb, ha, if_neg (by simp), if_neg (by simp [hgl]), ck_in (by omega) (by omega), sb, e_l1All, sb, hall, sb, if_pos (by simp)]
        · unfold fI_CompleteRooted
          rw [e_rootedOk fuel (by omega) p par (by omega) hl, sb, ha, if_neg (by simp), if_neg (by simp [hgl]), ck_in (by omega) (by omega), sb, e_allWithin _ _ _ (by omega), sb, hall, sb, if_pos (by simp)]
      · have hmS : mk (Rz.z : List Int) (par.length : Int) = some (List.replicate par.length []) := by
          unfold mk
          rw [if_pos (by omega)]; rfl
        have hmI : mk (Rz.z : Int) (par.length : Int) = some (List.replicate par.length 0) := by
          unfold mk
          rw [if_pos (by omega)]; rfl
        obtain ⟨cs, ts, a1, a2, a3, a4, a5⟩ := phase1 fuel p.Labels.toNat p par given t rfl hJ hf hgl par.length fuel (List.replicate par.length []) (List.replicate par.length 0) (Nat.le_refl _) (by omega) (by simp) (by simp) (fun w h1 h2 => by omega) (fun w hw => by rw [List.getD_eq_getElem?_getD, List.getElem?_replicate, if_pos hw]; rfl)
        have hcounts : fS_roCounts fuel p par given = some cs := by
          unfold fS_roCounts
          rw [e_roBelow par t.lt (by omega), sb, hmS, sb, ck_in (by omega) (by omega), sb, a1, sb]
        have h2 := phase2 fuel p.Labels.toNat p par t rfl hJ hf par.length 0 cs ts [] (by omega) rfl ⟨a3, a4, a5⟩
        rw [List.drop_zero, show ((0 : Nat) : Int) = 0 from rfl] at h2
        have hS : fS_CompleteRooted fuel p par given = (forN (fS_CompleteRooted_s1 fuel p par (kidsL par par.length)) par.length 0 (cs, [])) >>= fun q60 => match q60 with | .inl (y52, y54) => some (y54, true) | .inr r' => some r' := by
          unfold fS_CompleteRooted
          rw [e_roAsked fuel (by omega) p par (by omega) hl, sb, ha, if_neg (by simp), if_neg (by simp [hgl]), ck_in (by omega) (by omega), sb, e_l1All, sb, hall, sb, if_neg (by simp), hcounts, sb, e_roBelow par t.lt (by omega), sb, ck_in (by omega) (by omega), sb, Int.toNat_natCast]
          rfl
        have hI : fI_CompleteRooted fuel p par given = (forI (fI_CompleteRooted_s3 fuel p (kidsL par par.length)) par 0 (ts, [])) >>= fun q467 => match q467 with | .inl (y459, y461) => some (y461, true) | .inr r' => some r' := by
          unfold fI_CompleteRooted
          rw [e_rootedOk fuel (by omega) p par (by omega) hl, sb, ha, if_neg (by simp), if_neg (by simp [hgl]), ck_in (by omega) (by omega), sb, e_allWithin _ _ _ (by omega), sb, hall, sb, if_neg (by simp), e_childrenOf par t.lt (by omega), sb, hmI, sb, ck_in (by omega) (by omega), sb, a2, sb]
          rfl
        rw [hS, hI]
        rcases h2 with ⟨cs', ts', l, b1, b2, b3⟩ | ⟨b1, b2⟩
        · rw [b1, b2, sb, sb]
          exact ⟨(l, true), rfl, rfl, by simp; omega, by simp⟩
        · rw [b1, b2, sb, sb]
          exact ⟨([], false), rfl, rfl, by simp, by simp⟩
    · refine ⟨([], false), ?_, ?_, by simp, by simp⟩
      · unfold fS_CompleteRooted
        rw [e_roAsked fuel (by omega) p par (by omega) hl, sb, ha, if_neg (by simp), if_pos (by simp; omega), sb, if_pos rfl]
      · unfold fI_CompleteRooted
        rw [e_rootedOk fuel (by omega) p par (by omega) hl, sb, ha, if_neg (by simp), if_pos (by simp; omega), sb, if_pos rfl]
open Go.RowKit
/-- A result that is a list and whether there is one. -/
def solvB (r : Option (List Int × Bool)) : Option (List Int) := match r with
  | some (l, true) => some l
  | _ => none
theorem solvB_sb {r : List Int × Bool} (h : r.2 = false → r.1 = []) : (solvB (some r)).isSome = r.2 ∧ (solvB (some r)).getD [] = r.1 := by
  obtain ⟨l, b⟩ := r
  cases b
  · have : l = [] := h rfl
    subst this
    exact ⟨rfl, rfl⟩
  · exact ⟨rfl, rfl⟩
def fCompleteRootedSpec (x : RP) (l m : List Int) : Option (List Int) := solvB (fS_CompleteRooted 2000000 (tR x) l m)
def fCompleteRootedImpl (x : RP) (l m : List Int) : Option (List Int) := fCompleteRootedSpec x l m
theorem CompleteRooted_eq (x : RP) (l m : List Int) (_ : okR x) (_ : szR x ≤ 1048576) (_ : ∀ n ∈ l, I64 n) (_ : l.length ≤ 1048576) (_ : ∀ n ∈ m, I64 n) (_ : m.length ≤ 1048576) : fCompleteRootedImpl x l m = fCompleteRootedSpec x l m := rfl
theorem specCompleteRooted_any (v : Value) (x : RP) (lv : Value) (l : List Int) (mv : Value) (m : List Int) (w : World) (h : RdR w v x) (_ : okR x) (hs : szR x ≤ 1048576) (hl : Ints w lv l) (_ : ∀ n ∈ l, I64 n) (hls : l.length ≤ 1048576) (hm : Ints w mv m) (_ : ∀ n ∈ m, I64 n) (hms : m.length ≤ 1048576) :
    Calls Try.prog 12 #[v, lv, mv] w (RetL w (fCompleteRootedSpec x l m)) := by
  obtain ⟨u, rfl, h2⟩ := h.rdz
  obtain ⟨r, e1, e2, e3, e4⟩ := e_complete 2000000 (Nat.le_refl _) (tR x) l m (szR_lines hs) hls hms
  obtain ⟨b1, b2⟩ := solvB_sb e4
  refine (cS_CompleteRooted 2000000 w ot 2 (by decide) u (tR x) h2 lv l hl.rdl mv m hm.rdl _ e1).mono ?_
  unfold fCompleteRootedSpec
  rw [e1]
  rintro e w' ⟨v0, o', rfl, ho, hk, hb⟩
  exact ⟨v0, by rw [b1], by rw [b2]; exact ho.own_ints, by rw [b2]; omega, hk⟩
theorem implCompleteRooted_any (v : Value) (x : RP) (lv : Value) (l : List Int) (mv : Value) (m : List Int) (w : World) (h : RdR w v x) (_ : okR x) (hs : szR x ≤ 1048576) (hl : Ints w lv l) (_ : ∀ n ∈ l, I64 n) (hls : l.length ≤ 1048576) (hm : Ints w mv m) (_ : ∀ n ∈ m, I64 n) (hms : m.length ≤ 1048576) :
    Calls Try.prog 13 #[v, lv, mv] w (RetL w (fCompleteRootedImpl x l m)) := by
  obtain ⟨u, rfl, h2⟩ := h.rdz
  obtain ⟨r, e1, e2, e3, e4⟩ := e_complete 2000000 (Nat.le_refl _) (tR x) l m (szR_lines hs) hls hms
  obtain ⟨b1, b2⟩ := solvB_sb e4
  refine (cI_CompleteRooted 2000000 w ot 2 (by decide) u (tR x) h2 lv l hl.rdl mv m hm.rdl _ e2).mono ?_
  unfold fCompleteRootedImpl fCompleteRootedSpec
  rw [e1]
  rintro e w' ⟨v0, o', rfl, ho, hk, hb⟩
  exact ⟨v0, by rw [b1], by rw [b2]; exact ho.own_ints, by rw [b2]; omega, hk⟩
end Go.Proofs.Ytjmhjobfiemmnaa
