/- Three colours: what both sides compute. -/
import Derived.Test.YthhpcledhflapaaDoorTcb
import Derived.Test.YthhpcledhflapaaDoorGTb
namespace Go.Proofs.YthhpcledhflapaaDoor
set_option linter.unusedSimpArgs false
set_option linter.unusedVariables false

/-! ### The greatest of a list -/
theorem max_loop (l : List Int) (hl : l.length ≤ 1000000) : ∀ (d i : Nat) (m : Int) (fuel : Nat), i + d = l.length → d < fuel → m ∈ l → (∀ x, x ∈ l.take i → x ≤ m) →
    ∃ m', loopF (fX_slices_Max_int_int_s1 l) fuel (m, (i : Int)) = some (.inl (m', (l.length : Int))) ∧ m' ∈ l ∧ ∀ x, x ∈ l → x ≤ m'
  | 0, i, m, fuel, hd, hf, hm, hall => by
    obtain ⟨fuel, rfl⟩ : ∃ k, fuel = k + 1 := ⟨fuel - 1, by omega⟩
    have hi : i = l.length := by omega
    subst hi
    rw [List.take_length] at hall
    exact ⟨m, loopF_out (by unfold fX_slices_Max_int_int_s1; simp) fuel, hm, hall⟩
  | d + 1, i, m, fuel, hd, hf, hm, hall => by
    obtain ⟨fuel, rfl⟩ : ∃ k, fuel = k + 1 := ⟨fuel - 1, by omega⟩
    have hi : i < l.length := by omega
    have hstep : fX_slices_Max_int_int_s1 l (m, (i : Int)) = some (.go (max m l[i], ((i + 1 : Nat) : Int))) := by
      unfold fX_slices_Max_int_int_s1
      simp only
      rw [if_pos (by simp; omega), ix_nat, List.getElem?_eq_getElem hi, sb, ck_in (by omega) (by omega), sb]; simp
    rw [loopF_go hstep]
    refine max_loop l hl d (i + 1) _ fuel (by omega) (by omega) ?_ fun x hx => ?_
    · rcases Int.le_total m l[i] with h | h
      · rw [Int.max_eq_right h]; exact List.getElem_mem hi
      · rw [Int.max_eq_left h]; exact hm
    · rw [List.take_add_one, List.getElem?_eq_getElem hi] at hx
      simp only [Option.toList_some, List.mem_append, List.mem_singleton] at hx
      rcases hx with hx | hx
      · have := hall x hx; omega
      · subst hx; omega
theorem e_Max (fuel : Nat) (l : List Int) (h1 : 1 ≤ l.length) (hl : l.length ≤ 1000000) (hf : l.length < fuel) : ∃ m, fX_slices_Max_int_int fuel l = some m ∧ m ∈ l ∧ ∀ x, x ∈ l → x ≤ m := by
  unfold fX_slices_Max_int_int
  have h0 : (0 : Nat) < l.length := h1
  obtain ⟨m, h2, h3, h4⟩ := max_loop l hl (l.length - 1) 1 l[0] fuel (by omega) (by omega) (List.getElem_mem h0) (fun x hx => by
    rw [show (1 : Nat) = 0 + 1 from rfl, List.take_add_one, List.getElem?_eq_getElem h0] at hx
    simp at hx
    subst hx; exact Int.le_refl _)
  refine ⟨m, ?_, h3, h4⟩
  rw [if_neg (by simp; omega), show (0 : Int) = ((0 : Nat) : Int) from rfl, ix_nat, List.getElem?_eq_getElem h0, sb]
  rw [show ((1 : Nat) : Int) = 1 from rfl] at h2
  rw [h2, sb]
/-! ### The way down -/
def down : Nat → List Int → Int → List Int × Int
  | 0, l, r => (l, r)
  | k + 1, l, r => if l.all (inB 0 5) then (l, r) else down k (bitL l) (r + 1)
def bd : Nat → Nat
  | 0 => 6
  | 1 => 8
  | 2 => 16
  | 3 => 256
  | _ => 2 ^ 60
theorem bd_next {l : List Int} {n b k : Nat} (h : Col l n b) (hb : b ≤ bd (k + 1)) : ∃ c, Col (bitL l) n c ∧ c ≤ bd k := by
  match k with
  | 0 => exact ⟨_, bitL_col (c := 3) h hb (by decide), by decide⟩
  | 1 => exact ⟨_, bitL_col (c := 4) h hb (by decide), by decide⟩
  | 2 => exact ⟨_, bitL_col (c := 8) h hb (by decide), by decide⟩
  | 3 => exact ⟨_, bitL_col (c := 60) h hb (by decide), by decide⟩
  | k + 4 => exact ⟨_, bitL_col (c := 60) h hb (by decide), by show 2 * 60 ≤ 2 ^ 60; decide⟩
theorem bd_le (k : Nat) : bd k ≤ 2 ^ 62 := by
  match k with
  | 0 => decide
  | 1 => decide
  | 2 => decide
  | 3 => decide
  | k + 4 => show 2 ^ 60 ≤ 2 ^ 62; decide
theorem all5 {l : List Int} {n b : Nat} (h : Col l n b) (hb : b ≤ 6) : l.all (inB 0 5) = true := by
  rw [List.all_eq_true]
  intro x hx
  have := h.rng x hx
  exact inB_iff.2 (by omega)
theorem down_spec (fuel0 : Nat) (hf0 : 70 ≤ fuel0) : ∀ (k : Nat) {l : List Int} {n b : Nat} (r : Int) (fuel : Nat), Col l n b → b ≤ bd k → k < fuel → 0 ≤ r → r + k ≤ 1000000 →
    loopF (fS_cyThree_s1 fuel0) fuel (l, r) = some (.inl (down k l r))
  | 0, l, n, b, r, fuel, h, hb, hf, _, _ => by
    obtain ⟨fuel, rfl⟩ : ∃ k, fuel = k + 1 := ⟨fuel - 1, by omega⟩
    refine loopF_out ?_ fuel
    unfold fS_cyThree_s1
    simp only
    rw [e_l1All, sb, all5 h hb]; simp [down]
  | k + 1, l, n, b, r, fuel, h, hb, hf, h0, hr => by
    obtain ⟨fuel, rfl⟩ : ∃ k, fuel = k + 1 := ⟨fuel - 1, by omega⟩
    cases ha : l.all (inB 0 5) with
    | true =>
      refine loopF_out ?_ fuel
      unfold fS_cyThree_s1
      simp only
      rw [e_l1All, sb, ha]; simp [down, ha]
    | false =>
      obtain ⟨c, h1, h2⟩ := bd_next h hb
      have := bd_le (k + 1)
      have hstep : fS_cyThree_s1 fuel0 (l, r) = some (.go (bitL l, r + 1)) := by
        unfold fS_cyThree_s1
        simp only
        rw [e_l1All, sb, ha, if_pos (by rfl), e_cyBit fuel0 hf0 h (by omega), sb, ck_in (by omega) (by omega), sb]
      rw [loopF_go hstep, down_spec fuel0 hf0 k (r + 1) fuel h1 h2 (by omega) (by omega) (by omega)]
      simp [down, ha]
theorem down_impl (fuel0 : Nat) (hf0 : 200 ≤ fuel0) : ∀ (k : Nat) {l : List Int} {n b : Nat} (r : Int) (fuel : Nat), Col l n b → b ≤ bd k → k < fuel → 0 ≤ r → r + k ≤ 1000000 →
    loopF (fI_threeColours_s1 fuel0) fuel (l, r) = some (.inl (down k l r)) := by
  intro k
  have key : ∀ {l : List Int} {n b : Nat}, Col l n b → ∃ m, fX_slices_Max_int_int fuel0 l = some m ∧ (decide (m > 5) = !l.all (inB 0 5)) := fun {l n b} h => by
    have hl := h.len
    have hn := h.n2
    have hn2 := h.n180
    obtain ⟨m, h1, h2, h3⟩ := e_Max fuel0 l (by omega) (by omega) (by omega)
    refine ⟨m, h1, ?_⟩
    cases ha : l.all (inB 0 5) with
    | true =>
      have := inB_iff.1 (List.all_eq_true.1 ha m h2)
      simp; omega
    | false =>
      rw [List.all_eq_false] at ha
      obtain ⟨x, hx, hnx⟩ := ha
      have h4 := h3 x hx
      have h5 := h.rng x hx
      have h6 : ¬ (0 ≤ x ∧ x ≤ 5) := fun q => hnx (inB_iff.2 q)
      simp; omega
  induction k with
  | zero =>
    intro l n b r fuel h hb hf _ _
    obtain ⟨fuel, rfl⟩ : ∃ k, fuel = k + 1 := ⟨fuel - 1, by omega⟩
    obtain ⟨m, h1, h2⟩ := key h
    refine loopF_out ?_ fuel
    unfold fI_threeColours_s1
    simp only
    rw [h1, sb, h2, all5 h hb]; simp [down]
  | succ k ih =>
    intro l n b r fuel h hb hf h0 hr
    obtain ⟨fuel, rfl⟩ : ∃ k, fuel = k + 1 := ⟨fuel - 1, by omega⟩
    obtain ⟨m, h1, h2⟩ := key h
    cases ha : l.all (inB 0 5) with
    | true =>
      refine loopF_out ?_ fuel
      unfold fI_threeColours_s1
      simp only
      rw [h1, sb, h2, ha]; simp [down, ha]
    | false =>
      obtain ⟨c, h3, h4⟩ := bd_next h hb
      have := bd_le (k + 1)
      have hstep : fI_threeColours_s1 fuel0 (l, r) = some (.go (bitL l, r + 1)) := by
        unfold fI_threeColours_s1
        simp only
        rw [h1, sb, h2, ha, if_pos (by rfl), e_bitStep h (by omega), sb, ck_in (by omega) (by omega), sb]
      rw [loopF_go hstep, ih (r + 1) fuel h3 h4 (by omega) (by omega) (by omega)]
      simp [down, ha]
theorem down_col : ∀ (k : Nat) {l : List Int} {n b : Nat} (r : Int), Col l n b → b ≤ bd k → Col (down k l r).1 n 6
  | 0, l, n, b, r, h, hb => ⟨h.len, h.n2, h.n180, fun x hx => by have := h.rng x hx; have : b ≤ 6 := hb; omega, h.ne⟩
  | k + 1, l, n, b, r, h, hb => by
    unfold down
    cases ha : l.all (inB 0 5) with
    | true =>
      refine ⟨h.len, h.n2, h.n180, fun x hx => ?_, h.ne⟩
      have := inB_iff.1 (List.all_eq_true.1 ha x hx)
      omega
    | false =>
      obtain ⟨c, h1, h2⟩ := bd_next h hb
      exact down_col k (r + 1) h1 h2
theorem down_r : ∀ (k : Nat) (l : List Int) (r : Int), r ≤ (down k l r).2 ∧ (down k l r).2 ≤ r + k
  | 0, l, r => ⟨Int.le_refl _, by simp [down]⟩
  | k + 1, l, r => by
    unfold down
    split
    · exact ⟨Int.le_refl _, by simp; omega⟩
    · have := down_r k (bitL l) (r + 1)
      omega
/-! ### A colour given up -/
theorem e_cyFree (fuel : Nat) (hf : 10 ≤ fuel) (a b : Nat) : fS_cyFree fuel (a : Int) (b : Int) = some (freeC a b : Int) := by
  obtain ⟨f, rfl⟩ : ∃ f, fuel = f + 3 := ⟨fuel - 3, by omega⟩
  unfold fS_cyFree freeC
  by_cases h0 : a ≠ 0 ∧ b ≠ 0
  · rw [if_pos h0, show f + 3 = (f + 2) + 1 from rfl, loopF_ret (r := 0) (by
      unfold fS_cyFree_s1
      have e1 : ((0 : Int) != (a : Int)) = true := by simp; omega
      have e2 : ((0 : Int) != (b : Int)) = true := by simp; omega
      rw [if_pos (by decide), e1, if_pos rfl, sb, e2, if_pos rfl]), sb]; rfl
  · have g0 : fS_cyFree_s1 (a : Int) (b : Int) 0 = some (.go 1) := by
      unfold fS_cyFree_s1
      rw [if_pos (by decide)]
      by_cases ha : a = 0
      · have e1 : ((0 : Int) != (a : Int)) = false := by simp; omega
        rw [e1, if_neg (by decide), sb, if_neg (by decide)]; rfl
      · have hb : b = 0 := by omega
        have e1 : ((0 : Int) != (a : Int)) = true := by simp; omega
        have e2 : ((0 : Int) != (b : Int)) = false := by simp; omega
        rw [e1, if_pos rfl, sb, e2, if_neg (by decide)]; rfl
    rw [if_neg h0, show f + 3 = (f + 2) + 1 from rfl, loopF_go g0]
    by_cases h1 : a ≠ 1 ∧ b ≠ 1
    · rw [if_pos h1, show f + 2 = (f + 1) + 1 from rfl, loopF_ret (r := 1) (by
        unfold fS_cyFree_s1
        have e1 : ((1 : Int) != (a : Int)) = true := by simp; omega
        have e2 : ((1 : Int) != (b : Int)) = true := by simp; omega
        rw [if_pos (by decide), e1, if_pos rfl, sb, e2, if_pos rfl]), sb]; rfl
    · have g1 : fS_cyFree_s1 (a : Int) (b : Int) 1 = some (.go 2) := by
        unfold fS_cyFree_s1
        rw [if_pos (by decide)]
        by_cases ha : a = 1
        · have e1 : ((1 : Int) != (a : Int)) = false := by simp; omega
          rw [e1, if_neg (by decide), sb, if_neg (by decide)]; rfl
        · have hb : b = 1 := by omega
          have e1 : ((1 : Int) != (a : Int)) = true := by simp; omega
          have e2 : ((1 : Int) != (b : Int)) = false := by simp; omega
          rw [e1, if_pos rfl, sb, e2, if_neg (by decide)]; rfl
      rw [if_neg h1, show f + 2 = (f + 1) + 1 from rfl, loopF_go g1, loopF_out (t := 2) (by unfold fS_cyFree_s1; rw [if_neg (by decide)]), sb]; rfl
/-- Half given up. -/
def half (a l : List Int) (j : Nat) : List Int := a.take j ++ l.drop j
theorem half_0 (a l : List Int) : half a l 0 = l := by simp [half]
theorem half_len {a l : List Int} (h : a.length = l.length) (j : Nat) : (half a l j).length = l.length := by
  unfold half
  rw [List.length_append, List.length_take, List.length_drop]; omega
theorem half_get {a l : List Int} (h : a.length = l.length) (j i : Nat) : (half a l j)[i]? = if i < j then a[i]? else l[i]? := by
  unfold half
  by_cases hi : i < j
  · rw [if_pos hi]
    by_cases hl : i < a.length
    · rw [List.getElem?_append_left (by rw [List.length_take]; omega), List.getElem?_take, if_pos hi]
    · rw [List.getElem?_eq_none (by rw [List.length_append, List.length_take, List.length_drop]; omega), List.getElem?_eq_none (by omega)]
  · rw [if_neg hi]
    by_cases hj : j ≤ a.length
    · rw [List.getElem?_append_right (by rw [List.length_take]; omega), List.length_take, Nat.min_eq_left hj, List.getElem?_drop]
      congr 1
      omega
    · rw [List.getElem?_eq_none (by rw [List.length_append, List.length_take, List.length_drop]; omega), List.getElem?_eq_none (by omega)]
theorem half_set {a l : List Int} (h : a.length = l.length) {j : Nat} {x : Int} (hx : a[j]? = some x) : (half a l j).set j x = half a l (j + 1) := by
  refine List.ext_getElem? fun i => ?_
  have hj := (List.getElem?_eq_some_iff.1 hx).1
  rw [List.getElem?_set, half_len h, half_get h, half_get h]
  by_cases e : j = i
  · subst e
    rw [if_pos rfl, if_pos (by omega), if_pos (by omega), hx]
  · rw [if_neg e]
    by_cases q : i < j
    · rw [if_pos q, if_pos (by omega)]
    · rw [if_neg q, if_neg (by omega)]
theorem half_same {a l : List Int} (h : a.length = l.length) {j : Nat} (hx : a[j]? = l[j]?) : half a l j = half a l (j + 1) := by
  refine List.ext_getElem? fun i => ?_
  rw [half_get h, half_get h]
  by_cases e : j = i
  · subst e
    rw [if_neg (by omega), if_pos (by omega), hx]
  · by_cases q : i < j
    · rw [if_pos q, if_pos (by omega)]
    · rw [if_neg q, if_neg (by omega)]
theorem half_n {a l : List Int} (h : a.length = l.length) : half a l l.length = a := by
  unfold half
  rw [List.drop_length, List.append_nil, ← h, List.take_length]
theorem redL_len (l : List Int) (c : Nat) : (redL l c).length = l.length := mapC_len _ _
theorem redL_get {l : List Int} {c j : Nat} (hj : j < l.length) : (redL l c)[j]? = some ((if cy l j = c then freeC (cy l (j + l.length - 1)) (cy l (j + 1)) else cy l j : Nat) : Int) := by
  unfold redL mapC
  rw [List.getElem?_map, List.getElem?_range hj]; rfl
theorem get_of {l : List Int} {n b : Nat} (h : Col l n b) {i : Nat} (hi : i < l.length) : l[i]? = some (cy l i : Int) := by
  have := ix_cy h i
  rw [h.len] at hi
  rw [Nat.mod_eq_of_lt hi, ix_nat] at this
  exact this
theorem left_mod {n j : Nat} (hn : 2 ≤ n) (h : n ≤ 180) (hj : j < n) : (ck ((j : Int) + (n : Int)) >>= fun x => ck (x - 1) >>= fun y => rem y (n : Int)) = some (((j + n - 1) % n : Nat) : Int) := by
  rw [ck_in (by omega) (by omega), sb, ck_in (by omega) (by omega), sb, show ((j : Int) + (n : Int) - 1) = ((j + n - 1 : Nat) : Int) by omega, rem_nat (by omega)]
theorem red_spec (fuel : Nat) (hf : 10 ≤ fuel) {l : List Int} {n b c : Nat} (h : Col l n b) : forI (fS_cyThree_s3 fuel l (c : Int)) l 0 l = some (.inl (redL l c)) := by
  have hl := h.len
  have hn := h.n2
  have hn2 := h.n180
  have hrl := redL_len l c
  have := forI_inv0 (ρ := List Int × Int) (body := fS_cyThree_s3 fuel l (c : Int)) (half (redL l c) l) l (fun j x hx => by
    have hj := (List.getElem?_eq_some_iff.1 hx).1
    have hxe := get_cy h hx
    have hrg := redL_get (c := c) hj
    subst hxe
    unfold fS_cyThree_s3
    by_cases e : cy l j = c
    · rw [if_pos e] at hrg
      rw [if_pos (by simp [e]), ck_in (by omega) (by omega), sb, ck_in (by omega) (by omega), sb, show ((j : Int) + (l.length : Int) - 1) = ((j + l.length - 1 : Nat) : Int) by omega, rem_nat (by omega), sb, hl, ix_cy h, sb, ck_in (by omega) (by omega), sb,
        show ((j : Int) + 1) = ((j + 1 : Nat) : Int) by omega, rem_nat (by omega), sb, ix_cy h, sb, e_cyFree fuel hf, sb, ix_nat, half_get hrl, if_neg (by omega), hx, sb, st_nat _ _ _ (by rw [half_len hrl]; omega), sb]
      rw [hl] at hrg
      rw [half_set hrl hrg]
    · rw [if_neg e] at hrg
      rw [if_neg (by simp; omega), half_same hrl (by rw [hrg, hx])])
  rw [half_0, half_n hrl] at this
  exact this
theorem free_impl (fuel : Nat) (hf : 10 ≤ fuel) {y s : List Int} {n j a b : Nat} (hy : y.length = n) (hn : 2 ≤ n) (hn2 : n ≤ 180) (hj : j < n) (h1 : s[(j + n - 1) % n]? = some (a : Int)) (h2 : s[(j + 1) % n]? = some (b : Int)) :
    loopF (fI_threeColours_s4 y s (j : Int)) fuel 0 = some (.inl (freeC a b : Int)) := by
  have hs : ∀ (x : Nat), x ≤ 5 → fI_threeColours_s4 y s (j : Int) (x : Int) = some (if x = a ∨ x = b then .go ((x + 1 : Nat) : Int) else .out (x : Int)) := fun x hx => by
    unfold fI_threeColours_s4
    rw [hy, ck_in (by omega) (by omega), sb, ck_in (by omega) (by omega), sb, show ((j : Int) + (n : Int) - 1) = ((j + n - 1 : Nat) : Int) by omega, rem_nat (by omega), sb, ix_nat, h1, sb]
    by_cases e1 : x = a
    · rw [if_pos (by simp [e1]), sb, if_pos rfl, ck_in (by omega) (by omega), sb, if_pos (.inl e1)]; simp
    · rw [if_neg (by simp; omega), ck_in (by omega) (by omega), sb, show ((j : Int) + 1) = ((j + 1 : Nat) : Int) by omega, rem_nat (by omega), sb, ix_nat, h2, sb, sb]
      by_cases e2 : x = b
      · rw [if_pos (by simp [e2]), ck_in (by omega) (by omega), sb, if_pos (.inr e2)]; simp
      · rw [if_neg (by simp; omega), if_neg (by omega)]
  obtain ⟨f, rfl⟩ : ∃ f, fuel = f + 3 := ⟨fuel - 3, by omega⟩
  unfold freeC
  by_cases h0 : a ≠ 0 ∧ b ≠ 0
  · rw [if_pos h0]
    exact loopF_out (by rw [show (0 : Int) = ((0 : Nat) : Int) from rfl, hs 0 (by decide), if_neg (by omega)]) (f + 2)
  · have g0 := hs 0 (by decide)
    rw [if_pos (by omega)] at g0
    rw [if_neg h0, show (0 : Int) = ((0 : Nat) : Int) from rfl, show f + 3 = (f + 2) + 1 from rfl, loopF_go g0]
    by_cases h1' : a ≠ 1 ∧ b ≠ 1
    · rw [if_pos h1']
      exact loopF_out (by rw [hs (0 + 1) (by decide), if_neg (by omega)]) (f + 1)
    · have g1 := hs (0 + 1) (by decide)
      rw [if_pos (by omega)] at g1
      rw [if_neg h1', show f + 2 = (f + 1) + 1 from rfl, loopF_go g1]
      exact loopF_out (by rw [hs (0 + 1 + 1) (by decide), if_neg (by omega)]) f
theorem red_impl (fuel : Nat) (hf : 10 ≤ fuel) {y l : List Int} {n b c : Nat} (hy : y.length = n) (h : Col l n b) : forN (fI_threeColours_s3 fuel y (c : Int)) n 0 l = some (.inl (redL l c)) := by
  have hl := h.len
  have hn := h.n2
  have hn2 := h.n180
  have hrl := redL_len l c
  have hnb : ∀ (j p : Nat), p < n → cy l p ≠ c → (half (redL l c) l j)[p]? = some (cy l p : Int) := fun j p hp hpc => by
    rw [half_get hrl]
    split
    · rw [redL_get (by omega), if_neg hpc]
    · exact get_of h (by omega)
  have := forN_inv0 (ρ := List Int × Int) (body := fI_threeColours_s3 fuel y (c : Int)) (half (redL l c) l) n (fun j hj => by
    have hx := get_of h (show j < l.length by omega)
    have hrg := redL_get (c := c) (show j < l.length by omega)
    have hcur : (half (redL l c) l j)[j]? = some (cy l j : Int) := by rw [half_get hrl, if_neg (by omega), hx]
    unfold fI_threeColours_s3
    rw [ix_nat, hcur, sb]
    by_cases e : cy l j = c
    · rw [if_pos e, hl] at hrg
      have m1 : (j + n - 1) % n < n := Nat.mod_lt _ (by omega)
      have m2 : (j + 1) % n < n := Nat.mod_lt _ (by omega)
      have c1 : cy l ((j + n - 1) % n) = cy l (j + n - 1) := by have := cy_mod l (j + n - 1); rw [hl] at this; exact this
      have c2 : cy l ((j + 1) % n) = cy l (j + 1) := by have := cy_mod l (j + 1); rw [hl] at this; exact this
      have d1 : cy l (j + n - 1) ≠ c := by
        have := h.ne' (j + n - 1)
        have e3 : cy l (j + n - 1 + 1) = cy l j := by unfold cy; rw [hl, show j + n - 1 + 1 = j + n by omega, Nat.add_mod_right]
        rw [e3] at this
        omega
      have d2 : cy l (j + 1) ≠ c := by have := h.ne' j; omega
      have f1 := hnb j _ m1 (by rw [c1]; exact d1)
      have f2 := hnb j _ m2 (by rw [c2]; exact d2)
      rw [c1] at f1
      rw [c2] at f2
      rw [if_neg (by simp [e]), free_impl fuel hf hy hn hn2 hj f1 f2, sb]
      simp only
      rw [sb, st_nat _ _ _ (by rw [half_len hrl]; omega), sb, half_set hrl hrg]
    · rw [if_neg e] at hrg
      rw [if_pos (by simp; omega), half_same hrl (by rw [hrg, hx])])
  have hln : half (redL l c) l n = redL l c := by rw [← hl]; exact half_n hrl
  rw [half_0, hln] at this
  exact this
/-! ### Three colours -/
def red3 (l : List Int) : List Int := redL (redL (redL l 5) 4) 3
theorem red3_col {l : List Int} {n : Nat} (h : Col l n 6) : Col (red3 l) n 3 := redL_col (redL_col (redL_col h (by decide)) (by decide)) (by decide)
def three (l : List Int) : List Int × Int := (red3 (down 4 l 0).1, (down 4 l 0).2 + 3)
theorem e_cyThree (fuel : Nat) (hf : 300 ≤ fuel) {l : List Int} {n b : Nat} (h : Col l n b) (hb : b ≤ 2 ^ 60) : fS_cyThree fuel l = some (three l) := by
  have hl := h.len
  have hn2 := h.n180
  have hd := down_col 4 0 h hb
  have hr := down_r 4 l 0
  unfold fS_cyThree
  rw [e_l1Own l (by omega), sb, down_spec fuel (by omega) 4 0 fuel h hb (by omega) (by omega) (by omega), sb]
  simp only
  unfold three
  generalize (down 4 l 0).1 = m at hd
  generalize (down 4 l 0).2 = r at hr
  have step : ∀ {x : List Int} {c : Nat} {b : Nat} (q : Int), Col x n b → 3 ≤ c → c ≤ 5 → 0 ≤ q → q ≤ 100 → fS_cyThree_s2 fuel (x, q, (c : Int)) = some (.go (redL x c, q + 1, ((c - 1 : Nat) : Int))) := fun {x c b} q hx h3 h5 h0 h1 => by
    have := hx.len
    unfold fS_cyThree_s2
    simp only
    rw [if_pos (by simp; omega), e_l1Own x (by omega), sb, red_spec fuel (by omega) hx, sb]
    simp only
    rw [ck_in (by omega) (by omega), sb, ck_in (by omega) (by omega), sb]
    congr 4
    omega
  obtain ⟨f, rfl⟩ : ∃ f, fuel = f + 4 := ⟨fuel - 4, by omega⟩
  have s5 := step (c := 5) r hd (by decide) (by decide) (by omega) (by omega)
  have s4 := step (c := 4) (r + 1) (redL_col (c := 5) hd (by decide)) (by decide) (by decide) (by omega) (by omega)
  have s3 := step (c := 3) (r + 1 + 1) (redL_col (c := 4) (redL_col (c := 5) hd (by decide)) (by decide)) (by decide) (by decide) (by omega) (by omega)
  rw [show (5 : Int) = ((5 : Nat) : Int) from rfl, loopF_go s5, loopF_go s4, loopF_go s3, loopF_out (t := (red3 m, r + 1 + 1 + 1, ((3 - 1 : Nat) : Int))) (by unfold fS_cyThree_s2; simp only; rw [if_neg (by simp)]; rfl), sb]
  simp only
  congr 2
  omega
theorem e_threeColours (fuel : Nat) (hf : 300 ≤ fuel) {l : List Int} {n b : Nat} (h : Col l n b) (hb : b ≤ 2 ^ 60) : fI_threeColours fuel l = some (three l) := by
  have hl := h.len
  have hn2 := h.n180
  have hd := down_col 4 0 h hb
  have hr := down_r 4 l 0
  unfold fI_threeColours fX_slices_Clone_int_int
  rw [show cat ([] : List Int) l = some l from by unfold cat; rw [if_pos (by simp; omega)]; simp, sb, sb, down_impl fuel (by omega) 4 0 fuel h hb (by omega) (by omega) (by omega), sb]
  simp only
  unfold three
  generalize (down 4 l 0).1 = m at hd
  generalize (down 4 l 0).2 = r at hr
  have hm := hd.len
  have step : ∀ {x : List Int} {c : Nat} {b : Nat} (q : Int), Col x n b → 3 ≤ c → c ≤ 5 → 0 ≤ q → q ≤ 100 → fI_threeColours_s2 fuel m (x, q, (c : Int)) = some (.go (redL x c, q + 1, ((c - 1 : Nat) : Int))) := fun {x c b} q hx h3 h5 h0 h1 => by
    have hxl := hx.len
    unfold fI_threeColours_s2
    simp only
    rw [if_pos (by simp; omega), ck_in (by omega) (by omega), sb, Int.toNat_natCast, hxl, red_impl fuel (by omega) hm hx, sb]
    simp only
    rw [ck_in (by omega) (by omega), sb, ck_in (by omega) (by omega), sb]
    congr 4
    omega
  obtain ⟨f, rfl⟩ : ∃ f, fuel = f + 4 := ⟨fuel - 4, by omega⟩
  have s5 := step (c := 5) r hd (by decide) (by decide) (by omega) (by omega)
  have s4 := step (c := 4) (r + 1) (redL_col (c := 5) hd (by decide)) (by decide) (by decide) (by omega) (by omega)
  have s3 := step (c := 3) (r + 1 + 1) (redL_col (c := 4) (redL_col (c := 5) hd (by decide)) (by decide)) (by decide) (by decide) (by omega) (by omega)
  rw [show (5 : Int) = ((5 : Nat) : Int) from rfl, loopF_go s5, loopF_go s4, loopF_go s3, loopF_out (t := (red3 m, r + 1 + 1 + 1, ((3 - 1 : Nat) : Int))) (by unfold fI_threeColours_s2; simp only; rw [if_neg (by simp)]; rfl), sb]
  simp only
  congr 2
  omega
theorem three_col {l : List Int} {n b : Nat} (h : Col l n b) (hb : b ≤ 2 ^ 60) : Col (three l).1 n 3 := red3_col (down_col 4 0 h hb)
/-! ### Identifiers -/
theorem idsB_iff {l : List Int} (h : idsB l = true) : (∀ (j : Nat) x, l[j]? = some x → (1 ≤ x ∧ x ≤ 999999) ∧ x ∉ l.take j) ∧ 2 ≤ l.length ∧ l.length ≤ 180 := by
  have hlen := idsB_len h
  unfold idsB at h
  simp only [Bool.and_eq_true, Option.isNone_iff_eq_none] at h
  refine ⟨fun j x hj => ?_, hlen⟩
  have := firstP_none.1 h.1 j x hj
  rw [Nat.zero_add] at this
  unfold idsP at this
  split at this
  · rename_i hh
    simp only [Bool.and_eq_true, Bool.not_eq_true', decide_eq_false_iff_not] at hh
    exact ⟨inB_iff.1 hh.1, hh.2⟩
  · cases this
/-- Different numbers stand in a cycle's places. -/
theorem col_of {l : List Int} (hn : 2 ≤ l.length) (hn2 : l.length ≤ 180) (h : ∀ (j : Nat) x, l[j]? = some x → (0 ≤ x ∧ x.toNat < 1000000) ∧ x ∉ l.take j) : Col l l.length 1000000 := by
  have hr : ∀ x, x ∈ l → 0 ≤ x ∧ x.toNat < 1000000 := fun x hx => by
    obtain ⟨j, hj⟩ := List.mem_iff_getElem?.1 hx
    exact (h j x hj).1
  refine ⟨rfl, hn, hn2, hr, fun i hi => ?_⟩
  have hne : ∀ a b, a < b → b < l.length → (l.getD a 0).toNat ≠ (l.getD b 0).toNat := fun a b hab hb e => by
    have ha : a < l.length := by omega
    rw [List.getD_eq_getElem?_getD, List.getElem?_eq_getElem ha, List.getD_eq_getElem?_getD, List.getElem?_eq_getElem hb] at e
    simp only [Option.getD_some] at e
    have r1 := (hr _ (List.getElem_mem ha)).1
    have r2 := (hr _ (List.getElem_mem hb)).1
    have h2 := (h b _ (List.getElem?_eq_getElem hb)).2
    refine h2 (List.mem_take_iff_getElem.2 ⟨a, by omega, ?_⟩)
    omega
  unfold cy
  by_cases e : i + 1 < l.length
  · rw [Nat.mod_eq_of_lt hi, Nat.mod_eq_of_lt e]
    exact hne i (i + 1) (by omega) e
  · have hi1 : i + 1 = l.length := by omega
    rw [Nat.mod_eq_of_lt hi, hi1, Nat.mod_self]
    exact fun q => hne 0 i (by omega) hi q.symm
theorem ids_col {l : List Int} (h : idsB l = true) : Col l l.length 1000000 := by
  obtain ⟨h1, h2, h3⟩ := idsB_iff h
  exact col_of h2 h3 fun j x hj => by have := h1 j x hj; exact ⟨⟨by omega, by omega⟩, this.2⟩
def threeB (l : List Int) : List Int × Int × Bool := if idsB l then ((three l).1, (three l).2, true) else ([], 0, false)
theorem e_specThree (fuel : Nat) (hf : 300 ≤ fuel) (l : List Int) (hl : l.length ≤ 1048576) : fS_ThreeColours fuel l = some (threeB l) := by
  unfold fS_ThreeColours threeB
  rw [e_cyIds l hl, sb]
  cases h : idsB l
  · simp
  · rw [if_neg (by simp), e_cyThree fuel hf (ids_col h) (by decide), sb]; simp
theorem e_implThree (fuel : Nat) (hf : 300 ≤ fuel) (l : List Int) (hl : l.length ≤ 1048576) : fI_ThreeColours fuel l = some (threeB l) := by
  unfold fI_ThreeColours threeB
  rw [e_areRingIds l hl, sb]
  cases h : idsB l
  · simp
  · rw [if_neg (by simp), e_threeColours fuel hf (ids_col h) (by decide), sb]; simp
end Go.Proofs.YthhpcledhflapaaDoor
