/- What the functions of the first group compute, in plain words. -/
import Derived.Test.YtjmhjobfiemmnaaPl
import Derived.Test.YtjmhjobfiemmnaaGA
namespace Go.Proofs.Ytjmhjobfiemmnaa
set_option linter.unusedSimpArgs false
set_option linter.unusedVariables false

theorem e_l1In (a b c : Int) : fS_l1In a b c = some (decide (b ≤ a) && decide (a ≤ c)) := by
  unfold fS_l1In
  by_cases h : a ≥ b
  · simp [h, show b ≤ a from h]
  · simp [h, show ¬ b ≤ a from h]
theorem e_within (a b c : Int) : fI_within a b c = some (decide (b ≤ a) && decide (a ≤ c)) := by
  unfold fI_within
  by_cases h : b ≤ a <;> simp [h]
def inB (b c a : Int) : Bool := decide (b ≤ a) && decide (a ≤ c)
theorem e_l1All (xs : List Int) (b c : Int) : fS_l1All xs b c = some (xs.all (inB b c)) := by
  unfold fS_l1All
  rw [forI_first0 (fun _ x => if inB b c x then none else some false) xs (fun j x hj _ => by
    unfold fS_l1All_s1
    rw [e_l1In, sb]
    cases h : inB b c x <;> simp only [inB] at h <;> simp [h, lpP, inB]), firstP_all, sb]
  cases xs.all (inB b c) <;> rfl
/-- The index of the first element that passes, or -1. -/
theorem e_IndexFunc (xs : List Int) (f : Int → Option Bool) (g : Int → Bool) (hf : ∀ x, x ∈ xs → f x = some (g x)) (hl : xs.length ≤ 1000000000) :
    fX_slices_IndexFunc_int_int xs f = some ((firstP (fun k x => if g x then some (k : Int) else none) xs 0).getD (-1)) := by
  unfold fX_slices_IndexFunc_int_int
  rw [ck_in (by omega) (by omega), sb]
  simp only [Int.toNat_natCast]
  rw [forN_first0 (fun k x => if g x then some (k : Int) else none) xs (fun j x hj _ => by
    unfold fX_slices_IndexFunc_int_int_s1
    rw [ix_nat, hj, sb, hf x (List.mem_of_getElem? hj), sb]
    cases h : g x <;> simp [h, lpP]), sb]
  cases firstP (fun k x => if g x then some (k : Int) else none) xs 0 <;> rfl
theorem e_ContainsFunc (xs : List Int) (f : Int → Option Bool) (g : Int → Bool) (hf : ∀ x, x ∈ xs → f x = some (g x)) (hl : xs.length ≤ 1000000000) :
    fX_slices_ContainsFunc_int_int xs f = some (xs.any g) := by
  unfold fX_slices_ContainsFunc_int_int
  rw [e_IndexFunc xs f g hf hl, sb]
  cases h : firstP (fun k x => if g x then some (k : Int) else none) xs 0 with
  | some r =>
    obtain ⟨j, x, h1, h2⟩ := firstP_some h
    have h3 : g x = true := by
      cases hg : g x with
      | true => rfl
      | false => rw [hg] at h2; cases h2
    have h4 : xs.any g = true := List.any_eq_true.2 ⟨x, List.mem_of_getElem? h1, h3⟩
    rw [h3, if_pos rfl] at h2
    cases h2
    rw [h4]
    simp
  | none =>
    have h4 : xs.any g = false := by
      rw [List.any_eq_false]
      intro x hx hg
      obtain ⟨j, hj⟩ := List.mem_iff_getElem?.1 hx
      have := firstP_none.1 h j x hj
      rw [hg] at this
      simp at this
    rw [h4]
    simp
theorem e_allWithin (xs : List Int) (b c : Int) (hl : xs.length ≤ 1000000000) : fI_allWithin xs b c = some (xs.all (inB b c)) := by
  unfold fI_allWithin
  rw [e_ContainsFunc xs _ (fun x => !inB b c x) (fun x _ => by unfold fI_allWithin_1; rw [e_within, sb]; rfl) hl, sb]
  congr 1
  rw [List.not_any_eq_all_not]
  simp
/-! ### Comparing and sorting -/
theorem e_cmp (a b : Int) : fX_cmp_Compare_int a b = some (if a < b then -1 else if a > b then 1 else 0) := by
  unfold fX_cmp_Compare_int fX_cmp_isNaN_int
  simp only [sb, bne_self_eq_false, Bool.false_eq_true, if_false]
  by_cases h : a < b
  · simp [h]
  · by_cases h2 : a > b <;> simp [h, h2]
theorem e_less (a b : Int) : fX_cmp_Less_int a b = some (decide (a < b)) := by
  unfold fX_cmp_Less_int fX_cmp_isNaN_int
  simp [sb]
/-- Is the list in order? -/
def sortB : List Int → Bool
  | a :: b :: r => decide (a ≤ b) && sortB (b :: r)
  | _ => true
theorem sortB_get : ∀ {xs : List Int}, sortB xs = true ↔ ∀ (k : Nat) a b, xs[k]? = some a → xs[k + 1]? = some b → a ≤ b
  | [] => by simp [sortB]
  | [a] => by simp [sortB]
  | a :: b :: r => by
    simp only [sortB, Bool.and_eq_true, decide_eq_true_eq]
    rw [sortB_get]
    constructor
    · rintro ⟨h1, h2⟩ k x y hx hy
      cases k with
      | zero => simp at hx hy; subst hx; subst hy; exact h1
      | succ k => exact h2 k x y (by simpa using hx) (by simpa using hy)
    · intro h
      exact ⟨h 0 a b rfl rfl, fun k x y hx hy => h (k + 1) x y (by simpa using hx) (by simpa using hy)⟩
theorem IsSorted_loop (xs : List Int) (hl : xs.length ≤ 1000000000) (fuel : Nat) : ∀ (k : Nat), k < fuel → k < xs.length →
    loopF (fX_slices_IsSorted_int_int_s1 xs) fuel (k : Int) = some (if sortB (xs.take (k + 1)) then .inl 0 else .inr false) := by
  induction fuel with
  | zero => intro k h; omega
  | succ fuel ih =>
    intro k hk hkl
    cases k with
    | zero =>
      have hs : fX_slices_IsSorted_int_int_s1 xs ((0 : Nat) : Int) = some (.out 0) := by unfold fX_slices_IsSorted_int_int_s1; simp
      have : sortB (xs.take 1) = true := by
        cases xs with
        | nil => simp at hkl
        | cons a r => simp [sortB]
      simp only [loopF, hs, this, Nat.zero_add, if_true]
    | succ k =>
      have hs : fX_slices_IsSorted_int_int_s1 xs ((k + 1 : Nat) : Int) = some (if xs[k + 1] < xs[k]'(by omega) then .ret false else .go (k : Int)) := by
        unfold fX_slices_IsSorted_int_int_s1
        rw [if_pos (by rw [decide_eq_true_eq]; omega)]
        rw [ix_lt _ _ hkl, sb, ck_in (by omega) (by omega), sb, show (((k + 1 : Nat) : Int) - 1) = (k : Int) by omega, ix_lt _ _ (by omega), sb, e_less, sb]
        by_cases hlt : xs[k + 1] < xs[k]'(by omega)
        · rw [if_pos (by rw [decide_eq_true_eq]; exact hlt), if_pos hlt]
        · rw [if_neg (by rw [decide_eq_true_eq]; exact hlt), if_neg hlt]
          first | rfl | (rw [ck_in (by omega) (by omega), sb, show (((k + 1 : Nat) : Int) - 1) = (k : Int) by omega])
      simp only [loopF, hs]
      by_cases hlt : xs[k + 1] < xs[k]'(by omega)
      · have : sortB (xs.take (k + 1 + 1)) = false := by
          rw [Bool.eq_false_iff]
          intro h
          have := sortB_get.1 h k (xs[k]'(by omega)) xs[k + 1] (by simp [List.getElem?_take, show k < k + 1 + 1 by omega]) (by simp [List.getElem?_take])
          omega
        simp [hlt, this]
      · rw [if_neg hlt]
        simp only
        rw [ih k (by omega) (by omega)]
        have : sortB (xs.take (k + 1 + 1)) = sortB (xs.take (k + 1)) := by
          rw [Bool.eq_iff_iff, sortB_get, sortB_get]
          constructor
          · intro h j a b ha hb
            rw [List.getElem?_take] at ha hb
            split at hb
            · rename_i hj
              refine h j a b ?_ ?_
              · rw [List.getElem?_take, if_pos (by omega)]; rw [if_pos (by omega)] at ha; exact ha
              · rw [List.getElem?_take, if_pos (by omega)]; exact hb
            · cases hb
          · intro h j a b ha hb
            rw [List.getElem?_take] at ha hb
            by_cases hj : j = k
            · subst hj
              rw [if_pos (by omega), List.getElem?_eq_getElem (by omega)] at ha hb
              cases ha; cases hb; omega
            · split at hb
              · refine h j a b ?_ ?_
                · rw [List.getElem?_take, if_pos (by omega)]; rw [if_pos (by omega)] at ha; exact ha
                · rw [List.getElem?_take, if_pos (by omega)]; exact hb
              · cases hb
        rw [this]
theorem e_IsSorted (xs : List Int) (fuel : Nat) (hf : xs.length < fuel) (hl : xs.length ≤ 1000000000) : fX_slices_IsSorted_int_int fuel xs = some (sortB xs) := by
  unfold fX_slices_IsSorted_int_int
  rw [ck_in (by omega) (by omega), sb]
  cases xs with
  | nil =>
    cases fuel with
    | zero => simp at hf
    | succ fuel => simp [loopF, fX_slices_IsSorted_int_int_s1, sortB]
  | cons a r =>
    have := IsSorted_loop (a :: r) hl fuel r.length (by simp at hf; omega) (by simp)
    rw [show (((a :: r).length : Int) - 1) = (r.length : Int) by simp, this, sb]
    rw [List.take_of_length_le (by simp)]
    cases sortB (a :: r) <;> rfl
end Go.Proofs.Ytjmhjobfiemmnaa
