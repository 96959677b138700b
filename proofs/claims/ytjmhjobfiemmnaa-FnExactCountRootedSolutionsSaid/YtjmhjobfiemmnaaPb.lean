/- Sorting by insertion; equality and order of lists. -/
import Derived.Test.YtjmhjobfiemmnaaPa
namespace Go.Proofs.Ytjmhjobfiemmnaa
set_option linter.unusedSimpArgs false
set_option linter.unusedVariables false

theorem ix_mid {α : Type} (a : List α) (x : α) (b : List α) : ix (a ++ x :: b) (a.length : Int) = some x := by
  rw [ix_nat]; simp
theorem ix_at {α : Type} (a : List α) (x : α) (b : List α) (n : Int) (h : n = a.length) : ix (a ++ x :: b) n = some x := by subst h; exact ix_mid a x b
theorem st_at {α : Type} (a : List α) (x y : α) (b : List α) (n : Int) (h : n = a.length) : st (a ++ x :: b) n y = some (a ++ y :: b) := by
  subst h
  rw [st_nat _ _ _ (by simp)]
  simp
/-- x goes down from the right into (ra reversed), b stands to its right. -/
def insR : List Int → Int → List Int → List Int
  | [], x, b => x :: b
  | y :: ra, x, b => if y > x then insR ra x (y :: b) else ra.reverse ++ y :: x :: b
theorem prSorted_sift (x : Int) : ∀ (ra b : List Int) (fuel : Nat), ra.length < fuel → ra.length ≤ 1000000000 →
    ∃ j, loopF fS_prSorted_s2 fuel (ra.reverse ++ x :: b, (ra.length : Int)) = some (.inl (insR ra x b, j))
  | [], b, fuel, hf, _ => by
    cases fuel with
    | zero => simp at hf
    | succ fuel => exact ⟨0, by simp [loopF, fS_prSorted_s2, insR, sb]⟩
  | y :: ra, b, fuel, hf, hl => by
    cases fuel with
    | zero => simp at hf
    | succ fuel =>
      have e1 : (y :: ra).reverse ++ x :: b = ra.reverse ++ y :: x :: b := by simp
      have e2 : (((y :: ra).length : Nat) : Int) - 1 = (ra.length : Int) := by simp
      have hi : ix (ra.reverse ++ y :: x :: b) ((y :: ra).length : Int) = some x := by
        rw [← e1, ← List.length_reverse]; exact ix_mid _ _ _
      have hs : fS_prSorted_s2 ((y :: ra).reverse ++ x :: b, ((y :: ra).length : Int)) = some (if y > x then .go (ra.reverse ++ x :: y :: b, (ra.length : Int)) else .out (ra.reverse ++ y :: x :: b, ((y :: ra).length : Int))) := by
        unfold fS_prSorted_s2
        simp only [e1]
        rw [if_pos (by rw [decide_eq_true_eq]; simp), ck_in (by omega) (by simp at hl ⊢; omega), sb, e2, ix_at _ y _ _ (by simp), sb, hi, sb, sb]
        by_cases h : y > x
        · have hs1 : st (ra.reverse ++ y :: x :: b) ((y :: ra).length : Int) y = some (ra.reverse ++ y :: y :: b) := by
            have := st_at (ra.reverse ++ [y]) x y b ((y :: ra).length : Int) (by simp)
            simpa using this
          simp only [h, decide_true, if_true, sb, ix_at ra.reverse y (x :: b) (ra.length : Int) (by simp), hs1, ix_at ra.reverse y (y :: b) (ra.length : Int) (by simp), st_at ra.reverse y x (y :: b) (ra.length : Int) (by simp)]
        · simp only [h, decide_false, if_false, Bool.false_eq_true]
      simp only [loopF, hs]
      by_cases h : y > x
      · simp only [h, if_true, insR]
        simp at hf hl
        exact prSorted_sift x ra (y :: b) fuel (by omega) (by omega)
      · simp only [h, if_false, insR]
        exact ⟨_, rfl⟩
/-- Sorting by insertion from the right. -/
def ssort (xs : List Int) : List Int := xs.foldl (fun acc x => insR acc.reverse x []) []
theorem insR_app : ∀ (ra : List Int) (x : Int) (b c : List Int), insR ra x (b ++ c) = insR ra x b ++ c
  | [], x, b, c => by simp [insR]
  | y :: ra, x, b, c => by
    simp only [insR]
    split
    · rw [← List.cons_append]; exact insR_app ra x (y :: b) c
    · simp
theorem insR_perm : ∀ (ra : List Int) (x : Int) (b : List Int), (insR ra x b).Perm (ra.reverse ++ x :: b)
  | [], x, b => by simp [insR]
  | y :: ra, x, b => by
    simp only [insR]
    split
    · refine (insR_perm ra x (y :: b)).trans ?_
      simp only [List.reverse_cons, List.append_assoc, List.cons_append, List.nil_append]
      exact (List.Perm.refl _).append (List.Perm.swap _ _ _)
    · simp
theorem insR_length (ra : List Int) (x : Int) (b : List Int) : (insR ra x b).length = ra.length + 1 + b.length := by
  rw [(insR_perm ra x b).length_eq]; simp; omega
theorem insR_sorted : ∀ (ra : List Int) (x : Int) (b : List Int), (ra.reverse ++ b).Pairwise (· ≤ ·) → (∀ z, z ∈ b → x ≤ z) → (insR ra x b).Pairwise (· ≤ ·)
  | [], x, b, h, hz => by simpa [insR] using ⟨hz, by simpa using h⟩
  | y :: ra, x, b, h, hz => by
    simp only [insR]
    split
    · rename_i hy
      refine insR_sorted ra x (y :: b) (by simpa using h) fun z hz' => ?_
      rcases List.mem_cons.1 hz' with rfl | h'
      · omega
      · exact hz z h'
    · rename_i hy
      have h' : (ra.reverse ++ y :: b).Pairwise (· ≤ ·) := by simpa using h
      rw [List.pairwise_append] at h' ⊢
      obtain ⟨h1, h2, h3⟩ := h'
      rw [List.pairwise_cons] at h2
      refine ⟨h1, ?_, ?_⟩
      · rw [List.pairwise_cons, List.pairwise_cons]
        refine ⟨fun z hz' => ?_, hz, h2.2⟩
        rcases List.mem_cons.1 hz' with rfl | h'
        · omega
        · exact h2.1 z h'
      · intro a ha z hz'
        rcases List.mem_cons.1 hz' with rfl | hz'
        · exact h3 a ha _ (by simp)
        · rcases List.mem_cons.1 hz' with rfl | hz'
          · have := h3 a ha y (by simp); omega
          · exact h3 a ha _ (by simp [hz'])
theorem ssort_fold_sorted : ∀ (xs acc : List Int), acc.Pairwise (· ≤ ·) → (xs.foldl (fun acc x => insR acc.reverse x []) acc).Pairwise (· ≤ ·)
  | [], acc, h => h
  | x :: xs, acc, h => by
    rw [List.foldl_cons]
    exact ssort_fold_sorted xs _ (insR_sorted _ _ _ (by simpa using h) (by simp))
theorem ssort_fold_perm : ∀ (xs acc : List Int), (xs.foldl (fun acc x => insR acc.reverse x []) acc).Perm (acc ++ xs)
  | [], acc => by simp
  | x :: xs, acc => by
    rw [List.foldl_cons]
    refine (ssort_fold_perm xs _).trans ?_
    have := (insR_perm acc.reverse x []).append_right xs
    simpa using this
theorem ssort_sorted (xs : List Int) : (ssort xs).Pairwise (· ≤ ·) := ssort_fold_sorted xs [] (by simp)
theorem ssort_perm (xs : List Int) : (ssort xs).Perm xs := by
  have := ssort_fold_perm xs []
  rwa [List.nil_append] at this
theorem sortB_pair : ∀ {xs : List Int}, sortB xs = true ↔ xs.Pairwise (· ≤ ·)
  | [] => by simp [sortB]
  | [a] => by simp [sortB]
  | a :: b :: r => by
    rw [List.pairwise_cons]
    simp only [sortB, Bool.and_eq_true, decide_eq_true_eq]
    rw [sortB_pair]
    constructor
    · rintro ⟨h1, h2⟩
      refine ⟨fun z hz => ?_, h2⟩
      rcases List.mem_cons.1 hz with rfl | hz
      · exact h1
      · have := (List.pairwise_cons.1 h2).1 z hz; omega
    · rintro ⟨h1, h2⟩
      exact ⟨h1 b (by simp), h2⟩
theorem ssort_eq {xs : List Int} (h : sortB xs = true) : ssort xs = xs :=
  List.Perm.eq_of_pairwise (fun a b _ _ h1 h2 => Int.le_antisymm h1 h2) (ssort_sorted xs) (sortB_pair.1 h) (ssort_perm xs)
theorem prSorted_loop (fuel : Nat) : ∀ (xs pre : List Int), (pre.length + xs.length < fuel) → (pre.length + xs.length ≤ 1000000000) →
    forN (fS_prSorted_s1 fuel) xs.length (pre.length : Int) (pre ++ xs) = some (.inl (xs.foldl (fun acc x => insR acc.reverse x []) pre))
  | [], pre, _, _ => by simp [forN]
  | x :: xs, pre, hf, hl => by
    simp only [List.length_cons] at hf hl
    obtain ⟨j, hj⟩ := prSorted_sift x pre.reverse xs fuel (by simp; omega) (by simp; omega)
    rw [List.reverse_reverse, List.length_reverse] at hj
    have hi : insR pre.reverse x xs = insR pre.reverse x [] ++ xs := by
      have := insR_app pre.reverse x [] xs
      simpa using this
    have hs : fS_prSorted_s1 fuel (pre.length : Int) (pre ++ x :: xs) = some (.go (insR pre.reverse x [] ++ xs)) := by
      unfold fS_prSorted_s1
      rw [hj, sb, hi]
    have hlen : (insR pre.reverse x []).length = pre.length + 1 := by rw [insR_length]; simp
    simp only [List.length_cons, forN, hs, List.foldl_cons]
    have := prSorted_loop fuel xs (insR pre.reverse x []) (by omega) (by omega)
    rw [hlen] at this
    rw [show ((pre.length : Int) + 1) = ((pre.length + 1 : Nat) : Int) by omega]
    exact this
theorem e_l1Own (xs : List Int) (h : xs.length ≤ 1000000000) : fS_l1Own xs = some xs := by
  unfold fS_l1Own
  rw [cat_nil xs h, sb]
theorem e_prSorted (xs : List Int) (fuel : Nat) (hf : xs.length < fuel) (hl : xs.length ≤ 1000000000) : fS_prSorted fuel xs = some (ssort xs) := by
  unfold fS_prSorted
  rw [e_l1Own xs hl, sb, ck_in (by omega) (by omega), sb]
  simp only [Int.toNat_natCast]
  have := prSorted_loop fuel xs [] (by simpa using hf) (by simpa using hl)
  simp only [List.length_nil, List.nil_append, Int.ofNat_zero] at this
  rw [show (0 : Int) = ((0 : Nat) : Int) from rfl] at *
  rw [show forN (fS_prSorted_s1 fuel) xs.length ((0 : Nat) : Int) xs = _ from this, sb]; rfl
/-! ### Equality and order -/
theorem firstP_neq : ∀ {xs ys : List Int} {k : Nat}, xs.length = ys.length → (firstP (fun _ (p : Int × Int) => if p.1 != p.2 then some false else none) (xs.zip ys) k = if decide (xs = ys) then none else some false)
  | [], [], k, h => rfl
  | x :: xs, y :: ys, k, h => by
    simp only [List.zip_cons_cons, firstP]
    by_cases e : x = y
    · subst e
      simp only [bne_self_eq_false, Bool.false_eq_true, if_false]
      rw [firstP_neq (by simpa using h)]
      simp
    · simp [e]
  | [], y :: ys, k, h => by simp at h
  | x :: xs, [], k, h => by simp at h
theorem e_l1Same (xs ys : List Int) (hl : xs.length ≤ 1000000000) : fS_l1Same xs ys = some (decide (xs = ys)) := by
  unfold fS_l1Same
  by_cases h : xs.length = ys.length
  · rw [if_neg (by simp [h]), ck_in (by omega) (by omega), sb]
    simp only [Int.toNat_natCast]
    have hz : xs.length = (xs.zip ys).length := by simp [h]
    rw [hz, forN_first0 (fun _ (p : Int × Int) => if p.1 != p.2 then some false else none) (xs.zip ys) (fun j x hj _ => by
      unfold fS_l1Same_s1
      rw [List.getElem?_zip_eq_some] at hj
      rw [ix_nat, hj.1, sb, ix_nat, hj.2, sb]
      cases h' : (x.1 != x.2) <;> simp [lpP]), firstP_neq h, sb]
    by_cases e : xs = ys <;> simp [e, outP]
  · rw [if_pos (by simp; omega)]
    rw [show decide (xs = ys) = false from by rw [decide_eq_false_iff_not]; rintro rfl; exact h rfl]
/-- The first place where two lists differ tells their order. -/
def ordL : List Int → List Int → Int
  | x :: xs, y :: ys => if x < y then -1 else if x > y then 1 else ordL xs ys
  | _, _ => 0
def ordP (ys : List Int) (k : Nat) (x : Int) : Option Int := match ys[k]? with
  | some y => if x < y then some (-1) else if x > y then some 1 else none
  | none => none
theorem firstP_ord (Y : List Int) : ∀ (xs ys : List Int) (k : Nat), ys = Y.drop k → xs.length = ys.length → (firstP (ordP Y) xs k).getD 0 = ordL xs ys
  | [], [], k, _, h => rfl
  | x :: xs, y :: ys, k, hy, h => by
    have h1 : Y[k]? = some y := by
      have h1 : (Y.drop k)[0]? = some y := by rw [← hy]; rfl
      rw [List.getElem?_drop] at h1
      simpa using h1
    have h2 : ys = Y.drop (k + 1) := by rw [← List.drop_drop, ← hy]; rfl
    simp only [firstP, ordL, ordP, h1]
    by_cases e : x < y
    · simp [e]
    · by_cases e2 : x > y
      · simp [e, e2]
      · simp only [e, e2, if_false]
        have := firstP_ord Y xs ys (k + 1) h2 (by simpa using h)
        exact this
  | [], y :: ys, k, _, h => by simp at h
  | x :: xs, [], k, _, h => by simp at h
theorem e_Compare (xs ys : List Int) (h : xs.length = ys.length) : fX_slices_Compare_int_int xs ys = some (ordL xs ys) := by
  unfold fX_slices_Compare_int_int
  rw [forI_first0 (ordP ys) xs (fun j x hj _ => by
    have hjl : j < ys.length := by rw [← h]; exact (List.getElem?_eq_some_iff.1 hj).1
    unfold fX_slices_Compare_int_int_s1
    rw [if_neg (by rw [decide_eq_true_eq]; omega), ix_lt _ _ hjl, sb, e_cmp, sb]
    simp only [ordP, List.getElem?_eq_getElem hjl]
    by_cases e : x < ys[j]
    · simp [e, lpP]
    · by_cases e2 : x > ys[j] <;> simp [e, e2, lpP]), sb]
  have := firstP_ord ys xs ys 0 (by simp) h
  cases hc : firstP (ordP ys) xs 0 with
  | some r => rw [hc] at this; simp only [outP]; rw [← this]; rfl
  | none => rw [hc] at this; simp only [outP]; rw [if_neg (by simp [h]), ← this]; rfl
theorem e_prOrder (xs ys : List Int) (h : xs.length = ys.length) (hx : ∀ x, x ∈ xs → 0 ≤ x ∧ x ≤ 1000000000) (hy : ∀ y, y ∈ ys → 0 ≤ y ∧ y ≤ 1000000000) : fS_prOrder xs ys = some (ordL xs ys) := by
  unfold fS_prOrder
  rw [forI_first0 (ordP ys) xs (fun j x hj _ => by
    have hjl : j < ys.length := by rw [← h]; exact (List.getElem?_eq_some_iff.1 hj).1
    have h1 := hx x (List.mem_of_getElem? hj)
    have h2 := hy ys[j] (List.getElem_mem hjl)
    unfold fS_prOrder_s1
    rw [ix_lt _ _ hjl, sb]
    simp only [ordP, List.getElem?_eq_getElem hjl]
    by_cases e : x < ys[j]
    · rw [if_pos (by simp; omega), sb, ck_in (by omega) (by omega), sb]
      unfold fS_l1Sign
      rw [if_neg (by simp; omega), if_pos (by simp; omega), sb]
      simp [e, lpP]
    · by_cases e2 : x > ys[j]
      · rw [if_pos (by simp; omega), sb, ck_in (by omega) (by omega), sb]
        unfold fS_l1Sign
        rw [if_pos (by simp; omega), sb]
        simp [e, e2, lpP]
      · rw [if_neg (by simp; omega)]
        simp [e, e2, lpP]), sb]
  have := firstP_ord ys xs ys 0 (by simp) h
  cases hc : firstP (ordP ys) xs 0 with
  | some r => rw [hc] at this; simp only [outP]; rw [← this]; rfl
  | none => rw [hc] at this; simp only [outP]; rw [← this]; rfl
end Go.Proofs.Ytjmhjobfiemmnaa
