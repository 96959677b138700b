/- OrderWindow and SameOrderPair of both sides, as the laws call them. -/
import Derived.Test.YtabclfacjaeblaaAd
import Derived.Test.YtabclfacjaeblaaOw
namespace Go.Proofs.Ytabclfacjaeblaa
open Go.RowKit
set_option linter.unusedSimpArgs false
set_option linter.unusedVariables false

def winB (l : List Int) (i r : Int) : List Int × Bool := if wideB l r && inB 0 ((l.length : Int) - 1) i then (rankL (nearL l i.toNat r.toNat), true) else ([], false)
theorem win_parts {l : List Int} {i r : Int} (h : wideB l r = true) (h2 : inB 0 ((l.length : Int) - 1) i = true) : ∃ a b : Nat, i = a ∧ r = b ∧ a < l.length ∧ l.length ≤ 180 ∧ 2 * b + 1 ≤ l.length := by
  obtain ⟨h3, h4, h5, h6⟩ := wideB_iff h
  have := inB_iff.1 h2
  have := idsB_len h3
  exact ⟨i.toNat, r.toNat, by omega, by omega, by omega, by omega, by omega⟩
theorem e_specWindow (fuel : Nat) (hf : 1000 ≤ fuel) (l : List Int) (i r : Int) (hl : l.length ≤ 1048576) : fS_OrderWindow fuel l i r = some (winB l i r) := by
  unfold fS_OrderWindow winB
  rw [e_cyWide l r hl, sb]
  cases h : wideB l r
  · simp [sb]
  · rw [if_neg (by simp), ck_in (by omega) (by omega), sb, e_l1In, sb, sb]
    rw [show (decide (0 ≤ i) && decide (i ≤ (l.length : Int) - 1)) = inB 0 ((l.length : Int) - 1) i from rfl]
    cases h2 : inB 0 ((l.length : Int) - 1) i
    · simp
    · obtain ⟨a, b, rfl, rfl, h3, h4, h5⟩ := win_parts h h2
      rw [if_neg (by simp), e_cyWindow fuel hf l a b h3 h4 h5, sb]; simp
theorem e_implWindow (fuel : Nat) (hf : 1000 ≤ fuel) (l : List Int) (i r : Int) (hl : l.length ≤ 1048576) : fI_OrderWindow fuel l i r = some (winB l i r) := by
  unfold fI_OrderWindow winB
  rw [e_windowOk l i r hl, sb]
  cases h : wideB l r
  · simp
  · cases h2 : inB 0 ((l.length : Int) - 1) i
    · simp
    · obtain ⟨a, b, rfl, rfl, h3, h4, h5⟩ := win_parts h h2
      rw [if_neg (by simp), e_orderWindow fuel hf l a b h3 h4 h5, sb]; simp
theorem winB_sb (l : List Int) (i r : Int) : ((winB l i r).2 = false → (winB l i r).1 = []) ∧ (winB l i r).1.length ≤ 1000000 := by
  unfold winB
  cases h : wideB l r
  · simp
  · cases h2 : inB 0 ((l.length : Int) - 1) i
    · simp
    · obtain ⟨a, b, rfl, rfl, h3, h4, h5⟩ := win_parts h h2
      simp [rankL, nearL_length]; omega
/-- A result that is a list and whether there is one. -/
def solvW (r : List Int × Bool) : Option (List Int) := match r with
  | (l, true) => some l
  | _ => none
theorem solvW_sb {r : List Int × Bool} (h : r.2 = false → r.1 = []) : (solvW r).isSome = r.2 ∧ (solvW r).getD [] = r.1 := by
  obtain ⟨l, b⟩ := r
  cases b
  · have : l = [] := h rfl
    subst this
    exact ⟨rfl, rfl⟩
  · exact ⟨rfl, rfl⟩
def fOrderWindowSpec (l : List Int) (i r : Int) : Option (List Int) := solvW (winB l i r)
def fOrderWindowImpl (l : List Int) (i r : Int) : Option (List Int) := fOrderWindowSpec l i r
theorem OrderWindow_eq (l : List Int) (i r : Int) (_ : ∀ n ∈ l, I64 n) (_ : l.length ≤ 1048576) (_ : I64 i) (_ : I64 r) : fOrderWindowImpl l i r = fOrderWindowSpec l i r := rfl
theorem specOrderWindow_any (lv : Value) (l : List Int) (i r : Int) (w : World) (hl : Ints w lv l) (_ : ∀ n ∈ l, I64 n) (hls : l.length ≤ 1048576) (_ : I64 i) (_ : I64 r) :
    Calls Try.prog 40 #[lv, .int .i64 i, .int .i64 r] w (RetL w (fOrderWindowSpec l i r)) := by
  obtain ⟨e3, e4⟩ := winB_sb l i r
  obtain ⟨b1, b2⟩ := solvW_sb e3
  refine (cS_OrderWindow 1000 w ot 2 (by decide) lv l hl.rdl i r _ (e_specWindow 1000 (Nat.le_refl _) l i r hls)).mono ?_
  rintro e w' ⟨v0, o', rfl, ho, hk, hb⟩
  unfold fOrderWindowSpec
  exact ⟨v0, by rw [b1], by rw [b2]; exact ho.own_ints, by rw [b2]; omega, hk⟩
theorem implOrderWindow_any (lv : Value) (l : List Int) (i r : Int) (w : World) (hl : Ints w lv l) (_ : ∀ n ∈ l, I64 n) (hls : l.length ≤ 1048576) (_ : I64 i) (_ : I64 r) :
    Calls Try.prog 41 #[lv, .int .i64 i, .int .i64 r] w (RetL w (fOrderWindowImpl l i r)) := by
  obtain ⟨e3, e4⟩ := winB_sb l i r
  obtain ⟨b1, b2⟩ := solvW_sb e3
  refine (cI_OrderWindow 1000 w ot 2 (by decide) lv l hl.rdl i r _ (e_implWindow 1000 (Nat.le_refl _) l i r hls)).mono ?_
  rintro e w' ⟨v0, o', rfl, ho, hk, hb⟩
  unfold fOrderWindowImpl fOrderWindowSpec
  exact ⟨v0, by rw [b1], by rw [b2]; exact ho.own_ints, by rw [b2]; omega, hk⟩
/-! ### SameOrderPair -/
def alikeB (l : List Int) (i r : Nat) : Bool := decide (rankL (nearL l i r) = rankL (nearL l ((i + 1) % l.length) r))
theorem e_Equal (xs ys : List Int) (hl : xs.length ≤ 1000000000) (hy : ys.length ≤ 1000000000) : fX_slices_Equal_int_int xs ys = some (decide (xs = ys)) := by
  unfold fX_slices_Equal_int_int
  by_cases h : xs.length = ys.length
  · rw [if_neg (by simp [h]), ck_in (by omega) (by omega), sb]
    simp only [Int.toNat_natCast]
    rw [forN_first0 (fun k x => if x = ys.getD k 0 then none else some false) xs (fun j x hj _ => by
      have hjl := (List.getElem?_eq_some_iff.1 hj).1
      unfold fX_slices_Equal_int_int_s1
      rw [ix_nat, hj, sb, ix_lt _ _ (show j < ys.length by omega), sb]
      have : ys.getD j 0 = ys[j]'(by omega) := by simp [List.getElem?_eq_getElem (show j < ys.length by omega)]
      simp only [this]
      by_cases e : x = ys[j]'(by omega)
      · simp [e, lpP]
      · simp [e, lpP]), sb]
    cases hc : firstP (fun k x => if x = ys.getD k 0 then none else some false) xs 0 with
    | none =>
      have : xs = ys := by
        refine List.ext_getElem h fun j h1 h2 => ?_
        have := firstP_none.1 hc j _ (List.getElem?_eq_getElem h1)
        rw [Nat.zero_add] at this
        split at this
        · rename_i e; rw [e]; simp [List.getElem?_eq_getElem h2]
        · cases this
      simp [outP, this]
    | some r =>
      obtain ⟨j, x, h1, h2⟩ := firstP_some hc
      rw [Nat.zero_add] at h2
      split at h2
      · cases h2
      · rename_i e
        cases h2
        have : xs ≠ ys := by
          intro e2; subst e2
          apply e; simp [h1]
        simp [outP, this]
  · have : xs ≠ ys := fun e => h (by rw [e])
    rw [if_pos (by simp; omega)]; simp [this]
theorem e_cyAlike (fuel : Nat) (hf : 1000 ≤ fuel) (l : List Int) (i r : Nat) (hi : i < l.length) (hl : l.length ≤ 180) (hr : 2 * r + 1 ≤ l.length) : fS_cyAlike fuel l (i : Int) (r : Int) = some (alikeB l i r) := by
  unfold fS_cyAlike alikeB
  have hm : (i + 1) % l.length < l.length := Nat.mod_lt _ (by omega)
  have e : (((i : Int) + 1).tmod (l.length : Int)) = (((i + 1) % l.length : Nat) : Int) := by
    rw [Int.tmod_eq_emod_of_nonneg (by omega), Int.natCast_emod, Int.natCast_add]; rfl
  rw [e_cyWindow fuel hf l i r hi hl hr, sb, ck_in (by omega) (by omega), sb]
  unfold rem
  rw [if_neg (by omega), sb, e, e_cyWindow fuel hf l _ r hm hl hr, sb, e_l1Same _ _ (by simp [rankL, nearL_length]; omega), sb]
theorem e_sameOrder (fuel : Nat) (hf : 1000 ≤ fuel) (l : List Int) (i r : Nat) (hi : i < l.length) (hl : l.length ≤ 180) (hr : 2 * r + 1 ≤ l.length) : fI_sameOrder fuel l (i : Int) (r : Int) = some (alikeB l i r) := by
  unfold fI_sameOrder alikeB
  have hm : (i + 1) % l.length < l.length := Nat.mod_lt _ (by omega)
  have e : (((i : Int) + 1).tmod (l.length : Int)) = (((i + 1) % l.length : Nat) : Int) := by
    rw [Int.tmod_eq_emod_of_nonneg (by omega), Int.natCast_emod, Int.natCast_add]; rfl
  rw [e_orderWindow fuel hf l i r hi hl hr, sb, ck_in (by omega) (by omega), sb]
  unfold rem
  rw [if_neg (by omega), sb, e, e_orderWindow fuel hf l _ r hm hl hr, sb, e_Equal _ _ (by simp [rankL, nearL_length]; omega) (by simp [rankL, nearL_length]; omega), sb]
def pairB (l : List Int) (r : Int) : Int × Bool := if wideB l r then (firstP (fun k (_ : Int) => if alikeB l k r.toNat then some ((k : Int), true) else none) l 0).getD (0, false) else (0, false)
theorem e_specPair (fuel : Nat) (hf : 1000 ≤ fuel) (l : List Int) (r : Int) (hl : l.length ≤ 1048576) : fS_SameOrderPair fuel l r = some (pairB l r) := by
  unfold fS_SameOrderPair pairB
  rw [e_cyWide l r hl, sb]
  cases h : wideB l r
  · simp
  · obtain ⟨h3, h4, h5, h6⟩ := wideB_iff h
    have h7 := idsB_len h3
    obtain ⟨b, rfl⟩ : ∃ b : Nat, r = b := ⟨r.toNat, by omega⟩
    rw [if_neg (by simp), ck_in (by omega) (by omega), sb, Int.toNat_natCast, forN_first0 (fun k (_ : Int) => if alikeB l k b then some ((k : Int), true) else none) l (fun j x hj _ => by
      have hjl := (List.getElem?_eq_some_iff.1 hj).1
      unfold fS_SameOrderPair_s1
      rw [e_cyAlike fuel hf l j b hjl (by omega) (by omega), sb]
      cases alikeB l j b <;> simp [lpP]), sb]
    simp only [if_true, Int.toNat_natCast]
    cases firstP (fun k (_ : Int) => if alikeB l k b then some ((k : Int), true) else none) l 0 <;> rfl
theorem e_implPair (fuel : Nat) (hf : 1000 ≤ fuel) (l : List Int) (r : Int) (hl : l.length ≤ 1048576) : fI_SameOrderPair fuel l r = some (pairB l r) := by
  unfold fI_SameOrderPair pairB
  rw [e_windowOk l 0 r hl, sb]
  cases h : wideB l r
  · simp
  · obtain ⟨h3, h4, h5, h6⟩ := wideB_iff h
    have h7 := idsB_len h3
    obtain ⟨b, rfl⟩ : ∃ b : Nat, r = b := ⟨r.toNat, by omega⟩
    have h0 : inB 0 ((l.length : Int) - 1) 0 = true := inB_iff.2 (by omega)
    rw [h0, if_neg (by simp), ck_in (by omega) (by omega), sb, Int.toNat_natCast, forN_first0 (fun k (_ : Int) => if alikeB l k b then some ((k : Int), true) else none) l (fun j x hj _ => by
      have hjl := (List.getElem?_eq_some_iff.1 hj).1
      unfold fI_SameOrderPair_s1
      rw [e_sameOrder fuel hf l j b hjl (by omega) (by omega), sb]
      cases alikeB l j b <;> simp [lpP]), sb]
    simp only [if_true, Int.toNat_natCast]
    cases firstP (fun k (_ : Int) => if alikeB l k b then some ((k : Int), true) else none) l 0 <;> rfl
def fSameOrderPairSpec (l : List Int) (r : Int) : Int × Bool := pairB l r
def fSameOrderPairImpl (l : List Int) (r : Int) : Int × Bool := fSameOrderPairSpec l r
theorem SameOrderPair_eq (l : List Int) (r : Int) (_ : ∀ n ∈ l, I64 n) (_ : l.length ≤ 1048576) (_ : I64 r) : fSameOrderPairImpl l r = fSameOrderPairSpec l r := rfl
theorem specSameOrderPair_any (lv : Value) (l : List Int) (r : Int) (w : World) (hl : Ints w lv l) (_ : ∀ n ∈ l, I64 n) (hls : l.length ≤ 1048576) (_ : I64 r) :
    Calls Try.prog 42 #[lv, .int .i64 r] w fun e w' => e = .returned (.tuple #[.int .i64 (fSameOrderPairSpec l r).1, .bool (fSameOrderPairSpec l r).2]) ∧ Keeps w w' :=
  cS_SameOrderPair 1000 w lv l hl.rdl r _ (e_specPair 1000 (Nat.le_refl _) l r hls)
theorem implSameOrderPair_any (lv : Value) (l : List Int) (r : Int) (w : World) (hl : Ints w lv l) (_ : ∀ n ∈ l, I64 n) (hls : l.length ≤ 1048576) (_ : I64 r) :
    Calls Try.prog 43 #[lv, .int .i64 r] w fun e w' => e = .returned (.tuple #[.int .i64 (fSameOrderPairImpl l r).1, .bool (fSameOrderPairImpl l r).2]) ∧ Keeps w w' :=
  cI_SameOrderPair 1000 w lv l hl.rdl r _ (e_implPair 1000 (Nat.le_refl _) l r hls)
end Go.Proofs.Ytabclfacjaeblaa
