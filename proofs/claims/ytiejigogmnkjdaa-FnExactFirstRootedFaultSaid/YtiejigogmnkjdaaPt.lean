/- Trees: the children of each node, as both sides compute them. -/
import Derived.Test.YtiejigogmnkjdaaPe
import Derived.Test.YtiejigogmnkjdaaGL
namespace Go.Proofs.Ytiejigogmnkjdaa
set_option linter.unusedSimpArgs false
set_option linter.unusedVariables false

theorem forI_invt {α σ ρ : Type} {body : Int → α → σ → Option (Lp σ σ ρ)} (R : Nat → σ) : ∀ (xs : List α) (k : Nat), (∀ (j : Nat) x, xs[j]? = some x → body ((k + j : Nat) : Int) x (R (k + j)) = some (.go (R (k + j + 1)))) →
    forI body xs (k : Int) (R k) = some (.inl (R (k + xs.length)))
  | [], k, h => rfl
  | x :: xs, k, h => by
    have h0 := h 0 x rfl
    simp only [Nat.add_zero] at h0
    simp only [forI, h0]
    rw [show ((k : Int) + 1) = ((k + 1 : Nat) : Int) by omega]
    rw [forI_invt R xs (k + 1) (fun j y hj => by have := h (j + 1) y (by simpa using hj); rw [show k + (j + 1) = k + 1 + j by omega] at this; exact this)]
    rw [List.length_cons, show k + 1 + xs.length = k + (xs.length + 1) by omega]
theorem forI_invt0 {α σ ρ : Type} {body : Int → α → σ → Option (Lp σ σ ρ)} (R : Nat → σ) (xs : List α) (h : ∀ (j : Nat) x, xs[j]? = some x → body (j : Int) x (R j) = some (.go (R (j + 1)))) :
    forI body xs 0 (R 0) = some (.inl (R xs.length)) := by
  have := forI_invt R xs 0 (fun j x hj => by rw [Nat.zero_add]; exact h j x hj)
  rw [Nat.zero_add] at this; exact this
/-- The children of v among the first j nodes. -/
def kidF (par : List Int) (j v : Nat) : List Int := ((List.range j).filter fun w => par.getD w (-2) == (v : Int)).map fun w : Nat => (w : Int)
def kidsL (par : List Int) (j : Nat) : List (List Int) := (List.range par.length).map (kidF par j)
theorem kidF_succ (par : List Int) (j v : Nat) : kidF par (j + 1) v = if par.getD j (-2) == (v : Int) then kidF par j v ++ [(j : Int)] else kidF par j v := by
  simp only [kidF, List.range_succ, List.filter_append, List.map_append, List.filter_cons, List.filter_nil]
  split <;> simp
theorem kidF_length (par : List Int) (j v : Nat) : (kidF par j v).length ≤ j := by
  simp only [kidF, List.length_map]
  exact Nat.le_trans (List.length_filter_le _ _) (by simp)
theorem kidsL_length (par : List Int) (j : Nat) : (kidsL par j).length = par.length := by simp [kidsL]
theorem kidsL_get {par : List Int} {j v : Nat} (h : v < par.length) : (kidsL par j)[v]? = some (kidF par j v) := by simp [kidsL, h]
theorem mem_kidF {par : List Int} {j v : Nat} {y : Int} : y ∈ kidF par j v ↔ ∃ w : Nat, y = w ∧ w < j ∧ par.getD w (-2) = v := by
  simp only [kidF, List.mem_map, List.mem_filter, List.mem_range, beq_iff_eq]
  constructor
  · rintro ⟨i, ⟨h1, h2⟩, rfl⟩; exact ⟨i, rfl, h1, h2⟩
  · rintro ⟨i, rfl, h1, h2⟩; exact ⟨i, ⟨h1, h2⟩, rfl⟩
theorem kidsL_step (par : List Int) (j : Nat) (x : Int) (hj : par[j]? = some x) (hx : x < par.length) (hl : par.length ≤ 1000000) :
    fS_roBelow_s1 (j : Int) x (kidsL par j) = some (.go (kidsL par (j + 1))) := by
  have hjl := (List.getElem?_eq_some_iff.1 hj).1
  have hgd : par.getD j (-2) = x := by rw [List.getD_eq_getElem?_getD, hj]; rfl
  unfold fS_roBelow_s1
  by_cases h0 : x ≥ 0
  · obtain ⟨k, rfl⟩ : ∃ k : Nat, x = k := ⟨x.toNat, by omega⟩
    have hk : k < par.length := by omega
    have hlen := kidF_length par j k
    rw [if_pos (by simp), ix_nat, kidsL_get hk, sb]
    unfold push
    rw [if_pos (by omega), sb, sb, st_nat _ _ _ (by rw [kidsL_length]; exact hk), sb]
    congr 2
    refine List.ext_getElem? fun v => ?_
    rw [List.getElem?_set]
    by_cases e : k = v
    · subst e
      rw [if_pos rfl, if_pos (by rw [kidsL_length]; exact hk), kidsL_get hk, kidF_succ, hgd]
      simp
    · rw [if_neg e]
      by_cases hv : v < par.length
      · rw [kidsL_get hv, kidsL_get hv, kidF_succ, hgd, if_neg (by simp; omega)]
      · rw [List.getElem?_eq_none (by rw [kidsL_length]; omega), List.getElem?_eq_none (by rw [kidsL_length]; omega)]
  · rw [if_neg (by simpa using h0)]
    congr 2
    refine List.map_congr_left fun v _ => ?_
    rw [kidF_succ, hgd, if_neg (by simp; omega)]
theorem e_roBelow (par : List Int) (h : ∀ x, x ∈ par → x < par.length) (hl : par.length ≤ 1000000) : fS_roBelow par = some (kidsL par par.length) := by
  unfold fS_roBelow
  unfold mk
  rw [if_pos (by omega), sb]
  have h0 : List.replicate ((par.length : Int)).toNat ([] : List Int) = kidsL par 0 := by
    have e : kidF par 0 = fun _ => [] := by funext v; simp [kidF]
    simp [kidsL, e, List.map_const']
  rw [h0, forI_invt0 (fun j => kidsL par j) par (fun j x hj => kidsL_step par j x hj (h x (List.mem_of_getElem? hj)) hl), sb]
theorem e_childrenOf (par : List Int) (h : ∀ x, x ∈ par → x < par.length) (hl : par.length ≤ 1000000) : fI_childrenOf par = some (kidsL par par.length) := e_roBelow par h hl
/-- Two loops that step alike. -/
theorem forI_two {α σ ρ ρ' : Type} {f : Int → α → σ → Option (Lp σ σ ρ)} {g : Int → α → σ → Option (Lp σ σ ρ')} (P : Nat → σ → Prop) : ∀ (xs : List α) (k : Nat) (s : σ), P k s →
    (∀ (j : Nat) x s, xs[j]? = some x → P (k + j) s → ∃ s', f ((k + j : Nat) : Int) x s = some (.go s') ∧ g ((k + j : Nat) : Int) x s = some (.go s') ∧ P (k + j + 1) s') →
    ∃ r, forI f xs (k : Int) s = some (.inl r) ∧ forI g xs (k : Int) s = some (.inl r) ∧ P (k + xs.length) r
  | [], k, s, hs, h => ⟨s, rfl, rfl, hs⟩
  | x :: xs, k, s, hs, h => by
    obtain ⟨s', h1, h2, h3⟩ := h 0 x s rfl hs
    rw [Nat.add_zero] at h1 h2 h3
    obtain ⟨r, r1, r2, r3⟩ := forI_two P xs (k + 1) s' h3 (fun j y s hj hp => by
      have := h (j + 1) y s hj (by rw [show k + (j + 1) = k + 1 + j by omega]; exact hp)
      rw [show k + (j + 1) = k + 1 + j by omega] at this
      exact this)
    refine ⟨r, ?_, ?_, by rw [List.length_cons, show k + (xs.length + 1) = k + 1 + xs.length by omega]; exact r3⟩
    · simp only [forI, h1]; exact r1
    · simp only [forI, h2]; exact r2
end Go.Proofs.Ytiejigogmnkjdaa
