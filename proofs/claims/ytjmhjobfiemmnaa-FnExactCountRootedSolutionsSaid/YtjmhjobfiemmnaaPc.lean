/- A rooted problem's form: what the two sides compute. -/
import Derived.Test.YtjmhjobfiemmnaaPd
import Derived.Test.YtjmhjobfiemmnaaGB
namespace Go.Proofs.Ytjmhjobfiemmnaa
set_option linter.unusedSimpArgs false
set_option linter.unusedVariables false

/-- A line passes. -/
def lineB (p : T_RootedProblem) (k : Nat) (x : List Int) : Bool :=
  decide ((x.length : Int) = p.Children + 1) && x.all (inB 0 (p.Labels - 1)) && sortB x.tail && (decide (k = 0) || decide (ordL (p.Lines.getD (k - 1) []) x < 0))
def lineP (p : T_RootedProblem) (k : Nat) (x : List Int) : Option Bool := if lineB p k x then none else some false
def rootedB (p : T_RootedProblem) : Bool := inB 1 8 p.Labels && inB 1 3 p.Children && (firstP (lineP p) p.Lines 0).isNone
theorem lineP_none {p : T_RootedProblem} {k : Nat} {x : List Int} (h : lineP p k x = none) : (x.length : Int) = p.Children + 1 ∧ ∀ y, y ∈ x → 0 ≤ y ∧ y ≤ p.Labels - 1 := by
  unfold lineP at h
  split at h
  · rename_i hb
    simp only [lineB, Bool.and_eq_true, decide_eq_true_eq] at hb
    exact ⟨hb.1.1.1, fun y hy => inB_iff.1 (List.all_eq_true.1 hb.1.1.2 y hy)⟩
  · cases h
theorem lineP_bad {p : T_RootedProblem} {k : Nat} {x : List Int} (h : lineB p k x = false) : lpP (lineP p k x) = .ret false := by simp [lineP, h, lpP]
theorem lineP_good {p : T_RootedProblem} {k : Nat} {x : List Int} (h : lineB p k x = true) : lpP (lineP p k x) = .go () := by simp [lineP, h, lpP]
theorem s1_spec (fuel : Nat) (hf : 4 < fuel) (p : T_RootedProblem) (hL : inB 1 8 p.Labels = true) (hC : inB 1 3 p.Children = true) (j : Nat) (x : List Int) (hj : p.Lines[j]? = some x)
    (hall : ∀ (i : Nat) y, i < j → p.Lines[i]? = some y → lineP p i y = none) (hJ : j ≤ 1000000000) : fS_roGood_s1 fuel p (j : Int) x () = some (lpP (lineP p j x)) := by
  rw [inB_iff] at hL hC
  unfold fS_roGood_s1
  rw [ck_in (by omega) (by omega), sb]
  by_cases h1 : (x.length : Int) = p.Children + 1
  · rw [if_neg (by simp [h1]), ck_in (by omega) (by omega), sb, e_l1All, sb]
    by_cases h2 : x.all (inB 0 (p.Labels - 1)) = true
    · rw [if_neg (by simp [h2]), cut_tail x (by omega), sb, sb, e_prSorted _ _ (by simp; omega) (by simp; omega), sb, e_l1Same _ _ (by simp; omega), sb]
      by_cases h3 : sortB x.tail = true
      · rw [if_neg (by simp [ssort_eq h3])]
        cases j with
        | zero =>
          rw [if_neg (by simp), sb, lineP_good (by simp [lineB, h1, h2, h3])]
          simp
        | succ j =>
          have hjl : j < p.Lines.length := by have := (List.getElem?_eq_some_iff.1 hj).1; omega
          have hp := lineP_none (hall j p.Lines[j] (by omega) (List.getElem?_eq_getElem hjl))
          rw [if_pos (by simp), ck_in (by omega) (by omega), sb, show (((j + 1 : Nat) : Int) - 1) = (j : Int) by omega, ix_lt _ _ hjl, sb,
            e_prOrder _ _ (by omega) (fun y hy => by have := hp.2 y hy; omega) (fun y hy => by have := inB_iff.1 (List.all_eq_true.1 h2 y hy); omega), sb, sb]
          by_cases h4 : ordL p.Lines[j] x < 0
          · rw [if_neg (by simp; omega), lineP_good (by simp [lineB, h1, h2, h3, List.getElem?_eq_getElem hjl, h4])]
          · rw [if_pos (by simp; omega), lineP_bad (by simp [lineB, h1, h2, h3, List.getElem?_eq_getElem hjl, h4])]
      · rw [if_pos (by
          simp only [Bool.not_eq_true', decide_eq_false_iff_not]
          intro e
          apply h3
          rw [e]
          exact sortB_pair.2 (ssort_sorted _)), sb, if_pos rfl, lineP_bad (by simp [lineB, h3])]
    · rw [if_pos (by simp [h2]), sb, if_pos rfl, lineP_bad (by simp [lineB, h2])]
  · rw [if_pos (by simp [h1]), sb, if_pos rfl, lineP_bad (by simp [lineB, h1])]
theorem s1_impl (fuel : Nat) (hf : 4 < fuel) (p : T_RootedProblem) (hL : inB 1 8 p.Labels = true) (hC : inB 1 3 p.Children = true) (j : Nat) (x : List Int) (hj : p.Lines[j]? = some x)
    (hall : ∀ (i : Nat) y, i < j → p.Lines[i]? = some y → lineP p i y = none) (hJ : j ≤ 1000000000) : fI_IsRootedProblem_s1 fuel p (j : Int) x () = some (lpP (lineP p j x)) := by
  rw [inB_iff] at hL hC
  unfold fI_IsRootedProblem_s1
  rw [ck_in (by omega) (by omega), sb]
  by_cases h1 : (x.length : Int) = p.Children + 1
  · have hh : fI_RootedProblem_hasLabels p x = some (x.all (inB 0 (p.Labels - 1))) := by
      unfold fI_RootedProblem_hasLabels
      rw [ck_in (by omega) (by omega), sb, e_allWithin _ _ _ (by omega), sb]
    rw [if_neg (by simp [h1]), hh, sb]
    by_cases h2 : x.all (inB 0 (p.Labels - 1)) = true
    · rw [if_neg (by simp [h2]), cut_tail x (by omega), sb, e_IsSorted _ _ (by simp; omega) (by simp; omega), sb]
      by_cases h3 : sortB x.tail = true
      · rw [if_neg (by simp [h3])]
        cases j with
        | zero =>
          rw [if_neg (by simp), sb, lineP_good (by simp [lineB, h1, h2, h3])]
          simp
        | succ j =>
          have hjl : j < p.Lines.length := by have := (List.getElem?_eq_some_iff.1 hj).1; omega
          have hp := lineP_none (hall j p.Lines[j] (by omega) (List.getElem?_eq_getElem hjl))
          rw [if_pos (by simp), ck_in (by omega) (by omega), sb, show (((j + 1 : Nat) : Int) - 1) = (j : Int) by omega, ix_lt _ _ hjl, sb,
            e_Compare _ _ (by omega), sb, sb]
          by_cases h4 : ordL p.Lines[j] x < 0
          · rw [if_neg (by simp; omega), lineP_good (by simp [lineB, h1, h2, h3, List.getElem?_eq_getElem hjl, h4])]
          · rw [if_pos (by simp; omega), lineP_bad (by simp [lineB, h1, h2, h3, List.getElem?_eq_getElem hjl, h4])]
      · rw [if_pos (by simp [h3]), sb, if_pos rfl, lineP_bad (by simp [lineB, h3])]
    · rw [if_pos (by simp [h2]), sb, if_pos rfl, lineP_bad (by simp [lineB, h2])]
  · rw [if_pos (by simp [h1]), sb, if_pos rfl, lineP_bad (by simp [lineB, h1])]
theorem lineP_res {p : T_RootedProblem} {r : Bool} {xs : List (List Int)} {k : Nat} (h : firstP (lineP p) xs k = some r) : r = false := by
  obtain ⟨j, x, _, h2⟩ := firstP_some h
  unfold lineP at h2
  split at h2 <;> cases h2
  rfl
theorem e_specIsRooted (fuel : Nat) (hf : 4 < fuel) (p : T_RootedProblem) (hJ : p.Lines.length ≤ 1000000000) : fS_IsRootedProblem fuel p = some (rootedB p) := by
  unfold fS_IsRootedProblem fS_roGood
  rw [e_l1In, sb]
  by_cases hL : inB 1 8 p.Labels = true
  · by_cases hC : inB 1 3 p.Children = true
    · have hL' := hL
      have hC' := hC
      simp only [inB] at hL' hC'
      rw [hL', if_neg (by simp), e_l1In, sb, hC', sb, if_neg (by simp), forI_first0 (lineP p) p.Lines (fun j x hj hall => s1_spec fuel hf p hL hC j x hj hall (by have := (List.getElem?_eq_some_iff.1 hj).1; omega)), sb]
      cases hc : firstP (lineP p) p.Lines 0 with
      | none => simp [outP, rootedB, hL, hC, hc]
      | some r => have := lineP_res hc; subst this; simp [outP, rootedB, hL, hC, hc]
    · have hL' := hL
      simp only [inB] at hL' hC
      simp [hL', e_l1In, sb, hC, rootedB, inB]
  · have hL' := hL
    simp only [inB] at hL'
    simp [hL', rootedB, inB, sb]
theorem e_implIsRooted (fuel : Nat) (hf : 4 < fuel) (p : T_RootedProblem) (hJ : p.Lines.length ≤ 1000000000) : fI_IsRootedProblem fuel p = some (rootedB p) := by
  unfold fI_IsRootedProblem
  rw [e_within, sb]
  by_cases hL : inB 1 8 p.Labels = true
  · by_cases hC : inB 1 3 p.Children = true
    · have hL' := hL
      have hC' := hC
      simp only [inB] at hL' hC'
      rw [hL', if_neg (by simp), e_within, sb, hC', sb, if_neg (by simp), forI_first0 (lineP p) p.Lines (fun j x hj hall => s1_impl fuel hf p hL hC j x hj hall (by have := (List.getElem?_eq_some_iff.1 hj).1; omega)), sb]
      cases hc : firstP (lineP p) p.Lines 0 with
      | none => simp [outP, rootedB, hL, hC, hc]
      | some r => have := lineP_res hc; subst this; simp [outP, rootedB, hL, hC, hc]
    · have hL' := hL
      simp only [inB] at hL' hC
      simp [hL', e_within, sb, hC, rootedB, inB]
  · have hL' := hL
    simp only [inB] at hL'
    simp [hL', rootedB, inB, sb]
end Go.Proofs.Ytjmhjobfiemmnaa
