/- The first list that passes; whether one passes. -/
import Derived.Test.YtiejigogmnkjdaaPl
import Derived.Test.YtiejigogmnkjdaaPa
import Derived.Test.YtiejigogmnkjdaaGIx
namespace Go.Proofs.Ytiejigogmnkjdaa
set_option linter.unusedSimpArgs false
set_option linter.unusedVariables false

theorem e_IndexFuncL (xs : List (List Int)) (f : List Int → Option Bool) (g : List Int → Bool) (hf : ∀ x, x ∈ xs → f x = some (g x)) (hl : xs.length ≤ 1000000000) :
    fX_slices_IndexFunc_LLint_int xs f = some ((firstP (fun k x => if g x then some (k : Int) else none) xs 0).getD (-1)) := by
  unfold fX_slices_IndexFunc_LLint_int
  rw [ck_in (by omega) (by omega), sb]
  simp only [Int.toNat_natCast]
  rw [forN_first0 (fun k x => if g x then some (k : Int) else none) xs (fun j x hj _ => by
    unfold fX_slices_IndexFunc_LLint_int_s1
    rw [ix_nat, hj, sb, hf x (List.mem_of_getElem? hj), sb]
    cases h : g x <;> simp [h, lpP]), sb]
  cases firstP (fun k x => if g x then some (k : Int) else none) xs 0 <;> rfl
theorem e_ContainsFuncL (xs : List (List Int)) (f : List Int → Option Bool) (g : List Int → Bool) (hf : ∀ x, x ∈ xs → f x = some (g x)) (hl : xs.length ≤ 1000000000) :
    fX_slices_ContainsFunc_LLint_int xs f = some (xs.any g) := by
  unfold fX_slices_ContainsFunc_LLint_int
  rw [e_IndexFuncL xs f g hf hl, sb]
  cases h : firstP (fun k x => if g x then some (k : Int) else none) xs 0 with
  | some r =>
    obtain ⟨j, x, h1, h2⟩ := firstP_some h
    have h3 : g x = true := by
      cases hg : g x with
      | true => rfl
      | false => rw [hg] at h2; cases h2
    have h4 : xs.any g = true := List.any_eq_true.2 ⟨x, List.mem_of_getElem? h1, h3⟩
    rw [h3, if_pos rfl] at h2
    cases h2
    rw [h4]
    simp
  | none =>
    have h4 : xs.any g = false := by
      rw [List.any_eq_false]
      intro x hx hg
      obtain ⟨j, hj⟩ := List.mem_iff_getElem?.1 hx
      have := firstP_none.1 h j x hj
      rw [hg] at this
      simp at this
    rw [h4]
    simp
end Go.Proofs.Ytiejigogmnkjdaa
