/- What the form's reading of a list of lists gives the walks. -/
import Derived.Test.YtiejigogmnkjdaaOpenW
namespace Go.Proofs.Ytiejigogmnkjdaa
open Go.ChangeShapes Go.WideShapes Go.ChangeAt Go.RowKit Go.Deep Go.Joins
set_option linter.unusedVariables false
set_option maxRecDepth 100000
set_option linter.unusedSimpArgs false
section
variable {H : Type} {enc : TypeId × Value → H} {W : World}
theorem openRows {base : Nat} {v : Value} {d : DataW H} {p : List MemPlace} (hval : Value.okWide Try.prog W .any base 22 v)
    (h : DataW.Trod enc Try.prog W 0 (fun _ => true) true 22 v d p) : ∃ LL : List (List Int), IntRows W v LL ∧ ∀ r ∈ LL, ∀ n ∈ r, I64 n := by
  obtain ⟨a, len, cap, rfl⟩ := okWide_slice Try.underlying22 hval
  obtain ⟨fuel, hf⟩ := h
  exact rows_of_trod (v := .slice a len cap) hf
end
end Go.Proofs.Ytiejigogmnkjdaa
