/- What the form's reading of a network gives the walks. -/
import Derived.Test.YtijaojnaamkinaaOpG
import Derived.Test.YtijaojnaamkinaaNo
namespace Go.Proofs.Ytijaojnaamkinaa
open Go.ChangeShapes Go.WideShapes Go.ChangeAt Go.RowKit Go.Deep Go.Joins
set_option linter.unusedVariables false
set_option maxRecDepth 100000
theorem openNetN {H : Type} {enc : TypeId × Value → H} {W : World} {base : Nat} {v : Value} {d : DataW H} {p : List MemPlace} (hval : Value.okWide Try.prog W .any base 25 v)
    (h : DataW.Trod enc Try.prog W 0 (fun _ => true) true 25 v d p) : ∃ x : T_Network, RdN W v x ∧ okN x := by
  obtain ⟨x, u, e, r⟩ := openNet hval h
  exact ⟨x, ⟨u, e, r⟩, trivial⟩
end Go.Proofs.Ytijaojnaamkinaa
