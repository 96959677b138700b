/- What the form's reading of a rooted problem gives the walks. -/
import Derived.Test.YtjmhjobfiemmnaaOpenW
import Derived.Test.YtjmhjobfiemmnaaAd
namespace Go.Proofs.Ytjmhjobfiemmnaa
open Go.ChangeShapes Go.WideShapes Go.ChangeAt Go.RowKit Go.Deep Go.Joins
set_option linter.unusedVariables false
set_option maxRecDepth 100000
set_option linter.unusedSimpArgs false
section
variable {H : Type} {enc : TypeId × Value → H} {W : World}
theorem openRooted {base : Nat} {v : Value} {d : DataW H} {p : List MemPlace} (hval : Value.okWide Try.prog W .any base 24 v)
    (h : DataW.Trod enc Try.prog W 0 (fun _ => true) true 24 v d p) : ∃ x : RP, RdR W v x ∧ okR x := by
  obtain ⟨v0, v1, v2, y0, y1, y2, n, rfl, _, _, h0, h1, h2⟩ := open_agg3 Try.underlying24 (by kernel_rfl) (by kernel_rfl) hval h
  obtain ⟨m, rfl, hm⟩ := int_of_trod h0
  obtain ⟨c, rfl, hc⟩ := int_of_trod h1
  obtain ⟨LL, hr, hb⟩ := rows_of_trod h2
  exact ⟨⟨m, c, LL⟩, ⟨_, rfl, hr⟩, hm, hc, hb⟩
end
end Go.Proofs.Ytjmhjobfiemmnaa
