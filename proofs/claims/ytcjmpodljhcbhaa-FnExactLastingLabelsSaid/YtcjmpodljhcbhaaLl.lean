/- LastingLabels of both sides, as the law calls them. -/
import Derived.Test.YtcjmpodljhcbhaaIr
import Derived.Test.YtcjmpodljhcbhaaPe
namespace Go.Proofs.Ytcjmpodljhcbhaa
open Go.RowKit
set_option linter.unusedSimpArgs false
set_option linter.unusedVariables false

def fLastingLabelsSpec (x : RP) : Option (List Int) := if (lastB (tR x)).2 then some (lastB (tR x)).1 else none
def fLastingLabelsImpl (x : RP) : Option (List Int) := fLastingLabelsSpec x
theorem LastingLabels_eq (x : RP) (_ : okR x) (_ : szR x ≤ 1048576) : fLastingLabelsImpl x = fLastingLabelsSpec x := rfl
theorem lastB_sb (x : RP) : (fLastingLabelsSpec x).isSome = (lastB (tR x)).2 ∧ (fLastingLabelsSpec x).getD [] = (lastB (tR x)).1 ∧ (lastB (tR x)).1.length ≤ 1000000 := by
  unfold fLastingLabelsSpec lastB
  cases h : rootedB (tR x)
  · simp
  · have := (okLines_of h).2.1
    have hl := lbs_length (tR x).Labels.toNat (rootS (tR x).Lines (tR x).Labels.toNat (-1))
    simp; omega
theorem specLastingLabels_any (v : Value) (x : RP) (w : World) (h : RdR w v x) (_ : okR x) (hs : szR x ≤ 1048576) :
    Calls Try.prog 47 #[v] w (RetL w (fLastingLabelsSpec x)) := by
  obtain ⟨u, rfl, h2⟩ := h.rdz
  obtain ⟨e1, e2, e3⟩ := lastB_sb x
  refine (cS_LastingLabels 100 w ot 2 (by decide) u (tR x) h2 _ (e_specLasting 100 (by omega) (tR x) (by have := szR_lines hs; simp only [tR]; omega))).mono ?_
  rintro e w' ⟨v0, o', rfl, ho, hk, hb⟩
  exact ⟨v0, by rw [e1], by rw [e2]; exact ho.own_ints hb, by rw [e2]; omega, hk⟩
theorem implLastingLabels_any (v : Value) (x : RP) (w : World) (h : RdR w v x) (_ : okR x) (hs : szR x ≤ 1048576) :
    Calls Try.prog 48 #[v] w (RetL w (fLastingLabelsImpl x)) := by
  obtain ⟨u, rfl, h2⟩ := h.rdz
  obtain ⟨e1, e2, e3⟩ := lastB_sb x
  refine (cI_LastingLabels 100 w ot 2 (by decide) u (tR x) h2 _ (e_implLasting 100 (by omega) (tR x) (by have := szR_lines hs; simp only [tR]; omega))).mono ?_
  rintro e w' ⟨v0, o', rfl, ho, hk, hb⟩
  exact ⟨v0, by unfold fLastingLabelsImpl; rw [e1], by unfold fLastingLabelsImpl; rw [e2]; exact ho.own_ints, by unfold fLastingLabelsImpl; rw [e2]; omega, hk⟩
end Go.Proofs.Ytcjmpodljhcbhaa
