/- RootsOfDepth of both sides, as the law calls them. -/
import Derived.Test.YtabclfacjaeblaaAd
import Derived.Test.YtabclfacjaeblaaPe
import Derived.Test.YtabclfacjaeblaaGE
namespace Go.Proofs.Ytabclfacjaeblaa
open Go.RowKit
set_option linter.unusedSimpArgs false
set_option linter.unusedVariables false

def depB (p : T_RootedProblem) (d : Int) : List Int × Bool := if rootedB p && inB 0 1000 d then (lbs p.Labels.toNat (rootS p.Lines p.Labels.toNat d), true) else ([], false)
theorem e_specDepth (fuel : Nat) (hf : 100 ≤ fuel) (p : T_RootedProblem) (d : Int) (hJ : p.Lines.length ≤ 1000000000) : fS_RootsOfDepth fuel p d = some (depB p d) := by
  unfold fS_RootsOfDepth depB
  rw [e_roGood fuel (by omega) p hJ, sb]
  cases h : rootedB p
  · simp [sb]
  · obtain ⟨h1, h2, h3⟩ := okLines_of h
    rw [if_neg (by simp), e_l1In, sb, sb]
    rw [show (decide (0 ≤ d) && decide (d ≤ 1000)) = inB 0 1000 d from rfl]
    cases hd : inB 0 1000 d
    · simp
    · have hd' := inB_iff.1 hd
      rw [if_neg (by simp), e_roRoots p.Labels.toNat fuel p h1 h3 (by omega) (by omega) _ (by omega) (by omega), sb]
      simp
theorem e_implDepth (fuel : Nat) (hf : 100 ≤ fuel) (p : T_RootedProblem) (d : Int) (hJ : p.Lines.length ≤ 1000000000) : fI_RootsOfDepth fuel p d = some (depB p d) := by
  unfold fI_RootsOfDepth depB
  rw [e_implIsRooted fuel (by omega) p hJ, sb]
  cases h : rootedB p
  · simp [sb]
  · obtain ⟨h1, h2, h3⟩ := okLines_of h
    rw [if_neg (by simp), e_within, sb, sb]
    rw [show (decide (0 ≤ d) && decide (d ≤ 1000)) = inB 0 1000 d from rfl]
    cases hd : inB 0 1000 d
    · simp
    · have hd' := inB_iff.1 hd
      have hlt : rootS p.Lines p.Labels.toNat d < 2 ^ p.Labels.toNat := itR_lt h3 _
      rw [if_neg (by simp), e_rootsOfDepth p.Labels.toNat fuel p h1 h3 (by omega) (by omega) _ (by omega) (by omega), sb, e_labelsIn p.Labels.toNat _ fuel hlt (by omega) (by omega), sb]
      simp
def fRootsOfDepthSpec (x : RP) (d : Int) : Option (List Int) := if (depB (tR x) d).2 then some (depB (tR x) d).1 else none
def fRootsOfDepthImpl (x : RP) (d : Int) : Option (List Int) := fRootsOfDepthSpec x d
theorem RootsOfDepth_eq (x : RP) (d : Int) (_ : okR x) (_ : szR x ≤ 1048576) (_ : I64 d) : fRootsOfDepthImpl x d = fRootsOfDepthSpec x d := rfl
theorem depB_sb (x : RP) (d : Int) : (fRootsOfDepthSpec x d).isSome = (depB (tR x) d).2 ∧ (fRootsOfDepthSpec x d).getD [] = (depB (tR x) d).1 ∧ (depB (tR x) d).1.length ≤ 1000000 := by
  unfold fRootsOfDepthSpec depB
  cases h : rootedB (tR x)
  · simp
  · have := (okLines_of h).2.1
    have hl := lbs_length (tR x).Labels.toNat (rootS (tR x).Lines (tR x).Labels.toNat d)
    cases inB 0 1000 d
    · simp
    · simp; omega
theorem specRootsOfDepth_any (v : Value) (x : RP) (d : Int) (w : World) (h : RdR w v x) (_ : okR x) (hs : szR x ≤ 1048576) (_ : I64 d) :
    Calls Try.prog 13 #[v, .int .i64 d] w (RetL w (fRootsOfDepthSpec x d)) := by
  obtain ⟨u, rfl, h2⟩ := h.rdz
  obtain ⟨e1, e2, e3⟩ := depB_sb x d
  refine (cS_RootsOfDepth 100 w ot 2 (by decide) u (tR x) h2 d _ (e_specDepth 100 (by omega) (tR x) d (by have := szR_lines hs; simp only [tR]; omega))).mono ?_
  rintro e w' ⟨v0, o', rfl, ho, hk, hb⟩
  exact ⟨v0, by rw [e1], by rw [e2]; exact ho.own_ints hb, by rw [e2]; omega, hk⟩
theorem implRootsOfDepth_any (v : Value) (x : RP) (d : Int) (w : World) (h : RdR w v x) (_ : okR x) (hs : szR x ≤ 1048576) (_ : I64 d) :
    Calls Try.prog 15 #[v, .int .i64 d] w (RetL w (fRootsOfDepthImpl x d)) := by
  obtain ⟨u, rfl, h2⟩ := h.rdz
  obtain ⟨e1, e2, e3⟩ := depB_sb x d
  refine (cI_RootsOfDepth 100 w ot 2 (by decide) u (tR x) h2 d _ (e_implDepth 100 (by omega) (tR x) d (by have := szR_lines hs; simp only [tR]; omega))).mono ?_
  rintro e w' ⟨v0, o', rfl, ho, hk, hb⟩
  exact ⟨v0, by unfold fRootsOfDepthImpl; rw [e1], by unfold fRootsOfDepthImpl; rw [e2]; exact ho.own_ints, by unfold fRootsOfDepthImpl; rw [e2]; omega, hk⟩
end Go.Proofs.Ytabclfacjaeblaa
