/- IsRootedProblem of both sides, as the law calls them. -/
import Derived.Test.YtcjmpodljhcbhaaAd
import Derived.Test.YtcjmpodljhcbhaaPc
namespace Go.Proofs.Ytcjmpodljhcbhaa
open Go.RowKit
set_option linter.unusedSimpArgs false
set_option linter.unusedVariables false

def fIsRootedProblemSpec (x : RP) : Bool := rootedB (tR x)
def fIsRootedProblemImpl (x : RP) : Bool := rootedB (tR x)
theorem IsRootedProblem_eq (x : RP) (_ : okR x) (_ : szR x ≤ 1048576) : fIsRootedProblemImpl x = fIsRootedProblemSpec x := rfl
theorem szR_lines {x : RP} (h : szR x ≤ 1048576) : x.lines.length ≤ 1048576 := by
  unfold szR at h
  unfold tot at h
  omega
theorem specIsRootedProblem_any (v : Value) (x : RP) (w : World) (h : RdR w v x) (_ : okR x) (hs : szR x ≤ 1048576) :
    Calls Try.prog 23 #[v] w fun e w' => e = .returned (.bool (fIsRootedProblemSpec x)) ∧ Keeps w w' := by
  obtain ⟨u, rfl, h2⟩ := h.rdz
  exact cS_IsRootedProblem 5 w u (tR x) h2 _ (e_specIsRooted 5 (by omega) (tR x) (by have := szR_lines hs; simp only [tR]; omega))
theorem implIsRootedProblem_any (v : Value) (x : RP) (w : World) (h : RdR w v x) (_ : okR x) (hs : szR x ≤ 1048576) :
    Calls Try.prog 25 #[v] w fun e w' => e = .returned (.bool (fIsRootedProblemImpl x)) ∧ Keeps w w' := by
  obtain ⟨u, rfl, h2⟩ := h.rdz
  exact cI_IsRootedProblem 5 w u (tR x) h2 _ (e_implIsRooted 5 (by omega) (tR x) (by have := szR_lines hs; simp only [tR]; omega))
end Go.Proofs.Ytcjmpodljhcbhaa
