/- SolveDown of both sides, as the law calls them. -/
import Derived.Test.YtabclfacjaeblaaAd
import Derived.Test.YtabclfacjaeblaaSdl
namespace Go.Proofs.Ytabclfacjaeblaa
open Go.RowKit
set_option linter.unusedSimpArgs false
set_option linter.unusedVariables false

/-- A result that is a list and whether there is one. -/
def solvB (r : Option (List Int × Bool)) : Option (List Int) := match r with
  | some (l, true) => some l
  | _ => none
theorem solvB_sb {r : List Int × Bool} (h : r.2 = false → r.1 = []) : (solvB (some r)).isSome = r.2 ∧ (solvB (some r)).getD [] = r.1 := by
  obtain ⟨l, b⟩ := r
  cases b
  · have : l = [] := h rfl
    subst this
    exact ⟨rfl, rfl⟩
  · exact ⟨rfl, rfl⟩
def fSolveDownSpec (x : RP) (l : List Int) : Option (List Int) := solvB (fS_SolveDown 2000000 (tR x) l)
def fSolveDownImpl (x : RP) (l : List Int) : Option (List Int) := fSolveDownSpec x l
theorem SolveDown_eq (x : RP) (l : List Int) (_ : okR x) (_ : szR x ≤ 1048576) (_ : ∀ n ∈ l, I64 n) (_ : l.length ≤ 1048576) : fSolveDownImpl x l = fSolveDownSpec x l := rfl
theorem specSolveDown_any (v : Value) (x : RP) (lv : Value) (l : List Int) (w : World) (h : RdR w v x) (_ : okR x) (hs : szR x ≤ 1048576) (hl : Ints w lv l) (_ : ∀ n ∈ l, I64 n) (hls : l.length ≤ 1048576) :
    Calls Try.prog 33 #[v, lv] w (RetL w (fSolveDownSpec x l)) := by
  obtain ⟨u, rfl, h2⟩ := h.rdz
  obtain ⟨r, e1, e2, e3, e4⟩ := e_solveDown 2000000 (Nat.le_refl _) (tR x) l (szR_lines hs) hls
  obtain ⟨b1, b2⟩ := solvB_sb e4
  refine (cS_SolveDown 2000000 w ot 2 (by decide) u (tR x) h2 lv l hl.rdl _ e1).mono ?_
  unfold fSolveDownSpec
  rw [e1]
  rintro e w' ⟨v0, o', rfl, ho, hk, hb⟩
  exact ⟨v0, by rw [b1], by rw [b2]; exact ho.own_ints, by rw [b2]; omega, hk⟩
theorem implSolveDown_any (v : Value) (x : RP) (lv : Value) (l : List Int) (w : World) (h : RdR w v x) (_ : okR x) (hs : szR x ≤ 1048576) (hl : Ints w lv l) (_ : ∀ n ∈ l, I64 n) (hls : l.length ≤ 1048576) :
    Calls Try.prog 34 #[v, lv] w (RetL w (fSolveDownImpl x l)) := by
  obtain ⟨u, rfl, h2⟩ := h.rdz
  obtain ⟨r, e1, e2, e3, e4⟩ := e_solveDown 2000000 (Nat.le_refl _) (tR x) l (szR_lines hs) hls
  obtain ⟨b1, b2⟩ := solvB_sb e4
  refine (cI_SolveDown 2000000 w ot 2 (by decide) u (tR x) h2 lv l hl.rdl _ e2).mono ?_
  unfold fSolveDownImpl fSolveDownSpec
  rw [e1]
  rintro e w' ⟨v0, o', rfl, ho, hk, hb⟩
  exact ⟨v0, by rw [b1], by rw [b2]; exact ho.own_ints, by rw [b2]; omega, hk⟩
end Go.Proofs.Ytabclfacjaeblaa
