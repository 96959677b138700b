/- FillCycle of both sides, as the law calls them. -/
import Derived.Test.YtabclfacjaeblaaFi
namespace Go.Proofs.Ytabclfacjaeblaa
open Go.RowKit
set_option linter.unusedSimpArgs false
set_option linter.unusedVariables false

theorem szW_arcsF {x : WP} (h : szW x ≤ 1048576) : x.arcs.length ≤ 1048576 := by
  unfold szW tot at h
  omega
def solvF (r : List Int × Bool) : Option (List Int) := match r with
  | (l, true) => some l
  | _ => none
theorem solvF_sb {r : List Int × Bool} (h : r.2 = false → r.1 = []) : (solvF r).isSome = r.2 ∧ (solvF r).getD [] = r.1 := by
  obtain ⟨l, b⟩ := r
  cases b
  · have : l = [] := h rfl
    subst this
    exact ⟨rfl, rfl⟩
  · exact ⟨rfl, rfl⟩
def fFillCycleSpec (x : WP) (a k : Int) (l : List Int) : Option (List Int) := solvF (fiB (tW x) a k l)
def fFillCycleImpl (x : WP) (a k : Int) (l : List Int) : Option (List Int) := fFillCycleSpec x a k l
theorem FillCycle_eq (x : WP) (a k : Int) (l : List Int) (_ : okW x) (_ : szW x ≤ 1048576) (_ : I64 a) (_ : I64 k) (_ : ∀ n ∈ l, I64 n) (_ : l.length ≤ 1048576) : fFillCycleImpl x a k l = fFillCycleSpec x a k l := rfl
theorem specFillCycle_any (v : Value) (x : WP) (a k : Int) (lv : Value) (l : List Int) (w : World) (h : RdW w v x) (_ : okW x) (hs : szW x ≤ 1048576) (_ : I64 a) (_ : I64 k) (hl : Ints w lv l) (_ : ∀ n ∈ l, I64 n) (hls : l.length ≤ 1048576) :
    Calls Try.prog 29 #[v, .int .i64 a, .int .i64 k, lv] w (RetL w (fFillCycleSpec x a k l)) := by
  obtain ⟨u, rfl, h2⟩ := h.rdz
  obtain ⟨e4, e5⟩ := fiB_sb (tW x) a k l
  obtain ⟨b1, b2⟩ := solvF_sb e4
  refine (cS_FillCycle 2000 w ot 2 (by decide) u (tW x) h2 a k lv l hl.rdl _ (e_specFi 2000 (Nat.le_refl _) (tW x) a k l (by have := szW_arcsF hs; simp only [tW]; omega) hls)).mono ?_
  unfold fFillCycleSpec
  rintro e w' ⟨v0, o', rfl, ho, hk, hb⟩
  exact ⟨v0, by rw [b1], by rw [b2]; exact ho.own_ints, by rw [b2]; exact e5, hk⟩
theorem implFillCycle_any (v : Value) (x : WP) (a k : Int) (lv : Value) (l : List Int) (w : World) (h : RdW w v x) (_ : okW x) (hs : szW x ≤ 1048576) (_ : I64 a) (_ : I64 k) (hl : Ints w lv l) (_ : ∀ n ∈ l, I64 n) (hls : l.length ≤ 1048576) :
    Calls Try.prog 31 #[v, .int .i64 a, .int .i64 k, lv] w (RetL w (fFillCycleImpl x a k l)) := by
  obtain ⟨u, rfl, h2⟩ := h.rdz
  obtain ⟨e4, e5⟩ := fiB_sb (tW x) a k l
  obtain ⟨b1, b2⟩ := solvF_sb e4
  refine (cI_FillCycle 2000 w ot 2 (by decide) u (tW x) h2 a k lv l hl.rdl _ (e_implFi 2000 (Nat.le_refl _) (tW x) a k l (by have := szW_arcsF hs; simp only [tW]; omega) hls)).mono ?_
  unfold fFillCycleImpl fFillCycleSpec
  rintro e w' ⟨v0, o', rfl, ho, hk, hb⟩
  exact ⟨v0, by rw [b1], by rw [b2]; exact ho.own_ints, by rw [b2]; exact e5, hk⟩
end Go.Proofs.Ytabclfacjaeblaa
