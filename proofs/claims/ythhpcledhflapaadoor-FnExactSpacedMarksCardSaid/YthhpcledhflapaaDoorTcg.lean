/- Spaced marks, as the law calls it. -/
import Derived.Test.YthhpcledhflapaaDoorTcd
import Derived.Test.YthhpcledhflapaaDoorTce
namespace Go.Proofs.YthhpcledhflapaaDoor
open Go.RowKit
set_option linter.unusedSimpArgs false
set_option linter.unusedVariables false

theorem spacedB_sb (l : List Int) (k : Int) : ((spacedB l k).2 = false → (spacedB l k).1 = []) ∧ (spacedB l k).1.length ≤ 1000000000 := by
  unfold spacedB
  cases h : idsB l
  · simp
  · cases hk : inB 0 8 k
    · simp
    · refine ⟨fun h => by simp at h, ?_⟩
      have h1 := (spaced_pos h k.toNat _ (iotaL_pos l.length)).len
      have h2 := idsB_len h
      simp only [Bool.and_self, if_true]
      omega
def fSpacedMarksSpec (l : List Int) (k : Int) : Option (List Int) := lstO (spacedB l k)
def fSpacedMarksImpl (l : List Int) (k : Int) : Option (List Int) := fSpacedMarksSpec l k
theorem SpacedMarks_eq (l : List Int) (k : Int) (_ : ∀ n ∈ l, I64 n) (_ : l.length ≤ 1048576) (_ : I64 k) : fSpacedMarksImpl l k = fSpacedMarksSpec l k := rfl
theorem specSpacedMarks_any (v : Value) (l : List Int) (k : Int) (w : World) (h : Ints w v l) (_ : ∀ n ∈ l, I64 n) (hs : l.length ≤ 1048576) (_ : I64 k) : Calls Tryd.prog 15 #[v, .int .i64 k] w (RetL w (fSpacedMarksSpec l k)) := by
  refine (cS_SpacedMarks 1000 w ot 2 (by decide) v l h.rdl k _ (e_specSpaced 1000 (by omega) l k hs)).mono ?_
  intro e w' hp
  exact retL_of (spacedB_sb l k).1 (spacedB_sb l k).2 hp
theorem implSpacedMarks_any (v : Value) (l : List Int) (k : Int) (w : World) (h : Ints w v l) (_ : ∀ n ∈ l, I64 n) (hs : l.length ≤ 1048576) (_ : I64 k) (hTab : TabAt 0 Lib.deBruijn64tab w) :
    Calls Tryd.prog 16 #[v, .int .i64 k] w (RetL w (fSpacedMarksImpl l k)) := by
  refine (cI_SpacedMarks 1000 w ot 2 (by decide) v l h.rdl k _ (e_implSpaced 1000 (by omega) l k hs) hTab).mono ?_
  intro e w' hp
  exact retL_of (spacedB_sb l k).1 (spacedB_sb l k).2 hp
end Go.Proofs.YthhpcledhflapaaDoor
