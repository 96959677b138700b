/- Three colours, as the law calls it. -/
import Derived.Test.YthhpcledhflapaaDoorTcc
import Derived.Test.YthhpcledhflapaaDoorAd
namespace Go.Proofs.YthhpcledhflapaaDoor
open Go.RowKit
set_option linter.unusedSimpArgs false
set_option linter.unusedVariables false

def RetLI (w0 : World) (r : Option (List Int × Int)) (e : Ending) (w' : World) : Prop :=
  ∃ v, e = .returned (.tuple #[v, .int .i64 (r.getD ([], 0)).2, .bool r.isSome]) ∧ Own w0.heap.size w' v (r.getD ([], 0)).1 ∧ (r.getD ([], 0)).1.length ≤ 1000000000 ∧ Keeps w0 w'
theorem threeB_len (l : List Int) : (threeB l).1.length ≤ 1000000000 := by
  unfold threeB
  cases h : idsB l
  · simp
  · have := (three_col (ids_col h) (by decide)).len
    have := idsB_len h
    simp only [if_true]
    omega
def fThreeColoursSpec (l : List Int) : Option (List Int × Int) := if idsB l then some (three l) else none
def fThreeColoursImpl (l : List Int) : Option (List Int × Int) := fThreeColoursSpec l
theorem ThreeColours_eq (l : List Int) (_ : ∀ n ∈ l, I64 n) (_ : l.length ≤ 1048576) : fThreeColoursImpl l = fThreeColoursSpec l := rfl
theorem retLI_of {w w' : World} {e : Ending} {l : List Int} {t : Nat} (hp : ∃ (v0 : Value) (o' : Tg), e = .returned (.tuple #[v0, .int .i64 (threeB l).2.1, .bool (threeB l).2.2]) ∧ Ow w.heap.size 3 t o' w' v0 (threeB l).1 ∧ Keeps w w' ∧ ∀ b, b < w.heap.size → o' b = ot b) : RetLI w (fThreeColoursSpec l) e w' := by
  obtain ⟨v0, o', rfl, ho, hk, hb⟩ := hp
  have hl := threeB_len l
  have e1 : ((fThreeColoursSpec l).getD ([], 0)).1 = (threeB l).1 ∧ ((fThreeColoursSpec l).getD ([], 0)).2 = (threeB l).2.1 ∧ (fThreeColoursSpec l).isSome = (threeB l).2.2 := by
    unfold fThreeColoursSpec threeB
    cases idsB l <;> simp
  obtain ⟨a1, a2, a3⟩ := e1
  exact ⟨v0, by rw [a2, a3], by rw [a1]; exact ho.own_ints, by rw [a1]; exact hl, hk⟩
theorem specThreeColours_any (v : Value) (l : List Int) (w : World) (h : Ints w v l) (_ : ∀ n ∈ l, I64 n) (hs : l.length ≤ 1048576) : Calls Tryd.prog 13 #[v] w (RetLI w (fThreeColoursSpec l)) := by
  refine (cS_ThreeColours 1000 w ot 2 (by decide) v l h.rdl _ (e_specThree 1000 (by omega) l hs)).mono ?_
  intro e w' hp
  exact retLI_of hp
theorem implThreeColours_any (v : Value) (l : List Int) (w : World) (h : Ints w v l) (_ : ∀ n ∈ l, I64 n) (hs : l.length ≤ 1048576) (hTab : TabAt 0 Lib.deBruijn64tab w) : Calls Tryd.prog 14 #[v] w (RetLI w (fThreeColoursImpl l)) := by
  refine (cI_ThreeColours 1000 w ot 2 (by decide) v l h.rdl _ (e_implThree 1000 (by omega) l hs) hTab).mono ?_
  intro e w' hp
  exact retLI_of hp
end Go.Proofs.YthhpcledhflapaaDoor
