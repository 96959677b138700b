/- The bit step, as the law calls it. -/
import Derived.Test.YthhpcledhflapaaDoorTcb
import Derived.Test.YthhpcledhflapaaDoorAd
namespace Go.Proofs.YthhpcledhflapaaDoor
open Go.RowKit
set_option linter.unusedSimpArgs false
set_option linter.unusedVariables false

def lstO (r : List Int × Bool) : Option (List Int) := if r.2 then some r.1 else none
theorem lstO_sb {r : List Int × Bool} (h : r.2 = false → r.1 = []) : (lstO r).isSome = r.2 ∧ (lstO r).getD [] = r.1 := by
  obtain ⟨l, b⟩ := r
  cases b
  · have : l = [] := h rfl
    subst this
    exact ⟨rfl, rfl⟩
  · exact ⟨rfl, rfl⟩
/-- From a call's post with a list that is new and a flag. -/
theorem retL_of {w w' : World} {e : Ending} {r : List Int × Bool} {t : Nat} (h : r.2 = false → r.1 = []) (hl : r.1.length ≤ 1000000000) (hp : ∃ (v0 : Value) (o' : Tg), e = .returned (.tuple #[v0, .bool r.2]) ∧ Ow w.heap.size 3 t o' w' v0 r.1 ∧ Keeps w w' ∧ ∀ b, b < w.heap.size → o' b = ot b) : RetL w (lstO r) e w' := by
  obtain ⟨v0, o', rfl, ho, hk, hb⟩ := hp
  obtain ⟨b1, b2⟩ := lstO_sb h
  exact ⟨v0, by rw [b1], by rw [b2]; exact ho.own_ints, by rw [b2]; exact hl, hk⟩
theorem bitB_sb (l : List Int) (hl : l.length ≤ 1048576) : ((bitB l).2 = false → (bitB l).1 = []) ∧ (bitB l).1.length ≤ 1000000000 := by
  unfold bitB
  cases h : colB l
  · simp
  · refine ⟨fun h => by simp at h, ?_⟩
    simp only [if_true]
    unfold bitL
    rw [mapC_len]
    omega
def fBitStepSpec (l : List Int) : Option (List Int) := lstO (bitB l)
def fBitStepImpl (l : List Int) : Option (List Int) := fBitStepSpec l
theorem BitStep_eq (l : List Int) (_ : ∀ n ∈ l, I64 n) (_ : l.length ≤ 1048576) : fBitStepImpl l = fBitStepSpec l := rfl
theorem specBitStep_any (v : Value) (l : List Int) (w : World) (h : Ints w v l) (_ : ∀ n ∈ l, I64 n) (hs : l.length ≤ 1048576) : Calls Tryd.prog 7 #[v] w (RetL w (fBitStepSpec l)) := by
  refine (cS_BitStep 1000 w ot 2 (by decide) v l h.rdl _ (e_specBit 1000 (by omega) l hs)).mono ?_
  intro e w' hp
  exact retL_of (bitB_sb l hs).1 (bitB_sb l hs).2 hp
theorem implBitStep_any (v : Value) (l : List Int) (w : World) (h : Ints w v l) (_ : ∀ n ∈ l, I64 n) (hs : l.length ≤ 1048576) (hTab : TabAt 0 Lib.deBruijn64tab w) : Calls Tryd.prog 9 #[v] w (RetL w (fBitStepImpl l)) := by
  refine (cI_BitStep w ot 2 (by decide) v l h.rdl _ (e_implBit l hs) hTab).mono ?_
  intro e w' hp
  exact retL_of (bitB_sb l hs).1 (bitB_sb l hs).2 hp
end Go.Proofs.YthhpcledhflapaaDoor
