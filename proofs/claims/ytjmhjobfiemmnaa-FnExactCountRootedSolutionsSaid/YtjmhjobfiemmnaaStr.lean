/- Small laws for structs by value: stores beside an owned list of lists. -/
import Derived.Test.YtjmhjobfiemmnaaRng
namespace Go.Proofs.Ytjmhjobfiemmnaa
open Go.RowKit
set_option linter.unusedSimpArgs false
set_option linter.unusedVariables false

theorem Chg.setCell1 (w : World) (g i : Nat) (u : Value) : Chg g (g + 1) w (w.setCell ⟨g, i, none⟩ u) :=
  ⟨rfl, rfl, rfl, by simp [World.setCell], fun k hk hn => Below.heap_setCell w ⟨g, i, none⟩ u k (by simp; omega)⟩
theorem size_setCell (w : World) (p : Addr) (u : Value) : (w.setCell p u).heap.size = w.heap.size := by simp [World.setCell]
theorem OwM.setC {B C : Nat} {w : World} {v : Value} {LL : List (List Int)} (h : OwM B C w v LL) {g : Nat} (hg : g < B) (i : Nat) (u : Value) : OwM B C (w.setCell ⟨g, i, none⟩ u) v LL :=
  h.chg (Chg.setCell1 w g i u) (.inr hg)
theorem OwI.setC {B C : Nat} {w : World} {v : Value} {l : List Int} (h : OwI B C w v l) {g : Nat} (hg : g < B) (i : Nat) (u : Value) : OwI B C (w.setCell ⟨g, i, none⟩ u) v l :=
  h.chg (Chg.setCell1 w g i u) (.inr hg)
theorem OwI.mono {B C B' C' : Nat} {w : World} {v : Value} {l : List Int} (h : OwI B C w v l) (hB : B' ≤ B) (hC : C ≤ C') : OwI B' C' w v l :=
  ⟨h.own.mono hB, fun k hk => Nat.lt_of_lt_of_le (h.hi k hk) hC⟩
theorem OwI.rows {B C : Nat} {w : World} {v : Value} {l : List Int} (h : OwI B C w v l) : Ints w v l := h.ints
theorem bcell {W w1 : World} (hb : Keeps W w1) : (∀ b o, b < W.heap.size → w1.cell? ⟨b, o, none⟩ = W.cell? ⟨b, o, none⟩) ∧ (∀ b o, b < W.heap.size → w1.frozen? ⟨b, o, none⟩ = W.frozen? ⟨b, o, none⟩) :=
  ⟨fun b o h => Below.cell (p := ⟨b, o, none⟩) hb h, fun b o h => Below.frozen (p := ⟨b, o, none⟩) hb h⟩
theorem szL_szL (left : Int) (a b : Nat) (h : (a : Int) ≤ left) : szL (szL left a) b = szL left (a + b) := by
  unfold szL
  rw [if_pos h]
  by_cases hb : (b : Int) ≤ left - a
  · rw [if_pos hb, if_pos (by omega)]; omega
  · rw [if_neg hb, if_neg (by omega)]
theorem szL_neg (left : Int) (a b : Nat) (h : ¬ (a : Int) ≤ left) : szL left (a + b) = -1 := by
  unfold szL
  rw [if_neg (by omega)]
end Go.Proofs.Ytjmhjobfiemmnaa
