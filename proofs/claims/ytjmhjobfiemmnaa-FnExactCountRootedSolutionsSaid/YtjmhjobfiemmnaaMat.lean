/- Slices of slices of integers: read, and owned with their rows apart from each other. -/
import Derived.Test.YtjmhjobfiemmnaaHelp
namespace Go.Proofs.Ytjmhjobfiemmnaa
open Go.RowKit
set_option linter.unusedSimpArgs false
set_option linter.unusedVariables false

/-- A slice of slices of integers. -/
def IntRows (w : World) (v : Value) (LL : List (List Int)) : Prop := ∃ vs : List Value, Sl w v vs ∧ vs.length = LL.length ∧ ∀ i, i < vs.length → Ints w (vs.getD i undef) (LL.getD i [])
theorem IntRows.keep {w w' : World} {v : Value} {LL : List (List Int)} (h : IntRows w v LL) (k : Keeps w w') : IntRows w' v LL := by
  obtain ⟨vs, h1, h2, h3⟩ := h
  exact ⟨vs, h1.keep k, h2, fun i hi => (h3 i hi).keep k⟩
theorem IntRows.form {w : World} {v : Value} {LL : List (List Int)} (h : IntRows w v LL) :
    ∃ a c, v = .slice a LL.length c ∧ LL.length ≤ 9223372036854775807 ∧
      ∀ i, i < LL.length → ∃ b o u, a = some ⟨b, o, none⟩ ∧ w.cell? ⟨b, o + i, none⟩ = some u ∧ Ints w u (LL.getD i []) := by
  obtain ⟨vs, h1, h2, h3⟩ := h
  obtain ⟨a, c, rfl, h4, h5⟩ := h1.form
  rw [h2] at h4
  refine ⟨a, c, by rw [h2], h4, fun i hi => ?_⟩
  obtain ⟨b, o, rfl, hc⟩ := h5 i (by omega)
  exact ⟨b, o, _, rfl, hc, h3 i (by omega)⟩

theorem info_ints : (Try.prog.info? 25).map (fun i => (i.zero, i.size, i.bytes)) = some (some (.slice none 0 0), 1, 24) := by kernel_rfl

theorem owns_apart_ty {e e' : TypeId} {B C s s' n m : Nat} {w : World} {v u : Value} {xs ys : List Value} (hne : e ≠ e') (h : w.ownsRow B e s v n xs) (k : w.ownsRow C e' s' u m ys) : Apart v u := by
  unfold Apart
  rcases h.2 with ⟨rfl, _⟩ | ⟨g, cap, cur, rfl, _, hg, _⟩
  · exact .inl rfl
  · rcases k.2 with ⟨rfl, _⟩ | ⟨g', cap', cur', rfl, _, hg', _⟩
    · exact .inr (by simp [Value.ownBlock])
    · refine .inr fun e => ?_
      have : g = g' := by simpa [Value.ownBlock] using e
      subst this
      rw [hg] at hg'
      simp at hg'
      exact hne hg'.2

theorem Own.sl {B : Nat} {w : World} {v : Value} {l : List Int} (h : Own B w v l) : ∃ a n c, v = .slice a n c := by
  obtain ⟨a, c, h1, _⟩ := h.len
  exact ⟨a, _, c, h1⟩

/-- v owns a row of the values vs, each of which owns its row of LL, and the rows are apart. -/
structure MatIn (B : Nat) (w : World) (v : Value) (vs : List Value) (LL : List (List Int)) : Prop where
  row : w.ownsRow B 25 1 v LL.length vs
  own : ∀ i, i < LL.length → Own B w (vs.getD i undef) (LL.getD i [])
  apart : ∀ i j, i < LL.length → j < LL.length → i ≠ j → Apart (vs.getD i undef) (vs.getD j undef)

section
variable {B : Nat} {w w' : World} {v : Value} {vs : List Value} {LL : List (List Int)}
theorem MatIn.len (h : MatIn B w v vs LL) : vs.length = LL.length := by simpa using h.row.1
theorem MatIn.keep (h : MatIn B w v vs LL) (k : Keeps w w') : MatIn B w' v vs LL := ⟨owns_keep h.row k, fun i hi => (h.own i hi).keep k, h.apart⟩
theorem MatIn.kept {r : Option Nat} (h : MatIn B w v vs LL) (hg : w.grownBy w' r) (hv : v.ownBlock = none ∨ v.ownBlock ≠ r) (hvs : ∀ i, i < LL.length → (vs.getD i undef).ownBlock = none ∨ (vs.getD i undef).ownBlock ≠ r) : MatIn B w' v vs LL :=
  ⟨World.ownsRow.kept h.row hg hv, fun i hi => World.ownsRow.kept (h.own i hi) hg (hvs i hi), h.apart⟩
theorem MatIn.rows (h : MatIn B w v vs LL) : IntRows w v LL := by
  have hl := h.len
  refine ⟨vs, owns_sl (B := B) (e := 25) (by rw [hl]; exact h.row), hl, fun i hi => (h.own i (by omega)).ints⟩
theorem MatIn.form (h : MatIn B w v vs LL) (hn : 0 < LL.length) :
    ∃ g cap, v = .slice (some ⟨g, 0, none⟩) LL.length cap ∧ ∀ i, i < LL.length → w.cell? ⟨g, i, none⟩ = some (vs.getD i undef) ∧ w.frozen? ⟨g, i, none⟩ = false := by
  obtain ⟨g, cap, rfl, _, _⟩ := World.ownsRow.form h.row hn
  refine ⟨g, cap, rfl, fun i hi => ⟨?_, World.ownsRow.frozenAt h.row i⟩⟩
  rw [World.ownsRow.cellAt h.row i (by omega)]
  have := h.len
  simp [show i < vs.length by omega]
end

theorem getD_set_same {α : Type} (l : List α) (i : Nat) (x d : α) (h : i < l.length) : (l.set i x).getD i d = x := by simp [h]
theorem getD_set_ne {α : Type} (l : List α) (i j : Nat) (x d : α) (h : j ≠ i) : (l.set i x).getD j d = l.getD j d := by
  simp [List.getElem?_set, Ne.symm h]

/-- An append to row i, and the new row's value stored at its place. -/
theorem MatIn.app {B : Nat} {w W w' : World} {g n cap : Nat} {vs : List Value} {LL : List (List Int)} {i : Nat} {ys : List Int} {v' : Value} (h : MatIn B w (.slice (some ⟨g, 0, none⟩) n cap) vs LL) (hi : i < LL.length) (k : Keeps w W)
    (hA : App B W (vs.getD i undef) (LL.getD i []) ys v' w') :
    MatIn B (w'.setCell ⟨g, i, none⟩ v') (.slice (some ⟨g, 0, none⟩) n cap) (vs.set i v') (LL.set i (LL.getD i [] ++ ys)) := by
  have hl := h.len
  have hW := h.keep k
  have n1 : (25 : TypeId) ≠ 3 := by decide
  have hr1 : w'.ownsRow B 25 1 (.slice (some ⟨g, 0, none⟩) n cap) LL.length vs := World.ownsRow.kept hW.row hA.grown (owns_apart_ty n1 hW.row (hW.own i hi))
  obtain ⟨gg, cc, he, _⟩ := World.ownsRow.form hr1 (by omega)
  simp only [Value.slice.injEq, Option.some.injEq, Addr.mk.injEq, and_true, true_and] at he
  obtain ⟨rfl, hn, rfl⟩ := he
  subst hn
  obtain ⟨h1, h2⟩ := World.ownsRow.stored hr1 i v'
  have far : ∀ {u : Value} {l : List Int}, Own B w' u l → Own B (w'.setCell ⟨g, i, none⟩ v') u l := fun {u l} hu =>
    World.ownsRow.kept hu h2 (owns_apart_ty n1.symm hu hr1)
  have ap : ∀ j, j < LL.length → j ≠ i → Apart v' (vs.getD j undef) := by
    intro j hj hji
    rcases hA.lies with c | c
    · have := h.apart i j hi hj (Ne.symm hji)
      unfold Apart at *; rw [c]; exact this
    · exact (Own.apart_old (h.own j hj) c k.size).symm
  refine ⟨by simpa using h1, fun j hj => ?_, fun j k' hj hk hne => ?_⟩
  · simp only [List.length_set] at hj
    by_cases hji : j = i
    · subst hji
      rw [getD_set_same _ _ _ _ (by omega), getD_set_same _ _ _ _ hi]
      exact far hA.own
    · rw [getD_set_ne _ _ _ _ _ hji, getD_set_ne _ _ _ _ _ hji]
      exact far ((hW.own j hj).kept hA.grown (h.apart j i hj hi hji))
  · simp only [List.length_set] at hj hk
    by_cases hji : j = i
    · subst hji
      rw [getD_set_same _ _ _ _ (by omega), getD_set_ne _ _ _ _ _ (Ne.symm hne)]
      exact ap k' hk (Ne.symm hne)
    · rw [getD_set_ne _ _ _ _ _ hji]
      by_cases hki : k' = i
      · subst hki
        rw [getD_set_same _ _ _ _ (by omega)]
        exact (ap j hj hji).symm
      · rw [getD_set_ne _ _ _ _ _ hki]
        exact h.apart j k' hj hk hne

/-- A made matrix of empty rows. -/
theorem MatIn.made {B : Nat} {w : World} {v : Value} {n : Nat} (h : w.ownsRow B 25 1 v n (List.replicate n (.slice none 0 0))) : MatIn B w v (List.replicate n (.slice none 0 0)) (List.replicate n []) := by
  refine ⟨by simpa using h, fun i hi => ?_, fun i j hi hj _ => ?_⟩
  · simp only [List.length_replicate] at hi
    simp [List.getD_eq_getElem?_getD, List.getElem?_replicate, hi]
    exact Own.nil _ _
  · simp only [List.length_replicate] at hi
    left
    simp [List.getD_eq_getElem?_getD, List.getElem?_replicate, hi, Value.ownBlock]
theorem replicate_slices (n : Nat) : (madeCells (Value.slice none 0 0).cells (n * 1)).toList = List.replicate n (.slice none 0 0) := by
  simp [Value.cells, toList_madeCells_one]
end Go.Proofs.Ytjmhjobfiemmnaa
