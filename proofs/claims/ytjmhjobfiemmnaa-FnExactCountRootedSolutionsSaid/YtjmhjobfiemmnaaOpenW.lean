/- What the form's reading of a struct argument gives the walks: walk problems, rooted problems. -/
import Derived.Test.YtjmhjobfiemmnaaOpen
import Derived.Test.YtjmhjobfiemmnaaWp
import Derived.Deep.Matrix
import Derived.Lib.SmallJoins
namespace Go.Proofs.Ytjmhjobfiemmnaa
open Go.ChangeShapes Go.WideShapes Go.ChangeAt Go.RowKit Go.Deep Go.Joins
set_option linter.unusedVariables false
set_option maxRecDepth 100000
set_option linter.unusedSimpArgs false

section
variable {H : Type} {enc : TypeId × Value → H} {W : World}

theorem ints_of_cells {v : Value} {A : Option Addr} {L C : Nat} {Z : List Int} (hv : v = .slice A L C) (hL : L ≤ C) (hC : C ≤ maxLen) (hZ : Z.length = C) (hA : A = none → C = 0)
    (hc : ∀ a', A = some a' → ∀ c, c < C → W.cell? (a'.add c) = some (.int .i64 (Z.getD c 0))) : Ints W v (Z.take L) := by
  subst hv
  have hlen : (Z.take L).length = L := by simp; omega
  refine ⟨A, C, by simp; omega, by simp; omega, hC, ?_⟩
  by_cases h0 : L = 0
  · subst h0; exact .inl (by simp)
  · cases A with
    | none => have := hA rfl; omega
    | some a' =>
      obtain ⟨b, off, rfl, hc'⟩ := ints_at (w := W) (a := a') (k := .i64) (zs := Z) (fun i hi => hc a' rfl i (by omega)) (by omega)
      refine .inr ⟨b, off, rfl, fun i y hy => ?_⟩
      rw [List.getElem?_map, Option.map_eq_some_iff] at hy
      obtain ⟨z, hz1, rfl⟩ := hy
      have hi : i < L := by
        have := (List.getElem?_eq_some_iff.1 hz1).1
        simp at this; omega
      rw [List.getElem?_take, if_pos hi] at hz1
      rw [hc' i (by omega), List.getD_eq_getElem?_getD, hz1]
      rfl

theorem rows_of_trod {n : Nat} {v : Value} {y : DataW H × List MemPlace} (h : DataW.trod enc Try.prog W 0 (fun _ => true) true n 22 [v] = some y) :
    ∃ LL : List (List Int), IntRows W v LL ∧ ∀ r ∈ LL, ∀ n ∈ r, I64 n := by
  rcases open_int_rows Try.underlying22 Try.underlying25 Try.underlying3 (by kernel_rfl) (by kernel_rfl) h with ⟨hcs, _⟩ | ⟨a, len, cap, A, L, C, Z, hcs, _, hl, hm, _, hr⟩
  · simp at hcs
    subst hcs
    exact ⟨[], ⟨[], ⟨none, 0, rfl, Nat.le_refl _, by simp [maxLen], .inl rfl⟩, rfl, fun i hi => by simp at hi⟩, by simp⟩
  · simp at hcs
    subst hcs
    refine ⟨(List.range len).map fun r => (Z r).take (L r), ⟨(List.range len).map fun r => .slice (A r) (L r) (C r), ⟨some a, cap, by simp, by simpa using hl, hm, ?_⟩, by simp, ?_⟩, ?_⟩
    · by_cases h0 : len = 0
      · subst h0; exact .inl (by simp)
      · have hp := (hr 0 (by omega)).1
        obtain ⟨b, off, spot⟩ := a
        have hspot : spot = none := by simpa [Addr.add] using World.cell?_spot hp
        subst hspot
        refine .inr ⟨b, off, rfl, fun i x hx => ?_⟩
        rw [List.getElem?_map, Option.map_eq_some_iff] at hx
        obtain ⟨j, hj, rfl⟩ := hx
        have hi : i < len := by
          have := (List.getElem?_eq_some_iff.1 hj).1
          simpa using this
        have : i = j := by
          rw [List.getElem?_range hi] at hj
          simpa using hj
        subst this
        rw [← Go.WideShapes.add_plain]
        exact (hr i (by omega)).1
    · intro i hi
      simp at hi
      have h1 := hr i (by omega)
      have e1 : ((List.range len).map fun r => Value.slice (A r) (L r) (C r)).getD i undef = .slice (A i) (L i) (C i) := by simp [hi]
      have e2 : ((List.range len).map fun r => (Z r).take (L r)).getD i [] = (Z i).take (L i) := by simp [hi]
      rw [e1, e2]
      exact ints_of_cells rfl h1.2.1 h1.2.2.1 h1.2.2.2.1 h1.2.2.2.2.2.1 fun a' ha c hc => (h1.2.2.2.2.2.2 a' ha).2 c hc
    · intro r hr' n hn
      simp at hr'
      obtain ⟨i, hi, rfl⟩ := hr'
      exact i64_of_wf ((hr i (by omega)).2.2.2.2.1 n (List.mem_of_mem_take hn))

theorem int_of_trod {n : Nat} {v : Value} {y : DataW H × List MemPlace} (h : DataW.trod enc Try.prog W 0 (fun _ => true) true n 3 [v] = some y) : ∃ m : Int, v = .int .i64 m ∧ I64 m := by
  obtain ⟨m, h1, _, h2⟩ := DataW.trod_int Try.underlying3 h
  simp at h1
  exact ⟨m, h1, i64_of_wf h2⟩
end
end Go.Proofs.Ytjmhjobfiemmnaa
