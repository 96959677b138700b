/- From the laws' readings to the generator's. -/
import Derived.Test.YtcjmpodljhcbhaaTy
import Derived.Test.YtcjmpodljhcbhaaMat
import Derived.Test.YtcjmpodljhcbhaaStr
import Derived.Test.YtcjmpodljhcbhaaOpen
import Derived.Test.YtcjmpodljhcbhaaWp
import Derived.Test.YtcjmpodljhcbhaaRp
namespace Go.Proofs.Ytcjmpodljhcbhaa
open Go.RowKit
set_option linter.unusedSimpArgs false
set_option linter.unusedVariables false

theorem cell_block {w : World} {b o : Nat} {v : Value} (h : w.cell? ⟨b, o, none⟩ = some v) : b < w.heap.size := by
  simp only [World.cell?] at h
  cases hb : w.heap[b]? with
  | none => rw [hb] at h; simp at h
  | some x => exact (Array.getElem?_eq_some_iff.1 hb).1
theorem Ints.rdl {w : World} {v : Value} {l : List Int} (h : Ints w v l) : RdL zt w v l := by
  obtain ⟨a, c, rfl, h1, h2, h3⟩ := h
  refine ⟨a, c, by simp, by simpa using h1, h2, fun i x hx => ?_⟩
  rcases h3 with h3 | ⟨b, off, rfl, h3⟩
  · simp at h3; subst h3; simp at hx
  · have hc := h3 i (.int .i64 x) (by rw [List.getElem?_map, hx]; rfl)
    refine ⟨b, off, [.int .i64 x], rfl, rfl, cell_block hc, fun j u hj => ?_, rfl⟩
    cases j with
    | zero => simp at hj; subst hj; simpa [Rp.sz] using hc
    | succ j => simp at hj
theorem IntRows.rdl {w : World} {v : Value} {LL : List (List Int)} (h : IntRows w v LL) : RdL zt w v LL := by
  obtain ⟨vs, ⟨a, c, rfl, h1, h2, h3⟩, hl, hr⟩ := h
  refine ⟨a, c, by rw [hl], by omega, h2, fun i x hx => ?_⟩
  have hi : i < LL.length := (List.getElem?_eq_some_iff.1 hx).1
  rcases h3 with h3 | ⟨b, off, rfl, h3⟩
  · subst h3; simp at hl; omega
  · have hv : vs[i]? = some (vs.getD i undef) := by rw [List.getD_eq_getElem?_getD, List.getElem?_eq_getElem (by omega)]; rfl
    have hc := h3 i _ hv
    have hx' := hr i (by omega)
    rw [List.getD_eq_getElem?_getD (l := LL), hx] at hx'
    refine ⟨b, off, [vs.getD i undef], rfl, rfl, cell_block hc, fun j u hj => ?_, ⟨_, rfl, hx'.rdl⟩⟩
    cases j with
    | zero => simp at hj; subst hj; simpa [Rp.sz] using hc
    | succ j => simp at hj
theorem Sl.rdv {w : World} {v : Value} {xs : List Value} (h : Sl w v xs) : True := trivial
/-- A rooted problem. -/
def tR (x : RP) : T_RootedProblem := ⟨x.labels, x.children, x.lines⟩
theorem RdR.rdz {w : World} {v : Value} {x : RP} (h : RdR w v x) : ∃ u : List Value, v = .agg u.toArray ∧ Rp.rd zt w u (tR x) := by
  obtain ⟨v2, rfl, h2⟩ := h
  exact ⟨[.int .i64 x.labels, .int .i64 x.children, v2], rfl, v2, rfl, h2.rdl⟩
def tW (x : WP) : T_WalkProblem := ⟨x.labels, x.arcs⟩
theorem RdW.rdz {w : World} {v : Value} {x : WP} (h : RdW w v x) : ∃ u : List Value, v = .agg u.toArray ∧ Rp.rd zt w u (tW x) := by
  obtain ⟨v2, rfl, h2⟩ := h
  exact ⟨[.int .i64 x.labels, v2], rfl, v2, rfl, h2.rdl⟩
def okR (x : RP) : Prop := I64 x.labels ∧ I64 x.children ∧ ∀ r ∈ x.lines, ∀ n ∈ r, I64 n
end Go.Proofs.Ytcjmpodljhcbhaa
