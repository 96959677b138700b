/- From the laws' readings to the generator's. -/
import Derived.Test.YtjmhjobfiemmnaaTy
import Derived.Test.YtjmhjobfiemmnaaKg
import Derived.Test.YtjmhjobfiemmnaaMat
import Derived.Test.YtjmhjobfiemmnaaStr
import Derived.Test.YtjmhjobfiemmnaaOpen
import Derived.Test.YtjmhjobfiemmnaaRp
namespace Go.Proofs.Ytjmhjobfiemmnaa
open Go.RowKit
set_option linter.unusedSimpArgs false
set_option linter.unusedVariables false

theorem cell_block {w : World} {b o : Nat} {v : Value} (h : w.cell? ⟨b, o, none⟩ = some v) : b < w.heap.size := by
  simp only [World.cell?] at h
  cases hb : w.heap[b]? with
  | none => rw [hb] at h; simp at h
  | some x => exact (Array.getElem?_eq_some_iff.1 hb).1
theorem Ints.rdl {w : World} {v : Value} {l : List Int} (h : Ints w v l) : RdL zt w v l := by
  obtain ⟨a, c, rfl, h1, h2, h3⟩ := h
  refine ⟨a, c, by simp, by simpa using h1, h2, fun i x hx => ?_⟩
  rcases h3 with h3 | ⟨b, off, rfl, h3⟩
  · simp at h3; subst h3; simp at hx
  · have hc := h3 i (.int .i64 x) (by rw [List.getElem?_map, hx]; rfl)
    refine ⟨b, off, [.int .i64 x], rfl, rfl, cell_block hc, fun j u hj => ?_, rfl⟩
    cases j with
    | zero => simp at hj; subst hj; simpa [Rp.sz] using hc
    | succ j => simp at hj
theorem IntRows.rdl {w : World} {v : Value} {LL : List (List Int)} (h : IntRows w v LL) : RdL zt w v LL := by
  obtain ⟨vs, ⟨a, c, rfl, h1, h2, h3⟩, hl, hr⟩ := h
  refine ⟨a, c, by rw [hl], by omega, h2, fun i x hx => ?_⟩
  have hi : i < LL.length := (List.getElem?_eq_some_iff.1 hx).1
  rcases h3 with h3 | ⟨b, off, rfl, h3⟩
  · subst h3; simp at hl; omega
  · have hv : vs[i]? = some (vs.getD i undef) := by rw [List.getD_eq_getElem?_getD, List.getElem?_eq_getElem (by omega)]; rfl
    have hc := h3 i _ hv
    have hx' := hr i (by omega)
    rw [List.getD_eq_getElem?_getD (l := LL), hx] at hx'
    refine ⟨b, off, [vs.getD i undef], rfl, rfl, cell_block hc, fun j u hj => ?_, ⟨_, rfl, hx'.rdl⟩⟩
    cases j with
    | zero => simp at hj; subst hj; simpa [Rp.sz] using hc
    | succ j => simp at hj
theorem Sl.rdv {w : World} {v : Value} {xs : List Value} (h : Sl w v xs) : True := trivial
/-- A rooted problem. -/
def tR (x : RP) : T_RootedProblem := ⟨x.labels, x.children, x.lines⟩
theorem RdR.rdz {w : World} {v : Value} {x : RP} (h : RdR w v x) : ∃ u : List Value, v = .agg u.toArray ∧ Rp.rd zt w u (tR x) := by
  obtain ⟨v2, rfl, h2⟩ := h
  exact ⟨[.int .i64 x.labels, .int .i64 x.children, v2], rfl, v2, rfl, h2.rdl⟩
def okR (x : RP) : Prop := I64 x.labels ∧ I64 x.children ∧ ∀ r ∈ x.lines, ∀ n ∈ r, I64 n
/-! ### Results -/
theorem flat_one {css : List (List Value)} {l : List Int} (hl : css.length = l.length) (h : ∀ (i : Nat) cs x, css[i]? = some cs → l[i]? = some x → cs = [.int .i64 x]) : css.flatten = l.map (Value.int .i64) := by
  induction css generalizing l with
  | nil => cases l with
    | nil => rfl
    | cons a l => simp at hl
  | cons c css ih => cases l with
    | nil => simp at hl
    | cons a l =>
      have h0 := h 0 c a rfl rfl
      subst h0
      rw [List.flatten_cons, ih (by simpa using hl) (fun i cs x h1 h2 => h (i + 1) cs x (by simpa using h1) (by simpa using h2))]
      rfl
theorem Ow.own_ints {B k : Nat} {o : Tg} {w : World} {v : Value} {l : List Int} (h : Ow B 3 k o w v l) : Own B w v l := by
  obtain ⟨css, h1, h2, h3, h4⟩ := h
  rw [flat_one h1 (fun i cs x a b => h4 i cs x a b)] at h2
  exact h2
theorem Of.own_ints {w0 w : World} {o' : Tg} {v : Value} {l : List Int} (h : Of 3 o' w v l) (ho : ∀ b, b < w0.heap.size → o' b = 1) : Own w0.heap.size w v l :=
  (h.fresh fun b hb => by rw [ho b hb]; decide).own_ints
/-- The tags with which a law calls: nothing that was there may be handed back. -/
def ot : Tg := fun _ => 1
/-- The call returns a new list and whether there is one. -/
def RetL (w0 : World) (r : Option (List Int)) (e : Ending) (w' : World) : Prop :=
  ∃ v, e = .returned (.tuple #[v, .bool r.isSome]) ∧ Own w0.heap.size w' v (r.getD []) ∧ (r.getD []).length ≤ 1000000000 ∧ Keeps w0 w'
theorem szR_lines {x : RP} (h : szR x ≤ 1048576) : x.lines.length ≤ 1048576 := by
  unfold szR at h
  unfold tot at h
  omega
theorem flat_hv {css : List (List Value)} {vs : List Hv} (hl : css.length = vs.length) (h : ∀ (i : Nat) cs x, css[i]? = some cs → vs[i]? = some x → cs = [x.v] ∧ x.v.oneCell' = true) : css.flatten = vs.map Hv.v := by
  induction css generalizing vs with
  | nil => cases vs with
    | nil => rfl
    | cons a l => simp at hl
  | cons c css ih => cases vs with
    | nil => simp at hl
    | cons a l =>
      have h0 := (h 0 c a rfl rfl).1
      subst h0
      rw [List.flatten_cons, ih (by simpa using hl) (fun i cs x h1 h2 => h (i + 1) cs x (by simpa using h1) (by simpa using h2))]
      rfl
/-- A result that is a list of lists, all new. -/
theorem Dz.matIn {w0 w : World} {o' : Tg} {v : Value} {LL : List (List Int)} (h : Dz 25 3 o' w v LL) (ho : ∀ b, b < w0.heap.size → o' b = 1) : ∃ vs, MatIn w0.heap.size w v vs LL := by
  obtain ⟨vs, h1, h2⟩ := h
  have hn : ∀ b, b < w0.heap.size → o' b ≠ 0 := fun b hb => by rw [ho b hb]; decide
  have h3 := Of.fresh h1 hn
  obtain ⟨css, c1, c2, c3, c4⟩ := h3
  rw [flat_hv c1 (fun i cs x a b => c4 i cs x a b)] at c2
  have hl := h2.1
  have rowAt : ∀ i, i < LL.length → Own w0.heap.size w ((vs.map Hv.v).getD i undef) (LL.getD i []) := fun i hi => by
    have hv : vs[i]? = some vs[i] := List.getElem?_eq_getElem (by omega)
    have hx : LL[i]? = some LL[i] := List.getElem?_eq_getElem hi
    have := (Of.fresh (h2.2.1 i vs[i] LL[i] hv hx) hn).own_ints
    rw [List.getD_eq_getElem?_getD, List.getElem?_map, hv, List.getD_eq_getElem?_getD, hx]
    exact this
  refine ⟨vs.map Hv.v, ⟨by rw [← hl]; exact c2, rowAt, fun i j hi hj hne => ?_⟩⟩
  have hv : vs[i]? = some vs[i] := List.getElem?_eq_getElem (by omega)
  have hv' : vs[j]? = some vs[j] := List.getElem?_eq_getElem (by omega)
  rw [List.getD_eq_getElem?_getD, List.getElem?_map, hv, List.getD_eq_getElem?_getD, List.getElem?_map, hv']
  simp only [Option.map_some, Option.getD_some]
  unfold Apart
  cases hb : vs[i].v.ownBlock with
  | none => exact .inl rfl
  | some g =>
    refine .inr fun he => hne (h2.2.2 i j vs[i] vs[j] g hv hv' hb he.symm)
end Go.Proofs.Ytjmhjobfiemmnaa
