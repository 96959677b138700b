/- What the form's reading of an argument gives the printed walks: integers, slices of any kind, structs. -/
import Derived.Test.YtijaojnaamkinaaTy
import Derived.Test.YtijaojnaamkinaaOpen
import Derived.Deep.Matrix
import Derived.Lib.SmallJoins
namespace Go.Proofs.Ytijaojnaamkinaa
open Go.ChangeShapes Go.WideShapes Go.ChangeAt Go.RowKit Go.Deep Go.Joins
set_option linter.unusedVariables false
set_option maxRecDepth 100000
set_option linter.unusedSimpArgs false
section
variable {H : Type} {enc : TypeId × Value → H} {W : World}
/-- What lies in the cells of a variable of type t reads as an α. -/
def Opn (enc : TypeId × Value → H) (W : World) (t : TypeId) (α : Type) [Rp α] : Prop :=
  ∀ (n : Nat) (cs : List Value) (y : DataW H × List MemPlace), DataW.trod enc Try.prog W 0 (fun _ => true) true n t cs = some y → ∃ x : α, Rp.rd zt W cs x
theorem opn_int : Opn enc W 3 Int := fun n cs y h => by
  obtain ⟨m, h1, _, h2⟩ := DataW.trod_int Try.underlying3 h
  exact ⟨m, h1⟩
theorem opn_slice {α : Type} [Rp α] {t e : TypeId} (ht : Try.prog.underlying t = some (.slice e)) (hc : Try.prog.cellsOf e = Rp.sz α) (he : Opn enc W e α) : Opn enc W t (List α) := fun n cs y h => by
  rcases DataW.trod_slice ht h with ⟨rfl, _⟩ | ⟨a, len, cap, elems, rest, m, _, rfl, _, hb, hl, hm, hlen, hel, _, _⟩
  · exact ⟨[], _, rfl, RdL.nil zt W⟩
  · rw [hc] at hel
    by_cases h0 : len = 0
    · subst h0
      exact ⟨[], _, rfl, some a, cap, by simp, by simp, hm, fun i x hx => by simp at hx⟩
    have hpos := Rp.pos (α := α)
    obtain ⟨b, off, spot⟩ := a
    have hs : spot = none := by
      have h1 := hel 0 (by omega)
      rw [List.getElem?_eq_getElem (show 0 < elems.length by omega), Option.bind_eq_some_iff] at h1
      obtain ⟨cs, h3, h4⟩ := h1
      obtain ⟨_, h5, h6⟩ := World.cells?_some h3
      have h7 := h6 0 hpos
      rw [List.getElem?_eq_getElem (show 0 < cs.length by omega)] at h7
      simpa [Addr.add] using World.cell?_spot h7
    subst hs
    have each : ∀ i, i < len → ∃ x : α, ∃ cs, b < W.heap.size ∧ Cells W b (off + i * Rp.sz α) cs ∧ Rp.rd zt W cs x := fun i hi => by
      have h1 := hel i hi
      rw [List.getElem?_eq_getElem (show i < elems.length by omega), Option.bind_eq_some_iff] at h1
      obtain ⟨cs, h3, h4⟩ := h1
      obtain ⟨x, hx⟩ := he m cs _ h4
      rw [Go.WideShapes.add_plain] at h3
      obtain ⟨_, h5, h6⟩ := World.cells?_some h3
      refine ⟨x, cs, World.cells?_block h3 hpos, fun j v hj => ?_, hx⟩
      have hjl := (List.getElem?_eq_some_iff.1 hj).1
      have := h6 j (by omega)
      rw [hj, Go.WideShapes.add_plain] at this
      exact this
    refine ⟨List.ofFn fun i : _root_.Fin len => Classical.choose (each i.1 i.2), _, rfl, some ⟨b, off, none⟩, cap, by simp, by simpa using hl, hm, fun i x hx => ?_⟩
    have hi : i < len := by
      have := (List.getElem?_eq_some_iff.1 hx).1
      simpa using this
    rw [List.getElem?_eq_getElem (by simpa using hi), List.getElem_ofFn] at hx
    obtain ⟨cs, h2, h3, h4⟩ := Classical.choose_spec (each i hi)
    cases hx
    exact ⟨b, off, cs, rfl, rfl, h2, h3, h4⟩
theorem list2 {cs : List Value} (h : cs.length = 2) : ∃ a b, cs = [a, b] := by
  match cs, h with
  | [a, b], _ => exact ⟨a, b, rfl⟩
theorem list3 {cs : List Value} (h : cs.length = 3) : ∃ a b c, cs = [a, b, c] := by
  match cs, h with
  | [a, b, c], _ => exact ⟨a, b, c, rfl⟩
theorem list4 {cs : List Value} (h : cs.length = 4) : ∃ a b c d, cs = [a, b, c, d] := by
  match cs, h with
  | [a, b, c, d], _ => exact ⟨a, b, c, d, rfl⟩
theorem opn_fields {t : TypeId} {fs : Array Field} {n : Nat} {cs : List Value} {y : DataW H × List MemPlace} (ht : Try.prog.underlying t = some (.struct fs)) (hone : oneCellFields Try.prog fs = true) (h : DataW.trod enc Try.prog W 0 (fun _ => true) true n t cs = some y) :
    ∃ m, cs.length = Try.prog.cellsOf t ∧ ∀ (i : Nat) (f : Field), fs[i]? = some f → ∃ y', DataW.trod enc Try.prog W 0 (fun _ => true) true m f.type ((cs.drop i).take 1) = some y' := by
  obtain ⟨xs, m, _, _, hl, hx, hf⟩ := DataW.trod_struct ht h
  refine ⟨m, hl, fun i f hi => ?_⟩
  obtain ⟨o0, k0⟩ := hone_of hone i f hi
  have h0 := hf i f hi
  have hlt : i < xs.length := by rw [hx]; exact (Array.getElem?_eq_some_iff.1 hi).1
  rw [o0, k0, List.getElem?_eq_getElem hlt] at h0
  exact ⟨_, h0⟩
theorem opn_ints : Opn enc W 23 (List Int) := opn_slice Try.underlying23 (by kernel_rfl) opn_int

theorem opn_rows : Opn enc W 41 (List (List Int)) := opn_slice Try.underlying41 (by kernel_rfl) opn_ints

theorem opn_End : Opn enc W 136 T_End := fun n cs y h => by
  obtain ⟨m, hl, hf⟩ := opn_fields Try.underlying136 (by kernel_rfl) h
  obtain ⟨c0, c1, rfl⟩ := list2 (hl.trans (by kernel_rfl))
  obtain ⟨y0, h0⟩ := hf 0 _ rfl
  obtain ⟨y1, h1⟩ := hf 1 _ rfl
  obtain ⟨a0, e0⟩ := opn_int (enc := enc) (W := W) m [c0] _ h0
  obtain ⟨a1, e1⟩ := opn_int (enc := enc) (W := W) m [c1] _ h1
  cases e0; cases e1
  exact ⟨⟨a0, a1⟩, rfl⟩

theorem opn_Network : Opn enc W 25 T_Network := fun n cs y h => by
  obtain ⟨m, hl, hf⟩ := opn_fields Try.underlying25 (by kernel_rfl) h
  obtain ⟨c0, c1, c2, rfl⟩ := list3 (hl.trans (by kernel_rfl))
  obtain ⟨y0, h0⟩ := hf 0 _ rfl
  obtain ⟨y1, h1⟩ := hf 1 _ rfl
  obtain ⟨y2, h2⟩ := hf 2 _ rfl
  obtain ⟨a0, v0, e0, r0⟩ := opn_slice (W := W) (enc := enc) Try.underlying22 (by kernel_rfl) (opn_slice Try.underlying108 (by kernel_rfl) opn_End) m [c0] _ h0
  obtain ⟨a1, v1, e1, r1⟩ := opn_ints (enc := enc) (W := W) m [c1] _ h1
  obtain ⟨a2, v2, e2, r2⟩ := opn_ints (enc := enc) (W := W) m [c2] _ h2
  cases e0; cases e1; cases e2
  exact ⟨⟨a0, a1, a2⟩, _, _, _, rfl, r0, r1, r2⟩
/-- A struct argument. -/
theorem opn_arg {α : Type} [Rp α] {t : TypeId} {fs : Array Field} (hs : Try.prog.underlying t = some (.struct fs)) (ho : Opn enc W t α) {base : Nat} {v : Value} {d : DataW H} {p : List MemPlace} (hval : Value.okWide Try.prog W .any base t v)
    (h : DataW.Trod enc Try.prog W 0 (fun _ => true) true t v d p) : ∃ (x : α) (u : List Value), v = .agg u.toArray ∧ Rp.rd zt W u x := by
  obtain ⟨cs, rfl, _⟩ := okWide_struct hs hval
  obtain ⟨fuel, hf⟩ := h
  obtain ⟨x, hx⟩ := ho fuel _ _ hf
  exact ⟨x, cs.toList, by simp, by simpa [Value.cells] using hx⟩
/-- A slice argument. -/
theorem opn_argL {α : Type} [Rp α] {t e : TypeId} (hs : Try.prog.underlying t = some (.slice e)) (ho : Opn enc W t (List α)) {base : Nat} {v : Value} {d : DataW H} {p : List MemPlace} (hval : Value.okWide Try.prog W .any base t v)
    (h : DataW.Trod enc Try.prog W 0 (fun _ => true) true t v d p) : ∃ (x : List α), RdL zt W v x := by
  obtain ⟨a, len, cap, rfl⟩ := okWide_slice hs hval
  obtain ⟨fuel, hf⟩ := h
  obtain ⟨x, v', e, r⟩ := ho fuel _ _ hf
  simp [Value.cells] at e
  subst e
  exact ⟨x, r⟩
theorem openNet {base : Nat} {v : Value} {d : DataW H} {p : List MemPlace} (hval : Value.okWide Try.prog W .any base 25 v)
    (h : DataW.Trod enc Try.prog W 0 (fun _ => true) true 25 v d p) : ∃ (x : T_Network) (u : List Value), v = .agg u.toArray ∧ Rp.rd zt W u x := opn_arg Try.underlying25 opn_Network hval h

end
end Go.Proofs.Ytijaojnaamkinaa
