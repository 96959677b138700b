/- PathForm of both sides, as the law calls them. -/
import Derived.Test.YtijaojnaamkinaaAd
import Derived.Test.YtijaojnaamkinaaWp
import Derived.Test.YtijaojnaamkinaaPpd
namespace Go.Proofs.Ytijaojnaamkinaa
open Go.RowKit
set_option linter.unusedSimpArgs false
set_option linter.unusedVariables false

def zeroW : WP := ⟨0, []⟩
theorem tot_two {LL : List (List Int)} (h : ∀ r ∈ LL, r.length = 2) : tot LL = 3 * LL.length := by
  unfold tot off
  rw [List.take_length]
  have : (LL.map List.length).sum = 2 * LL.length := by
    induction LL with
    | nil => rfl
    | cons r LL ih =>
      rw [List.map_cons, List.sum_cons, h r (by simp), ih fun r hr => h r (by simp [hr])]
      simp; omega
  omega
def wOf (p : T_WalkProblem) : WP := ⟨p.Labels, p.Arcs⟩
def fPathFormSpec (x : RP) : Option WP := if (pathB (tR x)).2 then some (wOf (pathB (tR x)).1) else none
def fPathFormImpl (x : RP) : Option WP := fPathFormSpec x
theorem PathForm_eq (x : RP) (_ : okR x) (_ : szR x ≤ 1048576) : fPathFormImpl x = fPathFormSpec x := rfl
theorem pathB_W (x : RP) (hs : szR x ≤ 1048576) : (fPathFormSpec x).isSome = (pathB (tR x)).2 ∧ (fPathFormSpec x).getD zeroW = wOf (pathB (tR x)).1 ∧ szW (wOf (pathB (tR x)).1) ≤ 100000000 := by
  have hL := szR_lines hs
  unfold fPathFormSpec pathB
  cases h : rootedB (tR x)
  · simp [zeroW, wOf, szW, tot, off]
  · obtain ⟨h1, h2, h3⟩ := okLines_of h
    refine ⟨by simp, by simp, ?_⟩
    simp only [if_true, wOf, szW]
    have q1 := arcsL_small (by omega) h3
    have q0 : tot (sxd (arcsL (tR x).Lines)) = 3 * (sxd (arcsL (tR x).Lines)).length := tot_two fun r hr => (sxd_small (arcsL (tR x).Lines) [] (by simp) q1 r hr).1
    have q2 := sxd_len (arcsL (tR x).Lines) []
    have q3 : (sxd (arcsL (tR x).Lines)).length ≤ (arcsL (tR x).Lines).length := by simpa [sxd] using q2
    have q4 := arcsL_len h3
    have q5 : (tR x).Lines.length = x.lines.length := rfl
    omega
/-- The call returns a new walk problem and whether there is one. -/
def RetW (w0 : World) (r : Option WP) (e : Ending) (w' : World) : Prop :=
  ∃ v, e = .returned (.tuple #[v, .bool r.isSome]) ∧ OwW w0.heap.size w'.heap.size w' v (r.getD zeroW) ∧ szW (r.getD zeroW) ≤ 1000000000 ∧ Keeps w0 w'
theorem owW_of {w0 w : World} {o' : Tg} {v0 : List Value} {p : T_WalkProblem} (h : Rp.rd o' w v0 p) (hz : Dz 23 3 o' w (v0.getD 1 undef) p.Arcs) (k : Keeps w0 w) (ho : ∀ b, b < w0.heap.size → o' b = 1) :
    OwW w0.heap.size w.heap.size w (.agg v0.toArray) (wOf p) := by
  obtain ⟨v1, rfl, h1⟩ := h
  have hz' : Dz 23 3 o' w v1 p.Arcs := hz
  obtain ⟨vs, hm⟩ := hz'.matIn ho
  exact ⟨v1, rfl, w0.heap.size, w.heap.size, Nat.le_refl _, k.size, Nat.le_refl _, hm.owM⟩
/-! ### A walk problem that is only read, all new -/
theorem RdL.intsW {w : World} {v : Value} {l : List Int} (h : RdL zt w v l) : Ints w v l := by
  obtain ⟨a, c, rfl, h1, h2, h3⟩ := h
  refine ⟨a, c, by simp, by simpa using h1, h2, ?_⟩
  cases l with
  | nil => exact .inl rfl
  | cons y ys =>
    obtain ⟨b, off, cs, rfl, _⟩ := h3 0 y rfl
    refine .inr ⟨b, off, rfl, fun i x hx => ?_⟩
    rw [List.getElem?_map] at hx
    cases hy : (y :: ys)[i]? with
    | none => rw [hy] at hx; simp at hx
    | some z =>
      rw [hy] at hx
      simp only [Option.map_some, Option.some.injEq] at hx
      subst hx
      obtain ⟨b', off', cs, e, _, _, hc, hr⟩ := h3 i z hy
      cases e
      have hr' : cs = [.int .i64 z] := hr
      subst hr'
      have := hc 0 _ rfl
      simpa [Rp.sz] using this
theorem RdL.rowsW {w : World} {v : Value} {LL : List (List Int)} (h : RdL zt w v LL) : IntRows w v LL := by
  obtain ⟨a, c, rfl, h1, h2, h3⟩ := h
  have hv : ∀ n, n ≤ LL.length → ∃ vs : List Value, vs.length = n ∧ ∀ i, i < n → Ints w (vs.getD i undef) (LL.getD i []) ∧ ∃ b off, a = some ⟨b, off, none⟩ ∧ w.cell? ⟨b, off + i, none⟩ = some (vs.getD i undef) := by
    intro n
    induction n with
    | zero => exact fun _ => ⟨[], rfl, fun i hi => by omega⟩
    | succ n ih =>
      intro hn
      obtain ⟨vs, e1, e2⟩ := ih (by omega)
      have hx : LL[n]? = some (LL.getD n []) := by rw [List.getD_eq_getElem?_getD, List.getElem?_eq_getElem (by omega)]; rfl
      obtain ⟨b, off, cs, rfl, _, _, hc, ⟨u, rfl, hr⟩⟩ := h3 n _ hx
      refine ⟨vs ++ [u], by simp [e1], fun i hi => ?_⟩
      by_cases hi' : i < n
      · have := e2 i hi'
        rw [List.getD_eq_getElem?_getD, List.getElem?_append_left (by omega), ← List.getD_eq_getElem?_getD]
        exact this
      · have : i = n := by omega
        subst this
        rw [List.getD_eq_getElem?_getD, List.getElem?_append_right (by omega), e1]
        have hc0 := hc 0 _ rfl
        refine ⟨by simpa using hr.intsW, b, off, rfl, ?_⟩
        simpa [Rp.sz] using hc0
  obtain ⟨vs, e1, e2⟩ := hv LL.length (Nat.le_refl _)
  refine ⟨vs, ⟨a, c, by rw [e1], by omega, h2, ?_⟩, e1, fun i hi => (e2 i (by omega)).1⟩
  by_cases h0 : vs = []
  · exact .inl h0
  · have h0' : 0 < vs.length := List.length_pos_iff.2 h0
    obtain ⟨_, b, off, rfl, _⟩ := e2 0 (by omega)
    refine .inr ⟨b, off, rfl, fun i x hx => ?_⟩
    have hi := (List.getElem?_eq_some_iff.1 hx).1
    obtain ⟨_, b', off', e, hc⟩ := e2 i (by omega)
    cases e
    rw [List.getD_eq_getElem?_getD, hx] at hc
    exact hc
structure RdWN (B C : Nat) (w : World) (v : Value) (x : WP) : Prop where
  ex : ∃ (o : Tg) (v1 : Value), (∀ b, b < B → o b ≠ 0) ∧ (∀ b, C ≤ b → o b ≠ 0) ∧ v = .agg #[.int .i64 x.labels, v1] ∧ RdL o w v1 x.arcs
section
variable {B C B' C' : Nat} {w w' : World} {v : Value} {x : WP}
theorem RdWN.rd (h : RdWN B C w v x) : RdW w v x := by obtain ⟨o, v1, _, _, e, h1⟩ := h.ex; exact ⟨v1, e, h1.z.rowsW⟩
theorem RdWN.keep (h : RdWN B C w v x) (k : Keeps w w') : RdWN B C w' v x := by
  obtain ⟨o, v1, h1, h2, e, h3⟩ := h.ex
  exact ⟨o, v1, h1, h2, e, h3.mv k.size fun b hb ho => ⟨k.block b hb, ho⟩⟩
theorem RdWN.chg (h : RdWN B C w v x) (c : Chg B' C' w w') (hd : C ≤ B' ∨ C' ≤ B) : RdWN B C w' v x := by
  obtain ⟨o, v1, h1, h2, e, h3⟩ := h.ex
  refine ⟨o, v1, h1, h2, e, h3.mv c.size fun b hb ho => ?_⟩
  refine ⟨c.block b hb ?_, ho⟩
  have q1 : ¬ b < B := fun q => h1 b q ho
  have q2 : ¬ C ≤ b := fun q => h2 b q ho
  omega
end
def RetWN (w0 : World) (r : Option WP) (e : Ending) (w' : World) : Prop :=
  ∃ v, e = .returned (.tuple #[v, .bool r.isSome]) ∧ RdWN w0.heap.size w'.heap.size w' v (r.getD zeroW) ∧ szW (r.getD zeroW) ≤ 1000000000 ∧ Keeps w0 w'
theorem rdL_lim {α : Type} [Rp α] {o : Tg} {w : World} {v : Value} {xs : List α} (h : RdL o w v xs) : RdL (fun b => if b < w.heap.size then o b else 1) w v xs :=
  h.mv (Nat.le_refl _) fun b hb ho => ⟨rfl, by simp [hb, ho]⟩
theorem rdWN_of {w0 w : World} {o' : Tg} {v0 : List Value} {p : T_WalkProblem} (h : Rp.rd o' w v0 p) (ho : ∀ b, b < w0.heap.size → o' b = 1) (k : Keeps w0 w) :
    RdWN w0.heap.size w.heap.size w (.agg v0.toArray) (wOf p) := by
  obtain ⟨v1, rfl, h1⟩ := h
  have hk := k.size
  exact ⟨_, v1, fun b hb => by show (if b < w.heap.size then o' b else 1) ≠ 0; rw [if_pos (by omega), ho b hb]; decide, fun b hb => by show (if b < w.heap.size then o' b else 1) ≠ 0; rw [if_neg (by omega)]; decide, rfl, rdL_lim h1⟩
theorem specPathForm_any (v : Value) (x : RP) (w : World) (h : RdR w v x) (_ : okR x) (hs : szR x ≤ 1048576) :
    Calls Try.prog 25 #[v] w (RetWN w (fPathFormSpec x)) := by
  obtain ⟨u, rfl, h2⟩ := h.rdz
  obtain ⟨e1, e2, e3⟩ := pathB_W x hs
  refine (cS_PathForm 4000000 w ot 2 (by decide) u (tR x) h2 _ (e_specPath 4000000 (by omega) (tR x) (szR_lines hs))).mono ?_
  rintro e w' ⟨v0, o', rfl, hr, hk, hb⟩
  exact ⟨_, by rw [e1], by rw [e2]; exact rdWN_of hr hb hk, by rw [e2]; omega, hk⟩
theorem implPathForm_any (v : Value) (x : RP) (w : World) (h : RdR w v x) (_ : okR x) (hs : szR x ≤ 1048576) :
    Calls Try.prog 27 #[v] w (RetW w (fPathFormImpl x)) := by
  obtain ⟨u, rfl, h2⟩ := h.rdz
  obtain ⟨e1, e2, e3⟩ := pathB_W x hs
  refine (cI_PathForm 100 w ot 2 (by decide) u (tR x) h2 _ (e_implPath 100 (by omega) (tR x) (szR_lines hs))).mono ?_
  rintro e w' ⟨v0, o', rfl, hr, hz, hk, hb⟩
  exact ⟨_, by unfold fPathFormImpl; rw [e1], by unfold fPathFormImpl; rw [e2]; exact owW_of hr hz hk hb, by unfold fPathFormImpl; rw [e2]; omega, hk⟩
end Go.Proofs.Ytijaojnaamkinaa
