/- Calls, literals, made rows, parts of slices, appends, stores and results, over known slots and tagged memory. -/
import Derived.Test.YtjmhjobfiemmnaaKo
namespace Go.Proofs.Ytjmhjobfiemmnaa
open Go.RowKit
set_option linter.unusedSimpArgs false
set_option linter.unusedVariables false

/-- A tag for all blocks from n on. -/
def ext (o : Tg) (n k : Nat) : Tg := fun b => if b < n then o b else k
theorem ext_new (o : Tg) (n k b : Nat) (h : n ≤ b) : ext o n k b = k := by unfold ext; rw [if_neg (by omega)]
theorem ext_old (o : Tg) (n k b : Nat) (h : b < n) : ext o n k b = o b := by unfold ext; rw [if_pos h]
theorem stp_new (o : Tg) (w : World) (ob : Obj) (k t : Nat) : Stp t o w (ext o w.heap.size k) (w.alloc ob) :=
  ⟨rfl, rfl, rfl, by simp, fun b hb _ => heap_alloc_old w ob hb, fun b hb => ext_old _ _ _ _ hb⟩
theorem stp_grown {o : Tg} {w w' : World} {t : Nat} {r : Option Nat} (h : w.grownBy w' r) (hr : ∀ g, r = some g → o g = t) (k : Nat) : Stp t o w (ext o w.heap.size k) w' :=
  ⟨h.os, h.tape, h.output, h.size, fun b hb hn => h.block b hb (fun e => hn (hr b e.symm)), fun b hb => ext_old _ _ _ _ hb⟩

/-- A zero value that lies in cells. -/
class Rz (α : Type) [Rp α] where
  z : α
  zc : List Value
  rdz : ∀ (o : Tg) (w : World), Rp.rd o w zc z
instance : Rz Int := ⟨0, [.int .i64 0], fun _ _ => rfl⟩
instance : Rz Bool := ⟨false, [.bool false], fun _ _ => rfl⟩
instance {α : Type} [Rp α] : Rz (List α) := ⟨[], [.slice none 0 0], fun o w => ⟨_, rfl, RdL.nil o w⟩⟩

def EvL (l : List (Nat × Value)) : List Operand → List Value → Prop
  | [], [] => True
  | x :: xs, v :: vs => ev l x = some v ∧ EvL l xs vs
  | _, _ => False
theorem EvL.map {l : List (Nat × Value)} {ρ : Operand → Value} (hρ : Agr ρ l) : ∀ {xs : List Operand} {vs : List Value}, EvL l xs vs → xs.map ρ = vs
  | [], [], _ => rfl
  | x :: xs, v :: vs, h => by rw [List.map_cons, hρ x v h.1, EvL.map hρ h.2]
  | [], _ :: _, h => h.elim
  | _ :: _, [], h => h.elim
def EvP (l : List (Nat × Value)) : List (Nat × Operand) → List (Nat × Value) → Prop
  | [], [] => True
  | (i, x) :: xs, (j, v) :: vs => i = j ∧ ev l x = some v ∧ EvP l xs vs
  | _, _ => False
theorem EvP.map {l : List (Nat × Value)} {ρ : Operand → Value} (hρ : Agr ρ l) : ∀ {xs : List (Nat × Operand)} {vs : List (Nat × Value)}, EvP l xs vs → (xs.map fun p => (p.1, ρ p.2)) = vs
  | [], [], _ => rfl
  | (i, x) :: xs, (j, v) :: vs, h => by
    obtain ⟨rfl, h1, h2⟩ := h
    rw [List.map_cons, hρ x v h1, EvP.map hρ h2]
  | [], _ :: _, h => h.elim
  | _ :: _, [], h => h.elim

section
variable {P : Program} {l : List (Nat × Value)} {w w0 : World} {d : Option Nat} {ty : TypeId} {ps : String} {af : Array Edge} {g : Option (Nat × Bool)} {o : Tg} {α : Type} [Rp α]

theorem ex_call {f : FuncId} {xs : List Operand} {vs : List Value} {ats : Array TypeId} (hcall : ∀ args w, (callFunc f args).run P w = .ok (.enter f args) w) (hv : EvL l xs vs) :
    ∀ ρ, Agr ρ l → (execOp ρ ⟨d, .call { callee := .value (.func f), args := xs.toArray, argTypes := ats }, ty, ps, af, g⟩).run P w = .ok (.enter f vs.toArray) w := by
  intro ρ hρ
  have h1 : ρ (.func f) = .func (.func f) #[] #[] := hρ (.func f) _ rfl
  simp only [execOp, resolve, Sem.run_bind, h1, Deferred.ofValue, Sem.run_pure, Result.andThen_ok, invoke, List.map_toArray, EvL.map hρ hv]
  simp [hcall]

/-! ### Parts of a slice -/
theorem cut_rd {a : Option Addr} {n c : Nat} {xs ys : List α} {lo hi : Int} (h : RdL o w (.slice a n c) xs) (hc : cut xs lo hi = some ys) :
    RdL o w (sliced a lo.toNat hi.toNat c (Rp.sz α)) ys ∧ n = xs.length ∧ 0 ≤ lo ∧ lo ≤ hi ∧ hi ≤ c ∧ hi ≤ n := by
  obtain ⟨a', c', e, h1, h2, h4⟩ := h
  cases e
  obtain ⟨g1, g2, g3, rfl⟩ := cut_some hc
  refine ⟨?_, rfl, g1, g2, by omega, g3⟩
  have hlen : ((xs.take hi.toNat).drop lo.toNat).length = hi.toNat - lo.toNat := by simp; omega
  unfold sliced
  refine ⟨_, c - lo.toNat, by rw [hlen], by rw [hlen]; omega, by omega, fun i x hx => ?_⟩
  · have hil : i < hi.toNat - lo.toNat := by rw [← hlen]; exact (List.getElem?_eq_some_iff.1 hx).1
    rw [List.getElem?_drop, List.getElem?_take, if_pos (by omega)] at hx
    obtain ⟨b, off, cs, ha, ho, hl, hcs, hr⟩ := h4 _ x hx
    have hne : ¬ c = lo.toNat := by omega
    rw [if_neg hne, ha]
    have hadd : (⟨b, off, none⟩ : Addr).add (lo.toNat * Rp.sz α) = ⟨b, off + lo.toNat * Rp.sz α, none⟩ := by
      unfold Addr.add
      split
      · rename_i h; rw [h]; rfl
      · rfl
    refine ⟨b, off + lo.toNat * Rp.sz α, cs, by simp [hadd], ho, hl, ?_, hr⟩
    rw [show off + lo.toNat * Rp.sz α + i * Rp.sz α = off + (lo.toNat + i) * Rp.sz α by rw [Nat.add_mul]; omega]
    exact hcs
theorem run_cut {t e : TypeId} {a : Option Addr} {n c sz : Nat} {lo hi : Option Value} {lo' hi' : Int} (ht : P.underlying t = some (.slice e)) (hs : ∀ w, (sizeOf e).run P w = .ok sz w)
    (hlo : lo = some (.int .i64 lo') ∨ (lo = none ∧ lo' = 0)) (hhi : hi = some (.int .i64 hi') ∨ (hi = none ∧ hi' = n)) (h0 : 0 ≤ lo') (h1 : lo' ≤ hi') (h2 : hi' ≤ c) :
    (Instr.sliceAt t (.slice a n c) lo hi none).run P w = .ok (sliced a lo'.toNat hi'.toNat c sz) w := by
  have he : P.elem t = e := by simp [Program.elem, ht]
  have ht' : P.underlying t = some (.slice (P.elem t)) := by rw [he]; exact ht
  rw [run_sliceAt_slice (P := P) (w := w) t _ _ _ _ ht']
  rcases hlo with rfl | ⟨rfl, rfl⟩ <;> rcases hhi with rfl | ⟨rfl, rfl⟩
  · rw [run_slice_lh (P := P) (w := w) t a n c ht' _ _ _ _ h0 h1 h2, he, hs]; rfl
  · rw [run_slice_l (P := P) (w := w) t a n c ht' _ _ h0 h1, he, hs]; simp [Result.andThen]
  · rw [run_slice_h (P := P) (w := w) t a n c ht' _ _ (by omega) h2, he, hs]; simp [Result.andThen]
  · rw [run_slice_all (P := P) (w := w) t a n c ht', he, hs]; simp [Result.andThen]
/-- The operand of a bound. -/
def EvB (l : List (Nat × Value)) (x : Option Operand) (dflt i : Int) : Prop :=
  match x with
  | none => i = dflt
  | some x => ev l x = some (.int .i64 i)
theorem ex_cut {t e : TypeId} {x : Operand} {lo hi : Option Operand} {a : Option Addr} {n c : Nat} {xs ys : List α} {lo' hi' : Int} (hx : ev l x = some (.slice a n c)) (h : RdL o w (.slice a n c) xs)
    (hlo : EvB l lo 0 lo') (hhi : EvB l hi xs.length hi') (hc : cut xs lo' hi' = some ys) (ht : P.underlying t = some (.slice e)) (hs : ∀ w, (sizeOf e).run P w = .ok (Rp.sz α) w) :
    ∃ a' c', (∀ ρ, Agr ρ l → (execOp ρ ⟨d, .slice t x lo hi none, ty, ps, af, g⟩).run P w = .ok (.value (.slice a' ys.length c')) w) ∧ RdL o w (.slice a' ys.length c') ys := by
  obtain ⟨h1, h2, h3, h4, h5, h6⟩ := cut_rd h hc
  obtain ⟨a', c', e1⟩ := h1.form
  refine ⟨a', c', fun ρ hρ => ?_, by rw [← e1]; exact h1⟩
  have := run_cut (P := P) (w := w) (a := a) (n := n) (c := c) (lo := lo.map ρ) (hi := hi.map ρ) (lo' := lo') (hi' := hi') ht hs
    (by cases lo with
        | none => exact .inr ⟨rfl, hlo⟩
        | some y => exact .inl (by simp [hρ y _ hlo]))
    (by cases hi with
        | none => exact .inr ⟨rfl, by rw [h2]; exact hhi⟩
        | some y => exact .inl (by simp [hρ y _ hhi])) h3 h4 h5
  simp only [execOp, hρ x _ hx, Sem.run_bind, this, Result.andThen_ok, Option.map_none, ← e1]
  rfl

/-! ### Literals -/
/-- Consecutive cells that hold a list. -/
def RdC (o : Tg) (w : World) : List Value → List α → Prop
  | cs, [] => cs = []
  | cs, x :: xs => ∃ c r, cs = c ++ r ∧ Rp.rd o w c x ∧ RdC o w r xs
theorem RdC.css {cs : List Value} {xs : List α} (h : RdC o w cs xs) : ∃ css : List (List Value), css.length = xs.length ∧ css.flatten = cs ∧ ∀ (i : Nat) c x, css[i]? = some c → xs[i]? = some x → Rp.rd o w c x := by
  induction xs generalizing cs with
  | nil => exact ⟨[], rfl, by simp [RdC] at h; simp [h], fun i c x h => by simp at h⟩
  | cons x xs ih =>
    obtain ⟨c, r, rfl, h1, h2⟩ := h
    obtain ⟨css, e1, e2, e3⟩ := ih h2
    refine ⟨c :: css, by simp [e1], by simp [e2], fun i c' x' hc hx => ?_⟩
    cases i with
    | zero => simp at hc hx; subst hc; subst hx; exact h1
    | succ i => exact e3 i c' x' (by simpa using hc) (by simpa using hx)
/-- A new row, and its cells. -/
theorem lit_own {B k : Nat} {e : TypeId} {cs : List Value} {xs : List α} (h : RdC o w cs xs) (hB : B ≤ w.heap.size) (hl : xs.length ≤ maxLen) :
    Ow B e k (ext o w.heap.size k) (w.alloc (.cells cs.toArray e)) (.slice (some ⟨w.heap.size, 0, none⟩) xs.length xs.length) xs := by
  obtain ⟨css, e1, e2, e3⟩ := h.css
  have hls := Ow.lens (e := e) (B := B) e1 e3
  have hsz : css.flatten.length = xs.length * Rp.sz α := by
    rw [← e1]
    clear e1 e2 e3
    induction css with
    | nil => simp
    | cons c css ih => rw [List.flatten_cons, List.length_append, ih (fun x hx => hls x (by simp [hx])), hls c (by simp), List.length_cons, Nat.succ_mul]; omega
  have hs : Stp k o w (ext o w.heap.size k) (w.alloc (.cells cs.toArray e)) := stp_new _ _ _ _ _
  refine ⟨css, e1, ?_, fun g hg => ?_, fun i c x hc hx => Rp.mv (e3 i c x hc hx) hs.size fun b hb h0 => ⟨heap_alloc_old w _ hb, by rw [ext_old _ _ _ _ hb]; exact h0⟩⟩
  · have := World.ownsRow_lit (e := e) (size := Rp.sz α) (base := B) w cs.toArray xs.length hB hl (by rw [List.size_toArray, ← e2, hsz])
    rw [e2]; exact this
  · simp [Value.ownBlock] at hg
    subst hg
    exact ext_new _ _ _ _ (Nat.le_refl _)
theorem ex_lit {t e : TypeId} {n sz : Nat} {z : Value} {parts : List (Nat × Operand)} {vs : List (Nat × Value)} {cs : List Value} (ht : P.underlying t = some (.slice e)) (hs : ∀ w, (sizeOf e).run P w = .ok sz w)
    (hz : ∀ w, (zeroValue e).run P w = .ok z w) (hsm : n * sz ≤ 16777216) (hv : EvP l parts vs)
    (hf : Instr.fill (fun i => some (i * sz, sz)) ((Array.range (n * sz)).map ((if n * sz = 0 then #[] else z.cells)[· % (if n * sz = 0 then #[] else z.cells).size]!)) vs = some cs.toArray) :
    ∀ ρ, Agr ρ l → (execOp ρ ⟨d, .buildSlice t n parts.toArray, ty, ps, af, g⟩).run P w = .ok (.value (.slice (some ⟨w.heap.size, 0, none⟩) n n)) (w.alloc (.cells cs.toArray e)) := by
  intro ρ hρ
  have hp : (parts.toArray.map fun (i, x) => (i, ρ x)).toList = vs := by simp [← EvP.map hρ hv]
  have hn : ¬ n * sz > 2 ^ 24 := by omega
  by_cases h0 : n * sz = 0
  · simp only [if_pos h0] at hf
    simp only [execOp, Instr.buildSlice, run_underlying ht, Sem.run_bind, Result.andThen_ok, hs, hn, if_false, if_pos h0, hp, hf, Sem.run_pure, newRow, newObj]
    rfl
  · simp only [if_neg h0] at hf
    simp only [execOp, Instr.buildSlice, run_underlying ht, Sem.run_bind, Result.andThen_ok, hs, hn, if_false, if_neg h0, hz, hp, hf, Sem.run_pure, newRow, newObj]
    rfl

/-! ### Made rows -/
def Inf (P : Program) (e : TypeId) (z : Value) (sz bytes : Nat) : Prop := (P.info? e).map (fun i => (i.zero, i.size, i.bytes)) = some (some z, sz, bytes)
theorem made_cells (cs : List Value) (n : Nat) (hc : 0 < cs.length) : (madeCells cs.toArray (n * cs.length)).toList = (List.replicate n cs).flatten := by
  induction n with
  | zero => simp [madeCells]
  | succ n ih =>
    rw [List.replicate_succ', List.flatten_append, ← ih]
    simp only [madeCells, Array.toList_map, Array.toList_range, List.flatten_cons, List.flatten_nil, List.append_nil]
    rw [Nat.succ_mul, List.range_add, List.map_append, List.map_map]
    congr 1
    apply List.ext_getElem (by simp)
    intro i h1 h2
    simp at h1
    simp [Nat.mod_eq_of_lt h1, h1]
theorem ex_make [Rz α] {B k : Nat} {t e : TypeId} {z : Value} {bytes : Nat} {x y : Operand} {n : Int} {ys : List α} (hx : ev l x = some (.int .i64 n)) (hy : ev l y = some (.int .i64 n)) (hm : mk (Rz.z : α) n = some ys)
    (ht : P.underlying t = some (.slice e)) (hi : Inf P e z (Rp.sz α) bytes) (hz : z.cells = (Rz.zc (α := α)).toArray) (hb : bytes ≤ 1000) (hB : B ≤ w.heap.size) :
    ∃ w' a c, (∀ ρ, Agr ρ l → (execOp ρ ⟨d, .makeSlice t x y, ty, ps, af, g⟩).run P w = .ok (.value (.slice a ys.length c)) w') ∧
      Ow B e k (ext o w.heap.size k) w' (.slice a ys.length c) ys ∧ Stp k o w (ext o w.heap.size k) w' := by
  obtain ⟨h0, h1, rfl⟩ := mk_some hm
  obtain ⟨i0, hi0, hz0, hz1, hz2⟩ := info_parts hi
  have hzl : (Rz.zc (α := α)).length = Rp.sz α := Rp.len (Rz.rdz (α := α) o w)
  have hr := run_make (P := P) w t e i0 z ht hi0 hz0 .i64 .i64 n n h0 (Int.le_refl _) (by
    rw [hz2]
    have := Int.mul_le_mul (show (bytes : Int) ≤ 1000 by omega) (show n ≤ 1000000000 by omega) h0 (by omega)
    omega) (by omega)
  rw [hz1, hz] at hr
  have hcs : (madeCells (Rz.zc (α := α)).toArray (n.toNat * Rp.sz α)) = ((List.replicate n.toNat (Rz.zc (α := α))).flatten).toArray := by
    apply Array.toList_inj.1
    rw [← hzl, made_cells _ _ (by rw [hzl]; exact Rp.pos)]
  rw [hcs] at hr
  have hrc : RdC o w (List.replicate n.toNat (Rz.zc (α := α))).flatten (List.replicate n.toNat (Rz.z : α)) := by
    generalize n.toNat = m
    induction m with
    | zero => simp [RdC]
    | succ m ih => rw [List.replicate_succ, List.flatten_cons, List.replicate_succ]; exact ⟨_, _, rfl, Rz.rdz o w, ih⟩
  have hl : (List.replicate n.toNat (Rz.z : α)).length = n.toNat := by simp
  refine ⟨w.alloc (.cells (List.replicate n.toNat (Rz.zc (α := α))).flatten.toArray e), some ⟨w.heap.size, 0, none⟩, n.toNat, fun ρ hρ => ?_, ?_, stp_new _ _ _ _ _⟩
  · simp only [execOp, hρ x _ hx, hρ y _ hy, Sem.run_bind, hr, Result.andThen_ok, hl]
    rfl
  · have := lit_own (B := B) (k := k) (e := e) hrc hB (by rw [hl]; simp only [maxLen]; omega)
    rw [hl] at this ⊢
    exact this

/-! ### Appends -/
theorem RdL.css {a : Option Addr} {m c : Nat} {zs : List α} (h : RdL o w (.slice a m c) zs) : ∃ css : List (List Value), css.length = zs.length ∧ css.flatten.length = zs.length * Rp.sz α ∧ m = zs.length ∧ (a = none → m = 0) ∧
    (∀ (i : Nat) cs x, css[i]? = some cs → zs[i]? = some x → Rp.rd o w cs x) ∧ (∀ ad, a = some ad → ∀ j u, css.flatten[j]? = some u → w.cell? (ad.add j) = some u) := by
  obtain ⟨a', c', e, h1, h2, h4⟩ := h
  cases e
  have key : ∀ (ys : List α) (k : Nat), (∀ (i : Nat) x, ys[i]? = some x → zs[k + i]? = some x) → ∃ css : List (List Value), css.length = ys.length ∧ css.flatten.length = ys.length * Rp.sz α ∧
      (∀ (i : Nat) cs x, css[i]? = some cs → ys[i]? = some x → Rp.rd o w cs x) ∧ (∀ b off, a = some ⟨b, off, none⟩ → Cells w b (off + k * Rp.sz α) css.flatten) := by
    intro ys
    induction ys with
    | nil => exact fun k _ => ⟨[], rfl, by simp, fun i cs x h => by simp at h, fun b off _ j u hj => by simp at hj⟩
    | cons y ys ih =>
      intro k hk
      obtain ⟨css, e1, e2, e3, e4⟩ := ih (k + 1) (fun i x hx => by rw [show k + 1 + i = k + (i + 1) by omega]; exact hk (i + 1) x (by simpa using hx))
      obtain ⟨b, off, cs, ha, ho, hl, hc, hr⟩ := h4 k y (by have := hk 0 y rfl; simpa using this)
      have hcl : cs.length = Rp.sz α := Rp.len hr
      refine ⟨cs :: css, by simp [e1], by rw [List.flatten_cons, List.length_append, e2, hcl, List.length_cons, Nat.succ_mul]; omega, fun i c x hc' hx => ?_, fun b' off' ha' j u hj => ?_⟩
      · cases i with
        | zero => simp at hc' hx; subst hc'; subst hx; exact hr
        | succ i => exact e3 i c x (by simpa using hc') (by simpa using hx)
      · rw [ha] at ha'; cases ha'
        rw [List.flatten_cons] at hj
        by_cases hjl : j < cs.length
        · rw [List.getElem?_append_left hjl] at hj
          exact hc j u hj
        · rw [List.getElem?_append_right (by omega)] at hj
          have := e4 b off ha (j - cs.length) u hj
          rw [hcl] at this hjl
          rw [show off + k * Rp.sz α + j = off + (k + 1) * Rp.sz α + (j - Rp.sz α) by rw [Nat.succ_mul]; omega]
          exact this
  obtain ⟨css, e1, e2, e3, e4⟩ := key zs 0 (fun i x h => by simpa using h)
  refine ⟨css, e1, e2, rfl, fun e => ?_, e3, fun ad had j u hj => ?_⟩
  · cases zs with
    | nil => rfl
    | cons z zs =>
      obtain ⟨b, off, cs, ha, _⟩ := h4 0 z rfl
      rw [e] at ha; cases ha
  cases zs with
  | nil =>
    have : css = [] := List.eq_nil_of_length_eq_zero (by simpa using e1)
    subst this; simp at hj
  | cons z zs =>
    obtain ⟨b, off, cs, ha, _⟩ := h4 0 z rfl
    rw [ha] at had; cases had
    have := e4 b off ha j u hj
    have hadd : (⟨b, off, none⟩ : Addr).add j = ⟨b, off + j, none⟩ := by
      unfold Addr.add
      split
      · rename_i h; rw [h]; rfl
      · rfl
    rw [hadd]; simpa using this
theorem append_none {t t' ty : TypeId} {v : Value} {m c : Nat} : Builtin.append_ #[t, t'] ty #[v, .slice none m c] = Builtin.append_ #[t, t'] ty #[v, .slice none m 0] := by
  unfold Builtin.append_
  simp [Builtin.lenOf, Builtin.firstCells, Builtin.mayShare, asInt, asIntOf]
theorem ex_append {B k : Nat} {t e : TypeId} {z : Value} {bytes : Nat} {x y : Operand} {v : Value} {a : Option Addr} {m c : Nat} {xs zs ys : List α} (hx : ev l x = some v) (hy : ev l y = some (.slice a m c))
    (hown : Ow B e k o w v xs) {o2 : Tg} (hr : RdL o2 w (.slice a m c) zs) (hel : ∀ cs x, Rp.rd o2 w cs (x : α) → Rp.rd o w cs x) (hc : cat xs zs = some ys) (hk : k ≠ 0)
    (ht : P.underlying t = some (.slice e)) (hi : Inf P e z (Rp.sz α) bytes) (hzs : z.cells.size = Rp.sz α) (hb : bytes ≤ 1000) (hB : B ≤ w.heap.size) :
    ∃ w' a' c', (∀ ρ, Agr ρ l → (execOp ρ ⟨d, .call { callee := .builtin .append, args := #[x, y], argTypes := #[t, t] }, ty, ps, af, g⟩).run P w = .ok (.value (.slice a' ys.length c')) w') ∧
      Ow B e k (ext o w.heap.size k) w' (.slice a' ys.length c') ys ∧ Stp k o w (ext o w.heap.size k) w' := by
  obtain ⟨h0, rfl⟩ := cat_some hc
  obtain ⟨i0, hi0, hz0, hz1, hz2⟩ := info_parts hi
  obtain ⟨css, e1, e2, e3, e4⟩ := hown
  obtain ⟨dss, f1, f2, rfl, f4, f5, f6⟩ := hr.css
  have hone : ∀ u ∈ dss.flatten, u.oneCell' = true := by
    intro u hu
    obtain ⟨cs, hcs, hu'⟩ := List.mem_flatten.1 hu
    obtain ⟨i, hi'⟩ := List.mem_iff_getElem?.1 hcs
    have hlt := (List.getElem?_eq_some_iff.1 hi').1
    exact Rp.one (f5 i cs _ hi' (List.getElem?_eq_getElem (by omega))) u hu'
  obtain ⟨v', w', hrun0, h1, h2, h3, h4⟩ := run_append_g (P := P) w B t ty e i0 z (Rp.sz α) bytes ht hi0 hz0 hz1 hz2 hzs Rp.pos v xs.length css.flatten e2 a zs.length (if a = none then 0 else c) dss.flatten f2 (fun e => ⟨f4 e, if_pos e⟩) f6 hone
    (by
      have := Nat.mul_le_mul h0 hb
      omega) (by simp only [maxLen]; omega) hB
  have hrun : (Builtin.append_ #[t, t] ty #[v, .slice a zs.length c]).run P w = .ok v' w' := by
    cases a with
    | none => rw [append_none]; exact hrun0
    | some ad => exact hrun0
  have hst : Stp k o w (ext o w.heap.size k) w' := stp_grown h2 (fun g hg => e3 g hg) k
  have htag : ∀ g, v'.ownBlock = some g → ext o w.heap.size k g = k := by
    intro g hg
    by_cases hlt : g < w.heap.size
    · rw [ext_old _ _ _ _ hlt]
      rcases h3 with h3 | h3
      · exact e3 g (by rw [← h3]; exact hg)
      · have := (h3.lt g hg).1; omega
    · exact ext_new _ _ _ _ (by omega)
  have hcl := Ow.lens (e := e) (B := B) e1 e4
  have hOw : Ow B e k (ext o w.heap.size k) w' v' (xs ++ zs) := by
    refine ⟨css ++ dss, by simp [e1, f1], by rw [List.flatten_append, List.length_append]; exact h1, htag, fun i cs u hcs hu => ?_⟩
    refine Rp.stp ?_ hst hk
    by_cases hi' : i < css.length
    · rw [List.getElem?_append_left hi'] at hcs
      rw [List.getElem?_append_left (by omega)] at hu
      exact e4 i cs u hcs hu
    · rw [List.getElem?_append_right (by omega)] at hcs
      rw [List.getElem?_append_right (by omega), ← e1] at hu
      exact hel _ _ (f5 _ cs u hcs hu)
  obtain ⟨a', c', e5⟩ := hOw.form
  refine ⟨w', a', c', fun ρ hρ => ?_, by rw [← e5]; exact hOw, hst⟩
  simp only [execOp, resolve, invoke, builtin, Sem.run_bind, Sem.run_pure, Result.andThen_ok, List.map_toArray, List.map_cons, List.map_nil, hρ x _ hx, hρ y _ hy, hrun, e5]
end
end Go.Proofs.Ytjmhjobfiemmnaa
