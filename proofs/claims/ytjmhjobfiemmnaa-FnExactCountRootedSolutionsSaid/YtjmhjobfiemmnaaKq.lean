/- Laws of operations whose operands are known by what they read as; stores; results; cuts. -/
import Derived.Test.YtjmhjobfiemmnaaKp
namespace Go.Proofs.Ytjmhjobfiemmnaa
open Go.RowKit
set_option linter.unusedSimpArgs false
set_option linter.unusedVariables false

section
variable {P : Program} {Q : Exit → Act → World → Prop} {n : Nat} {l : List (Nat × Value)} {w w0 : World} {d : Option Nat} {ty : TypeId} {ps : String} {af : Array Edge} {g : Option (Nat × Bool)} {o : Tg} {α : Type} [Rp α]

/-- A piece of code under a post of its own. -/
theorem wpC_cut {x y : Code} (M : Act → World → Prop) (h1 : wpC P x (fun e a w => e = .normal ∧ M a w) n l w) (h2 : ∀ a w, M a w → y.wp P Q a w) : wpC P (.seq x y) Q n l w :=
  wpC_seq (wpC_mono h1 fun e a w h => by obtain ⟨rfl, h⟩ := h; exact h2 a w h)
/-- A piece of code at a path. -/
def sub : List Nat → Code → Code
  | [], c => c
  | 0 :: p, .seq a _ => sub p a
  | _ :: p, .seq _ b => sub p b
  | 0 :: p, .cond _ a _ => sub p a
  | _ :: p, .cond _ _ b => sub p b
  | _ :: p, .block _ c => sub p c
  | _ :: p, .loop c => sub p c
  | _ :: p, .scope c => sub p c
  | _, c => c
def bodyOf (fn : Func) : Code := fn.body.getD .skip

theorem ex_lenR {x : Operand} {t e : TypeId} {v : Value} {xs : List α} {o2 : Tg} {w2 : World} (hx : ev l x = some v) (h : RdL o2 w2 v xs) (ht : P.underlying t = some (.slice e)) :
    ∀ ρ, Agr ρ l → (execOp ρ ⟨d, .call { callee := .builtin .len, args := #[x], argTypes := #[t] }, ty, ps, af, g⟩).run P w = .ok (.value (.int .i64 xs.length)) w := by
  obtain ⟨a, c, rfl⟩ := h.form
  exact ex_len hx ht
theorem ex_lenO {x : Operand} {t e e' : TypeId} {B k : Nat} {v : Value} {xs : List α} (hx : ev l x = some v) (h : Ow B e' k o w v xs) (ht : P.underlying t = some (.slice e)) :
    ∀ ρ, Agr ρ l → (execOp ρ ⟨d, .call { callee := .builtin .len, args := #[x], argTypes := #[t] }, ty, ps, af, g⟩).run P w = .ok (.value (.int .i64 xs.length)) w := by
  obtain ⟨a, c, rfl⟩ := h.form
  exact ex_len hx ht
theorem ex_atR {x y : Operand} {t e : TypeId} {v : Value} {xs : List α} {i : Int} {u : α} (hx : ev l x = some v) (hy : ev l y = some (.int .i64 i)) (h : RdL o w v xs) (hi : ix xs i = some u)
    (ht : P.underlying t = some (.slice e)) (hs : ∀ w, (sizeOf e).run P w = .ok (Rp.sz α) w) :
    ∃ b off cs, (∀ w1 ρ, Agr ρ l → (execOp ρ ⟨d, .indexAddr t x y, ty, ps, af, g⟩).run P w1 = .ok (.value (.pointer (some ⟨b, off, none⟩))) w1) ∧ Cells w b off cs ∧ Rp.rd o w cs u := by
  obtain ⟨a, c, rfl⟩ := h.form
  obtain ⟨h0, h1, h2⟩ := ix_some hi
  obtain ⟨b, off, cs, rfl, hc, hr, _⟩ := h.at h2
  exact ⟨b, _, cs, fun w1 => ex_index hx hy h0 (by omega) ht hs, hc, hr⟩
theorem ex_atO {x y : Operand} {t e e' : TypeId} {B k : Nat} {v : Value} {xs : List α} {i : Int} {u : α} (hx : ev l x = some v) (hy : ev l y = some (.int .i64 i)) (h : Ow B e' k o w v xs) (hi : ix xs i = some u)
    (ht : P.underlying t = some (.slice e)) (hs : ∀ w, (sizeOf e).run P w = .ok (Rp.sz α) w) :
    ∃ b off cs, (∀ w1 ρ, Agr ρ l → (execOp ρ ⟨d, .indexAddr t x y, ty, ps, af, g⟩).run P w1 = .ok (.value (.pointer (some ⟨b, off, none⟩))) w1) ∧ Cells w b off cs ∧ Rp.rd o w cs u := by
  obtain ⟨a, c, rfl⟩ := h.form
  obtain ⟨h0, h1, h2⟩ := ix_some hi
  obtain ⟨b, cs, rfl, _, hc, hr, _⟩ := h.at h2
  exact ⟨b, _, cs, fun w1 => ex_index hx hy h0 (by omega) ht hs, hc, hr⟩
/-- The place of an element that is to be written. -/
theorem ex_placeO {x y : Operand} {t e e' : TypeId} {B k : Nat} {v : Value} {xs ys : List α} {i : Int} {u : α} (hx : ev l x = some v) (hy : ev l y = some (.int .i64 i)) (h : Ow B e' k o w v xs) (hi : st xs i u = some ys)
    (ht : P.underlying t = some (.slice e)) (hs : ∀ w, (sizeOf e).run P w = .ok (Rp.sz α) w) :
    ∃ b, v.ownBlock = some b ∧ ∀ w1 ρ, Agr ρ l → (execOp ρ ⟨d, .indexAddr t x y, ty, ps, af, g⟩).run P w1 = .ok (.value (.pointer (some ⟨b, 0 + i.toNat * Rp.sz α, none⟩))) w1 := by
  obtain ⟨a, c, rfl⟩ := h.form
  obtain ⟨h0, h1, _⟩ := st_some hi
  obtain ⟨b, cs, rfl, _, _⟩ := h.at (List.getElem?_eq_getElem (show i.toNat < xs.length by omega))
  exact ⟨b, rfl, fun w1 => ex_index hx hy h0 (by omega) ht hs⟩
theorem ex_cutR {t e : TypeId} {x : Operand} {lo hi : Option Operand} {v : Value} {xs ys : List α} {lo' hi' : Int} (hx : ev l x = some v) (h : RdL o w v xs)
    (hlo : EvB l lo 0 lo') (hhi : EvB l hi xs.length hi') (hc : cut xs lo' hi' = some ys) (ht : P.underlying t = some (.slice e)) (hs : ∀ w, (sizeOf e).run P w = .ok (Rp.sz α) w) :
    ∃ v', (∀ w1 ρ, Agr ρ l → (execOp ρ ⟨d, .slice t x lo hi none, ty, ps, af, g⟩).run P w1 = .ok (.value v') w1) ∧ RdL o w v' ys := by
  obtain ⟨a, c, rfl⟩ := h.form
  obtain ⟨h1, h2, h3, h4, h5, h6⟩ := cut_rd h hc
  refine ⟨_, fun w1 ρ hρ => ?_, h1⟩
  have := run_cut (P := P) (w := w1) (a := a) (n := xs.length) (c := c) (lo := lo.map ρ) (hi := hi.map ρ) (lo' := lo') (hi' := hi') ht hs
    (by cases lo with
        | none => exact .inr ⟨rfl, hlo⟩
        | some y => exact .inl (by simp [hρ y _ hlo]))
    (by cases hi with
        | none => exact .inr ⟨rfl, hhi⟩
        | some y => exact .inl (by simp [hρ y _ hhi])) h3 h4 h5
  simp only [execOp, hρ x _ hx, Sem.run_bind, this, Result.andThen_ok, Option.map_none]
  rfl
theorem ex_cutO {t e e' : TypeId} {B k : Nat} {x : Operand} {lo hi : Option Operand} {v : Value} {xs ys : List α} {lo' hi' : Int} (hx : ev l x = some v) (h : Ow B e' k o w v xs)
    (hlo : EvB l lo 0 lo') (hhi : EvB l hi xs.length hi') (hc : cut xs lo' hi' = some ys) (ht : P.underlying t = some (.slice e)) (hs : ∀ w, (sizeOf e).run P w = .ok (Rp.sz α) w) :
    ∃ v', (∀ w1 ρ, Agr ρ l → (execOp ρ ⟨d, .slice t x lo hi none, ty, ps, af, g⟩).run P w1 = .ok (.value v') w1) ∧ RdL zt w v' ys := ex_cutR hx h.z hlo hhi hc ht hs
theorem ex_appendR {B k : Nat} {t e : TypeId} {z : Value} {bytes : Nat} {x y : Operand} {v u : Value} {xs zs ys : List α} (hx : ev l x = some v) (hy : ev l y = some u)
    (hown : Ow B e k o w v xs) {o2 : Tg} (hr : RdL o2 w u zs) (hel : ∀ cs x, Rp.rd o2 w cs (x : α) → Rp.rd o w cs x) (hc : cat xs zs = some ys) (hk : k ≠ 0)
    (ht : P.underlying t = some (.slice e)) (hi : Inf P e z (Rp.sz α) bytes) (hzs : z.cells.size = Rp.sz α) (hb : bytes ≤ 1000) (hB : B ≤ w.heap.size) :
    ∃ w' v', (∀ ρ, Agr ρ l → (execOp ρ ⟨d, .call { callee := .builtin .append, args := #[x, y], argTypes := #[t, t] }, ty, ps, af, g⟩).run P w = .ok (.value v') w') ∧
      Ow B e k (ext o w.heap.size k) w' v' ys ∧ Stp k o w (ext o w.heap.size k) w' := by
  obtain ⟨a, c, rfl⟩ := hr.form
  obtain ⟨w', a', c', h1, h2, h3⟩ := ex_append (g := g) (ps := ps) (ty := ty) (af := af) (d := d) hx hy hown hr hel hc hk ht hi hzs hb hB
  exact ⟨w', _, h1, h2, h3⟩
omit [Rp α] in
theorem push_cat {xs ys : List α} {x : α} (h : push xs x = some ys) : cat xs [x] = some ys := by
  obtain ⟨h1, rfl⟩ := push_some h
  unfold cat
  rw [if_pos (by simp only [List.length_cons, List.length_nil]; omega)]
/-- A literal that is only read. -/
theorem lit_rd {e : TypeId} {cs : List Value} {xs : List α} (h : RdC o w cs xs) (hl : xs.length ≤ maxLen) :
    RdL (ext o w.heap.size 0) (w.alloc (.cells cs.toArray e)) (.slice (some ⟨w.heap.size, 0, none⟩) xs.length xs.length) xs := by
  refine (lit_own (B := 0) (k := 0) (e := e) h (Nat.zero_le _) hl).freeze fun b _ hb => ?_
  rcases hb with hb | hb <;> exact hb

/-! ### Stores -/
theorem run_store1 {t : TypeId} {ad : Addr} {u : Value} (hs : ∀ w, (sizeOf t).run P w = .ok 1 w) (hu : u.cells = #[u]) (h1 : u.oneCell' = true) (hc : ∃ x, w.cell? ad = some x) (hf : w.frozen? ad = false) :
    (Instr.storeAt t (.pointer (some ad)) u).run P w = .ok () (w.setCell ad u) := by
  obtain ⟨x, hx⟩ := hc
  have hst := run_store P w ad u .plain h1
  have ha : ad.add 0 = ad := by simp [Addr.add]
  simp only [Instr.storeAt, Instr.sureAddr, storeVar, Sem.run_bind, Sem.run_pure, Result.andThen_ok, hs, hu]
  simp [storeCells, ha, hst, hx, hf]
theorem stp_set {o : Tg} {w : World} {b i k : Nat} {u : Value} (hk : o b = k) : Stp k o w o (w.setCell ⟨b, i, none⟩ u) := by
  refine ⟨rfl, rfl, rfl, by simp [World.setCell], fun c hc hn => ?_, fun _ _ => rfl⟩
  have : c ≠ b := fun e => hn (by rw [e]; exact hk)
  simp only [World.setCell]
  rw [Array.getElem?_modify, if_neg (Ne.symm this)]
theorem ex_storeB {B k b i : Nat} {t e : TypeId} {x y : Operand} {u : Value} {cs : List Value} (hx : ev l x = some (.pointer (some ⟨b, i, none⟩))) (hy : ev l y = some u) (hbx : Bx B k o w b e cs) (hi : i < cs.length)
    (hs : ∀ w, (sizeOf t).run P w = .ok 1 w) (hu : u.cells = #[u]) (h1 : u.oneCell' = true) :
    ∃ w', (∀ ρ, Agr ρ l → (execOp ρ ⟨none, .store t x y, ty, ps, af, g⟩).run P w = .ok .skip w') ∧ Bx B k o w' b e (cs.set i u) ∧ Stp k o w o w' := by
  have hc := hbx.cell (List.getElem?_eq_getElem hi)
  have hf : w.frozen? ⟨b, i, none⟩ = false := by simp [World.frozen?, hbx.blk]
  have hr := run_store1 (P := P) hs hu h1 ⟨_, hc⟩ hf
  refine ⟨w.setCell ⟨b, i, none⟩ u, fun ρ hρ => ?_, ⟨?_, hbx.tag, hbx.lo⟩, stp_set hbx.tag⟩
  · simp only [execOp, hρ x _ hx, hρ y _ hy, Sem.run_bind, hr, Result.andThen_ok]
    rfl
  · simp only [World.setCell]
    rw [Array.getElem?_modify, if_pos rfl, hbx.blk]
    simp
theorem ex_storeA {B k b : Nat} {t e : TypeId} {x y : Operand} {cs ds : List Value} (hx : ev l x = some (.pointer (some ⟨b, 0, none⟩))) (hy : ev l y = some (.agg ds.toArray)) (hbx : Bx B k o w b e cs) (hl : ds.length = cs.length)
    (hs : (P.info? t).map (·.size) = some ds.length) (h1 : ∀ u ∈ ds, u.oneCell' = true) :
    ∃ w', (∀ ρ, Agr ρ l → (execOp ρ ⟨none, .store t x y, ty, ps, af, g⟩).run P w = .ok .skip w') ∧ Bx B k o w' b e ds ∧ Stp k o w o w' := by
  have hr := run_storeVar_row (P := P) w b e t cs.toArray ds.toArray hbx.blk (by simpa using hs) (by simp [hl]) (by simpa using h1)
  refine ⟨w.setRow b ds.toArray, fun ρ hρ => ?_, ⟨?_, hbx.tag, hbx.lo⟩, ⟨rfl, rfl, rfl, by simp [World.setRow], fun c hc hn => ?_, fun _ _ => rfl⟩⟩
  · simp only [execOp, hρ x _ hx, hρ y _ hy, Instr.storeAt, Instr.sureAddr, Sem.run_bind, Sem.run_pure, hr, Result.andThen_ok]
  · simp only [World.setRow]
    rw [Array.getElem?_modify, if_pos rfl, hbx.blk]
    rfl
  · have : c ≠ b := fun e => hn (by rw [e]; exact hbx.tag)
    simp only [World.setRow]
    rw [Array.getElem?_modify, if_neg (Ne.symm this)]
theorem flat_set (css : List (List Value)) (hl : ∀ cs ∈ css, cs.length = 1) (i : Nat) (u : Value) : (css.set i [u]).flatten = css.flatten.set i u := by
  induction css generalizing i with
  | nil => simp
  | cons c css ih =>
    have hc := hl c (by simp)
    obtain ⟨z, rfl⟩ := List.length_eq_one_iff.1 hc
    cases i with
    | zero => simp
    | succ i => simp [ih (fun x hx => hl x (by simp [hx]))]
theorem ex_storeO {B k b : Nat} {t e : TypeId} {x y : Operand} {v u : Value} {xs ys : List α} {i : Int} {z : α} (h1s : Rp.sz α = 1) (hx : ev l x = some (.pointer (some ⟨b, 0 + i.toNat * Rp.sz α, none⟩))) (hy : ev l y = some u)
    (hown : Ow B e k o w v xs) (hb : v.ownBlock = some b) (hi : st xs i z = some ys) (hk : k ≠ 0) (hs : ∀ w, (sizeOf t).run P w = .ok 1 w) (hu : u.cells = #[u]) (hz : Rp.rd o w [u] z) :
    ∃ w', (∀ ρ, Agr ρ l → (execOp ρ ⟨none, .store t x y, ty, ps, af, g⟩).run P w = .ok .skip w') ∧ Ow B e k o w' v ys ∧ Stp k o w o w' := by
  obtain ⟨h0, h1, rfl⟩ := st_some hi
  obtain ⟨a, c, rfl⟩ := hown.form
  obtain ⟨b', cs, rfl, _, hcl, hrd, hfz⟩ := hown.at (List.getElem?_eq_getElem (show i.toNat < xs.length by omega))
  simp [Value.ownBlock] at hb
  subst hb
  have hcs : cs.length = 1 := by rw [Rp.len hrd, h1s]
  obtain ⟨q, rfl⟩ := List.length_eq_one_iff.1 hcs
  rw [h1s, Nat.mul_one, Nat.zero_add] at hx hfz hcl
  have hone : u.oneCell' = true := Rp.one hz u (by simp)
  have hr := run_store1 (P := P) hs hu hone ⟨_, cell_of_cells hcl⟩ hfz
  obtain ⟨css, e1, e2, e3, e4⟩ := hown
  have hls := Ow.lens (e := e) (B := B) e1 e4
  rw [h1s] at hls
  obtain ⟨g1, g2⟩ := e2.stored i.toNat u
  have hst : Stp k o w o (w.setCell ⟨b', i.toNat, none⟩ u) := stp_set (e3 _ rfl)
  refine ⟨_, fun ρ hρ => ?_, ⟨css.set i.toNat [u], by simp [e1], ?_, e3, fun j cs' x' hc hx' => ?_⟩, hst⟩
  · simp only [execOp, hρ x _ hx, hρ y _ hy, Sem.run_bind, hr, Result.andThen_ok]
    rfl
  · rw [flat_set _ hls]
    simpa using g1
  · rw [List.getElem?_set] at hc hx'
    refine Rp.stp ?_ hst hk
    by_cases hj : i.toNat = j
    · subst hj
      rw [if_pos rfl, if_pos (by omega)] at hc
      rw [if_pos rfl, if_pos (by omega)] at hx'
      cases hc; cases hx'; exact hz
    · rw [if_neg hj] at hc hx'
      exact e4 j cs' x' hc hx'

/-! ### Results -/
def RsL (P : Program) (l : List (Nat × Value)) (w : World) : List ResultVar → List Value → Prop
  | [], [] => True
  | .tmp t :: r, v :: vs => Kn l t = some v ∧ RsL P l w r vs
  | .cell t T :: r, v :: vs => (∃ ad, Kn l t = some (.pointer (some ad)) ∧ (loadVar T ad).run P w = .ok v w) ∧ RsL P l w r vs
  | _, _ => False
def rsv (tmps : Array Value) : ResultVar → Sem Value
  | .tmp t => Pure.pure (tmps.getD t undef)
  | .cell a t => do loadVar t (← asAddr (tmps.getD a undef))
theorem RsL.run {a : Act} (ha : Fr a n l) : ∀ {rs : List ResultVar} {vs : List Value}, RsL P l w rs vs → (rs.mapM (rsv a.tmps)).run P w = .ok vs w
  | [], [], _ => rfl
  | .tmp t :: r, v :: vs, h => by
    have := RsL.run ha h.2
    rw [List.mapM_cons]
    simp only [Sem.run_bind, rsv, Sem.run_pure, Result.andThen_ok, ha.get t v h.1, this]
  | .cell t T :: r, v :: vs, h => by
    obtain ⟨⟨ad, h1, h2⟩, h3⟩ := h
    have := RsL.run ha h3
    have hp : asAddr (a.tmps.getD t undef) = Pure.pure ad := by rw [ha.get t _ h1]; rfl
    rw [List.mapM_cons]
    simp only [Sem.run_bind, rsv, hp, Sem.run_pure, Result.andThen_ok, h2, this]
  | [], _ :: _, h => h.elim
  | .tmp _ :: _, [], h => h.elim
  | .cell _ _ :: _, [], h => h.elim
def packed : List Value → Value
  | [v] => v
  | vs => .tuple vs.toArray
theorem results_eq (fn : Func) (tmps : Array Value) : results fn tmps = (do let vs ← fn.results.mapM (rsv tmps); Pure.pure (if h : vs.size = 1 then vs[0] else .tuple vs)) := rfl
theorem ret_post {fn : Func} {R : Ending → World → Prop} {rs : List ResultVar} {vs : List Value} (hres : fn.results = rs.toArray) (h : RsL P l w rs vs) (hR : R (.returned (packed vs)) w) : ∀ a, Fr a n l → bodyPost P fn R .ret a w := by
  intro a ha
  refine ⟨ha.defers, packed vs, ?_, hR⟩
  have h1 := RsL.run ha h
  have h2 : (rs.toArray.mapM (rsv a.tmps)).run P w = .ok vs.toArray w := by
    rw [List.mapM_toArray, map_eq_pure_bind, Sem.run_bind, h1]
    rfl
  rw [results_eq, hres]
  simp only [Sem.run_bind, h2, Result.andThen_ok, Sem.run_pure]
  match vs with
  | [] => rfl
  | [v] => rfl
  | v :: u :: vs => simp [packed]
theorem ret_norm {fn : Func} {R : Ending → World → Prop} {rs : List ResultVar} {vs : List Value} (hres : fn.results = rs.toArray) (h : RsL P l w rs vs) (hR : R (.returned (packed vs)) w) : ∀ a, Fr a n l → bodyPost P fn R .normal a w := ret_post (P := P) hres h hR
end
end Go.Proofs.Ytjmhjobfiemmnaa
