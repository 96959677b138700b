/- The laws of operations in the form in which a program prints walks: each takes what follows as its last argument. -/
import Derived.Test.YtjmhjobfiemmnaaKq
namespace Go.Proofs.Ytjmhjobfiemmnaa
open Go.RowKit
set_option linter.unusedSimpArgs false
set_option linter.unusedVariables false

/-! ### Loops over lists and numbers -/
def forI {α σ ρ : Type} (body : Int → α → σ → Option (Lp σ σ ρ)) : List α → Int → σ → Option (σ ⊕ ρ)
  | [], _, s => some (.inl s)
  | x :: xs, i, s => match body i x s with
    | none => none
    | some (.go s') => forI body xs (i + 1) s'
    | some (.out s') => some (.inl s')
    | some (.ret r) => some (.inr r)
def forN {σ ρ : Type} (body : Int → σ → Option (Lp σ σ ρ)) : Nat → Int → σ → Option (σ ⊕ ρ)
  | 0, _, s => some (.inl s)
  | k + 1, i, s => match body i s with
    | none => none
    | some (.go s') => forN body k (i + 1) s'
    | some (.out s') => some (.inl s')
    | some (.ret r) => some (.inr r)
/-- What a round hands on. -/
def Hands {σ ρ : Type} (next : σ → Prop) (res : σ ⊕ ρ) : Lp σ σ ρ → Prop
  | .go s => next s
  | .out s => res = .inl s
  | .ret r => res = .inr r
theorem forI_cons {α σ ρ : Type} {body : Int → α → σ → Option (Lp σ σ ρ)} {xs : List α} {i : Int} {s : σ} {res : σ ⊕ ρ} (h0 : 0 ≤ i) (hlt : i < xs.length) (h : forI body (xs.drop i.toNat) i s = some res) :
    ∃ x q, ix xs i = some x ∧ body i x s = some q ∧ Hands (fun s' => forI body (xs.drop (i + 1).toNat) (i + 1) s' = some res) res q := by
  have hl : i.toNat < xs.length := by omega
  rw [List.drop_eq_getElem_cons hl] at h
  refine ⟨xs[i.toNat], ?_⟩
  simp only [forI] at h
  rw [show (i + 1).toNat = i.toNat + 1 by omega]
  cases hb : body i xs[i.toNat] s with
  | none => rw [hb] at h; cases h
  | some q =>
    rw [hb] at h
    refine ⟨q, by unfold ix; rw [if_pos h0, List.getElem?_eq_getElem hl], rfl, ?_⟩
    cases q with
    | go s' => exact h
    | out s' => cases h; rfl
    | ret r => cases h; rfl
theorem forI_done {α σ ρ : Type} {body : Int → α → σ → Option (Lp σ σ ρ)} {xs : List α} {i : Int} {s : σ} {res : σ ⊕ ρ} (hge : ¬ i < xs.length) (h : forI body (xs.drop i.toNat) i s = some res) : res = .inl s := by
  rw [List.drop_of_length_le (by omega)] at h
  cases h; rfl
theorem forN_cons {σ ρ : Type} {body : Int → σ → Option (Lp σ σ ρ)} {n i : Int} {s : σ} {res : σ ⊕ ρ} (hlt : i < n) (h : forN body (n - i).toNat i s = some res) :
    ∃ q, body i s = some q ∧ Hands (fun s' => forN body (n - (i + 1)).toNat (i + 1) s' = some res) res q := by
  rw [show (n - i).toNat = (n - (i + 1)).toNat + 1 by omega] at h
  simp only [forN] at h
  cases hb : body i s with
  | none => rw [hb] at h; cases h
  | some q =>
    rw [hb] at h
    refine ⟨q, rfl, ?_⟩
    cases q with
    | go s' => exact h
    | out s' => cases h; rfl
    | ret r => cases h; rfl
theorem forN_done {σ ρ : Type} {body : Int → σ → Option (Lp σ σ ρ)} {n i : Int} {s : σ} {res : σ ⊕ ρ} (hge : ¬ i < n) (h : forN body (n - i).toNat i s = some res) : res = .inl s := by
  rw [show (n - i).toNat = 0 by omega] at h
  cases h; rfl
theorem loopF_cons {σ ρ : Type} {step : σ → Option (Lp σ σ ρ)} {k : Nat} {s : σ} {res : σ ⊕ ρ} (h : loopF step k s = some res) :
    ∃ k' q, k = k' + 1 ∧ step s = some q ∧ Hands (fun s' => loopF step k' s' = some res) res q := by
  obtain ⟨k', q, e, h1, h2⟩ := loopF_inv h
  refine ⟨k', q, e, h1, ?_⟩
  rcases h2 with ⟨s', rfl, h⟩ | ⟨t, rfl, h⟩ | ⟨r, rfl, h⟩ <;> exact h

/-! ### What follows -/
/-- The post of a piece of code: what holds behind it, what holds where it returns, what holds where it leaves for a block. -/
def Po (M N : Act → World → Prop) (E : Nat → Act → World → Prop) : Exit → Act → World → Prop
  | .normal, a, w => M a w
  | .ret, a, w => N a w
  | .exit i, a, w => E i a w
  | _, _, _ => False
def noE : Nat → Act → World → Prop := fun _ _ _ => False
section
variable {P : Program} {Q Q' : Exit → Act → World → Prop} {n : Nat} {l : List (Nat × Value)} {w w0 : World} {o oo : Tg} {α : Type}
theorem wpC_cutP {x y : Code} (M N : Act → World → Prop) (h1 : wpC P x (Po M N noE) n l w) (h2 : ∀ a w, M a w → y.wp P Q a w) (h3 : ∀ a w, N a w → Q .ret a w) : wpC P (.seq x y) Q n l w :=
  wpC_seq (wpC_mono h1 fun e a w h => by
    cases e with
    | normal => exact h2 a w h
    | ret => exact h3 a w h
    | exit i => exact h.elim
    | goto i => exact h.elim
    | panic c => exact h.elim
    | outgrown => exact h.elim)
theorem nx {y : Code} (h : wpC P y Q n l w) : ∀ a, Fr a n l → Exit.then (y.wp P Q) Q' .normal a w := h
theorem nt_exit {K : Act → World → Prop} {i : Nat} (h : ∀ a, Fr a n l → Q (.exit i) a w) : ∀ a, Fr a n l → Exit.then K Q (.exit i) a w := h
theorem nt_ret {K : Act → World → Prop} (h : ∀ a, Fr a n l → Q .ret a w) : ∀ a, Fr a n l → Exit.then K Q .ret a w := h
theorem nt_norm {K : Act → World → Prop} (h : ∀ a, Fr a n l → K a w) : ∀ a, Fr a n l → Exit.then K Q .normal a w := h
theorem nb_norm {i : Nat} (h : ∀ a, Fr a n l → Q .normal a w) : ∀ a, Fr a n l → Exit.inBlock i Q .normal a w := h
theorem nb_ret {i : Nat} (h : ∀ a, Fr a n l → Q .ret a w) : ∀ a, Fr a n l → Exit.inBlock i Q .ret a w := h
theorem nb_hit {i : Nat} (h : ∀ a, Fr a n l → Q .normal a w) : ∀ a, Fr a n l → Exit.inBlock i Q (.exit i) a w := fun a ha => by
  show (if i = i then _ else _)
  rw [if_pos rfl]; exact h a ha
theorem nb_miss {i j : Nat} (hij : j ≠ i) (h : ∀ a, Fr a n l → Q (.exit j) a w) : ∀ a, Fr a n l → Exit.inBlock i Q (.exit j) a w := fun a ha => by
  show (if j = i then _ else _)
  rw [if_neg hij]; exact h a ha
theorem np_norm {M N : Act → World → Prop} {E : Nat → Act → World → Prop} (h : ∀ a, Fr a n l → M a w) : ∀ a, Fr a n l → Po M N E .normal a w := h
theorem np_ret {M N : Act → World → Prop} {E : Nat → Act → World → Prop} (h : ∀ a, Fr a n l → N a w) : ∀ a, Fr a n l → Po M N E .ret a w := h

/-! ### Operations -/
variable [Rp α] {ops : Array Oper} {rest : List Oper} {d : Nat} {ty : TypeId} {ps : String} {af : Array Edge} {g : Option (Nat × Bool)} {R : Value → World → Prop}
theorem Cells.keep {b off : Nat} {cs : List Value} (h : Cells w0 b off cs) (k : Keeps w0 w) : Cells w b off cs := fun j v hj => cell_keep k (h j v hj)
theorem wf_atO {x y : Operand} {t e : TypeId} {v : Value} {xs : List α} {i : Int} {u : α} (h : RdL o w v xs) (hi : ix xs i = some u) (hx : ev l x = some v) (hy : ev l y = some (.int .i64 i))
    (ht : P.underlying t = some (.slice e)) (hs : ∀ w, (sizeOf e).run P w = .ok (Rp.sz α) w)
    (h : ∀ b off cs, Cells w b off cs → Rp.rd o w cs u → R (.pointer (some ⟨b, off, none⟩)) w) : op1 P ⟨some d, .indexAddr t x y, ty, ps, af, g⟩ n l w R := by
  obtain ⟨b, off, cs, hr, hc, hrd⟩ := ex_atR (ps := ps) (ty := ty) (af := af) (d := some d) (g := g) hx hy (by assumption) hi ht hs
  exact op1_val (hr w) (h b off cs hc hrd)
theorem wf_atZ {x y : Operand} {t e : TypeId} {v : Value} {xs : List α} {i : Int} {u : α} (h : RdL zt w0 v xs) (hi : ix xs i = some u) (hB : Bs oo o w0 w) (hx : ev l x = some v) (hy : ev l y = some (.int .i64 i))
    (ht : P.underlying t = some (.slice e)) (hs : ∀ w, (sizeOf e).run P w = .ok (Rp.sz α) w)
    (h : ∀ b off cs, Cells w b off cs → Rp.rd zt w0 cs u → R (.pointer (some ⟨b, off, none⟩)) w) : op1 P ⟨some d, .indexAddr t x y, ty, ps, af, g⟩ n l w R := by
  obtain ⟨b, off, cs, hr, hc, hrd⟩ := ex_atR (ps := ps) (ty := ty) (af := af) (d := some d) (g := g) hx hy (by assumption) hi ht hs
  exact op1_val (hr w) (h b off cs (hc.keep hB.keeps) hrd)
theorem wf_atW {x y : Operand} {t e e' : TypeId} {B k : Nat} {v : Value} {xs : List α} {i : Int} {u : α} (h : Ow B e' k o w v xs) (hi : ix xs i = some u) (hx : ev l x = some v) (hy : ev l y = some (.int .i64 i))
    (ht : P.underlying t = some (.slice e)) (hs : ∀ w, (sizeOf e).run P w = .ok (Rp.sz α) w)
    (h : ∀ b off cs, Cells w b off cs → Rp.rd o w cs u → R (.pointer (some ⟨b, off, none⟩)) w) : op1 P ⟨some d, .indexAddr t x y, ty, ps, af, g⟩ n l w R := by
  obtain ⟨b, off, cs, hr, hc, hrd⟩ := ex_atO (ps := ps) (ty := ty) (af := af) (d := some d) (g := g) hx hy (by assumption) hi ht hs
  exact op1_val (hr w) (h b off cs hc hrd)
theorem wf_place {x y : Operand} {t e e' : TypeId} {B k : Nat} {v : Value} {xs ys : List α} {i : Int} {u : α} (h : Ow B e' k o w v xs) (hi : st xs i u = some ys) (hx : ev l x = some v) (hy : ev l y = some (.int .i64 i))
    (ht : P.underlying t = some (.slice e)) (hs : ∀ w, (sizeOf e).run P w = .ok (Rp.sz α) w)
    (h : ∀ b, v.ownBlock = some b → R (.pointer (some ⟨b, 0 + i.toNat * Rp.sz α, none⟩)) w) : op1 P ⟨some d, .indexAddr t x y, ty, ps, af, g⟩ n l w R := by
  obtain ⟨b, hb, hr⟩ := ex_placeO (ps := ps) (ty := ty) (af := af) (d := some d) (g := g) hx hy (by assumption) hi ht hs
  exact op1_val (hr w) (h b hb)
theorem wf_cutO {t e : TypeId} {x : Operand} {lo hi : Option Operand} {v : Value} {xs ys : List α} {lo' hi' : Int} (h : RdL o w v xs) (hc : cut xs lo' hi' = some ys) (hx : ev l x = some v)
    (hlo : EvB l lo 0 lo') (hhi : EvB l hi xs.length hi') (ht : P.underlying t = some (.slice e)) (hs : ∀ w, (sizeOf e).run P w = .ok (Rp.sz α) w)
    (h : ∀ v', RdL o w v' ys → R v' w) : op1 P ⟨some d, .slice t x lo hi none, ty, ps, af, g⟩ n l w R := by
  obtain ⟨v', hr, h'⟩ := ex_cutR (ps := ps) (ty := ty) (af := af) (d := some d) (g := g) hx (by assumption) hlo hhi hc ht hs
  exact op1_val (hr w) (h v' h')
theorem wf_cutZ {t e : TypeId} {x : Operand} {lo hi : Option Operand} {v : Value} {xs ys : List α} {lo' hi' : Int} (h : RdL zt w0 v xs) (hc : cut xs lo' hi' = some ys) (hx : ev l x = some v)
    (hlo : EvB l lo 0 lo') (hhi : EvB l hi xs.length hi') (ht : P.underlying t = some (.slice e)) (hs : ∀ w, (sizeOf e).run P w = .ok (Rp.sz α) w)
    (h : ∀ v', RdL zt w0 v' ys → R v' w) : op1 P ⟨some d, .slice t x lo hi none, ty, ps, af, g⟩ n l w R := by
  obtain ⟨v', hr, h'⟩ := ex_cutR (ps := ps) (ty := ty) (af := af) (d := some d) (g := g) hx (by assumption) hlo hhi hc ht hs
  exact op1_val (hr w) (h v' h')
theorem wf_box {x : Operand} {t : TypeId} {v : Value} {cs : List Value} (B k : Nat) (hB : B ≤ w.heap.size) (hc : v.cells = cs.toArray) (hx : ev l x = some v)
    (h : ∀ o' w' b, Bx B k o' w' b t cs → Stp k o w o' w' → R (.pointer (some ⟨b, 0, none⟩)) w') : op1 P ⟨some d, .box t x, ty, ps, af, g⟩ n l w R :=
  op1_val (ex_box hx) (h (ext o w.heap.size k) _ _ (by rw [hc]; exact ⟨heap_alloc_new w _, ext_new _ _ _ _ (Nat.le_refl _), hB⟩) (stp_new _ _ _ _ _))
theorem wf_alloc {t : TypeId} {z : Value} {cs : List Value} (B k : Nat) (hB : B ≤ w.heap.size) (hz : ∀ w, (zeroValue t).run P w = .ok z w) (hc : z.cells = cs.toArray)
    (h : ∀ o' w' b, Bx B k o' w' b t cs → Stp k o w o' w' → R (.pointer (some ⟨b, 0, none⟩)) w') : op1 P ⟨some d, .alloc t, ty, ps, af, g⟩ n l w R :=
  op1_val (ex_alloc hz) (h (ext o w.heap.size k) _ _ (by rw [hc]; exact ⟨heap_alloc_new w _, ext_new _ _ _ _ (Nat.le_refl _), hB⟩) (stp_new _ _ _ _ _))
/-- A literal that is only read. -/
theorem wf_litR {t e : TypeId} {m sz : Nat} {z : Value} {parts : List (Nat × Operand)} {vs : List (Nat × Value)} {cs : List Value} {xs : List α} (hrd : RdC o w cs xs) (hm : m = xs.length) (hv : EvP l parts vs)
    (ht : P.underlying t = some (.slice e)) (hs : ∀ w, (sizeOf e).run P w = .ok sz w) (hz : ∀ w, (zeroValue e).run P w = .ok z w) (hsm : m * sz ≤ 16777216)
    (hf : Instr.fill (fun i => some (i * sz, sz)) ((Array.range (m * sz)).map ((if m * sz = 0 then #[] else z.cells)[· % (if m * sz = 0 then #[] else z.cells).size]!)) vs = some cs.toArray) (hl : xs.length ≤ 1000000)
    (h : ∀ o' w' v', RdL o' w' v' xs → Stp 999 o w o' w' → Keeps w w' → R v' w') : op1 P ⟨some d, .buildSlice t m parts.toArray, ty, ps, af, g⟩ n l w R := by
  subst hm
  exact op1_val (ex_lit ht hs hz hsm hv hf) (h _ _ _ (lit_rd (e := e) hrd (by simp only [maxLen]; omega)) (stp_new _ _ _ _ _) ((Keeps.refl _).alloc _))
/-- A literal that is one's own. -/
theorem wf_litW {t e : TypeId} {m sz : Nat} {z : Value} {parts : List (Nat × Operand)} {vs : List (Nat × Value)} {cs : List Value} {xs : List α} (B k : Nat) (hB : B ≤ w.heap.size) (hrd : RdC o w cs xs) (hm : m = xs.length) (hv : EvP l parts vs)
    (ht : P.underlying t = some (.slice e)) (hs : ∀ w, (sizeOf e).run P w = .ok sz w) (hz : ∀ w, (zeroValue e).run P w = .ok z w) (hsm : m * sz ≤ 16777216)
    (hf : Instr.fill (fun i => some (i * sz, sz)) ((Array.range (m * sz)).map ((if m * sz = 0 then #[] else z.cells)[· % (if m * sz = 0 then #[] else z.cells).size]!)) vs = some cs.toArray) (hl : xs.length ≤ 1000000)
    (h : ∀ o' w' v', Ow B e k o' w' v' xs → Stp k o w o' w' → R v' w') : op1 P ⟨some d, .buildSlice t m parts.toArray, ty, ps, af, g⟩ n l w R := by
  subst hm
  exact op1_val (ex_lit ht hs hz hsm hv hf) (h _ _ _ (lit_own (e := e) hrd hB (by simp only [maxLen]; omega)) (stp_new _ _ _ _ _))
theorem wf_make [Rz α] {t e : TypeId} {z : Value} {bytes : Nat} {x y : Operand} {m : Int} {ys : List α} (B k : Nat) (hB : B ≤ w.heap.size) (hm : mk (Rz.z : α) m = some ys) (hx : ev l x = some (.int .i64 m)) (hy : ev l y = some (.int .i64 m))
    (ht : P.underlying t = some (.slice e)) (hi : Inf P e z (Rp.sz α) bytes) (hz : z.cells = (Rz.zc (α := α)).toArray) (hb : bytes ≤ 1000)
    (h : ∀ o' w' v', Ow B e k o' w' v' ys → Stp k o w o' w' → R v' w') : op1 P ⟨some d, .makeSlice t x y, ty, ps, af, g⟩ n l w R := by
  obtain ⟨w', a, c, hr, h1, h2⟩ := ex_make (o := o) (ps := ps) (ty := ty) (af := af) (d := some d) (g := g) (B := B) (k := k) hx hy hm ht hi hz hb hB
  exact op1_val hr (h _ _ _ h1 h2)
theorem wf_cat {B k : Nat} {t e : TypeId} {z : Value} {bytes : Nat} {x y : Operand} {v u : Value} {xs zs ys : List α} (hown : Ow B e k o w v xs) (hr : RdL o w u zs) (hc : cat xs zs = some ys) (hk : k ≠ 0) (hB : B ≤ w.heap.size) (hx : ev l x = some v) (hy : ev l y = some u)
    (ht : P.underlying t = some (.slice e)) (hi : Inf P e z (Rp.sz α) bytes) (hzs : z.cells.size = Rp.sz α) (hb : bytes ≤ 1000)
    (h : ∀ o' w' v', Ow B e k o' w' v' ys → Stp k o w o' w' → R v' w') : op1 P ⟨some d, .call { callee := .builtin .append, args := #[x, y], argTypes := #[t, t] }, ty, ps, af, g⟩ n l w R := by
  obtain ⟨w', v', hr, h1, h2⟩ := ex_appendR (ps := ps) (ty := ty) (af := af) (d := some d) (g := g) hx hy hown hr (fun _ _ h => h) hc hk ht hi hzs hb hB
  exact op1_val hr (h _ _ _ h1 h2)
theorem wf_catZ {B k : Nat} {t e : TypeId} {z : Value} {bytes : Nat} {x y : Operand} {v u : Value} {xs zs ys : List α} (hown : Ow B e k o w v xs) (hr : RdL zt w u zs) (hc : cat xs zs = some ys) (hk : k ≠ 0) (hB : B ≤ w.heap.size)
    (hel : ∀ cs x, Rp.rd zt w cs (x : α) → Rp.rd o w cs x) (hx : ev l x = some v) (hy : ev l y = some u)
    (ht : P.underlying t = some (.slice e)) (hi : Inf P e z (Rp.sz α) bytes) (hzs : z.cells.size = Rp.sz α) (hb : bytes ≤ 1000)
    (h : ∀ o' w' v', Ow B e k o' w' v' ys → Stp k o w o' w' → R v' w') : op1 P ⟨some d, .call { callee := .builtin .append, args := #[x, y], argTypes := #[t, t] }, ty, ps, af, g⟩ n l w R := by
  obtain ⟨w', v', hr, h1, h2⟩ := ex_appendR (ps := ps) (ty := ty) (af := af) (d := some d) (g := g) hx hy hown hr hel hc hk ht hi hzs hb hB
  exact op1_val hr (h _ _ _ h1 h2)
theorem wf_storeB {B k b i : Nat} {t e : TypeId} {x y : Operand} {u : Value} {cs : List Value} (hbx : Bx B k o w b e cs) (hx : ev l x = some (.pointer (some ⟨b, i, none⟩))) (hy : ev l y = some u) (hi : i < cs.length)
    (hs : ∀ w, (sizeOf t).run P w = .ok 1 w) (hu : u.cells = #[u]) (h1 : u.oneCell' = true)
    (h : ∀ w', Bx B k o w' b e (cs.set i u) → Stp k o w o w' → R undef w') : op1 P ⟨none, .store t x y, ty, ps, af, g⟩ n l w R := by
  obtain ⟨w', hr, h1, h2⟩ := ex_storeB (P := P) (ps := ps) (ty := ty) (af := af) (g := g) hx hy hbx hi hs hu h1
  exact op1_act hr (h w' h1 h2)
theorem wf_storeA {B k b : Nat} {t e : TypeId} {x y : Operand} {cs ds : List Value} (hbx : Bx B k o w b e cs) (hx : ev l x = some (.pointer (some ⟨b, 0, none⟩))) (hy : ev l y = some (.agg ds.toArray)) (hl : ds.length = cs.length)
    (hs : (P.info? t).map (·.size) = some ds.length) (h1 : ∀ u ∈ ds, u.oneCell' = true)
    (h : ∀ w', Bx B k o w' b e ds → Stp k o w o w' → R undef w') : op1 P ⟨none, .store t x y, ty, ps, af, g⟩ n l w R := by
  obtain ⟨w', hr, h1, h2⟩ := ex_storeA (P := P) (ps := ps) (ty := ty) (af := af) (g := g) hx hy hbx hl hs h1
  exact op1_act hr (h w' h1 h2)
theorem wf_storeW {B k b : Nat} {t e : TypeId} {x y : Operand} {v u : Value} {xs ys : List α} {i : Int} {z : α} (hown : Ow B e k o w v xs) (hb : v.ownBlock = some b) (hi : st xs i z = some ys) (hz : Rp.rd o w [u] z) (hk : k ≠ 0) (h1s : Rp.sz α = 1)
    (hx : ev l x = some (.pointer (some ⟨b, 0 + i.toNat * Rp.sz α, none⟩))) (hy : ev l y = some u) (hs : ∀ w, (sizeOf t).run P w = .ok 1 w) (hu : u.cells = #[u])
    (h : ∀ w', Ow B e k o w' v ys → Stp k o w o w' → R undef w') : op1 P ⟨none, .store t x y, ty, ps, af, g⟩ n l w R := by
  obtain ⟨w', hr, h1, h2⟩ := ex_storeO (P := P) (ps := ps) (ty := ty) (af := af) (g := g) h1s hx hy hown hb hi hk hs hu hz
  exact op1_act hr (h w' h1 h2)
theorem wf_call {f : FuncId} {xs : List Operand} {vs : List Value} {ats : Array TypeId} {C : Ending → World → Prop} (hc : Calls P f vs.toArray w C) (hcall : ∀ args w, (callFunc f args).run P w = .ok (.enter f args) w) (hv : EvL l xs vs)
    (h : ∀ e w', C e w' → ∃ v, e = .returned v ∧ R v w') : op1 P ⟨some d, .call { callee := .value (.func f), args := xs.toArray, argTypes := ats }, ty, ps, af, g⟩ n l w R :=
  op1_enter (ex_call hcall hv) hc h
/-- Tags that end as one's own are given another name. -/
def rtg (k k' : Nat) (o : Tg) : Tg := fun b => if o b = k then k' else if o b = k' then 0 else o b
theorem Ow.rtg {B k : Nat} {e : TypeId} {v : Value} {xs : List α} (h : Ow B e k o w v xs) (k' : Nat) (hk : k ≠ 0) : Ow B e k' (Go.Proofs.Ytjmhjobfiemmnaa.rtg k k' o) w v xs := by
  obtain ⟨css, h1, h2, h3, h4⟩ := h
  refine ⟨css, h1, h2, fun g hg => by unfold Go.Proofs.Ytjmhjobfiemmnaa.rtg; rw [if_pos (h3 g hg)], fun i cs x a b => Rp.mv (h4 i cs x a b) (Nat.le_refl _) fun b _ hb => ⟨rfl, ?_⟩⟩
  unfold Go.Proofs.Ytjmhjobfiemmnaa.rtg
  rw [hb, if_neg (Ne.symm hk)]
  split <;> rfl
theorem Ow.rtg_ne {B j k k' : Nat} {e : TypeId} {v : Value} {xs : List α} (h : Ow B e j o w v xs) (h1 : j ≠ k) (h2 : j ≠ k') (hk : k ≠ 0) : Ow B e j (Go.Proofs.Ytjmhjobfiemmnaa.rtg k k' o) w v xs := by
  obtain ⟨css, g1, g2, g3, g4⟩ := h
  refine ⟨css, g1, g2, fun g hg => by unfold Go.Proofs.Ytjmhjobfiemmnaa.rtg; rw [g3 g hg, if_neg h1, if_neg h2], fun i cs x a b => Rp.mv (g4 i cs x a b) (Nat.le_refl _) fun b _ hb => ⟨rfl, ?_⟩⟩
  unfold Go.Proofs.Ytjmhjobfiemmnaa.rtg
  rw [hb, if_neg (Ne.symm hk)]
  split <;> rfl
theorem RdL.rtg {v : Value} {xs : List α} (h : RdL o w v xs) (k k' : Nat) (hk : k ≠ 0) : RdL (Go.Proofs.Ytjmhjobfiemmnaa.rtg k k' o) w v xs := h.mv (Nat.le_refl _) fun b _ hb => ⟨rfl, by
  unfold Go.Proofs.Ytjmhjobfiemmnaa.rtg
  rw [hb, if_neg (Ne.symm hk)]
  split <;> rfl⟩
theorem Rp.rtg {cs : List Value} {x : α} (h : Rp.rd o w cs x) (k k' : Nat) (hk : k ≠ 0) : Rp.rd (Go.Proofs.Ytjmhjobfiemmnaa.rtg k k' o) w cs x := Rp.mv h (Nat.le_refl _) fun b _ hb => ⟨rfl, by
  unfold Go.Proofs.Ytjmhjobfiemmnaa.rtg
  rw [hb, if_neg (Ne.symm hk)]
  split <;> rfl⟩
omit [Rp α] in
theorem Bx.rtg_ne {B j k k' b : Nat} {e : TypeId} {cs : List Value} (h : Bx B j o w b e cs) (h1 : j ≠ k) (h2 : j ≠ k') : Bx B j (Go.Proofs.Ytjmhjobfiemmnaa.rtg k k' o) w b e cs :=
  ⟨h.blk, by unfold Go.Proofs.Ytjmhjobfiemmnaa.rtg; rw [h.tag, if_neg h1, if_neg h2], h.lo⟩
omit [Rp α] in
theorem Bx.rtg {B j k' b : Nat} {e : TypeId} {cs : List Value} (h : Bx B j o w b e cs) (k' : Nat) : Bx B k' (Go.Proofs.Ytjmhjobfiemmnaa.rtg j k' o) w b e cs :=
  ⟨h.blk, by unfold Go.Proofs.Ytjmhjobfiemmnaa.rtg; rw [if_pos h.tag], h.lo⟩
omit [Rp α] in
theorem Bs.rtg (h : Bs oo o w0 w) (k k' : Nat) (hk : 2 ≤ k) (hk' : 2 ≤ k') : Bs oo (Go.Proofs.Ytjmhjobfiemmnaa.rtg k k' o) w0 w := ⟨h.keeps, fun b hb => by
  have := h.old b hb
  unfold Go.Proofs.Ytjmhjobfiemmnaa.rtg
  rw [← this, if_neg, if_neg]
  · split at this <;> omega
  · split at this <;> omega⟩
theorem wf_atP {x y : Operand} {t e e' : TypeId} {B k : Nat} {v : Value} {xs : List α} {i : Int} {u : α} (h : Ow B e' k o w v xs) (hi : ix xs i = some u) (hx : ev l x = some v) (hy : ev l y = some (.int .i64 i))
    (ht : P.underlying t = some (.slice e)) (hs : ∀ w, (sizeOf e).run P w = .ok (Rp.sz α) w)
    (h : ∀ b cs, v.ownBlock = some b → Cells w b (0 + i.toNat * Rp.sz α) cs → Rp.rd o w cs u → R (.pointer (some ⟨b, 0 + i.toNat * Rp.sz α, none⟩)) w) : op1 P ⟨some d, .indexAddr t x y, ty, ps, af, g⟩ n l w R := by
  rename_i hown
  obtain ⟨a, c, rfl⟩ := Ow.form (by assumption : Ow B e' k o w v xs)
  obtain ⟨h0, h1, h2⟩ := ix_some hi
  obtain ⟨b, cs, rfl, _, hc, hr, _⟩ := Ow.at (by assumption : Ow B e' k o w _ xs) h2
  exact op1_val (ex_index hx hy h0 (by omega) ht hs) (h b cs rfl hc hr)
theorem rd_list {v : Value} {xs : List α} (h : RdL o w v xs) : Rp.rd o w [v] xs := ⟨v, rfl, h⟩
theorem RdL.cells1 {v : Value} {xs : List α} (h : RdL o w v xs) : v.cells = #[v] := by obtain ⟨a, c, rfl⟩ := h.form; rfl
theorem Ow.cells1 {B k : Nat} {e : TypeId} {v : Value} {xs : List α} (h : Ow B e k o w v xs) : v.cells = #[v] := by obtain ⟨a, c, rfl⟩ := h.form; rfl
theorem RdL.one1 {v : Value} {xs : List α} (h : RdL o w v xs) : v.oneCell' = true := by obtain ⟨a, c, rfl⟩ := h.form; rfl
theorem Ow.one1 {B k : Nat} {e : TypeId} {v : Value} {xs : List α} (h : Ow B e k o w v xs) : v.oneCell' = true := by obtain ⟨a, c, rfl⟩ := h.form; rfl
omit [Rp α]
theorem wpList_app {M : Act → World → Prop} : ∀ {xs ys : List Oper} {a : Act} {w : World}, wpList P ops (Po M (fun _ _ => False) noE) xs a w → (∀ a w, M a w → wpList P ops Q ys a w) → wpList P ops Q (xs ++ ys) a w
  | [], ys, a, w, h, k => k a w h
  | o :: xs, ys, a, w, h, k => by
    unfold wpList at h
    show wpList P ops Q (o :: (xs ++ ys)) a w
    unfold wpList
    split
    · rename_i hw
      rw [if_pos hw] at h
      rcases h with h | ⟨_, h⟩
      · refine .inl ?_
        unfold Oper.wp at *
        generalize (execOp a.eval o).run P w = r at *
        cases r with
        | ok x w' =>
          cases x <;> simp only [Oper.upon] at h ⊢ <;>
            first
              | exact wpList_app h k
              | exact Calls.mono h (fun e w'' he => by
                  cases e with
                  | returned v => exact wpList_app he k
                  | panicked c => exact (he : False).elim
                  | outgrown => obtain ⟨_, _, hh⟩ := he; exact (hh : False).elim)
              | exact Rows.mono h (fun _ _ he => wpList_app he k)
              | exact h
        | halt x w' => cases x <;> simp only [Oper.upon] at h ⊢ <;> first | exact (h : False).elim | exact h
      · obtain ⟨_, _, h⟩ := h; exact (h : False).elim
    · rename_i hw
      rw [if_neg hw] at h
      exact wpList_app h k
/-- A cut behind the first m operations. -/
theorem wpF_cutAt (m : Nat) (M : Act → World → Prop) {xs : List Oper} (h1 : wpF P ops (Po M (fun _ _ => False) noE) (xs.take m) n l w) (h2 : ∀ a w, M a w → wpList P ops Q (xs.drop m) a w) : wpF P ops Q xs n l w := fun a ha => by
  have := wpList_app (h1 a ha) h2
  rwa [List.take_append_drop] at this
theorem wl_of {xs : List Oper} {a : Act} (ha : Fr a n l) (h : wpF P ops Q xs n l w) : wpList P ops Q xs a w := h a ha
theorem wp_of {c : Code} {a : Act} (ha : Fr a n l) (h : wpC P c Q n l w) : c.wp P Q a w := h a ha
theorem ap_k {K : Act → World → Prop} {a : Act} (ha : Fr a n l) (h : ∀ a, Fr a n l → K a w) : K a w := h a ha
theorem wpC_cutN {x : Code} (M N : Act → World → Prop) (h1 : wpC P x (Po M N noE) n l w) (h2 : ∀ a w, M a w → Q .normal a w) (h3 : ∀ a w, N a w → Q .ret a w) : wpC P x Q n l w :=
  wpC_mono h1 fun e a w h => by
    cases e with
    | normal => exact h2 a w h
    | ret => exact h3 a w h
    | exit i => exact h.elim
    | goto i => exact h.elim
    | panic c => exact h.elim
    | outgrown => exact h.elim
def enumA : Nat → List Value → List (Nat × Value)
  | _, [] => []
  | i, v :: vs => (i, v) :: enumA (i + 1) vs
theorem enumA_get : ∀ {vs : List Value} {i t : Nat} {v : Value}, Kn (enumA i vs) t = some v → i ≤ t ∧ vs[t - i]? = some v
  | [], i, t, v, h => by simp [enumA, Kn] at h
  | u :: vs, i, t, v, h => by
    simp only [enumA, Kn] at h
    split at h
    · rename_i e; subst e; cases h; exact ⟨Nat.le_refl _, by simp⟩
    · rename_i e
      obtain ⟨h1, h2⟩ := enumA_get h
      refine ⟨by omega, ?_⟩
      rw [show t - i = (t - (i + 1)) + 1 by omega, List.getElem?_cons_succ]; exact h2
theorem calls_start {f : FuncId} {fn : Func} {c : Code} {vs : List Value} {R : Ending → World → Prop} (hf : P.funcs[f]? = some fn) (hb : fn.body = some c) (hs : vs.length + (fn.ntmps - vs.length) = n)
    (h : wpC P c (bodyPost P fn R) n (enumA 0 vs) w) : Calls P f vs.toArray w R := by
  refine calls_wpC hf hb (by simpa using hs) (fun t v ht => ?_) h
  obtain ⟨_, h2⟩ := enumA_get ht
  rw [Nat.sub_zero] at h2
  have hlt := (List.getElem?_eq_some_iff.1 h2).1
  simp only [Array.getD_eq_getD_getElem?]
  rw [Array.getElem?_append_left (by simpa using hlt)]
  simp [h2]
theorem run_load1 {t : TypeId} {ad : Addr} {u : Value} (hag : ∀ w, (isAgg t).run P w = .ok false w) (hc : w.cell? ad = some u) : (loadVar t ad).run P w = .ok u w := by
  have : (load ad).run P w = .ok u w := by simp [load, Sem.run, hc]
  simp only [loadVar, Sem.run_bind, hag, Result.andThen_ok, Bool.false_eq_true, if_false, this]
theorem run_loadA {t : TypeId} {b k : Nat} {cs : List Value} (hag : ∀ w, (isAgg t).run P w = .ok true w) (hs : ∀ w, (sizeOf t).run P w = .ok k w) (hk : cs.length = k) (hc : Cells w b 0 cs) : (loadVar t ⟨b, 0, none⟩).run P w = .ok (.agg cs.toArray) w := by
  subst hk
  have := run_loadCellsFrom (P := P) (w := w) (b := b) (off := 0) cs 0 #[] (by simpa using hc)
  have h2 : (loadCells ⟨b, 0, none⟩ cs.length).run P w = .ok cs.toArray w := by simpa [loadCells] using this
  simp only [loadVar, Sem.run_bind, hag, Result.andThen_ok, if_true, hs, h2, Sem.run_pure]
theorem ex_build {d : Option Nat} {t : TypeId} {parts : List (Nat × Operand)} {vs : List (Nat × Value)} {cs : List Value} (hv : EvP l parts vs) (hb : P.built t vs = some cs.toArray) :
    ∀ ρ, Agr ρ l → (execOp ρ ⟨d, .build t parts.toArray, ty, ps, af, g⟩).run P w = .ok (.value (.agg cs.toArray)) w := by
  intro ρ hρ
  have hp : (parts.toArray.map fun (i, x) => (i, ρ x)).toList = vs := by simp [← EvP.map hρ hv]
  have := run_build (P := P) w t (parts.toArray.map fun (i, x) => (i, ρ x)) cs.toArray (by rw [hp]; exact hb)
  simp only [execOp, Sem.run_bind, this, Result.andThen_ok]
  rfl
theorem fill0 {z : Value} : Instr.fill (fun i => some (i * 1, 1)) ((Array.range (0 * 1)).map ((if 0 * 1 = 0 then #[] else z.cells)[· % (if 0 * 1 = 0 then #[] else z.cells).size]!)) [] = some ([] : List Value).toArray := by
  simp [Instr.fill]
theorem fill4 {z v u x y : Value} (hv : v.cells = #[v]) (hu : u.cells = #[u]) (hx : x.cells = #[x]) (hy : y.cells = #[y]) : Instr.fill (fun i => some (i * 1, 1)) ((Array.range (4 * 1)).map ((if 4 * 1 = 0 then #[] else z.cells)[· % (if 4 * 1 = 0 then #[] else z.cells).size]!)) [(0, v), (1, u), (2, x), (3, y)] = some [v, u, x, y].toArray := by
  simp [Instr.fill, hv, hu, hx, hy]
  refine Array.ext (by simp) fun i h1 h2 => ?_
  have : i = 0 ∨ i = 1 ∨ i = 2 ∨ i = 3 := by simp at h2; omega
  rcases this with rfl | rfl | rfl | rfl <;> simp
theorem fill1 {z v : Value} (hv : v.cells = #[v]) : Instr.fill (fun i => some (i * 1, 1)) ((Array.range (1 * 1)).map ((if 1 * 1 = 0 then #[] else z.cells)[· % (if 1 * 1 = 0 then #[] else z.cells).size]!)) [(0, v)] = some [v].toArray := by
  simp [Instr.fill, hv]
  refine Array.ext (by simp) fun i h1 h2 => ?_
  have : i = 0 := by simp at h2; omega
  subst this; simp
theorem fill2 {z v u : Value} (hv : v.cells = #[v]) (hu : u.cells = #[u]) : Instr.fill (fun i => some (i * 1, 1)) ((Array.range (2 * 1)).map ((if 2 * 1 = 0 then #[] else z.cells)[· % (if 2 * 1 = 0 then #[] else z.cells).size]!)) [(0, v), (1, u)] = some [v, u].toArray := by
  simp [Instr.fill, hv, hu]
  refine Array.ext (by simp) fun i h1 h2 => ?_
  have : i = 0 ∨ i = 1 := by simp at h2; omega
  rcases this with rfl | rfl <;> simp
theorem fill3 {z v u x : Value} (hv : v.cells = #[v]) (hu : u.cells = #[u]) (hx : x.cells = #[x]) : Instr.fill (fun i => some (i * 1, 1)) ((Array.range (3 * 1)).map ((if 3 * 1 = 0 then #[] else z.cells)[· % (if 3 * 1 = 0 then #[] else z.cells).size]!)) [(0, v), (1, u), (2, x)] = some [v, u, x].toArray := by
  simp [Instr.fill, hv, hu, hx]
  refine Array.ext (by simp) fun i h1 h2 => ?_
  have : i = 0 ∨ i = 1 ∨ i = 2 := by simp at h2; omega
  rcases this with rfl | rfl | rfl <;> simp
theorem ex_min {d : Option Nat} {t : TypeId} {x y : Operand} {a b : Int} (hx : ev l x = some (.int .i64 a)) (hy : ev l y = some (.int .i64 b)) :
    ∀ ρ, Agr ρ l → (execOp ρ ⟨d, .call { callee := .builtin .min, args := #[x, y], argTypes := #[t, t] }, ty, ps, af, g⟩).run P w = .ok (.value (.int .i64 (min a b))) w := by
  intro ρ hρ
  have hm : (if b < a then b else a) = min a b := by rw [Int.min_def]; split <;> split <;> omega
  have hr : (Builtin.min_ #[t, t] ty #[.int .i64 a, .int .i64 b]).run P w = .ok (.int .i64 (min a b)) w := by
    rw [← hm]; simp [Builtin.min_, Builtin.min2]
  simp only [execOp, resolve, invoke, builtin, Sem.run_bind, Sem.run_pure, Result.andThen_ok, List.map_toArray, List.map_cons, List.map_nil, hρ x _ hx, hρ y _ hy, hr]
theorem ex_max {d : Option Nat} {t : TypeId} {x y : Operand} {a b : Int} (hx : ev l x = some (.int .i64 a)) (hy : ev l y = some (.int .i64 b)) :
    ∀ ρ, Agr ρ l → (execOp ρ ⟨d, .call { callee := .builtin .max, args := #[x, y], argTypes := #[t, t] }, ty, ps, af, g⟩).run P w = .ok (.value (.int .i64 (max a b))) w := by
  intro ρ hρ
  have hm : (if b > a then b else a) = max a b := by rw [Int.max_def]; split <;> split <;> omega
  have hr : (Builtin.max_ #[t, t] ty #[.int .i64 a, .int .i64 b]).run P w = .ok (.int .i64 (max a b)) w := by
    rw [← hm]; simp [Builtin.max_, Builtin.max2]
  simp only [execOp, resolve, invoke, builtin, Sem.run_bind, Sem.run_pure, Result.andThen_ok, List.map_toArray, List.map_cons, List.map_nil, hρ x _ hx, hρ y _ hy, hr]
theorem run_beq {t : TypeId} {a b : Bool} (ht : P.underlying t = some .bool) : (Op.equal t (.bool a) (.bool b)).run P w = .ok (a == b) w := by
  have key : ∀ m, (Op.equalIn (m + 1) t (.bool a) (.bool b)).run P w = .ok (a == b) w := fun m => by
    unfold Op.equalIn
    simp only [Sem.run_bind, run_underlying ht, Result.andThen_ok, Sem.run_pure]
  exact key 9999
theorem ex_beql {d : Option Nat} {t t' : TypeId} {x y : Operand} {a b : Bool} (hx : ev l x = some (.bool a)) (hy : ev l y = some (.bool b)) (ht : P.underlying t = some .bool) :
    ∀ ρ, Agr ρ l → (execOp ρ ⟨d, .binOp .eql t x y t', ty, ps, af, g⟩).run P w = .ok (.value (.bool (a == b))) w := by
  intro ρ hρ
  have hg : (eqGuard .eql t x y (.bool a) (.bool b)).run P w = .ok () w := rfl
  simp only [execOp, hρ x _ hx, hρ y _ hy, Sem.run_bind, hg, Result.andThen_ok, binOp, run_beq ht]
  rfl
theorem ex_bneq {d : Option Nat} {t t' : TypeId} {x y : Operand} {a b : Bool} (hx : ev l x = some (.bool a)) (hy : ev l y = some (.bool b)) (ht : P.underlying t = some .bool) :
    ∀ ρ, Agr ρ l → (execOp ρ ⟨d, .binOp .neq t x y t', ty, ps, af, g⟩).run P w = .ok (.value (.bool (a != b))) w := by
  intro ρ hρ
  have hg : (eqGuard .neq t x y (.bool a) (.bool b)).run P w = .ok () w := rfl
  simp only [execOp, hρ x _ hx, hρ y _ hy, Sem.run_bind, hg, Result.andThen_ok, binOp, run_beq ht]
  rfl
end
end Go.Proofs.Ytjmhjobfiemmnaa
