/- Walking by lists of known slots: a frame is known by a list of slots and values; one law for each kind of operation, over any program. -/
import Derived.Test.YtjmhjobfiemmnaaMem
import Derived.Deep.LoopGhost
namespace Go.Proofs.Ytjmhjobfiemmnaa
open Go.RowKit
set_option linter.unusedSimpArgs false
set_option linter.unusedVariables false

/-- What a list of known slots says of a slot. -/
def Kn : List (Nat × Value) → Nat → Option Value
  | [], _ => none
  | (s, v) :: r, t => if s = t then some v else Kn r t

/-- The frame has n slots and no deferred call, and holds what the list says. -/
structure Fr (a : Act) (n : Nat) (l : List (Nat × Value)) : Prop where
  size : a.tmps.size = n
  defers : a.defers = []
  get : ∀ t v, Kn l t = some v → a.tmps.getD t undef = v

theorem Fr.put {a : Act} {n : Nat} {l : List (Nat × Value)} (h : Fr a n l) {d : Nat} (hd : d < n) (v : Value) : Fr (a.put (some d) v) n ((d, v) :: l) := by
  refine ⟨by simp [Act.put, h.size], by simp [Act.put, h.defers], fun t u ht => ?_⟩
  simp only [Kn] at ht
  simp only [Act.put]
  by_cases e : d = t
  · subst e
    rw [if_pos rfl] at ht
    cases ht
    have : d < a.tmps.size := by rw [h.size]; exact hd
    simp [Array.getD_eq_getD_getElem?, this]
  · rw [if_neg e] at ht
    have := h.get t u ht
    simp only [Array.getD_eq_getD_getElem?] at this ⊢
    rw [Array.getElem?_setIfInBounds_ne e]
    exact this

/-- A list of known slots says no more than another. -/
def Sub : List (Nat × Value) → List (Nat × Value) → Prop
  | [], _ => True
  | (t, v) :: r, l => Kn l t = some v ∧ Sub r l
theorem Sub.kn : ∀ {r l : List (Nat × Value)}, Sub r l → ∀ t v, Kn r t = some v → Kn l t = some v
  | [], _, _, t, v, h => by simp [Kn] at h
  | (s, u) :: r, l, hs, t, v, h => by
    simp only [Kn] at h
    split at h
    · rename_i e; subst e; cases h; exact hs.1
    · exact Sub.kn hs.2 t v h
theorem Fr.sub {a : Act} {n : Nat} {l r : List (Nat × Value)} (h : Fr a n l) (hs : Sub r l) : Fr a n r :=
  ⟨h.size, h.defers, fun t v ht => h.get t v (hs.kn t v ht)⟩

/-- The value of an operand. -/
def ev (l : List (Nat × Value)) : Operand → Option Value
  | .tmp t => Kn l t
  | .const v => some v
  | .global g => some (.pointer (some ⟨g, 0, none⟩))
  | .func f => some (.func (.func f) #[] #[])

def Agr (ρ : Operand → Value) (l : List (Nat × Value)) : Prop := ∀ x v, ev l x = some v → ρ x = v
theorem Fr.agr {a : Act} {n : Nat} {l : List (Nat × Value)} (h : Fr a n l) : Agr a.eval l := by
  intro x v hx
  cases x with
  | tmp t => exact h.get t v hx
  | const u => simp only [ev] at hx; cases hx; rfl
  | global g => simp only [ev] at hx; cases hx; rfl
  | func f => simp only [ev] at hx; cases hx; rfl

/-- The guard of an operation is given. -/
def Gd (ops : Array Oper) (l : List (Nat × Value)) : Option (Nat × Bool) → Prop
  | none => True
  | some (j, want) => ∃ d, ((ops[j]?).bind (·.dst)) = some d ∧ Kn l d = some (.bool want)
theorem gd_wanted {a : Act} {n : Nat} {l : List (Nat × Value)} (h : Fr a n l) {ops : Array Oper} {o : Oper} (hg : Gd ops l o.guard) : Region.wanted o (yielded ops a.tmps) = true := by
  unfold Region.wanted
  cases hh : o.guard with
  | none => rfl
  | some p =>
    obtain ⟨j, want⟩ := p
    rw [hh] at hg
    obtain ⟨d, h1, h2⟩ := hg
    have h3 := h.get d _ h2
    simp only [yielded, h1, Option.bind_some]
    have : a.tmps[d]? = some (.bool want) := by
      simp only [Array.getD_eq_getD_getElem?] at h3
      cases hq : a.tmps[d]? with
      | none => rw [hq] at h3; simp [undef] at h3
      | some u => rw [hq] at h3; simp at h3; rw [h3]
    rw [this]
    simp
/-- The guard of an operation is not given. -/
theorem gd_not {a : Act} {n : Nat} {l : List (Nat × Value)} (h : Fr a n l) {ops : Array Oper} {o : Oper} {j : Nat} {want : Bool} (hg : o.guard = some (j, want))
    {d : Nat} {b : Bool} (h1 : ((ops[j]?).bind (·.dst)) = some d) (h2 : Kn l d = some (.bool b)) (hb : (b == want) = false) : Region.wanted o (yielded ops a.tmps) = false := by
  unfold Region.wanted
  rw [hg]
  have h3 := h.get d _ h2
  simp only [yielded, h1, Option.bind_some]
  have : a.tmps[d]? = some (.bool b) := by
    simp only [Array.getD_eq_getD_getElem?] at h3
    cases hq : a.tmps[d]? with
    | none => rw [hq] at h3; simp [undef] at h3
    | some u => rw [hq] at h3; simp at h3; rw [h3]
  rw [this]
  simpa using hb

def wpF (P : Program) (ops : Array Oper) (Q : Exit → Act → World → Prop) (rest : List Oper) (n : Nat) (l : List (Nat × Value)) (w : World) : Prop := ∀ a, Fr a n l → wpList P ops Q rest a w
def wpC (P : Program) (c : Code) (Q : Exit → Act → World → Prop) (n : Nat) (l : List (Nat × Value)) (w : World) : Prop := ∀ a, Fr a n l → Code.wp P c Q a w

section
variable {P : Program} {Q : Exit → Act → World → Prop} {n : Nat} {l : List (Nat × Value)} {w : World}

/-! ### Code -/
theorem wpC_skip (h : ∀ a, Fr a n l → Q .normal a w) : wpC P .skip Q n l w := fun a ha => wp_skip (h a ha)
theorem wpC_seq {x y : Code} (h : wpC P x (Exit.then (y.wp P Q) Q) n l w) : wpC P (.seq x y) Q n l w := fun a ha => wp_seq (h a ha)
theorem wpC_region {id : Nat} {ops : List Oper} (h : wpF P ops.toArray Q ops n l w) : wpC P (.region id ops.toArray false) Q n l w := fun a ha => wp_region_lit (h a ha)
theorem wpC_cond {c : Operand} {x y : Code} {t : Bool} (hc : ev l c = some (.bool t)) (ht : t = true → wpC P x Q n l w) (hf : t = false → wpC P y Q n l w) : wpC P (.cond c x y) Q n l w :=
  fun a ha => wp_cond_split (ha.agr c _ hc) (fun h => ht h a ha) (fun h => hf h a ha)
theorem wpC_true {c : Operand} {x y : Code} (hc : ev l c = some (.bool true)) (ht : wpC P x Q n l w) : wpC P (.cond c x y) Q n l w := fun a ha => wp_cond_true (ha.agr c _ hc) (ht a ha)
theorem wpC_false {c : Operand} {x y : Code} (hc : ev l c = some (.bool false)) (ht : wpC P y Q n l w) : wpC P (.cond c x y) Q n l w := fun a ha => wp_cond_false (ha.agr c _ hc) (ht a ha)
theorem wpC_block {id : Nat} {c : Code} (h : wpC P c (Exit.inBlock id Q) n l w) : wpC P (.block id c) Q n l w := fun a ha => wp_block (h a ha)
theorem wpC_exit {id : Nat} (h : ∀ a, Fr a n l → Q (.exit id) a w) : wpC P (.exit id) Q n l w := fun a ha => wp_exit (h a ha)
theorem wpC_ret (h : ∀ a, Fr a n l → Q .ret a w) : wpC P .ret Q n l w := fun a ha => wp_ret (h a ha)
theorem wpC_mono {c : Code} {Q' : Exit → Act → World → Prop} (h : wpC P c Q n l w) (hq : ∀ e a w, Q e a w → Q' e a w) : wpC P c Q' n l w := fun a ha => wp_mono (h a ha) hq
theorem wpC_sub {c : Code} {r : List (Nat × Value)} (hs : Sub r l) (h : wpC P c Q n r w) : wpC P c Q n l w := fun a ha => h a (ha.sub hs)
/-- The same, what follows the frame behind any continuation. -/
theorem to_k {K : Act → Prop} {r : List (Nat × Value)} (hs : Sub r l) (h : ∀ a, Fr a n r → K a) : ∀ a, Fr a n l → K a := fun a ha => h a (ha.sub hs)
theorem wpC_loop {c : Code} (I : Nat → Act → World → Prop) (n₀ : Nat) (h₀ : ∀ a, Fr a n l → I n₀ a w)
    (round : ∀ k a w, I k a w → Code.wp P c (Exit.then (fun a' w' => ∃ k', k' < k ∧ I k' a' w') Q) a w) : wpC P (.loop c) Q n l w :=
  fun a ha => wp_loop_ghost I n₀ (h₀ a ha) round

theorem calls_wpC {f : FuncId} {fn : Func} {c : Code} {args : Array Value} {R : Ending → World → Prop} (hf : P.funcs[f]? = some fn) (hb : fn.body = some c) (hs : args.size + (fn.ntmps - args.size) = n)
    (hl : ∀ t v, Kn l t = some v → (args ++ Array.replicate (fn.ntmps - args.size) undef).getD t undef = v) (h : wpC P c (bodyPost P fn R) n l w) : Calls P f args w R :=
  calls_of_wp hf hb (h _ ⟨by simpa using hs, rfl, hl⟩)

/-! ### Operations -/
variable {ops : Array Oper} {rest : List Oper} {o : Oper}
theorem wpF_nil (h : ∀ a, Fr a n l → Q .normal a w) : wpF P ops Q [] n l w := fun a ha => wpList_nil (h a ha)
theorem wpF_end {r : List (Nat × Value)} (hs : Sub r l) (h : ∀ a, Fr a n r → Q .normal a w) : wpF P ops Q [] n l w := fun a ha => wpList_nil (h a (ha.sub hs))
theorem wpF_sub {r : List (Nat × Value)} (hs : Sub r l) (h : wpF P ops Q rest n r w) : wpF P ops Q rest n l w := fun a ha => h a (ha.sub hs)
theorem wpF_op (hg : Gd ops l o.guard) (h : ∀ a, Fr a n l → o.wp P a w (wpList P ops Q rest) Q) : wpF P ops Q (o :: rest) n l w := by
  intro a ha
  refine wpList_step fun K hK => ?_
  rw [if_pos (gd_wanted ha hg)]
  exact Oper.wp_mono hK (h a ha)
/-- An operation that yields a value. -/
theorem st_val {d : Nat} {v : Value} {w' : World} {op : Op} {ty : TypeId} {ps : String} {af : Array Edge} {g : Option (Nat × Bool)}
    (hr : ∀ ρ, Agr ρ l → (execOp ρ ⟨some d, op, ty, ps, af, g⟩).run P w = .ok (.value v) w')
    (hd : d < n) (hg : Gd ops l g) (h : wpF P ops Q rest n ((d, v) :: l) w') : wpF P ops Q (⟨some d, op, ty, ps, af, g⟩ :: rest) n l w := by
  refine wpF_op hg fun a ha => ?_
  unfold Oper.wp
  rw [hr _ ha.agr]
  exact h _ (ha.put hd v)
/-- An operation that acts and yields nothing. -/
theorem st_act {w' : World} {op : Op} {ty : TypeId} {ps : String} {af : Array Edge} {g : Option (Nat × Bool)}
    (hr : ∀ ρ, Agr ρ l → (execOp ρ ⟨none, op, ty, ps, af, g⟩).run P w = .ok .skip w')
    (hg : Gd ops l g) (h : wpF P ops Q rest n l w') : wpF P ops Q (⟨none, op, ty, ps, af, g⟩ :: rest) n l w := by
  refine wpF_op hg fun a ha => ?_
  unfold Oper.wp
  rw [hr _ ha.agr]
  exact h _ ha
/-- A call of a function. -/
theorem st_enter {d : Nat} {f : FuncId} {args : Array Value} {R : Ending → World → Prop} {op : Op} {ty : TypeId} {ps : String} {af : Array Edge} {g : Option (Nat × Bool)}
    (hr : ∀ ρ, Agr ρ l → (execOp ρ ⟨some d, op, ty, ps, af, g⟩).run P w = .ok (.enter f args) w)
    (hd : d < n) (hg : Gd ops l g) (hc : Calls P f args w R) (h : ∀ e w', R e w' → ∃ v, e = .returned v ∧ wpF P ops Q rest n ((d, v) :: l) w') :
    wpF P ops Q (⟨some d, op, ty, ps, af, g⟩ :: rest) n l w := by
  refine wpF_op hg fun a ha => ?_
  unfold Oper.wp
  rw [hr _ ha.agr]
  refine hc.mono fun e w' hR => ?_
  obtain ⟨v, rfl, hv⟩ := h e w' hR
  exact hv _ (ha.put hd v)
/-- An operation whose guard is not given. -/
theorem st_no {d : Nat} {op : Op} {ty : TypeId} {ps : String} {af : Array Edge} {j : Nat} {want : Bool} {s : Nat} {b : Bool}
    (h1 : ((ops[j]?).bind (·.dst)) = some s) (h2 : Kn l s = some (.bool b)) (hb : (b == want) = false)
    (hd : d < n) (h : wpF P ops Q rest n ((d, undef) :: l) w) : wpF P ops Q (⟨some d, op, ty, ps, af, some (j, want)⟩ :: rest) n l w := by
  intro a ha
  refine wpList_step fun K hK => ?_
  rw [if_neg (by rw [gd_not ha rfl h1 h2 hb]; decide)]
  exact hK _ _ (h _ (ha.put hd undef))

/-- The same where the guard itself was not asked. -/
theorem st_no2 {d : Nat} {op : Op} {ty : TypeId} {ps : String} {af : Array Edge} {j : Nat} {want : Bool} {s : Nat}
    (h1 : ((ops[j]?).bind (·.dst)) = some s) (h2 : Kn l s = some undef)
    (hd : d < n) (h : wpF P ops Q rest n ((d, undef) :: l) w) : wpF P ops Q (⟨some d, op, ty, ps, af, some (j, want)⟩ :: rest) n l w := by
  intro a ha
  refine wpList_step fun K hK => ?_
  have hw : Region.wanted (⟨some d, op, ty, ps, af, some (j, want)⟩ : Oper) (yielded ops a.tmps) = false := by
    have h3 := ha.get s _ h2
    simp only [Region.wanted, yielded, h1, Option.bind_some]
    cases hq : a.tmps[s]? with
    | none => rfl
    | some u =>
      simp only [Array.getD_eq_getD_getElem?, hq, Option.getD_some] at h3
      subst h3
      rfl
  rw [if_neg (by rw [hw]; decide)]
  exact hK _ _ (h _ (ha.put hd undef))

/-! ### One operation by itself -/
theorem oper_wp_mono {a : Act} {next next' : Act → World → Prop} {Q' : Exit → Act → World → Prop} (hn : ∀ a w, next a w → next' a w) (hq : ∀ e a w, Q e a w → Q' e a w) (h : o.wp P a w next Q) : o.wp P a w next' Q' := by
  unfold Oper.wp at *
  generalize (execOp a.eval o).run P w = r at *
  cases r with
  | ok x w' =>
    cases x <;> simp only [Oper.upon] at h ⊢ <;>
      first
        | exact hn _ _ h
        | exact Calls.mono h (fun e w'' he => by
            cases e with
            | returned v => exact hn _ _ he
            | panicked c => exact hq _ _ _ he
            | outgrown => obtain ⟨a, w, hh⟩ := he; exact ⟨a, w, hq _ _ _ hh⟩)
        | exact Rows.mono h (fun _ _ he => hn _ _ he)
        | exact h
  | halt x w' => cases x <;> simp only [Oper.upon] at h ⊢ <;> first | exact hq _ _ _ h | exact h
/-- An operation yields a value and comes to a world of which R holds. -/
def op1 (P : Program) (o : Oper) (n : Nat) (l : List (Nat × Value)) (w : World) (R : Value → World → Prop) : Prop :=
  ∀ a, Fr a n l → o.wp P a w (fun a' w' => ∃ v, a' = a.put o.dst v ∧ R v w') (fun _ _ _ => False)
theorem op1_val {R : Value → World → Prop} {v : Value} {w' : World} (hr : ∀ ρ, Agr ρ l → (execOp ρ o).run P w = .ok (.value v) w') (h : R v w') : op1 P o n l w R := by
  intro a ha
  unfold Oper.wp
  rw [hr _ ha.agr]
  exact ⟨v, rfl, h⟩
theorem op1_act {R : Value → World → Prop} {w' : World} (hr : ∀ ρ, Agr ρ l → (execOp ρ o).run P w = .ok .skip w') (h : R undef w') : op1 P o n l w R := by
  intro a ha
  unfold Oper.wp
  rw [hr _ ha.agr]
  exact ⟨undef, rfl, h⟩
theorem op1_enter {R : Value → World → Prop} {f : FuncId} {args : Array Value} {C : Ending → World → Prop} (hr : ∀ ρ, Agr ρ l → (execOp ρ o).run P w = .ok (.enter f args) w)
    (hc : Calls P f args w C) (h : ∀ e w', C e w' → ∃ v, e = .returned v ∧ R v w') : op1 P o n l w R := by
  intro a ha
  unfold Oper.wp
  rw [hr _ ha.agr]
  refine hc.mono fun e w' hR => ?_
  obtain ⟨v, rfl, hv⟩ := h e w' hR
  exact ⟨v, rfl, hv⟩
/-- The next operation of a list. -/
theorem st_op {d : Nat} {op : Op} {ty : TypeId} {ps : String} {af : Array Edge} {g : Option (Nat × Bool)} (hd : d < n) (hg : Gd ops l g)
    (h : op1 P ⟨some d, op, ty, ps, af, g⟩ n l w (fun v w' => wpF P ops Q rest n ((d, v) :: l) w')) : wpF P ops Q (⟨some d, op, ty, ps, af, g⟩ :: rest) n l w :=
  wpF_op hg fun a ha => oper_wp_mono (fun a' w' hh => by obtain ⟨v, rfl, hv⟩ := hh; exact hv _ (ha.put hd v)) (fun _ _ _ hh => hh.elim) (h a ha)
theorem st_op0 {op : Op} {ty : TypeId} {ps : String} {af : Array Edge} {g : Option (Nat × Bool)} (hg : Gd ops l g)
    (h : op1 P ⟨none, op, ty, ps, af, g⟩ n l w (fun _ w' => wpF P ops Q rest n l w')) : wpF P ops Q (⟨none, op, ty, ps, af, g⟩ :: rest) n l w :=
  wpF_op hg fun a ha => oper_wp_mono (fun a' w' hh => by obtain ⟨v, rfl, hv⟩ := hh; exact hv _ ha) (fun _ _ _ hh => hh.elim) (h a ha)

/-! ### What the operations do -/
section
variable {d : Option Nat} {ty : TypeId} {ps : String} {af : Array Edge} {g : Option (Nat × Bool)}
theorem ex_move {x : Operand} {v : Value} (hx : ev l x = some v) : ∀ ρ, Agr ρ l → (execOp ρ ⟨d, .move x, ty, ps, af, g⟩).run P w = .ok (.value v) w := by
  intro ρ hρ; rw [← hρ x v hx]; rfl
theorem ex_assign {x : Operand} {v : Value} (hx : ev l x = some v) : ∀ ρ, Agr ρ l → (execOp ρ ⟨d, .assign x, ty, ps, af, g⟩).run P w = .ok (.value v) w := by
  intro ρ hρ; rw [← hρ x v hx]; rfl
theorem ex_pick_t {c x y : Operand} {v : Value} (hc : ev l c = some (.bool true)) (hx : ev l x = some v) : ∀ ρ, Agr ρ l → (execOp ρ ⟨d, .pick c x y, ty, ps, af, g⟩).run P w = .ok (.value v) w := by
  intro ρ hρ
  simp only [execOp, hρ c _ hc, hρ x _ hx]; rfl
theorem ex_pick_f {c x y : Operand} {v : Value} (hc : ev l c = some (.bool false)) (hy : ev l y = some v) : ∀ ρ, Agr ρ l → (execOp ρ ⟨d, .pick c x y, ty, ps, af, g⟩).run P w = .ok (.value v) w := by
  intro ρ hρ
  simp only [execOp, hρ c _ hc, hρ y _ hy]; rfl
theorem ex_not {t : TypeId} {x : Operand} {b : Bool} (hx : ev l x = some (.bool b)) : ∀ ρ, Agr ρ l → (execOp ρ ⟨d, .unOp .not t x, ty, ps, af, g⟩).run P w = .ok (.value (.bool (!b))) w := by
  intro ρ hρ
  simp only [execOp, hρ x _ hx]; rfl
theorem ex_neg {t : TypeId} {x : Operand} {a : Int} (hx : ev l x = some (.int .i64 a)) (h1 : -9223372036854775808 ≤ -a) (h2 : -a ≤ 9223372036854775807) : ∀ ρ, Agr ρ l → (execOp ρ ⟨d, .unOp .neg t x, ty, ps, af, g⟩).run P w = .ok (.value (.int .i64 (-a))) w := by
  intro ρ hρ
  simp only [execOp, hρ x _ hx]
  have : (Op.unary .neg (.int .i64 a)) = (Pure.pure (.int .i64 (-a)) : Sem Value) := by
    simp only [Op.unary, Op.intArith]
    rw [show (0 : Int) - a = -a by omega, IntWalk.i64_in _ ⟨h1, h2⟩]
  rw [this]; rfl
theorem ex_extract {x : Operand} {vs : Array Value} {i : Nat} {v : Value} (hx : ev l x = some (.tuple vs)) (hv : vs[i]? = some v) : ∀ ρ, Agr ρ l → (execOp ρ ⟨d, .extract x i, ty, ps, af, g⟩).run P w = .ok (.value v) w := by
  intro ρ hρ
  simp only [execOp, hρ x _ hx, Instr.extract, hv]; rfl
end
end
end Go.Proofs.Ytjmhjobfiemmnaa
