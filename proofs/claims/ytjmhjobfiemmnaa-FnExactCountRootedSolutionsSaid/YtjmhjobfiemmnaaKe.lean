/- Rules for the operations of drawn regions: an address is told by the slice that it lies in. -/
import Derived.Test.YtjmhjobfiemmnaaKd
namespace Go.Proofs.Ytjmhjobfiemmnaa
open Go.RowKit
set_option linter.unusedSimpArgs false
set_option linter.unusedVariables false

theorem follows_mixed : Try.prog.follows .mixedOrders = true := by kernel_rfl

/-- The address of a cell behind a slice's head. -/
def adr (v : Value) (k : Nat) : Value := match v with
  | .slice (some a) _ _ => .pointer (some ⟨a.block, a.off + k, none⟩)
  | _ => undef
section
variable {P : Program} {n : Nat} {l : List (Nat × Value)} {w w0 : World} {o oo : Tg} {α : Type} [Rp α] {d : Option Nat} {ty : TypeId} {ps : String} {af : Array Edge} {g : Option (Nat × Bool)} {R : Value → World → Prop}

theorem wd_indexR {x y : Operand} {t e : TypeId} {v : Value} {xs : List α} {i : Int} {u : α} {o2 : Tg} {w2 : World} (h : RdL o2 w2 v xs) (hi : ix xs i = some u) (hx : ev l x = some v) (hy : ev l y = some (.int .i64 i))
    (ht : P.underlying t = some (.slice e)) (hs : ∀ w, (sizeOf e).run P w = .ok (Rp.sz α) w) (hR : R (adr v (i.toNat * Rp.sz α)) w) : op1 P ⟨d, .indexAddr t x y, ty, ps, af, g⟩ n l w R := by
  obtain ⟨a, c, rfl⟩ := h.form
  obtain ⟨h0, h1, h2⟩ := ix_some hi
  obtain ⟨b, off, cs, rfl, _⟩ := h.at h2
  exact op1_val (ex_index hx hy h0 (by omega) ht hs) hR
theorem wd_indexW {x y : Operand} {t e e' : TypeId} {B k : Nat} {v : Value} {xs : List α} {i : Int} {u : α} {o2 : Tg} {w2 : World} (h : Ow B e' k o2 w2 v xs) (hi : ix xs i = some u) (hx : ev l x = some v) (hy : ev l y = some (.int .i64 i))
    (ht : P.underlying t = some (.slice e)) (hs : ∀ w, (sizeOf e).run P w = .ok (Rp.sz α) w) (hR : R (adr v (i.toNat * Rp.sz α)) w) : op1 P ⟨d, .indexAddr t x y, ty, ps, af, g⟩ n l w R :=
  wd_indexR h.z hi hx hy ht hs hR
theorem adr_at {v : Value} {xs : List α} {i : Int} {u : α} (h : RdL o w v xs) (hi : ix xs i = some u) : ∃ b off cs, adr v (i.toNat * Rp.sz α) = .pointer (some ⟨b, off, none⟩) ∧ Cells w b off cs ∧ Rp.rd o w cs u := by
  obtain ⟨a, c, rfl⟩ := h.form
  obtain ⟨h0, h1, h2⟩ := ix_some hi
  obtain ⟨b, off, cs, rfl, hc, hr, _⟩ := h.at h2
  exact ⟨b, _, cs, rfl, hc, hr⟩
theorem adr_atW {v : Value} {xs : List α} {i : Int} {u : α} {B k : Nat} {e : TypeId} (h : Ow B e k o w v xs) (hi : ix xs i = some u) : ∃ b off cs, adr v (i.toNat * Rp.sz α) = .pointer (some ⟨b, off, none⟩) ∧ Cells w b off cs ∧ Rp.rd o w cs u := by
  obtain ⟨a, c, rfl⟩ := h.form
  obtain ⟨h0, h1, h2⟩ := ix_some hi
  obtain ⟨b, cs, rfl, _, hc, hr, _⟩ := h.at h2
  exact ⟨b, _, cs, by simp only [adr], hc, hr⟩
/-- A load at such an address: of one cell, of a struct. -/
theorem wd_load1 {x : Operand} {t : TypeId} {v : Value} {xs : List α} {i : Int} {u : α} (h : RdL o w v xs) (hi : ix xs i = some u) (h1 : Rp.sz α = 1) (hx : ev l x = some (adr v (i.toNat * Rp.sz α))) (hag : ∀ w, (isAgg t).run P w = .ok false w)
    (hR : ∀ c, Rp.rd o w [c] u → R c w) : op1 P ⟨d, .load t x, ty, ps, af, g⟩ n l w R := by
  obtain ⟨b, off, cs, e, hc, hr⟩ := adr_at h hi
  have hl : cs.length = 1 := by rw [Rp.len hr, h1]
  obtain ⟨c, rfl⟩ := List.length_eq_one_iff.1 hl
  exact op1_val (ex_load1 (by rw [hx, e]) hag (cell_of_cells hc)) (hR c hr)
theorem wd_load1Z {x : Operand} {t : TypeId} {v : Value} {xs : List α} {i : Int} {u : α} (h : RdL zt w0 v xs) (hi : ix xs i = some u) (hB : Bs oo o w0 w) (h1 : Rp.sz α = 1) (hx : ev l x = some (adr v (i.toNat * Rp.sz α))) (hag : ∀ w, (isAgg t).run P w = .ok false w)
    (hR : ∀ c, Rp.rd zt w0 [c] u → R c w) : op1 P ⟨d, .load t x, ty, ps, af, g⟩ n l w R := by
  obtain ⟨b, off, cs, e, hc, hr⟩ := adr_at h hi
  have hl : cs.length = 1 := by rw [Rp.len hr, h1]
  obtain ⟨c, rfl⟩ := List.length_eq_one_iff.1 hl
  exact op1_val (ex_load1 (by rw [hx, e]) hag (cell_of_cells (hc.keep hB.keeps))) (hR c hr)
theorem wd_load1W {x : Operand} {t e' : TypeId} {B k : Nat} {v : Value} {xs : List α} {i : Int} {u : α} (h : Ow B e' k o w v xs) (hi : ix xs i = some u) (h1 : Rp.sz α = 1) (hx : ev l x = some (adr v (i.toNat * Rp.sz α))) (hag : ∀ w, (isAgg t).run P w = .ok false w)
    (hR : ∀ c, Rp.rd o w [c] u → R c w) : op1 P ⟨d, .load t x, ty, ps, af, g⟩ n l w R := by
  obtain ⟨b, off, cs, e, hc, hr⟩ := adr_atW h hi
  have hl : cs.length = 1 := by rw [Rp.len hr, h1]
  obtain ⟨c, rfl⟩ := List.length_eq_one_iff.1 hl
  exact op1_val (ex_load1 (by rw [hx, e]) hag (cell_of_cells hc)) (hR c hr)
theorem wd_loadA {x : Operand} {t : TypeId} {v : Value} {xs : List α} {i : Int} {u : α} (h : RdL o w v xs) (hi : ix xs i = some u) (hx : ev l x = some (adr v (i.toNat * Rp.sz α))) (hag : ∀ w, (isAgg t).run P w = .ok true w) (hs : ∀ w, (sizeOf t).run P w = .ok (Rp.sz α) w)
    (hR : ∀ cs, Rp.rd o w cs u → R (.agg cs.toArray) w) : op1 P ⟨d, .load t x, ty, ps, af, g⟩ n l w R := by
  obtain ⟨b, off, cs, e, hc, hr⟩ := adr_at h hi
  exact op1_val (ex_loadA (by rw [hx, e]) hag hs (Rp.len hr) hc) (hR cs hr)
theorem wd_loadAZ {x : Operand} {t : TypeId} {v : Value} {xs : List α} {i : Int} {u : α} (h : RdL zt w0 v xs) (hi : ix xs i = some u) (hB : Bs oo o w0 w) (hx : ev l x = some (adr v (i.toNat * Rp.sz α))) (hag : ∀ w, (isAgg t).run P w = .ok true w) (hs : ∀ w, (sizeOf t).run P w = .ok (Rp.sz α) w)
    (hR : ∀ cs, Rp.rd zt w0 cs u → R (.agg cs.toArray) w) : op1 P ⟨d, .load t x, ty, ps, af, g⟩ n l w R := by
  obtain ⟨b, off, cs, e, hc, hr⟩ := adr_at h hi
  exact op1_val (ex_loadA (by rw [hx, e]) hag hs (Rp.len hr) (hc.keep hB.keeps)) (hR cs hr)
end

/-! ### Function values -/
/-- How a tuple of arguments lies in values that may be read. -/
class Ar (A : Type) where
  ok : World → List Value → A → Prop
instance (priority := high) : Ar Int := ⟨fun _ vs x => vs = [.int .i64 x]⟩
instance (priority := high) : Ar Bool := ⟨fun _ vs x => vs = [.bool x]⟩
instance {α : Type} [Rp α] : Ar (List α) := ⟨fun w vs x => ∃ v, vs = [v] ∧ RdL zt w v x⟩
instance {A B : Type} [Ar A] [Ar B] : Ar (A × B) := ⟨fun w vs x => ∃ us bs, vs = us ++ bs ∧ Ar.ok w us x.1 ∧ Ar.ok w bs x.2⟩
/-- How a result lies in a value. -/
class Rs (ρ : Type) where
  val : ρ → Value
instance : Rs Int := ⟨fun n => .int .i64 n⟩
instance : Rs Bool := ⟨fun b => .bool b⟩
/-- A function value that computes F, now and after whatever has been laid since. -/
def FnV {A ρ : Type} [Ar A] [Rs ρ] (P : Program) (w : World) (v : Value) (F : A → Option ρ) : Prop :=
  ∃ (n : Nat) (cap : List Value), v = .func (.func n) #[] cap.toArray ∧ (∀ args w, (callFunc n args).run P w = .ok (.enter n args) w) ∧
    ∀ w' vs x r, Keeps w w' → Ar.ok w' vs x → F x = some r → Calls P n (vs ++ cap).toArray w' (fun e w'' => e = .returned (Rs.val r) ∧ Keeps w' w'')
theorem FnV.keep {A ρ : Type} [Ar A] [Rs ρ] {P : Program} {w w' : World} {v : Value} {F : A → Option ρ} (h : FnV P w v F) (k : Keeps w w') : FnV P w' v F := by
  obtain ⟨n, cap, e, h1, h2⟩ := h
  exact ⟨n, cap, e, h1, fun w2 vs x r k2 => h2 w2 vs x r (Keeps.trans k k2)⟩
section
variable {P : Program} {n : Nat} {l : List (Nat × Value)} {w w0 : World} {o oo : Tg} {d : Option Nat} {ty : TypeId} {ps : String} {af : Array Edge} {g : Option (Nat × Bool)} {R : Value → World → Prop}
/-- A call of a function value. -/
theorem wf_callv {A ρ : Type} [Ar A] [Rs ρ] {f : Operand} {v : Value} {F : A → Option ρ} {xs : List Operand} {vs : List Value} {x : A} {r : ρ} {ats : Array TypeId} (hf : FnV P w v F) (hr : F x = some r) (hok : Ar.ok w vs x) (hv : ev l f = some v) (he : EvL l xs vs)
    (h : ∀ w', Keeps w w' → R (Rs.val r) w') : op1 P ⟨d, .call { callee := .value f, args := xs.toArray, argTypes := ats }, ty, ps, af, g⟩ n l w R := by
  obtain ⟨m, cap, rfl, hcall, hc⟩ := hf
  refine op1_enter (f := m) (args := (vs ++ cap).toArray) (fun ρ hρ => ?_) (hc w vs x r (Keeps.refl w) hok hr) ?_
  · simp only [execOp, resolve, Sem.run_bind, hρ f _ hv, Deferred.ofValue, Sem.run_pure, Result.andThen_ok, invoke, List.map_toArray, EvL.map hρ he]
    simp [hcall]
  · rintro e w' ⟨rfl, k⟩
    exact ⟨_, rfl, h w' k⟩
theorem ex_func {fn : Fn} {caps : List Operand} {vs : List Value} (hv : EvL l caps vs) : ∀ ρ, Agr ρ l → (execOp ρ ⟨d, .makeFunc fn #[] caps.toArray, ty, ps, af, g⟩).run P w = .ok (.value (.func fn #[] vs.toArray)) w := by
  intro ρ hρ
  simp only [execOp, Instr.makeFunc, List.map_toArray, EvL.map hρ hv]
  rfl
end
/-! ### Lists in whole blocks that nobody writes any more -/
section
variable {α : Type} [Rp α] {o o' : Tg} {w w' w0 : World} {v : Value} {xs : List α} {t k : Nat} {e : TypeId}
/-- A list that fills a block of its own, given up: everybody may read it, nobody writes it. -/
def Of (e : TypeId) (o : Tg) (w : World) (v : Value) (xs : List α) : Prop := Ow 0 e 0 o w v xs
theorem Of.nil (e : TypeId) (o : Tg) (w : World) : Of e o w (.slice none 0 0) ([] : List α) := Ow.nil _ _ _ _ _
theorem Of.rd (h : Of e o w v xs) : RdL o w v xs := Ow.freeze h fun b _ hb => by rcases hb with h | h <;> exact h
theorem Of.stp (h : Of e o w v xs) (s : Stp t o w o' w') (ht : t ≠ 0) : Of e o' w' v xs := Ow.stp h s ht (Ne.symm ht)
theorem Of.frz (h : Of e o w v xs) (j : Nat) (hj : 0 ≠ j) : Of e (Go.Proofs.Ytjmhjobfiemmnaa.frz j o) w v xs := Ow.frz_ne h hj
theorem Of.rtg {k' : Nat} (h : Of e o w v xs) (h1 : 0 ≠ k) (h2 : 0 ≠ k') (hk : k ≠ 0) : Of e (Go.Proofs.Ytjmhjobfiemmnaa.rtg k k' o) w v xs := Ow.rtg_ne h h1 h2 hk
theorem Ow.frzF {B : Nat} (h : Ow B e k o w v xs) : Of e (Go.Proofs.Ytjmhjobfiemmnaa.frz k o) w v xs := by
  obtain ⟨css, h1, h2, h3, h4⟩ := h
  exact ⟨css, h1, World.ownsRow.mono h2 (Nat.zero_le _), fun g hg => by unfold Go.Proofs.Ytjmhjobfiemmnaa.frz; rw [if_pos (h3 g hg)], fun i cs x a b => Rp.frz (h4 i cs x a b) k⟩
theorem Of.col {oo : Tg} (h : Of e oo w v xs) : Of e (Go.Proofs.Ytjmhjobfiemmnaa.col oo) w v xs := by
  obtain ⟨css, h1, h2, h3, h4⟩ := h
  exact ⟨css, h1, h2, fun g hg => by unfold Go.Proofs.Ytjmhjobfiemmnaa.col; rw [if_pos (h3 g hg)], fun i cs x a b => Rp.col (h4 i cs x a b)⟩
theorem Of.rt {oo : Tg} (h : Of e o w v xs) (hB : Bs oo o w0 w) (k t : Nat) (hk : 2 ≤ k) : Of e (Go.Proofs.Ytjmhjobfiemmnaa.rt oo o w0.heap.size k t) w v xs := by
  obtain ⟨css, h1, h2, h3, h4⟩ := h
  exact ⟨css, h1, h2, fun g hg => rt_zero hB k t g hk (h3 g hg), fun i cs x a b => Rp.rt (h4 i cs x a b) hB k t hk⟩
/-- It is new if no old block may be read. -/
theorem Of.fresh {n : Nat} (h : Of e o w v xs) (hn : ∀ b, b < n → o b ≠ 0) : Ow n e 0 o w v xs := by
  obtain ⟨css, h1, ⟨h2, h2'⟩, h3, h4⟩ := h
  refine ⟨css, h1, ⟨h2, ?_⟩, h3, h4⟩
  rcases h2' with h | ⟨g, cap, cur, rfl, hb, rest⟩
  · exact .inl h
  · refine .inr ⟨g, cap, cur, rfl, ?_, rest⟩
    have := h3 g rfl
    by_cases hlt : g < n
    · exact absurd this (hn g hlt)
    · omega
end
end Go.Proofs.Ytjmhjobfiemmnaa
