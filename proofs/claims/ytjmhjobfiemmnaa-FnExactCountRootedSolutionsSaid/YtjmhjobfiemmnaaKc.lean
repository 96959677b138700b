/- Conversions between int and uint; slices.Clone. -/
import Derived.Test.YtjmhjobfiemmnaaKg
namespace Go.Proofs.Ytjmhjobfiemmnaa
open Go.RowKit
set_option linter.unusedSimpArgs false
set_option linter.unusedVariables false

/-- A number below zero is not turned here. -/
def cvU (a : Int) : Option Int := if 0 ≤ a ∧ a ≤ 9223372036854775807 then some a else none
theorem cvU_some {a b : Int} (h : cvU a = some b) : b = a ∧ 0 ≤ a ∧ a ≤ 9223372036854775807 := by
  unfold cvU at h
  split at h
  · rename_i hh; cases h; exact ⟨rfl, hh⟩
  · cases h
section
variable {P : Program} {l : List (Nat × Value)} {w : World} {d : Option Nat} {ty src dst : TypeId} {ps : String} {af : Array Edge} {g : Option (Nat × Bool)} {x y : Operand} {a b c : Int}
theorem ex_convU (h : cvU a = some b) (hx : ev l x = some (.int .i64 a)) (hs : P.underlying src = some (.int .i64)) (hd : P.underlying dst = some (.int .u64)) :
    ∀ ρ, Agr ρ l → (execOp ρ ⟨d, .convert src dst x, ty, ps, af, g⟩).run P w = .ok (.value (.int .u64 b)) w := by
  obtain ⟨rfl, h1, h2⟩ := cvU_some h
  intro ρ hρ
  have e : IntKind.u64.wrap b = b := by simp [IntKind.wrap, IntKind.bits, IntKind.signed]; omega
  simp only [execOp, hρ x _ hx, convert, Sem.run_bind, run_underlying hs, run_underlying hd, Result.andThen_ok, Conv.intToInt, Sem.run_pure, e]
theorem ex_convI (h : cvU a = some b) (hx : ev l x = some (.int .u64 a)) (hs : P.underlying src = some (.int .u64)) (hd : P.underlying dst = some (.int .i64)) :
    ∀ ρ, Agr ρ l → (execOp ρ ⟨d, .convert src dst x, ty, ps, af, g⟩).run P w = .ok (.value (.int .i64 b)) w := by
  obtain ⟨rfl, h1, h2⟩ := cvU_some h
  intro ρ hρ
  have e : IntKind.i64.wrap b = b := by rw [IntKind.wrap_i64]; omega
  simp only [execOp, hρ x _ hx, convert, Sem.run_bind, run_underlying hs, run_underlying hd, Result.andThen_ok, Conv.intToInt, Sem.run_pure, e]
theorem ex_shrU {t t' : TypeId} (hx : ev l x = some (.int .u64 a)) (hy : ev l y = some (.int .u64 b)) (h : shr a b = some c) :
    ∀ ρ, Agr ρ l → (execOp ρ ⟨d, .binOp .shr t x y t', ty, ps, af, g⟩).run P w = .ok (.value (.int .u64 c)) w := by
  unfold shr at h
  split at h
  · cases h
  · rename_i h0
    cases h
    intro ρ hρ
    have hg : (eqGuard .shr t x y (.int .u64 a) (.int .u64 b)).run P w = .ok () w := rfl
    have hv : (binOp .shr t (.int .u64 a) (.int .u64 b)).run P w = .ok (.int .u64 (a.fdiv (2 ^ (min b.toNat 64)))) w := by
      simp only [binOp, Op.shift, if_neg h0]; rfl
    simp only [execOp, hρ x _ hx, hρ y _ hy, Sem.run_bind, hg, Result.andThen_ok, hv]
    rfl
end
/-! ### A slice against nil -/
def isnil : Value → Bool
  | .slice none _ _ => true
  | _ => false
theorem isnil_nil {α : Type} [Rp α] {w : World} {v : Value} {xs : List α} (h : RdL zt w v xs) (hn : isnil v = true) : xs = [] := by
  obtain ⟨a, c, rfl, _, _, h4⟩ := h
  cases a with
  | some a => simp [isnil] at hn
  | none =>
    cases xs with
    | nil => rfl
    | cons x xs =>
      obtain ⟨b, off, cs, e, _⟩ := h4 0 x rfl
      cases e
section
variable {P : Program} {l : List (Nat × Value)} {w : World} {d : Option Nat} {ty : TypeId} {ps : String} {af : Array Edge} {g : Option (Nat × Bool)} {x y : Operand} {v : Value} {α : Type} [Rp α] {xs : List α}
theorem ex_eqlnil {t t' e : TypeId} (h : RdL zt w v xs) (hx : ev l x = some v) (hy : ev l y = some (.slice none 0 0)) (ht : P.underlying t = some (.slice e)) :
    ∀ ρ, Agr ρ l → (execOp ρ ⟨d, .binOp .eql t x y t', ty, ps, af, g⟩).run P w = .ok (.value (.bool (isnil v))) w := by
  obtain ⟨a, c, rfl, _⟩ := h
  intro ρ hρ
  have hg : (eqGuard .eql t x y (.slice a xs.length c) (.slice none 0 0)).run P w = .ok () w := rfl
  have hv : (binOp .eql t (.slice a xs.length c) (.slice none 0 0)).run P w = .ok (.bool (isnil (.slice a xs.length c))) w := by
    have key : ∀ n, (Op.equalIn (n + 1) t (.slice a xs.length c) (.slice none 0 0)).run P w = .ok (isnil (.slice a xs.length c)) w := fun n => by
      cases a <;> simp [Op.equalIn, Sem.run_bind, run_underlying ht, isnil]
    have k2 := key 9999
    have e : binOp .eql t (.slice a xs.length c) (.slice none 0 0) = (Op.equalIn (9999 + 1) t (.slice a xs.length c) (.slice none 0 0) >>= fun b => pure (Value.bool b)) := rfl
    rw [e, Sem.run_bind, k2]; rfl
  simp only [execOp, hρ x _ hx, hρ y _ hy, Sem.run_bind, hg, Result.andThen_ok, hv]
  rfl
theorem ex_neqnil {t t' e : TypeId} {b : Bool} (hn : isnil v = b) (h : RdL zt w v xs) (hx : ev l x = some v) (hy : ev l y = some (.slice none 0 0)) (ht : P.underlying t = some (.slice e)) :
    ∀ ρ, Agr ρ l → (execOp ρ ⟨d, .binOp .neq t x y t', ty, ps, af, g⟩).run P w = .ok (.value (.bool (!b))) w := by
  subst hn
  obtain ⟨a, c, rfl, _⟩ := h
  intro ρ hρ
  have hg : (eqGuard .neq t x y (.slice a xs.length c) (.slice none 0 0)).run P w = .ok () w := rfl
  have hv : (binOp .neq t (.slice a xs.length c) (.slice none 0 0)).run P w = .ok (.bool (!(isnil (.slice a xs.length c)))) w := by
    have key : ∀ n, (Op.equalIn (n + 1) t (.slice a xs.length c) (.slice none 0 0)).run P w = .ok (isnil (.slice a xs.length c)) w := fun n => by
      cases a <;> simp [Op.equalIn, Sem.run_bind, run_underlying ht, isnil]
    have k2 := key 9999
    have e : binOp .neq t (.slice a xs.length c) (.slice none 0 0) = (Op.equalIn (9999 + 1) t (.slice a xs.length c) (.slice none 0 0) >>= fun b => pure (Value.bool (!b))) := rfl
    rw [e, Sem.run_bind, k2]; rfl
  simp only [execOp, hρ x _ hx, hρ y _ hy, Sem.run_bind, hg, Result.andThen_ok, hv]
  rfl
end
/-! ### A literal in a drawn region -/
section
variable {P : Program} {n : Nat} {l : List (Nat × Value)} {w : World} {d : Nat} {ty : TypeId} {ps : String} {af : Array Edge} {g : Option (Nat × Bool)} {R : Value → World → Prop} {α : Type} [Rp α] {o : Tg}
theorem wf_litW9 {t e : TypeId} {m sz : Nat} {z : Value} {parts : List (Nat × Operand)} {vs : List (Nat × Value)} {cs : List Value} {xs : List α} (B k : Nat) (hB : B ≤ w.heap.size) (hrd : RdC o w cs xs) (hm : m = xs.length) (hv : EvP l parts vs)
    (ht : P.underlying t = some (.slice e)) (hs : ∀ w, (sizeOf e).run P w = .ok sz w) (hz : ∀ w, (zeroValue e).run P w = .ok z w) (hsm : m * sz ≤ 16777216)
    (hf : Instr.fill (fun i => some (i * sz, sz)) ((Array.range (m * sz)).map ((if m * sz = 0 then #[] else z.cells)[· % (if m * sz = 0 then #[] else z.cells).size]!)) vs = some cs.toArray) (hl : xs.length ≤ 1000000)
    (h : ∀ o' w' v', Ow B e k o' w' v' xs → Stp 999 o w o' w' → R v' w') : op1 P ⟨some d, .buildSlice t m parts.toArray, ty, ps, af, g⟩ n l w R := by
  subst hm
  exact op1_val (ex_lit ht hs hz hsm hv hf) (h _ _ _ (lit_own (e := e) hrd hB (by simp only [maxLen]; omega)) (stp_new _ _ _ _ _))
end
end Go.Proofs.Ytjmhjobfiemmnaa
