/- One law for each kind of operation that looks at numbers and memory, over known slots and tagged memory. -/
import Derived.Test.YtjmhjobfiemmnaaKm
namespace Go.Proofs.Ytjmhjobfiemmnaa
open Go.RowKit
set_option linter.unusedSimpArgs false
set_option linter.unusedVariables false

/-! ### Plain functions -/
/-- A number that fits. -/
def ck (n : Int) : Option Int := if -9223372036854775808 ≤ n ∧ n ≤ 9223372036854775807 then some n else none
theorem ck_some {n m : Int} (h : ck n = some m) : m = n ∧ -9223372036854775808 ≤ n ∧ n ≤ 9223372036854775807 := by
  unfold ck at h
  split at h
  · rename_i hh; cases h; exact ⟨rfl, hh⟩
  · cases h
theorem ck_in {n : Int} (h1 : -9223372036854775808 ≤ n) (h2 : n ≤ 9223372036854775807) : ck n = some n := if_pos ⟨h1, h2⟩
def quo (a b : Int) : Option Int := if b = 0 then none else ck (a.tdiv b)
def rem (a b : Int) : Option Int := if b = 0 then none else some (a.tmod b)
def band (a b : Int) : Int := IntKind.i64.wrap (BitVec.ofInt 64 a &&& BitVec.ofInt 64 b).toNat
def bor (a b : Int) : Int := IntKind.i64.wrap (BitVec.ofInt 64 a ||| BitVec.ofInt 64 b).toNat
def bxor (a b : Int) : Int := IntKind.i64.wrap (BitVec.ofInt 64 a ^^^ BitVec.ofInt 64 b).toNat
def bandn (a b : Int) : Int := IntKind.i64.wrap (BitVec.ofInt 64 a &&& ~~~ BitVec.ofInt 64 b).toNat
def shl (a b : Int) : Option Int := if b < 0 then none else some (IntKind.i64.wrap (a * 2 ^ (min b.toNat 64)))
def shr (a b : Int) : Option Int := if b < 0 then none else some (a.fdiv (2 ^ (min b.toNat 64)))
/-- The element at an index. -/
def ix {α : Type} (xs : List α) (i : Int) : Option α := if 0 ≤ i then xs[i.toNat]? else none
theorem ix_some {α : Type} {xs : List α} {i : Int} {x : α} (h : ix xs i = some x) : 0 ≤ i ∧ i < xs.length ∧ xs[i.toNat]? = some x := by
  unfold ix at h
  split at h
  · rename_i h0
    have := (List.getElem?_eq_some_iff.1 h).1
    exact ⟨h0, by omega, h⟩
  · cases h
/-- The list with another element at an index. -/
def st {α : Type} (xs : List α) (i : Int) (x : α) : Option (List α) := if 0 ≤ i ∧ i < xs.length then some (xs.set i.toNat x) else none
theorem st_some {α : Type} {xs ys : List α} {i : Int} {x : α} (h : st xs i x = some ys) : 0 ≤ i ∧ i < xs.length ∧ ys = xs.set i.toNat x := by
  unfold st at h
  split at h
  · rename_i hh; cases h; exact ⟨hh.1, hh.2, rfl⟩
  · cases h
/-- The list with one element more. -/
def push {α : Type} (xs : List α) (x : α) : Option (List α) := if xs.length < 1000000000 then some (xs ++ [x]) else none
theorem push_some {α : Type} {xs ys : List α} {x : α} (h : push xs x = some ys) : xs.length < 1000000000 ∧ ys = xs ++ [x] := by
  unfold push at h
  split at h
  · rename_i hh; cases h; exact ⟨hh, rfl⟩
  · cases h
def cat {α : Type} (xs zs : List α) : Option (List α) := if xs.length + zs.length ≤ 1000000000 then some (xs ++ zs) else none
theorem cat_some {α : Type} {xs ys zs : List α} (h : cat xs zs = some ys) : xs.length + zs.length ≤ 1000000000 ∧ ys = xs ++ zs := by
  unfold cat at h
  split at h
  · rename_i hh; cases h; exact ⟨hh, rfl⟩
  · cases h
def mk {α : Type} (z : α) (n : Int) : Option (List α) := if 0 ≤ n ∧ n < 1000000000 then some (List.replicate n.toNat z) else none
theorem mk_some {α : Type} {z : α} {n : Int} {ys : List α} (h : mk z n = some ys) : 0 ≤ n ∧ n < 1000000000 ∧ ys = List.replicate n.toNat z := by
  unfold mk at h
  split at h
  · rename_i hh; cases h; exact ⟨hh.1, hh.2, rfl⟩
  · cases h
/-- The part from a on, the part before b, the part between. -/
def cut {α : Type} (xs : List α) (a b : Int) : Option (List α) := if 0 ≤ a ∧ a ≤ b ∧ b ≤ xs.length then some ((xs.take b.toNat).drop a.toNat) else none
theorem cut_some {α : Type} {xs ys : List α} {a b : Int} (h : cut xs a b = some ys) : 0 ≤ a ∧ a ≤ b ∧ b ≤ xs.length ∧ ys = (xs.take b.toNat).drop a.toNat := by
  unfold cut at h
  split at h
  · rename_i hh; cases h; exact ⟨hh.1, hh.2.1, hh.2.2, rfl⟩
  · cases h
theorem bind_some {α β : Type} {m : Option α} {f : α → Option β} {r : β} (h : (m >>= f) = some r) : ∃ x, m = some x ∧ f x = some r := by
  cases m with
  | none => simp at h
  | some x => exact ⟨x, rfl, by simpa using h⟩
/-- A search or a loop: 'go' and the state of the next round, 'out' and the state behind the loop, 'ret' and the call's result. -/
inductive Lp (σ τ ρ : Type) where
  | go (s : σ)
  | out (s : τ)
  | ret (r : ρ)
/-- Rounds, as many as the fuel allows. -/
def loopF {σ τ ρ : Type} (step : σ → Option (Lp σ τ ρ)) : Nat → σ → Option (τ ⊕ ρ)
  | 0, _ => none
  | k + 1, s => match step s with
    | none => none
    | some (.go s') => loopF step k s'
    | some (.out t) => some (.inl t)
    | some (.ret r) => some (.inr r)
theorem loopF_inv {σ τ ρ : Type} {step : σ → Option (Lp σ τ ρ)} {k : Nat} {s : σ} {r : τ ⊕ ρ} (h : loopF step k s = some r) :
    ∃ k' x, k = k' + 1 ∧ step s = some x ∧ ((∃ s', x = .go s' ∧ loopF step k' s' = some r) ∨ (∃ t, x = .out t ∧ r = .inl t) ∨ (∃ q, x = .ret q ∧ r = .inr q)) := by
  cases k with
  | zero => simp [loopF] at h
  | succ k =>
    simp only [loopF] at h
    cases hx : step s with
    | none => rw [hx] at h; cases h
    | some x =>
      rw [hx] at h
      refine ⟨k, x, rfl, rfl, ?_⟩
      cases x with
      | go s' => exact .inl ⟨s', rfl, h⟩
      | out t => cases h; exact .inr (.inl ⟨t, rfl, rfl⟩)
      | ret q => cases h; exact .inr (.inr ⟨q, rfl, rfl⟩)

section
variable {P : Program} {l : List (Nat × Value)} {w : World} {d : Option Nat} {ty : TypeId} {ps : String} {af : Array Edge} {g : Option (Nat × Bool)}

/-! ### Numbers -/
theorem run_bin {op : BinOp} {t t' : TypeId} {x y : Operand} {a b : Int} {v : Value} (hx : ev l x = some (.int .i64 a)) (hy : ev l y = some (.int .i64 b))
    (hv : (binOp op t (.int .i64 a) (.int .i64 b)).run P w = .ok v w) : ∀ ρ, Agr ρ l → (execOp ρ ⟨d, .binOp op t x y t', ty, ps, af, g⟩).run P w = .ok (.value v) w := by
  intro ρ hρ
  have hg : (eqGuard op t x y (.int .i64 a) (.int .i64 b)).run P w = .ok () w := by
    unfold eqGuard
    cases op <;> rfl
  simp only [execOp, hρ x _ hx, hρ y _ hy, Sem.run_bind, hg, Result.andThen_ok, hv]
  rfl
section
variable {t t' : TypeId} {x y : Operand} {a b c : Int} (hx : ev l x = some (.int .i64 a)) (hy : ev l y = some (.int .i64 b))
include hx hy
theorem ex_add (h : ck (a + b) = some c) : ∀ ρ, Agr ρ l → (execOp ρ ⟨d, .binOp .add t x y t', ty, ps, af, g⟩).run P w = .ok (.value (.int .i64 c)) w := by
  obtain ⟨rfl, h1, h2⟩ := ck_some h
  exact run_bin hx hy (by simp only [binOp, ne_eq, not_true_eq_false, if_false, Op.intArith]; rw [IntWalk.i64_in _ ⟨h1, h2⟩]; rfl)
theorem ex_sub (h : ck (a - b) = some c) : ∀ ρ, Agr ρ l → (execOp ρ ⟨d, .binOp .sub t x y t', ty, ps, af, g⟩).run P w = .ok (.value (.int .i64 c)) w := by
  obtain ⟨rfl, h1, h2⟩ := ck_some h
  exact run_bin hx hy (by simp only [binOp, ne_eq, not_true_eq_false, if_false, Op.intArith]; rw [IntWalk.i64_in _ ⟨h1, h2⟩]; rfl)
theorem ex_mul (h : ck (a * b) = some c) : ∀ ρ, Agr ρ l → (execOp ρ ⟨d, .binOp .mul t x y t', ty, ps, af, g⟩).run P w = .ok (.value (.int .i64 c)) w := by
  obtain ⟨rfl, h1, h2⟩ := ck_some h
  exact run_bin hx hy (by simp only [binOp, ne_eq, not_true_eq_false, if_false, Op.intArith]; rw [IntWalk.i64_in _ ⟨h1, h2⟩]; rfl)
theorem ex_quo (h : quo a b = some c) : ∀ ρ, Agr ρ l → (execOp ρ ⟨d, .binOp .quo t x y t', ty, ps, af, g⟩).run P w = .ok (.value (.int .i64 c)) w := by
  unfold quo at h
  split at h
  · cases h
  · rename_i h0
    obtain ⟨rfl, h1, h2⟩ := ck_some h
    exact run_bin hx hy (by simp only [binOp, ne_eq, not_true_eq_false, if_false, Op.intDiv, if_neg h0]; rw [IntWalk.i64_in _ ⟨h1, h2⟩]; rfl)
theorem ex_rem (h : rem a b = some c) : ∀ ρ, Agr ρ l → (execOp ρ ⟨d, .binOp .rem t x y t', ty, ps, af, g⟩).run P w = .ok (.value (.int .i64 c)) w := by
  unfold rem at h
  split at h
  · cases h
  · rename_i h0
    cases h
    exact run_bin hx hy (by simp only [binOp, ne_eq, not_true_eq_false, if_false, Op.intDiv, if_neg h0]; rfl)
theorem ex_lss : ∀ ρ, Agr ρ l → (execOp ρ ⟨d, .binOp .lss t x y t', ty, ps, af, g⟩).run P w = .ok (.value (.bool (decide (a < b)))) w := run_bin hx hy rfl
theorem ex_leq : ∀ ρ, Agr ρ l → (execOp ρ ⟨d, .binOp .leq t x y t', ty, ps, af, g⟩).run P w = .ok (.value (.bool (decide (a ≤ b)))) w := run_bin hx hy rfl
theorem ex_gtr : ∀ ρ, Agr ρ l → (execOp ρ ⟨d, .binOp .gtr t x y t', ty, ps, af, g⟩).run P w = .ok (.value (.bool (decide (a > b)))) w := run_bin hx hy rfl
theorem ex_geq : ∀ ρ, Agr ρ l → (execOp ρ ⟨d, .binOp .geq t x y t', ty, ps, af, g⟩).run P w = .ok (.value (.bool (decide (a ≥ b)))) w := run_bin hx hy rfl
theorem ex_eql : ∀ ρ, Agr ρ l → (execOp ρ ⟨d, .binOp .eql t x y t', ty, ps, af, g⟩).run P w = .ok (.value (.bool (a == b))) w := run_bin hx hy rfl
theorem ex_neq : ∀ ρ, Agr ρ l → (execOp ρ ⟨d, .binOp .neq t x y t', ty, ps, af, g⟩).run P w = .ok (.value (.bool (a != b))) w := run_bin hx hy rfl
theorem ex_and : ∀ ρ, Agr ρ l → (execOp ρ ⟨d, .binOp .and t x y t', ty, ps, af, g⟩).run P w = .ok (.value (.int .i64 (band a b))) w := run_bin hx hy rfl
theorem ex_or : ∀ ρ, Agr ρ l → (execOp ρ ⟨d, .binOp .or t x y t', ty, ps, af, g⟩).run P w = .ok (.value (.int .i64 (bor a b))) w := run_bin hx hy rfl
theorem ex_xor : ∀ ρ, Agr ρ l → (execOp ρ ⟨d, .binOp .xor t x y t', ty, ps, af, g⟩).run P w = .ok (.value (.int .i64 (bxor a b))) w := run_bin hx hy rfl
theorem ex_andNot : ∀ ρ, Agr ρ l → (execOp ρ ⟨d, .binOp .andNot t x y t', ty, ps, af, g⟩).run P w = .ok (.value (.int .i64 (bandn a b))) w := run_bin hx hy rfl
theorem ex_shl (h : shl a b = some c) : ∀ ρ, Agr ρ l → (execOp ρ ⟨d, .binOp .shl t x y t', ty, ps, af, g⟩).run P w = .ok (.value (.int .i64 c)) w := by
  unfold shl at h
  split at h
  · cases h
  · rename_i h0
    cases h
    exact run_bin hx hy (by simp only [binOp, Op.shift, if_neg h0]; rfl)
theorem ex_shr (h : shr a b = some c) : ∀ ρ, Agr ρ l → (execOp ρ ⟨d, .binOp .shr t x y t', ty, ps, af, g⟩).run P w = .ok (.value (.int .i64 c)) w := by
  unfold shr at h
  split at h
  · cases h
  · rename_i h0
    cases h
    exact run_bin hx hy (by simp only [binOp, Op.shift, if_neg h0]; rfl)
end

/-! ### Memory -/
theorem ex_len {x : Operand} {t : TypeId} {a : Option Addr} {n c : Nat} {e : TypeId} (hx : ev l x = some (.slice a n c)) (ht : P.underlying t = some (.slice e)) :
    ∀ ρ, Agr ρ l → (execOp ρ ⟨d, .call { callee := .builtin .len, args := #[x], argTypes := #[t] }, ty, ps, af, g⟩).run P w = .ok (.value (.int .i64 n)) w := by
  intro ρ hρ
  have := run_len_slice (P := P) (w := w) t ty a n c (by rw [ht]; simp [Program.elem, ht])
  simp only [execOp, resolve, invoke, builtin, Sem.run_bind, Sem.run_pure, Result.andThen_ok, List.map_toArray, List.map_cons, List.map_nil, hρ x _ hx, this]
  rfl
theorem ex_index {x y : Operand} {t e : TypeId} {b off n c sz : Nat} {i : Int} (hx : ev l x = some (.slice (some ⟨b, off, none⟩) n c)) (hy : ev l y = some (.int .i64 i))
    (h0 : 0 ≤ i) (h1 : i < n) (ht : P.underlying t = some (.slice e)) (hs : ∀ w, (sizeOf e).run P w = .ok sz w) :
    ∀ ρ, Agr ρ l → (execOp ρ ⟨d, .indexAddr t x y, ty, ps, af, g⟩).run P w = .ok (.value (.pointer (some ⟨b, off + i.toNat * sz, none⟩))) w := by
  intro ρ hρ
  have he : P.elem t = e := by simp [Program.elem, ht]
  have := run_indexAt_slice (P := P) (w := w) t ⟨b, off, none⟩ n c .i64 i (by rw [he]; exact ht)
  rw [if_pos ⟨h0, h1⟩, he, hs] at this
  have ha : (⟨b, off, none⟩ : Addr).add (i.toNat * sz) = ⟨b, off + i.toNat * sz, none⟩ := by
    unfold Addr.add
    split
    · rename_i h; rw [h]; rfl
    · rfl
  simp only [execOp, hρ x _ hx, hρ y _ hy, Sem.run_bind, this, Result.andThen_ok, ha]
  rfl
theorem ex_field {x : Operand} {s : TypeId} {f : Nat} {fs : Array Field} {fd : Field} {b off k : Nat} (hx : ev l x = some (.pointer (some ⟨b, off, none⟩))) (hu : P.underlying s = some (.struct fs)) (hf : fs[f]? = some fd)
    (hs : ∀ w, (sizeOf fd.type).run P w = .ok (k + 1) w) :
    ∀ ρ, Agr ρ l → (execOp ρ ⟨d, .fieldAddr s x f, ty, ps, af, g⟩).run P w = .ok (.value (.pointer (some ⟨b, off + fd.offset, none⟩))) w := by
  intro ρ hρ
  have ha : (⟨b, off, none⟩ : Addr).add fd.offset = ⟨b, off + fd.offset, none⟩ := by
    unfold Addr.add
    split
    · rename_i h; rw [h]; rfl
    · rfl
  have hu' : (underlying s).run P w = .ok (.struct fs) w := by simp [underlying, hu]
  simp only [execOp, hρ x _ hx, Instr.fieldAt, Instr.sureAddr, Sem.run_bind, hu', Result.andThen_ok, hf, Sem.run_pure, fieldPlace, hs, Nat.add_eq_zero_iff, Nat.one_ne_zero, and_false, if_false, ha]
theorem ex_load1 {x : Operand} {t : TypeId} {ad : Addr} {u : Value} (hx : ev l x = some (.pointer (some ad))) (hag : ∀ w, (isAgg t).run P w = .ok false w) (hc : w.cell? ad = some u) :
    ∀ ρ, Agr ρ l → (execOp ρ ⟨d, .load t x, ty, ps, af, g⟩).run P w = .ok (.value u) w := by
  intro ρ hρ
  have : (load ad).run P w = .ok u w := by simp [load, Sem.run, hc]
  simp only [execOp, hρ x _ hx, Instr.loadAt, Instr.sureAddr, Sem.run_bind, Sem.run_pure, Result.andThen_ok, loadVar, hag, Bool.false_eq_true, if_false, this]
theorem run_loadCellsFrom {b off : Nat} : ∀ (cs : List Value) (i : Nat) (acc : Array Value), Cells w b (off + i) cs → (loadCellsFrom ⟨b, off, none⟩ i cs.length acc).run P w = .ok (acc ++ cs.toArray) w
  | [], i, acc, _ => by simp [loadCellsFrom]
  | c :: cs, i, acc, h => by
    have hc : w.cell? ⟨b, off + i, none⟩ = some c := by simpa using h 0 c rfl
    have ha : (⟨b, off, none⟩ : Addr).add i = ⟨b, off + i, none⟩ := by
      unfold Addr.add
      split
      · rename_i h; rw [h]; rfl
      · rfl
    have h1 : (load ((⟨b, off, none⟩ : Addr).add i)).run P w = .ok c w := by rw [ha]; simp [load, Sem.run, hc]
    have ih := run_loadCellsFrom cs (i + 1) (acc.push c) (fun j v hj => by have := h (j + 1) v (by simpa using hj); rw [show off + (i + 1) + j = off + i + (j + 1) by omega]; exact this)
    simp only [List.length_cons, loadCellsFrom, Sem.run_bind, h1, Result.andThen_ok, ih]
    simp
theorem ex_loadA {x : Operand} {t : TypeId} {b off k : Nat} {cs : List Value} (hx : ev l x = some (.pointer (some ⟨b, off, none⟩))) (hag : ∀ w, (isAgg t).run P w = .ok true w) (hs : ∀ w, (sizeOf t).run P w = .ok k w)
    (hk : cs.length = k) (hc : Cells w b off cs) :
    ∀ ρ, Agr ρ l → (execOp ρ ⟨d, .load t x, ty, ps, af, g⟩).run P w = .ok (.value (.agg cs.toArray)) w := by
  intro ρ hρ
  subst hk
  have : (loadCells ⟨b, off, none⟩ cs.length).run P w = .ok cs.toArray w := by
    have := run_loadCellsFrom (P := P) (w := w) (b := b) (off := off) cs 0 #[] (by simpa using hc)
    simpa [loadCells] using this
  simp only [execOp, hρ x _ hx, Instr.loadAt, Instr.sureAddr, Sem.run_bind, Sem.run_pure, Result.andThen_ok, loadVar, hag, if_true, hs, this]
theorem ex_box {x : Operand} {t : TypeId} {v : Value} (hx : ev l x = some v) :
    ∀ ρ, Agr ρ l → (execOp ρ ⟨d, .box t x, ty, ps, af, g⟩).run P w = .ok (.value (.pointer (some ⟨w.heap.size, 0, none⟩))) (w.alloc (.cells v.cells t)) := by
  intro ρ hρ
  simp only [execOp, hρ x _ hx, Instr.box, newVar, newRow, newObj, Sem.run_bind, Sem.run_pure, Result.andThen_ok]
  rfl
theorem ex_alloc {t : TypeId} {z : Value} (hz : ∀ w, (zeroValue t).run P w = .ok z w) :
    ∀ ρ, Agr ρ l → (execOp ρ ⟨d, .alloc t, ty, ps, af, g⟩).run P w = .ok (.value (.pointer (some ⟨w.heap.size, 0, none⟩))) (w.alloc (.cells z.cells t)) := by
  intro ρ hρ
  simp only [execOp, Instr.alloc, newVar, newRow, newObj, Sem.run_bind, Sem.run_pure, Result.andThen_ok, hz]
  rfl
end
end Go.Proofs.Ytjmhjobfiemmnaa
