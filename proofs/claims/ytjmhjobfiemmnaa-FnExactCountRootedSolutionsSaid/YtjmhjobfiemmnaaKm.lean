/- Memory with tags: a tag function says of each block who may write it (0: nobody any more). What reads as a list, who owns a row, and how these facts are carried on. -/
import Derived.Test.YtjmhjobfiemmnaaKf
namespace Go.Proofs.Ytjmhjobfiemmnaa
open Go.RowKit
set_option linter.unusedSimpArgs false
set_option linter.unusedVariables false

abbrev Tg := Nat → Nat
/-- One step of the memory: blocks of tag t (and new ones) may have changed; the old blocks keep their tags. -/
structure Stp (t : Nat) (o : Tg) (w : World) (o' : Tg) (w' : World) : Prop where
  os : w'.os = w.os
  tape : w'.tape = w.tape
  output : w'.output = w.output
  size : w.heap.size ≤ w'.heap.size
  block : ∀ b, b < w.heap.size → o b ≠ t → w'.heap[b]? = w.heap[b]?
  own : ∀ b, b < w.heap.size → o' b = o b

theorem Stp.refl (t : Nat) (o : Tg) (w : World) : Stp t o w o w := ⟨rfl, rfl, rfl, Nat.le_refl _, fun _ _ _ => rfl, fun _ _ => rfl⟩
theorem Stp.trans {t : Nat} {o o' o'' : Tg} {w w' w'' : World} (h : Stp t o w o' w') (k : Stp t o' w' o'' w'') : Stp t o w o'' w'' :=
  ⟨k.os.trans h.os, k.tape.trans h.tape, k.output.trans h.output, Nat.le_trans h.size k.size,
    fun b hb hn => (k.block b (Nat.lt_of_lt_of_le hb h.size) (by rw [h.own b hb]; exact hn)).trans (h.block b hb hn),
    fun b hb => (k.own b (Nat.lt_of_lt_of_le hb h.size)).trans (h.own b hb)⟩
/-- Nothing that was there has changed: a step for whatever tag. -/
theorem Keeps.stp {w w' : World} (k : Keeps w w') (t : Nat) (o : Tg) : Stp t o w o w' := ⟨k.os, k.tape, k.output, k.size, fun b hb _ => k.block b hb, fun _ _ => rfl⟩
theorem Keeps.stp' {w w' : World} (k : Keeps w w') (t : Nat) {o o' : Tg} (h : ∀ b, b < w.heap.size → o' b = o b) : Stp t o w o' w' := ⟨k.os, k.tape, k.output, k.size, fun b hb _ => k.block b hb, h⟩

/-- The call began in w0 under the caller's tags oo; its own blocks alone bear tags from 2 on. -/
structure Bs (oo o : Tg) (w0 w : World) : Prop where
  keeps : Keeps w0 w
  old : ∀ b, b < w0.heap.size → o b = if oo b = 0 then 0 else 1
theorem Bs.stp {oo o o' : Tg} {w0 w w' : World} {t : Nat} (h : Bs oo o w0 w) (s : Stp t o w o' w') (ht : 2 ≤ t) : Bs oo o' w0 w' :=
  ⟨⟨s.os.trans h.keeps.os, s.tape.trans h.keeps.tape, s.output.trans h.keeps.output, Nat.le_trans h.keeps.size s.size,
    fun b hb => (s.block b (Nat.lt_of_lt_of_le hb h.keeps.size) (by have := h.old b hb; split at this <;> omega)).trans (h.keeps.block b hb)⟩,
   fun b hb => by rw [s.own b (Nat.lt_of_lt_of_le hb h.keeps.size)]; exact h.old b hb⟩
/-- The caller's tags as the call sees them. -/
def col (oo : Tg) : Tg := fun b => if oo b = 0 then 0 else 1
theorem Bs.start (oo : Tg) (w : World) : Bs oo (col oo) w w := ⟨Keeps.refl w, fun _ _ => rfl⟩

/-- What the readable cells of a world are. -/
def Cells (w : World) (b off : Nat) (cs : List Value) : Prop := ∀ j v, cs[j]? = some v → w.cell? ⟨b, off + j, none⟩ = some v
theorem Cells.of_block {w w' : World} {b off : Nat} {cs : List Value} (h : Cells w b off cs) (hb : w'.heap[b]? = w.heap[b]?) : Cells w' b off cs := by
  intro j v hj
  rw [← h j v hj]
  simp only [World.cell?, hb]

/-- Values that lie in cells, read through blocks of tag 0. -/
class Rp (α : Type) where
  sz : Nat
  pos : 0 < sz
  rd : Tg → World → List Value → α → Prop
  len : ∀ {o w cs x}, rd o w cs x → cs.length = sz
  one : ∀ {o w cs x}, rd o w cs x → ∀ c ∈ cs, c.oneCell' = true
  mv : ∀ {o o' : Tg} {w w' : World} {cs : List Value} {x : α}, rd o w cs x → w.heap.size ≤ w'.heap.size → (∀ b, b < w.heap.size → o b = 0 → w'.heap[b]? = w.heap[b]? ∧ o' b = 0) → rd o' w' cs x

instance : Rp Int where
  sz := 1
  pos := by decide
  rd _ _ cs x := cs = [.int .i64 x]
  len h := by subst h; rfl
  one h := by subst h; simp [Value.oneCell']
  mv h _ _ := h
instance : Rp Bool where
  sz := 1
  pos := by decide
  rd _ _ cs x := cs = [.bool x]
  len h := by subst h; rfl
  one h := by subst h; simp [Value.oneCell']
  mv h _ _ := h

/-- A slice value that reads as a list. -/
def RdL {α : Type} [Rp α] (o : Tg) (w : World) (v : Value) (xs : List α) : Prop :=
  ∃ a c, v = .slice a xs.length c ∧ xs.length ≤ c ∧ c ≤ maxLen ∧
    ∀ (i : Nat) x, xs[i]? = some x → ∃ b off cs, a = some ⟨b, off, none⟩ ∧ o b = 0 ∧ b < w.heap.size ∧ Cells w b (off + i * Rp.sz α) cs ∧ Rp.rd o w cs x

theorem RdL.mv {α : Type} [Rp α] {o o' : Tg} {w w' : World} {v : Value} {xs : List α} (h : RdL o w v xs) (hs : w.heap.size ≤ w'.heap.size)
    (hb : ∀ b, b < w.heap.size → o b = 0 → w'.heap[b]? = w.heap[b]? ∧ o' b = 0) : RdL o' w' v xs := by
  obtain ⟨a, c, e, h1, h2, h4⟩ := h
  refine ⟨a, c, e, h1, h2, fun i x hx => ?_⟩
  obtain ⟨b, off, cs, ha, ho, hl, hc, hr⟩ := h4 i x hx
  exact ⟨b, off, cs, ha, (hb b hl ho).2, Nat.lt_of_lt_of_le hl hs, hc.of_block (hb b hl ho).1, Rp.mv hr hs hb⟩

instance {α : Type} [Rp α] : Rp (List α) where
  sz := 1
  pos := by decide
  rd o w cs xs := ∃ v, cs = [v] ∧ RdL o w v xs
  len h := by obtain ⟨v, rfl, _⟩ := h; rfl
  one h := by obtain ⟨v, rfl, a, c, rfl, _⟩ := h; simp [Value.oneCell']
  mv h hs hb := by obtain ⟨v, e, h⟩ := h; exact ⟨v, e, h.mv hs hb⟩

/-- The tag function under which everything may be read. -/
def zt : Tg := fun _ => 0

section
variable {α : Type} [Rp α] {o o' o'' : Tg} {w w' w0 : World} {v : Value} {xs : List α} {x : α} {cs : List Value} {t k : Nat}
/-- Readable, whatever the tags. -/
abbrev RdZ (w : World) (v : Value) (xs : List α) : Prop := RdL zt w v xs
theorem RdL.stp (h : RdL o w v xs) (s : Stp t o w o' w') (ht : t ≠ 0) : RdL o' w' v xs :=
  h.mv s.size fun b hb h0 => ⟨s.block b hb (by rw [h0]; exact fun e => ht e.symm), by rw [s.own b hb]; exact h0⟩
theorem RdL.keep (h : RdL zt w v xs) (k : Keeps w w') : RdL zt w' v xs := h.mv k.size fun b hb _ => ⟨k.block b hb, rfl⟩
theorem RdL.z (h : RdL o w v xs) : RdL zt w v xs := h.mv (Nat.le_refl _) fun b hb _ => ⟨rfl, rfl⟩
theorem Rp.stp (h : Rp.rd o w cs x) (s : Stp t o w o' w') (ht : t ≠ 0) : Rp.rd o' w' cs x :=
  Rp.mv h s.size fun b hb h0 => ⟨s.block b hb (by rw [h0]; exact fun e => ht e.symm), by rw [s.own b hb]; exact h0⟩
theorem Rp.keep (h : Rp.rd zt w cs x) (k : Keeps w w') : Rp.rd zt w' cs x := Rp.mv h k.size fun b hb _ => ⟨k.block b hb, rfl⟩
theorem Rp.z (h : Rp.rd o w cs x) : Rp.rd zt w cs x := Rp.mv h (Nat.le_refl _) fun b hb _ => ⟨rfl, rfl⟩
theorem RdL.form (h : RdL o w v xs) : ∃ a c, v = .slice a xs.length c := by obtain ⟨a, c, e, _⟩ := h; exact ⟨a, c, e⟩
theorem RdL.len_le (h : RdL o w v xs) : xs.length ≤ 9223372036854775807 := by
  obtain ⟨a, c, _, h1, h2, _⟩ := h
  simp only [maxLen] at h2; omega
theorem RdL.nil (o : Tg) (w : World) : RdL o w (.slice none 0 0) ([] : List α) := ⟨none, 0, rfl, Nat.le_refl _, by simp [maxLen], fun i x hx => by simp at hx⟩
/-- An element: its place and its cells. -/
theorem RdL.at {a : Option Addr} {n c : Nat} (h : RdL o w (.slice a n c) xs) {i : Nat} (hi : xs[i]? = some x) : ∃ b off cs, a = some ⟨b, off, none⟩ ∧ Cells w b (off + i * Rp.sz α) cs ∧ Rp.rd o w cs x ∧ n = xs.length := by
  obtain ⟨a', c', e, h1, h2, h4⟩ := h
  cases e
  obtain ⟨b, off, cs, ha, ho, hl, hc, hr⟩ := h4 i x hi
  exact ⟨b, off, cs, ha, hc, hr, rfl⟩
theorem cell_of_cells {b off : Nat} {u : Value} (h : Cells w b off [u]) : w.cell? ⟨b, off, none⟩ = some u := by simpa using h 0 u rfl

/-! ### Owned rows -/
/-- v owns a row with the elements xs; its block bears the tag k. -/
def Ow (B : Nat) (e : TypeId) (k : Nat) (o : Tg) (w : World) (v : Value) (xs : List α) : Prop :=
  ∃ css : List (List Value), css.length = xs.length ∧ w.ownsRow B e (Rp.sz α) v xs.length css.flatten ∧ (∀ g, v.ownBlock = some g → o g = k) ∧
    ∀ (i : Nat) cs x, css[i]? = some cs → xs[i]? = some x → Rp.rd o w cs x

theorem Ow.nil (B : Nat) (e : TypeId) (k : Nat) (o : Tg) (w : World) : Ow B e k o w (.slice none 0 0) ([] : List α) :=
  ⟨[], rfl, World.ownsRow_nil w B e _, fun g hg => by simp [Value.ownBlock] at hg, fun i cs x h => by simp at h⟩
theorem Ow.form {B : Nat} {e : TypeId} (h : Ow B e k o w v xs) : ∃ a c, v = .slice a xs.length c := by
  obtain ⟨css, h1, h2, _⟩ := h
  rcases h2.2 with ⟨rfl, h0⟩ | ⟨g, cap, cur, rfl, _⟩
  · exact ⟨none, 0, by rw [h0]⟩
  · exact ⟨_, cap, rfl⟩
theorem Ow.len_le {B : Nat} {e : TypeId} (h : Ow B e k o w v xs) : xs.length ≤ 9223372036854775807 := by
  obtain ⟨css, h1, h2, _⟩ := h
  rcases h2.2 with ⟨_, h0⟩ | ⟨g, cap, cur, _, _, _, h3, h4, _⟩
  · omega
  · simp only [maxLen] at h4; omega
/-- A step for another tag. -/
theorem Ow.stp {B : Nat} {e : TypeId} (h : Ow B e k o w v xs) (s : Stp t o w o' w') (ht : t ≠ 0) (hk : k ≠ t) : Ow B e k o' w' v xs := by
  obtain ⟨css, h1, h2, h3, h4⟩ := h
  refine ⟨css, h1, ⟨h2.1, ?_⟩, fun g hg => ?_, fun i cs x a b => Rp.stp (h4 i cs x a b) s ht⟩
  · rcases h2.2 with h0 | ⟨g, cap, cur, hv, hb, hg, r⟩
    · exact .inl h0
    · refine .inr ⟨g, cap, cur, hv, hb, ?_, r⟩
      have hlt := (Array.getElem?_eq_some_iff.1 hg).1
      rw [s.block g hlt (by rw [h3 g (by rw [hv]; rfl)]; exact hk)]
      exact hg
  · rw [s.own g (h2.lt g hg).2]; exact h3 g hg
theorem Ow.mono {B B' : Nat} {e : TypeId} (h : Ow B e k o w v xs) (hB : B' ≤ B) : Ow B' e k o w v xs := by
  obtain ⟨css, h1, h2, h3, h4⟩ := h
  exact ⟨css, h1, h2.mono hB, h3, h4⟩
theorem flat_getD (css : List (List Value)) (sz : Nat) (hl : ∀ cs ∈ css, cs.length = sz) {i : Nat} {cs : List Value} (hi : css[i]? = some cs) (j : Nat) (hj : j < sz) : css.flatten[i * sz + j]? = cs[j]? := by
  induction css generalizing i with
  | nil => simp at hi
  | cons c css ih =>
    have hc := hl c (by simp)
    cases i with
    | zero =>
      simp at hi; subst hi
      simp only [List.flatten_cons, Nat.zero_mul, Nat.zero_add]
      rw [List.getElem?_append_left (by omega)]
    | succ i =>
      simp at hi
      simp only [List.flatten_cons]
      rw [List.getElem?_append_right (by rw [Nat.succ_mul]; omega), show (i + 1) * sz + j - c.length = i * sz + j by rw [Nat.succ_mul]; omega]
      exact ih (fun x hx => hl x (by simp [hx])) hi
theorem Ow.lens {B : Nat} {e : TypeId} {css : List (List Value)} (h1 : css.length = xs.length) (h4 : ∀ (i : Nat) cs x, css[i]? = some cs → xs[i]? = some x → Rp.rd o w cs x) : ∀ cs ∈ css, cs.length = Rp.sz α := by
  intro cs hcs
  obtain ⟨i, hi⟩ := List.mem_iff_getElem?.1 hcs
  have hlt := (List.getElem?_eq_some_iff.1 hi).1
  exact Rp.len (h4 i cs _ hi (List.getElem?_eq_getElem (by omega)))
/-- An element of an owned row. -/
theorem Ow.at {a : Option Addr} {n c : Nat} {B : Nat} {e : TypeId} (h : Ow B e k o w (.slice a n c) xs) {i : Nat} (hi : xs[i]? = some x) :
    ∃ g cs, a = some ⟨g, 0, none⟩ ∧ n = xs.length ∧ Cells w g (0 + i * Rp.sz α) cs ∧ Rp.rd o w cs x ∧ w.frozen? ⟨g, 0 + i * Rp.sz α, none⟩ = false := by
  obtain ⟨css, h1, h2, h3, h4⟩ := h
  have hlt := (List.getElem?_eq_some_iff.1 hi).1
  have hcs : css[i]? = some (css[i]'(by omega)) := List.getElem?_eq_getElem (by omega)
  rcases h2.2 with ⟨_, h0⟩ | ⟨g, cap, cur, e1, hb, hg, hn, hm, hsz, ht⟩
  · omega
  · cases e1
    refine ⟨g, _, rfl, rfl, fun j u hj => ?_, h4 i _ x hcs hi, ?_⟩
    · have hl := Ow.lens (e := e) (B := B) h1 h4
      have hjl : j < Rp.sz α := by
        have := (List.getElem?_eq_some_iff.1 hj).1
        rw [hl _ (List.getElem_mem _)] at this
        exact this
      have e2 := flat_getD css (Rp.sz α) hl hcs j hjl
      rw [hj, ← ht] at e2
      rw [List.getElem?_take] at e2
      split at e2
      · simp only [World.cell?, hg, Option.isSome_none, Bool.false_eq_true, if_false]
        rw [Nat.zero_add]
        rw [← e2]; simp
      · cases e2
    · simp [World.frozen?, hg]
/-- A row that is given up reads as a list. -/
theorem Ow.freeze {B : Nat} {e : TypeId} (h : Ow B e k o w v xs) (ho : ∀ b, b < w.heap.size → (o b = 0 ∨ o b = k) → o' b = 0) : RdL o' w v xs := by
  obtain ⟨css, h1, h2, h3, h4⟩ := h
  have hl := Ow.lens (e := e) (B := B) h1 h4
  rcases h2.2 with ⟨rfl, h0⟩ | ⟨g, cap, cur, rfl, hb, hg, hn, hm, hsz, ht⟩
  · have : xs = [] := List.eq_nil_of_length_eq_zero h0
    subst this; exact RdL.nil _ _
  · refine ⟨_, cap, rfl, hn, hm, fun i x hx => ?_⟩
    have hlt := (List.getElem?_eq_some_iff.1 hx).1
    have hcs : css[i]? = some (css[i]'(by omega)) := List.getElem?_eq_getElem (by omega)
    have hgl := (Array.getElem?_eq_some_iff.1 hg).1
    refine ⟨g, 0, _, rfl, ho g hgl (.inr (h3 g rfl)), hgl, fun j u hj => ?_, Rp.mv (h4 i _ x hcs hx) (Nat.le_refl _) fun b hb h0 => ⟨rfl, ho b hb (.inl h0)⟩⟩
    have hjl : j < Rp.sz α := by
      have := (List.getElem?_eq_some_iff.1 hj).1
      rw [hl _ (List.getElem_mem _)] at this
      exact this
    have e2 := flat_getD css (Rp.sz α) hl hcs j hjl
    rw [hj, ← ht] at e2
    rw [List.getElem?_take] at e2
    split at e2
    · simp only [World.cell?, hg, Option.isSome_none, Bool.false_eq_true, if_false]
      rw [Nat.zero_add, ← e2]; simp
    · cases e2
theorem Ow.z {B : Nat} {e : TypeId} (h : Ow B e k o w v xs) : RdL zt w v xs := h.freeze fun _ _ _ => rfl

/-- Tags are changed: k's blocks become everybody's. -/
def frz (k : Nat) (o : Tg) : Tg := fun b => if o b = k then 0 else o b
theorem Ow.frz {B : Nat} {e : TypeId} (h : Ow B e k o w v xs) : RdL (frz k o) w v xs := h.freeze fun b _ hb => by
  unfold Go.Proofs.Ytjmhjobfiemmnaa.frz
  rcases hb with hb | hb
  · rw [hb]; split <;> rfl
  · rw [if_pos hb]
theorem RdL.frz (h : RdL o w v xs) (j : Nat) : RdL (frz j o) w v xs := h.mv (Nat.le_refl _) fun b _ hb => ⟨rfl, by unfold Go.Proofs.Ytjmhjobfiemmnaa.frz; rw [hb]; split <;> rfl⟩
theorem Rp.frz (h : Rp.rd o w cs x) (j : Nat) : Rp.rd (frz j o) w cs x := Rp.mv h (Nat.le_refl _) fun b _ hb => ⟨rfl, by unfold Go.Proofs.Ytjmhjobfiemmnaa.frz; rw [hb]; split <;> rfl⟩
theorem Ow.frz_ne {B : Nat} {e : TypeId} {j : Nat} (h : Ow B e k o w v xs) (hj : k ≠ j) : Ow B e k (Go.Proofs.Ytjmhjobfiemmnaa.frz j o) w v xs := by
  obtain ⟨css, h1, h2, h3, h4⟩ := h
  exact ⟨css, h1, h2, fun g hg => by unfold Go.Proofs.Ytjmhjobfiemmnaa.frz; rw [h3 g hg, if_neg hj], fun i cs x a b => Rp.frz (h4 i cs x a b) j⟩
theorem Bs.frz {oo : Tg} (h : Bs oo o w0 w) (j : Nat) (hj : 2 ≤ j) : Bs oo (Go.Proofs.Ytjmhjobfiemmnaa.frz j o) w0 w := ⟨h.keeps, fun b hb => by
  unfold Go.Proofs.Ytjmhjobfiemmnaa.frz
  have := h.old b hb
  rw [← this, if_neg]
  split at this <;> omega⟩
theorem RdL.col {oo : Tg} (h : RdL oo w v xs) : RdL (col oo) w v xs := h.mv (Nat.le_refl _) fun b _ hb => ⟨rfl, by unfold Go.Proofs.Ytjmhjobfiemmnaa.col; rw [if_pos hb]⟩
theorem Rp.col {oo : Tg} (h : Rp.rd oo w cs x) : Rp.rd (Go.Proofs.Ytjmhjobfiemmnaa.col oo) w cs x := Rp.mv h (Nat.le_refl _) fun b _ hb => ⟨rfl, by unfold Go.Proofs.Ytjmhjobfiemmnaa.col; rw [if_pos hb]⟩
/-- The tags with which a call hands back what it made. -/
def rt (oo o : Tg) (n k t : Nat) : Tg := fun b => if b < n then oo b else if o b = k then t else 0
theorem rt_zero {oo : Tg} (h : Bs oo o w0 w) (k t b : Nat) (hk : 2 ≤ k) (hb : o b = 0) : rt oo o w0.heap.size k t b = 0 := by
  unfold rt
  split
  · rename_i hlt
    have := h.old b hlt
    split at this
    · assumption
    · omega
  · rw [if_neg (by omega)]
theorem Ow.rt {oo : Tg} {e : TypeId} (h : Ow w0.heap.size e k o w v xs) (hB : Bs oo o w0 w) (hk : 2 ≤ k) (t : Nat) : Ow w0.heap.size e t (Go.Proofs.Ytjmhjobfiemmnaa.rt oo o w0.heap.size k t) w v xs := by
  obtain ⟨css, h1, h2, h3, h4⟩ := h
  refine ⟨css, h1, h2, fun g hg => ?_, fun i cs x a b => Rp.mv (h4 i cs x a b) (Nat.le_refl _) fun b _ hb => ⟨rfl, rt_zero hB k t b hk hb⟩⟩
  unfold Go.Proofs.Ytjmhjobfiemmnaa.rt
  rw [if_neg (by have := (h2.lt g hg).1; omega), if_pos (h3 g hg)]
theorem RdL.rt {oo : Tg} (h : RdL o w v xs) (hB : Bs oo o w0 w) (k t : Nat) (hk : 2 ≤ k) : RdL (Go.Proofs.Ytjmhjobfiemmnaa.rt oo o w0.heap.size k t) w v xs := h.mv (Nat.le_refl _) fun b _ hb => ⟨rfl, rt_zero hB k t b hk hb⟩
theorem Rp.rt {oo : Tg} (h : Rp.rd o w cs x) (hB : Bs oo o w0 w) (k t : Nat) (hk : 2 ≤ k) : Rp.rd (Go.Proofs.Ytjmhjobfiemmnaa.rt oo o w0.heap.size k t) w cs x := Rp.mv h (Nat.le_refl _) fun b _ hb => ⟨rfl, rt_zero hB k t b hk hb⟩
theorem rt_old (oo o : Tg) (n k t : Nat) : ∀ b, b < n → rt oo o n k t b = oo b := fun b hb => if_pos hb

/-- A block of one's own whose cells are all known (a variable, a struct). -/
structure Bx (B k : Nat) (o : Tg) (w : World) (b : Nat) (e : TypeId) (cs : List Value) : Prop where
  blk : w.heap[b]? = some (.cells cs.toArray e (0, 0))
  tag : o b = k
  lo : B ≤ b
theorem Bx.stp {B b : Nat} {e : TypeId} (h : Bx B k o w b e cs) (s : Stp t o w o' w') (hk : k ≠ t) : Bx B k o' w' b e cs := by
  have hlt := (Array.getElem?_eq_some_iff.1 h.blk).1
  exact ⟨by rw [s.block b hlt (by rw [h.tag]; exact hk)]; exact h.blk, by rw [s.own b hlt]; exact h.tag, h.lo⟩
theorem Bx.frz_ne {B b j : Nat} {e : TypeId} (h : Bx B k o w b e cs) (hj : k ≠ j) : Bx B k (Go.Proofs.Ytjmhjobfiemmnaa.frz j o) w b e cs :=
  ⟨h.blk, by unfold Go.Proofs.Ytjmhjobfiemmnaa.frz; rw [h.tag, if_neg hj], h.lo⟩
theorem Bx.cell {B b : Nat} {e : TypeId} (h : Bx B k o w b e cs) {i : Nat} {u : Value} (hi : cs[i]? = some u) : w.cell? ⟨b, i, none⟩ = some u := by
  simp only [World.cell?, h.blk, Option.isSome_none, Bool.false_eq_true, if_false]
  simpa using hi
theorem Bx.cells {B b : Nat} {e : TypeId} (h : Bx B k o w b e cs) : Cells w b 0 cs := fun j u hj => by rw [Nat.zero_add]; exact h.cell hj

/-- A new block takes the tag k. -/
def upd (o : Tg) (b k : Nat) : Tg := fun c => if c = b then k else o c
theorem upd_same (o : Tg) (b k : Nat) : upd o b k b = k := by simp [upd]
theorem stp_alloc (o : Tg) (w : World) (ob : Obj) (k t : Nat) : Stp t o w (upd o w.heap.size k) (w.alloc ob) :=
  ⟨rfl, rfl, rfl, by simp, fun b hb _ => heap_alloc_old w ob hb, fun b hb => by simp [upd, Nat.ne_of_lt hb]⟩
theorem stp_drewN (o : Tg) (w : World) (n t : Nat) : Stp t o w o (w.drewN n) := ⟨rfl, rfl, rfl, Nat.le_refl _, fun _ _ _ => rfl, fun _ _ => rfl⟩
theorem stp_drew (o : Tg) (w : World) (t : Nat) : Stp t o w o w.drew := ⟨rfl, rfl, rfl, Nat.le_refl _, fun _ _ _ => rfl, fun _ _ => rfl⟩
theorem Bx.new (o : Tg) (w : World) (B k : Nat) (e : TypeId) (cs : List Value) (hB : B ≤ w.heap.size) : Bx B k (upd o w.heap.size k) (w.alloc (.cells cs.toArray e)) w.heap.size e cs :=
  ⟨heap_alloc_new w _, upd_same _ _ _, hB⟩
end
end Go.Proofs.Ytjmhjobfiemmnaa
