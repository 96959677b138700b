/- impl.CountRootedSolutions: plain functions, and the walks that show that the program computes them (printed by gen.py). -/
import Derived.Test.YtjmhjobfiemmnaaKpy
import Derived.Test.YtjmhjobfiemmnaaGY
import Derived.Test.YtjmhjobfiemmnaaGM
import Derived.Test.YtjmhjobfiemmnaaRpt
namespace Go.Proofs.Ytjmhjobfiemmnaa
set_option linter.unusedSimpArgs false
set_option linter.unusedVariables false

open Go.RowKit
/-- Readable through blocks of great tags. -/
def up (o : Tg) : Tg := fun b => if 200 ≤ o b then 0 else 1
/-- Blocks of great tags become everybody's. -/
def lay0 (o : Tg) : Tg := fun b => if 200 ≤ o b then 0 else o b
/-- A function value that takes a list and changes a state. -/
def EfV (P : Program) (K : Nat) (Inv : List Int → Tg → World → Prop) (v : Value) (F : List Int → List Int → Option (List Int)) : Prop :=
  ∃ (n : Nat) (cap : List Value), v = .func (.func n) #[] cap.toArray ∧ (∀ args w, (callFunc n args).run P w = .ok (.enter n args) w) ∧
    ∀ s s' o w lv ls, Inv s o w → RdL (up o) w lv ls → F ls s = some s' → Calls P n (lv :: cap).toArray w (fun e w' => e = .returned (.tuple #[]) ∧ ∃ o', Inv s' o' w' ∧ Stp K o w o' w')
theorem EfV.cells1 {P : Program} {K : Nat} {Inv : List Int → Tg → World → Prop} {v : Value} {F : List Int → List Int → Option (List Int)} (h : EfV P K Inv v F) : v.cells = #[v] := by obtain ⟨m, cap, rfl, _⟩ := h; rfl
/-- What lies under tags below a bound is as it was. -/
structure Mvr (lo : Nat) (o : Tg) (w : World) (o' : Tg) (w' : World) : Prop where
  z : w.heap.size ≤ w'.heap.size
  blk : ∀ b, b < w.heap.size → o b < lo → w'.heap[b]? = w.heap[b]? ∧ o' b = o b
  os : w'.os = w.os
  tape : w'.tape = w.tape
  output : w'.output = w.output
def InvOk (Inv : List Int → Tg → World → Prop) : Prop := ∀ s o w o' w', Inv s o w → Mvr 200 o w o' w' → Inv s o' w'
theorem Stp.mvr {t lo : Nat} {o o' : Tg} {w w' : World} (s : Stp t o w o' w') (h : lo ≤ t) : Mvr lo o w o' w' := ⟨s.size, fun b hb h1 => ⟨s.block b hb (by omega), s.own b hb⟩, s.os, s.tape, s.output⟩
theorem InvOk.st {Inv : List Int → Tg → World → Prop} (h : InvOk Inv) {s : List Int} {t : Nat} {o o' : Tg} {w w' : World} (ht : 200 ≤ t) (hI : Inv s o w) (hs : Stp t o w o' w') : Inv s o' w' := h _ _ _ _ _ hI (hs.mvr ht)
/-- Tags from lo to 999 are given up. -/
def prg (lo : Nat) (o : Tg) : Tg := fun b => if lo ≤ o b ∧ o b ≤ 999 then 1000 else o b
/-- The old tags again, where there were some. -/
def bck (o : Tg) (w : World) (o' : Tg) : Tg := fun b => if b < w.heap.size then o b else o' b
theorem prg_mvr {lo : Nat} (o : Tg) (w : World) (hl : lo ≤ 999) : Mvr lo o w (prg lo o) w := ⟨Nat.le_refl _, fun b _ h => ⟨rfl, by unfold prg; rw [if_neg (by omega)]⟩, rfl, rfl, rfl⟩
theorem bck_mvr {lo : Nat} {o o' : Tg} {w w' : World} (hl : lo ≤ 999) (h : ∀ b, b < w.heap.size → o' b = prg lo o b) : Mvr lo o' w' (bck o w o') w' :=
  ⟨Nat.le_refl _, fun b _ h1 => ⟨rfl, by
    unfold bck
    split
    · rename_i hb
      have := h b hb
      unfold prg at this
      split at this <;> omega
    · rfl⟩, rfl, rfl, rfl⟩
theorem prg_ne {lo : Nat} (hl : lo ≤ 999) (o : Tg) (b : Nat) : prg lo o b ≠ 999 := by unfold prg; split <;> omega
theorem prg_or {lo : Nat} (o : Tg) (b : Nat) : prg lo o b < lo ∨ 1000 ≤ prg lo o b := by unfold prg; split <;> omega
theorem Stp.bckS {lo K : Nat} {o o' : Tg} {w w' : World} (h : Stp K (prg lo o) w o' w') (hK : K < lo) (hl : lo ≤ 999) : Stp K o w (bck o w o') w' :=
  ⟨h.os, h.tape, h.output, h.size, fun b hb h1 => h.block b hb (by unfold prg; split <;> omega), fun b hb => by unfold Go.Proofs.Ytjmhjobfiemmnaa.bck; rw [if_pos hb]⟩
theorem Mvr.le {lo lo' : Nat} {o o' : Tg} {w w' : World} (h : Mvr lo o w o' w') (hl : lo' ≤ lo) : Mvr lo' o w o' w' := ⟨h.z, fun b hb h1 => h.blk b hb (by omega), h.os, h.tape, h.output⟩
theorem Mvr.trans {lo : Nat} {o o' o'' : Tg} {w w' w'' : World} (h : Mvr lo o w o' w') (k : Mvr lo o' w' o'' w'') : Mvr lo o w o'' w'' :=
  ⟨Nat.le_trans h.z k.z, fun b hb h1 => by
    obtain ⟨q1, q2⟩ := h.blk b hb h1
    obtain ⟨q3, q4⟩ := k.blk b (Nat.lt_of_lt_of_le hb h.z) (by rw [q2]; exact h1)
    exact ⟨q3.trans q1, q4.trans q2⟩, k.os.trans h.os, k.tape.trans h.tape, k.output.trans h.output⟩
section
variable {lo k B b : Nat} {o o' : Tg} {w w' : World} {e : TypeId} {v : Value} {α : Type} [Rp α] {xs : List α} {cs : List Value} {x : α}
theorem Rp.mvr (h : Rp.rd o w cs x) (m : Mvr lo o w o' w') (hl : 0 < lo) : Rp.rd o' w' cs x := Rp.mv h m.z fun b hb h0 => ⟨(m.blk b hb (by omega)).1, by rw [(m.blk b hb (by omega)).2]; exact h0⟩
theorem RdL.mvr (h : RdL o w v xs) (m : Mvr lo o w o' w') (hl : 0 < lo) : RdL o' w' v xs := h.mv m.z fun b hb h0 => ⟨(m.blk b hb (by omega)).1, by rw [(m.blk b hb (by omega)).2]; exact h0⟩
theorem Ow.mvr (h : Ow B e k o w v xs) (m : Mvr lo o w o' w') (hl : 0 < lo) (hk : k < lo) : Ow B e k o' w' v xs := by
  obtain ⟨css, h1, h2, h3, h4⟩ := h
  refine ⟨css, h1, ⟨h2.1, ?_⟩, fun g hg => ?_, fun i cs x a b => Rp.mvr (h4 i cs x a b) m hl⟩
  · rcases h2.2 with h0 | ⟨g, cap, cur, hv, hb, hg, r⟩
    · exact .inl h0
    · refine .inr ⟨g, cap, cur, hv, hb, ?_, r⟩
      have hlt := (Array.getElem?_eq_some_iff.1 hg).1
      rw [(m.blk g hlt (by rw [h3 g (by rw [hv]; rfl)]; exact hk)).1]
      exact hg
  · rw [(m.blk g (h2.lt g hg).2 (by rw [h3 g hg]; exact hk)).2]; exact h3 g hg
theorem lay0_mvr (o : Tg) (w : World) : Mvr 200 o w (lay0 o) w := ⟨Nat.le_refl _, fun b _ h => ⟨rfl, by unfold lay0; rw [if_neg (by omega)]⟩, rfl, rfl, rfl⟩
theorem RdL.lay0S {xs : List Int} (h : RdL (up o) w v xs) : RdL (lay0 o) w v xs := h.mv (Nat.le_refl _) fun b _ hb => ⟨rfl, by
  unfold up at hb
  unfold Go.Proofs.Ytjmhjobfiemmnaa.lay0
  split at hb
  · rw [if_pos (by assumption)]
  · omega⟩
theorem lay0_ne (o : Tg) (b : Nat) : lay0 o b ≠ 999 := by unfold lay0; split <;> omega
omit [Rp α] in
theorem Stp.lay0S {K : Nat} (h : Stp K (lay0 o) w o' w') (hK : K < 200) (hK0 : K ≠ 0) : Stp K o w (bck o w o') w' :=
  ⟨h.os, h.tape, h.output, h.size, fun b hb h1 => h.block b hb (by unfold Go.Proofs.Ytjmhjobfiemmnaa.lay0; split <;> omega), fun b hb => by unfold Go.Proofs.Ytjmhjobfiemmnaa.bck; rw [if_pos hb]⟩
omit [Rp α] in
theorem Bs.mvr {oo : Tg} {w0 : World} (h : Bs oo o w0 w) (m : Mvr lo o w o' w') (hl : 2 ≤ lo) : Bs oo o' w0 w' :=
  ⟨⟨m.os.trans h.keeps.os, m.tape.trans h.keeps.tape, m.output.trans h.keeps.output, Nat.le_trans h.keeps.size m.z,
    fun b hb => ((m.blk b (Nat.lt_of_lt_of_le hb h.keeps.size) (by rw [h.old b hb]; split <;> omega)).1).trans (h.keeps.block b hb)⟩,
   fun b hb => by rw [(m.blk b (Nat.lt_of_lt_of_le hb h.keeps.size) (by rw [h.old b hb]; split <;> omega)).2]; exact h.old b hb⟩
/-- The own list of numbers under the old tags again. -/
theorem Ow.bckS {xs : List Int} {w1 : World} (h : Ow B e k o' w v xs) (ho : ∀ b, b < w1.heap.size → o' b = Go.Proofs.Ytjmhjobfiemmnaa.lay0 o b) (hk : k ≠ 0) (hk2 : k < 200) : Ow B e k (bck o w1 o') w v xs := by
  obtain ⟨css, h1, h2, h3, h4⟩ := h
  refine ⟨css, h1, h2, fun g hg => ?_, fun i cs x a b => h4 i cs x a b⟩
  have := h3 g hg
  unfold Go.Proofs.Ytjmhjobfiemmnaa.bck
  split
  · rename_i hb
    rw [ho g hb] at this
    unfold Go.Proofs.Ytjmhjobfiemmnaa.lay0 at this
    split at this <;> omega
  · exact this
omit [Rp α] in
theorem Bx.mvr (h : Bx B k o w b e cs) (m : Mvr lo o w o' w') (hk : k < lo) : Bx B k o' w' b e cs := by
  obtain ⟨q1, q2, q3⟩ := h
  have hb : b < w.heap.size := (Array.getElem?_eq_some_iff.1 q1).1
  exact ⟨(m.blk b hb (by rw [q2]; exact hk)).1.trans q1, (m.blk b hb (by rw [q2]; exact hk)).2.trans q2, q3⟩
end
/-- A step for two tags. -/
structure Stp2 (t u : Nat) (o : Tg) (w : World) (o' : Tg) (w' : World) : Prop where
  os : w'.os = w.os
  tape : w'.tape = w.tape
  output : w'.output = w.output
  size : w.heap.size ≤ w'.heap.size
  block : ∀ b, b < w.heap.size → o b ≠ t → o b ≠ u → w'.heap[b]? = w.heap[b]?
  own : ∀ b, b < w.heap.size → o' b = o b
section
variable {t u k K B : Nat} {o o' o'' oo : Tg} {w w' w'' w0 : World} {e : TypeId} {v : Value} {α : Type} [Rp α] {xs : List α} {cs : List Value} {x : α} {b : Nat}
theorem Stp2.refl (t u : Nat) (o : Tg) (w : World) : Stp2 t u o w o w := ⟨rfl, rfl, rfl, Nat.le_refl _, fun _ _ _ _ => rfl, fun _ _ => rfl⟩
theorem Stp.l (h : Stp t o w o' w') (u : Nat) : Stp2 t u o w o' w' := ⟨h.os, h.tape, h.output, h.size, fun b hb h1 _ => h.block b hb h1, h.own⟩
theorem Stp.r (h : Stp u o w o' w') (t : Nat) : Stp2 t u o w o' w' := ⟨h.os, h.tape, h.output, h.size, fun b hb _ h2 => h.block b hb h2, h.own⟩
theorem Stp2.trans (h : Stp2 t u o w o' w') (k : Stp2 t u o' w' o'' w'') : Stp2 t u o w o'' w'' :=
  ⟨k.os.trans h.os, k.tape.trans h.tape, k.output.trans h.output, Nat.le_trans h.size k.size,
    fun b hb h1 h2 => (k.block b (Nat.lt_of_lt_of_le hb h.size) (by rw [h.own b hb]; exact h1) (by rw [h.own b hb]; exact h2)).trans (h.block b hb h1 h2),
    fun b hb => (k.own b (Nat.lt_of_lt_of_le hb h.size)).trans (h.own b hb)⟩
theorem Stp2.tr9 {T : Nat} (h : Stp2 t u o w o' w') (hO : ∀ b, b < w.heap.size → o b ≠ T) (s : Stp T o' w' o'' w'') : Stp2 t u o w o'' w'' :=
  ⟨s.os.trans h.os, s.tape.trans h.tape, s.output.trans h.output, Nat.le_trans h.size s.size,
    fun b hb h1 h2 => (s.block b (Nat.lt_of_lt_of_le hb h.size) (by rw [h.own b hb]; exact hO b hb)).trans (h.block b hb h1 h2),
    fun b hb => (s.own b (Nat.lt_of_lt_of_le hb h.size)).trans (h.own b hb)⟩
theorem Stp2.bckS {lo : Nat} (h : Stp2 t u (prg lo o) w o' w') (ht : t < lo) (hu : u < lo) (hl : lo ≤ 999) : Stp2 t u o w (bck o w o') w' :=
  ⟨h.os, h.tape, h.output, h.size, fun b hb h1 h2 => h.block b hb (by unfold prg; split <;> omega) (by unfold prg; split <;> omega), fun b hb => by unfold Go.Proofs.Ytjmhjobfiemmnaa.bck; rw [if_pos hb]⟩
theorem Stp.trq {T : Nat} (h : Stp t o w o' w') (hO : ∀ b, b < w.heap.size → o b ≠ T) (s : Stp T o' w' o'' w'') : Stp t o w o'' w'' :=
  ⟨s.os.trans h.os, s.tape.trans h.tape, s.output.trans h.output, Nat.le_trans h.size s.size,
    fun b hb h1 => (s.block b (Nat.lt_of_lt_of_le hb h.size) (by rw [h.own b hb]; exact hO b hb)).trans (h.block b hb h1),
    fun b hb => (s.own b (Nat.lt_of_lt_of_le hb h.size)).trans (h.own b hb)⟩
theorem Stp2.trans1 (h : Stp2 t u o w o' w') (k : Stp t o' w' o'' w'') : Stp2 t u o w o'' w'' := h.trans (k.l u)
/-- What was there has tags below 200. -/
theorem Stp.trO {K t : Nat} (h : Stp K o w o' w') (hO : ∀ b, b < w.heap.size → o b < 200 ∨ 1000 ≤ o b) (s : Stp t o' w' o'' w'') (ht : 200 ≤ t ∧ t ≤ 999) : Stp K o w o'' w'' :=
  ⟨s.os.trans h.os, s.tape.trans h.tape, s.output.trans h.output, Nat.le_trans h.size s.size,
    fun b hb h1 => (s.block b (Nat.lt_of_lt_of_le hb h.size) (by rw [h.own b hb]; have := hO b hb; omega)).trans (h.block b hb h1),
    fun b hb => (s.own b (Nat.lt_of_lt_of_le hb h.size)).trans (h.own b hb)⟩
theorem Stp.trO2 {K t : Nat} (h : Stp K o w o' w') (hO : ∀ b, b < w.heap.size → o b < 200 ∨ 1000 ≤ o b) (s : Stp2 t K o' w' o'' w'') (ht : 200 ≤ t ∧ t ≤ 999) : Stp K o w o'' w'' :=
  ⟨s.os.trans h.os, s.tape.trans h.tape, s.output.trans h.output, Nat.le_trans h.size s.size,
    fun b hb h1 => (s.block b (Nat.lt_of_lt_of_le hb h.size) (by rw [h.own b hb]; have := hO b hb; omega) (by rw [h.own b hb]; exact h1)).trans (h.block b hb h1),
    fun b hb => (s.own b (Nat.lt_of_lt_of_le hb h.size)).trans (h.own b hb)⟩
theorem Rp.stp2 (h : Rp.rd o w cs x) (s : Stp2 t u o w o' w') (ht : t ≠ 0) (hu : u ≠ 0) : Rp.rd o' w' cs x :=
  Rp.mv h s.size fun b hb h0 => ⟨s.block b hb (by rw [h0]; exact ht.symm) (by rw [h0]; exact hu.symm), by rw [s.own b hb]; exact h0⟩
theorem RdL.stp2 (h : RdL o w v xs) (s : Stp2 t u o w o' w') (ht : t ≠ 0) (hu : u ≠ 0) : RdL o' w' v xs :=
  h.mv s.size fun b hb h0 => ⟨s.block b hb (by rw [h0]; exact ht.symm) (by rw [h0]; exact hu.symm), by rw [s.own b hb]; exact h0⟩
theorem Bx.stp2 {cs : List Value} (h : Bx B k o w b e cs) (s : Stp2 t u o w o' w') (h1 : k ≠ t) (h2 : k ≠ u) : Bx B k o' w' b e cs := by
  obtain ⟨q1, q2, q3⟩ := h
  have hb : b < w.heap.size := (Array.getElem?_eq_some_iff.1 q1).1
  exact ⟨(s.block b hb (by rw [q2]; exact h1) (by rw [q2]; exact h2)).trans q1, (s.own b hb).trans q2, q3⟩
end
theorem Ow.upS {B k : Nat} {e : TypeId} {o : Tg} {w : World} {v : Value} {xs : List Int} (h : Ow B e k o w v xs) (hk : 200 ≤ k) : RdL (up o) w v xs := by
  have h2 : Ow B e k (fun b => if o b = k then k else 1) w v xs := by
    obtain ⟨css, h1, h2, h3, h4⟩ := h
    exact ⟨css, h1, h2, fun g hg => by show (if o g = k then k else 1) = k; rw [if_pos (h3 g hg)], fun i cs x a b => h4 i cs x a b⟩
  refine h2.freeze fun b _ hb => ?_
  have hb : (if o b = k then k else 1) = 0 ∨ (if o b = k then k else 1) = k := hb
  unfold Go.Proofs.Ytjmhjobfiemmnaa.up
  by_cases h0 : o b = k
  · rw [if_pos (by omega)]
  · rw [if_neg h0] at hb; omega
/-- A call of a function with an effect. -/
theorem wf_calle {P : Program} {n : Nat} {l : List (Nat × Value)} {w : World} {o : Tg} {d : Option Nat} {ty : TypeId} {ps : String} {af : Array Edge} {g : Option (Nat × Bool)} {R : Value → World → Prop} {K : Nat} {Inv : List Int → Tg → World → Prop} {v lv : Value} {F : List Int → List Int → Option (List Int)} {ff x : Operand} {ats : Array TypeId} {s s' ls : List Int}
    (hE : EfV P K Inv v F) (hI : Inv s o w) (hl : RdL (up o) w lv ls) (hF : F ls s = some s') (hf : ev l ff = some v) (hx : ev l x = some lv)
    (h : ∀ o' w', Inv s' o' w' → Stp K o w o' w' → R (.tuple #[]) w') : op1 P ⟨d, .call { callee := .value ff, args := #[x], argTypes := ats }, ty, ps, af, g⟩ n l w R := by
  obtain ⟨m, cap, rfl, hcall, hc⟩ := hE
  have hv : EvL l [x] [lv] := ⟨hx, trivial⟩
  refine op1_enter (f := m) (args := (lv :: cap).toArray) (fun ρ hρ => ?_) (hc s s' o w lv ls hI hl hF) ?_
  · have := EvL.map hρ hv
    simp only [execOp, resolve, Sem.run_bind, hρ ff _ hf, Deferred.ofValue, Sem.run_pure, Result.andThen_ok, invoke]
    simp only [List.map_cons, List.map_nil, List.cons.injEq, and_true] at this
    simp [hcall, this]
  · rintro e w' ⟨rfl, o', hI', hs⟩
    exact ⟨_, rfl, h o' w' hI' hs⟩
namespace Ef
structure Kz (w w' : World) : Prop where
  size : w.heap.size ≤ w'.heap.size
structure Bs (oo o : Tg) (w0 w : World) : Prop where
  keeps : Kz w0 w
theorem Bs.start (oo : Tg) (o : Tg) (w : World) : Bs oo o w w := ⟨⟨Nat.le_refl _⟩⟩
theorem Bs.stp {oo o o' : Tg} {w0 w w' : World} {t : Nat} (h : Bs oo o w0 w) (s : Stp t o w o' w') (ht : 2 ≤ t) : Bs oo o' w0 w' := ⟨⟨Nat.le_trans h.keeps.size s.size⟩⟩
theorem Bs.stpK {oo o o' : Tg} {w0 w w' : World} {t : Nat} (h : Bs oo o w0 w) (s : Stp t o w o' w') : Bs oo o' w0 w' := ⟨⟨Nat.le_trans h.keeps.size s.size⟩⟩
theorem Bs.stp2 {oo o o' : Tg} {w0 w w' : World} {t u : Nat} (h : Bs oo o w0 w) (s : Stp2 t u o w o' w') : Bs oo o' w0 w' := ⟨⟨Nat.le_trans h.keeps.size s.size⟩⟩
end Ef
open Go.RowKit
theorem info2_t_int_Ech : Inf Try.prog 3 (.int .i64 0) 1 8 := by unfold Inf; kernel_rfl

def fI_RootedProblem_eachChoice_1_s1 (p0 : Int) (p1 : Int) (p2 : List Int → List Int → Option (List Int)) (p4_0 : Int) (p4_1 : Int) (self : (List Int) → Int → Int → (List Int → List Int → Option (List Int)) → (List Int) → Int → Int → Option (List Int × List Int)) : ((List Int) × (List Int)) → Option (Lp ((List Int) × (List Int)) ((List Int) × (List Int)) (List Int × List Int)) := fun (s : (List Int) × (List Int)) =>
  (ix s.1 p0) >>= fun x35 =>
  if decide (x35 < p4_0) then
    (ck (p0 + 1)) >>= fun x71 =>
    (self s.2 x71 p1 p2 s.1 p4_0 p4_1) >>= fun x72 =>
    (ix x72.1 p0) >>= fun x79 =>
    (ck (x79 + 1)) >>= fun x85 =>
    (ix x72.1 p0) >>= fun x86 =>
    (st x72.1 p0 x85) >>= fun x95 =>
    some (.go (x95, x72.2))
  else
    some (.out (s.1, s.2))
def fI_RootedProblem_eachChoice_1 : Nat → (List Int) → Int → Int → (List Int → List Int → Option (List Int)) → (List Int) → Int → Int → Option (List Int × List Int)
  | 0 => fun _ _ _ _ _ _ _ => none
  | fuel + 1 => fun s0 p0 p1 p2 p3 p4_0 p4_1 =>
    if p0 == p1 then
      (p2 p3 s0) >>= fun x2 =>
      some (p3, x2)
    else
      (ix p3 p0) >>= fun x8 =>
      (st p3 p0 0) >>= fun x17 =>
      (loopF (fI_RootedProblem_eachChoice_1_s1 p0 p1 p2 p4_0 p4_1 (fI_RootedProblem_eachChoice_1 fuel)) fuel (x17, s0)) >>= fun q25 =>
      match q25 with
      | .inl (y19, y21) =>
        some (y19, y21)
      | .inr _ => none

namespace Ef
def pI_RootedProblem_eachChoice_1 (K : Nat) (Inv : List Int → Tg → World → Prop) (oo o : Tg) (w w1 : World) (u : Value) (r : List Int × List Int) : Ending → World → Prop := fun e w' => ∃ (o' : Tg), e = .returned (.tuple #[]) ∧ Ow w.heap.size 3 204 o' w' u r.1 ∧ Inv r.2 o' w' ∧ Bs oo o' w w' ∧ Stp2 204 K o w1 o' w'
set_option maxRecDepth 100000 in
set_option maxHeartbeats 2000000 in
theorem cI_RootedProblem_eachChoice_1 (fuel : Nat) : ∀ (w : World) (w1 : World) (oo o : Tg) (hB : Bs oo o w w1) (K : Nat) (hK : K < 200) (hK0 : K ≠ 0) (Inv : List Int → Tg → World → Prop) (hIo : InvOk Inv) (s0 : List Int) (hI : Inv s0 o w1) (p0 : Int) (b1 : Nat) (p1 : Int) (cb1 : Bx w.heap.size 202 o w1 b1 3 [.int .i64 p1]) (b2 : Nat) (u2 : Value) (p2 : List Int → List Int → Option (List Int)) (cb2 : Bx w.heap.size 203 o w1 b2 51 [u2]) (g2 : EfV Try.prog K Inv u2 p2) (b3 : Nat) (u3 : Value) (p3 : List Int) (cb3 : Bx w.heap.size 205 o w1 b3 25 [u3]) (g3 : Ow w.heap.size 3 204 o w1 u3 p3) (b4 : Nat) (p4_0 : Int) (p4_1 : Int) (z4_2 : Value) (cb4 : Bx w.heap.size 201 o w1 b4 29 [(.int .i64 p4_0), (.int .i64 p4_1), z4_2]) (b5 : Nat) (cb5 : Bx w.heap.size 206 o w1 b5 61 [(.func (.func 47) #[] #[(.pointer (some ⟨b1, 0, none⟩)), (.pointer (some ⟨b2, 0, none⟩)), (.pointer (some ⟨b3, 0, none⟩)), (.pointer (some ⟨b4, 0, none⟩)), (.pointer (some ⟨b5, 0, none⟩))])]) (r : List Int × List Int) (hF : fI_RootedProblem_eachChoice_1 fuel s0 p0 p1 p2 p3 p4_0 p4_1 = some r), Calls Try.prog 47 #[.int .i64 p0, .pointer (some ⟨b1, 0, none⟩), .pointer (some ⟨b2, 0, none⟩), .pointer (some ⟨b3, 0, none⟩), .pointer (some ⟨b4, 0, none⟩), .pointer (some ⟨b5, 0, none⟩)] w1 (pI_RootedProblem_eachChoice_1 K Inv oo o w w1 u3 r) := by
  induction fuel with
  | zero =>
    intro w w1 oo o hB K hK hK0 Inv hIo s0 hI p0 b1 p1 cb1 b2 u2 p2 cb2 g2 b3 u3 p3 cb3 g3 b4 p4_0 p4_1 z4_2 cb4 b5 cb5 r hF
    unfold fI_RootedProblem_eachChoice_1 at hF
    cases hF
  | succ fuel ih =>
    suffices H : ∀ (w : World) (w1 : World) (oo o : Tg) (hB : Bs oo o w w1) (K : Nat) (hK : K < 200) (hK0 : K ≠ 0) (Inv : List Int → Tg → World → Prop) (hIo : InvOk Inv) (s0 : List Int) (hI : Inv s0 o w1) (p0 : Int) (b1 : Nat) (p1 : Int) (cb1 : Bx w.heap.size 202 o w1 b1 3 [.int .i64 p1]) (b2 : Nat) (u2 : Value) (p2 : List Int → List Int → Option (List Int)) (cb2 : Bx w.heap.size 203 o w1 b2 51 [u2]) (g2 : EfV Try.prog K Inv u2 p2) (b3 : Nat) (u3 : Value) (p3 : List Int) (cb3 : Bx w.heap.size 205 o w1 b3 25 [u3]) (g3 : Ow w.heap.size 3 204 o w1 u3 p3) (b4 : Nat) (p4_0 : Int) (p4_1 : Int) (z4_2 : Value) (cb4 : Bx w.heap.size 201 o w1 b4 29 [(.int .i64 p4_0), (.int .i64 p4_1), z4_2]) (b5 : Nat) (cb5 : Bx w.heap.size 206 o w1 b5 61 [(.func (.func 47) #[] #[(.pointer (some ⟨b1, 0, none⟩)), (.pointer (some ⟨b2, 0, none⟩)), (.pointer (some ⟨b3, 0, none⟩)), (.pointer (some ⟨b4, 0, none⟩)), (.pointer (some ⟨b5, 0, none⟩))])]) (r : List Int × List Int) (hF : fI_RootedProblem_eachChoice_1 (fuel + 1) s0 p0 p1 p2 p3 p4_0 p4_1 = some r) (hO : ∀ b, b < w1.heap.size → o b ≠ 999), Calls Try.prog 47 #[.int .i64 p0, .pointer (some ⟨b1, 0, none⟩), .pointer (some ⟨b2, 0, none⟩), .pointer (some ⟨b3, 0, none⟩), .pointer (some ⟨b4, 0, none⟩), .pointer (some ⟨b5, 0, none⟩)] w1 (pI_RootedProblem_eachChoice_1 K Inv oo o w w1 u3 r) by
      intro w w1 oo o hB K hK hK0 Inv hIo s0 hI p0 b1 p1 cb1 b2 u2 p2 cb2 g2 b3 u3 p3 cb3 g3 b4 p4_0 p4_1 z4_2 cb4 b5 cb5 r hF
      have hm := prg_mvr o w1 (lo := 999) (by decide)
      refine (H w w1 oo (prg 999 o) ⟨hB.keeps⟩ K hK hK0 Inv hIo s0 (hIo _ _ _ _ _ hI (hm.le (by decide))) p0 b1 p1 (cb1.mvr hm (by decide)) b2 u2 p2 (cb2.mvr hm (by decide)) g2 b3 u3 p3 (cb3.mvr hm (by decide)) (g3.mvr hm (by decide) (by decide)) b4 p4_0 p4_1 z4_2 (cb4.mvr hm (by decide)) b5 (cb5.mvr hm (by decide)) r hF fun b _ => prg_ne (by decide) o b).mono ?_
      rintro e w' ⟨o', h1, h2, h3, h4, h5⟩
      have hk := bck_mvr (w' := w') (lo := 999) (by decide) h5.own
      exact ⟨bck o w1 o', h1, h2.mvr hk (by decide) (by decide), hIo _ _ _ _ _ h3 (hk.le (by decide)), ⟨h4.keeps⟩, h5.bckS (by decide) (by omega) (by decide)⟩
    intro w w1 oo o hB K hK hK0 Inv hIo s0 hI p0 b1 p1 cb1 b2 u2 p2 cb2 g2 b3 u3 p3 cb3 g3 b4 p4_0 p4_1 z4_2 cb4 b5 cb5 r hF hO
    unfold fI_RootedProblem_eachChoice_1 at hF
    have hS : Stp2 204 K o w1 o w1 := Stp2.refl _ _ _ _
    refine calls_start (n := 33) (vs := [(.int .i64 p0), (.pointer (some ⟨b1, 0, none⟩)), (.pointer (some ⟨b2, 0, none⟩)), (.pointer (some ⟨b3, 0, none⟩)), (.pointer (some ⟨b4, 0, none⟩)), (.pointer (some ⟨b5, 0, none⟩))]) Try.func47 rfl rfl ?_
    refine wpC_seq ?_
    refine wpC_seq ?_
    refine wpC_region ?_
    refine st_val (ex_move rfl) (by decide) trivial ?_
    refine st_val (ex_load1 rfl Try.isAgg3 (cb1.cell rfl)) (by decide) trivial ?_
    refine st_val (ex_eql rfl rfl) (by decide) trivial ?_
    refine wpF_end (r := [(0, (.int .i64 p0)), (2, (.pointer (some ⟨b2, 0, none⟩))), (3, (.pointer (some ⟨b3, 0, none⟩))), (4, (.pointer (some ⟨b4, 0, none⟩))), (5, (.pointer (some ⟨b5, 0, none⟩))), (9, (.bool (p0 == p1)))]) ⟨rfl, rfl, rfl, rfl, rfl, rfl, trivial⟩ ?_
    refine nx ?_
    refine wpC_cond rfl (fun t1 => ?_) (fun t1 => ?_)
    · rw [if_pos t1] at hF
      refine wpC_seq ?_
      refine wpC_region ?_
      refine st_val (ex_load1 rfl Try.isAgg51 (cb2.cell rfl)) (by decide) trivial ?_
      refine st_val (ex_load1 rfl Try.isAgg25 (cb3.cell rfl)) (by decide) trivial ?_
      obtain ⟨x2, hx2, hF⟩ := bind_some hF
      refine st_op (by decide) trivial ?_
      refine wf_calle g2 hI (g3.upS (by decide)) hx2 rfl rfl ?_
      intro o4 w3 h5 s6
      replace hS := hS.trans (s6.r 204)
      replace g3 := g3.stp s6 hK0 (by omega)
      replace cb1 := cb1.stp s6 (by omega)
      replace cb2 := cb2.stp s6 (by omega)
      replace cb3 := cb3.stp s6 (by omega)
      replace cb4 := cb4.stp s6 (by omega)
      replace cb5 := cb5.stp s6 (by omega)
      replace hB := hB.stpK s6
      refine wpF_end (r := []) trivial ?_
      refine nx ?_
      refine wpC_ret ?_
      refine nt_ret ?_
      have e7 := Option.some.inj hF
      subst e7
      refine ret_post (P := Try.prog) (vs := []) Try.results47 trivial ?_
      exact ⟨o4, rfl, g3, h5, hB, hS⟩
    · rw [if_neg (by rw [t1]; decide)] at hF
      refine wpC_skip ?_
      refine nx ?_
      refine wpC_seq ?_
      refine wpC_region ?_
      refine st_val (ex_load1 rfl Try.isAgg25 (cb3.cell rfl)) (by decide) trivial ?_
      refine st_val (ex_move rfl) (by decide) trivial ?_
      obtain ⟨x8, hx8, hF⟩ := bind_some hF
      refine st_op (by decide) trivial ?_
      refine wf_atP g3 hx8 rfl rfl Try.underlying25 Try.sizeOf3 ?_
      intro b9 c11 h14 h12 h13
      cases h13
      obtain ⟨x17, hx17, hF⟩ := bind_some hF
      refine st_op0 trivial ?_
      refine wf_storeW g3 h14 hx17 rfl (by decide) rfl rfl rfl Try.sizeOf3 rfl ?_
      intro w15 h18 s16
      replace hI := hIo.st (by decide) hI s16
      replace hS := hS.trans (s16.l K)
      replace cb1 := cb1.stp s16 (by decide)
      replace cb2 := cb2.stp s16 (by decide)
      replace cb3 := cb3.stp s16 (by decide)
      replace cb4 := cb4.stp s16 (by decide)
      replace cb5 := cb5.stp s16 (by decide)
      replace hB := hB.stp s16 (by decide)
      refine wpF_end (r := [(0, (.int .i64 p0)), (3, (.pointer (some ⟨b3, 0, none⟩))), (4, (.pointer (some ⟨b4, 0, none⟩))), (5, (.pointer (some ⟨b5, 0, none⟩)))]) ⟨rfl, rfl, rfl, rfl, trivial⟩ ?_
      refine nx ?_
      obtain ⟨q25, hq25, hF⟩ := bind_some hF
      refine wpC_cutN (fun a w24 => ∃ (y19 : List Int) (y21 : List Int) (o23 : Tg), q25 = .inl (y19, y21) ∧ Fr a 33 [] ∧ Bs oo o23 w w24 ∧ Inv y21 o23 w24 ∧ Stp2 204 K o w1 o23 w24 ∧ Bx w.heap.size 206 o23 w24 b5 61 [(.func (.func 47) #[] #[(.pointer (some ⟨b1, 0, none⟩)), (.pointer (some ⟨b2, 0, none⟩)), (.pointer (some ⟨b3, 0, none⟩)), (.pointer (some ⟨b4, 0, none⟩)), (.pointer (some ⟨b5, 0, none⟩))])] ∧ Bx w.heap.size 201 o23 w24 b4 29 [(.int .i64 p4_0), (.int .i64 p4_1), z4_2] ∧ Bx w.heap.size 205 o23 w24 b3 25 [u3] ∧ Ow w.heap.size 3 204 o23 w24 u3 y19 ∧ Bx w.heap.size 203 o23 w24 b2 51 [u2] ∧ Bx w.heap.size 202 o23 w24 b1 3 [(.int .i64 p1)]) (fun _ _ => False) ?_ ?_ ?_
      · refine wpC_block ?_
        refine wpC_loop (fun (J9 : Nat) a w24 => ∃ (y19 : List Int) (y21 : List Int) (o23 : Tg), loopF (fI_RootedProblem_eachChoice_1_s1 p0 p1 p2 p4_0 p4_1 (fI_RootedProblem_eachChoice_1 fuel)) J9 (y19, y21) = some q25 ∧ Fr a 33 [(0, (.int .i64 p0)), (3, (.pointer (some ⟨b3, 0, none⟩))), (4, (.pointer (some ⟨b4, 0, none⟩))), (5, (.pointer (some ⟨b5, 0, none⟩)))] ∧ Bs oo o23 w w24 ∧ Inv y21 o23 w24 ∧ Stp2 204 K o w1 o23 w24 ∧ Bx w.heap.size 206 o23 w24 b5 61 [(.func (.func 47) #[] #[(.pointer (some ⟨b1, 0, none⟩)), (.pointer (some ⟨b2, 0, none⟩)), (.pointer (some ⟨b3, 0, none⟩)), (.pointer (some ⟨b4, 0, none⟩)), (.pointer (some ⟨b5, 0, none⟩))])] ∧ Bx w.heap.size 201 o23 w24 b4 29 [(.int .i64 p4_0), (.int .i64 p4_1), z4_2] ∧ Bx w.heap.size 205 o23 w24 b3 25 [u3] ∧ Ow w.heap.size 3 204 o23 w24 u3 y19 ∧ Bx w.heap.size 203 o23 w24 b2 51 [u2] ∧ Bx w.heap.size 202 o23 w24 b1 3 [(.int .i64 p1)]) fuel (fun a ha => ⟨x17, s0, o, hq25, ha.sub (r := [(0, (.int .i64 p0)), (3, (.pointer (some ⟨b3, 0, none⟩))), (4, (.pointer (some ⟨b4, 0, none⟩))), (5, (.pointer (some ⟨b5, 0, none⟩)))]) ⟨rfl, rfl, rfl, rfl, trivial⟩, hB, hI, hS, cb5, cb4, cb3, h18, cb2, cb1⟩) ?_
        rintro K29 a w24 ⟨y19, y21, o23, l26, ha, hB, h22, hS, cb5, cb4, cb3, h20, cb2, cb1⟩
        obtain ⟨K33, q30, e34, b31, n32⟩ := loopF_cons l26
        dsimp only [fI_RootedProblem_eachChoice_1_s1] at b31
        refine wp_of ha ?_
        refine wpC_seq ?_
        refine wpC_seq ?_
        obtain ⟨x35, hx35, b31⟩ := bind_some b31
        refine wpC_drawn (o := o23) [(0, (.int .i64 p0)), (3, (.pointer (some ⟨b3, 0, none⟩))), (4, (.pointer (some ⟨b4, 0, none⟩))), (5, (.pointer (some ⟨b5, 0, none⟩)))] [0, 3, 4, 5] [16, 17, 18, 19, 20, 21] [[], [], [0, 1], [2], [], [4]] [none, none, none, none, none, none] [999, 999, 999, 999, 999, 999] [0, 0, 204, 0, 0, 0] [999] [fun v _ _ => v = u3, fun v _ _ => v = (.int .i64 p0), fun v o w9 => ∃ vl, v = adr vl (p0.toNat * Rp.sz Int) ∧ Ow w.heap.size 3 204 o w9 vl y19, fun v _ _ => v = (.int .i64 x35), fun v _ _ => v = (.pointer (some ⟨b4, 0 + 0, none⟩)), fun v _ _ => v = (.int .i64 p4_0)] (fun o8 w8 => Bs oo o8 w w8 ∧ Inv y21 o8 w8 ∧ Stp2 204 K o w1 o8 w8 ∧ Bx w.heap.size 206 o8 w8 b5 61 [(.func (.func 47) #[] #[(.pointer (some ⟨b1, 0, none⟩)), (.pointer (some ⟨b2, 0, none⟩)), (.pointer (some ⟨b3, 0, none⟩)), (.pointer (some ⟨b4, 0, none⟩)), (.pointer (some ⟨b5, 0, none⟩))])] ∧ Bx w.heap.size 201 o8 w8 b4 29 [(.int .i64 p4_0), (.int .i64 p4_1), z4_2] ∧ Bx w.heap.size 205 o8 w8 b3 25 [u3] ∧ Ow w.heap.size 3 204 o8 w8 u3 y19 ∧ Bx w.heap.size 203 o8 w8 b2 51 [u2] ∧ Bx w.heap.size 202 o8 w8 b1 3 [(.int .i64 p1)]) follows_mixed (by kernel_rfl) rfl ⟨rfl, rfl, rfl, rfl, trivial⟩ ⟨hB, h22, hS, cb5, cb4, cb3, h20, cb2, cb1⟩ ?_ ⟨st_eq _, st_eq _, fun _ _ _ _ _ _ h0 hb ⟨vl, e, h⟩ hs => ⟨vl, e, h.stp hs h0.1 (Ne.symm hb)⟩, st_eq _, st_eq _, st_eq _, trivial⟩ ?_ ?_
        · rintro t9 o1 w1 o2 w2 ht9 ⟨hB, h22, hS, cb5, cb4, cb3, h20, cb2, cb1⟩ hs9
          have ht9 : t9 = 999 := by simpa using ht9
          subst ht9
          all_goals exact ⟨hB.stp hs9 (by decide), hIo.st (by decide) h22 hs9, hS.tr9 hO hs9, cb5.stp hs9 (by decide), cb4.stp hs9 (by decide), cb3.stp hs9 (by decide), h20.stp hs9 (by decide) (by decide), cb2.stp hs9 (by decide), cb1.stp hs9 (by decide)⟩
        · refine ⟨?_, ?_, ?_, ?_, ?_, ?_, trivial⟩
          · rintro o38 w39 a40 ha ⟨hB, h22, hS, cb5, cb4, cb3, h20, cb2, cb1⟩ -
            refine opS_of ha (trivial) ?_
            refine op1_val (ex_load1 rfl Try.isAgg25 (cb3.cell rfl)) ?_
            exact ⟨_, Stp.refl _ _ _, rfl⟩
          · rintro o41 w42 a43 ha ⟨hB, h22, hS, cb5, cb4, cb3, h20, cb2, cb1⟩ -
            refine opS_of ha (trivial) ?_
            refine op1_val (ex_move rfl) ?_
            exact ⟨_, Stp.refl _ _ _, rfl⟩
          · rintro o44 w45 a46 ha ⟨hB, h22, hS, cb5, cb4, cb3, h20, cb2, cb1⟩ ⟨r47, r48, -⟩
            have ha := Fr.cons (d := 16) ha r47
            have ha := Fr.cons (d := 17) ha r48
            refine opS_of ha (trivial) ?_
            refine wd_indexW h20 hx35 rfl rfl Try.underlying25 Try.sizeOf3 ?_
            exact ⟨_, Stp.refl _ _ _, ⟨_, rfl, h20⟩⟩
          · rintro o49 w50 a51 ha ⟨hB, h22, hS, cb5, cb4, cb3, h20, cb2, cb1⟩ ⟨r52, -⟩
            obtain ⟨v53, e54, h55⟩ := r52
            have ha := Fr.cons (d := 18) ha e54
            refine opS_of ha (trivial) ?_
            refine wd_load1W h55 hx35 rfl rfl Try.isAgg3 ?_
            intro c56 h57
            cases h57
            exact ⟨_, Stp.refl _ _ _, rfl⟩
          · rintro o58 w59 a60 ha ⟨hB, h22, hS, cb5, cb4, cb3, h20, cb2, cb1⟩ -
            refine opS_of ha (trivial) ?_
            refine op1_val (ex_field rfl Try.underlying29 rfl Try.sizeOf3) ?_
            exact ⟨_, Stp.refl _ _ _, rfl⟩
          · rintro o61 w62 a63 ha ⟨hB, h22, hS, cb5, cb4, cb3, h20, cb2, cb1⟩ ⟨r64, -⟩
            have ha := Fr.cons (d := 20) ha r64
            refine opS_of ha (trivial) ?_
            refine op1_val (ex_load1 rfl Try.isAgg3 (cb4.cell rfl)) ?_
            exact ⟨_, Stp.refl _ _ _, rfl⟩
        rintro o65 w66 a67 ha ⟨hB, h22, hS, cb5, cb4, cb3, h20, cb2, cb1⟩ ⟨-, -, -, r68, -, r69, -⟩
        have ha := Fr.cons (d := 19) ha r68
        have ha := Fr.cons (d := 21) ha r69
        refine wl_of ha ?_
        simp only [List.length_cons, List.length_nil, Nat.zero_add, Nat.reduceAdd, List.drop_succ_cons, List.drop_zero]
        refine st_val (ex_lss rfl rfl) (by decide) trivial ?_
        refine wpF_end (r := [(0, (.int .i64 p0)), (3, (.pointer (some ⟨b3, 0, none⟩))), (4, (.pointer (some ⟨b4, 0, none⟩))), (5, (.pointer (some ⟨b5, 0, none⟩))), (22, (.bool (decide (x35 < p4_0))))]) ⟨rfl, rfl, rfl, rfl, rfl, trivial⟩ ?_
        refine nx ?_
        refine wpC_cond rfl (fun t70 => ?_) (fun t70 => ?_)
        · rw [if_pos t70] at b31
          refine wpC_skip ?_
          refine nx ?_
          refine wpC_seq ?_
          refine wpC_block ?_
          refine wpC_region ?_
          refine st_val (ex_load1 rfl Try.isAgg61 (cb5.cell rfl)) (by decide) trivial ?_
          refine st_val (ex_move rfl) (by decide) trivial ?_
          obtain ⟨x71, hx71, b31⟩ := bind_some b31
          refine st_val (ex_add rfl rfl hx71) (by decide) trivial ?_
          obtain ⟨x72, hx72, b31⟩ := bind_some b31
          refine st_op (by decide) trivial ?_
          refine wf_callc (vs := [(.int .i64 x71)]) (cap := [(.pointer (some ⟨b1, 0, none⟩)), (.pointer (some ⟨b2, 0, none⟩)), (.pointer (some ⟨b3, 0, none⟩)), (.pointer (some ⟨b4, 0, none⟩)), (.pointer (some ⟨b5, 0, none⟩))]) (ih w w66 oo o65 hB K hK hK0 Inv hIo y21 h22 x71 b1 p1 cb1 b2 u2 p2 cb2 g2 b3 u3 y19 cb3 h20 b4 p4_0 p4_1 z4_2 cb4 b5 cb5 x72 hx72) Try.call47 rfl ⟨rfl, trivial⟩ ?_
          rintro e75 w73 ⟨o74, rfl, h76, h77, -, s78⟩
          refine ⟨_, rfl, ?_⟩
          replace hS := hS.trans s78
          replace cb1 := cb1.stp2 s78 (by decide) (by omega)
          replace cb2 := cb2.stp2 s78 (by decide) (by omega)
          replace cb3 := cb3.stp2 s78 (by decide) (by omega)
          replace cb4 := cb4.stp2 s78 (by decide) (by omega)
          replace cb5 := cb5.stp2 s78 (by decide) (by omega)
          replace hB := hB.stp2 s78
          refine wpF_end (r := [(0, (.int .i64 p0)), (3, (.pointer (some ⟨b3, 0, none⟩))), (4, (.pointer (some ⟨b4, 0, none⟩))), (5, (.pointer (some ⟨b5, 0, none⟩)))]) ⟨rfl, rfl, rfl, rfl, trivial⟩ ?_
          refine nb_norm ?_
          refine nx ?_
          refine wpC_region ?_
          refine st_val (ex_load1 rfl Try.isAgg25 (cb3.cell rfl)) (by decide) trivial ?_
          refine st_val (ex_move rfl) (by decide) trivial ?_
          obtain ⟨x79, hx79, b31⟩ := bind_some b31
          refine st_op (by decide) trivial ?_
          refine wf_atW h76 hx79 rfl rfl Try.underlying25 Try.sizeOf3 ?_
          intro b80 f81 c82 h83 h84
          cases h84
          refine st_val (ex_load1 rfl Try.isAgg3 (cell_of_cells h83)) (by decide) trivial ?_
          obtain ⟨x85, hx85, b31⟩ := bind_some b31
          refine st_val (ex_add rfl rfl hx85) (by decide) trivial ?_
          obtain ⟨x86, hx86, b31⟩ := bind_some b31
          refine st_op (by decide) trivial ?_
          refine wf_atP h76 hx86 rfl rfl Try.underlying25 Try.sizeOf3 ?_
          intro b87 c89 h92 h90 h91
          cases h91
          obtain ⟨x95, hx95, b31⟩ := bind_some b31
          refine st_op0 trivial ?_
          refine wf_storeW h76 h92 hx95 rfl (by decide) rfl rfl rfl Try.sizeOf3 rfl ?_
          intro w93 h96 s94
          replace h77 := hIo.st (by decide) h77 s94
          replace hS := hS.trans (s94.l K)
          replace cb1 := cb1.stp s94 (by decide)
          replace cb2 := cb2.stp s94 (by decide)
          replace cb3 := cb3.stp s94 (by decide)
          replace cb4 := cb4.stp s94 (by decide)
          replace cb5 := cb5.stp s94 (by decide)
          replace hB := hB.stp s94 (by decide)
          refine wpF_end (r := [(0, (.int .i64 p0)), (3, (.pointer (some ⟨b3, 0, none⟩))), (4, (.pointer (some ⟨b4, 0, none⟩))), (5, (.pointer (some ⟨b5, 0, none⟩)))]) ⟨rfl, rfl, rfl, rfl, trivial⟩ ?_
          refine nt_norm ?_
          have e97 := Option.some.inj b31
          subst e97
          refine to_k (r := [(0, (.int .i64 p0)), (3, (.pointer (some ⟨b3, 0, none⟩))), (4, (.pointer (some ⟨b4, 0, none⟩))), (5, (.pointer (some ⟨b5, 0, none⟩)))]) ⟨rfl, rfl, rfl, rfl, trivial⟩ ?_
          intro a ha
          exact ⟨K33, by omega, x95, x72.2, o74, n32, ha, hB, h77, hS, cb5, cb4, cb3, h96, cb2, cb1⟩
        · rw [if_neg (by rw [t70]; decide)] at b31
          refine wpC_exit ?_
          refine nt_exit ?_
          refine nt_exit ?_
          refine nb_hit ?_
          refine np_norm ?_
          have e98 := Option.some.inj b31
          subst e98
          refine to_k (r := []) trivial ?_
          intro a ha
          exact ⟨y19, y21, o65, n32, ha, hB, h22, hS, cb5, cb4, cb3, h20, cb2, cb1⟩
      · rintro a w24 ⟨y19, y21, o23, rfl, ha, hB, h22, hS, cb5, cb4, cb3, h20, cb2, cb1⟩
        dsimp only at hF
        refine ap_k ha ?_
        have e99 := Option.some.inj hF
        subst e99
        refine ret_norm (P := Try.prog) (vs := []) Try.results47 trivial ?_
        exact ⟨o23, rfl, h20, h22, hB, hS⟩
      · exact fun _ _ h => h.elim
end Ef

def fI_RootedProblem_eachChoice (fuel : Nat) (s0 : List Int) (p0_0 : Int) (p0_1 : Int) (p1 : Int) (p2 : List Int → List Int → Option (List Int)) : Option (List Int) :=
  (mk (Rz.z : Int) p1) >>= fun x16 =>
  (fI_RootedProblem_eachChoice_1 fuel s0 0 p1 p2 x16 p0_0 p0_1) >>= fun x38 =>
  some x38.2

namespace Ef
def pI_RootedProblem_eachChoice (K : Nat) (Inv : List Int → Tg → World → Prop) (o : Tg) (w : World) (r : List Int) : Ending → World → Prop := fun e w' => ∃ (o' : Tg), e = .returned (.tuple #[]) ∧ Inv r o' w' ∧ Stp K o w o' w'
set_option maxRecDepth 100000 in
set_option maxHeartbeats 2000000 in
theorem cI_RootedProblem_eachChoice_core (fuel : Nat) (w : World) (o : Tg) (K : Nat) (hK : K < 200) (hK0 : K ≠ 0) (Inv : List Int → Tg → World → Prop) (hIo : InvOk Inv) (s0 : List Int) (hI : Inv s0 o w) (p0_0 : Int) (p0_1 : Int) (z0_2 : Value) (p1 : Int) (u2 : Value) (p2 : List Int → List Int → Option (List Int)) (hE : EfV Try.prog K Inv u2 p2) (r : List Int) (hO : ∀ b, b < w.heap.size → o b < 200 ∨ 1000 ≤ o b) (hF : fI_RootedProblem_eachChoice fuel s0 p0_0 p0_1 p1 p2 = some r) :
    Calls Try.prog 27 #[(.agg #[(.int .i64 p0_0), (.int .i64 p0_1), z0_2]), .int .i64 p1, u2] w (pI_RootedProblem_eachChoice K Inv o w r) := by
  unfold fI_RootedProblem_eachChoice at hF
  have hB : Bs (fun _ => 1) o w w := Bs.start _ _ _
  have hS : Stp K o w o w := Stp.refl _ _ _
  refine calls_start (n := 13) (vs := [(.agg #[(.int .i64 p0_0), (.int .i64 p0_1), z0_2]), (.int .i64 p1), u2]) Try.func27 rfl rfl ?_
  refine wpC_seq ?_
  refine wpC_region ?_
  refine st_op (by decide) trivial ?_
  refine wf_box (o := o) w.heap.size 201 hB.keeps.size (cs := [(.int .i64 p0_0), (.int .i64 p0_1), z0_2]) rfl rfl ?_
  intro o1 w2 b3 h4 s5
  replace hI := hIo.st (by decide) hI s5
  replace hS := hS.trO hO s5 (by decide)
  replace hB := hB.stp s5 (by decide)
  refine st_op (by decide) trivial ?_
  refine wf_box (o := o1) w.heap.size 202 hB.keeps.size (cs := [(.int .i64 p1)]) rfl rfl ?_
  intro o6 w7 b8 h9 s10
  replace hI := hIo.st (by decide) hI s10
  replace hS := hS.trO hO s10 (by decide)
  replace h4 := h4.stp s10 (by decide)
  replace hB := hB.stp s10 (by decide)
  refine st_op (by decide) trivial ?_
  refine wf_box (o := o6) w.heap.size 203 hB.keeps.size (cs := [u2]) hE.cells1 rfl ?_
  intro o11 w12 b13 h14 s15
  replace hI := hIo.st (by decide) hI s15
  replace hS := hS.trO hO s15 (by decide)
  replace h4 := h4.stp s15 (by decide)
  replace h9 := h9.stp s15 (by decide)
  replace hB := hB.stp s15 (by decide)
  refine wpF_end (r := [(3, (.pointer (some ⟨b3, 0, none⟩))), (4, (.pointer (some ⟨b8, 0, none⟩))), (5, (.pointer (some ⟨b13, 0, none⟩)))]) ⟨rfl, rfl, rfl, trivial⟩ ?_
  refine nx ?_
  refine wpC_seq ?_
  refine wpC_region ?_
  refine st_val (ex_load1 rfl Try.isAgg3 (h9.cell rfl)) (by decide) trivial ?_
  obtain ⟨x16, hx16, hF⟩ := bind_some hF
  refine st_op (by decide) trivial ?_
  refine wf_make (o := o11) w.heap.size 204 hB.keeps.size hx16 rfl rfl Try.underlying25 info2_t_int_Ech rfl (by decide) ?_
  intro o17 w18 v19 h20 s21
  replace hI := hIo.st (by decide) hI s21
  replace hS := hS.trO hO s21 (by decide)
  replace h4 := h4.stp s21 (by decide)
  replace h9 := h9.stp s21 (by decide)
  replace h14 := h14.stp s21 (by decide)
  replace hB := hB.stp s21 (by decide)
  refine st_op (by decide) trivial ?_
  refine wf_alloc (o := o17) w.heap.size 205 hB.keeps.size (cs := [(.slice none 0 0)]) Try.zeroValue25 rfl ?_
  intro o22 w23 b24 h25 s26
  replace hI := hIo.st (by decide) hI s26
  replace hS := hS.trO hO s26 (by decide)
  replace h20 := h20.stp s26 (by decide) (by decide)
  replace h4 := h4.stp s26 (by decide)
  replace h9 := h9.stp s26 (by decide)
  replace h14 := h14.stp s26 (by decide)
  replace hB := hB.stp s26 (by decide)
  refine st_op0 trivial ?_
  refine wf_storeB h25 rfl rfl (of_decide_eq_true rfl) Try.sizeOf25 h20.cells1 h20.one1 ?_
  intro w27 h29 s28
  replace hI := hIo.st (by decide) hI s28
  replace hS := hS.trO hO s28 (by decide)
  replace h20 := h20.stp s28 (by decide) (by decide)
  replace h4 := h4.stp s28 (by decide)
  replace h9 := h9.stp s28 (by decide)
  replace h14 := h14.stp s28 (by decide)
  replace hB := hB.stp s28 (by decide)
  replace h29 : Bx w.heap.size 205 o22 w27 b24 25 [v19] := h29
  refine wpF_end (r := [(3, (.pointer (some ⟨b3, 0, none⟩))), (4, (.pointer (some ⟨b8, 0, none⟩))), (5, (.pointer (some ⟨b13, 0, none⟩))), (6, (.pointer (some ⟨b24, 0, none⟩)))]) ⟨rfl, rfl, rfl, rfl, trivial⟩ ?_
  refine nx ?_
  refine wpC_seq ?_
  refine wpC_region ?_
  refine st_op (by decide) trivial ?_
  refine wf_alloc (o := o22) w.heap.size 206 hB.keeps.size (cs := [.nilFunc]) Try.zeroValue61 rfl ?_
  intro o30 w31 b32 h33 s34
  replace hI := hIo.st (by decide) hI s34
  replace hS := hS.trO hO s34 (by decide)
  replace h4 := h4.stp s34 (by decide)
  replace h9 := h9.stp s34 (by decide)
  replace h14 := h14.stp s34 (by decide)
  replace h29 := h29.stp s34 (by decide)
  replace h20 := h20.stp s34 (by decide) (by decide)
  replace hB := hB.stp s34 (by decide)
  refine wpF_end (r := [(3, (.pointer (some ⟨b3, 0, none⟩))), (4, (.pointer (some ⟨b8, 0, none⟩))), (5, (.pointer (some ⟨b13, 0, none⟩))), (6, (.pointer (some ⟨b24, 0, none⟩))), (7, (.pointer (some ⟨b32, 0, none⟩)))]) ⟨rfl, rfl, rfl, rfl, rfl, trivial⟩ ?_
  refine nx ?_
  refine wpC_seq ?_
  refine wpC_region ?_
  refine st_val (ex_func (vs := [(.pointer (some ⟨b8, 0, none⟩)), (.pointer (some ⟨b13, 0, none⟩)), (.pointer (some ⟨b24, 0, none⟩)), (.pointer (some ⟨b3, 0, none⟩)), (.pointer (some ⟨b32, 0, none⟩))]) ⟨rfl, rfl, rfl, rfl, rfl, trivial⟩) (by decide) trivial ?_
  refine st_op0 trivial ?_
  refine wf_storeB h33 rfl rfl (of_decide_eq_true rfl) Try.sizeOf61 rfl rfl ?_
  intro w35 h37 s36
  replace hI := hIo.st (by decide) hI s36
  replace hS := hS.trO hO s36 (by decide)
  replace h4 := h4.stp s36 (by decide)
  replace h9 := h9.stp s36 (by decide)
  replace h14 := h14.stp s36 (by decide)
  replace h29 := h29.stp s36 (by decide)
  replace h20 := h20.stp s36 (by decide) (by decide)
  replace hB := hB.stp s36 (by decide)
  replace h37 : Bx w.heap.size 206 o30 w35 b32 61 [(.func (.func 47) #[] #[(.pointer (some ⟨b8, 0, none⟩)), (.pointer (some ⟨b13, 0, none⟩)), (.pointer (some ⟨b24, 0, none⟩)), (.pointer (some ⟨b3, 0, none⟩)), (.pointer (some ⟨b32, 0, none⟩))])] := h37
  refine wpF_end (r := [(7, (.pointer (some ⟨b32, 0, none⟩)))]) ⟨rfl, trivial⟩ ?_
  refine nx ?_
  refine wpC_region ?_
  refine st_val (ex_load1 rfl Try.isAgg61 (h37.cell rfl)) (by decide) trivial ?_
  obtain ⟨x38, hx38, hF⟩ := bind_some hF
  refine st_op (by decide) trivial ?_
  refine wf_callc (vs := [(.int .i64 0)]) (cap := [(.pointer (some ⟨b8, 0, none⟩)), (.pointer (some ⟨b13, 0, none⟩)), (.pointer (some ⟨b24, 0, none⟩)), (.pointer (some ⟨b3, 0, none⟩)), (.pointer (some ⟨b32, 0, none⟩))]) (cI_RootedProblem_eachChoice_1 fuel w w35 (fun _ => 1) o30 hB K hK hK0 Inv hIo s0 hI 0 b8 p1 h9 b13 u2 p2 h14 hE b24 v19 x16 h29 h20 b3 p0_0 p0_1 z0_2 h4 b32 h37 x38 hx38) Try.call47 rfl ⟨rfl, trivial⟩ ?_
  rintro e41 w39 ⟨o40, rfl, h42, h43, -, s44⟩
  refine ⟨_, rfl, ?_⟩
  replace hS := hS.trO2 hO s44 (by decide)
  replace h4 := h4.stp2 s44 (by decide) (by omega)
  replace h9 := h9.stp2 s44 (by decide) (by omega)
  replace h14 := h14.stp2 s44 (by decide) (by omega)
  replace h29 := h29.stp2 s44 (by decide) (by omega)
  replace h37 := h37.stp2 s44 (by decide) (by omega)
  replace hB := hB.stp2 s44
  refine wpF_end (r := []) trivial ?_
  have e45 := Option.some.inj hF
  subst e45
  refine ret_norm (P := Try.prog) (vs := []) Try.results27 trivial ?_
  exact ⟨o40, rfl, h43, hS⟩
theorem cI_RootedProblem_eachChoice (fuel : Nat) (w : World) (o : Tg) (K : Nat) (hK : K < 200) (hK0 : K ≠ 0) (Inv : List Int → Tg → World → Prop) (hIo : InvOk Inv) (s0 : List Int) (hI : Inv s0 o w) (p0_0 : Int) (p0_1 : Int) (z0_2 : Value) (p1 : Int) (u2 : Value) (p2 : List Int → List Int → Option (List Int)) (hE : EfV Try.prog K Inv u2 p2) (r : List Int) (hF : fI_RootedProblem_eachChoice fuel s0 p0_0 p0_1 p1 p2 = some r) :
    Calls Try.prog 27 #[(.agg #[(.int .i64 p0_0), (.int .i64 p0_1), z0_2]), .int .i64 p1, u2] w (pI_RootedProblem_eachChoice K Inv o w r) := by
  refine (cI_RootedProblem_eachChoice_core fuel w (prg 200 o) K hK hK0 Inv hIo s0 (hIo _ _ _ _ _ hI (prg_mvr o w (by decide))) p0_0 p0_1 z0_2 p1 u2 p2 hE r (fun b _ => prg_or o b) hF).mono ?_
  rintro e w' ⟨o', h1, h2, h3⟩
  exact ⟨bck o w o', h1, hIo _ _ _ _ _ h2 (bck_mvr (by decide) h3.own), h3.bckS (by omega) (by decide)⟩
end Ef
open Go.RowKit
def fI_oneIf (p0 : Bool) : Option Int :=
  if p0 then
    some 1
  else
    some 0

def pI_oneIf (w : World) (r : Int) : Ending → World → Prop := fun e w' => e = .returned (.int .i64 r) ∧ Keeps w w'
set_option maxRecDepth 100000 in
set_option maxHeartbeats 2000000 in
theorem cI_oneIf (w : World) (p0 : Bool) (r : Int) (hF : fI_oneIf p0 = some r) :
    Calls Try.prog 26 #[.bool p0] w (pI_oneIf w r) := by
  unfold fI_oneIf at hF
  have hB : Bs (fun _ => 1) (col (fun _ => 1)) w w := Bs.start _ _
  refine calls_start (n := 4) (vs := [(.bool p0)]) Try.func26 rfl rfl ?_
  refine wpC_seq ?_
  refine wpC_region ?_
  refine st_val (ex_assign rfl) (by decide) trivial ?_
  refine wpF_end (r := [(0, (.bool p0))]) ⟨rfl, trivial⟩ ?_
  refine nx ?_
  refine wpC_seq ?_
  refine wpC_seq ?_
  refine wpC_region ?_
  refine st_val (ex_move rfl) (by decide) trivial ?_
  refine wpF_end (r := [(3, (.bool p0))]) ⟨rfl, trivial⟩ ?_
  refine nx ?_
  refine wpC_cond rfl (fun t1 => ?_) (fun t1 => ?_)
  · rw [if_pos t1] at hF
    refine wpC_seq ?_
    refine wpC_region ?_
    refine st_val (ex_assign rfl) (by decide) trivial ?_
    refine wpF_end (r := [(2, (.int .i64 1))]) ⟨rfl, trivial⟩ ?_
    refine nx ?_
    refine wpC_ret ?_
    refine nt_ret ?_
    have e2 := Option.some.inj hF
    subst e2
    refine ret_post (P := Try.prog) (vs := [(.int .i64 1)]) Try.results26 ⟨rfl, trivial⟩ ?_
    exact ⟨rfl, hB.keeps⟩
  · rw [if_neg (by rw [t1]; decide)] at hF
    refine wpC_skip ?_
    refine nx ?_
    refine wpC_seq ?_
    refine wpC_region ?_
    refine st_val (ex_assign rfl) (by decide) trivial ?_
    refine wpF_end (r := [(2, (.int .i64 0))]) ⟨rfl, trivial⟩ ?_
    refine nx ?_
    refine wpC_ret ?_
    have e3 := Option.some.inj hF
    subst e3
    refine ret_post (P := Try.prog) (vs := [(.int .i64 0)]) Try.results26 ⟨rfl, trivial⟩ ?_
    exact ⟨rfl, hB.keeps⟩

def fI_times (p0 : Int) (p1 : Int) : Option Int :=
  (
    if p0 != 0 then
      (quo 1000000000001 p0) >>= fun x5 =>
      some (decide (p1 > x5))
    else
      some false) >>= fun q1 =>
  if q1 then
    some 1000000000001
  else
    (ck (p0 * p1)) >>= fun x11 =>
    some x11

def pI_times (w : World) (r : Int) : Ending → World → Prop := fun e w' => e = .returned (.int .i64 r) ∧ Keeps w w'
set_option maxRecDepth 100000 in
set_option maxHeartbeats 2000000 in
theorem cI_times (w : World) (p0 : Int) (p1 : Int) (r : Int) (hF : fI_times p0 p1 = some r) :
    Calls Try.prog 29 #[.int .i64 p0, .int .i64 p1] w (pI_times w r) := by
  unfold fI_times at hF
  have hB : Bs (fun _ => 1) (col (fun _ => 1)) w w := Bs.start _ _
  refine calls_start (n := 16) (vs := [(.int .i64 p0), (.int .i64 p1)]) Try.func29 rfl rfl ?_
  refine wpC_seq ?_
  refine wpC_region ?_
  refine st_val (ex_assign rfl) (by decide) trivial ?_
  refine wpF_end (r := [(0, (.int .i64 p0)), (1, (.int .i64 p1))]) ⟨rfl, rfl, trivial⟩ ?_
  refine nx ?_
  refine wpC_seq ?_
  refine wpC_seq ?_
  refine wpC_region ?_
  refine st_val (ex_move rfl) (by decide) trivial ?_
  refine st_val (ex_neq rfl rfl) (by decide) trivial ?_
  refine st_val (ex_move rfl) (by decide) trivial ?_
  obtain ⟨q1, hq1, hF⟩ := bind_some hF
  refine wpF_cutAt 5 (fun a3 w2 => Fr a3 16 [(0, (.int .i64 p0)), (1, (.int .i64 p1)), (12, (.bool q1))] ∧ Keeps w w2) ?_ ?_
  all_goals simp only [List.take_succ_cons, List.take_zero, List.drop_succ_cons, List.drop_zero]
  · have kp : Keeps w w := Keeps.refl _
    rcases Bool.eq_false_or_eq_true (p0 != 0) with t4 | t4
    · rw [if_pos t4] at hq1
      refine st_val (ex_move rfl) (by decide) ⟨_, rfl, (congrArg (fun b => some (Value.bool b)) t4)⟩ ?_
      refine st_val (ex_move rfl) (by decide) ⟨_, rfl, (congrArg (fun b => some (Value.bool b)) t4)⟩ ?_
      obtain ⟨x5, hx5, hq1⟩ := bind_some hq1
      refine st_val (ex_quo rfl rfl hx5) (by decide) ⟨_, rfl, (congrArg (fun b => some (Value.bool b)) t4)⟩ ?_
      refine st_val (ex_gtr rfl rfl) (by decide) ⟨_, rfl, (congrArg (fun b => some (Value.bool b)) t4)⟩ ?_
      refine st_val (ex_pick_t (congrArg (fun b => some (Value.bool b)) t4) rfl) (by decide) trivial ?_
      have hq12 := Option.some.inj hq1
      refine wpF_end (r := [(0, (.int .i64 p0)), (1, (.int .i64 p1)), (12, (.bool (decide (p1 > x5))))]) ⟨rfl, rfl, rfl, trivial⟩ ?_
      subst hq12
      refine np_norm (fun a ha => ⟨ha, kp⟩)
    · rw [if_neg (by rw [t4]; decide)] at hq1
      refine st_no rfl rfl (by rw [t4]; rfl) (by decide) ?_
      refine st_no rfl rfl (by rw [t4]; rfl) (by decide) ?_
      refine st_no rfl rfl (by rw [t4]; rfl) (by decide) ?_
      refine st_no rfl rfl (by rw [t4]; rfl) (by decide) ?_
      refine st_val (ex_pick_f (congrArg (fun b => some (Value.bool b)) t4) rfl) (by decide) trivial ?_
      have hq12 := Option.some.inj hq1
      refine wpF_end (r := [(0, (.int .i64 p0)), (1, (.int .i64 p1)), (12, (.bool false))]) ⟨rfl, rfl, rfl, trivial⟩ ?_
      subst hq12
      refine np_norm (fun a ha => ⟨ha, kp⟩)
  rintro a8 w2 ⟨ha, k6⟩
  have s7 := k6.stp 999 (col (fun _ => 1))
  replace hB := hB.stp s7 (by decide)
  refine wl_of ha ?_
  refine wpF_end (r := [(0, (.int .i64 p0)), (1, (.int .i64 p1)), (12, (.bool q1))]) ⟨rfl, rfl, rfl, trivial⟩ ?_
  refine nx ?_
  refine wpC_cond rfl (fun t9 => ?_) (fun t9 => ?_)
  · rw [if_pos t9] at hF
    refine wpC_seq ?_
    refine wpC_region ?_
    refine st_val (ex_assign rfl) (by decide) trivial ?_
    refine wpF_end (r := [(4, (.int .i64 1000000000001))]) ⟨rfl, trivial⟩ ?_
    refine nx ?_
    refine wpC_ret ?_
    refine nt_ret ?_
    have e10 := Option.some.inj hF
    subst e10
    refine ret_post (P := Try.prog) (vs := [(.int .i64 1000000000001)]) Try.results29 ⟨rfl, trivial⟩ ?_
    exact ⟨rfl, hB.keeps⟩
  · rw [if_neg (by rw [t9]; decide)] at hF
    refine wpC_skip ?_
    refine nx ?_
    refine wpC_seq ?_
    refine wpC_region ?_
    refine st_val (ex_move rfl) (by decide) trivial ?_
    refine st_val (ex_move rfl) (by decide) trivial ?_
    obtain ⟨x11, hx11, hF⟩ := bind_some hF
    refine st_val (ex_mul rfl rfl hx11) (by decide) trivial ?_
    refine st_val (ex_assign rfl) (by decide) trivial ?_
    refine wpF_end (r := [(4, (.int .i64 x11))]) ⟨rfl, trivial⟩ ?_
    refine nx ?_
    refine wpC_ret ?_
    have e12 := Option.some.inj hF
    subst e12
    refine ret_post (P := Try.prog) (vs := [(.int .i64 x11)]) Try.results29 ⟨rfl, trivial⟩ ?_
    exact ⟨rfl, hB.keeps⟩

def fI_CountRootedSolutions_1_s1 (p0 : List Int) (p2 : Int) (p3 : List (List Int)) : Int → Int → Int → Option (Lp Int Int (List Int)) := fun (i52 : Int) (x62 : Int) (s : Int) =>
  (ix p3 x62) >>= fun x68 =>
  (nei x62 p2) >>= fun x69 =>
  (ix p0 i52) >>= fun x75 =>
  (ix x68 x75) >>= fun x78 =>
  (fI_times s x78) >>= fun x145 =>
  some (.go x145)
def fI_CountRootedSolutions_1_s2 (fuel : Nat) (p0 : List Int) (p4 : T_RootedProblem) (y49 : Int) : Int → (List Int) → Option (Lp (List Int) (List Int) (List Int)) := fun (i157 : Int) (s : List Int) =>
  (
    if decide (y49 > 0) then
      (fI_RootedProblem_line fuel p4 i157 p0) >>= fun x173 =>
      some x173
    else
      some false) >>= fun q169 =>
  if q169 then
    (ix s i157) >>= fun x189 =>
    (ck (x189 + y49)) >>= fun x192 =>
    (ix s i157) >>= fun x267 =>
    (st s i157 (min x192 1000000000001)) >>= fun x276 =>
    some (.go x276)
  else
    some (.go s)
def fI_CountRootedSolutions_1 (fuel : Nat) (p0 : List Int) (p1 : List (List Int)) (p2 : Int) (rw : List Int) (p3 : List (List Int)) (p4 : T_RootedProblem) : Option (List Int) :=
  (ix p1 p2) >>= fun x41 =>
  (forI (fI_CountRootedSolutions_1_s1 p0 p2 p3) x41 0 1) >>= fun q53 =>
  match q53 with
  | .inl y49 =>
    ck p4.Labels >>= fun _ =>
    (forN (fI_CountRootedSolutions_1_s2 fuel p0 p4 y49) (p4.Labels).toNat 0 rw) >>= fun q158 =>
    match q158 with
    | .inl y153 =>
      some y153
    | .inr _ => none
  | .inr _ => none

def pI_CountRootedSolutions_1 (oo o : Tg) (w w1 : World) (u : Value) (r : List Int) : Ending → World → Prop := fun e w' => ∃ (o' : Tg), e = .returned (.tuple #[]) ∧ Ow w.heap.size 3 20 o' w' u r ∧ Stp 20 o w1 o' w'
set_option maxRecDepth 100000 in
set_option maxHeartbeats 2000000 in
theorem cI_CountRootedSolutions_1 (fuel : Nat) (w w1 : World) (oo o : Tg) (hB : Bs oo o w w1) (hO : ∀ b, b < w1.heap.size → o b ≠ 999) (u0 : Value) (p0 : List Int) (g0 : RdL o w1 u0 p0) (b1 : Nat) (u1 : Value) (p1 : List (List Int)) (cb1 : Bx w.heap.size 15 o w1 b1 22 [u1]) (g1 : RdL o w1 u1 p1) (b2 : Nat) (p2 : Int) (cb2 : Bx w.heap.size 18 o w1 b2 3 [.int .i64 p2]) (b3 : Nat) (u3 : Value) (xs0 p3 : List (List Int)) (rw0 : List Int) (hy : st xs0 p2 rw0 = some p3) (cb3 : Bx w.heap.size 17 o w1 b3 22 [u3]) (uh : Value) (g3 : Ow w.heap.size 25 16 o w1 u3 (hsx p3 p2 uh)) (rw : List Int) (hr : Ow w.heap.size 3 20 o w1 uh rw) (b4 : Nat) (p4 : T_RootedProblem) (z4_2 : Value) (cb4 : Bx w.heap.size 11 o w1 b4 29 [(.int .i64 p4.Labels), (.int .i64 p4.Children), z4_2]) (hz4_2 : RdL zt w z4_2 p4.Lines) (r : List Int) (hF : fI_CountRootedSolutions_1 fuel p0 p1 p2 rw p3 p4 = some r) :
    Calls Try.prog 28 #[u0, .pointer (some ⟨b1, 0, none⟩), .pointer (some ⟨b2, 0, none⟩), .pointer (some ⟨b3, 0, none⟩), .pointer (some ⟨b4, 0, none⟩)] w1 (pI_CountRootedSolutions_1 oo o w w1 uh r) := by
  unfold fI_CountRootedSolutions_1 at hF
  have hS : Stp 20 o w1 o w1 := Stp.refl _ _ _
  refine calls_start (n := 63) (vs := [u0, (.pointer (some ⟨b1, 0, none⟩)), (.pointer (some ⟨b2, 0, none⟩)), (.pointer (some ⟨b3, 0, none⟩)), (.pointer (some ⟨b4, 0, none⟩))]) Try.func28 rfl rfl ?_
  refine wpC_seq ?_
  refine wpC_region ?_
  refine st_val (ex_assign rfl) (by decide) trivial ?_
  refine wpF_end (r := [(0, u0), (1, (.pointer (some ⟨b1, 0, none⟩))), (2, (.pointer (some ⟨b2, 0, none⟩))), (3, (.pointer (some ⟨b3, 0, none⟩))), (4, (.pointer (some ⟨b4, 0, none⟩))), (6, (.int .i64 1))]) ⟨rfl, rfl, rfl, rfl, rfl, rfl, trivial⟩ ?_
  refine nx ?_
  refine wpC_seq ?_
  refine wpC_seq ?_
  refine wpC_region ?_
  refine st_val (ex_load1 rfl Try.isAgg22 (cb1.cell rfl)) (by decide) trivial ?_
  refine st_val (ex_load1 rfl Try.isAgg3 (cb2.cell rfl)) (by decide) trivial ?_
  obtain ⟨x41, hx41, hF⟩ := bind_some hF
  refine st_op (by decide) trivial ?_
  refine wf_atO g1 hx41 rfl rfl Try.underlying22 Try.sizeOf25 ?_
  intro b42 f43 c44 h45 h46
  obtain ⟨v47, rfl, h48⟩ := h46
  refine st_val (ex_load1 rfl Try.isAgg25 (cell_of_cells h45)) (by decide) trivial ?_
  refine st_val (ex_lenR rfl h48 Try.underlying25) (by decide) trivial ?_
  refine st_val (ex_move rfl) (by decide) trivial ?_
  refine wpF_end (r := [(0, u0), (2, (.pointer (some ⟨b2, 0, none⟩))), (3, (.pointer (some ⟨b3, 0, none⟩))), (4, (.pointer (some ⟨b4, 0, none⟩))), (6, (.int .i64 1)), (13, v47), (14, (.int .i64 (x41.length : Int))), (15, (.int .i64 0))]) ⟨rfl, rfl, rfl, rfl, rfl, rfl, rfl, rfl, trivial⟩ ?_
  refine nx ?_
  obtain ⟨q53, hq53, hF⟩ := bind_some hF
  refine wpC_cutN (fun a w51 => ∃ (y49 : Int) (o50 : Tg), q53 = .inl y49 ∧ Fr a 63 [(0, u0), (2, (.pointer (some ⟨b2, 0, none⟩))), (3, (.pointer (some ⟨b3, 0, none⟩))), (4, (.pointer (some ⟨b4, 0, none⟩))), (6, (.int .i64 y49))] ∧ Bs oo o50 w w51 ∧ Ow w.heap.size 3 20 o50 w51 uh rw ∧ Stp 20 o w1 o50 w51 ∧ RdL o50 w51 u0 p0 ∧ Bx w.heap.size 11 o50 w51 b4 29 [(.int .i64 p4.Labels), (.int .i64 p4.Children), z4_2] ∧ Bx w.heap.size 17 o50 w51 b3 22 [u3] ∧ Ow w.heap.size 25 16 o50 w51 u3 (hsx p3 p2 uh) ∧ Bx w.heap.size 18 o50 w51 b2 3 [(.int .i64 p2)] ∧ Bx w.heap.size 15 o50 w51 b1 22 [u1] ∧ RdL o50 w51 u1 p1) (fun _ _ => False) ?_ ?_ ?_
  · refine wpC_block ?_
    refine wpC_loop (fun (K : Nat) a w51 => ∃ (i52 : Int) (y49 : Int) (o50 : Tg), forI (fI_CountRootedSolutions_1_s1 p0 p2 p3) (x41.drop i52.toNat) i52 y49 = some q53 ∧ (x41.drop i52.toNat).length = K ∧ 0 ≤ i52 ∧ Fr a 63 [(0, u0), (2, (.pointer (some ⟨b2, 0, none⟩))), (3, (.pointer (some ⟨b3, 0, none⟩))), (4, (.pointer (some ⟨b4, 0, none⟩))), (6, (.int .i64 y49)), (13, v47), (14, (.int .i64 (x41.length : Int))), (15, (.int .i64 i52))] ∧ Bs oo o50 w w51 ∧ Ow w.heap.size 3 20 o50 w51 uh rw ∧ Stp 20 o w1 o50 w51 ∧ RdL o50 w51 u0 p0 ∧ RdL o50 w51 v47 x41 ∧ Bx w.heap.size 11 o50 w51 b4 29 [(.int .i64 p4.Labels), (.int .i64 p4.Children), z4_2] ∧ Bx w.heap.size 17 o50 w51 b3 22 [u3] ∧ Ow w.heap.size 25 16 o50 w51 u3 (hsx p3 p2 uh) ∧ Bx w.heap.size 18 o50 w51 b2 3 [(.int .i64 p2)] ∧ Bx w.heap.size 15 o50 w51 b1 22 [u1] ∧ RdL o50 w51 u1 p1) _ (fun a ha => ⟨0, 1, o, hq53, rfl, Int.le_refl 0, ha.sub (r := [(0, u0), (2, (.pointer (some ⟨b2, 0, none⟩))), (3, (.pointer (some ⟨b3, 0, none⟩))), (4, (.pointer (some ⟨b4, 0, none⟩))), (6, (.int .i64 1)), (13, v47), (14, (.int .i64 (x41.length : Int))), (15, (.int .i64 0))]) ⟨rfl, rfl, rfl, rfl, rfl, rfl, rfl, rfl, trivial⟩, hB, hr, hS, g0, h48, cb4, cb3, g3, cb2, cb1, g1⟩) ?_
    rintro K57 a w51 ⟨i52, y49, o50, l54, m56, z55, ha, hB, hr, hS, g0, h48, cb4, cb3, g3, cb2, cb1, g1⟩
    by_cases t61 : i52 < (x41.length : Int)
    · obtain ⟨x62, q58, hx62, b59, n60⟩ := forI_cons z55 t61 l54
      have hle := h48.len_le
      dsimp only [fI_CountRootedSolutions_1_s1] at b59
      refine wp_of ha ?_
      refine wpC_seq ?_
      refine wpC_region ?_
      refine st_val (ex_lss rfl rfl) (by decide) trivial ?_
      refine wpF_end (r := [(0, u0), (2, (.pointer (some ⟨b2, 0, none⟩))), (3, (.pointer (some ⟨b3, 0, none⟩))), (4, (.pointer (some ⟨b4, 0, none⟩))), (6, (.int .i64 y49)), (13, v47), (14, (.int .i64 (x41.length : Int))), (15, (.int .i64 i52)), (16, (.bool (decide (i52 < (x41.length : Int)))))]) ⟨rfl, rfl, rfl, rfl, rfl, rfl, rfl, rfl, rfl, trivial⟩ ?_
      refine nx ?_
      refine wpC_seq ?_
      refine wpC_true (congrArg (fun b => some (Value.bool b)) (decide_eq_true t61)) ?_
      refine wpC_skip ?_
      refine nx ?_
      refine wpC_seq ?_
      refine wpC_block ?_
      refine wpC_seq ?_
      refine wpC_region ?_
      refine st_val (ex_move rfl) (by decide) trivial ?_
      refine st_op (by decide) trivial ?_
      refine wf_atO h48 hx62 rfl rfl Try.underlying25 Try.sizeOf3 ?_
      intro b63 f64 c65 h66 h67
      cases h67
      refine st_val (ex_load1 rfl Try.isAgg3 (cell_of_cells h66)) (by decide) trivial ?_
      refine st_val (ex_assign rfl) (by decide) trivial ?_
      refine st_val (ex_assign rfl) (by decide) trivial ?_
      refine wpF_end (r := [(0, u0), (2, (.pointer (some ⟨b2, 0, none⟩))), (3, (.pointer (some ⟨b3, 0, none⟩))), (4, (.pointer (some ⟨b4, 0, none⟩))), (6, (.int .i64 y49)), (7, (.int .i64 i52)), (8, (.int .i64 x62)), (13, v47), (14, (.int .i64 (x41.length : Int))), (15, (.int .i64 i52))]) ⟨rfl, rfl, rfl, rfl, rfl, rfl, rfl, rfl, rfl, rfl, trivial⟩ ?_
      refine nx ?_
      obtain ⟨x68, hx68, b59⟩ := bind_some b59
      obtain ⟨x69, hx69, b59⟩ := bind_some b59
      obtain ⟨x75, hx75, b59⟩ := bind_some b59
      obtain ⟨x78, hx78, b59⟩ := bind_some b59
      refine wpC_drawn (o := o50) [(0, u0), (2, (.pointer (some ⟨b2, 0, none⟩))), (3, (.pointer (some ⟨b3, 0, none⟩))), (4, (.pointer (some ⟨b4, 0, none⟩))), (6, (.int .i64 y49)), (7, (.int .i64 i52)), (8, (.int .i64 x62)), (13, v47), (14, (.int .i64 (x41.length : Int))), (15, (.int .i64 i52))] [0, 2, 3, 4, 6, 7, 8, 13, 14, 15] [20, 21, 22, 23, 24, 25, 26, 27, 28, 29, 30] [[], [], [], [1, 2], [3], [], [], [5, 6], [7], [4, 8], [9]] [none, none, none, none, none, none, none, none, none, none, none] [999, 999, 999, 999, 999, 999, 999, 999, 999, 999, 999] [0, 0, 0, 0, 0, 0, 0, 0, 0, 0, 0] [999] [fun v _ _ => v = (.int .i64 y49), fun v _ _ => v = u3, fun v _ _ => v = (.int .i64 x62), fun v _ _ => v = adr u3 (x62.toNat * Rp.sz HRow), fun v o w9 => RdL o w9 v x68, fun v _ _ => v = u0, fun v _ _ => v = (.int .i64 i52), fun v o w9 => ∃ vl, v = adr vl (i52.toNat * Rp.sz Int) ∧ RdL o w9 vl p0, fun v _ _ => v = (.int .i64 x75), fun v o w9 => ∃ vl, v = adr vl (x75.toNat * Rp.sz Int) ∧ RdL o w9 vl x68, fun v _ _ => v = (.int .i64 x78)] (fun o8 w8 => Bs oo o8 w w8 ∧ Ow w.heap.size 3 20 o8 w8 uh rw ∧ Stp 20 o w1 o8 w8 ∧ RdL o8 w8 u0 p0 ∧ RdL o8 w8 v47 x41 ∧ Bx w.heap.size 11 o8 w8 b4 29 [(.int .i64 p4.Labels), (.int .i64 p4.Children), z4_2] ∧ Bx w.heap.size 17 o8 w8 b3 22 [u3] ∧ Ow w.heap.size 25 16 o8 w8 u3 (hsx p3 p2 uh) ∧ Bx w.heap.size 18 o8 w8 b2 3 [(.int .i64 p2)] ∧ Bx w.heap.size 15 o8 w8 b1 22 [u1] ∧ RdL o8 w8 u1 p1) follows_mixed (by kernel_rfl) rfl ⟨rfl, rfl, rfl, rfl, rfl, rfl, rfl, rfl, rfl, rfl, trivial⟩ ⟨hB, hr, hS, g0, h48, cb4, cb3, g3, cb2, cb1, g1⟩ ?_ ⟨st_eq _, st_eq _, st_eq _, st_eq _, fun _ _ _ _ _ _ h0 hb h hs => h.stp hs h0.1, st_eq _, st_eq _, fun _ _ _ _ _ _ h0 hb ⟨vl, e, h⟩ hs => ⟨vl, e, h.stp hs h0.1⟩, st_eq _, fun _ _ _ _ _ _ h0 hb ⟨vl, e, h⟩ hs => ⟨vl, e, h.stp hs h0.1⟩, st_eq _, trivial⟩ ?_ ?_
      · rintro t9 o1 w1 o2 w2 ht9 ⟨hB, hr, hS, g0, h48, cb4, cb3, g3, cb2, cb1, g1⟩ hs9
        have ht9 : t9 = 999 := by simpa using ht9
        subst ht9
        all_goals exact ⟨hB.stp hs9 (by decide), hr.stp hs9 (by decide) (by decide), hS.trq hO hs9, g0.stp hs9 (by decide), h48.stp hs9 (by decide), cb4.stp hs9 (by decide), cb3.stp hs9 (by decide), g3.stp hs9 (by decide) (by decide), cb2.stp hs9 (by decide), cb1.stp hs9 (by decide), g1.stp hs9 (by decide)⟩
      · refine ⟨?_, ?_, ?_, ?_, ?_, ?_, ?_, ?_, ?_, ?_, ?_, trivial⟩
        · rintro o81 w82 a83 ha ⟨hB, hr, hS, g0, h48, cb4, cb3, g3, cb2, cb1, g1⟩ -
          refine opS_of ha (trivial) ?_
          refine op1_val (ex_move rfl) ?_
          exact ⟨_, Stp.refl _ _ _, rfl⟩
        · rintro o84 w85 a86 ha ⟨hB, hr, hS, g0, h48, cb4, cb3, g3, cb2, cb1, g1⟩ -
          refine opS_of ha (trivial) ?_
          refine op1_val (ex_load1 rfl Try.isAgg22 (cb3.cell rfl)) ?_
          exact ⟨_, Stp.refl _ _ _, rfl⟩
        · rintro o87 w88 a89 ha ⟨hB, hr, hS, g0, h48, cb4, cb3, g3, cb2, cb1, g1⟩ -
          refine opS_of ha (trivial) ?_
          refine op1_val (ex_move rfl) ?_
          exact ⟨_, Stp.refl _ _ _, rfl⟩
        · rintro o90 w91 a92 ha ⟨hB, hr, hS, g0, h48, cb4, cb3, g3, cb2, cb1, g1⟩ ⟨r93, r94, -⟩
          have ha := Fr.cons (d := 21) ha r93
          have ha := Fr.cons (d := 22) ha r94
          refine opS_of ha (trivial) ?_
          refine wd_indexW g3 (hsx_ne hx68 hx69 (st_lo hy) uh) rfl rfl Try.underlying22 Try.sizeOf25 ?_
          exact ⟨_, Stp.refl _ _ _, rfl⟩
        · rintro o95 w96 a97 ha ⟨hB, hr, hS, g0, h48, cb4, cb3, g3, cb2, cb1, g1⟩ ⟨r98, -⟩
          have ha := Fr.cons (d := 23) ha r98
          refine opS_of ha (trivial) ?_
          refine wd_load1W g3 (hsx_ne hx68 hx69 (st_lo hy) uh) rfl rfl Try.isAgg25 ?_
          intro c99 h100
          obtain ⟨v103, e101, h102⟩ := h100
          cases e101
          exact ⟨_, Stp.refl _ _ _, h102⟩
        · rintro o104 w105 a106 ha ⟨hB, hr, hS, g0, h48, cb4, cb3, g3, cb2, cb1, g1⟩ -
          refine opS_of ha (trivial) ?_
          refine op1_val (ex_move rfl) ?_
          exact ⟨_, Stp.refl _ _ _, rfl⟩
        · rintro o107 w108 a109 ha ⟨hB, hr, hS, g0, h48, cb4, cb3, g3, cb2, cb1, g1⟩ -
          refine opS_of ha (trivial) ?_
          refine op1_val (ex_move rfl) ?_
          exact ⟨_, Stp.refl _ _ _, rfl⟩
        · rintro o110 w111 a112 ha ⟨hB, hr, hS, g0, h48, cb4, cb3, g3, cb2, cb1, g1⟩ ⟨r113, r114, -⟩
          have ha := Fr.cons (d := 25) ha r113
          have ha := Fr.cons (d := 26) ha r114
          refine opS_of ha (trivial) ?_
          refine wd_indexR g0 hx75 rfl rfl Try.underlying25 Try.sizeOf3 ?_
          exact ⟨_, Stp.refl _ _ _, ⟨_, rfl, g0⟩⟩
        · rintro o115 w116 a117 ha ⟨hB, hr, hS, g0, h48, cb4, cb3, g3, cb2, cb1, g1⟩ ⟨r118, -⟩
          obtain ⟨v119, e120, h121⟩ := r118
          have ha := Fr.cons (d := 27) ha e120
          refine opS_of ha (trivial) ?_
          refine wd_load1 h121 hx75 rfl rfl Try.isAgg3 ?_
          intro c122 h123
          cases h123
          exact ⟨_, Stp.refl _ _ _, rfl⟩
        · rintro o124 w125 a126 ha ⟨hB, hr, hS, g0, h48, cb4, cb3, g3, cb2, cb1, g1⟩ ⟨r127, r128, -⟩
          replace r127 : RdL o124 w125 (a126.tmps.getD 24 undef) x68 := r127
          generalize e130 : a126.tmps.getD 24 undef = v129 at r127
          have ha := Fr.cons (d := 24) ha e130
          have ha := Fr.cons (d := 28) ha r128
          refine opS_of ha (trivial) ?_
          refine wd_indexR r127 hx78 rfl rfl Try.underlying25 Try.sizeOf3 ?_
          exact ⟨_, Stp.refl _ _ _, ⟨_, rfl, r127⟩⟩
        · rintro o131 w132 a133 ha ⟨hB, hr, hS, g0, h48, cb4, cb3, g3, cb2, cb1, g1⟩ ⟨r134, -⟩
          obtain ⟨v135, e136, h137⟩ := r134
          have ha := Fr.cons (d := 29) ha e136
          refine opS_of ha (trivial) ?_
          refine wd_load1 h137 hx78 rfl rfl Try.isAgg3 ?_
          intro c138 h139
          cases h139
          exact ⟨_, Stp.refl _ _ _, rfl⟩
      rintro o140 w141 a142 ha ⟨hB, hr, hS, g0, h48, cb4, cb3, g3, cb2, cb1, g1⟩ ⟨r143, -, -, -, -, -, -, -, -, -, r144, -⟩
      have ha := Fr.cons (d := 20) ha r143
      have ha := Fr.cons (d := 30) ha r144
      refine wl_of ha ?_
      simp only [List.length_cons, List.length_nil, Nat.zero_add, Nat.reduceAdd, List.drop_succ_cons, List.drop_zero]
      obtain ⟨x145, hx145, b59⟩ := bind_some b59
      refine st_op (by decide) trivial ?_
      refine wf_call (cI_times w141 y49 x78 x145 hx145) Try.call29 ⟨rfl, rfl, trivial⟩ ?_
      rintro e150 w146 ⟨rfl, k147⟩
      have s149 := k147.stp 999 o140
      refine ⟨_, rfl, ?_⟩
      replace hr := hr.stp s149 (by decide) (by decide)
      replace hS := hS.trq hO s149
      replace g0 := g0.stp s149 (by decide)
      replace h48 := h48.stp s149 (by decide)
      replace cb1 := cb1.stp s149 (by decide)
      replace g1 := g1.stp s149 (by decide)
      replace cb2 := cb2.stp s149 (by decide)
      replace cb3 := cb3.stp s149 (by decide)
      replace g3 := g3.stp s149 (by decide) (by decide)
      replace cb4 := cb4.stp s149 (by decide)
      replace hB := hB.stp s149 (by decide)
      refine st_val (ex_assign rfl) (by decide) trivial ?_
      refine wpF_end (r := [(0, u0), (2, (.pointer (some ⟨b2, 0, none⟩))), (3, (.pointer (some ⟨b3, 0, none⟩))), (4, (.pointer (some ⟨b4, 0, none⟩))), (6, (.int .i64 x145)), (13, v47), (14, (.int .i64 (x41.length : Int))), (15, (.int .i64 i52))]) ⟨rfl, rfl, rfl, rfl, rfl, rfl, rfl, rfl, trivial⟩ ?_
      refine nb_norm ?_
      refine nx ?_
      refine wpC_region ?_
      refine st_val (ex_add rfl rfl (ck_in (by omega) (by omega))) (by decide) trivial ?_
      refine st_val (ex_move rfl) (by decide) trivial ?_
      refine wpF_end (r := [(0, u0), (2, (.pointer (some ⟨b2, 0, none⟩))), (3, (.pointer (some ⟨b3, 0, none⟩))), (4, (.pointer (some ⟨b4, 0, none⟩))), (6, (.int .i64 x145)), (13, v47), (14, (.int .i64 (x41.length : Int))), (15, (.int .i64 (i52 + 1)))]) ⟨rfl, rfl, rfl, rfl, rfl, rfl, rfl, rfl, trivial⟩ ?_
      refine nt_norm ?_
      have e151 := Option.some.inj b59
      subst e151
      refine to_k (r := [(0, u0), (2, (.pointer (some ⟨b2, 0, none⟩))), (3, (.pointer (some ⟨b3, 0, none⟩))), (4, (.pointer (some ⟨b4, 0, none⟩))), (6, (.int .i64 x145)), (13, v47), (14, (.int .i64 (x41.length : Int))), (15, (.int .i64 (i52 + 1)))]) ⟨rfl, rfl, rfl, rfl, rfl, rfl, rfl, rfl, trivial⟩ ?_
      intro a ha
      exact ⟨_, (by rw [← m56]; simp only [List.length_drop]; omega), i52 + 1, x145, o140, n60, rfl, (by omega), ha, hB, hr, hS, g0, h48, cb4, cb3, g3, cb2, cb1, g1⟩
    · have r152 := forI_done t61 l54
      refine wp_of ha ?_
      refine wpC_seq ?_
      refine wpC_region ?_
      refine st_val (ex_lss rfl rfl) (by decide) trivial ?_
      refine wpF_end (r := [(0, u0), (2, (.pointer (some ⟨b2, 0, none⟩))), (3, (.pointer (some ⟨b3, 0, none⟩))), (4, (.pointer (some ⟨b4, 0, none⟩))), (6, (.int .i64 y49)), (13, v47), (14, (.int .i64 (x41.length : Int))), (15, (.int .i64 i52)), (16, (.bool (decide (i52 < (x41.length : Int)))))]) ⟨rfl, rfl, rfl, rfl, rfl, rfl, rfl, rfl, rfl, trivial⟩ ?_
      refine nx ?_
      refine wpC_seq ?_
      refine wpC_false (congrArg (fun b => some (Value.bool b)) (decide_eq_false t61)) ?_
      refine wpC_exit ?_
      refine nt_exit ?_
      refine nt_exit ?_
      refine nb_hit ?_
      refine np_norm ?_
      refine to_k (r := [(0, u0), (2, (.pointer (some ⟨b2, 0, none⟩))), (3, (.pointer (some ⟨b3, 0, none⟩))), (4, (.pointer (some ⟨b4, 0, none⟩))), (6, (.int .i64 y49))]) ⟨rfl, rfl, rfl, rfl, rfl, trivial⟩ ?_
      intro a ha
      exact ⟨y49, o50, r152, ha, hB, hr, hS, g0, cb4, cb3, g3, cb2, cb1, g1⟩
  · rintro a w51 ⟨y49, o50, rfl, ha, hB, hr, hS, g0, cb4, cb3, g3, cb2, cb1, g1⟩
    dsimp only at hF
    refine ap_k ha ?_
    refine nx ?_
    refine wpC_seq ?_
    refine wpC_region ?_
    refine st_val (ex_field rfl Try.underlying29 rfl Try.sizeOf3) (by decide) trivial ?_
    refine st_val (ex_load1 rfl Try.isAgg3 (cb4.cell rfl)) (by decide) trivial ?_
    refine st_val (ex_move rfl) (by decide) trivial ?_
    refine wpF_end (r := [(0, u0), (2, (.pointer (some ⟨b2, 0, none⟩))), (3, (.pointer (some ⟨b3, 0, none⟩))), (4, (.pointer (some ⟨b4, 0, none⟩))), (6, (.int .i64 y49)), (34, (.int .i64 p4.Labels)), (35, (.int .i64 0))]) ⟨rfl, rfl, rfl, rfl, rfl, rfl, rfl, trivial⟩ ?_
    refine nx ?_
    obtain ⟨u160, h159, hF⟩ := bind_some hF
    obtain ⟨-, h159a, h159b⟩ := ck_some h159
    obtain ⟨q158, hq158, hF⟩ := bind_some hF
    refine wpC_cutN (fun a w156 => ∃ (y153 : List Int) (o155 : Tg), q158 = .inl y153 ∧ Fr a 63 [] ∧ Bs oo o155 w w156 ∧ Ow w.heap.size 3 20 o155 w156 uh y153 ∧ Stp 20 o w1 o155 w156 ∧ Bx w.heap.size 11 o155 w156 b4 29 [(.int .i64 p4.Labels), (.int .i64 p4.Children), z4_2] ∧ Bx w.heap.size 17 o155 w156 b3 22 [u3] ∧ Ow w.heap.size 25 16 o155 w156 u3 (hsx p3 p2 uh) ∧ Bx w.heap.size 18 o155 w156 b2 3 [(.int .i64 p2)] ∧ Bx w.heap.size 15 o155 w156 b1 22 [u1] ∧ RdL o155 w156 u1 p1) (fun _ _ => False) ?_ ?_ ?_
    · refine wpC_block ?_
      refine wpC_loop (fun (K : Nat) a w156 => ∃ (i157 : Int) (y153 : List Int) (o155 : Tg), forN (fI_CountRootedSolutions_1_s2 fuel p0 p4 y49) (p4.Labels - i157).toNat i157 y153 = some q158 ∧ (p4.Labels - i157).toNat = K ∧ 0 ≤ i157 ∧ Fr a 63 [(0, u0), (2, (.pointer (some ⟨b2, 0, none⟩))), (3, (.pointer (some ⟨b3, 0, none⟩))), (4, (.pointer (some ⟨b4, 0, none⟩))), (6, (.int .i64 y49)), (34, (.int .i64 p4.Labels)), (35, (.int .i64 i157))] ∧ Bs oo o155 w w156 ∧ Ow w.heap.size 3 20 o155 w156 uh y153 ∧ Stp 20 o w1 o155 w156 ∧ RdL o155 w156 u0 p0 ∧ Bx w.heap.size 11 o155 w156 b4 29 [(.int .i64 p4.Labels), (.int .i64 p4.Children), z4_2] ∧ Bx w.heap.size 17 o155 w156 b3 22 [u3] ∧ Ow w.heap.size 25 16 o155 w156 u3 (hsx p3 p2 uh) ∧ Bx w.heap.size 18 o155 w156 b2 3 [(.int .i64 p2)] ∧ Bx w.heap.size 15 o155 w156 b1 22 [u1] ∧ RdL o155 w156 u1 p1) _ (fun a ha => ⟨0, rw, o50, (by rw [Int.sub_zero]; exact hq158), rfl, Int.le_refl 0, ha.sub (r := [(0, u0), (2, (.pointer (some ⟨b2, 0, none⟩))), (3, (.pointer (some ⟨b3, 0, none⟩))), (4, (.pointer (some ⟨b4, 0, none⟩))), (6, (.int .i64 y49)), (34, (.int .i64 p4.Labels)), (35, (.int .i64 0))]) ⟨rfl, rfl, rfl, rfl, rfl, rfl, rfl, trivial⟩, hB, hr, hS, g0, cb4, cb3, g3, cb2, cb1, g1⟩) ?_
      rintro K164 a w156 ⟨i157, y153, o155, l161, m163, z162, ha, hB, h154, hS, g0, cb4, cb3, g3, cb2, cb1, g1⟩
      by_cases t168 : i157 < p4.Labels
      · obtain ⟨q165, b166, n167⟩ := forN_cons t168 l161
        dsimp only [fI_CountRootedSolutions_1_s2] at b166
        refine wp_of ha ?_
        refine wpC_seq ?_
        refine wpC_region ?_
        refine st_val (ex_lss rfl rfl) (by decide) trivial ?_
        refine wpF_end (r := [(0, u0), (2, (.pointer (some ⟨b2, 0, none⟩))), (3, (.pointer (some ⟨b3, 0, none⟩))), (4, (.pointer (some ⟨b4, 0, none⟩))), (6, (.int .i64 y49)), (34, (.int .i64 p4.Labels)), (35, (.int .i64 i157)), (36, (.bool (decide (i157 < p4.Labels))))]) ⟨rfl, rfl, rfl, rfl, rfl, rfl, rfl, rfl, trivial⟩ ?_
        refine nx ?_
        refine wpC_seq ?_
        refine wpC_true (congrArg (fun b => some (Value.bool b)) (decide_eq_true t168)) ?_
        refine wpC_skip ?_
        refine nx ?_
        refine wpC_seq ?_
        refine wpC_block ?_
        refine wpC_seq ?_
        refine wpC_region ?_
        refine st_val (ex_move rfl) (by decide) trivial ?_
        refine st_val (ex_assign rfl) (by decide) trivial ?_
        refine wpF_end (r := [(0, u0), (2, (.pointer (some ⟨b2, 0, none⟩))), (3, (.pointer (some ⟨b3, 0, none⟩))), (4, (.pointer (some ⟨b4, 0, none⟩))), (6, (.int .i64 y49)), (9, (.int .i64 i157)), (34, (.int .i64 p4.Labels)), (35, (.int .i64 i157))]) ⟨rfl, rfl, rfl, rfl, rfl, rfl, rfl, rfl, trivial⟩ ?_
        refine nx ?_
        refine wpC_seq ?_
        refine wpC_region ?_
        refine st_val (ex_move rfl) (by decide) trivial ?_
        refine st_val (ex_gtr rfl rfl) (by decide) trivial ?_
        refine st_val (ex_move rfl) (by decide) trivial ?_
        obtain ⟨q169, hq169, b166⟩ := bind_some b166
        refine wpF_cutAt 5 (fun a171 w170 => Fr a171 63 [(0, u0), (2, (.pointer (some ⟨b2, 0, none⟩))), (3, (.pointer (some ⟨b3, 0, none⟩))), (4, (.pointer (some ⟨b4, 0, none⟩))), (6, (.int .i64 y49)), (9, (.int .i64 i157)), (34, (.int .i64 p4.Labels)), (35, (.int .i64 i157)), (45, (.bool q169))] ∧ Keeps w156 w170) ?_ ?_
        all_goals simp only [List.take_succ_cons, List.take_zero, List.drop_succ_cons, List.drop_zero]
        · have kp : Keeps w156 w156 := Keeps.refl _
          rcases Bool.eq_false_or_eq_true (decide (y49 > 0)) with t172 | t172
          · rw [if_pos t172] at hq169
            refine st_val (ex_loadA rfl Try.isAgg29 Try.sizeOf29 rfl cb4.cells) (by decide) ⟨_, rfl, (congrArg (fun b => some (Value.bool b)) t172)⟩ ?_
            refine st_val (ex_move rfl) (by decide) ⟨_, rfl, (congrArg (fun b => some (Value.bool b)) t172)⟩ ?_
            refine st_val (ex_move rfl) (by decide) ⟨_, rfl, (congrArg (fun b => some (Value.bool b)) t172)⟩ ?_
            obtain ⟨x173, hx173, hq169⟩ := bind_some hq169
            refine st_op (by decide) ⟨_, rfl, (congrArg (fun b => some (Value.bool b)) t172)⟩ ?_
            refine wf_call (cI_RootedProblem_line fuel w156 _ p4 (⟨_, rfl, (hz4_2.keep hB.keeps)⟩) i157 _ p0 g0.z x173 hx173) Try.call30 ⟨rfl, rfl, rfl, trivial⟩ ?_
            rintro e178 w174 ⟨rfl, k175⟩
            have s177 := k175.stp 999 o155
            refine ⟨_, rfl, ?_⟩
            replace h154 := h154.stp s177 (by decide) (by decide)
            replace hS := hS.trq hO s177
            replace g0 := g0.stp s177 (by decide)
            replace cb1 := cb1.stp s177 (by decide)
            replace g1 := g1.stp s177 (by decide)
            replace cb2 := cb2.stp s177 (by decide)
            replace cb3 := cb3.stp s177 (by decide)
            replace g3 := g3.stp s177 (by decide) (by decide)
            replace cb4 := cb4.stp s177 (by decide)
            replace hB := hB.stp s177 (by decide)
            replace kp := Keeps.trans kp k175
            refine st_val (ex_pick_t (congrArg (fun b => some (Value.bool b)) t172) rfl) (by decide) trivial ?_
            have hq1692 := Option.some.inj hq169
            refine wpF_end (r := [(0, u0), (2, (.pointer (some ⟨b2, 0, none⟩))), (3, (.pointer (some ⟨b3, 0, none⟩))), (4, (.pointer (some ⟨b4, 0, none⟩))), (6, (.int .i64 y49)), (9, (.int .i64 i157)), (34, (.int .i64 p4.Labels)), (35, (.int .i64 i157)), (45, (.bool x173))]) ⟨rfl, rfl, rfl, rfl, rfl, rfl, rfl, rfl, rfl, trivial⟩ ?_
            subst hq1692
            refine np_norm (fun a ha => ⟨ha, kp⟩)
          · rw [if_neg (by rw [t172]; decide)] at hq169
            refine st_no rfl rfl (by rw [t172]; rfl) (by decide) ?_
            refine st_no rfl rfl (by rw [t172]; rfl) (by decide) ?_
            refine st_no rfl rfl (by rw [t172]; rfl) (by decide) ?_
            refine st_no rfl rfl (by rw [t172]; rfl) (by decide) ?_
            refine st_val (ex_pick_f (congrArg (fun b => some (Value.bool b)) t172) rfl) (by decide) trivial ?_
            have hq1692 := Option.some.inj hq169
            refine wpF_end (r := [(0, u0), (2, (.pointer (some ⟨b2, 0, none⟩))), (3, (.pointer (some ⟨b3, 0, none⟩))), (4, (.pointer (some ⟨b4, 0, none⟩))), (6, (.int .i64 y49)), (9, (.int .i64 i157)), (34, (.int .i64 p4.Labels)), (35, (.int .i64 i157)), (45, (.bool false))]) ⟨rfl, rfl, rfl, rfl, rfl, rfl, rfl, rfl, rfl, trivial⟩ ?_
            subst hq1692
            refine np_norm (fun a ha => ⟨ha, kp⟩)
        rintro a181 w170 ⟨ha, k179⟩
        have s180 := k179.stp 999 o155
        replace h154 := h154.stp s180 (by decide) (by decide)
        replace hS := hS.trq hO s180
        replace g0 := g0.stp s180 (by decide)
        replace cb1 := cb1.stp s180 (by decide)
        replace g1 := g1.stp s180 (by decide)
        replace cb2 := cb2.stp s180 (by decide)
        replace cb3 := cb3.stp s180 (by decide)
        replace g3 := g3.stp s180 (by decide) (by decide)
        replace cb4 := cb4.stp s180 (by decide)
        replace hB := hB.stp s180 (by decide)
        refine wl_of ha ?_
        refine wpF_end (r := [(0, u0), (2, (.pointer (some ⟨b2, 0, none⟩))), (3, (.pointer (some ⟨b3, 0, none⟩))), (4, (.pointer (some ⟨b4, 0, none⟩))), (6, (.int .i64 y49)), (9, (.int .i64 i157)), (34, (.int .i64 p4.Labels)), (35, (.int .i64 i157)), (45, (.bool q169))]) ⟨rfl, rfl, rfl, rfl, rfl, rfl, rfl, rfl, rfl, trivial⟩ ?_
        refine nx ?_
        refine wpC_cond rfl (fun t182 => ?_) (fun t182 => ?_)
        · rw [if_pos t182] at b166
          obtain ⟨x189, hx189, b166⟩ := bind_some b166
          obtain ⟨x192, hx192, b166⟩ := bind_some b166
          refine wpC_drawn (o := o155) [(0, u0), (2, (.pointer (some ⟨b2, 0, none⟩))), (3, (.pointer (some ⟨b3, 0, none⟩))), (4, (.pointer (some ⟨b4, 0, none⟩))), (6, (.int .i64 y49)), (9, (.int .i64 i157)), (34, (.int .i64 p4.Labels)), (35, (.int .i64 i157))] [0, 2, 3, 4, 6, 9, 34, 35] [46, 47, 48, 49, 50, 51, 52, 53, 54, 55, 56, 57, 58, 59, 60] [[], [], [0, 1], [2], [], [], [], [5, 6], [7], [], [8, 9], [10], [], [11, 12], [13]] [none, none, none, none, none, none, none, none, none, none, none, none, none, none, none] [999, 999, 999, 999, 999, 999, 999, 999, 999, 999, 999, 999, 999, 999, 999] [0, 0, 0, 0, 0, 0, 0, 0, 0, 0, 20, 0, 0, 0, 0] [999] [fun v _ _ => v = u3, fun v _ _ => v = (.int .i64 p2), fun v _ _ => v = adr u3 (p2.toNat * Rp.sz HRow), fun v _ _ => v = uh, fun v _ _ => v = (.int .i64 i157), fun v _ _ => v = u3, fun v _ _ => v = (.int .i64 p2), fun v _ _ => v = adr u3 (p2.toNat * Rp.sz HRow), fun v _ _ => v = uh, fun v _ _ => v = (.int .i64 i157), fun v o w9 => ∃ vl, v = adr vl (i157.toNat * Rp.sz Int) ∧ Ow w.heap.size 3 20 o w9 vl y153, fun v _ _ => v = (.int .i64 x189), fun v _ _ => v = (.int .i64 y49), fun v _ _ => v = (.int .i64 x192), fun v _ _ => v = (.int .i64 (min x192 1000000000001))] (fun o8 w8 => Bs oo o8 w w8 ∧ Ow w.heap.size 3 20 o8 w8 uh y153 ∧ Stp 20 o w1 o8 w8 ∧ RdL o8 w8 u0 p0 ∧ Bx w.heap.size 11 o8 w8 b4 29 [(.int .i64 p4.Labels), (.int .i64 p4.Children), z4_2] ∧ Bx w.heap.size 17 o8 w8 b3 22 [u3] ∧ Ow w.heap.size 25 16 o8 w8 u3 (hsx p3 p2 uh) ∧ Bx w.heap.size 18 o8 w8 b2 3 [(.int .i64 p2)] ∧ Bx w.heap.size 15 o8 w8 b1 22 [u1] ∧ RdL o8 w8 u1 p1) follows_mixed (by kernel_rfl) rfl ⟨rfl, rfl, rfl, rfl, rfl, rfl, rfl, rfl, trivial⟩ ⟨hB, h154, hS, g0, cb4, cb3, g3, cb2, cb1, g1⟩ ?_ ⟨st_eq _, st_eq _, st_eq _, st_eq _, st_eq _, st_eq _, st_eq _, st_eq _, st_eq _, st_eq _, fun _ _ _ _ _ _ h0 hb ⟨vl, e, h⟩ hs => ⟨vl, e, h.stp hs h0.1 (Ne.symm hb)⟩, st_eq _, st_eq _, st_eq _, st_eq _, trivial⟩ ?_ ?_
          · rintro t9 o1 w1 o2 w2 ht9 ⟨hB, h154, hS, g0, cb4, cb3, g3, cb2, cb1, g1⟩ hs9
            have ht9 : t9 = 999 := by simpa using ht9
            subst ht9
            all_goals exact ⟨hB.stp hs9 (by decide), h154.stp hs9 (by decide) (by decide), hS.trq hO hs9, g0.stp hs9 (by decide), cb4.stp hs9 (by decide), cb3.stp hs9 (by decide), g3.stp hs9 (by decide) (by decide), cb2.stp hs9 (by decide), cb1.stp hs9 (by decide), g1.stp hs9 (by decide)⟩
          · refine ⟨?_, ?_, ?_, ?_, ?_, ?_, ?_, ?_, ?_, ?_, ?_, ?_, ?_, ?_, ?_, trivial⟩
            · rintro o193 w194 a195 ha ⟨hB, h154, hS, g0, cb4, cb3, g3, cb2, cb1, g1⟩ -
              refine opS_of ha (trivial) ?_
              refine op1_val (ex_load1 rfl Try.isAgg22 (cb3.cell rfl)) ?_
              exact ⟨_, Stp.refl _ _ _, rfl⟩
            · rintro o196 w197 a198 ha ⟨hB, h154, hS, g0, cb4, cb3, g3, cb2, cb1, g1⟩ -
              refine opS_of ha (trivial) ?_
              refine op1_val (ex_load1 rfl Try.isAgg3 (cb2.cell rfl)) ?_
              exact ⟨_, Stp.refl _ _ _, rfl⟩
            · rintro o199 w200 a201 ha ⟨hB, h154, hS, g0, cb4, cb3, g3, cb2, cb1, g1⟩ ⟨r202, r203, -⟩
              have ha := Fr.cons (d := 46) ha r202
              have ha := Fr.cons (d := 47) ha r203
              refine opS_of ha (trivial) ?_
              refine wd_indexW g3 (hsx_at hy uh) rfl rfl Try.underlying22 Try.sizeOf25 ?_
              exact ⟨_, Stp.refl _ _ _, rfl⟩
            · rintro o204 w205 a206 ha ⟨hB, h154, hS, g0, cb4, cb3, g3, cb2, cb1, g1⟩ ⟨r207, -⟩
              have ha := Fr.cons (d := 48) ha r207
              refine opS_of ha (trivial) ?_
              refine wd_load1W g3 (hsx_at hy uh) rfl rfl Try.isAgg25 ?_
              intro c208 h209
              obtain ⟨e210, -⟩ := h209
              cases e210
              exact ⟨_, Stp.refl _ _ _, rfl⟩
            · rintro o211 w212 a213 ha ⟨hB, h154, hS, g0, cb4, cb3, g3, cb2, cb1, g1⟩ -
              refine opS_of ha (trivial) ?_
              refine op1_val (ex_move rfl) ?_
              exact ⟨_, Stp.refl _ _ _, rfl⟩
            · rintro o214 w215 a216 ha ⟨hB, h154, hS, g0, cb4, cb3, g3, cb2, cb1, g1⟩ -
              refine opS_of ha (trivial) ?_
              refine op1_val (ex_load1 rfl Try.isAgg22 (cb3.cell rfl)) ?_
              exact ⟨_, Stp.refl _ _ _, rfl⟩
            · rintro o217 w218 a219 ha ⟨hB, h154, hS, g0, cb4, cb3, g3, cb2, cb1, g1⟩ -
              refine opS_of ha (trivial) ?_
              refine op1_val (ex_load1 rfl Try.isAgg3 (cb2.cell rfl)) ?_
              exact ⟨_, Stp.refl _ _ _, rfl⟩
            · rintro o220 w221 a222 ha ⟨hB, h154, hS, g0, cb4, cb3, g3, cb2, cb1, g1⟩ ⟨r223, r224, -⟩
              have ha := Fr.cons (d := 51) ha r223
              have ha := Fr.cons (d := 52) ha r224
              refine opS_of ha (trivial) ?_
              refine wd_indexW g3 (hsx_at hy uh) rfl rfl Try.underlying22 Try.sizeOf25 ?_
              exact ⟨_, Stp.refl _ _ _, rfl⟩
            · rintro o225 w226 a227 ha ⟨hB, h154, hS, g0, cb4, cb3, g3, cb2, cb1, g1⟩ ⟨r228, -⟩
              have ha := Fr.cons (d := 53) ha r228
              refine opS_of ha (trivial) ?_
              refine wd_load1W g3 (hsx_at hy uh) rfl rfl Try.isAgg25 ?_
              intro c229 h230
              obtain ⟨e231, -⟩ := h230
              cases e231
              exact ⟨_, Stp.refl _ _ _, rfl⟩
            · rintro o232 w233 a234 ha ⟨hB, h154, hS, g0, cb4, cb3, g3, cb2, cb1, g1⟩ -
              refine opS_of ha (trivial) ?_
              refine op1_val (ex_move rfl) ?_
              exact ⟨_, Stp.refl _ _ _, rfl⟩
            · rintro o235 w236 a237 ha ⟨hB, h154, hS, g0, cb4, cb3, g3, cb2, cb1, g1⟩ ⟨r238, r239, -⟩
              have ha := Fr.cons (d := 54) ha r238
              have ha := Fr.cons (d := 55) ha r239
              refine opS_of ha (trivial) ?_
              refine wd_indexW h154 hx189 rfl rfl Try.underlying25 Try.sizeOf3 ?_
              exact ⟨_, Stp.refl _ _ _, ⟨_, rfl, h154⟩⟩
            · rintro o240 w241 a242 ha ⟨hB, h154, hS, g0, cb4, cb3, g3, cb2, cb1, g1⟩ ⟨r243, -⟩
              obtain ⟨v244, e245, h246⟩ := r243
              have ha := Fr.cons (d := 56) ha e245
              refine opS_of ha (trivial) ?_
              refine wd_load1W h246 hx189 rfl rfl Try.isAgg3 ?_
              intro c247 h248
              cases h248
              exact ⟨_, Stp.refl _ _ _, rfl⟩
            · rintro o249 w250 a251 ha ⟨hB, h154, hS, g0, cb4, cb3, g3, cb2, cb1, g1⟩ -
              refine opS_of ha (trivial) ?_
              refine op1_val (ex_move rfl) ?_
              exact ⟨_, Stp.refl _ _ _, rfl⟩
            · rintro o252 w253 a254 ha ⟨hB, h154, hS, g0, cb4, cb3, g3, cb2, cb1, g1⟩ ⟨r255, r256, -⟩
              have ha := Fr.cons (d := 57) ha r255
              have ha := Fr.cons (d := 58) ha r256
              refine opS_of ha (trivial) ?_
              refine op1_val (ex_add rfl rfl hx192) ?_
              exact ⟨_, Stp.refl _ _ _, rfl⟩
            · rintro o257 w258 a259 ha ⟨hB, h154, hS, g0, cb4, cb3, g3, cb2, cb1, g1⟩ ⟨r260, -⟩
              have ha := Fr.cons (d := 59) ha r260
              refine opS_of ha (trivial) ?_
              refine op1_val (ex_min rfl rfl) ?_
              exact ⟨_, Stp.refl _ _ _, rfl⟩
          rintro o261 w262 a263 ha ⟨hB, h154, hS, g0, cb4, cb3, g3, cb2, cb1, g1⟩ ⟨-, -, -, r264, r265, -, -, -, -, -, -, -, -, -, r266, -⟩
          have ha := Fr.cons (d := 49) ha r264
          have ha := Fr.cons (d := 50) ha r265
          have ha := Fr.cons (d := 60) ha r266
          refine wl_of ha ?_
          simp only [List.length_cons, List.length_nil, Nat.zero_add, Nat.reduceAdd, List.drop_succ_cons, List.drop_zero]
          obtain ⟨x267, hx267, b166⟩ := bind_some b166
          refine st_op (by decide) trivial ?_
          refine wf_atP h154 hx267 rfl rfl Try.underlying25 Try.sizeOf3 ?_
          intro b268 c270 h273 h271 h272
          cases h272
          obtain ⟨x276, hx276, b166⟩ := bind_some b166
          refine st_op0 trivial ?_
          refine wf_storeW h154 h273 hx276 rfl (by decide) rfl rfl rfl Try.sizeOf3 rfl ?_
          intro w274 h277 s275
          replace hS := hS.trans s275
          replace g0 := g0.stp s275 (by decide)
          replace cb1 := cb1.stp s275 (by decide)
          replace g1 := g1.stp s275 (by decide)
          replace cb2 := cb2.stp s275 (by decide)
          replace cb3 := cb3.stp s275 (by decide)
          replace g3 := g3.stp s275 (by decide) (by decide)
          replace cb4 := cb4.stp s275 (by decide)
          replace hB := hB.stp s275 (by decide)
          refine wpF_end (r := [(0, u0), (2, (.pointer (some ⟨b2, 0, none⟩))), (3, (.pointer (some ⟨b3, 0, none⟩))), (4, (.pointer (some ⟨b4, 0, none⟩))), (6, (.int .i64 y49)), (34, (.int .i64 p4.Labels)), (35, (.int .i64 i157))]) ⟨rfl, rfl, rfl, rfl, rfl, rfl, rfl, trivial⟩ ?_
          refine nb_norm ?_
          refine nx ?_
          refine wpC_region ?_
          refine st_val (ex_add rfl rfl (ck_in (by omega) (by omega))) (by decide) trivial ?_
          refine st_val (ex_move rfl) (by decide) trivial ?_
          refine wpF_end (r := [(0, u0), (2, (.pointer (some ⟨b2, 0, none⟩))), (3, (.pointer (some ⟨b3, 0, none⟩))), (4, (.pointer (some ⟨b4, 0, none⟩))), (6, (.int .i64 y49)), (34, (.int .i64 p4.Labels)), (35, (.int .i64 (i157 + 1)))]) ⟨rfl, rfl, rfl, rfl, rfl, rfl, rfl, trivial⟩ ?_
          refine nt_norm ?_
          have e278 := Option.some.inj b166
          subst e278
          refine to_k (r := [(0, u0), (2, (.pointer (some ⟨b2, 0, none⟩))), (3, (.pointer (some ⟨b3, 0, none⟩))), (4, (.pointer (some ⟨b4, 0, none⟩))), (6, (.int .i64 y49)), (34, (.int .i64 p4.Labels)), (35, (.int .i64 (i157 + 1)))]) ⟨rfl, rfl, rfl, rfl, rfl, rfl, rfl, trivial⟩ ?_
          intro a ha
          exact ⟨_, (by rw [← m163]; omega), i157 + 1, x276, o261, n167, rfl, (by omega), ha, hB, h277, hS, g0, cb4, cb3, g3, cb2, cb1, g1⟩
        · rw [if_neg (by rw [t182]; decide)] at b166
          refine wpC_skip ?_
          refine nb_norm ?_
          refine nx ?_
          refine wpC_region ?_
          refine st_val (ex_add rfl rfl (ck_in (by omega) (by omega))) (by decide) trivial ?_
          refine st_val (ex_move rfl) (by decide) trivial ?_
          refine wpF_end (r := [(0, u0), (2, (.pointer (some ⟨b2, 0, none⟩))), (3, (.pointer (some ⟨b3, 0, none⟩))), (4, (.pointer (some ⟨b4, 0, none⟩))), (6, (.int .i64 y49)), (34, (.int .i64 p4.Labels)), (35, (.int .i64 (i157 + 1)))]) ⟨rfl, rfl, rfl, rfl, rfl, rfl, rfl, trivial⟩ ?_
          refine nt_norm ?_
          have e279 := Option.some.inj b166
          subst e279
          refine to_k (r := [(0, u0), (2, (.pointer (some ⟨b2, 0, none⟩))), (3, (.pointer (some ⟨b3, 0, none⟩))), (4, (.pointer (some ⟨b4, 0, none⟩))), (6, (.int .i64 y49)), (34, (.int .i64 p4.Labels)), (35, (.int .i64 (i157 + 1)))]) ⟨rfl, rfl, rfl, rfl, rfl, rfl, rfl, trivial⟩ ?_
          intro a ha
          exact ⟨_, (by rw [← m163]; omega), i157 + 1, y153, o155, n167, rfl, (by omega), ha, hB, h154, hS, g0, cb4, cb3, g3, cb2, cb1, g1⟩
      · have r280 := forN_done t168 l161
        refine wp_of ha ?_
        refine wpC_seq ?_
        refine wpC_region ?_
        refine st_val (ex_lss rfl rfl) (by decide) trivial ?_
        refine wpF_end (r := [(0, u0), (2, (.pointer (some ⟨b2, 0, none⟩))), (3, (.pointer (some ⟨b3, 0, none⟩))), (4, (.pointer (some ⟨b4, 0, none⟩))), (6, (.int .i64 y49)), (34, (.int .i64 p4.Labels)), (35, (.int .i64 i157)), (36, (.bool (decide (i157 < p4.Labels))))]) ⟨rfl, rfl, rfl, rfl, rfl, rfl, rfl, rfl, trivial⟩ ?_
        refine nx ?_
        refine wpC_seq ?_
        refine wpC_false (congrArg (fun b => some (Value.bool b)) (decide_eq_false t168)) ?_
        refine wpC_exit ?_
        refine nt_exit ?_
        refine nt_exit ?_
        refine nb_hit ?_
        refine np_norm ?_
        refine to_k (r := []) trivial ?_
        intro a ha
        exact ⟨y153, o155, r280, ha, hB, h154, hS, cb4, cb3, g3, cb2, cb1, g1⟩
    · rintro a w156 ⟨y153, o155, rfl, ha, hB, h154, hS, cb4, cb3, g3, cb2, cb1, g1⟩
      dsimp only at hF
      refine ap_k ha ?_
      have e281 := Option.some.inj hF
      subst e281
      refine ret_norm (P := Try.prog) (vs := []) Try.results28 trivial ?_
      exact ⟨o155, rfl, h154, hS⟩
    · exact fun _ _ h => h.elim
  · exact fun _ _ h => h.elim
open Go.RowKit
/-- What holds beside the row. -/
def InvC (oo : Tg) (w : World) (b1 : Nat) (u1 : Value) (p1 : List (List Int)) (b2 : Nat) (p2 : Int) (b3 : Nat) (u3 : Value) (p3 : List (List Int)) (uh : Value) (b4 : Nat) (p4 : T_RootedProblem) (z : Value) (s : List Int) (o : Tg) (w1 : World) : Prop :=
  Bs oo o w w1 ∧ Bx w.heap.size 15 o w1 b1 22 [u1] ∧ RdL o w1 u1 p1 ∧ Bx w.heap.size 18 o w1 b2 3 [.int .i64 p2] ∧ Bx w.heap.size 17 o w1 b3 22 [u3] ∧
  Ow w.heap.size 25 16 o w1 u3 (hsx p3 p2 uh) ∧ Ow w.heap.size 3 20 o w1 uh s ∧ Bx w.heap.size 11 o w1 b4 29 [.int .i64 p4.Labels, .int .i64 p4.Children, z]
section
variable {oo : Tg} {w : World} {b1 : Nat} {u1 : Value} {p1 : List (List Int)} {b2 : Nat} {p2 : Int} {b3 : Nat} {u3 : Value} {p3 : List (List Int)} {uh : Value} {b4 : Nat} {p4 : T_RootedProblem} {z : Value}
theorem invC_ok : InvOk (InvC oo w b1 u1 p1 b2 p2 b3 u3 p3 uh b4 p4 z) := by
  rintro s o w1 o' w' ⟨hB, h1, h2, h3, h4, h5, h6, h7⟩ m
  exact ⟨hB.mvr m (by decide), h1.mvr m (by decide), h2.mvr m (by decide), h3.mvr m (by decide), h4.mvr m (by decide), h5.mvr m (by decide) (by decide), h6.mvr m (by decide) (by decide), h7.mvr m (by decide)⟩
theorem efC (fuel : Nat) {xs0 : List (List Int)} {rw0 : List Int} (hy : st xs0 p2 rw0 = some p3) (hz : RdL zt w z p4.Lines) :
    EfV Try.prog 20 (InvC oo w b1 u1 p1 b2 p2 b3 u3 p3 uh b4 p4 z) (.func (.func 28) #[] #[.pointer (some ⟨b1, 0, none⟩), .pointer (some ⟨b2, 0, none⟩), .pointer (some ⟨b3, 0, none⟩), .pointer (some ⟨b4, 0, none⟩)])
      (fun ls s => fI_CountRootedSolutions_1 fuel ls p1 p2 s p3 p4) := by
  refine ⟨_, [_, _, _, _], rfl, Try.call28, ?_⟩
  intro s s' o w1 lv ls hI hl hF
  have m := lay0_mvr o w1
  obtain ⟨hB, h1, h2, h3, h4, h5, h6, h7⟩ := id hI
  have hl := hl.lay0S
  refine (cI_CountRootedSolutions_1 fuel w w1 oo (lay0 o) (hB.mvr m (by decide)) (fun b _ => lay0_ne o b) lv ls hl b1 u1 p1 (h1.mvr m (by decide)) (h2.mvr m (by decide)) b2 p2 (h3.mvr m (by decide)) b3 u3 xs0 p3 rw0 hy
    (h4.mvr m (by decide)) uh (h5.mvr m (by decide) (by decide)) s (h6.mvr m (by decide) (by decide)) b4 p4 z (h7.mvr m (by decide)) hz s' hF).mono ?_
  rintro e w' ⟨o', rfl, q1, q2⟩
  have k := q2.lay0S (by decide) (by decide)
  exact ⟨rfl, _, ⟨hB.stp k (by decide), h1.stp k (by decide), h2.stp k (by decide), h3.stp k (by decide), h4.stp k (by decide), h5.stp k (by decide) (by decide), q1.bckS q2.own (by decide) (by decide), h7.stp k (by decide)⟩, k⟩
end
open Go.RowKit
theorem info2_t_Lint_Csb : Inf Try.prog 25 (.slice none 0 0) 1 24 := by unfold Inf; kernel_rfl

def fI_CountRootedSolutions_s1 (fuel : Nat) (p0 : T_RootedProblem) (x16 : List (List Int)) : (Int × (List (List Int))) → Option (Lp (Int × (List (List Int))) (Int × (List (List Int))) (Int × Bool)) := fun (s : Int × (List (List Int))) =>
  if decide (s.1 ≥ 0) then
    (ix x16 s.1) >>= fun x82 =>
    (fI_oneIf ((x82.length : Int) == 0)) >>= fun x88 =>
    (repO ([x88] : List Int) p0.Labels) >>= fun x106 =>
    (ix s.2 s.1) >>= fun x197 =>
    (st s.2 s.1 x106) >>= fun x208 =>
    (ix x16 s.1) >>= fun x210 =>
    if (x210.length : Int) == 0 then
      (ck (s.1 - 1)) >>= fun x227 =>
      some (.go (x227, (x208.set s.1.toNat x106)))
    else
      (fI_RootedProblem_eachChoice fuel x106 p0.Labels p0.Children p0.Children (fun ls9 s9 => fI_CountRootedSolutions_1 fuel ls9 x16 s.1 s9 x208 p0)) >>= fun x235 =>
      (ck (s.1 - 1)) >>= fun x250 =>
      some (.go (x250, (x208.set s.1.toNat x235)))
  else
    some (.out (s.1, s.2))
def fI_CountRootedSolutions_s2 : Int → Int → Int → Option (Lp Int Int (Int × Bool)) := fun (i270 : Int) (x280 : Int) (s : Int) =>
  (ck (s + x280)) >>= fun x286 =>
  some (.go (min x286 1000000000001))
def fI_CountRootedSolutions (fuel : Nat) (p0 : T_RootedProblem) (p1 : List Int) : Option (Int × Bool) :=
  (fI_rootedOk fuel p0 p1) >>= fun x8 =>
  if !x8 then
    some (0, false)
  else
    (fI_childrenOf p1) >>= fun x16 =>
    (mk (Rz.z : List Int) (p1.length : Int)) >>= fun x35 =>
    (ck ((p1.length : Int) - 1)) >>= fun x49 =>
    (loopF (fI_CountRootedSolutions_s1 fuel p0 x16) fuel (x49, x35)) >>= fun q71 =>
    match q71 with
    | .inl (y63, y66) =>
      (ix y66 0) >>= fun x259 =>
      (forI (fI_CountRootedSolutions_s2) x259 0 0) >>= fun q271 =>
      match q271 with
      | .inl y267 =>
        if decide (y267 > 1000000000000) then
          some (0, false)
        else
          some (y267, true)
      | .inr _ => none
    | .inr _ => none

def pI_CountRootedSolutions (w : World) (r : Int × Bool) : Ending → World → Prop := fun e w' => e = .returned (.tuple #[.int .i64 r.1, .bool r.2]) ∧ Keeps w w'
set_option maxRecDepth 100000 in
set_option maxHeartbeats 2000000 in
theorem cI_CountRootedSolutions (fuel : Nat) (w : World) (u0 : List Value) (p0 : T_RootedProblem) (g0 : Rp.rd zt w u0 p0) (u1 : Value) (p1 : List Int) (g1 : RdL zt w u1 p1) (r : Int × Bool) (hF : fI_CountRootedSolutions fuel p0 p1 = some r) :
    Calls Try.prog 9 #[.agg u0.toArray, u1] w (pI_CountRootedSolutions w r) := by
  unfold fI_CountRootedSolutions at hF
  obtain ⟨v1, rfl, h2⟩ := g0
  have hB : Bs (fun _ => 1) (col (fun _ => 1)) w w := Bs.start _ _
  refine calls_start (n := 70) (vs := [(.agg #[(.int .i64 p0.Labels), (.int .i64 p0.Children), v1]), u1]) Try.func9 rfl rfl ?_
  refine wpC_seq ?_
  refine wpC_region ?_
  refine st_op (by decide) trivial ?_
  refine wf_box (o := (col (fun _ => 1))) w.heap.size 11 hB.keeps.size (cs := [(.int .i64 p0.Labels), (.int .i64 p0.Children), v1]) rfl rfl ?_
  intro o3 w4 b5 h6 s7
  replace hB := hB.stp s7 (by decide)
  refine st_val (ex_assign rfl) (by decide) trivial ?_
  refine st_val (ex_assign rfl) (by decide) trivial ?_
  refine wpF_end (r := [(1, u1), (2, (.pointer (some ⟨b5, 0, none⟩)))]) ⟨rfl, rfl, trivial⟩ ?_
  refine nx ?_
  refine wpC_seq ?_
  refine wpC_seq ?_
  refine wpC_region ?_
  refine st_val (ex_loadA rfl Try.isAgg29 Try.sizeOf29 rfl h6.cells) (by decide) trivial ?_
  refine st_val (ex_move rfl) (by decide) trivial ?_
  obtain ⟨x8, hx8, hF⟩ := bind_some hF
  refine st_op (by decide) trivial ?_
  refine wf_call (cI_rootedOk fuel w4 _ p0 (⟨_, rfl, (h2.keep hB.keeps)⟩) _ p1 (g1.keep hB.keeps) x8 hx8) Try.call23 ⟨rfl, rfl, trivial⟩ ?_
  rintro e13 w9 ⟨rfl, k10⟩
  have s12 := k10.stp 999 o3
  refine ⟨_, rfl, ?_⟩
  replace h6 := h6.stp s12 (by decide)
  replace hB := hB.stp s12 (by decide)
  refine st_val (ex_not rfl) (by decide) trivial ?_
  refine wpF_end (r := [(1, u1), (2, (.pointer (some ⟨b5, 0, none⟩))), (15, (.bool (!x8)))]) ⟨rfl, rfl, rfl, trivial⟩ ?_
  refine nx ?_
  refine wpC_cond rfl (fun t14 => ?_) (fun t14 => ?_)
  · rw [if_pos t14] at hF
    refine wpC_seq ?_
    refine wpC_region ?_
    refine st_val (ex_assign rfl) (by decide) trivial ?_
    refine st_val (ex_assign rfl) (by decide) trivial ?_
    refine wpF_end (r := [(4, (.int .i64 0)), (5, (.bool false))]) ⟨rfl, rfl, trivial⟩ ?_
    refine nx ?_
    refine wpC_ret ?_
    refine nt_ret ?_
    have e15 := Option.some.inj hF
    subst e15
    refine ret_post (P := Try.prog) (vs := [(.int .i64 0), (.bool false)]) Try.results9 ⟨rfl, rfl, trivial⟩ ?_
    exact ⟨rfl, hB.keeps⟩
  · rw [if_neg (by rw [t14]; decide)] at hF
    refine wpC_skip ?_
    refine nx ?_
    refine wpC_seq ?_
    refine wpC_region ?_
    refine st_val (ex_move rfl) (by decide) trivial ?_
    obtain ⟨x16, hx16, hF⟩ := bind_some hF
    refine st_op (by decide) trivial ?_
    refine wf_call (cI_childrenOf w9 o3 13 (by decide) _ p1 (g1.keep hB.keeps) x16 hx16) Try.call24 ⟨rfl, trivial⟩ ?_
    rintro e25 w17 ⟨v18, g20, o26, rfl, h19, h21, k22, k23⟩
    have s24 := k22.stp' 13 k23
    replace h19 := h19.mono hB.keeps.size
    replace h21 := h21.mono hB.keeps.size
    refine ⟨_, rfl, ?_⟩
    replace h6 := h6.stp s24 (by decide)
    replace hB := hB.stp s24 (by decide)
    refine st_op (by decide) trivial ?_
    refine wf_alloc (o := o26) w.heap.size 15 hB.keeps.size (cs := [(.slice none 0 0)]) Try.zeroValue22 rfl ?_
    intro o27 w28 b29 h30 s31
    replace h19 := h19.stp s31 (by decide) (by decide)
    replace h21 := h21.stp s31 (by decide) (by decide)
    replace h6 := h6.stp s31 (by decide)
    replace hB := hB.stp s31 (by decide)
    refine st_op0 trivial ?_
    refine wf_storeB h30 rfl rfl (of_decide_eq_true rfl) Try.sizeOf22 h19.cells1 h19.one1 ?_
    intro w32 h34 s33
    replace h19 := h19.stp s33 (by decide) (by decide)
    replace h21 := h21.stp s33 (by decide) (by decide)
    replace h6 := h6.stp s33 (by decide)
    replace hB := hB.stp s33 (by decide)
    replace h34 : Bx w.heap.size 15 o27 w32 b29 22 [v18] := h34
    refine wpF_end (r := [(1, u1), (2, (.pointer (some ⟨b5, 0, none⟩))), (6, (.pointer (some ⟨b29, 0, none⟩)))]) ⟨rfl, rfl, rfl, trivial⟩ ?_
    refine nx ?_
    refine wpC_seq ?_
    refine wpC_region ?_
    refine st_val (ex_move rfl) (by decide) trivial ?_
    refine st_val (ex_lenR rfl g1 Try.underlying25) (by decide) trivial ?_
    obtain ⟨x35, hx35, hF⟩ := bind_some hF
    refine st_op (by decide) trivial ?_
    refine wf_make (o := o27) w.heap.size 16 hB.keeps.size hx35 rfl rfl Try.underlying22 info2_t_Lint_Csb rfl (by decide) ?_
    intro o36 w37 v38 h39 s40
    replace h6 := h6.stp s40 (by decide)
    replace h34 := h34.stp s40 (by decide)
    replace h19 := h19.stp s40 (by decide) (by decide)
    replace h21 := h21.stp s40 (by decide) (by decide)
    replace hB := hB.stp s40 (by decide)
    refine st_op (by decide) trivial ?_
    refine wf_alloc (o := o36) w.heap.size 17 hB.keeps.size (cs := [(.slice none 0 0)]) Try.zeroValue22 rfl ?_
    intro o41 w42 b43 h44 s45
    replace h39 := h39.stp s45 (by decide) (by decide)
    replace h6 := h6.stp s45 (by decide)
    replace h34 := h34.stp s45 (by decide)
    replace h19 := h19.stp s45 (by decide) (by decide)
    replace h21 := h21.stp s45 (by decide) (by decide)
    replace hB := hB.stp s45 (by decide)
    refine st_op0 trivial ?_
    refine wf_storeB h44 rfl rfl (of_decide_eq_true rfl) Try.sizeOf22 h39.cells1 h39.one1 ?_
    intro w46 h48 s47
    replace h39 := h39.stp s47 (by decide) (by decide)
    replace h6 := h6.stp s47 (by decide)
    replace h34 := h34.stp s47 (by decide)
    replace h19 := h19.stp s47 (by decide) (by decide)
    replace h21 := h21.stp s47 (by decide) (by decide)
    replace hB := hB.stp s47 (by decide)
    replace h48 : Bx w.heap.size 17 o41 w46 b43 22 [v38] := h48
    refine wpF_end (r := [(1, u1), (2, (.pointer (some ⟨b5, 0, none⟩))), (6, (.pointer (some ⟨b29, 0, none⟩))), (7, (.pointer (some ⟨b43, 0, none⟩)))]) ⟨rfl, rfl, rfl, rfl, trivial⟩ ?_
    refine nx ?_
    refine wpC_seq ?_
    refine wpC_seq ?_
    refine wpC_region ?_
    refine st_val (ex_move rfl) (by decide) trivial ?_
    refine st_val (ex_lenR rfl g1 Try.underlying25) (by decide) trivial ?_
    obtain ⟨x49, hx49, hF⟩ := bind_some hF
    refine st_val (ex_sub rfl rfl hx49) (by decide) trivial ?_
    refine st_op (by decide) trivial ?_
    refine wf_alloc (o := o41) w.heap.size 18 hB.keeps.size (cs := [(.int .i64 0)]) Try.zeroValue3 rfl ?_
    intro o50 w51 b52 h53 s54
    replace h6 := h6.stp s54 (by decide)
    replace h34 := h34.stp s54 (by decide)
    replace h19 := h19.stp s54 (by decide) (by decide)
    replace h21 := h21.stp s54 (by decide) (by decide)
    replace h48 := h48.stp s54 (by decide)
    replace h39 := h39.stp s54 (by decide) (by decide)
    replace hB := hB.stp s54 (by decide)
    refine st_op0 trivial ?_
    refine wf_storeB h53 rfl rfl (of_decide_eq_true rfl) Try.sizeOf3 rfl rfl ?_
    intro w55 h57 s56
    replace h6 := h6.stp s56 (by decide)
    replace h34 := h34.stp s56 (by decide)
    replace h19 := h19.stp s56 (by decide) (by decide)
    replace h21 := h21.stp s56 (by decide) (by decide)
    replace h48 := h48.stp s56 (by decide)
    replace h39 := h39.stp s56 (by decide) (by decide)
    replace hB := hB.stp s56 (by decide)
    replace h57 : Bx w.heap.size 18 o50 w55 b52 3 [(.int .i64 x49)] := h57
    refine wpF_end (r := [(2, (.pointer (some ⟨b5, 0, none⟩))), (6, (.pointer (some ⟨b29, 0, none⟩))), (7, (.pointer (some ⟨b43, 0, none⟩))), (8, (.pointer (some ⟨b52, 0, none⟩)))]) ⟨rfl, rfl, rfl, rfl, trivial⟩ ?_
    refine nx ?_
    have h58 := Dz.of h19 h21 (by decide) (by decide) (by decide)
    have r59 := frz_rc 13 o50
    have r60 := frz_rc 14 (frz 13 o50)
    replace h6 := (h6.rc r59 (by decide)).rc r60 (by decide)
    replace h34 := (h34.rc r59 (by decide)).rc r60 (by decide)
    replace h48 := (h48.rc r59 (by decide)).rc r60 (by decide)
    replace h39 := (h39.rc r59 (by decide) (by decide)).rc r60 (by decide) (by decide)
    replace h57 := (h57.rc r59 (by decide)).rc r60 (by decide)
    replace hB := (hB.rc r59 (by decide)).rc r60 (by decide)
    clear r59 r60
    generalize frz 14 (frz 13 o50) = o62 at *
    have h61 := h58.rd
    obtain ⟨q71, hq71, hF⟩ := bind_some hF
    refine wpC_cutN (fun a w70 => ∃ (y63 : Int) (y66 : List (List Int)) (v67 : Value) (b64 : Nat) (o69 : Tg), q71 = .inl (y63, y66) ∧ Fr a 70 [(7, (.pointer (some ⟨b43, 0, none⟩)))] ∧ Bs (fun _ => 1) o69 w w70 ∧ Bx w.heap.size 17 o69 w70 b43 22 [v67] ∧ Ow w.heap.size 25 16 o69 w70 v67 y66) (fun _ _ => False) ?_ ?_ ?_
    · refine wpC_block ?_
      refine wpC_loop (fun (K : Nat) a w70 => ∃ (y63 : Int) (y66 : List (List Int)) (v67 : Value) (b64 : Nat) (o69 : Tg), loopF (fI_CountRootedSolutions_s1 fuel p0 x16) K (y63, y66) = some q71 ∧ Fr a 70 [(2, (.pointer (some ⟨b5, 0, none⟩))), (6, (.pointer (some ⟨b29, 0, none⟩))), (7, (.pointer (some ⟨b43, 0, none⟩))), (8, (.pointer (some ⟨b64, 0, none⟩)))] ∧ Bs (fun _ => 1) o69 w w70 ∧ Bx w.heap.size 11 o69 w70 b5 29 [(.int .i64 p0.Labels), (.int .i64 p0.Children), v1] ∧ Bx w.heap.size 15 o69 w70 b29 22 [v18] ∧ RdL o69 w70 v18 x16 ∧ Dz 25 3 o69 w70 v18 x16 ∧ Bx w.heap.size 17 o69 w70 b43 22 [v67] ∧ Ow w.heap.size 25 16 o69 w70 v67 y66 ∧ Bx w.heap.size 18 o69 w70 b64 3 [(.int .i64 y63)]) fuel (fun a ha => ⟨x49, x35, v38, b52, o62, hq71, ha.sub (r := [(2, (.pointer (some ⟨b5, 0, none⟩))), (6, (.pointer (some ⟨b29, 0, none⟩))), (7, (.pointer (some ⟨b43, 0, none⟩))), (8, (.pointer (some ⟨b52, 0, none⟩)))]) ⟨rfl, rfl, rfl, rfl, trivial⟩, hB, h6, h34, h61, h58, h48, h39, h57⟩) ?_
      rintro K75 a w70 ⟨y63, y66, v67, b64, o69, l72, ha, hB, h6, h34, h61, h58, h48, h68, h65⟩
      obtain ⟨K79, q76, e80, b77, n78⟩ := loopF_cons l72
      dsimp only [fI_CountRootedSolutions_s1] at b77
      refine wp_of ha ?_
      refine wpC_seq ?_
      refine wpC_seq ?_
      refine wpC_region ?_
      refine st_val (ex_load1 rfl Try.isAgg3 (h65.cell rfl)) (by decide) trivial ?_
      refine st_val (ex_geq rfl rfl) (by decide) trivial ?_
      refine wpF_end (r := [(2, (.pointer (some ⟨b5, 0, none⟩))), (6, (.pointer (some ⟨b29, 0, none⟩))), (7, (.pointer (some ⟨b43, 0, none⟩))), (8, (.pointer (some ⟨b64, 0, none⟩))), (25, (.bool (decide (y63 ≥ 0))))]) ⟨rfl, rfl, rfl, rfl, rfl, trivial⟩ ?_
      refine nx ?_
      refine wpC_cond rfl (fun t81 => ?_) (fun t81 => ?_)
      · rw [if_pos t81] at b77
        refine wpC_skip ?_
        refine nx ?_
        refine wpC_seq ?_
        refine wpC_block ?_
        refine wpC_seq ?_
        obtain ⟨x82, hx82, b77⟩ := bind_some b77
        obtain ⟨x88, hx88, b77⟩ := bind_some b77
        obtain ⟨x106, hx106, b77⟩ := bind_some b77
        refine wpC_drawn (o := o69) [(2, (.pointer (some ⟨b5, 0, none⟩))), (6, (.pointer (some ⟨b29, 0, none⟩))), (7, (.pointer (some ⟨b43, 0, none⟩))), (8, (.pointer (some ⟨b64, 0, none⟩)))] [2, 6, 7, 8] [28, 29, 30, 31, 32, 33, 34, 35, 36, 37, 38, 39, 40] [[], [], [], [], [2, 3], [4], [5], [6], [7], [8], [], [10], [9, 11]] [none, none, none, none, none, none, none, none, none, none, none, none, none] [999, 999, 999, 999, 999, 999, 999, 999, 999, 999, 999, 999, 999] [0, 0, 0, 0, 0, 0, 0, 0, 0, 0, 0, 0, 20] [999] [fun v _ _ => v = v67, fun v _ _ => v = (.int .i64 y63), fun v _ _ => v = v18, fun v _ _ => v = (.int .i64 y63), fun v o w9 => ∃ vl, v = adr vl (y63.toNat * Rp.sz (List Int)) ∧ RdL o w9 vl x16, fun v o w9 => RdL o w9 v x82, fun v _ _ => v = (.int .i64 (x82.length : Int)), fun v _ _ => v = (.bool ((x82.length : Int) == 0)), fun v _ _ => v = (.int .i64 x88), fun v o w9 => RdL o w9 v (([x88] : List Int) : List Int), fun v _ _ => v = (.pointer (some ⟨b5, 0 + 0, none⟩)), fun v _ _ => v = (.int .i64 p0.Labels), fun v o w9 => Ow w.heap.size 3 20 o w9 v x106] (fun o8 w8 => Bs (fun _ => 1) o8 w w8 ∧ Bx w.heap.size 11 o8 w8 b5 29 [(.int .i64 p0.Labels), (.int .i64 p0.Children), v1] ∧ Bx w.heap.size 15 o8 w8 b29 22 [v18] ∧ RdL o8 w8 v18 x16 ∧ Dz 25 3 o8 w8 v18 x16 ∧ Bx w.heap.size 17 o8 w8 b43 22 [v67] ∧ Ow w.heap.size 25 16 o8 w8 v67 y66 ∧ Bx w.heap.size 18 o8 w8 b64 3 [(.int .i64 y63)]) follows_mixed (by kernel_rfl) rfl ⟨rfl, rfl, rfl, rfl, trivial⟩ ⟨hB, h6, h34, h61, h58, h48, h68, h65⟩ ?_ ⟨st_eq _, st_eq _, st_eq _, st_eq _, fun _ _ _ _ _ _ h0 hb ⟨vl, e, h⟩ hs => ⟨vl, e, h.stp hs h0.1⟩, fun _ _ _ _ _ _ h0 hb h hs => h.stp hs h0.1, st_eq _, st_eq _, st_eq _, fun _ _ _ _ _ _ h0 hb h hs => h.stp hs h0.1, st_eq _, st_eq _, fun _ _ _ _ _ _ h0 hb h hs => h.stp hs h0.1 (Ne.symm hb), trivial⟩ ?_ ?_
        · rintro t9 o1 w1 o2 w2 ht9 ⟨hB, h6, h34, h61, h58, h48, h68, h65⟩ hs9
          have ht9 : t9 = 999 := by simpa using ht9
          subst ht9
          all_goals exact ⟨hB.stp hs9 (by decide), h6.stp hs9 (by decide), h34.stp hs9 (by decide), h61.stp hs9 (by decide), h58.stp hs9 (by decide), h48.stp hs9 (by decide), h68.stp hs9 (by decide) (by decide), h65.stp hs9 (by decide)⟩
        · refine ⟨?_, ?_, ?_, ?_, ?_, ?_, ?_, ?_, ?_, ?_, ?_, ?_, ?_, trivial⟩
          · rintro o109 w110 a111 ha ⟨hB, h6, h34, h61, h58, h48, h68, h65⟩ -
            refine opS_of ha (trivial) ?_
            refine op1_val (ex_load1 rfl Try.isAgg22 (h48.cell rfl)) ?_
            exact ⟨_, Stp.refl _ _ _, rfl⟩
          · rintro o112 w113 a114 ha ⟨hB, h6, h34, h61, h58, h48, h68, h65⟩ -
            refine opS_of ha (trivial) ?_
            refine op1_val (ex_load1 rfl Try.isAgg3 (h65.cell rfl)) ?_
            exact ⟨_, Stp.refl _ _ _, rfl⟩
          · rintro o115 w116 a117 ha ⟨hB, h6, h34, h61, h58, h48, h68, h65⟩ -
            refine opS_of ha (trivial) ?_
            refine op1_val (ex_load1 rfl Try.isAgg22 (h34.cell rfl)) ?_
            exact ⟨_, Stp.refl _ _ _, rfl⟩
          · rintro o118 w119 a120 ha ⟨hB, h6, h34, h61, h58, h48, h68, h65⟩ -
            refine opS_of ha (trivial) ?_
            refine op1_val (ex_load1 rfl Try.isAgg3 (h65.cell rfl)) ?_
            exact ⟨_, Stp.refl _ _ _, rfl⟩
          · rintro o121 w122 a123 ha ⟨hB, h6, h34, h61, h58, h48, h68, h65⟩ ⟨r124, r125, -⟩
            have ha := Fr.cons (d := 30) ha r124
            have ha := Fr.cons (d := 31) ha r125
            refine opS_of ha (trivial) ?_
            refine wd_indexR h61 hx82 rfl rfl Try.underlying22 Try.sizeOf25 ?_
            exact ⟨_, Stp.refl _ _ _, ⟨_, rfl, h61⟩⟩
          · rintro o126 w127 a128 ha ⟨hB, h6, h34, h61, h58, h48, h68, h65⟩ ⟨r129, -⟩
            obtain ⟨v130, e131, h132⟩ := r129
            have ha := Fr.cons (d := 32) ha e131
            refine opS_of ha (trivial) ?_
            refine wd_load1 h132 hx82 rfl rfl Try.isAgg25 ?_
            intro c133 h134
            obtain ⟨v135, e137, h136⟩ := h134
            cases e137
            exact ⟨_, Stp.refl _ _ _, h136⟩
          · rintro o138 w139 a140 ha ⟨hB, h6, h34, h61, h58, h48, h68, h65⟩ ⟨r141, -⟩
            replace r141 : RdL o138 w139 (a140.tmps.getD 33 undef) x82 := r141
            generalize e143 : a140.tmps.getD 33 undef = v142 at r141
            have ha := Fr.cons (d := 33) ha e143
            refine opS_of ha (trivial) ?_
            refine op1_val (ex_lenR rfl r141 Try.underlying25) ?_
            exact ⟨_, Stp.refl _ _ _, rfl⟩
          · rintro o144 w145 a146 ha ⟨hB, h6, h34, h61, h58, h48, h68, h65⟩ ⟨r147, -⟩
            have ha := Fr.cons (d := 34) ha r147
            refine opS_of ha (trivial) ?_
            refine op1_val (ex_eql rfl rfl) ?_
            exact ⟨_, Stp.refl _ _ _, rfl⟩
          · rintro o148 w149 a150 ha ⟨hB, h6, h34, h61, h58, h48, h68, h65⟩ ⟨r151, -⟩
            have ha := Fr.cons (d := 35) ha r151
            refine opS_of ha (trivial) ?_
            refine wf_call (cI_oneIf w149 ((x82.length : Int) == 0) x88 hx88) Try.call26 ⟨rfl, trivial⟩ ?_
            rintro e156 w152 ⟨rfl, k153⟩
            have s155 := k153.stp 999 o148
            refine ⟨_, rfl, ?_⟩
            replace h6 := h6.stp s155 (by decide)
            replace h34 := h34.stp s155 (by decide)
            replace h61 := h61.stp s155 (by decide)
            replace h58 := h58.stp s155 (by decide)
            replace h48 := h48.stp s155 (by decide)
            replace h68 := h68.stp s155 (by decide) (by decide)
            replace h65 := h65.stp s155 (by decide)
            replace hB := hB.stp s155 (by decide)
            exact ⟨_, s155, rfl⟩
          · rintro o157 w158 a159 ha ⟨hB, h6, h34, h61, h58, h48, h68, h65⟩ ⟨r160, -⟩
            have ha := Fr.cons (d := 36) ha r160
            refine opS_of ha (trivial) ?_
            refine wf_litR (o := o157) (cs := [(.int .i64 x88)]) (xs := ([x88] : List Int)) (vs := [(0, (.int .i64 x88))]) ⟨_, _, rfl, rfl, rfl⟩ rfl ⟨rfl, rfl, trivial⟩ Try.underlying25 Try.sizeOf3 Try.zeroValue3 (by decide) (fill1 rfl) (by simp) ?_
            intro o161 w162 v163 h164 s165 k166
            replace h6 := h6.stp s165 (by decide)
            replace h34 := h34.stp s165 (by decide)
            replace h61 := h61.stp s165 (by decide)
            replace h58 := h58.stp s165 (by decide)
            replace h48 := h48.stp s165 (by decide)
            replace h68 := h68.stp s165 (by decide) (by decide)
            replace h65 := h65.stp s165 (by decide)
            replace hB := hB.stp s165 (by decide)
            exact ⟨_, s165, h164⟩
          · rintro o167 w168 a169 ha ⟨hB, h6, h34, h61, h58, h48, h68, h65⟩ -
            refine opS_of ha (trivial) ?_
            refine op1_val (ex_field rfl Try.underlying29 rfl Try.sizeOf3) ?_
            exact ⟨_, Stp.refl _ _ _, rfl⟩
          · rintro o170 w171 a172 ha ⟨hB, h6, h34, h61, h58, h48, h68, h65⟩ ⟨r173, -⟩
            have ha := Fr.cons (d := 38) ha r173
            refine opS_of ha (trivial) ?_
            refine op1_val (ex_load1 rfl Try.isAgg3 (h6.cell rfl)) ?_
            exact ⟨_, Stp.refl _ _ _, rfl⟩
          · rintro o174 w175 a176 ha ⟨hB, h6, h34, h61, h58, h48, h68, h65⟩ ⟨r177, r178, -⟩
            replace r177 : RdL o174 w175 (a176.tmps.getD 37 undef) (([x88] : List Int) : List Int) := r177
            generalize e180 : a176.tmps.getD 37 undef = v179 at r177
            have ha := Fr.cons (d := 37) ha e180
            have ha := Fr.cons (d := 39) ha r178
            refine opS_of ha (trivial) ?_
            refine wf_call (cX_Repeat w175 o174 20 v179 ([x88] : List Int) r177.z p0.Labels x106 hx106) Try.call25 ⟨rfl, rfl, trivial⟩ ?_
            rintro e182 w181 ⟨v187, o186, rfl, h188, k183, k184⟩
            have s185 := k183.stp' 999 k184
            replace h188 := h188.mono hB.keeps.size
            refine ⟨_, rfl, ?_⟩
            replace r177 := r177.stp s185 (by decide)
            replace h6 := h6.stp s185 (by decide)
            replace h34 := h34.stp s185 (by decide)
            replace h61 := h61.stp s185 (by decide)
            replace h58 := h58.stp s185 (by decide)
            replace h48 := h48.stp s185 (by decide)
            replace h68 := h68.stp s185 (by decide) (by decide)
            replace h65 := h65.stp s185 (by decide)
            replace hB := hB.stp s185 (by decide)
            exact ⟨_, s185, h188⟩
        rintro o189 w190 a191 ha ⟨hB, h6, h34, h61, h58, h48, h68, h65⟩ ⟨r192, r193, -, -, -, -, -, -, -, -, -, -, r194, -⟩
        have ha := Fr.cons (d := 28) ha r192
        have ha := Fr.cons (d := 29) ha r193
        replace r194 : Ow w.heap.size 3 20 o189 w190 (a191.tmps.getD 40 undef) x106 := r194
        generalize e196 : a191.tmps.getD 40 undef = v195 at r194
        have ha := Fr.cons (d := 40) ha e196
        refine wl_of ha ?_
        simp only [List.length_cons, List.length_nil, Nat.zero_add, Nat.reduceAdd, List.drop_succ_cons, List.drop_zero]
        obtain ⟨x197, hx197, b77⟩ := bind_some b77
        refine st_op (by decide) trivial ?_
        refine wf_atP h68 hx197 rfl rfl Try.underlying22 Try.sizeOf25 ?_
        intro b198 c200 h203 h201 h202
        obtain ⟨v204, rfl, h205⟩ := h202
        obtain ⟨x208, hx208, b77⟩ := bind_some b77
        refine st_op0 trivial ?_
        refine wf_storeH h68 h203 hx208 r194 (by decide) rfl rfl Try.sizeOf25 ?_
        intro w206 h209 s207
        replace r194 := r194.stp s207 (by decide) (by decide)
        replace h205 := h205.stp s207 (by decide)
        replace h6 := h6.stp s207 (by decide)
        replace h34 := h34.stp s207 (by decide)
        replace h61 := h61.stp s207 (by decide)
        replace h58 := h58.stp s207 (by decide)
        replace h48 := h48.stp s207 (by decide)
        replace h65 := h65.stp s207 (by decide)
        replace hB := hB.stp s207 (by decide)
        refine wpF_end (r := [(2, (.pointer (some ⟨b5, 0, none⟩))), (6, (.pointer (some ⟨b29, 0, none⟩))), (7, (.pointer (some ⟨b43, 0, none⟩))), (8, (.pointer (some ⟨b64, 0, none⟩)))]) ⟨rfl, rfl, rfl, rfl, trivial⟩ ?_
        refine nx ?_
        refine wpC_seq ?_
        refine wpC_seq ?_
        refine wpC_region ?_
        refine st_val (ex_load1 rfl Try.isAgg22 (h34.cell rfl)) (by decide) trivial ?_
        refine st_val (ex_load1 rfl Try.isAgg3 (h65.cell rfl)) (by decide) trivial ?_
        obtain ⟨x210, hx210, b77⟩ := bind_some b77
        refine st_op (by decide) trivial ?_
        refine wf_atO h61 hx210 rfl rfl Try.underlying22 Try.sizeOf25 ?_
        intro b211 f212 c213 h214 h215
        obtain ⟨v216, rfl, h217⟩ := h215
        refine st_val (ex_load1 rfl Try.isAgg25 (cell_of_cells h214)) (by decide) trivial ?_
        refine st_val (ex_lenR rfl h217 Try.underlying25) (by decide) trivial ?_
        refine st_val (ex_eql rfl rfl) (by decide) trivial ?_
        refine wpF_end (r := [(2, (.pointer (some ⟨b5, 0, none⟩))), (6, (.pointer (some ⟨b29, 0, none⟩))), (7, (.pointer (some ⟨b43, 0, none⟩))), (8, (.pointer (some ⟨b64, 0, none⟩))), (47, (.bool ((x210.length : Int) == 0)))]) ⟨rfl, rfl, rfl, rfl, rfl, trivial⟩ ?_
        refine nx ?_
        refine wpC_cond rfl (fun t218 => ?_) (fun t218 => ?_)
        · rw [if_pos t218] at b77
          refine wpC_exit ?_
          refine nt_exit ?_
          refine nb_hit ?_
          refine nx ?_
          refine wpC_seq ?_
          refine wpC_seq ?_
          refine wpC_region ?_
          refine st_val (ex_load1 rfl Try.isAgg3 (h65.cell rfl)) (by decide) trivial ?_
          refine wpF_end (r := [(2, (.pointer (some ⟨b5, 0, none⟩))), (6, (.pointer (some ⟨b29, 0, none⟩))), (7, (.pointer (some ⟨b43, 0, none⟩))), (53, (.int .i64 y63))]) ⟨rfl, rfl, rfl, rfl, trivial⟩ ?_
          refine nx ?_
          refine wpC_region ?_
          refine st_op (by decide) trivial ?_
          refine wf_alloc (o := o189) w.heap.size 18 hB.keeps.size (cs := [(.int .i64 0)]) Try.zeroValue3 rfl ?_
          intro o219 w220 b221 h222 s223
          replace r194 := r194.stp s223 (by decide) (by decide)
          replace h6 := h6.stp s223 (by decide)
          replace h34 := h34.stp s223 (by decide)
          replace h61 := h61.stp s223 (by decide)
          replace h58 := h58.stp s223 (by decide)
          replace h48 := h48.stp s223 (by decide)
          replace h209 := h209.stp s223 (by decide) (by decide)
          replace hB := hB.stp s223 (by decide)
          refine st_op0 trivial ?_
          refine wf_storeB h222 rfl rfl (of_decide_eq_true rfl) Try.sizeOf3 rfl rfl ?_
          intro w224 h226 s225
          replace r194 := r194.stp s225 (by decide) (by decide)
          replace h6 := h6.stp s225 (by decide)
          replace h34 := h34.stp s225 (by decide)
          replace h61 := h61.stp s225 (by decide)
          replace h58 := h58.stp s225 (by decide)
          replace h48 := h48.stp s225 (by decide)
          replace h209 := h209.stp s225 (by decide) (by decide)
          replace hB := hB.stp s225 (by decide)
          replace h226 : Bx w.heap.size 18 o219 w224 b221 3 [(.int .i64 y63)] := h226
          refine wpF_end (r := [(2, (.pointer (some ⟨b5, 0, none⟩))), (6, (.pointer (some ⟨b29, 0, none⟩))), (7, (.pointer (some ⟨b43, 0, none⟩))), (8, (.pointer (some ⟨b221, 0, none⟩)))]) ⟨rfl, rfl, rfl, rfl, trivial⟩ ?_
          refine nx ?_
          refine wpC_region ?_
          refine st_val (ex_load1 rfl Try.isAgg3 (h226.cell rfl)) (by decide) trivial ?_
          obtain ⟨x227, hx227, b77⟩ := bind_some b77
          refine st_val (ex_sub rfl rfl hx227) (by decide) trivial ?_
          refine st_op0 trivial ?_
          refine wf_storeB h226 rfl rfl (of_decide_eq_true rfl) Try.sizeOf3 rfl rfl ?_
          intro w228 h230 s229
          replace r194 := r194.stp s229 (by decide) (by decide)
          replace h6 := h6.stp s229 (by decide)
          replace h34 := h34.stp s229 (by decide)
          replace h61 := h61.stp s229 (by decide)
          replace h58 := h58.stp s229 (by decide)
          replace h48 := h48.stp s229 (by decide)
          replace h209 := h209.stp s229 (by decide) (by decide)
          replace hB := hB.stp s229 (by decide)
          replace h230 : Bx w.heap.size 18 o219 w228 b221 3 [(.int .i64 x227)] := h230
          refine wpF_end (r := [(2, (.pointer (some ⟨b5, 0, none⟩))), (6, (.pointer (some ⟨b29, 0, none⟩))), (7, (.pointer (some ⟨b43, 0, none⟩))), (8, (.pointer (some ⟨b221, 0, none⟩)))]) ⟨rfl, rfl, rfl, rfl, trivial⟩ ?_
          refine nt_norm ?_
          have h231 := r194.frzF
          replace r194 := r194.frz
          replace h6 := h6.frz_ne (j := 20) (by decide)
          replace h34 := h34.frz_ne (j := 20) (by decide)
          replace h61 := h61.frz 20
          replace h58 := h58.frz 20 (by decide)
          replace h48 := h48.frz_ne (j := 20) (by decide)
          replace h209 := h209.frz_ne (j := 20) (by decide)
          replace h230 := h230.frz_ne (j := 20) (by decide)
          replace hB := hB.frz 20 (by decide)
          generalize (frz 20 o219) = o232 at *
          have h233 := Ow.closeH h209 hx208 r194
          have e234 := Option.some.inj b77
          subst e234
          refine to_k (r := [(2, (.pointer (some ⟨b5, 0, none⟩))), (6, (.pointer (some ⟨b29, 0, none⟩))), (7, (.pointer (some ⟨b43, 0, none⟩))), (8, (.pointer (some ⟨b221, 0, none⟩)))]) ⟨rfl, rfl, rfl, rfl, trivial⟩ ?_
          intro a ha
          exact ⟨K79, by omega, x227, (x208.set y63.toNat x106), v67, b221, o232, n78, ha, hB, h6, h34, h61, h58, h48, h233, h230⟩
        · rw [if_neg (by rw [t218]; decide)] at b77
          refine wpC_skip ?_
          refine nx ?_
          refine wpC_region ?_
          refine st_val (ex_loadA rfl Try.isAgg29 Try.sizeOf29 rfl h6.cells) (by decide) trivial ?_
          refine st_val (ex_field rfl Try.underlying29 rfl Try.sizeOf3) (by decide) trivial ?_
          refine st_val (ex_load1 rfl Try.isAgg3 (h6.cell rfl)) (by decide) trivial ?_
          refine st_val (ex_func (vs := [(.pointer (some ⟨b29, 0, none⟩)), (.pointer (some ⟨b64, 0, none⟩)), (.pointer (some ⟨b43, 0, none⟩)), (.pointer (some ⟨b5, 0, none⟩))]) ⟨rfl, rfl, rfl, rfl, trivial⟩) (by decide) trivial ?_
          obtain ⟨x235, hx235, b77⟩ := bind_some b77
          refine st_op (by decide) trivial ?_
          refine wf_call (vs := [(.agg #[(.int .i64 p0.Labels), (.int .i64 p0.Children), v1]), (.int .i64 p0.Children), (.func (.func 28) #[] #[(.pointer (some ⟨b29, 0, none⟩)), (.pointer (some ⟨b64, 0, none⟩)), (.pointer (some ⟨b43, 0, none⟩)), (.pointer (some ⟨b5, 0, none⟩))])]) (Ef.cI_RootedProblem_eachChoice fuel w206 o189 20 (by decide) (by decide) (InvC (fun _ => 1) w b29 v18 x16 b64 y63 b43 v67 x208 v195 b5 p0 v1) invC_ok x106 ⟨hB, h34, h61, h65, h48, h209, r194, h6⟩ p0.Labels p0.Children v1 p0.Children (.func (.func 28) #[] #[(.pointer (some ⟨b29, 0, none⟩)), (.pointer (some ⟨b64, 0, none⟩)), (.pointer (some ⟨b43, 0, none⟩)), (.pointer (some ⟨b5, 0, none⟩))]) (fun ls9 s9 => fI_CountRootedSolutions_1 fuel ls9 x16 y63 s9 x208 p0) (efC fuel hx208 h2) x235 hx235) Try.call27 ⟨rfl, rfl, rfl, trivial⟩ ?_
          rintro e238 w236 ⟨o237, rfl, ⟨-, -, -, -, -, -, h241, -⟩, s240⟩
          refine ⟨_, rfl, ?_⟩
          replace h6 := h6.stp s240 (by decide)
          replace h34 := h34.stp s240 (by decide)
          replace h61 := h61.stp s240 (by decide)
          replace h58 := h58.stp s240 (by decide)
          replace h48 := h48.stp s240 (by decide)
          replace h209 := h209.stp s240 (by decide) (by decide)
          replace h65 := h65.stp s240 (by decide)
          replace hB := hB.stp s240 (by decide)
          refine wpF_end (r := [(2, (.pointer (some ⟨b5, 0, none⟩))), (6, (.pointer (some ⟨b29, 0, none⟩))), (7, (.pointer (some ⟨b43, 0, none⟩))), (8, (.pointer (some ⟨b64, 0, none⟩)))]) ⟨rfl, rfl, rfl, rfl, trivial⟩ ?_
          refine nb_norm ?_
          refine nx ?_
          refine wpC_seq ?_
          refine wpC_seq ?_
          refine wpC_region ?_
          refine st_val (ex_load1 rfl Try.isAgg3 (h65.cell rfl)) (by decide) trivial ?_
          refine wpF_end (r := [(2, (.pointer (some ⟨b5, 0, none⟩))), (6, (.pointer (some ⟨b29, 0, none⟩))), (7, (.pointer (some ⟨b43, 0, none⟩))), (53, (.int .i64 y63))]) ⟨rfl, rfl, rfl, rfl, trivial⟩ ?_
          refine nx ?_
          refine wpC_region ?_
          refine st_op (by decide) trivial ?_
          refine wf_alloc (o := o237) w.heap.size 18 hB.keeps.size (cs := [(.int .i64 0)]) Try.zeroValue3 rfl ?_
          intro o242 w243 b244 h245 s246
          replace h241 := h241.stp s246 (by decide) (by decide)
          replace h6 := h6.stp s246 (by decide)
          replace h34 := h34.stp s246 (by decide)
          replace h61 := h61.stp s246 (by decide)
          replace h58 := h58.stp s246 (by decide)
          replace h48 := h48.stp s246 (by decide)
          replace h209 := h209.stp s246 (by decide) (by decide)
          replace hB := hB.stp s246 (by decide)
          refine st_op0 trivial ?_
          refine wf_storeB h245 rfl rfl (of_decide_eq_true rfl) Try.sizeOf3 rfl rfl ?_
          intro w247 h249 s248
          replace h241 := h241.stp s248 (by decide) (by decide)
          replace h6 := h6.stp s248 (by decide)
          replace h34 := h34.stp s248 (by decide)
          replace h61 := h61.stp s248 (by decide)
          replace h58 := h58.stp s248 (by decide)
          replace h48 := h48.stp s248 (by decide)
          replace h209 := h209.stp s248 (by decide) (by decide)
          replace hB := hB.stp s248 (by decide)
          replace h249 : Bx w.heap.size 18 o242 w247 b244 3 [(.int .i64 y63)] := h249
          refine wpF_end (r := [(2, (.pointer (some ⟨b5, 0, none⟩))), (6, (.pointer (some ⟨b29, 0, none⟩))), (7, (.pointer (some ⟨b43, 0, none⟩))), (8, (.pointer (some ⟨b244, 0, none⟩)))]) ⟨rfl, rfl, rfl, rfl, trivial⟩ ?_
          refine nx ?_
          refine wpC_region ?_
          refine st_val (ex_load1 rfl Try.isAgg3 (h249.cell rfl)) (by decide) trivial ?_
          obtain ⟨x250, hx250, b77⟩ := bind_some b77
          refine st_val (ex_sub rfl rfl hx250) (by decide) trivial ?_
          refine st_op0 trivial ?_
          refine wf_storeB h249 rfl rfl (of_decide_eq_true rfl) Try.sizeOf3 rfl rfl ?_
          intro w251 h253 s252
          replace h241 := h241.stp s252 (by decide) (by decide)
          replace h6 := h6.stp s252 (by decide)
          replace h34 := h34.stp s252 (by decide)
          replace h61 := h61.stp s252 (by decide)
          replace h58 := h58.stp s252 (by decide)
          replace h48 := h48.stp s252 (by decide)
          replace h209 := h209.stp s252 (by decide) (by decide)
          replace hB := hB.stp s252 (by decide)
          replace h253 : Bx w.heap.size 18 o242 w251 b244 3 [(.int .i64 x250)] := h253
          refine wpF_end (r := [(2, (.pointer (some ⟨b5, 0, none⟩))), (6, (.pointer (some ⟨b29, 0, none⟩))), (7, (.pointer (some ⟨b43, 0, none⟩))), (8, (.pointer (some ⟨b244, 0, none⟩)))]) ⟨rfl, rfl, rfl, rfl, trivial⟩ ?_
          refine nt_norm ?_
          have h254 := h241.frzF
          replace h241 := h241.frz
          replace h6 := h6.frz_ne (j := 20) (by decide)
          replace h34 := h34.frz_ne (j := 20) (by decide)
          replace h61 := h61.frz 20
          replace h58 := h58.frz 20 (by decide)
          replace h48 := h48.frz_ne (j := 20) (by decide)
          replace h209 := h209.frz_ne (j := 20) (by decide)
          replace h253 := h253.frz_ne (j := 20) (by decide)
          replace hB := hB.frz 20 (by decide)
          generalize (frz 20 o242) = o255 at *
          have h256 := Ow.closeH h209 hx208 h241
          have e257 := Option.some.inj b77
          subst e257
          refine to_k (r := [(2, (.pointer (some ⟨b5, 0, none⟩))), (6, (.pointer (some ⟨b29, 0, none⟩))), (7, (.pointer (some ⟨b43, 0, none⟩))), (8, (.pointer (some ⟨b244, 0, none⟩)))]) ⟨rfl, rfl, rfl, rfl, trivial⟩ ?_
          intro a ha
          exact ⟨K79, by omega, x250, (x208.set y63.toNat x235), v67, b244, o255, n78, ha, hB, h6, h34, h61, h58, h48, h256, h253⟩
      · rw [if_neg (by rw [t81]; decide)] at b77
        refine wpC_exit ?_
        refine nt_exit ?_
        refine nt_exit ?_
        refine nb_hit ?_
        refine np_norm ?_
        have e258 := Option.some.inj b77
        subst e258
        refine to_k (r := [(7, (.pointer (some ⟨b43, 0, none⟩)))]) ⟨rfl, trivial⟩ ?_
        intro a ha
        exact ⟨y63, y66, v67, b64, o69, n78, ha, hB, h48, h68⟩
    · rintro a w70 ⟨y63, y66, v67, b64, o69, rfl, ha, hB, h48, h68⟩
      dsimp only at hF
      refine ap_k ha ?_
      refine nx ?_
      refine wpC_seq ?_
      refine wpC_region ?_
      refine st_val (ex_assign rfl) (by decide) trivial ?_
      refine wpF_end (r := [(7, (.pointer (some ⟨b43, 0, none⟩))), (9, (.int .i64 0))]) ⟨rfl, rfl, trivial⟩ ?_
      refine nx ?_
      refine wpC_seq ?_
      refine wpC_seq ?_
      refine wpC_region ?_
      refine st_val (ex_load1 rfl Try.isAgg22 (h48.cell rfl)) (by decide) trivial ?_
      obtain ⟨x259, hx259, hF⟩ := bind_some hF
      refine st_op (by decide) trivial ?_
      refine wf_atW h68 hx259 rfl rfl Try.underlying22 Try.sizeOf25 ?_
      intro b260 f261 c262 h263 h264
      obtain ⟨v265, rfl, h266⟩ := h264
      refine st_val (ex_load1 rfl Try.isAgg25 (cell_of_cells h263)) (by decide) trivial ?_
      refine st_val (ex_lenR rfl h266 Try.underlying25) (by decide) trivial ?_
      refine st_val (ex_move rfl) (by decide) trivial ?_
      refine wpF_end (r := [(9, (.int .i64 0)), (56, v265), (57, (.int .i64 (x259.length : Int))), (58, (.int .i64 0))]) ⟨rfl, rfl, rfl, rfl, trivial⟩ ?_
      refine nx ?_
      obtain ⟨q271, hq271, hF⟩ := bind_some hF
      refine wpC_cutN (fun a w269 => ∃ (y267 : Int) (o268 : Tg), q271 = .inl y267 ∧ Fr a 70 [(9, (.int .i64 y267))] ∧ Bs (fun _ => 1) o268 w w269) (fun _ _ => False) ?_ ?_ ?_
      · refine wpC_block ?_
        refine wpC_loop (fun (K : Nat) a w269 => ∃ (i270 : Int) (y267 : Int) (o268 : Tg), forI (fI_CountRootedSolutions_s2) (x259.drop i270.toNat) i270 y267 = some q271 ∧ (x259.drop i270.toNat).length = K ∧ 0 ≤ i270 ∧ Fr a 70 [(9, (.int .i64 y267)), (56, v265), (57, (.int .i64 (x259.length : Int))), (58, (.int .i64 i270))] ∧ Bs (fun _ => 1) o268 w w269 ∧ RdL o268 w269 v265 x259) _ (fun a ha => ⟨0, 0, o69, hq271, rfl, Int.le_refl 0, ha.sub (r := [(9, (.int .i64 0)), (56, v265), (57, (.int .i64 (x259.length : Int))), (58, (.int .i64 0))]) ⟨rfl, rfl, rfl, rfl, trivial⟩, hB, h266⟩) ?_
        rintro K275 a w269 ⟨i270, y267, o268, l272, m274, z273, ha, hB, h266⟩
        by_cases t279 : i270 < (x259.length : Int)
        · obtain ⟨x280, q276, hx280, b277, n278⟩ := forI_cons z273 t279 l272
          have hle := h266.len_le
          dsimp only [fI_CountRootedSolutions_s2] at b277
          refine wp_of ha ?_
          refine wpC_seq ?_
          refine wpC_region ?_
          refine st_val (ex_lss rfl rfl) (by decide) trivial ?_
          refine wpF_end (r := [(9, (.int .i64 y267)), (56, v265), (57, (.int .i64 (x259.length : Int))), (58, (.int .i64 i270)), (59, (.bool (decide (i270 < (x259.length : Int)))))]) ⟨rfl, rfl, rfl, rfl, rfl, trivial⟩ ?_
          refine nx ?_
          refine wpC_seq ?_
          refine wpC_true (congrArg (fun b => some (Value.bool b)) (decide_eq_true t279)) ?_
          refine wpC_skip ?_
          refine nx ?_
          refine wpC_seq ?_
          refine wpC_block ?_
          refine wpC_seq ?_
          refine wpC_region ?_
          refine st_op (by decide) trivial ?_
          refine wf_atO h266 hx280 rfl rfl Try.underlying25 Try.sizeOf3 ?_
          intro b281 f282 c283 h284 h285
          cases h285
          refine st_val (ex_load1 rfl Try.isAgg3 (cell_of_cells h284)) (by decide) trivial ?_
          refine st_val (ex_assign rfl) (by decide) trivial ?_
          refine wpF_end (r := [(9, (.int .i64 y267)), (11, (.int .i64 x280)), (56, v265), (57, (.int .i64 (x259.length : Int))), (58, (.int .i64 i270))]) ⟨rfl, rfl, rfl, rfl, rfl, trivial⟩ ?_
          refine nx ?_
          refine wpC_region ?_
          refine st_val (ex_move rfl) (by decide) trivial ?_
          refine st_val (ex_move rfl) (by decide) trivial ?_
          obtain ⟨x286, hx286, b277⟩ := bind_some b277
          refine st_val (ex_add rfl rfl hx286) (by decide) trivial ?_
          refine st_val (ex_min rfl rfl) (by decide) trivial ?_
          refine st_val (ex_assign rfl) (by decide) trivial ?_
          refine wpF_end (r := [(9, (.int .i64 (min x286 1000000000001))), (56, v265), (57, (.int .i64 (x259.length : Int))), (58, (.int .i64 i270))]) ⟨rfl, rfl, rfl, rfl, trivial⟩ ?_
          refine nb_norm ?_
          refine nx ?_
          refine wpC_region ?_
          refine st_val (ex_add rfl rfl (ck_in (by omega) (by omega))) (by decide) trivial ?_
          refine st_val (ex_move rfl) (by decide) trivial ?_
          refine wpF_end (r := [(9, (.int .i64 (min x286 1000000000001))), (56, v265), (57, (.int .i64 (x259.length : Int))), (58, (.int .i64 (i270 + 1)))]) ⟨rfl, rfl, rfl, rfl, trivial⟩ ?_
          refine nt_norm ?_
          have e287 := Option.some.inj b277
          subst e287
          refine to_k (r := [(9, (.int .i64 (min x286 1000000000001))), (56, v265), (57, (.int .i64 (x259.length : Int))), (58, (.int .i64 (i270 + 1)))]) ⟨rfl, rfl, rfl, rfl, trivial⟩ ?_
          intro a ha
          exact ⟨_, (by rw [← m274]; simp only [List.length_drop]; omega), i270 + 1, min x286 1000000000001, o268, n278, rfl, (by omega), ha, hB, h266⟩
        · have r288 := forI_done t279 l272
          refine wp_of ha ?_
          refine wpC_seq ?_
          refine wpC_region ?_
          refine st_val (ex_lss rfl rfl) (by decide) trivial ?_
          refine wpF_end (r := [(9, (.int .i64 y267)), (56, v265), (57, (.int .i64 (x259.length : Int))), (58, (.int .i64 i270)), (59, (.bool (decide (i270 < (x259.length : Int)))))]) ⟨rfl, rfl, rfl, rfl, rfl, trivial⟩ ?_
          refine nx ?_
          refine wpC_seq ?_
          refine wpC_false (congrArg (fun b => some (Value.bool b)) (decide_eq_false t279)) ?_
          refine wpC_exit ?_
          refine nt_exit ?_
          refine nt_exit ?_
          refine nb_hit ?_
          refine np_norm ?_
          refine to_k (r := [(9, (.int .i64 y267))]) ⟨rfl, trivial⟩ ?_
          intro a ha
          exact ⟨y267, o268, r288, ha, hB⟩
      · rintro a w269 ⟨y267, o268, rfl, ha, hB⟩
        dsimp only at hF
        refine ap_k ha ?_
        refine nx ?_
        refine wpC_seq ?_
        refine wpC_seq ?_
        refine wpC_region ?_
        refine st_val (ex_move rfl) (by decide) trivial ?_
        refine st_val (ex_gtr rfl rfl) (by decide) trivial ?_
        refine wpF_end (r := [(9, (.int .i64 y267)), (68, (.bool (decide (y267 > 1000000000000))))]) ⟨rfl, rfl, trivial⟩ ?_
        refine nx ?_
        refine wpC_cond rfl (fun t289 => ?_) (fun t289 => ?_)
        · rw [if_pos t289] at hF
          refine wpC_seq ?_
          refine wpC_region ?_
          refine st_val (ex_assign rfl) (by decide) trivial ?_
          refine st_val (ex_assign rfl) (by decide) trivial ?_
          refine wpF_end (r := [(4, (.int .i64 0)), (5, (.bool false))]) ⟨rfl, rfl, trivial⟩ ?_
          refine nx ?_
          refine wpC_ret ?_
          refine nt_ret ?_
          have e290 := Option.some.inj hF
          subst e290
          refine ret_post (P := Try.prog) (vs := [(.int .i64 0), (.bool false)]) Try.results9 ⟨rfl, rfl, trivial⟩ ?_
          exact ⟨rfl, hB.keeps⟩
        · rw [if_neg (by rw [t289]; decide)] at hF
          refine wpC_skip ?_
          refine nx ?_
          refine wpC_seq ?_
          refine wpC_region ?_
          refine st_val (ex_move rfl) (by decide) trivial ?_
          refine st_val (ex_assign rfl) (by decide) trivial ?_
          refine st_val (ex_assign rfl) (by decide) trivial ?_
          refine wpF_end (r := [(4, (.int .i64 y267)), (5, (.bool true))]) ⟨rfl, rfl, trivial⟩ ?_
          refine nx ?_
          refine wpC_ret ?_
          have e291 := Option.some.inj hF
          subst e291
          refine ret_post (P := Try.prog) (vs := [(.int .i64 y267), (.bool true)]) Try.results9 ⟨rfl, rfl, trivial⟩ ?_
          exact ⟨rfl, hB.keeps⟩
      · exact fun _ _ h => h.elim
    · exact fun _ _ h => h.elim
end Go.Proofs.Ytjmhjobfiemmnaa
