/- Part 10 of what this claim rests on (Efx, Slc), packed by pack.py. -/
import Derived.Test.YtdbbeldgdgonfaaGreatLayC
import Derived.Lib.SlKeysI
import Derived.Test.YtdbbeldgdgonfaaGreatP04
import Derived.Test.YtdbbeldgdgonfaaGreatP09
namespace Go.Proofs.YtdbbeldgdgonfaaGreat
set_option linter.unusedSimpArgs false
set_option linter.unusedVariables false

section
open Go.RowKit
def up (o : Tg) : Tg := fun b => if 200 ≤ o b then 0 else 1
def lay0 (o : Tg) : Tg := fun b => if 200 ≤ o b then 0 else o b
def EfV (P : Program) (K : Nat) (Inv : List Int → Tg → World → Prop) (v : Value) (F : List Int → List Int → Option (List Int)) : Prop :=
  ∃ (n : Nat) (cap : List Value), v = .func (.func n) #[] cap.toArray ∧ (∀ args w, (callFunc n args).run P w = .ok (.enter n args) w) ∧
    ∀ s s' o w lv ls, Inv s o w → RdL (up o) w lv ls → F ls s = some s' → Calls P n (lv :: cap).toArray w (fun e w' => e = .returned (.tuple #[]) ∧ ∃ o', Inv s' o' w' ∧ Stp K o w o' w')
theorem EfV.cells1 {P : Program} {K : Nat} {Inv : List Int → Tg → World → Prop} {v : Value} {F : List Int → List Int → Option (List Int)} (h : EfV P K Inv v F) : v.cells = #[v] := by obtain ⟨m, cap, rfl, _⟩ := h; rfl
structure Mvr (lo : Nat) (o : Tg) (w : World) (o' : Tg) (w' : World) : Prop where
  z : w.heap.size ≤ w'.heap.size
  blk : ∀ b, b < w.heap.size → o b < lo → w'.heap[b]? = w.heap[b]? ∧ o' b = o b
  os : w'.os = w.os
  tape : w'.tape = w.tape
  output : w'.output = w.output
def InvOk (Inv : List Int → Tg → World → Prop) : Prop := ∀ s o w o' w', Inv s o w → Mvr 200 o w o' w' → Inv s o' w'
theorem Stp.mvr {t lo : Nat} {o o' : Tg} {w w' : World} (s : Stp t o w o' w') (h : lo ≤ t) : Mvr lo o w o' w' := ⟨s.size, fun b hb h1 => ⟨s.block b hb (by omega), s.own b hb⟩, s.os, s.tape, s.output⟩
theorem InvOk.st {Inv : List Int → Tg → World → Prop} (h : InvOk Inv) {s : List Int} {t : Nat} {o o' : Tg} {w w' : World} (ht : 200 ≤ t) (hI : Inv s o w) (hs : Stp t o w o' w') : Inv s o' w' := h _ _ _ _ _ hI (hs.mvr ht)
def prg (lo : Nat) (o : Tg) : Tg := fun b => if lo ≤ o b ∧ o b ≤ 999 then 1000 else o b
def bck (o : Tg) (w : World) (o' : Tg) : Tg := fun b => if b < w.heap.size then o b else o' b
theorem rT_ {lo : Nat} (o : Tg) (w : World) (hl : lo ≤ 999) : Mvr lo o w (prg lo o) w := ⟨Nat.le_refl _, fun b _ h => ⟨rfl, by unfold prg; rw [if_neg (by omega)]⟩, rfl, rfl, rfl⟩
theorem ry_ {lo : Nat} {o o' : Tg} {w w' : World} (hl : lo ≤ 999) (h : ∀ b, b < w.heap.size → o' b = prg lo o b) : Mvr lo o' w' (bck o w o') w' :=
 ⟨Nat.le_refl _, fun b _ h1 => ⟨rfl, by
  unfold bck
  split
  ·rename_i hb
   have := h b hb
   unfold prg at this
   split at this <;> omega
  ·rfl⟩, rfl, rfl, rfl⟩
theorem sa_ {lo : Nat} (hl : lo ≤ 999) (o : Tg) (b : Nat) : prg lo o b ≠ 999 := by unfold prg; split <;> omega
theorem Stp.bckS {lo K : Nat} {o o' : Tg} {w w' : World} (h : Stp K (prg lo o) w o' w') (hK : K < lo) (hl : lo ≤ 999) : Stp K o w (bck o w o') w' :=
 ⟨h.os, h.tape, h.output, h.size, fun b hb h1 => h.block b hb (by unfold prg; split <;> omega), fun b hb => by unfold Go.Proofs.YtdbbeldgdgonfaaGreat.bck; rw [if_pos hb]⟩
theorem Mvr.le {lo lo' : Nat} {o o' : Tg} {w w' : World} (h : Mvr lo o w o' w') (hl : lo' ≤ lo) : Mvr lo' o w o' w' := ⟨h.z, fun b hb h1 => h.blk b hb (by omega), h.os, h.tape, h.output⟩
theorem Mvr.trans {lo : Nat} {o o' o'' : Tg} {w w' w'' : World} (h : Mvr lo o w o' w') (k : Mvr lo o' w' o'' w'') : Mvr lo o w o'' w'' :=
 ⟨Nat.le_trans h.z k.z, fun b hb h1 => by
  obtain ⟨q1, q2⟩ := h.blk b hb h1
  obtain ⟨q3, q4⟩ := k.blk b (Nat.lt_of_lt_of_le hb h.z) (by rw [q2]; exact h1)
  exact ⟨q3.trans q1, q4.trans q2⟩, k.os.trans h.os, k.tape.trans h.tape, k.output.trans h.output⟩
section
variable {lo k B b : Nat} {o o' : Tg} {w w' : World} {e : TypeId} {v : Value} {α : Type} [Rp α] {xs : List α} {cs : List Value} {x : α}
theorem Rp.mvr (h : Rp.rd o w cs x) (m : Mvr lo o w o' w') (hl : 0 < lo) : Rp.rd o' w' cs x := Rp.mv h m.z fun b hb h0 => ⟨(m.blk b hb (by omega)).1, by rw [(m.blk b hb (by omega)).2]; exact h0⟩
theorem RdL.mvr (h : RdL o w v xs) (m : Mvr lo o w o' w') (hl : 0 < lo) : RdL o' w' v xs := h.mv m.z fun b hb h0 => ⟨(m.blk b hb (by omega)).1, by rw [(m.blk b hb (by omega)).2]; exact h0⟩
theorem Ow.mvr (h : Ow B e k o w v xs) (m : Mvr lo o w o' w') (hl : 0 < lo) (hk : k < lo) : Ow B e k o' w' v xs := by
 obtain ⟨css, h1, h2, h3, h4⟩ := h
 refine ⟨css, h1, ⟨h2.1, ?_⟩, fun g hg => ?_, fun i cs x a b => Rp.mvr (h4 i cs x a b) m hl⟩
 ·rcases h2.2 with h0 | ⟨g, cap, cur, hv, hb, hg, r⟩
  ·exact .inl h0
  ·refine .inr ⟨g, cap, cur, hv, hb, ?_, r⟩
   have hlt := (Array.getElem?_eq_some_iff.1 hg).1
   rw [(m.blk g hlt (by rw [h3 g (by rw [hv]; rfl)]; exact hk)).1]
   exact hg
 ·rw [(m.blk g (h2.lt g hg).2 (by rw [h3 g hg]; exact hk)).2]; exact h3 g hg
omit [Rp α] in
omit [Rp α] in
theorem Bs.mvr {oo : Tg} {w0 : World} (h : Bs oo o w0 w) (m : Mvr lo o w o' w') (hl : 2 ≤ lo) : Bs oo o' w0 w' :=
  ⟨⟨m.os.trans h.keeps.os, m.tape.trans h.keeps.tape, m.output.trans h.keeps.output, Nat.le_trans h.keeps.size m.z,
    fun b hb => ((m.blk b (Nat.lt_of_lt_of_le hb h.keeps.size) (by rw [h.old b hb]; split <;> omega)).1).trans (h.keeps.block b hb)⟩,
   fun b hb => by rw [(m.blk b (Nat.lt_of_lt_of_le hb h.keeps.size) (by rw [h.old b hb]; split <;> omega)).2]; exact h.old b hb⟩
theorem Ow.bckS {xs : List Int} {w1 : World} (h : Ow B e k o' w v xs) (ho : ∀ b, b < w1.heap.size → o' b = Go.Proofs.YtdbbeldgdgonfaaGreat.lay0 o b) (hk : k ≠ 0) (hk2 : k < 200) : Ow B e k (bck o w1 o') w v xs := by
 obtain ⟨css, h1, h2, h3, h4⟩ := h
 refine ⟨css, h1, h2, fun g hg => ?_, fun i cs x a b => h4 i cs x a b⟩
 have := h3 g hg
 unfold Go.Proofs.YtdbbeldgdgonfaaGreat.bck
 split
 ·rename_i hb
  rw [ho g hb] at this
  unfold Go.Proofs.YtdbbeldgdgonfaaGreat.lay0 at this
  split at this <;> omega
 ·exact this
omit [Rp α] in
theorem Bx.mvr (h : Bx B k o w b e cs) (m : Mvr lo o w o' w') (hk : k < lo) : Bx B k o' w' b e cs := by
 obtain ⟨q1, q2, q3⟩ := h
 have hb : b < w.heap.size := (Array.getElem?_eq_some_iff.1 q1).1
 exact ⟨(m.blk b hb (by rw [q2]; exact hk)).1.trans q1, (m.blk b hb (by rw [q2]; exact hk)).2.trans q2, q3⟩
end
structure Stp2 (t u : Nat) (o : Tg) (w : World) (o' : Tg) (w' : World) : Prop where
  os : w'.os = w.os
  tape : w'.tape = w.tape
  output : w'.output = w.output
  size : w.heap.size ≤ w'.heap.size
  block : ∀ b, b < w.heap.size → o b ≠ t → o b ≠ u → w'.heap[b]? = w.heap[b]?
  own : ∀ b, b < w.heap.size → o' b = o b
section
variable {t u k K B : Nat} {o o' o'' oo : Tg} {w w' w'' w0 : World} {e : TypeId} {v : Value} {α : Type} [Rp α] {xs : List α} {cs : List Value} {x : α} {b : Nat}
theorem Stp2.refl (t u : Nat) (o : Tg) (w : World) : Stp2 t u o w o w := ⟨rfl, rfl, rfl, Nat.le_refl _, fun _ _ _ _ => rfl, fun _ _ => rfl⟩
theorem Stp.l (h : Stp t o w o' w') (u : Nat) : Stp2 t u o w o' w' := ⟨h.os, h.tape, h.output, h.size, fun b hb h1 _ => h.block b hb h1, h.own⟩
theorem Stp.r (h : Stp u o w o' w') (t : Nat) : Stp2 t u o w o' w' := ⟨h.os, h.tape, h.output, h.size, fun b hb _ h2 => h.block b hb h2, h.own⟩
theorem Stp2.trans (h : Stp2 t u o w o' w') (k : Stp2 t u o' w' o'' w'') : Stp2 t u o w o'' w'' :=
 ⟨k.os.trans h.os, k.tape.trans h.tape, k.output.trans h.output, Nat.le_trans h.size k.size,
  fun b hb h1 h2 => (k.block b (Nat.lt_of_lt_of_le hb h.size) (by rw [h.own b hb]; exact h1) (by rw [h.own b hb]; exact h2)).trans (h.block b hb h1 h2),
  fun b hb => (k.own b (Nat.lt_of_lt_of_le hb h.size)).trans (h.own b hb)⟩
theorem Stp2.tr9 {T : Nat} (h : Stp2 t u o w o' w') (hO : ∀ b, b < w.heap.size → o b ≠ T) (s : Stp T o' w' o'' w'') : Stp2 t u o w o'' w'' :=
 ⟨s.os.trans h.os, s.tape.trans h.tape, s.output.trans h.output, Nat.le_trans h.size s.size,
  fun b hb h1 h2 => (s.block b (Nat.lt_of_lt_of_le hb h.size) (by rw [h.own b hb]; exact hO b hb)).trans (h.block b hb h1 h2),
  fun b hb => (s.own b (Nat.lt_of_lt_of_le hb h.size)).trans (h.own b hb)⟩
theorem Stp2.bckS {lo : Nat} (h : Stp2 t u (prg lo o) w o' w') (ht : t < lo) (hu : u < lo) (hl : lo ≤ 999) : Stp2 t u o w (bck o w o') w' :=
 ⟨h.os, h.tape, h.output, h.size, fun b hb h1 h2 => h.block b hb (by unfold prg; split <;> omega) (by unfold prg; split <;> omega), fun b hb => by unfold Go.Proofs.YtdbbeldgdgonfaaGreat.bck; rw [if_pos hb]⟩
theorem Stp.trq {T : Nat} (h : Stp t o w o' w') (hO : ∀ b, b < w.heap.size → o b ≠ T) (s : Stp T o' w' o'' w'') : Stp t o w o'' w'' :=
 ⟨s.os.trans h.os, s.tape.trans h.tape, s.output.trans h.output, Nat.le_trans h.size s.size,
  fun b hb h1 => (s.block b (Nat.lt_of_lt_of_le hb h.size) (by rw [h.own b hb]; exact hO b hb)).trans (h.block b hb h1),
  fun b hb => (s.own b (Nat.lt_of_lt_of_le hb h.size)).trans (h.own b hb)⟩
end
namespace Ef
structure Kz (w w' : World) : Prop where
  size : w.heap.size ≤ w'.heap.size
structure Bs (oo o : Tg) (w0 w : World) : Prop where
  keeps : Kz w0 w
theorem Bs.start (oo : Tg) (o : Tg) (w : World) : Bs oo o w w := ⟨⟨Nat.le_refl _⟩⟩
theorem Bs.stp {oo o o' : Tg} {w0 w w' : World} {t : Nat} (h : Bs oo o w0 w) (s : Stp t o w o' w') (ht : 2 ≤ t := by decide) : Bs oo o' w0 w' := ⟨⟨Nat.le_trans h.keeps.size s.size⟩⟩
end Ef
end

section
open Go.RowKit Go.Sort Go.Shelf
theorem ro_ {B k g cap q m : Nat} {o : Tg} {w : World} {xs zs : List Int} {cur : Array Value} (hbase : B ≤ g) (hb : w.heap[g]? = some (.cells cur 3 (0, 0))) (hn : xs.length ≤ cap) (hcap : cap ≤ maxLen) (hsz : cur.size = cap * 1) (ho : o g = k) (hz : zs.length = xs.length) (hm : m ≤ zs.length) :
  Ow B 3 k o (putRow (Value.int .i64) (Sort.ahead w q) g 0 zs.toArray) (.slice (some ⟨g, 0, none⟩) m cap) (zs.take m) ∧ Stp k o w o (putRow (Value.int .i64) (Sort.ahead w q) g 0 zs.toArray) := by
 have hr := ownsRow_sorted_i (n := q) (os := #[]) hz hbase hb hn hcap hsz
 have e0 : grow (putRow (Value.int .i64) (Sort.ahead w q) g 0 zs.toArray) #[] = putRow (Value.int .i64) (Sort.ahead w q) g 0 zs.toArray := by
  unfold grow
  rw [Array.append_empty]
 have hr : (putRow (Value.int .i64) (Sort.ahead w q) g 0 zs.toArray).ownsRow B 3 1 (.slice (some ⟨g, 0, none⟩) xs.length cap) xs.length (zs.map (Value.int .i64)) := by
  rw [← e0]; exact hr
 refine ⟨mT_ (fun g' hg => by cases hg; exact ho) ?_, ⟨rfl, rfl, rfl, by simp [putRow, mapBlock, Sort.ahead], fun b hb' hne => ?_, fun _ _ => rfl⟩⟩
 ·rw [List.length_take, Nat.min_eq_left hm]
  refine ⟨by simp [hm], .inr ?_⟩
  rcases hr.2 with ⟨h0, _⟩ | ⟨g', cap', cur', e, h1, h2, h3, h4, h5, h6⟩
  ·cases h0
  ·cases e
   refine ⟨g, cap, cur', rfl, h1, h2, by omega, h4, h5, ?_⟩
   have := congrArg (List.take m) h6
   rw [List.take_take, Nat.mul_one, Nat.min_eq_left (by omega)] at this
   rw [Nat.mul_one, this, List.map_take]
 ·have : g ≠ b := fun e => hne (by rw [← e]; exact ho)
  simp [putRow, mapBlock, Sort.ahead, Array.getElem?_modify, this]
def cmpO (xs : List Int) : Option (List Int) := if xs.length ≤ 1000000000 then some (Lib.compact xs) else none
theorem na_ (xs : List Int) : (Lib.compact xs).length ≤ xs.length := by
 unfold Lib.compact Lib.compactUpTo
 rw [List.length_map]
 exact Nat.le_trans (List.length_filter_le _ _) (by simp)
theorem ow_ {B k : Nat} {o : Tg} {w : World} {v : Value} {xs ys : List Int} (h : Ow B 3 k o w v xs) (hF : cmpO xs = some ys) :
  Calls Tryz.prog 142 #[v] w (fun e w' => ∃ v', e = .returned v' ∧ Ow B 3 k o w' v' ys ∧ Stp k o w o w') := by
 unfold cmpO at hF
 split at hF
 rotate_left
 ·cases hF
 rename_i hl
 cases hF
 obtain ⟨css, h1, h2, h3, h4⟩ := h
 rw [le_ h1 (fun i cs x a b => h4 i cs x a b)] at h2
 have h2' : w.ownsRow B 3 1 v xs.length (xs.map (Value.int .i64)) := h2
 rcases h2'.2 with ⟨rfl, h0⟩ | ⟨g, cap, cur, rfl, hbase, hb, hn, hcap, hsz, htk⟩
 ·have hx : xs = [] := List.eq_nil_of_length_eq_zero h0
  subst hx
  refine (Any.slices_Compact_int_empty Tryz.laysCompact none 0 w).mono ?_
  rintro e w' ⟨rfl, rfl⟩
  exact ⟨_, rfl, Ow.nil B 3 k o w', Stp.refl _ _ _⟩
 ·have hH : Holds (Value.int .i64) w g 0 xs.toArray := holds_of_block_i hb (by simpa using htk)
  refine (Any.slices_Compact_int Tryz.laysCompact g 0 cap xs w hH (by omega) hn).mono ?_
  rintro e w' ⟨rfl, q, rfl⟩
  have hcl := na_ xs
  obtain ⟨r1, r2⟩ := ro_ (q := q) (zs := Lib.compact xs ++ List.replicate (xs.length - (Lib.compact xs).length) 0) (m := (Lib.compact xs).length) hbase hb hn hcap hsz (h3 g rfl) (by simp; omega) (by simp)
  rw [List.take_left] at r1
  exact ⟨_, rfl, r1, r2⟩
def delO (xs : List Int) (i j : Int) : Option (List Int) := if 0 ≤ i ∧ i ≤ j ∧ j ≤ xs.length ∧ 0 < xs.length then some (xs.take i.toNat ++ xs.drop j.toNat) else none
theorem pu_ {B k : Nat} {o : Tg} {w : World} {v : Value} {xs ys : List Int} {i j : Int} (h : Ow B 3 k o w v xs) (hF : delO xs i j = some ys) :
  Calls Tryz.prog 134 #[v, .int .i64 i, .int .i64 j] w (fun e w' => ∃ v', e = .returned v' ∧ Ow B 3 k o w' v' ys ∧ Stp k o w o w') := by
 unfold delO at hF
 split at hF
 rotate_left
 ·cases hF
 rename_i hl
 cases hF
 obtain ⟨l1, l2, l3, l4⟩ := hl
 obtain ⟨css, h1, h2, h3, h4⟩ := h
 rw [le_ h1 (fun i cs x a b => h4 i cs x a b)] at h2
 have h2' : w.ownsRow B 3 1 v xs.length (xs.map (Value.int .i64)) := h2
 rcases h2'.2 with ⟨rfl, h0⟩ | ⟨g, cap, cur, rfl, hbase, hb, hn, hcap, hsz, htk⟩
 ·omega
 ·have hH : Holds (Value.int .i64) w g 0 xs.toArray := holds_of_block_i hb (by simpa using htk)
  obtain ⟨i, rfl⟩ : ∃ n : Nat, i = n := ⟨i.toNat, by omega⟩
  obtain ⟨j, rfl⟩ : ∃ n : Nat, j = n := ⟨j.toNat, by omega⟩
  simp only [Int.toNat_natCast]
  refine (Any.slices_Delete_int Tryz.laysDelete g 0 cap i j xs w hH hn (by simp only [maxLen] at hcap; omega) (by omega) (by omega)).mono ?_
  rintro e w' ⟨rfl, q, rfl⟩
  have hlen : (xs.take i ++ xs.drop j).length = xs.length - (j - i) := by
   rw [List.length_append, List.length_take, List.length_drop]; omega
  obtain ⟨r1, r2⟩ := ro_ (q := q) (zs := xs.take i ++ xs.drop j ++ List.replicate (j - i) 0) (m := (xs.take i ++ xs.drop j).length) hbase hb hn hcap hsz (h3 g rfl) (by rw [List.length_append, hlen, List.length_replicate]; omega) (by simp)
  rw [List.take_left, hlen] at r1
  exact ⟨_, rfl, r1, r2⟩
end

end Go.Proofs.YtdbbeldgdgonfaaGreat
