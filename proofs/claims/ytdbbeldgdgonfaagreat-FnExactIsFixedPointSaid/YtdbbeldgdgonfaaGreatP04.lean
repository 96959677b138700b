/- Part 4 of what this claim rests on (Kg, Sort, Elb, Ty), packed by pack.py. -/
import Derived.Test.YtdbbeldgdgonfaaGreatLay
import Derived.Shelf.Slices.In.SortAlone
import Derived.Shelf.Slices.In.SortNone
import Derived.Sort.EveryDepth
import Derived.Lib.SlKeysI
import Derived.Test.YtdbbeldgdgonfaaGreatP03
namespace Go.Proofs.YtdbbeldgdgonfaaGreat
set_option linter.unusedSimpArgs false
set_option linter.unusedVariables false

section
open Go.RowKit
section
variable {α : Type} [Rp α] {o o' : Tg} {w w' w0 : World} {v u : Value} {xs : List α} {x : α} {t k : Nat} {e : TypeId} {B : Nat}
def Rtc (t : Nat) (o o' : Tg) : Prop := ∀ b, o b ≠ t → o' b = o b
theorem Rtc.zero (r : Rtc t o o') (ht : t ≠ 0) {b : Nat} (hb : o b = 0) : o' b = 0 := by rw [r b (by rw [hb]; exact ht.symm)]; exact hb
theorem RdL.rc (h : RdL o w v xs) (r : Rtc t o o') (ht : t ≠ 0) : RdL o' w v xs := h.mv (Nat.le_refl _) fun b _ hb => ⟨rfl, r.zero ht hb⟩
theorem Rp.rc {cs : List Value} (h : Rp.rd o w cs x) (r : Rtc t o o') (ht : t ≠ 0) : Rp.rd o' w cs x := Rp.mv h (Nat.le_refl _) fun b _ hb => ⟨rfl, r.zero ht hb⟩
theorem Ow.rc (h : Ow B e k o w v xs) (r : Rtc t o o') (ht : t ≠ 0) (hk : k ≠ t) : Ow B e k o' w v xs := by
 obtain ⟨css, h1, h2, h3, h4⟩ := h
 exact ⟨css, h1, h2, fun g hg => by rw [r g (by rw [h3 g hg]; exact hk)]; exact h3 g hg, fun i cs x a b => Rp.rc (h4 i cs x a b) r ht⟩
theorem Of.rc (h : Of e o w v xs) (r : Rtc t o o') (ht : t ≠ 0) : Of e o' w v xs := Ow.rc h r ht ht.symm
omit [Rp α] in
theorem Bx.rc {b : Nat} {cs : List Value} (h : Bx B k o w b e cs) (r : Rtc t o o') (hk : k ≠ t) : Bx B k o' w b e cs :=
 ⟨h.blk, by rw [r b (by rw [h.tag]; exact hk)]; exact h.tag, h.lo⟩
omit [Rp α] in
theorem Bs.rc {oo : Tg} (h : Bs oo o w0 w) (r : Rtc t o o') (ht : 2 ≤ t) : Bs oo o' w0 w :=
 ⟨h.keeps, fun b hb => by rw [r b (by have := h.old b hb; split at this <;> omega)]; exact h.old b hb⟩
def mrg (t k : Nat) (o : Tg) : Tg := fun b => if o b = t then k else o b
omit [Rp α] in
theorem eY_ (t k : Nat) (o : Tg) : Rtc t o (mrg t k o) := fun b hb => if_neg hb
theorem Ow.mrg (h : Ow B e t o w v xs) (k : Nat) (ht : t ≠ 0) : Ow B e k (Go.Proofs.YtdbbeldgdgonfaaGreat.mrg t k o) w v xs := by
 obtain ⟨css, h1, h2, h3, h4⟩ := h
 exact ⟨css, h1, h2, fun g hg => if_pos (h3 g hg), fun i cs x a b => Rp.rc (h4 i cs x a b) (eY_ t k o) ht⟩
def one (u : Value) (k : Nat) (o : Tg) : Tg := fun b => if u.ownBlock = some b then k else o b
omit [Rp α] in
theorem pp_ (h : ∀ g, u.ownBlock = some g → o g = t) (k : Nat) : Rtc t o (one u k o) := fun b hb => by
 unfold one
 rw [if_neg fun hu => hb (h b hu)]
theorem Ow.tagged (h : Ow B e k o w v xs) : ∀ g, v.ownBlock = some g → o g = k := by obtain ⟨css, h1, h2, h3, h4⟩ := h; exact h3
theorem Ow.ltw (h : Ow B e k o w v xs) : ∀ g, v.ownBlock = some g → B ≤ g ∧ g < w.heap.size := by obtain ⟨css, h1, h2, h3, h4⟩ := h; exact fun g hg => h2.lt g hg
theorem Ow.one (h : Ow B e t o w u xs) (k : Nat) (ht : t ≠ 0) : Ow B e k (Go.Proofs.YtdbbeldgdgonfaaGreat.one u k o) w u xs := by
 have hr := pp_ h.tagged k
 obtain ⟨css, h1, h2, h3, h4⟩ := h
 exact ⟨css, h1, h2, fun g hg => if_pos hg, fun i cs x a b => Rp.rc (h4 i cs x a b) hr ht⟩
theorem Ow.one_ne (h : Ow B e k o w v xs) (hu : ∀ g, u.ownBlock = some g → o g = t) (ht : t ≠ 0) (hne : ∀ g, v.ownBlock = some g → u.ownBlock ≠ some g) (k' : Nat) : Ow B e k (Go.Proofs.YtdbbeldgdgonfaaGreat.one u k' o) w v xs := by
 have hr := pp_ hu k'
 obtain ⟨css, h1, h2, h3, h4⟩ := h
 exact ⟨css, h1, h2, fun g hg => by unfold Go.Proofs.YtdbbeldgdgonfaaGreat.one; rw [if_neg (hne g hg)]; exact h3 g hg, fun i cs x a b => Rp.rc (h4 i cs x a b) hr ht⟩
end
structure Hv where
  v : Value
instance : Rp Hv where
  sz := 1
  pos := by decide
  rd _ _ cs x := cs = [x.v] ∧ x.v.oneCell' = true
  len h := by obtain ⟨rfl, _⟩ := h; rfl
  one h := by obtain ⟨rfl, h⟩ := h; intro c hc; simp at hc; subst hc; exact h
  mv h _ _ := h
instance : Inhabited Hv := ⟨⟨.slice none 0 0⟩⟩
section
variable {α : Type} [Rp α] {o o' : Tg} {w w' w0 : World} {v u : Value} {vs : List Hv} {xs : List (List α)} {x : List α} {t k kr : Nat} {e er : TypeId} {B : Nat}
def Rws (B : Nat) (er : TypeId) (kr : Nat) (o : Tg) (w : World) (vs : List Hv) (xs : List (List α)) : Prop :=
  vs.length = xs.length ∧ (∀ (i : Nat) u x, vs[i]? = some u → xs[i]? = some x → Ow B er kr o w u.v x) ∧
    ∀ (i j : Nat) u u' g, vs[i]? = some u → vs[j]? = some u' → u.v.ownBlock = some g → u'.v.ownBlock = some g → i = j
theorem Rws.nil (B : Nat) (er : TypeId) (kr : Nat) (o : Tg) (w : World) : Rws B er kr o w [] ([] : List (List α)) := ⟨rfl, fun i u x h => by simp at h, fun i j u u' g h => by simp at h⟩
theorem Rws.stp (h : Rws B er kr o w vs xs) (s : Stp t o w o' w') (ht : t ≠ 0 := by decide) (hk : kr ≠ t := by decide) : Rws B er kr o' w' vs xs := ⟨h.1, fun i u x a b => (h.2.1 i u x a b).stp s ht hk, h.2.2⟩
theorem Rws.rc (h : Rws B er kr o w vs xs) (r : Rtc t o o') (ht : t ≠ 0) (hk : kr ≠ t) : Rws B er kr o' w vs xs := ⟨h.1, fun i u x a b => (h.2.1 i u x a b).rc r ht hk, h.2.2⟩
theorem Rws.mono {B' : Nat} (h : Rws B er kr o w vs xs) (hB : B' ≤ B) : Rws B' er kr o w vs xs := ⟨h.1, fun i u x a b => (h.2.1 i u x a b).mono hB, h.2.2⟩
theorem Rws.row (h : Rws B er kr o w vs xs) {i : Nat} (hx : xs[i]? = some x) : ∃ u, vs[i]? = some ⟨u⟩ ∧ Ow B er kr o w u x := by
 have hi : i < vs.length := by have := (List.getElem?_eq_some_iff.1 hx).1; have := h.1; omega
 exact ⟨vs[i].v, by rw [List.getElem?_eq_getElem hi], h.2.1 i vs[i] x (List.getElem?_eq_getElem hi) hx⟩
theorem Rws.make (B : Nat) (er : TypeId) (kr : Nat) (o : Tg) (w : World) (n : Nat) : Rws B er kr o w (List.replicate n ⟨.slice none 0 0⟩) (List.replicate n ([] : List α)) := by
 refine ⟨by simp, fun i u x a b => ?_, fun i j u u' g a b c d => ?_⟩
 ·rw [List.getElem?_replicate] at a b
  split at a
  ·rename_i hi
   rw [if_pos hi] at b
   cases a; cases b
   exact Ow.nil _ _ _ _ _
  ·cases a
 ·rw [List.getElem?_replicate] at a
  split at a
  ·cases a; simp [Value.ownBlock] at c
  ·cases a
theorem Rws.push (h : Rws B er kr o w vs xs) (hu : Ow B er t o w u x) (ht : t ≠ 0) (hk : kr ≠ t) : Rws B er kr (mrg t kr o) w (vs ++ [⟨u⟩]) (xs ++ [x]) := by
 have h' := h.rc (eY_ t kr o) ht hk
 have hu' := hu.mrg kr ht
 refine ⟨by simp [h.1], fun i u1 x1 a b => ?_, fun i j u1 u2 g a b c d => ?_⟩
 ·by_cases hi : i < vs.length
  ·rw [List.getElem?_append_left hi] at a
   rw [List.getElem?_append_left (by rw [← h.1]; exact hi)] at b
   exact h'.2.1 i u1 x1 a b
  ·have hi2 : i = vs.length := by have := (List.getElem?_eq_some_iff.1 a).1; simp at this; omega
   subst hi2
   rw [List.getElem?_append_right (by omega)] at a
   rw [List.getElem?_append_right (by rw [h.1]; omega)] at b
   simp [h.1] at a b
   subst a; subst b
   exact hu'
 ·have old : ∀ (i : Nat) u1, i < vs.length → vs[i]? = some u1 → u1.v.ownBlock = some g → o g = kr := fun i u1 hi a c => by
   obtain ⟨x1, hx1⟩ : ∃ x1, xs[i]? = some x1 := ⟨xs[i]'(by rw [← h.1]; exact hi), List.getElem?_eq_getElem (by rw [← h.1]; exact hi)⟩
   exact (h.2.1 i u1 x1 a hx1).tagged g c
  have lst : ∀ (i : Nat) (u1 : Hv), ¬ i < vs.length → (vs ++ [⟨u⟩])[i]? = some u1 → i = vs.length ∧ u1 = ⟨u⟩ := fun i u1 hi a => by
   have hi2 : i = vs.length := by have := (List.getElem?_eq_some_iff.1 a).1; simp at this; omega
   subst hi2
   rw [List.getElem?_append_right (by omega)] at a
   simp at a
   exact ⟨rfl, a.symm⟩
  by_cases hi : i < vs.length <;> by_cases hj : j < vs.length
  ·rw [List.getElem?_append_left hi] at a
   rw [List.getElem?_append_left hj] at b
   exact h.2.2 i j u1 u2 g a b c d
  ·obtain ⟨_, rfl⟩ := lst j u2 hj b
   rw [List.getElem?_append_left hi] at a
   have h1 := old i u1 hi a c
   have h2 := hu.tagged g d
   exact absurd (h1.symm.trans h2) hk
  ·obtain ⟨_, rfl⟩ := lst i u1 hi a
   rw [List.getElem?_append_left hj] at b
   have h1 := old j u2 hj b d
   have h2 := hu.tagged g c
   exact absurd (h1.symm.trans h2) hk
  ·rw [(lst i u1 hi a).1, (lst j u2 hj b).1]
def RwH (i : Nat) (B : Nat) (er : TypeId) (kr : Nat) (o : Tg) (w : World) (vs : List Hv) (xs : List (List α)) : Prop :=
  vs.length = xs.length ∧ (∀ (j : Nat) u x, j ≠ i → vs[j]? = some u → xs[j]? = some x → Ow B er kr o w u.v x) ∧
    ∀ (j j' : Nat) u u' g, j ≠ i → j' ≠ i → vs[j]? = some u → vs[j']? = some u' → u.v.ownBlock = some g → u'.v.ownBlock = some g → j = j'
theorem RwH.stp {i : Nat} (h : RwH i B er kr o w vs xs) (s : Stp t o w o' w') (ht : t ≠ 0 := by decide) (hk : kr ≠ t := by decide) : RwH i B er kr o' w' vs xs := ⟨h.1, fun j u x n a b => (h.2.1 j u x n a b).stp s ht hk, h.2.2⟩
theorem RwH.rc {i : Nat} (h : RwH i B er kr o w vs xs) (r : Rtc t o o') (ht : t ≠ 0) (hk : kr ≠ t) : RwH i B er kr o' w vs xs := ⟨h.1, fun j u x n a b => (h.2.1 j u x n a b).rc r ht hk, h.2.2⟩
theorem Rws.take (h : Rws B er kr o w vs xs) {i : Nat} (hu : vs[i]? = some ⟨u⟩) (hx : xs[i]? = some x) (hkr : kr ≠ 0) (k' : Nat) :
  Ow B er k' (one u k' o) w u x ∧ RwH i B er kr (one u k' o) w vs xs ∧ Rtc kr o (one u k' o) := by
 have h0 := h.2.1 i ⟨u⟩ x hu hx
 refine ⟨h0.one k' hkr, ⟨h.1, fun j u1 x1 n a b => ?_, fun j j' u1 u2 g _ _ a b c d => h.2.2 j j' u1 u2 g a b c d⟩, pp_ h0.tagged k'⟩
 exact (h.2.1 j u1 x1 a b).one_ne h0.tagged hkr (fun g hg he => n (h.2.2 j i u1 ⟨u⟩ g a hu hg he)) k'
theorem RwH.put {i : Nat} (h : RwH i B er kr o w vs xs) (hu : Ow B er t o w u x) (ht : t ≠ 0) (hk : kr ≠ t) : Rws B er kr (mrg t kr o) w (vs.set i ⟨u⟩) (xs.set i x) := by
 have h' := h.rc (eY_ t kr o) ht hk
 have hu' := hu.mrg kr ht
 have old : ∀ (j : Nat) u1 g, j ≠ i → vs[j]? = some u1 → u1.v.ownBlock = some g → o g = kr := fun j u1 g n a c => by
  have hj : j < xs.length := by rw [← h.1]; exact (List.getElem?_eq_some_iff.1 a).1
  exact (h.2.1 j u1 _ n a (List.getElem?_eq_getElem hj)).tagged g c
 refine ⟨by simp [h.1], fun j u1 x1 a b => ?_, fun j j' u1 u2 g a b c d => ?_⟩
 ·rw [List.getElem?_set] at a b
  by_cases e : i = j
  ·subst e
   rw [if_pos rfl] at a b
   split at a
   ·split at b
    ·cases a; cases b; exact hu'
    ·cases b
   ·cases a
  ·rw [if_neg e] at a b
   exact h'.2.1 j u1 x1 (Ne.symm e) a b
 ·rw [List.getElem?_set] at a b
  by_cases e : i = j <;> by_cases e' : i = j'
  ·omega
  ·rw [if_pos e] at a
   rw [if_neg e'] at b
   split at a
   ·cases a
    exact absurd ((old j' u2 g (Ne.symm e') b d).symm.trans (hu.tagged g c)) hk
   ·cases a
  ·rw [if_neg e] at a
   rw [if_pos e'] at b
   split at b
   ·cases b
    exact absurd ((old j u1 g (Ne.symm e) a c).symm.trans (hu.tagged g d)) hk
   ·cases b
  ·rw [if_neg e] at a
   rw [if_neg e'] at b
   exact h.2.2 j j' u1 u2 g (Ne.symm e) (Ne.symm e') a b c d
theorem Rws.hole (h : Rws B er kr o w vs xs) (i : Nat) : RwH i B er kr o w vs xs := ⟨h.1, fun j u x _ a b => h.2.1 j u x a b, fun j j' u u' g _ _ a b c d => h.2.2 j j' u u' g a b c d⟩
theorem Rws.frz (h : Rws B er kr o w vs xs) (hk : kr ≠ 0) : Rws B er 0 (frz kr o) w vs xs := by
 refine ⟨h.1, fun i u x a b => ?_, h.2.2⟩
 have h0 := h.2.1 i u x a b
 have := h0.frzF
 obtain ⟨css, h1, h2, h3, h4⟩ := h0
 exact ⟨css, h1, h2, fun g hg => by unfold Go.Proofs.YtdbbeldgdgonfaaGreat.frz; rw [if_pos (h3 g hg)], fun i cs x a b => Rp.frz (h4 i cs x a b) kr⟩
theorem Rws.frz_ne {j : Nat} (h : Rws B er kr o w vs xs) (hj : kr ≠ j) : Rws B er kr (Go.Proofs.YtdbbeldgdgonfaaGreat.frz j o) w vs xs := ⟨h.1, fun i u x a b => (h.2.1 i u x a b).frz_ne hj, h.2.2⟩
def Dz (e er : TypeId) (o : Tg) (w : World) (v : Value) (xs : List (List α)) : Prop := ∃ vs : List Hv, Ow 0 e 0 o w v vs ∧ Rws 0 er 0 o w vs xs
theorem Dz.nil (e er : TypeId) (o : Tg) (w : World) : Dz e er o w (.slice none 0 0) ([] : List (List α)) := ⟨[], Ow.nil _ _ _ _ _, Rws.nil _ _ _ _ _⟩
theorem Dz.of (h : Ow B e k o w v vs) (hr : Rws B er kr o w vs xs) (hk : k ≠ 0) (hkr : kr ≠ 0) (hne : kr ≠ k) : Dz e er (frz kr (frz k o)) w v xs :=
 ⟨vs, (Of.frz (h.frzF) kr hkr.symm), ((hr.frz_ne hne).frz hkr).mono (Nat.zero_le _)⟩
theorem Dz.stp (h : Dz e er o w v xs) (s : Stp t o w o' w') (ht : t ≠ 0 := by decide) : Dz e er o' w' v xs := by
 obtain ⟨vs, h1, h2⟩ := h
 exact ⟨vs, h1.stp s ht ht.symm, h2.stp s ht ht.symm⟩
theorem Dz.rc (h : Dz e er o w v xs) (r : Rtc t o o') (ht : t ≠ 0) : Dz e er o' w v xs := by
 obtain ⟨vs, h1, h2⟩ := h
 exact ⟨vs, h1.rc r ht ht.symm, h2.rc r ht ht.symm⟩
theorem fv_ (k : Nat) (o : Tg) : Rtc k o (frz k o) := fun b hb => if_neg hb
theorem Dz.frz (h : Dz e er o w v xs) (j : Nat) (hj : 0 ≠ j) : Dz e er (Go.Proofs.YtdbbeldgdgonfaaGreat.frz j o) w v xs := h.rc (fv_ j o) hj.symm
theorem Dz.rt {oo : Tg} (h : Dz e er o w v xs) (hB : Bs oo o w0 w) (k t : Nat) (hk : 2 ≤ k) : Dz e er (Go.Proofs.YtdbbeldgdgonfaaGreat.rt oo o w0.heap.size k t) w v xs := by
 obtain ⟨vs, h1, h2⟩ := h
 exact ⟨vs, Of.rt h1 hB k t hk, h2.1, fun i u x a b => Of.rt (h2.2.1 i u x a b) hB k t hk, h2.2.2⟩
theorem Dz.rd (h : Dz e er o w v xs) : RdL o w v xs := by
 obtain ⟨vs, h1, h2⟩ := h
 obtain ⟨a, c, rfl, l1, l2, h4⟩ := Of.rd h1
 refine ⟨a, c, by rw [h2.1], by rw [← h2.1]; exact l1, l2, fun i x hx => ?_⟩
 obtain ⟨u, hu, ho⟩ := h2.row hx
 obtain ⟨b, off, cs, ha, hb, hlt, hc, hd, _⟩ := h4 i ⟨u⟩ hu
 subst hd
 exact ⟨b, off, [u], ha, hb, hlt, hc, ⟨u, rfl, Of.rd ho⟩⟩
theorem Rws.ix (h : Rws B er kr o w vs xs) {i : Int} (hx : ix xs i = some x) : ∃ u, Go.Proofs.YtdbbeldgdgonfaaGreat.ix vs i = some ⟨u⟩ ∧ vs[i.toNat]? = some ⟨u⟩ ∧ xs[i.toNat]? = some x := by
 obtain ⟨h0, _, h2⟩ := fL_ hx
 obtain ⟨u, hu, _⟩ := h.row h2
 exact ⟨u, by unfold Go.Proofs.YtdbbeldgdgonfaaGreat.ix; rw [if_pos h0]; exact hu, hu, h2⟩
theorem Rws.at (h : Rws B er kr o w vs xs) {i : Nat} (hu : vs[i]? = some ⟨u⟩) (hx : xs[i]? = some x) : Ow B er kr o w u x := h.2.1 i ⟨u⟩ x hu hx
theorem Rws.pushV (h : Rws B er kr o w vs xs) {ys : List (List α)} (hy : Go.Proofs.YtdbbeldgdgonfaaGreat.push xs x = some ys) (u : Value) : Go.Proofs.YtdbbeldgdgonfaaGreat.push vs ⟨u⟩ = some (vs ++ [⟨u⟩]) ∧ ys = xs ++ [x] := by
 obtain ⟨h1, rfl⟩ := lV_ hy
 exact ⟨by unfold Go.Proofs.YtdbbeldgdgonfaaGreat.push; rw [if_pos (by rw [h.1]; exact h1)], rfl⟩
theorem Rws.stV (h : Rws B er kr o w vs xs) {ys : List (List α)} {i : Int} (hy : st xs i x = some ys) (u : Value) : st vs i ⟨u⟩ = some (vs.set i.toNat ⟨u⟩) ∧ ys = xs.set i.toNat x := by
 obtain ⟨h0, h1, rfl⟩ := nc_ hy
 exact ⟨by unfold st; rw [if_pos ⟨h0, by rw [h.1]; exact h1⟩], rfl⟩
theorem Rws.rtg (h : Rws B er kr o w vs xs) (k' : Nat) (hk : kr ≠ 0) : Rws B er k' (Go.Proofs.YtdbbeldgdgonfaaGreat.rtg kr k' o) w vs xs := ⟨h.1, fun i u x a b => (h.2.1 i u x a b).rtg k' hk, h.2.2⟩
theorem Rws.rtg_ne {k k' : Nat} (h : Rws B er kr o w vs xs) (h1 : kr ≠ k) (h2 : kr ≠ k') (hk : k ≠ 0) : Rws B er kr (Go.Proofs.YtdbbeldgdgonfaaGreat.rtg k k' o) w vs xs := ⟨h.1, fun i u x a b => (h.2.1 i u x a b).rtg_ne h1 h2 hk, h.2.2⟩
theorem Dz.rtg {k' : Nat} (h : Dz e er o w v xs) (h1 : 0 ≠ k) (h2 : 0 ≠ k') (hk : k ≠ 0) : Dz e er (Go.Proofs.YtdbbeldgdgonfaaGreat.rtg k k' o) w v xs := by
 obtain ⟨vs, g1, g2⟩ := h
 exact ⟨vs, Ow.rtg_ne g1 h1 h2 hk, g2.rtg_ne h1 h2 hk⟩
theorem iH_ {ys : List α} (h : Ow B er k o w v ys) : Rp.rd o w [v] (⟨v⟩ : Hv) := ⟨rfl, h.one1⟩
end
section
variable {α : Type} [Rp α] {o o' oo : Tg} {w w' w0 : World} {v u : Value} {vs : List Hv} {xs : List (List α)} {x : List α} {t k kr : Nat} {e er : TypeId} {B : Nat}
theorem Rws.z (h : Rws B er kr o w vs xs) (hs : Ow B e k o w v vs) : RdL zt w v xs := by
 obtain ⟨a, c, rfl, l1, l2, h4⟩ := hs.z
 refine ⟨a, c, by rw [h.1], by rw [← h.1]; exact l1, l2, fun i x hx => ?_⟩
 obtain ⟨u, hu, ho⟩ := h.row hx
 obtain ⟨b, off, cs, ha, hb, hlt, hc, hd, _⟩ := h4 i ⟨u⟩ hu
 subst hd
 exact ⟨b, off, [u], ha, hb, hlt, hc, ⟨u, rfl, ho.z⟩⟩
def rt2 (oo o : Tg) (n k kr t : Nat) : Tg := fun b => if b < n then oo b else if o b = k then t else if o b = kr then t + 1 else 0
theorem iA_ (oo o : Tg) (n k kr t : Nat) : ∀ b, b < n → rt2 oo o n k kr t b = oo b := fun b hb => if_pos hb
theorem hs_ (h : Bs oo o w0 w) (k kr t b : Nat) (hk : 2 ≤ k) (hkr : 2 ≤ kr) (hb : o b = 0) : rt2 oo o w0.heap.size k kr t b = 0 := by
 unfold rt2
 split
 ·rename_i hlt
  have := h.old b hlt
  split at this
  ·assumption
  ·omega
 ·rw [if_neg (by omega), if_neg (by omega)]
theorem Ow.rt2 {β : Type} [Rp β] {ys : List β} (h : Ow w0.heap.size e k o w v ys) (hB : Bs oo o w0 w) (hk : 2 ≤ k) {kr : Nat} (hkr : 2 ≤ kr) (t : Nat) : Ow w0.heap.size e t (Go.Proofs.YtdbbeldgdgonfaaGreat.rt2 oo o w0.heap.size k kr t) w v ys := by
 obtain ⟨css, h1, h2, h3, h4⟩ := h
 refine ⟨css, h1, h2, fun g hg => ?_, fun i cs x a b => Rp.mv (h4 i cs x a b) (Nat.le_refl _) fun b _ hb => ⟨rfl, hs_ hB k kr t b hk hkr hb⟩⟩
 unfold Go.Proofs.YtdbbeldgdgonfaaGreat.rt2
 rw [if_neg (by have := (h2.lt g hg).1; omega), if_pos (h3 g hg)]
theorem Rws.rt2 (h : Rws w0.heap.size er kr o w vs xs) (hB : Bs oo o w0 w) {k : Nat} (hk : 2 ≤ k) (hkr : 2 ≤ kr) (hne : kr ≠ k) (t : Nat) : Rws w0.heap.size er (t + 1) (Go.Proofs.YtdbbeldgdgonfaaGreat.rt2 oo o w0.heap.size k kr t) w vs xs := by
 refine ⟨h.1, fun i u x a b => ?_, h.2.2⟩
 obtain ⟨css, h1, h2, h3, h4⟩ := h.2.1 i u x a b
 refine ⟨css, h1, h2, fun g hg => ?_, fun i cs x a b => Rp.mv (h4 i cs x a b) (Nat.le_refl _) fun b _ hb => ⟨rfl, hs_ hB k kr t b hk hkr hb⟩⟩
 unfold Go.Proofs.YtdbbeldgdgonfaaGreat.rt2
 rw [if_neg (by have := (h2.lt g hg).1; omega), if_neg (by rw [h3 g hg]; exact hne), if_pos (h3 g hg)]
end
instance : Rz Hv := ⟨⟨.slice none 0 0⟩, [.slice none 0 0], fun o w => ⟨rfl, rfl⟩⟩
section
variable {α : Type} [Rp α] {o o' : Tg} {w w' : World} {u : Value} {vs : List Hv} {xs : List (List α)} {x : List α} {t k kr : Nat} {e er : TypeId} {B : Nat}
theorem sm_ {n : Int} {ys : List (List α)} (h : mk ([] : List α) n = some ys) (B : Nat) (er : TypeId) (kr : Nat) (o : Tg) (w : World) :
  mk (Rz.z : Hv) n = some (List.replicate n.toNat ⟨.slice none 0 0⟩) ∧ Rws B er kr o w (List.replicate n.toNat ⟨.slice none 0 0⟩) ys := by
 obtain ⟨h1, h2, rfl⟩ := qg_ h
 exact ⟨if_pos ⟨h1, h2⟩, Rws.make B er kr o w n.toNat⟩
theorem RwH.ix {i0 : Nat} (h : RwH i0 B er kr o w vs xs) {i : Int} (hx : Go.Proofs.YtdbbeldgdgonfaaGreat.ix xs i = some x) : ∃ u, Go.Proofs.YtdbbeldgdgonfaaGreat.ix vs i = some ⟨u⟩ := by
 obtain ⟨h0, h1, h2⟩ := fL_ hx
 have hl : i.toNat < vs.length := by rw [h.1]; omega
 exact ⟨vs[i.toNat].v, by unfold Go.Proofs.YtdbbeldgdgonfaaGreat.ix; rw [if_pos h0, List.getElem?_eq_getElem hl]⟩
theorem RwH.stV {i0 : Nat} (h : RwH i0 B er kr o w vs xs) {ys : List (List α)} {i : Int} (hy : st xs i x = some ys) (u : Value) : st vs i ⟨u⟩ = some (vs.set i.toNat ⟨u⟩) ∧ ys = xs.set i.toNat x := by
 obtain ⟨h0, h1, rfl⟩ := nc_ hy
 exact ⟨by unfold st; rw [if_pos ⟨h0, by rw [h.1]; exact h1⟩], rfl⟩
end
section
variable {α : Type} [Rp α] {P : Program} {l : List (Nat × Value)} {w : World} {o : Tg} {d : Option Nat} {ty : TypeId}
end
end

section
open Go.RowKit Go.Sort Go.Shelf
def srt (xs : List Int) : List Int := xs.mergeSort fun x y => decide (x ≤ y)
theorem dq_ (xs : List Int) : (srt xs).length = xs.length := by simp [srt]
def srtO (xs : List Int) : Option (List Int) := if xs.length ≤ 1000000000 then some (srt xs) else none
theorem lM_ {xs ys : List Int} (h : srtO xs = some ys) : xs.length ≤ 1000000000 ∧ ys = srt xs := by
 unfold srtO at h
 split at h
 ·rename_i hh; cases h; exact ⟨hh, rfl⟩
 ·cases h
theorem le_ : ∀ {css : List (List Value)} {l : List Int}, css.length = l.length → (∀ (i : Nat) cs x, css[i]? = some cs → l[i]? = some x → cs = [.int .i64 x]) → css.flatten = l.map (Value.int .i64)
 | [], [], _, _ => rfl
 | [], _ :: _, h, _ => by simp at h
 | _ :: _, [], h, _ => by simp at h
 | c :: css, a :: l, hl, h => by
  have h0 := h 0 c a rfl rfl
  subst h0
  rw [List.flatten_cons, le_ (by simpa using hl) (fun i cs x h1 h2 => h (i + 1) cs x (by simpa using h1) (by simpa using h2))]
  rfl
theorem mT_ {B k : Nat} {o : Tg} {w : World} {v : Value} {l : List Int} (ho : ∀ g, v.ownBlock = some g → o g = k) (h : w.ownsRow B 3 1 v l.length (l.map (Value.int .i64))) : Ow B 3 k o w v l := by
 refine ⟨l.map fun x => [.int .i64 x], by simp, ?_, ho, fun i cs x a b => ?_⟩
 ·have : ∀ l : List Int, (l.map fun x => [Value.int .i64 x]).flatten = l.map (Value.int .i64) := by
   intro l
   induction l with
   | nil => rfl
   | cons a l ih => simp [List.flatten_cons, ih]
  rw [this]; exact h
 ·rw [List.getElem?_map, b] at a
  cases a
  rfl
theorem ko_ {B k : Nat} {o : Tg} {w : World} {v : Value} {xs ys : List Int} (h : Ow B 3 k o w v xs) (hF : srtO xs = some ys) :
  Calls Tryz.prog 141 #[v] w (fun e w' => e = .returned (.tuple #[]) ∧ Ow B 3 k o w' v ys ∧ Stp k o w o w') := by
 obtain ⟨hl, rfl⟩ := lM_ hF
 obtain ⟨css, h1, h2, h3, h4⟩ := h
 rw [le_ h1 (fun i cs x a b => h4 i cs x a b)] at h2
 have h2' : w.ownsRow B 3 1 v xs.length (xs.map (Value.int .i64)) := h2
 rcases h2'.2 with ⟨rfl, h0⟩ | ⟨g, cap, cur, rfl, hbase, hb, hn, hcap, hsz, htk⟩
 ·have hx : xs = [] := List.eq_nil_of_length_eq_zero h0
  subst hx
  refine (calls_of_every_depth fun D => AnyS.slices_Sort_int_none_alone Tryz.laysSort D none 0 w).mono ?_
  rintro e w' ⟨rfl, rfl⟩
  exact ⟨rfl, (by simpa [srt] using Ow.nil B 3 k o w'), Stp.refl _ _ _⟩
 ·have hH : Holds (Value.int .i64) w g 0 xs.toArray := holds_of_block_i hb (by simpa using htk)
  have hgl : g < w.heap.size := (Array.getElem?_eq_some_iff.1 hb).1
  refine (calls_of_every_depth fun D => AnyS.slices_Sort_int_alone Tryz.laysSort D g 0 cap xs w hH hgl (by omega)).mono ?_
  rintro e w' ⟨rfl, n, os, rfl⟩
  have hr := ownsRow_sorted_i (n := n) (os := os) (ts := srt xs) (dq_ xs) hbase hb hn hcap (by simpa using hsz)
  have hg := grownBy_sorted_i (w := w) (g := g) (n := n) (os := os) (srt xs).toArray
  refine ⟨rfl, mT_ h3 (by rw [dq_]; exact hr), ⟨rfl, rfl, rfl, ?_, fun b hb hne => ?_, fun _ _ => rfl⟩⟩
  ·simp [putRow, mapBlock, Sort.ahead]
  ·rw [heap_grow_old _ _ (by simpa using hb)]
   have : g ≠ b := fun e => hne (by rw [← e]; exact h3 g rfl)
   simp [putRow, mapBlock, Sort.ahead, Array.getElem?_modify, this]
end

section
theorem hE_ (xs : List Int) : (srt xs).Pairwise (· ≤ ·) := by
 have := List.pairwise_mergeSort (le := fun x y : Int => decide (x ≤ y)) (fun a b c h1 h2 => by simp at h1 h2 ⊢; omega) (fun a b => by simp; omega) xs
 exact this.imp fun {a b} h => by simpa using h
theorem fe_ (xs : List Int) : (srt xs).Perm xs := List.mergeSort_perm xs _
theorem nN_ {m l : List Int} (hl : l.Pairwise (· ≤ ·)) : srt m = l ↔ m.Perm l :=
 ⟨fun h => by rw [← h]; exact (fe_ m).symm, fun h => List.Perm.eq_of_pairwise (le := fun x y : Int => x ≤ y) (fun x y _ _ a b => by omega) (hE_ m) hl ((fe_ m).trans h)⟩
theorem hk_ {m l : List Int} (h : m.Perm l) : srt m = srt l := (nN_ (hE_ l)).2 (h.trans (fe_ l).symm)
theorem mn_ {l : List Int} (h : l.Pairwise (· ≤ ·)) : srt l = l := (nN_ h).2 (.refl _)
def inG (N : List (List Int)) (l : List Int) : Prop := srt l ∈ N
theorem qQ_ {N : List (List Int)} (c c' : List Int) (h : c.Perm c') (hc : inG N c) : inG N c' := by
 unfold inG at hc ⊢
 rw [← hk_ h]; exact hc
noncomputable def cmI (L : Nat) (N : List (List Int)) (l : List Int) : Int := (cmpl L (inG N) (l.map Int.toNat) : Int)
theorem qA_ {L : Nat} {N : List (List Int)} {l m : List Int} (h : l.Perm m) : cmI L N l = cmI L N m := by
 unfold cmI
 rw [qd_ qQ_ (h.map Int.toNat)]
theorem nh_ (L : Nat) (N : List (List Int)) (l : List Int) : 0 ≤ cmI L N l ∧ cmI L N l < 2 ^ L := by
 have := ec_ (fun b => ∀ c, cho (l.map Int.toNat) c → inG N (c ++ [(b : Int)])) L
 unfold cmI cmpl
 have h2 : ((2 ^ L : Nat) : Int) = (2 : Int) ^ L := by simp
 omega
def fullI (L : Nat) (N : List (List Int)) (l : List Int) : Prop := ∀ (i : Nat) x, l[i]? = some x → cmI L N (l.eraseIdx i) = x
theorem iX_ {l : List Int} {i : Nat} {x : Int} (h : l[i]? = some x) : l.Perm (x :: l.eraseIdx i) := by
 obtain ⟨hi, hx⟩ := List.getElem?_eq_some_iff.1 h
 rw [← hx]; exact mt_ hi
theorem ob_ {L : Nat} {N : List (List Int)} {l : List Int} : fullI L N l ↔ ∀ (x : Int) (m : List Int), l.Perm (x :: m) → cmI L N m = x := by
 constructor
 ·intro h x m hp
  have hx : x ∈ l := hp.symm.subset (by simp)
  obtain ⟨i, hi, e⟩ := List.mem_iff_getElem.1 hx
  have h0 : l[i]? = some x := by rw [List.getElem?_eq_getElem hi, e]
  have h2 := (List.perm_cons x).1 ((iX_ h0).symm.trans hp)
  rw [← qA_ h2, h i x h0]
 ·intro h i x hi
  exact h _ _ (iX_ hi)
theorem on_ {L : Nat} {N : List (List Int)} {l m : List Int} (h : l.Perm m) (hf : fullI L N l) : fullI L N m := by
 rw [ob_] at hf ⊢
 exact fun x u hp => hf x u (h.trans hp)
def firstI (M : Int) (d : Nat) (l : List Int) : Prop := l.length = d ∧ l.Pairwise (· ≤ ·) ∧ ∀ y ∈ l, 1 ≤ y ∧ y ≤ M
theorem pv_ (L d : Nat) (N : List (List Int)) (z : List Int) :
  (∃ l, firstI (2 ^ L - 1) d l ∧ cmI L N l ≠ 0 ∧ fullI L N (l ++ [cmI L N l]) ∧ z = srt (l ++ [cmI L N l])) ↔
  (∃ l, firstI (2 ^ L - 1) d l ∧ cmI L N l ≠ 0 ∧ (∀ y ∈ l, y ≤ cmI L N l) ∧ fullI L N (l ++ [cmI L N l]) ∧ z = l ++ [cmI L N l]) := by
 constructor
 ·rintro ⟨l, ⟨h1, h2, h3⟩, h4, h5, rfl⟩
  have hp := fe_ (l ++ [cmI L N l])
  have hs := hE_ (l ++ [cmI L N l])
  have hf := on_ hp.symm h5
  have hmem : ∀ y ∈ srt (l ++ [cmI L N l]), 1 ≤ y ∧ y ≤ 2 ^ L - 1 := fun y hy => by
   rcases List.mem_append.1 (hp.subset hy) with hy | hy
   ·exact h3 y hy
   ·rw [List.mem_singleton.1 hy]
    have := nh_ L N l
    omega
  have hlen : (srt (l ++ [cmI L N l])).length = d + 1 := by rw [hp.length_eq]; simp [h1]
  generalize srt (l ++ [cmI L N l]) = z at *
  have hne : z ≠ [] := fun e => by rw [e] at hlen; simp at hlen
  have hz := List.dropLast_concat_getLast hne
  have hlp : z.Perm (z.getLast hne :: z.dropLast) := by
   conv => lhs; rw [← hz]
   exact List.perm_append_comm
  have hc := ob_.1 hf _ _ hlp
  have hlm : z.getLast hne ∈ z := List.getLast_mem hne
  refine ⟨z.dropLast, ⟨by rw [List.length_dropLast]; omega, hs.sublist (List.dropLast_sublist z), fun y hy => hmem y ((List.dropLast_sublist z).subset hy)⟩, ?_, ?_, ?_, ?_⟩
  ·rw [hc]; have := hmem _ hlm; omega
  ·intro y hy
   rw [hc]
   rw [← hz, List.pairwise_append] at hs
   exact hs.2.2 y hy _ (by simp)
  ·rw [hc, hz]; exact hf
  ·rw [hc, hz]
 ·rintro ⟨l, ⟨h1, h2, h3⟩, h4, h5, h6, rfl⟩
  refine ⟨l, ⟨h1, h2, h3⟩, h4, h6, (mn_ ?_).symm⟩
  rw [List.pairwise_append]
  exact ⟨h2, by simp, fun a ha b hb => by rw [List.mem_singleton.1 hb]; exact h5 a ha⟩
end

section
open Go.RowKit
structure hr_ where
  Labels : Int
  Arcs : List (List Int)
  deriving DecidableEq
instance : Rp hr_ where
  sz := 2
  pos := by decide
  rd o w cs x := ∃ v1, cs = [.int .i64 x.Labels, v1] ∧ RdL o w v1 x.Arcs
  len h := by obtain ⟨v1, rfl, h1⟩ := h; rfl
  one h := by 
    obtain ⟨v1, rfl, h1⟩ := h
    intro c hc
    simp only [List.mem_cons, List.not_mem_nil, or_false] at hc
    rcases hc with rfl | rfl <;> first | rfl | exact h1.one1
  mv h hs hb := by obtain ⟨v1, rfl, h1⟩ := h; exact ⟨v1, rfl, h1.mv hs hb⟩
instance : Rz hr_ := ⟨⟨0, []⟩, [.int .i64 0, .slice none 0 0], fun o w => ⟨_, rfl, RdL.nil o w⟩⟩

structure gH_ where
  Labels : Int
  Children : Int
  Lines : List (List Int)
  deriving DecidableEq
instance : Rp gH_ where
  sz := 3
  pos := by decide
  rd o w cs x := ∃ v1, cs = [.int .i64 x.Labels, .int .i64 x.Children, v1] ∧ RdL o w v1 x.Lines
  len h := by obtain ⟨v1, rfl, h1⟩ := h; rfl
  one h := by 
    obtain ⟨v1, rfl, h1⟩ := h
    intro c hc
    simp only [List.mem_cons, List.not_mem_nil, or_false] at hc
    rcases hc with rfl | rfl | rfl <;> first | rfl | exact h1.one1
  mv h hs hb := by obtain ⟨v1, rfl, h1⟩ := h; exact ⟨v1, rfl, h1.mv hs hb⟩
instance : Rz gH_ := ⟨⟨0, 0, []⟩, [.int .i64 0, .int .i64 0, .slice none 0 0], fun o w => ⟨_, rfl, RdL.nil o w⟩⟩

structure fr_ where
  Class : Int
  Label : Int
  First : List Int
  Second : List Int
  Ranks : List (List Int)
  deriving DecidableEq
instance : Rp fr_ where
  sz := 5
  pos := by decide
  rd o w cs x := ∃ v1 v2 v3, cs = [.int .i64 x.Class, .int .i64 x.Label, v1, v2, v3] ∧ RdL o w v1 x.First ∧ RdL o w v2 x.Second ∧ RdL o w v3 x.Ranks
  len h := by obtain ⟨v1, v2, v3, rfl, h1, h2, h3⟩ := h; rfl
  one h := by 
    obtain ⟨v1, v2, v3, rfl, h1, h2, h3⟩ := h
    intro c hc
    simp only [List.mem_cons, List.not_mem_nil, or_false] at hc
    rcases hc with rfl | rfl | rfl | rfl | rfl <;> first | rfl | exact h1.one1 | exact h2.one1 | exact h3.one1
  mv h hs hb := by obtain ⟨v1, v2, v3, rfl, h1, h2, h3⟩ := h; exact ⟨v1, v2, v3, rfl, h1.mv hs hb, h2.mv hs hb, h3.mv hs hb⟩
instance : Rz fr_ := ⟨⟨0, 0, [], [], []⟩, [.int .i64 0, .int .i64 0, .slice none 0 0, .slice none 0 0, .slice none 0 0], fun o w => ⟨_, _, _, rfl, RdL.nil o w, RdL.nil o w, RdL.nil o w⟩⟩

structure b_ where
  Labels : Int
  Degree : Int
  Nodes : List (List Int)
  Edges : List (List Int)
  deriving DecidableEq
instance : Rp b_ where
  sz := 4
  pos := by decide
  rd o w cs x := ∃ v1 v2, cs = [.int .i64 x.Labels, .int .i64 x.Degree, v1, v2] ∧ RdL o w v1 x.Nodes ∧ RdL o w v2 x.Edges
  len h := by obtain ⟨v1, v2, rfl, h1, h2⟩ := h; rfl
  one h := by 
    obtain ⟨v1, v2, rfl, h1, h2⟩ := h
    intro c hc
    simp only [List.mem_cons, List.not_mem_nil, or_false] at hc
    rcases hc with rfl | rfl | rfl | rfl <;> first | rfl | exact h1.one1 | exact h2.one1
  mv h hs hb := by obtain ⟨v1, v2, rfl, h1, h2⟩ := h; exact ⟨v1, v2, rfl, h1.mv hs hb, h2.mv hs hb⟩
instance : Rz b_ := ⟨⟨0, 0, [], []⟩, [.int .i64 0, .int .i64 0, .slice none 0 0, .slice none 0 0], fun o w => ⟨_, _, rfl, RdL.nil o w, RdL.nil o w⟩⟩

structure nv_ where
  labels : List Int
  period : Int
  residue : List Int
  deriving DecidableEq
instance : Rp nv_ where
  sz := 3
  pos := by decide
  rd o w cs x := ∃ v1 v2, cs = [v1, .int .i64 x.period, v2] ∧ RdL o w v1 x.labels ∧ RdL o w v2 x.residue
  len h := by obtain ⟨v1, v2, rfl, h1, h2⟩ := h; rfl
  one h := by 
    obtain ⟨v1, v2, rfl, h1, h2⟩ := h
    intro c hc
    simp only [List.mem_cons, List.not_mem_nil, or_false] at hc
    rcases hc with rfl | rfl | rfl <;> first | rfl | exact h1.one1 | exact h2.one1
  mv h hs hb := by obtain ⟨v1, v2, rfl, h1, h2⟩ := h; exact ⟨v1, v2, rfl, h1.mv hs hb, h2.mv hs hb⟩
instance : Rz nv_ := ⟨⟨[], 0, []⟩, [.slice none 0 0, .int .i64 0, .slice none 0 0], fun o w => ⟨_, _, rfl, RdL.nil o w, RdL.nil o w⟩⟩

structure rC_ where
  Node : Int
  Port : Int
  deriving DecidableEq
instance : Rp rC_ where
  sz := 2
  pos := by decide
  rd o w cs x := cs = [.int .i64 x.Node, .int .i64 x.Port]
  len h := by subst h; rfl
  one h := by subst h; simp [Value.oneCell']
  mv h hs hb := h
instance : Rz rC_ := ⟨⟨0, 0⟩, [.int .i64 0, .int .i64 0], fun o w => rfl⟩

structure lh_ where
  Ends : List (List rC_)
  Ids : List Int
  Inputs : List Int
  deriving DecidableEq
instance : Rp lh_ where
  sz := 3
  pos := by decide
  rd o w cs x := ∃ v1 v2 v3, cs = [v1, v2, v3] ∧ RdL o w v1 x.Ends ∧ RdL o w v2 x.Ids ∧ RdL o w v3 x.Inputs
  len h := by obtain ⟨v1, v2, v3, rfl, h1, h2, h3⟩ := h; rfl
  one h := by 
    obtain ⟨v1, v2, v3, rfl, h1, h2, h3⟩ := h
    intro c hc
    simp only [List.mem_cons, List.not_mem_nil, or_false] at hc
    rcases hc with rfl | rfl | rfl <;> first | rfl | exact h1.one1 | exact h2.one1 | exact h3.one1
  mv h hs hb := by obtain ⟨v1, v2, v3, rfl, h1, h2, h3⟩ := h; exact ⟨v1, v2, v3, rfl, h1.mv hs hb, h2.mv hs hb, h3.mv hs hb⟩
instance : Rz lh_ := ⟨⟨[], [], []⟩, [.slice none 0 0, .slice none 0 0, .slice none 0 0], fun o w => ⟨_, _, _, rfl, RdL.nil o w, RdL.nil o w, RdL.nil o w⟩⟩
end

end Go.Proofs.YtdbbeldgdgonfaaGreat
