/- Lists of lists that are one's own: the spine in a block, the rows in blocks of their own. -/
import Derived.Test.YtjmhjobfiemmnaaKe
namespace Go.Proofs.Ytjmhjobfiemmnaa
open Go.RowKit
set_option linter.unusedSimpArgs false
set_option linter.unusedVariables false

/-! ### Blocks of one tag get another -/
section
variable {α : Type} [Rp α] {o o' : Tg} {w w' w0 : World} {v u : Value} {xs : List α} {x : α} {t k : Nat} {e : TypeId} {B : Nat}
def Rtc (t : Nat) (o o' : Tg) : Prop := ∀ b, o b ≠ t → o' b = o b
theorem Rtc.zero (r : Rtc t o o') (ht : t ≠ 0) {b : Nat} (hb : o b = 0) : o' b = 0 := by rw [r b (by rw [hb]; exact ht.symm)]; exact hb
theorem RdL.rc (h : RdL o w v xs) (r : Rtc t o o') (ht : t ≠ 0) : RdL o' w v xs := h.mv (Nat.le_refl _) fun b _ hb => ⟨rfl, r.zero ht hb⟩
theorem Rp.rc {cs : List Value} (h : Rp.rd o w cs x) (r : Rtc t o o') (ht : t ≠ 0) : Rp.rd o' w cs x := Rp.mv h (Nat.le_refl _) fun b _ hb => ⟨rfl, r.zero ht hb⟩
theorem Ow.rc (h : Ow B e k o w v xs) (r : Rtc t o o') (ht : t ≠ 0) (hk : k ≠ t) : Ow B e k o' w v xs := by
  obtain ⟨css, h1, h2, h3, h4⟩ := h
  exact ⟨css, h1, h2, fun g hg => by rw [r g (by rw [h3 g hg]; exact hk)]; exact h3 g hg, fun i cs x a b => Rp.rc (h4 i cs x a b) r ht⟩
theorem Of.rc (h : Of e o w v xs) (r : Rtc t o o') (ht : t ≠ 0) : Of e o' w v xs := Ow.rc h r ht ht.symm
omit [Rp α] in
theorem Bx.rc {b : Nat} {cs : List Value} (h : Bx B k o w b e cs) (r : Rtc t o o') (hk : k ≠ t) : Bx B k o' w b e cs :=
  ⟨h.blk, by rw [r b (by rw [h.tag]; exact hk)]; exact h.tag, h.lo⟩
omit [Rp α] in
theorem Bs.rc {oo : Tg} (h : Bs oo o w0 w) (r : Rtc t o o') (ht : 2 ≤ t) : Bs oo o' w0 w :=
  ⟨h.keeps, fun b hb => by rw [r b (by have := h.old b hb; split at this <;> omega)]; exact h.old b hb⟩
def mrg (t k : Nat) (o : Tg) : Tg := fun b => if o b = t then k else o b
omit [Rp α] in
theorem mrg_rc (t k : Nat) (o : Tg) : Rtc t o (mrg t k o) := fun b hb => if_neg hb
theorem Ow.mrg (h : Ow B e t o w v xs) (k : Nat) (ht : t ≠ 0) : Ow B e k (Go.Proofs.Ytjmhjobfiemmnaa.mrg t k o) w v xs := by
  obtain ⟨css, h1, h2, h3, h4⟩ := h
  exact ⟨css, h1, h2, fun g hg => if_pos (h3 g hg), fun i cs x a b => Rp.rc (h4 i cs x a b) (mrg_rc t k o) ht⟩
def one (u : Value) (k : Nat) (o : Tg) : Tg := fun b => if u.ownBlock = some b then k else o b
omit [Rp α] in
theorem one_rc (h : ∀ g, u.ownBlock = some g → o g = t) (k : Nat) : Rtc t o (one u k o) := fun b hb => by
  unfold one
  rw [if_neg fun hu => hb (h b hu)]
theorem Ow.tagged (h : Ow B e k o w v xs) : ∀ g, v.ownBlock = some g → o g = k := by obtain ⟨css, h1, h2, h3, h4⟩ := h; exact h3
theorem Ow.ltw (h : Ow B e k o w v xs) : ∀ g, v.ownBlock = some g → B ≤ g ∧ g < w.heap.size := by obtain ⟨css, h1, h2, h3, h4⟩ := h; exact fun g hg => h2.lt g hg
theorem Ow.one (h : Ow B e t o w u xs) (k : Nat) (ht : t ≠ 0) : Ow B e k (Go.Proofs.Ytjmhjobfiemmnaa.one u k o) w u xs := by
  have hr := one_rc h.tagged k
  obtain ⟨css, h1, h2, h3, h4⟩ := h
  exact ⟨css, h1, h2, fun g hg => if_pos hg, fun i cs x a b => Rp.rc (h4 i cs x a b) hr ht⟩
theorem Ow.one_ne (h : Ow B e k o w v xs) (hu : ∀ g, u.ownBlock = some g → o g = t) (ht : t ≠ 0) (hne : ∀ g, v.ownBlock = some g → u.ownBlock ≠ some g) (k' : Nat) : Ow B e k (Go.Proofs.Ytjmhjobfiemmnaa.one u k' o) w v xs := by
  have hr := one_rc hu k'
  obtain ⟨css, h1, h2, h3, h4⟩ := h
  exact ⟨css, h1, h2, fun g hg => by unfold Go.Proofs.Ytjmhjobfiemmnaa.one; rw [if_neg (hne g hg)]; exact h3 g hg, fun i cs x a b => Rp.rc (h4 i cs x a b) hr ht⟩
end
/-! ### Headers and rows -/
/-- What lies in a spine's cell: a list's value. -/
structure Hv where
  v : Value
instance : Rp Hv where
  sz := 1
  pos := by decide
  rd _ _ cs x := cs = [x.v] ∧ x.v.oneCell' = true
  len h := by obtain ⟨rfl, _⟩ := h; rfl
  one h := by obtain ⟨rfl, h⟩ := h; intro c hc; simp at hc; subst hc; exact h
  mv h _ _ := h
instance : Inhabited Hv := ⟨⟨.slice none 0 0⟩⟩
section
variable {α : Type} [Rp α] {o o' : Tg} {w w' w0 : World} {v u : Value} {vs : List Hv} {xs : List (List α)} {x : List α} {t k kr : Nat} {e er : TypeId} {B : Nat}
/-- The rows whose values stand in vs: each in a block of its own, of the tag kr. -/
def Rws (B : Nat) (er : TypeId) (kr : Nat) (o : Tg) (w : World) (vs : List Hv) (xs : List (List α)) : Prop :=
  vs.length = xs.length ∧ (∀ (i : Nat) u x, vs[i]? = some u → xs[i]? = some x → Ow B er kr o w u.v x) ∧
    ∀ (i j : Nat) u u' g, vs[i]? = some u → vs[j]? = some u' → u.v.ownBlock = some g → u'.v.ownBlock = some g → i = j
theorem Rws.nil (B : Nat) (er : TypeId) (kr : Nat) (o : Tg) (w : World) : Rws B er kr o w [] ([] : List (List α)) := ⟨rfl, fun i u x h => by simp at h, fun i j u u' g h => by simp at h⟩
theorem Rws.stp (h : Rws B er kr o w vs xs) (s : Stp t o w o' w') (ht : t ≠ 0) (hk : kr ≠ t) : Rws B er kr o' w' vs xs := ⟨h.1, fun i u x a b => (h.2.1 i u x a b).stp s ht hk, h.2.2⟩
theorem Rws.rc (h : Rws B er kr o w vs xs) (r : Rtc t o o') (ht : t ≠ 0) (hk : kr ≠ t) : Rws B er kr o' w vs xs := ⟨h.1, fun i u x a b => (h.2.1 i u x a b).rc r ht hk, h.2.2⟩
theorem Rws.mono {B' : Nat} (h : Rws B er kr o w vs xs) (hB : B' ≤ B) : Rws B' er kr o w vs xs := ⟨h.1, fun i u x a b => (h.2.1 i u x a b).mono hB, h.2.2⟩
theorem Rws.row (h : Rws B er kr o w vs xs) {i : Nat} (hx : xs[i]? = some x) : ∃ u, vs[i]? = some ⟨u⟩ ∧ Ow B er kr o w u x := by
  have hi : i < vs.length := by have := (List.getElem?_eq_some_iff.1 hx).1; have := h.1; omega
  exact ⟨vs[i].v, by rw [List.getElem?_eq_getElem hi], h.2.1 i vs[i] x (List.getElem?_eq_getElem hi) hx⟩
theorem Rws.make (B : Nat) (er : TypeId) (kr : Nat) (o : Tg) (w : World) (n : Nat) : Rws B er kr o w (List.replicate n ⟨.slice none 0 0⟩) (List.replicate n ([] : List α)) := by
  refine ⟨by simp, fun i u x a b => ?_, fun i j u u' g a b c d => ?_⟩
  · rw [List.getElem?_replicate] at a b
    split at a
    · rename_i hi
      rw [if_pos hi] at b
      cases a; cases b
      exact Ow.nil _ _ _ _ _
    · cases a
  · rw [List.getElem?_replicate] at a
    split at a
    · cases a; simp [Value.ownBlock] at c
    · cases a
/-- A new row at the end. -/
theorem Rws.push (h : Rws B er kr o w vs xs) (hu : Ow B er t o w u x) (ht : t ≠ 0) (hk : kr ≠ t) : Rws B er kr (mrg t kr o) w (vs ++ [⟨u⟩]) (xs ++ [x]) := by
  have h' := h.rc (mrg_rc t kr o) ht hk
  have hu' := hu.mrg kr ht
  refine ⟨by simp [h.1], fun i u1 x1 a b => ?_, fun i j u1 u2 g a b c d => ?_⟩
  · by_cases hi : i < vs.length
    · rw [List.getElem?_append_left hi] at a
      rw [List.getElem?_append_left (by rw [← h.1]; exact hi)] at b
      exact h'.2.1 i u1 x1 a b
    · have hi2 : i = vs.length := by have := (List.getElem?_eq_some_iff.1 a).1; simp at this; omega
      subst hi2
      rw [List.getElem?_append_right (by omega)] at a
      rw [List.getElem?_append_right (by rw [h.1]; omega)] at b
      simp [h.1] at a b
      subst a; subst b
      exact hu'
  · have old : ∀ (i : Nat) u1, i < vs.length → vs[i]? = some u1 → u1.v.ownBlock = some g → o g = kr := fun i u1 hi a c => by
      obtain ⟨x1, hx1⟩ : ∃ x1, xs[i]? = some x1 := ⟨xs[i]'(by rw [← h.1]; exact hi), List.getElem?_eq_getElem (by rw [← h.1]; exact hi)⟩
      exact (h.2.1 i u1 x1 a hx1).tagged g c
    have lst : ∀ (i : Nat) (u1 : Hv), ¬ i < vs.length → (vs ++ [⟨u⟩])[i]? = some u1 → i = vs.length ∧ u1 = ⟨u⟩ := fun i u1 hi a => by
      have hi2 : i = vs.length := by have := (List.getElem?_eq_some_iff.1 a).1; simp at this; omega
      subst hi2
      rw [List.getElem?_append_right (by omega)] at a
      simp at a
      exact ⟨rfl, a.symm⟩
    by_cases hi : i < vs.length <;> by_cases hj : j < vs.length
    · rw [List.getElem?_append_left hi] at a
      rw [List.getElem?_append_left hj] at b
      exact h.2.2 i j u1 u2 g a b c d
    · obtain ⟨_, rfl⟩ := lst j u2 hj b
      rw [List.getElem?_append_left hi] at a
      have h1 := old i u1 hi a c
      have h2 := hu.tagged g d
      exact absurd (h1.symm.trans h2) hk
    · obtain ⟨_, rfl⟩ := lst i u1 hi a
      rw [List.getElem?_append_left hj] at b
      have h1 := old j u2 hj b d
      have h2 := hu.tagged g c
      exact absurd (h1.symm.trans h2) hk
    · rw [(lst i u1 hi a).1, (lst j u2 hj b).1]
/-- The rows but for the one at i. -/
def RwH (i : Nat) (B : Nat) (er : TypeId) (kr : Nat) (o : Tg) (w : World) (vs : List Hv) (xs : List (List α)) : Prop :=
  vs.length = xs.length ∧ (∀ (j : Nat) u x, j ≠ i → vs[j]? = some u → xs[j]? = some x → Ow B er kr o w u.v x) ∧
    ∀ (j j' : Nat) u u' g, j ≠ i → j' ≠ i → vs[j]? = some u → vs[j']? = some u' → u.v.ownBlock = some g → u'.v.ownBlock = some g → j = j'
theorem RwH.stp {i : Nat} (h : RwH i B er kr o w vs xs) (s : Stp t o w o' w') (ht : t ≠ 0) (hk : kr ≠ t) : RwH i B er kr o' w' vs xs := ⟨h.1, fun j u x n a b => (h.2.1 j u x n a b).stp s ht hk, h.2.2⟩
theorem RwH.rc {i : Nat} (h : RwH i B er kr o w vs xs) (r : Rtc t o o') (ht : t ≠ 0) (hk : kr ≠ t) : RwH i B er kr o' w vs xs := ⟨h.1, fun j u x n a b => (h.2.1 j u x n a b).rc r ht hk, h.2.2⟩
/-- A row is taken out: it gets a tag of its own. -/
theorem Rws.take (h : Rws B er kr o w vs xs) {i : Nat} (hu : vs[i]? = some ⟨u⟩) (hx : xs[i]? = some x) (hkr : kr ≠ 0) (k' : Nat) :
    Ow B er k' (one u k' o) w u x ∧ RwH i B er kr (one u k' o) w vs xs ∧ Rtc kr o (one u k' o) := by
  have h0 := h.2.1 i ⟨u⟩ x hu hx
  refine ⟨h0.one k' hkr, ⟨h.1, fun j u1 x1 n a b => ?_, fun j j' u1 u2 g _ _ a b c d => h.2.2 j j' u1 u2 g a b c d⟩, one_rc h0.tagged k'⟩
  exact (h.2.1 j u1 x1 a b).one_ne h0.tagged hkr (fun g hg he => n (h.2.2 j i u1 ⟨u⟩ g a hu hg he)) k'
/-- A row is put in. -/
theorem RwH.put {i : Nat} (h : RwH i B er kr o w vs xs) (hu : Ow B er t o w u x) (ht : t ≠ 0) (hk : kr ≠ t) : Rws B er kr (mrg t kr o) w (vs.set i ⟨u⟩) (xs.set i x) := by
  have h' := h.rc (mrg_rc t kr o) ht hk
  have hu' := hu.mrg kr ht
  have old : ∀ (j : Nat) u1 g, j ≠ i → vs[j]? = some u1 → u1.v.ownBlock = some g → o g = kr := fun j u1 g n a c => by
    have hj : j < xs.length := by rw [← h.1]; exact (List.getElem?_eq_some_iff.1 a).1
    exact (h.2.1 j u1 _ n a (List.getElem?_eq_getElem hj)).tagged g c
  refine ⟨by simp [h.1], fun j u1 x1 a b => ?_, fun j j' u1 u2 g a b c d => ?_⟩
  · rw [List.getElem?_set] at a b
    by_cases e : i = j
    · subst e
      rw [if_pos rfl] at a b
      split at a
      · split at b
        · cases a; cases b; exact hu'
        · cases b
      · cases a
    · rw [if_neg e] at a b
      exact h'.2.1 j u1 x1 (Ne.symm e) a b
  · rw [List.getElem?_set] at a b
    by_cases e : i = j <;> by_cases e' : i = j'
    · omega
    · rw [if_pos e] at a
      rw [if_neg e'] at b
      split at a
      · cases a
        exact absurd ((old j' u2 g (Ne.symm e') b d).symm.trans (hu.tagged g c)) hk
      · cases a
    · rw [if_neg e] at a
      rw [if_pos e'] at b
      split at b
      · cases b
        exact absurd ((old j u1 g (Ne.symm e) a c).symm.trans (hu.tagged g d)) hk
      · cases b
    · rw [if_neg e] at a
      rw [if_neg e'] at b
      exact h.2.2 j j' u1 u2 g (Ne.symm e) (Ne.symm e') a b c d
theorem Rws.hole (h : Rws B er kr o w vs xs) (i : Nat) : RwH i B er kr o w vs xs := ⟨h.1, fun j u x _ a b => h.2.1 j u x a b, fun j j' u u' g _ _ a b c d => h.2.2 j j' u u' g a b c d⟩
/-! ### Given up -/
theorem Rws.frz (h : Rws B er kr o w vs xs) (hk : kr ≠ 0) : Rws B er 0 (frz kr o) w vs xs := by
  refine ⟨h.1, fun i u x a b => ?_, h.2.2⟩
  have h0 := h.2.1 i u x a b
  have := h0.frzF
  obtain ⟨css, h1, h2, h3, h4⟩ := h0
  exact ⟨css, h1, h2, fun g hg => by unfold Go.Proofs.Ytjmhjobfiemmnaa.frz; rw [if_pos (h3 g hg)], fun i cs x a b => Rp.frz (h4 i cs x a b) kr⟩
theorem Rws.frz_ne {j : Nat} (h : Rws B er kr o w vs xs) (hj : kr ≠ j) : Rws B er kr (Go.Proofs.Ytjmhjobfiemmnaa.frz j o) w vs xs := ⟨h.1, fun i u x a b => (h.2.1 i u x a b).frz_ne hj, h.2.2⟩
/-- A list of lists of which every block is given up, the rows in blocks of their own. -/
def Dz (e er : TypeId) (o : Tg) (w : World) (v : Value) (xs : List (List α)) : Prop := ∃ vs : List Hv, Ow 0 e 0 o w v vs ∧ Rws 0 er 0 o w vs xs
theorem Dz.nil (e er : TypeId) (o : Tg) (w : World) : Dz e er o w (.slice none 0 0) ([] : List (List α)) := ⟨[], Ow.nil _ _ _ _ _, Rws.nil _ _ _ _ _⟩
theorem Dz.of (h : Ow B e k o w v vs) (hr : Rws B er kr o w vs xs) (hk : k ≠ 0) (hkr : kr ≠ 0) (hne : kr ≠ k) : Dz e er (frz kr (frz k o)) w v xs :=
  ⟨vs, (Of.frz (h.frzF) kr hkr.symm), ((hr.frz_ne hne).frz hkr).mono (Nat.zero_le _)⟩
theorem Dz.stp (h : Dz e er o w v xs) (s : Stp t o w o' w') (ht : t ≠ 0) : Dz e er o' w' v xs := by
  obtain ⟨vs, h1, h2⟩ := h
  exact ⟨vs, h1.stp s ht ht.symm, h2.stp s ht ht.symm⟩
theorem Dz.rc (h : Dz e er o w v xs) (r : Rtc t o o') (ht : t ≠ 0) : Dz e er o' w v xs := by
  obtain ⟨vs, h1, h2⟩ := h
  exact ⟨vs, h1.rc r ht ht.symm, h2.rc r ht ht.symm⟩
theorem frz_rc (k : Nat) (o : Tg) : Rtc k o (frz k o) := fun b hb => if_neg hb
theorem Dz.frz (h : Dz e er o w v xs) (j : Nat) (hj : 0 ≠ j) : Dz e er (Go.Proofs.Ytjmhjobfiemmnaa.frz j o) w v xs := h.rc (frz_rc j o) hj.symm
theorem Dz.rt {oo : Tg} (h : Dz e er o w v xs) (hB : Bs oo o w0 w) (k t : Nat) (hk : 2 ≤ k) : Dz e er (Go.Proofs.Ytjmhjobfiemmnaa.rt oo o w0.heap.size k t) w v xs := by
  obtain ⟨vs, h1, h2⟩ := h
  exact ⟨vs, Of.rt h1 hB k t hk, h2.1, fun i u x a b => Of.rt (h2.2.1 i u x a b) hB k t hk, h2.2.2⟩
theorem Dz.rd (h : Dz e er o w v xs) : RdL o w v xs := by
  obtain ⟨vs, h1, h2⟩ := h
  obtain ⟨a, c, rfl, l1, l2, h4⟩ := Of.rd h1
  refine ⟨a, c, by rw [h2.1], by rw [← h2.1]; exact l1, l2, fun i x hx => ?_⟩
  obtain ⟨u, hu, ho⟩ := h2.row hx
  obtain ⟨b, off, cs, ha, hb, hlt, hc, hd, _⟩ := h4 i ⟨u⟩ hu
  subst hd
  exact ⟨b, off, [u], ha, hb, hlt, hc, ⟨u, rfl, Of.rd ho⟩⟩
/-! ### For the printed walks -/
theorem Rws.ix (h : Rws B er kr o w vs xs) {i : Int} (hx : ix xs i = some x) : ∃ u, Go.Proofs.Ytjmhjobfiemmnaa.ix vs i = some ⟨u⟩ ∧ vs[i.toNat]? = some ⟨u⟩ ∧ xs[i.toNat]? = some x := by
  obtain ⟨h0, _, h2⟩ := ix_some hx
  obtain ⟨u, hu, _⟩ := h.row h2
  exact ⟨u, by unfold Go.Proofs.Ytjmhjobfiemmnaa.ix; rw [if_pos h0]; exact hu, hu, h2⟩
theorem Rws.at (h : Rws B er kr o w vs xs) {i : Nat} (hu : vs[i]? = some ⟨u⟩) (hx : xs[i]? = some x) : Ow B er kr o w u x := h.2.1 i ⟨u⟩ x hu hx
theorem Rws.pushV (h : Rws B er kr o w vs xs) {ys : List (List α)} (hy : Go.Proofs.Ytjmhjobfiemmnaa.push xs x = some ys) (u : Value) : Go.Proofs.Ytjmhjobfiemmnaa.push vs ⟨u⟩ = some (vs ++ [⟨u⟩]) ∧ ys = xs ++ [x] := by
  obtain ⟨h1, rfl⟩ := push_some hy
  exact ⟨by unfold Go.Proofs.Ytjmhjobfiemmnaa.push; rw [if_pos (by rw [h.1]; exact h1)], rfl⟩
theorem Rws.stV (h : Rws B er kr o w vs xs) {ys : List (List α)} {i : Int} (hy : st xs i x = some ys) (u : Value) : st vs i ⟨u⟩ = some (vs.set i.toNat ⟨u⟩) ∧ ys = xs.set i.toNat x := by
  obtain ⟨h0, h1, rfl⟩ := st_some hy
  exact ⟨by unfold st; rw [if_pos ⟨h0, by rw [h.1]; exact h1⟩], rfl⟩
theorem RwH.back {i : Nat} (h : RwH i B er kr o w vs xs) (hv : vs[i]? = some ⟨u⟩) (hu : Ow B er t o w u x) (ht : t ≠ 0) (hk : kr ≠ t) : Rws B er kr (Go.Proofs.Ytjmhjobfiemmnaa.mrg t kr o) w vs (xs.set i x) := by
  have := h.put hu ht hk
  have e : vs.set i ⟨u⟩ = vs := by
    have hl := (List.getElem?_eq_some_iff.1 hv)
    rw [← hl.2]; exact List.set_getElem_self hl.1
  rwa [e] at this
theorem Rws.rtg (h : Rws B er kr o w vs xs) (k' : Nat) (hk : kr ≠ 0) : Rws B er k' (Go.Proofs.Ytjmhjobfiemmnaa.rtg kr k' o) w vs xs := ⟨h.1, fun i u x a b => (h.2.1 i u x a b).rtg k' hk, h.2.2⟩
theorem Rws.rtg_ne {k k' : Nat} (h : Rws B er kr o w vs xs) (h1 : kr ≠ k) (h2 : kr ≠ k') (hk : k ≠ 0) : Rws B er kr (Go.Proofs.Ytjmhjobfiemmnaa.rtg k k' o) w vs xs := ⟨h.1, fun i u x a b => (h.2.1 i u x a b).rtg_ne h1 h2 hk, h.2.2⟩
theorem Dz.rtg {k' : Nat} (h : Dz e er o w v xs) (h1 : 0 ≠ k) (h2 : 0 ≠ k') (hk : k ≠ 0) : Dz e er (Go.Proofs.Ytjmhjobfiemmnaa.rtg k k' o) w v xs := by
  obtain ⟨vs, g1, g2⟩ := h
  exact ⟨vs, Ow.rtg_ne g1 h1 h2 hk, g2.rtg_ne h1 h2 hk⟩
theorem rd_hv {ys : List α} (h : Ow B er k o w v ys) : Rp.rd o w [v] (⟨v⟩ : Hv) := ⟨rfl, h.one1⟩
end
section
variable {α : Type} [Rp α] {o o' oo : Tg} {w w' w0 : World} {v u : Value} {vs : List Hv} {xs : List (List α)} {x : List α} {t k kr : Nat} {e er : TypeId} {B : Nat}
/-- It may be read. -/
theorem Rws.z (h : Rws B er kr o w vs xs) (hs : Ow B e k o w v vs) : RdL zt w v xs := by
  obtain ⟨a, c, rfl, l1, l2, h4⟩ := hs.z
  refine ⟨a, c, by rw [h.1], by rw [← h.1]; exact l1, l2, fun i x hx => ?_⟩
  obtain ⟨u, hu, ho⟩ := h.row hx
  obtain ⟨b, off, cs, ha, hb, hlt, hc, hd, _⟩ := h4 i ⟨u⟩ hu
  subst hd
  exact ⟨b, off, [u], ha, hb, hlt, hc, ⟨u, rfl, ho.z⟩⟩
/-- The tags with which a call hands back a list of lists that it made. -/
def rt2 (oo o : Tg) (n k kr t : Nat) : Tg := fun b => if b < n then oo b else if o b = k then t else if o b = kr then t + 1 else 0
theorem rt2_old (oo o : Tg) (n k kr t : Nat) : ∀ b, b < n → rt2 oo o n k kr t b = oo b := fun b hb => if_pos hb
theorem rt2_zero (h : Bs oo o w0 w) (k kr t b : Nat) (hk : 2 ≤ k) (hkr : 2 ≤ kr) (hb : o b = 0) : rt2 oo o w0.heap.size k kr t b = 0 := by
  unfold rt2
  split
  · rename_i hlt
    have := h.old b hlt
    split at this
    · assumption
    · omega
  · rw [if_neg (by omega), if_neg (by omega)]
theorem Ow.rt2 {β : Type} [Rp β] {ys : List β} (h : Ow w0.heap.size e k o w v ys) (hB : Bs oo o w0 w) (hk : 2 ≤ k) {kr : Nat} (hkr : 2 ≤ kr) (t : Nat) : Ow w0.heap.size e t (Go.Proofs.Ytjmhjobfiemmnaa.rt2 oo o w0.heap.size k kr t) w v ys := by
  obtain ⟨css, h1, h2, h3, h4⟩ := h
  refine ⟨css, h1, h2, fun g hg => ?_, fun i cs x a b => Rp.mv (h4 i cs x a b) (Nat.le_refl _) fun b _ hb => ⟨rfl, rt2_zero hB k kr t b hk hkr hb⟩⟩
  unfold Go.Proofs.Ytjmhjobfiemmnaa.rt2
  rw [if_neg (by have := (h2.lt g hg).1; omega), if_pos (h3 g hg)]
theorem Rws.rt2 (h : Rws w0.heap.size er kr o w vs xs) (hB : Bs oo o w0 w) {k : Nat} (hk : 2 ≤ k) (hkr : 2 ≤ kr) (hne : kr ≠ k) (t : Nat) : Rws w0.heap.size er (t + 1) (Go.Proofs.Ytjmhjobfiemmnaa.rt2 oo o w0.heap.size k kr t) w vs xs := by
  refine ⟨h.1, fun i u x a b => ?_, h.2.2⟩
  obtain ⟨css, h1, h2, h3, h4⟩ := h.2.1 i u x a b
  refine ⟨css, h1, h2, fun g hg => ?_, fun i cs x a b => Rp.mv (h4 i cs x a b) (Nat.le_refl _) fun b _ hb => ⟨rfl, rt2_zero hB k kr t b hk hkr hb⟩⟩
  unfold Go.Proofs.Ytjmhjobfiemmnaa.rt2
  rw [if_neg (by have := (h2.lt g hg).1; omega), if_neg (by rw [h3 g hg]; exact hne), if_pos (h3 g hg)]
end
instance : Rz Hv := ⟨⟨.slice none 0 0⟩, [.slice none 0 0], fun o w => ⟨rfl, rfl⟩⟩
section
variable {α : Type} [Rp α] {o o' : Tg} {w w' : World} {u : Value} {vs : List Hv} {xs : List (List α)} {x : List α} {t k kr : Nat} {e er : TypeId} {B : Nat}
theorem mk_hv {n : Int} {ys : List (List α)} (h : mk ([] : List α) n = some ys) (B : Nat) (er : TypeId) (kr : Nat) (o : Tg) (w : World) :
    mk (Rz.z : Hv) n = some (List.replicate n.toNat ⟨.slice none 0 0⟩) ∧ Rws B er kr o w (List.replicate n.toNat ⟨.slice none 0 0⟩) ys := by
  obtain ⟨h1, h2, rfl⟩ := mk_some h
  exact ⟨if_pos ⟨h1, h2⟩, Rws.make B er kr o w n.toNat⟩
theorem RwH.ix {i0 : Nat} (h : RwH i0 B er kr o w vs xs) {i : Int} (hx : Go.Proofs.Ytjmhjobfiemmnaa.ix xs i = some x) : ∃ u, Go.Proofs.Ytjmhjobfiemmnaa.ix vs i = some ⟨u⟩ := by
  obtain ⟨h0, h1, h2⟩ := ix_some hx
  have hl : i.toNat < vs.length := by rw [h.1]; omega
  exact ⟨vs[i.toNat].v, by unfold Go.Proofs.Ytjmhjobfiemmnaa.ix; rw [if_pos h0, List.getElem?_eq_getElem hl]⟩
theorem RwH.stV {i0 : Nat} (h : RwH i0 B er kr o w vs xs) {ys : List (List α)} {i : Int} (hy : st xs i x = some ys) (u : Value) : st vs i ⟨u⟩ = some (vs.set i.toNat ⟨u⟩) ∧ ys = xs.set i.toNat x := by
  obtain ⟨h0, h1, rfl⟩ := st_some hy
  exact ⟨by unfold st; rw [if_pos ⟨h0, by rw [h.1]; exact h1⟩], rfl⟩
end
section
variable {α : Type} [Rp α] {P : Program} {l : List (Nat × Value)} {w : World} {o : Tg} {d : Option Nat} {ty : TypeId}
theorem Rws.lenO {kr B : Nat} {er : TypeId} {vs : List Hv} {xs : List (List α)} (hr : Rws B er kr o w vs xs) : (vs.length : Int) = xs.length := by rw [hr.1]
end
end Go.Proofs.Ytjmhjobfiemmnaa
