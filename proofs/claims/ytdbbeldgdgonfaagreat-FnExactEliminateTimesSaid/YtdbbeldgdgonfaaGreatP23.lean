/- Part 23 of what this claim rests on (Dq, GEn, Help, Mat), packed by pack.py. -/
import Derived.BigQuiet
import Derived.Outline
import Derived.Test.YtdbbeldgdgonfaaGreatP01
import Derived.Test.YtdbbeldgdgonfaaGreatP03
import Derived.Test.YtdbbeldgdgonfaaGreatP04
import Derived.Test.YtdbbeldgdgonfaaGreatP19
namespace Go.Proofs.YtdbbeldgdgonfaaGreat
set_option linter.unusedSimpArgs false
set_option linter.unusedVariables false

section
open Go.RowKit
section
variable {α : Type} [Rp α] {o o' oo : Tg} {w w' w0 : World} {v u vN vE : Value} {vs : List Hv} {xs ys : List (List α)} {t k kr : Nat} {e er : TypeId} {B lo hi m n : Nat}
theorem Ow.low0 {zs : List α} (h : Ow B e k o w v zs) (hm : ∀ g, v.ownBlock = some g → m ≤ g) : Ow m e k o w v zs := by
 obtain ⟨css, h1, ⟨h2, h2'⟩, h3, h4⟩ := h
 refine ⟨css, h1, ⟨h2, ?_⟩, h3, h4⟩
 rcases h2' with h | ⟨g, cap, cur, rfl, hb, rest⟩
 ·exact .inl h
 ·exact .inr ⟨g, cap, cur, rfl, hm g rfl, rest⟩
theorem Ow.mv0 {zs : List α} (h : Ow B e 0 o w v zs) (hz : ∀ b, o b = 0 → o' b = 0) : Ow B e 0 o' w v zs := by
 obtain ⟨css, h1, h2, h3, h4⟩ := h
 exact ⟨css, h1, h2, fun g hg => hz g (h3 g hg), fun i cs x a b => Rp.mv (h4 i cs x a b) (Nat.le_refl _) fun b _ hb => ⟨rfl, hz b hb⟩⟩
theorem Rws.mv0 (h : Rws B er 0 o w vs xs) (hz : ∀ b, o b = 0 → o' b = 0) : Rws B er 0 o' w vs xs := ⟨h.1, fun i u x a b => (h.2.1 i u x a b).mv0 hz, h.2.2⟩
theorem Rws.row' (h : Rws B er kr o w vs xs) {i : Nat} {u : Hv} (hu : vs[i]? = some u) : ∃ x, xs[i]? = some x ∧ Ow B er kr o w u.v x := by
 have hi : i < xs.length := by have := (List.getElem?_eq_some_iff.1 hu).1; have := h.1; omega
 exact ⟨xs[i], List.getElem?_eq_getElem hi, h.2.1 i u xs[i] hu (List.getElem?_eq_getElem hi)⟩
theorem Rws.low0 (h : Rws B er kr o w vs xs) (hm : ∀ (i : Nat) (u : Hv) g, vs[i]? = some u → u.v.ownBlock = some g → m ≤ g) : Rws m er kr o w vs xs := ⟨h.1, fun i u x a b => (h.2.1 i u x a b).low0 fun g hg => hm i u g a hg, h.2.2⟩
theorem Rws.lt (h : Rws B er kr o w vs xs) (i : Nat) (u : Hv) (g : Nat) (hu : vs[i]? = some u) (hg : u.v.ownBlock = some g) : B ≤ g ∧ g < w.heap.size := by
 obtain ⟨x, _, hx⟩ := h.row' hu
 exact hx.ltw g hg
theorem Rws.tg (h : Rws B er kr o w vs xs) (i : Nat) (u : Hv) (g : Nat) (hu : vs[i]? = some u) (hg : u.v.ownBlock = some g) : o g = kr := by
 obtain ⟨x, _, hx⟩ := h.row' hu
 exact hx.tagged g hg
def Dw (lo hi : Nat) (e er : TypeId) (o : Tg) (w : World) (v : Value) (xs : List (List α)) : Prop :=
  ∃ vs : List Hv, Ow lo e 0 o w v vs ∧ Rws lo er 0 o w vs xs ∧ (∀ g, v.ownBlock = some g → g < hi) ∧ ∀ (i : Nat) (u : Hv) g, vs[i]? = some u → u.v.ownBlock = some g → g < hi
theorem Dw.nil (lo hi : Nat) (e er : TypeId) (o : Tg) (w : World) : Dw lo hi e er o w (.slice none 0 0) ([] : List (List α)) :=
 ⟨[], Ow.nil _ _ _ _ _, Rws.nil _ _ _ _ _, fun g hg => by simp [Value.ownBlock] at hg, fun i u g h => by simp at h⟩
theorem Dw.stp (h : Dw lo hi e er o w v xs) (s : Stp t o w o' w') (ht : t ≠ 0 := by decide) : Dw lo hi e er o' w' v xs := by
 obtain ⟨vs, h1, h2, h3⟩ := h
 exact ⟨vs, h1.stp s ht ht.symm, h2.stp s ht ht.symm, h3⟩
theorem Dw.mv0 (h : Dw lo hi e er o w v xs) (hz : ∀ b, o b = 0 → o' b = 0) : Dw lo hi e er o' w v xs := by
 obtain ⟨vs, h1, h2, h3⟩ := h
 exact ⟨vs, h1.mv0 hz, h2.mv0 hz, h3⟩
theorem Dw.rc (h : Dw lo hi e er o w v xs) (r : Rtc t o o') (ht : t ≠ 0) : Dw lo hi e er o' w v xs := h.mv0 fun b hb => r.zero ht hb
theorem Dw.frz (h : Dw lo hi e er o w v xs) (j : Nat) (hj : 0 ≠ j) : Dw lo hi e er (Go.Proofs.YtdbbeldgdgonfaaGreat.frz j o) w v xs := h.rc (dF_ j o) hj.symm
theorem Dw.rt (h : Dw lo hi e er o w v xs) (hB : Bs oo o w0 w) (k t : Nat) (hk : 2 ≤ k) : Dw lo hi e er (Go.Proofs.YtdbbeldgdgonfaaGreat.rt oo o w0.heap.size k t) w v xs := h.mv0 fun b hb => hK_ hB k t b hk hb
theorem Dw.dz (h : Dw lo hi e er o w v xs) : Dz e er o w v xs := by
 obtain ⟨vs, h1, h2, _⟩ := h
 exact ⟨vs, h1.mono (Nat.zero_le _), h2.mono (Nat.zero_le _)⟩
theorem Dw.rd (h : Dw lo hi e er o w v xs) : RdL o w v xs := h.dz.rd
theorem Dz.dw (h : Dz e er o w v xs) : Dw 0 w.heap.size e er o w v xs := by
 obtain ⟨vs, h1, h2⟩ := h
 exact ⟨vs, h1, h2, fun g hg => (h1.ltw g hg).2, fun i u g a b => (h2.lt i u g a b).2⟩
theorem Dw.of (h : Ow B e k o w v vs) (hr : Rws B er kr o w vs xs) (hk : k ≠ 0) (hkr : kr ≠ 0) (hne : kr ≠ k) (hm1 : ∀ g, v.ownBlock = some g → m ≤ g) (hm2 : ∀ (i : Nat) (u : Hv) g, vs[i]? = some u → u.v.ownBlock = some g → m ≤ g) :
  Dw m w.heap.size e er (Go.Proofs.YtdbbeldgdgonfaaGreat.frz kr (Go.Proofs.YtdbbeldgdgonfaaGreat.frz k o)) w v xs :=
 ⟨vs, Ow.low0 (Of.frz (h.frzF) kr hkr.symm) hm1, Rws.low0 ((hr.frz_ne hne).frz hkr) hm2, fun g hg => (h.ltw g hg).2, fun i u g a b => (hr.lt i u g a b).2⟩
theorem Dw.sub {lo' hi' : Nat} (h : Dw lo hi e er o w v xs) (h1 : ∀ g, o g = 0 → lo ≤ g → g < hi → g < w.heap.size → lo' ≤ g ∧ g < hi') : Dw lo' hi' e er o w v xs := by
 obtain ⟨vs, a1, a2, a3, a4⟩ := h
 have b1 : ∀ g, v.ownBlock = some g → lo' ≤ g ∧ g < hi' := fun g hg => h1 g (a1.tagged g hg) (a1.ltw g hg).1 (a3 g hg) (a1.ltw g hg).2
 have b2 : ∀ (i : Nat) (u : Hv) g, vs[i]? = some u → u.v.ownBlock = some g → lo' ≤ g ∧ g < hi' := fun i u g a b => h1 g (a2.tg i u g a b) (a2.lt i u g a b).1 (a4 i u g a b) (a2.lt i u g a b).2
 exact ⟨vs, a1.low0 fun g hg => (b1 g hg).1, a2.low0 fun i u g a b => (b2 i u g a b).1, fun g hg => (b1 g hg).2, fun i u g a b => (b2 i u g a b).2⟩
def D2 (e er : TypeId) (o : Tg) (w : World) (vN vE : Value) (xs ys : List (List α)) : Prop := ∃ a b c d, (∀ g, a ≤ g → g < b → c ≤ g → g < d → False) ∧ Dw a b e er o w vN xs ∧ Dw c d e er o w vE ys
theorem D2.of {hi : Nat} (hN : Dw 0 m e er o w vN xs) (hE : Dw m hi e er o w vE ys) : D2 e er o w vN vE xs ys := ⟨0, m, m, hi, fun g _ p1 p2 _ => by omega, hN, hE⟩
theorem Dw.ofI {a b : Nat} (h : Ow a e k o w v vs) (hr : Rws a er kr o w vs xs) (hk : k ≠ 0) (hkr : kr ≠ 0) (hne : kr ≠ k) (h3 : ∀ c, v.ownBlock = some c → c < b) (h4 : ∀ (i : Nat) (u : Hv) c, vs[i]? = some u → u.v.ownBlock = some c → c < b) :
  Dw a b e er (Go.Proofs.YtdbbeldgdgonfaaGreat.frz kr (Go.Proofs.YtdbbeldgdgonfaaGreat.frz k o)) w v xs :=
 ⟨vs, Ow.low0 (Of.frz (h.frzF) kr hkr.symm) (fun c hc => (h.ltw c hc).1), Rws.low0 ((hr.frz_ne hne).frz hkr) (fun i u c p q => (hr.lt i u c p q).1), h3, h4⟩
theorem newT {n : Nat} {o1 oo : Tg} {t : Nat} (ho : ∀ b, b < n → o1 b = 1) : ∀ b, o1 b = 0 → (fun b => if b < n then oo b else if o1 b = 0 then 0 else t) b = 0 := fun b hb => by
 have hn : ¬ b < n := fun h => by rw [ho b h] at hb; omega
 show (if b < n then oo b else if o1 b = 0 then 0 else t) = 0
 rw [if_neg hn, if_pos hb]
theorem D2.nil (e er : TypeId) (o : Tg) (w : World) : D2 e er o w (.slice none 0 0) (.slice none 0 0) ([] : List (List α)) ([] : List (List α)) := ⟨0, 0, 0, 0, fun g _ h _ _ => by omega, Dw.nil _ _ _ _ _ _, Dw.nil _ _ _ _ _ _⟩
theorem D2.stp (h : D2 e er o w vN vE xs ys) (s : Stp t o w o' w') (ht : t ≠ 0 := by decide) : D2 e er o' w' vN vE xs ys := by
 obtain ⟨a, b, c, d, hd, h1, h2⟩ := h
 exact ⟨a, b, c, d, hd, h1.stp s ht, h2.stp s ht⟩
theorem D2.mv0 (h : D2 e er o w vN vE xs ys) (hz : ∀ b, o b = 0 → o' b = 0) : D2 e er o' w vN vE xs ys := by
 obtain ⟨a, b, c, d, hd, h1, h2⟩ := h
 exact ⟨a, b, c, d, hd, h1.mv0 hz, h2.mv0 hz⟩
theorem D2.rc (h : D2 e er o w vN vE xs ys) (r : Rtc t o o') (ht : t ≠ 0) : D2 e er o' w vN vE xs ys := h.mv0 fun b hb => r.zero ht hb
theorem D2.frz (h : D2 e er o w vN vE xs ys) (j : Nat) (hj : 0 ≠ j) : D2 e er (Go.Proofs.YtdbbeldgdgonfaaGreat.frz j o) w vN vE xs ys := h.rc (dF_ j o) hj.symm
theorem D2.rt (h : D2 e er o w vN vE xs ys) (hB : Bs oo o w0 w) (k t : Nat) (hk : 2 ≤ k) : D2 e er (Go.Proofs.YtdbbeldgdgonfaaGreat.rt oo o w0.heap.size k t) w vN vE xs ys := h.mv0 fun b hb => hK_ hB k t b hk hb
def Pq (lo hi : Nat) (e er : TypeId) (o : Tg) (w : World) (vN vE : Value) (xs ys : List (List α)) : Prop := ∃ a b c d, lo ≤ a ∧ b ≤ hi ∧ lo ≤ c ∧ d ≤ hi ∧ (b ≤ c ∨ d ≤ a) ∧ Dw a b e er o w vN xs ∧ Dw c d e er o w vE ys
theorem D2.pq (h : D2 e er o w vN vE xs ys) (hn : ∀ b, b < n → o b ≠ 0) (hle : n ≤ w.heap.size) : Pq n w.heap.size e er o w vN vE xs ys := by
 obtain ⟨a, b, c, d, hd, h1, h2⟩ := h
 have hz : ∀ g, o g = 0 → n ≤ g := fun g h0 => Nat.le_of_not_lt fun hg => hn g hg h0
 have k1 : Dw (max a n) (min b w.heap.size) e er o w vN xs := h1.sub fun g h0 p1 p2 p3 => by have := hz g h0; omega
 have k2 : Dw (max c n) (min d w.heap.size) e er o w vE ys := h2.sub fun g h0 p1 p2 p3 => by have := hz g h0; omega
 by_cases q1 : max a n < min b w.heap.size
 ·by_cases q2 : max c n < min d w.heap.size
  ·refine ⟨_, _, _, _, by omega, by omega, by omega, by omega, ?_, k1, k2⟩
   refine Classical.byContradiction fun hh => hd (max (max a n) (max c n)) (by omega) (by omega) (by omega) (by omega)
  ·exact ⟨_, _, n, n, by omega, by omega, by omega, by omega, by omega, k1, k2.sub fun g _ p1 p2 _ => by omega⟩
 ·exact ⟨n, n, _, _, by omega, by omega, by omega, by omega, by omega, k1.sub fun g _ p1 p2 _ => by omega, k2⟩
theorem Pq.stp {lo hi : Nat} (h : Pq lo hi e er o w vN vE xs ys) (s : Stp t o w o' w') (ht : t ≠ 0 := by decide) : Pq lo hi e er o' w' vN vE xs ys := by
 obtain ⟨a, b, c, d, q1, q2, q3, q4, q5, h1, h2⟩ := h
 exact ⟨a, b, c, d, q1, q2, q3, q4, q5, h1.stp s ht, h2.stp s ht⟩
theorem Pq.mv0 {lo hi : Nat} (h : Pq lo hi e er o w vN vE xs ys) (hz : ∀ b, o b = 0 → o' b = 0) : Pq lo hi e er o' w vN vE xs ys := by
 obtain ⟨a, b, c, d, q1, q2, q3, q4, q5, h1, h2⟩ := h
 exact ⟨a, b, c, d, q1, q2, q3, q4, q5, h1.mv0 hz, h2.mv0 hz⟩
theorem Pq.rdN {lo hi : Nat} (h : Pq lo hi e er o w vN vE xs ys) : RdL o w vN xs := by obtain ⟨a, b, c, d, q1, q2, q3, q4, q5, h1, h2⟩ := h; exact h1.rd
theorem Pq.rdE {lo hi : Nat} (h : Pq lo hi e er o w vN vE xs ys) : RdL o w vE ys := by obtain ⟨a, b, c, d, q1, q2, q3, q4, q5, h1, h2⟩ := h; exact h2.rd
def Iv (B k kr : Nat) (e er : TypeId) (o : Tg) (w : World) (v : Value) (xs : List (List α)) : Prop :=
  ∃ (g : List Hv) (a b : Nat), B ≤ a ∧ b ≤ w.heap.size ∧ Ow a e k o w v g ∧ Rws a er kr o w g xs ∧ (∀ c, v.ownBlock = some c → c < b) ∧ (∀ (i : Nat) (u : Hv) c, g[i]? = some u → u.v.ownBlock = some c → c < b) ∧ ∀ c, a ≤ c → c < b → o c = k ∨ o c = kr
theorem Iv.stp {B : Nat} (h : Iv B k kr e er o w v xs) (s : Stp t o w o' w') (ht : t ≠ 0 := by decide) (hk : k ≠ t := by decide) (hkr : kr ≠ t) : Iv B k kr e er o' w' v xs := by
 obtain ⟨g, a, b, h1, h2, h3, h4, h5, h6, h7⟩ := h
 exact ⟨g, a, b, h1, Nat.le_trans h2 s.size, h3.stp s ht hk, h4.stp s ht hkr, h5, h6, fun c p q => by rw [s.own c (Nat.lt_of_lt_of_le q h2)]; exact h7 c p q⟩
end
theorem Iv.mono {α : Type} [Rp α] {B B' k kr : Nat} {e er : TypeId} {o : Tg} {w : World} {v : Value} {xs : List (List α)} (h : Iv B k kr e er o w v xs) (hB : B' ≤ B) : Iv B' k kr e er o w v xs := by
 obtain ⟨g, a, b, h1, h2⟩ := h
 exact ⟨g, a, b, Nat.le_trans hB h1, h2⟩
structure Qv where
  cs : List Value
instance : Rp Qv where
  sz := 4
  pos := by decide
  rd _ _ cs x := cs = x.cs ∧ cs.length = 4 ∧ ∀ c ∈ cs, c.oneCell' = true
  len h := h.2.1
  one h := h.2.2
  mv h _ _ := h
theorem Qv.ok {o : Tg} {w : World} {L D : Int} {vN vE : Value} (h1 : vN.oneCell' = true) (h2 : vE.oneCell' = true) : Rp.rd o w [.int .i64 L, .int .i64 D, vN, vE] (⟨[.int .i64 L, .int .i64 D, vN, vE]⟩ : Qv) :=
 ⟨rfl, rfl, fun c hc => by
  simp only [List.mem_cons, List.not_mem_nil, or_false] at hc
  rcases hc with rfl | rfl | rfl | rfl
  ·rfl
  ·rfl
  ·exact h1
  ·exact h2⟩
section
variable {o o' oo : Tg} {w w' w0 : World} {v u vN vE : Value} {t k : Nat} {B n : Nat} {gs : List Qv} {ps : List a_} {p : a_}
def Pc (lo hi : Nat) (o : Tg) (w : World) (cs : List Value) (p : a_) : Prop := ∃ vN vE, cs = [.int .i64 p.Labels, .int .i64 p.Degree, vN, vE] ∧ Pq lo hi 41 3 o w vN vE p.Nodes p.Edges
theorem Pc.stp {lo hi : Nat} {cs : List Value} (h : Pc lo hi o w cs p) (s : Stp t o w o' w') (ht : t ≠ 0 := by decide) : Pc lo hi o' w' cs p := by obtain ⟨vN, vE, e, h⟩ := h; exact ⟨vN, vE, e, h.stp s ht⟩
theorem Pc.mv0 {lo hi : Nat} {cs : List Value} (h : Pc lo hi o w cs p) (hz : ∀ b, o b = 0 → o' b = 0) : Pc lo hi o' w cs p := by obtain ⟨vN, vE, e, h⟩ := h; exact ⟨vN, vE, e, h.mv0 hz⟩
theorem Pc.rd {lo hi : Nat} {cs : List Value} (h : Pc lo hi o w cs p) : Rp.rd o w cs p := by
 obtain ⟨vN, vE, rfl, h⟩ := h
 exact ⟨_, _, rfl, h.rdN, h.rdE⟩
def Prs (B k : Nat) (o : Tg) (w : World) (gs : List Qv) (ps : List a_) : Prop :=
  gs.length = ps.length ∧ ∃ lo hi : Nat → Nat, (∀ (i : Nat) g p, gs[i]? = some g → ps[i]? = some p → Pc (lo i) (hi i) o w g.cs p) ∧
    (∀ i, i < ps.length → B ≤ lo i ∧ hi i ≤ w.heap.size) ∧ (∀ i j, i < j → j < ps.length → hi i ≤ lo j) ∧ ∀ i b, i < ps.length → lo i ≤ b → b < hi i → o b ≠ k
theorem Prs.nil (B k : Nat) (o : Tg) (w : World) : Prs B k o w [] [] := ⟨rfl, fun _ => 0, fun _ => 0, fun i g p h => by simp at h, fun i h => by simp at h, fun i j _ h => by simp at h, fun i b h => by simp at h⟩
theorem Prs.stp (h : Prs B k o w gs ps) (s : Stp t o w o' w') (ht : t ≠ 0 := by decide) : Prs B k o' w' gs ps := by
 obtain ⟨h0, lo, hi, h1, h2, h3, h4⟩ := h
 refine ⟨h0, lo, hi, fun i g p a b => (h1 i g p a b).stp s ht, fun i hi' => ⟨(h2 i hi').1, Nat.le_trans (h2 i hi').2 s.size⟩, h3, fun i b hi' a c => ?_⟩
 rw [s.own b (Nat.lt_of_lt_of_le c (h2 i hi').2)]
 exact h4 i b hi' a c
theorem Prs.push {cs : List Value} (h : Prs B k o w gs ps) (s : Stp t o w o' w') (ht : t ≠ 0) (hp : Pc w.heap.size w'.heap.size o' w' cs p) (hk : ∀ b, w.heap.size ≤ b → b < w'.heap.size → o' b ≠ k) (hB : B ≤ w.heap.size) :
  Prs B k o' w' (gs ++ [⟨cs⟩]) (ps ++ [p]) := by
 have hs := h.stp s ht
 obtain ⟨h0, lo, hi, h1, h2, h3, h4⟩ := h
 have h1' : ∀ (i : Nat) g p, gs[i]? = some g → ps[i]? = some p → Pc (lo i) (hi i) o' w' g.cs p := fun i g p a b => (h1 i g p a b).stp s ht
 have h4' : ∀ i b, i < ps.length → lo i ≤ b → b < hi i → o' b ≠ k := fun i b hi' a c => by
  rw [s.own b (Nat.lt_of_lt_of_le c (h2 i hi').2)]
  exact h4 i b hi' a c
 clear hs
 refine ⟨by simp [h0], fun i => if i < ps.length then lo i else w.heap.size, fun i => if i < ps.length then hi i else w'.heap.size, fun i g q a b => ?_, fun i hi' => ?_, fun i j hij hj => ?_, fun i b hi' a c => ?_⟩
 ·by_cases hl : i < ps.length
  ·rw [List.getElem?_append_left (by omega)] at a
   rw [List.getElem?_append_left hl] at b
   simp only [if_pos hl]
   exact h1' i g q a b
  ·have hi2 : i = ps.length := by have := (List.getElem?_eq_some_iff.1 b).1; simp at this; omega
   subst hi2
   rw [← h0, List.getElem?_append_right (by omega)] at a
   rw [List.getElem?_append_right (by omega)] at b
   simp at a b
   subst a; subst b
   simp only [if_neg hl]
   exact hp
 ·by_cases hl : i < ps.length
  ·simp only [if_pos hl]
   exact ⟨(h2 i hl).1, Nat.le_trans (h2 i hl).2 s.size⟩
  ·simp only [if_neg hl]
   exact ⟨hB, Nat.le_refl _⟩
 ·simp only [List.length_append, List.length_singleton] at hj
  have hl : i < ps.length := by omega
  simp only [if_pos hl]
  by_cases hl2 : j < ps.length
  ·simp only [if_pos hl2]
   exact h3 i j hij hl2
  ·simp only [if_neg hl2]
   exact (h2 i hl).2
 ·by_cases hl : i < ps.length
  ·simp only [if_pos hl] at a c
   exact h4' i b hl a c
  ·simp only [if_neg hl] at a c
   exact hk b a c
theorem Prs.rc (h : Prs B k o w gs ps) (r : Rtc t o o') (ht : t ≠ 0) (hk : ∀ b, o b ≠ k → o' b ≠ k) : Prs B k o' w gs ps := by
 obtain ⟨h0, lo, hi, h1, h2, h3, h4⟩ := h
 exact ⟨h0, lo, hi, fun i g p a b => (h1 i g p a b).mv0 fun b hb => r.zero ht hb, h2, h3, fun i b a c d => hk b (h4 i b a c d)⟩
theorem Prs.rdl {e : TypeId} (h : Prs B k o w gs ps) (hs : Ow B e k o w v gs) : RdL zt w v ps := by
 obtain ⟨a, c, rfl, l1, l2, h4⟩ := hs.z
 obtain ⟨h0, lo, hi, h1, _⟩ := h
 refine ⟨a, c, by rw [h0], by rw [← h0]; exact l1, l2, fun i x hx => ?_⟩
 have hi' : i < gs.length := by have := (List.getElem?_eq_some_iff.1 hx).1; omega
 obtain ⟨b, off, cs, ha, hb, hlt, hc, hd, _⟩ := h4 i gs[i] (List.getElem?_eq_getElem hi')
 subst hd
 exact ⟨b, off, _, ha, hb, hlt, hc, Rp.z (h1 i gs[i] x (List.getElem?_eq_getElem hi') hx).rd⟩
theorem Prs.ix (h : Prs B k o w gs ps) {i : Int} (hx : ix ps i = some p) : ∃ g, Go.Proofs.YtdbbeldgdgonfaaGreat.ix gs i = some g ∧ ∃ vN vE, g.cs = [.int .i64 p.Labels, .int .i64 p.Degree, vN, vE] ∧ RdL o w vN p.Nodes ∧ RdL o w vE p.Edges := by
 obtain ⟨h0, _, h2⟩ := eX_ hx
 obtain ⟨hl, lo, hi, h1, _⟩ := h
 have hi' : i.toNat < gs.length := by have := (List.getElem?_eq_some_iff.1 h2).1; omega
 have hg : gs[i.toNat]? = some gs[i.toNat] := List.getElem?_eq_getElem hi'
 obtain ⟨vN, vE, e, hq⟩ := h1 i.toNat _ p hg h2
 exact ⟨gs[i.toNat], by unfold Go.Proofs.YtdbbeldgdgonfaaGreat.ix; rw [if_pos h0]; exact hg, vN, vE, e, hq.rdN, hq.rdE⟩
theorem pushTwo {g : Qv} (h : Prs B k o w (gs ++ [g]) (ps ++ [p])) {ys : List a_} (hy : Go.Proofs.YtdbbeldgdgonfaaGreat.push ps p = some ys) : Go.Proofs.YtdbbeldgdgonfaaGreat.push gs g = some (gs ++ [g]) ∧ ys = ps ++ [p] := by
 obtain ⟨h1, rfl⟩ := hh_ hy
 have hl : gs.length = ps.length := by have := h.1; simpa using this
 exact ⟨by unfold Go.Proofs.YtdbbeldgdgonfaaGreat.push; rw [if_pos (by rw [hl]; exact h1)], rfl⟩
theorem Prs.pushV (h : Prs B k o w gs ps) {ys : List a_} (hy : Go.Proofs.YtdbbeldgdgonfaaGreat.push ps p = some ys) (g : Qv) : Go.Proofs.YtdbbeldgdgonfaaGreat.push gs g = some (gs ++ [g]) ∧ ys = ps ++ [p] := by
 obtain ⟨h1, rfl⟩ := hh_ hy
 exact ⟨by unfold Go.Proofs.YtdbbeldgdgonfaaGreat.push; rw [if_pos (by rw [h.1]; exact h1)], rfl⟩
end
end

section
set_option maxRecDepth 100000
set_option maxHeartbeats 2000000
open Go.RowKit
theorem af_ : (Tryz.prog.info? 28).map (·.size) = some 4 := by kernel_rfl
def mH_ (oo : Tg) (t : Nat) (w : World) (r : a_ × Yl × Bool) : Ending → World → Prop := fun e w' => ∃ (a : List Value) (c : Value) (o' : Tg), e = .returned (.tuple #[.agg a.toArray, c, .bool r.2.2]) ∧ Rp.rd o' w' a r.1 ∧ D2 41 3 o' w' (a.getD 2 undef) (a.getD 3 undef) r.1.Nodes r.1.Edges ∧ Ow w.heap.size 3 t o' w' c r.2.1 ∧ Keeps w w' ∧ ∀ b, b < w.heap.size → o' b = oo b
theorem ng_ (fuel : Nat) (w : World) (oo : Tg) (t : Nat) (ht : 2 ≤ t) (h9 : List Value) (E : a_) (e4 : Rp.rd oo w h9 E) (r : a_ × Yl × Bool) (hF : eI_ fuel E = some r) :
    Calls Tryz.prog 72 #[.agg h9.toArray] w (mH_ oo t w r) := by
 unfold eI_ at hF; replace e4 := Rp.col e4; obtain ⟨b6, b7, rfl, y, A⟩ := e4; have hB : Bs oo (col oo) w w := Bs.start _ _; refine h_ (n := 41) (vs := [(.agg #[(ZI E.Labels), (ZI E.Degree), b6, b7])]) Tryz.func72 rfl rfl ?_; generalize col oo = o at *; refine Zq (Zo ?_); refine bb_ (o := o) w.heap.size 11 hB.keeps.size (cs := [(ZI E.Labels), (ZI E.Degree), b6, b7]) rfl rfl ?_; intro l5 n5 T x e5; replace y := y.stp e5; replace A := A.stp e5; replace hB := hB.stp e5; refine Zo ?_; refine aR_ (o := l5) w.heap.size 12 hB.keeps.size (cs := [(ZI 0), (ZI 0), (.slice none 0 0), (.slice none 0 0)]) Tryz.zeroValue28 rfl ?_; intro a6 a7 C j a3; replace y := y.stp a3; replace A := A.stp a3; replace x := x.stp a3; replace hB := hB.stp a3; refine Za rfl (Za rfl (Ze [(1, ZP T), (2, ZP C)] (nx (b_ (Zq (Zv (r_ rfl Tryz.underlying28 rfl Tryz.sizeOf3) (Zv (e_ rfl Tryz.isAgg3 (x.cell rfl)) (Zv (dI_ rfl rfl) (Zm rfl ?_))))))))); obtain ⟨b8, U, hF⟩ := bind_some hF; refine aK_ 4 (fun e6 a8 => Fr e6 41 [(1, ZP T), (2, ZP C), (15, (.bool b8))] ∧ Keeps a7 a8) ?_ ?_; all_goals simp only [List.take_succ_cons, List.take_zero, List.drop_succ_cons, List.drop_zero]
 ·have kp : Keeps a7 a7 := Keeps.refl _; rcases Bool.eq_false_or_eq_true (E.Degree == 4) with F | F
  ·rw [if_pos F] at U; refine o_ (r_ rfl Tryz.underlying28 rfl Tryz.sizeOf3) (by decide) ⟨_, rfl, (Zb F)⟩ (o_ (e_ rfl Tryz.isAgg3 (x.cell rfl)) (by decide) ⟨_, rfl, (Zb F)⟩ (o_ (dJ_ rfl rfl) (by decide) ⟨_, rfl, (Zb F)⟩ (Zv (P_ (Zb F) rfl) ?_))); have R := Zj U; refine Ze [(1, ZP T), (2, ZP C), (15, (.bool (decide (E.Labels > 6))))] ?_; subst R; refine q_ (fun a ha => ⟨ha, kp⟩)
  ·rw [if_neg (by rw [F]; decide)] at U; refine s_ rfl rfl (by rw [F]; rfl) (by decide) ?_; refine s_ rfl rfl (by rw [F]; rfl) (by decide) ?_; refine s_ rfl rfl (by rw [F]; rfl) (by decide) ?_; refine Zv (K_ (Zb F) rfl) ?_; have R := Zj U; refine Ze [(1, ZP T), (2, ZP C), (15, (.bool false))] ?_; subst R; refine q_ (fun a ha => ⟨ha, kp⟩)
 rintro l6 a8 ⟨ha, e7⟩; have V := e7.stp 999 a6; replace x := x.stp V; replace y := y.stp V; replace A := A.stp V; replace j := j.stp V; replace hB := hB.stp V; refine bi_ ha ?_; refine Ze [(1, ZP T), (2, ZP C), (15, (.bool b8))] (nx ?_); refine m_ rfl (fun a9 => ?_) (fun a9 => ?_)
 ·rw [if_pos a9] at hF; refine Zq (Zv (bQ_ (vs := []) (cs := [(ZI 0), (ZI 0), (.slice none 0 0), (.slice none 0 0)]) trivial (by kernel_rfl)) ?_); refine au_ trivial ?_; refine ac_ j rfl rfl rfl af_ (by intro c hc; simp only [List.mem_cons, List.not_mem_nil, or_false] at hc; rcases hc with rfl | rfl | rfl | rfl <;> first | rfl) ?_; intro l7 e8 e9; replace hB := hB.stp e9; refine Za rfl (Za rfl (Ze [(2, ZP C), (3, (.slice none 0 0)), (4, (.bool false))] (nx (k_ (A_ ?_))))); have f0 := Zj hF; subst f0; refine E_ (P := Tryz.prog) (vs := [(.agg #[(ZI 0), (ZI 0), (.slice none 0 0), (.slice none 0 0)]), (.slice none 0 0), (.bool false)]) Tryz.results72 ⟨⟨_, rfl, aQ_ Tryz.isAgg28 Tryz.sizeOf28 rfl e8.cells⟩, rfl, rfl, trivial⟩ ?_; exact ⟨[(ZI 0), (ZI 0), (.slice none 0 0), (.slice none 0 0)], _, rt oo a6 w.heap.size 9 t, rfl, ⟨_, _, rfl, RdL.nil _ _, RdL.nil _ _⟩, (D2.nil _ _ _ _), (Ow.nil _ _ _ _ _), hB.keeps, az_ _ _ _ _ _⟩
 ·rw [if_neg (by rw [a9]; decide)] at hF; refine f_ (Zn (Zv (U_ rfl Tryz.isAgg28 Tryz.sizeOf28 rfl x.cells) ?_)); obtain ⟨b9, c0, hF⟩ := bind_some hF; refine Zo ?_; refine p_ (jC_ fuel a8 a6 13 (by decide) _ E (⟨_, _, rfl, y, A⟩) b9 c0) Tryz.call102 ⟨rfl, trivial⟩ ?_; rintro l8 f1 ⟨f2, f3, rfl, f4, f5, f6⟩; have W := f5.stp' 13 f6; refine ⟨_, rfl, ?_⟩; replace y := y.stp W; replace A := A.stp W; replace x := x.stp W; replace j := j.stp W; replace hB := hB.stp W; obtain ⟨f7, f8, f9⟩ := rc_ f4.z; obtain ⟨c1, c2, hF⟩ := bind_some hF; refine Zo ?_; refine p_ (ga_ fuel f1 f3 14 (by decide) f2 f7 b9 f8 f9 c1 c2) Tryz.call103 ⟨rfl, trivial⟩ ?_; rintro l9 g0 ⟨m0, m1, g1, rfl, b0, b1, g2, g3⟩; have X := g2.stp' 14 g3; replace b0 := b0.mono hB.keeps.size; replace b1 := b1.mono hB.keeps.size; refine ⟨_, rfl, ?_⟩; replace y := y.stp X; replace A := A.stp X; replace x := x.stp X; replace j := j.stp X; replace hB := hB.stp X; obtain ⟨B, c3, hF⟩ := bind_some hF; refine Zo ?_; refine p_ (hR_ fuel g0 g1 16 (by decide) _ c1 (b1.z b0) B c3) Tryz.call97 ⟨rfl, trivial⟩ ?_; rintro m2 m3 ⟨K, D, g4, rfl, f, g, g5, g6⟩; have Y := g5.stp' 16 g6; replace f := f.mono hB.keeps.size; have k := g.rd; refine ⟨_, rfl, ?_⟩; replace y := y.stp Y; replace A := A.stp Y; replace x := x.stp Y; replace j := j.stp Y; replace hB := hB.stp Y; refine Zm rfl (Zv (B_ rfl rfl) (Zv (B_ rfl rfl) (Zo ?_))); refine aR_ (o := g4) w.heap.size 17 hB.keeps.size (cs := [(.slice none 0 0)]) Tryz.zeroValue41 rfl ?_; intro a4 m4 L g7 O; replace y := y.stp O; replace A := A.stp O; replace f := f.stp O; replace k := k.stp O; replace g := g.stp O; replace x := x.stp O; replace j := j.stp O; replace hB := hB.stp O; refine au_ trivial ?_; refine ce_ g7 rfl rfl (of_decide_eq_true rfl) Tryz.sizeOf41 f.cells1 f.one1 ?_; intro c4 m Q; replace y := y.stp Q; replace A := A.stp Q; replace f := f.stp Q; replace k := k.stp Q; replace g := g.stp Q; replace x := x.stp Q; replace j := j.stp Q; replace hB := hB.stp Q; replace m : Bx w.heap.size 17 a4 c4 L 41 [K] := m; refine Za rfl (Ze [(1, ZP T), (2, ZP C), (5, ZP L), (6, D)] (nx (b_ (Zq (Zv (e_ rfl Tryz.isAgg41 (m.cell rfl)) (Zv (bB_ rfl f Tryz.underlying41) ?_)))))); obtain ⟨c5, c6, hF⟩ := bind_some hF; refine Zo ?_; refine p_ (fj_ c4 (B.1.length : Int) 1 8 c5 c6) Tryz.call62 ⟨rfl, rfl, rfl, trivial⟩ ?_; rintro m5 S ⟨rfl, g8⟩; have M := g8.stp 999 a4; refine ⟨_, rfl, ?_⟩; replace k := k.stp M; replace g := g.stp M; replace f := f.stp M; replace x := x.stp M; replace y := y.stp M; replace A := A.stp M; replace j := j.stp M; replace m := m.stp M
  replace hB := hB.stp M; refine Zv (bC_ rfl) (Ze [(1, ZP T), (2, ZP C), (5, ZP L), (6, D), (27, (.bool (!c5)))] (nx ?_)); refine m_ rfl (fun b2 => ?_) (fun b2 => ?_)
  ·rw [if_pos b2] at hF; refine Zq (Zv (bQ_ (vs := []) (cs := [(ZI 0), (ZI 0), (.slice none 0 0), (.slice none 0 0)]) trivial (by kernel_rfl)) ?_); refine au_ trivial ?_; refine ac_ j rfl rfl rfl af_ (by intro c hc; simp only [List.mem_cons, List.not_mem_nil, or_false] at hc; rcases hc with rfl | rfl | rfl | rfl <;> first | rfl) ?_; intro m6 g9 h0; replace hB := hB.stp h0; refine Za rfl (Za rfl (Ze [(2, ZP C), (3, (.slice none 0 0)), (4, (.bool false))] (nx (k_ (A_ ?_))))); have h1 := Zj hF; subst h1; refine E_ (P := Tryz.prog) (vs := [(.agg #[(ZI 0), (ZI 0), (.slice none 0 0), (.slice none 0 0)]), (.slice none 0 0), (.bool false)]) Tryz.results72 ⟨⟨_, rfl, aQ_ Tryz.isAgg28 Tryz.sizeOf28 rfl g9.cells⟩, rfl, rfl, trivial⟩ ?_; exact ⟨[(ZI 0), (ZI 0), (.slice none 0 0), (.slice none 0 0)], _, rt oo a4 w.heap.size 9 t, rfl, ⟨_, _, rfl, RdL.nil _ _, RdL.nil _ _⟩, (D2.nil _ _ _ _), (Ow.nil _ _ _ _ _), hB.keeps, az_ _ _ _ _ _⟩
  ·rw [if_neg (by rw [b2]; decide)] at hF; refine f_ (Zn (Zv (e_ rfl Tryz.isAgg41 (m.cell rfl)) (Zv (bB_ rfl f Tryz.underlying41) (Zv (gc_ (vs := [(ZP T), (ZP L)]) ⟨rfl, rfl, trivial⟩) ?_)))); obtain ⟨c7, c8, hF⟩ := bind_some hF; refine Zo ?_; replace g := g.dw; refine p_ (hY_ fuel S a4 19 (by decide) (B.1.length : Int) 2 _ (fun b3 => bG_ fuel b3 E B.1) (show FnV Tryz.prog S (.func (.func 104) #[] #[(ZP T), (ZP L)]) (fun b3 => bG_ fuel b3 E B.1) from ⟨_, _, rfl, Tryz.call104, fun ww vs xx rr kk hok hG => by (obtain ⟨m7, rfl, h2⟩ := hok; exact kQ_ fuel ww _ xx h2 T _ E ((x.cells).keep kk) (Rp.keep ((show Rp.rd zt S [(ZI E.Labels), (ZI E.Degree), b6, b7] (E : a_) from ⟨_, _, rfl, y.z, A.z⟩)) kk) L _ B.1 ((m.cells).keep kk) (Rp.keep ((show Rp.rd zt S [K] (B.1 : Yl) from iL_ f.z)) kk) rr hG)⟩) c7 c8) Tryz.call98 ⟨rfl, rfl, rfl, trivial⟩ ?_; rintro m8 m9 ⟨G, b4, h3, rfl, q, s, h4, h5⟩; have N := h4.stp' 19 h5; have h6 : ∀ c, G.ownBlock = some c → S.heap.size ≤ c := fun c hc => (q.ltw c hc).1; have h7 : ∀ (i : Nat) (u : Hv) c, b4[i]? = some u → u.v.ownBlock = some c → S.heap.size ≤ c := fun i u c a b => (s.lt i u c a b).1; replace q := q.mono hB.keeps.size; replace s := s.mono hB.keeps.size; refine ⟨_, rfl, ?_⟩; replace k := k.stp N; replace g := g.stp N; replace f := f.stp N; replace x := x.stp N; replace y := y.stp N; replace A := A.stp N; replace j := j.stp N; replace m := m.stp N; replace hB := hB.stp N; refine Za rfl (Ze [(1, ZP T), (2, ZP C), (5, ZP L), (6, D), (7, G)] (nx (b_ ?_))); refine hN_ (o := h3) [(1, ZP T), (2, ZP C), (5, ZP L), (6, D), (7, G)] [1, 2, 5, 6, 7] [33, 34, 35, 36, 37, 38, 39, 40, 1000008, 3, 4] [[], [0], [], [2], [], [], [1, 3, 4, 5], [], [6], [7], []] [none, none, none, none, none, none, none, none, none, none, none] [999, 999, 999, 999, 999, 999, 999, 999, 12, 999, 999] [0, 0, 0, 0, 0, 0, 0, 0, 12, 0, 0] [12, 999] [8] [12] [[0], [0], [0], [0], [0], [0], [0], [], [0], [], []] [false, false, false, false, false, false, false, false, true, false, false] [fun v _ _ => v = K, fun v _ _ => v = (ZI (B.1.length : Int)), fun v _ _ => v = (.pointer (some ⟨T, 0 + 1, none⟩)), fun v _ _ => v = (ZI E.Degree), fun v _ _ => v = D, fun v _ _ => v = G, fun v _ _ => v = (.agg #[(ZI (B.1.length : Int)), (ZI E.Degree), D, G]), fun v _ _ => v = K, fun _ o h8 => Bx w.heap.size 12 o h8 C 28 [(ZI (B.1.length : Int)), (ZI E.Degree), D, G], fun v _ _ => v = K, fun v _ _ => v = (.bool true)] [fun _ o h8 => Bx w.heap.size 12 o h8 C 28 [(ZI 0), (ZI 0), (.slice none 0 0), (.slice none 0 0)]] (fun a1 a2 => Bs oo a1 w a2 ∧ RdL a1 a2 D (B.2 : Yk) ∧ Dw 0 S.heap.size 41 3 a1 a2 D (B.2 : Yk) ∧ Ow w.heap.size 41 19 a1 a2 G b4 ∧ Rws w.heap.size 3 20 a1 a2 b4 c7 ∧ Bx w.heap.size 11 a1 a2 T 28 [(ZI E.Labels), (ZI E.Degree), b6, b7] ∧ RdL a1 a2 b6 (E.Nodes : Yk) ∧ RdL a1 a2 b7 (E.Edges : Yk) ∧ Bx w.heap.size 17 a1 a2 L 41 [K] ∧ Ow w.heap.size 3 16 a1 a2 K (B.1 : Yl)) G_ (by kernel_rfl) rfl ⟨rfl, rfl, rfl, rfl, rfl, trivial⟩ ⟨hB, k, g, q, s, x, y, A, m, f⟩ ⟨j, trivial⟩ ?_ ⟨u_ _, u_ _, u_ _, u_ _, u_ _, u_ _, u_ _, u_ _, fun _ _ _ _ _ _ n0 hb h hs => h.stp hs (Ne.symm hb), u_ _, u_ _, trivial⟩ ⟨fun _ _ _ _ _ _ n0 hb h hs => h.stp hs (Ne.symm hb), trivial⟩ ⟨trivial, trivial, trivial, trivial, trivial, trivial, trivial, trivial, fun _ _ _ _ h => h, trivial, trivial, trivial⟩ ?_ ?_
   ·rintro i0 n6 n7 n8 n9 b5 ⟨hB, k, g, q, s, x, y, A, m, f⟩ H; have b5 : i0 = 12 ∨ i0 = 999 := by simpa using b5
    rcases b5 with rfl | rfl
    all_goals exact ⟨hB.stp H (by decide), k.stp H (by decide), g.stp H (by decide), q.stp H (by decide) (by decide), s.stp H (by decide) (by decide), x.stp H (by decide), y.stp H (by decide), A.stp H (by decide), m.stp H (by decide), f.stp H (by decide) (by decide)⟩
   ·refine ⟨?_, ?_, ?_, ?_, ?_, ?_, ?_, ?_, ?_, ?_, ?_, trivial⟩
    ·rintro n1 n2 i1 ha ⟨hB, k, g, q, s, x, y, A, m, f⟩ ⟨j, -⟩ -; refine Zs ha ?_; refine g_ (e_ rfl Tryz.isAgg41 (m.cell rfl)) ?_; exact Zx rfl
    ·rintro i2 i3 i4 ha ⟨hB, k, g, q, s, x, y, A, m, f⟩ ⟨j, -⟩ ⟨c9, -⟩; have ha := Fr.cons (d := 33) ha c9; refine Zs ha ?_; refine g_ (bB_ rfl f Tryz.underlying41) ?_; exact Zx rfl
    ·rintro i5 i6 i7 ha ⟨hB, k, g, q, s, x, y, A, m, f⟩ ⟨j, -⟩ -; refine Zs ha ?_; refine g_ (r_ rfl Tryz.underlying28 rfl Tryz.sizeOf3) ?_; exact Zx rfl
    ·rintro i8 i9 j0 ha ⟨hB, k, g, q, s, x, y, A, m, f⟩ ⟨j, -⟩ ⟨d0, -⟩; have ha := Fr.cons (d := 35) ha d0; refine Zs ha ?_; refine g_ (e_ rfl Tryz.isAgg3 (x.cell rfl)) ?_; exact Zx rfl
    ·rintro j1 j2 j3 ha ⟨hB, k, g, q, s, x, y, A, m, f⟩ ⟨j, -⟩ -; refine Zs ha ?_; refine g_ (j_ rfl) ?_; exact Zx rfl
    ·rintro j4 j5 j6 ha ⟨hB, k, g, q, s, x, y, A, m, f⟩ ⟨j, -⟩ -; refine Zs ha ?_; refine g_ (j_ rfl) ?_; exact Zx rfl
    ·rintro j7 j8 j9 ha ⟨hB, k, g, q, s, x, y, A, m, f⟩ ⟨j, -⟩ ⟨d1, d2, d3, d4, -⟩; have ha := Fr.cons (d := 34) ha d1; have ha := Fr.cons (d := 36) ha d2; have ha := Fr.cons (d := 37) ha d3; have ha := Fr.cons (d := 38) ha d4; refine Zs ha ?_; refine g_ (bQ_ (vs := [(0, (ZI (B.1.length : Int))), (1, ZI E.Degree), (2, D), (3, G)]) (cs := [(ZI (B.1.length : Int)), (ZI E.Degree), D, G]) ⟨rfl, rfl, rfl, rfl, rfl, rfl, rfl, rfl, trivial⟩ (by obtain ⟨_, _, n3⟩ := k.form; rw [n3]; obtain ⟨_, _, n4⟩ := q.form; rw [n4]; kernel_rfl)) ?_; exact Zx rfl
    ·rintro k0 k1 k2 ha ⟨hB, k, g, q, s, x, y, A, m, f⟩ - -; refine Zs ha ?_; refine g_ (e_ rfl Tryz.isAgg41 (m.cell rfl)) ?_; exact Zx rfl
    ·rintro k3 k4 k5 ha ⟨hB, k, g, q, s, x, y, A, m, f⟩ ⟨j, -⟩ ⟨d5, -⟩; have ha := Fr.cons (d := 39) ha d5; refine Zs ha ?_; refine ac_ j rfl rfl rfl af_ (by intro c hc; simp only [List.mem_cons, List.not_mem_nil, or_false] at hc; rcases hc with rfl | rfl | rfl | rfl <;> first | rfl | exact k.one1 | exact q.one1) ?_; intro k6 d6 d7; exact ⟨_, d7, d6⟩
    ·rintro k7 k8 k9 ha ⟨hB, k, g, q, s, x, y, A, m, f⟩ - ⟨d8, -⟩; have ha := Fr.cons (d := 40) ha d8; refine Zs ha ?_; refine g_ (aj_ rfl) ?_; exact Zx rfl
    ·rintro l0 l1 l2 ha ⟨hB, k, g, q, s, x, y, A, m, f⟩ - -; refine Zs ha ?_; refine g_ (aj_ rfl) ?_; exact Zx rfl
   rintro Z l3 l4 ha ⟨hB, k, g, q, s, x, y, A, m, f⟩ ⟨-, -, -, -, -, -, -, -, a0, d9, e0, -⟩; have ha := Fr.cons (d := 3) ha d9; have ha := Fr.cons (d := 4) ha e0; refine bi_ ha ?_; simp only [List.length_cons, List.length_nil, Nat.zero_add, Nat.reduceAdd, List.drop_succ_cons, List.drop_zero]; refine Ze [(2, ZP C), (3, K), (4, (.bool true))] (nx (k_ ?_)); have a5 := Dw.of q s (by decide) (by decide) (by decide) h6 h7; have I := dF_ 19 Z; have J := dF_ 20 (frz 19 Z); replace f := (f.rc I (by decide) (by decide)).rc J (by decide) (by decide); replace a0 := (a0.rc I (by decide)).rc J (by decide); replace k := (k.rc I (by decide)).rc J (by decide); replace g := (g.rc I (by decide)).rc J (by decide); replace hB := (hB.rc I (by decide)).rc J (by decide); clear I J; generalize frz 20 (frz 19 Z) = e1 at *; have e2 := a5.rd; have e3 := Zj hF; subst e3; refine E_ (P := Tryz.prog) (vs := [(.agg #[(ZI (B.1.length : Int)), (ZI E.Degree), D, G]), K, (.bool true)]) Tryz.results72 ⟨⟨_, rfl, aQ_ Tryz.isAgg28 Tryz.sizeOf28 rfl a0.cells⟩, rfl, rfl, trivial⟩ ?_; exact ⟨[(ZI (B.1.length : Int)), (ZI E.Degree), D, G], _, rt oo e1 w.heap.size 16 t, rfl, ⟨_, _, rfl, k.rt hB 16 t (by decide), e2.rt hB 16 t (by decide)⟩, (D2.of g a5).rt hB 16 t (by decide), f.rt hB (by decide) t, hB.keeps, az_ _ _ _ _ _⟩
def lh_ (oo : Tg) (t : Nat) (w : World) (r : a_ × Yl × Yl × Bool) : Ending → World → Prop := fun e w' => ∃ (a : List Value) (c : Value) (d : Value) (o' : Tg), e = .returned (.tuple #[.agg a.toArray, c, d, .bool r.2.2.2]) ∧ Rp.rd o' w' a r.1 ∧ D2 41 3 o' w' (a.getD 2 undef) (a.getD 3 undef) r.1.Nodes r.1.Edges ∧ Ow w.heap.size 3 t o' w' c r.2.1 ∧ Of 3 o' w' d r.2.2.1 ∧ Keeps w w' ∧ ∀ b, b < w.heap.size → o' b = oo b
theorem lb_ (fuel : Nat) (w : World) (oo : Tg) (t : Nat) (ht : 2 ≤ t) (c4 : List Value) (D : a_) (c7 : Rp.rd zt w c4 D) (r : a_ × Yl × Yl × Bool) (hF : dm_ fuel D = some r) :
    Calls Tryz.prog 46 #[.agg c4.toArray] w (lh_ oo t w r) := by
 unfold dm_ at hF; obtain ⟨c5, c6, rfl, c8, c9⟩ := c7; have hB : Bs oo (col oo) w w := Bs.start _ _; refine h_ (n := 32) (vs := [(.agg #[(ZI D.Labels), (ZI D.Degree), c5, c6])]) Tryz.func46 rfl rfl ?_; generalize col oo = o at *; refine Zq (Zo ?_); refine bb_ (o := o) w.heap.size 11 hB.keeps.size (cs := [(ZI D.Labels), (ZI D.Degree), c5, c6]) rfl rfl ?_; intro d0 e3 d1 Y d2; replace hB := hB.stp d2; refine Zo ?_; refine aR_ (o := d0) w.heap.size 12 hB.keeps.size (cs := [(ZI 0), (ZI 0), (.slice none 0 0), (.slice none 0 0)]) Tryz.zeroValue28 rfl ?_; intro Z a0 m b L; replace Y := Y.stp L; replace hB := hB.stp L; refine Za rfl (Za rfl (Za rfl (Ze [(1, ZP d1), (2, ZP m)] (Zn (Zv (U_ rfl Tryz.isAgg28 Tryz.sizeOf28 rfl Y.cells) ?_))))); obtain ⟨u, M, hF⟩ := bind_some hF; refine Zo ?_; refine p_ (mF_ fuel a0 Z 13 (by decide) _ D (⟨_, _, rfl, (c8.keep hB.keeps), (c9.keep hB.keeps)⟩) u M) Tryz.call71 ⟨rfl, trivial⟩ ?_; rintro d3 N ⟨d4, v, E, rfl, a1, O, Q, a, a2, a3⟩; have R := a2.stp' 13 a3; replace a := a.mono hB.keeps.size; refine ⟨_, rfl, ?_⟩; obtain ⟨a4, a5, rfl, x, y⟩ := a1; replace O : Dz 41 3 E N a4 u.1.Nodes := O; replace Q : Dz 41 3 E N a5 u.1.Edges := Q; replace b := b.stp R; replace hB := hB.stp R; refine Zm rfl (Zv (B_ rfl rfl) (Zv (B_ rfl rfl) (Zv (B_ rfl rfl) (Zo ?_)))); refine aR_ (o := E) w.heap.size 14 hB.keeps.size (cs := [(ZI 0), (ZI 0), (.slice none 0 0), (.slice none 0 0)]) Tryz.zeroValue28 rfl ?_; intro S d5 T a6 A; replace x := x.stp A; replace y := y.stp A; replace a := a.stp A; replace b := b.stp A; replace hB := hB.stp A; refine au_ trivial ?_; refine ac_ a6 rfl rfl rfl af_ (by intro c hc; simp only [List.mem_cons, List.not_mem_nil, or_false] at hc; rcases hc with rfl | rfl | rfl | rfl <;> first | rfl | exact x.one1 | exact y.one1) ?_; intro a7 a8 B; replace x := x.stp B; replace y := y.stp B; replace a := a.stp B; replace b := b.stp B; replace hB := hB.stp B; refine Za rfl (Za rfl (Ze [(2, ZP m), (6, ZP T), (7, v), (8, (.bool u.2.2))] (nx (b_ (Zq (Zm rfl (Zv (bC_ rfl) (Ze [(2, ZP m), (6, ZP T), (7, v), (18, (.bool (!u.2.2)))] (nx ?_))))))))); refine m_ rfl (fun F => ?_) (fun F => ?_)
 ·rw [if_pos F] at hF; refine Zq (Zv (bQ_ (vs := []) (cs := [(ZI 0), (ZI 0), (.slice none 0 0), (.slice none 0 0)]) trivial (by kernel_rfl)) ?_); refine au_ trivial ?_; refine ac_ b rfl rfl rfl af_ (by intro c hc; simp only [List.mem_cons, List.not_mem_nil, or_false] at hc; rcases hc with rfl | rfl | rfl | rfl <;> first | rfl) ?_; intro d6 a9 b0; replace hB := hB.stp b0; refine Za rfl (Za rfl (Za rfl (Ze [(2, ZP m), (3, (.slice none 0 0)), (4, (.slice none 0 0)), (5, (.bool false))] (nx (k_ (A_ ?_)))))); have b1 := Zj hF; subst b1; refine E_ (P := Tryz.prog) (vs := [(.agg #[(ZI 0), (ZI 0), (.slice none 0 0), (.slice none 0 0)]), (.slice none 0 0), (.slice none 0 0), (.bool false)]) Tryz.results46 ⟨⟨_, rfl, aQ_ Tryz.isAgg28 Tryz.sizeOf28 rfl a9.cells⟩, rfl, rfl, rfl, trivial⟩ ?_; exact ⟨[(ZI 0), (ZI 0), (.slice none 0 0), (.slice none 0 0)], _, _, rt oo S w.heap.size 9 t, rfl, ⟨_, _, rfl, RdL.nil _ _, RdL.nil _ _⟩, (D2.nil _ _ _ _), (Ow.nil _ _ _ _ _), (Of.nil _ _ _), hB.keeps, az_ _ _ _ _ _⟩
 ·rw [if_neg (by rw [F]; decide)] at hF; refine f_ (Zn (Zv (U_ rfl Tryz.isAgg28 Tryz.sizeOf28 rfl a8.cells) ?_)); obtain ⟨i, U, hF⟩ := bind_some hF; refine Zo ?_; refine p_ (ng_ fuel a7 S 15 (by decide) _ u.1 (⟨_, _, rfl, x, y⟩) i U) Tryz.call72 ⟨rfl, trivial⟩ ?_; rintro d7 b2 ⟨d8, C, V, rfl, b3, d, k, b4, b5⟩; have G := b4.stp' 15 b5; replace k := k.mono hB.keeps.size; refine ⟨_, rfl, ?_⟩; obtain ⟨H, I, rfl, f, g⟩ := b3; replace d : D2 41 3 V b2 H I i.1.Nodes i.1.Edges := d; replace a := a.stp G; replace b := b.stp G; replace hB := hB.stp G; refine Zm rfl (Zv (B_ rfl rfl) (Zv (B_ rfl rfl) (Zv (B_ rfl rfl) (Zo ?_)))); refine aR_ (o := V) w.heap.size 16 hB.keeps.size (cs := [(ZI 0), (ZI 0), (.slice none 0 0), (.slice none 0 0)]) Tryz.zeroValue28 rfl ?_; intro W d9 X b6 q; replace a := a.stp q; replace f := f.stp q; replace d := d.stp q; replace g := g.stp q; replace k := k.stp q; replace b := b.stp q; replace hB := hB.stp q; refine au_ trivial ?_; refine ac_ b6 rfl rfl rfl af_ (by intro c hc; simp only [List.mem_cons, List.not_mem_nil, or_false] at hc; rcases hc with rfl | rfl | rfl | rfl <;> first | rfl | exact f.one1 | exact g.one1) ?_; intro e0 b7 s; replace a := a.stp s; replace f := f.stp s; replace d := d.stp s; replace g := g.stp s; replace k := k.stp s; replace b := b.stp s; replace hB := hB.stp s; refine Za rfl (Za rfl (Ze [(2, ZP m), (7, v), (8, (.bool i.2.2)), (9, ZP X), (10, C)] (nx (b_ (Zq (Zm rfl (Zv (bC_ rfl) (Ze [(2, ZP m), (7, v), (9, ZP X), (10, C), (27, (.bool (!i.2.2)))] (nx ?_))))))))); refine m_ rfl (fun J => ?_) (fun J => ?_)
  ·rw [if_pos J] at hF; refine Zq (Zv (bQ_ (vs := []) (cs := [(ZI 0), (ZI 0), (.slice none 0 0), (.slice none 0 0)]) trivial (by kernel_rfl)) ?_); refine au_ trivial ?_; refine ac_ b rfl rfl rfl af_ (by intro c hc; simp only [List.mem_cons, List.not_mem_nil, or_false] at hc; rcases hc with rfl | rfl | rfl | rfl <;> first | rfl) ?_; intro e1 b8 b9; replace hB := hB.stp b9; refine Za rfl (Za rfl (Za rfl (Ze [(2, ZP m), (3, (.slice none 0 0)), (4, (.slice none 0 0)), (5, (.bool false))] (nx (k_ (A_ ?_)))))); have c0 := Zj hF; subst c0; refine E_ (P := Tryz.prog) (vs := [(.agg #[(ZI 0), (ZI 0), (.slice none 0 0), (.slice none 0 0)]), (.slice none 0 0), (.slice none 0 0), (.bool false)]) Tryz.results46 ⟨⟨_, rfl, aQ_ Tryz.isAgg28 Tryz.sizeOf28 rfl b8.cells⟩, rfl, rfl, rfl, trivial⟩ ?_; exact ⟨[(ZI 0), (ZI 0), (.slice none 0 0), (.slice none 0 0)], _, _, rt oo W w.heap.size 9 t, rfl, ⟨_, _, rfl, RdL.nil _ _, RdL.nil _ _⟩, (D2.nil _ _ _ _), (Ow.nil _ _ _ _ _), (Of.nil _ _ _), hB.keeps, az_ _ _ _ _ _⟩
  ·rw [if_neg (by rw [J]; decide)] at hF; refine f_ (Zn (Zv (U_ rfl Tryz.isAgg28 Tryz.sizeOf28 rfl b7.cells) (Zm rfl (Zm rfl ?_)))); refine au_ trivial ?_; refine ac_ b rfl rfl rfl af_ (by intro c hc; simp only [List.mem_cons, List.not_mem_nil, or_false] at hc; rcases hc with rfl | rfl | rfl | rfl <;> first | rfl | exact f.one1 | exact g.one1) ?_; intro e2 K z; replace a := a.stp z; replace k := k.stp z; replace f := f.stp z; replace d := d.stp z; replace g := g.stp z; replace hB := hB.stp z; refine Za rfl (Za rfl (Za rfl (Ze [(2, ZP m), (3, v), (4, C), (5, (.bool true))] (nx (k_ ?_))))); replace a := a.frz_ne (j := 15) (by decide); have c1 := k.frzF; replace K := K.frz_ne (j := 15) (by decide); replace f := f.frz 15; replace d := d.frz 15 (by decide); replace g := g.frz 15; replace hB := hB.frz 15 (by decide); generalize (frz 15 W) = c2 at *; have c3 := Zj hF; subst c3; refine E_ (P := Tryz.prog) (vs := [(.agg #[(ZI i.1.Labels), (ZI i.1.Degree), H, I]), v, C, (.bool true)]) Tryz.results46 ⟨⟨_, rfl, aQ_ Tryz.isAgg28 Tryz.sizeOf28 rfl K.cells⟩, rfl, rfl, rfl, trivial⟩ ?_; exact ⟨[(ZI i.1.Labels), (ZI i.1.Degree), H, I], _, _, rt oo c2 w.heap.size 13 t, rfl, ⟨_, _, rfl, f.rt hB 13 t (by decide), g.rt hB 13 t (by decide)⟩, d.rt hB 13 t (by decide), a.rt hB (by decide) t, c1.rt hB 13 t (by decide), hB.keeps, az_ _ _ _ _ _⟩
def mk_ (oo : Tg) (t : Nat) (w : World) (r : a_ × Yl × Yl × Bool) : Ending → World → Prop := fun e w' => ∃ (a : List Value) (c : Value) (d : Value) (o' : Tg), e = .returned (.tuple #[.agg a.toArray, c, d, .bool r.2.2.2]) ∧ Pc w.heap.size w'.heap.size o' w' a r.1 ∧ Keeps w w' ∧ (∀ b, b < w.heap.size → o' b = oo b) ∧ ∀ b, w.heap.size ≤ b → o' b = 0 ∨ o' b = t
theorem lI_ (fuel : Nat) (w : World) (oo : Tg) (t : Nat) (ht : 2 ≤ t) (c : List Value) (d : a_) (f : Rp.rd zt w c d) (r : a_ × Yl × Yl × Bool) (hF : dm_ fuel d = some r) :
    Calls Tryz.prog 46 #[.agg c.toArray] w (mk_ oo t w r) := by
 refine (lb_ fuel w (fun _ => 1) t ht c d f r hF).mono ?_; rintro e w' ⟨g, i, j, a, rfl, hr, hD, -, -, hk, ho⟩; replace ho : ∀ b, b < w.heap.size → a b = 1 := ho; obtain ⟨vN, vE, rfl, -, -⟩ := hr; have hD' : D2 41 3 a w' vN vE r.1.Nodes r.1.Edges := hD; exact ⟨_, _, _, fun b => if b < w.heap.size then oo b else if a b = 0 then 0 else t, rfl, ⟨vN, vE, rfl, (hD'.pq (fun b hb => by rw [ho b hb]; decide) hk.size).mv0 (newT ho)⟩, hk, fun b hb => if_pos hb, fun b hb => by
  show (if b < w.heap.size then oo b else if a b = 0 then 0 else t) = 0 ∨ (if b < w.heap.size then oo b else if a b = 0 then 0 else t) = t; rw [if_neg (by omega)]; split
  ·exact .inl rfl
  ·exact .inr rfl⟩
end

section
open Go.RowKit
def iota (k : Int) (n : Nat) : List Int := (List.range n).map fun i : Nat => k + (i : Int)
theorem fC_ (k : Int) (n : Nat) : (iota k n).length = n := by simp [iota]
theorem pv_ (k : Int) (n : Nat) : iota k (n + 1) = iota k n ++ [k + n] := by simp [iota, List.range_succ]
theorem qF_ (p q : List Int) (x y : Int) : ((p ++ x :: q).map (Value.int .i64)).set p.length (.int .i64 y) = (p ++ y :: q).map (Value.int .i64) := by
 simp [List.set_append]
theorem Own.form {B : Nat} {w : World} {v : Value} {l : List Int} (h : Own B w v l) (hn : 0 < l.length) :
  ∃ g cap, v = .slice (some ⟨g, 0, none⟩) l.length cap ∧ ∀ i, i < l.length → w.cell? ⟨g, i, none⟩ = some (.int .i64 (l.getD i 0)) ∧ w.frozen? ⟨g, i, none⟩ = false := by
 obtain ⟨g, cap, rfl, _, _⟩ := World.ownsRow.form h hn
 refine ⟨g, cap, rfl, fun i hi => ⟨?_, World.ownsRow.frozenAt h i⟩⟩
 rw [World.ownsRow.cellAt h i (by omega)]
 simp [hi]
theorem Own.cellAt {B : Nat} {w : World} {g c : Nat} {l : List Int} (h : Own B w (.slice (some ⟨g, 0, none⟩) l.length c) l) (i : Nat) (hi : i < l.length) : w.cell? ⟨g, i, none⟩ = some (.int .i64 (l.getD i 0)) := by
 rw [World.ownsRow.cellAt h i (by omega)]
 simp [hi]
theorem Own.set {B : Nat} {w : World} {g cap n : Nat} {p q : List Int} {x y : Int} (h : Own B w (.slice (some ⟨g, 0, none⟩) n cap) (p ++ x :: q)) (j : Nat) (hj : j = p.length) :
  Own B (w.setCell ⟨g, j, none⟩ (.int .i64 y)) (.slice (some ⟨g, 0, none⟩) n cap) (p ++ y :: q) ∧ w.grownBy (w.setCell ⟨g, j, none⟩ (.int .i64 y)) (some g) := by
 subst hj
 have hn : n = (p ++ x :: q).length := by
  obtain ⟨a, c, h1, _⟩ := h.len
  simp at h1
  simp [h1]
 subst hn
 obtain ⟨h1, h2⟩ := World.ownsRow.stored h p.length (.int .i64 y)
 rw [qF_] at h1
 refine ⟨?_, h2⟩
 unfold Own
 simpa using h1
theorem lL_ (l : List Int) (j : Nat) (h : j < l.length) : l.drop j = l.getD j 0 :: l.drop (j + 1) := by
 rw [List.drop_eq_getElem_cons h]
 simp [h]
theorem lO_ {la lb : List Int} {k : Nat} (h : la.take k = lb.take k) (hl : la.length = lb.length) (hk : k < la.length) (he : la.getD k 0 = lb.getD k 0) : la.take (k + 1) = lb.take (k + 1) := by
 have hk' : k < lb.length := by omega
 rw [List.take_succ_eq_append_getElem hk, List.take_succ_eq_append_getElem hk', h]
 simp [List.getD_eq_getElem?_getD, hk, hk'] at he
 rw [he]
theorem ju_ {l : List Int} {k : Nat} (h : k < l.length) : l.take (k + 1) = l.take k ++ [l.getD k 0] := by
 rw [List.take_succ_eq_append_getElem h]
 simp [h]
set_option maxHeartbeats 400000 in
theorem oF_ (va vb : Value) (la lb : List Int) (w : World) (ha : Ints w va la) (hb : Ints w vb lb) :
  Calls Tryz.prog 24 #[va, vb] w fun e w' => e = .returned (.bool (decide (la = lb))) ∧ Dr w w' := by
 obtain ⟨a, ca, rfl, ma, fa⟩ := ha.form
 obtain ⟨b, cb, rfl, mb, fb⟩ := hb.form
 have Fa := Lib.hid fa
 have Fb := Lib.hid fb
 clear fa fb ha hb
 by_cases hl : la.length = lb.length
 ·have Hl := Lib.hid hl
  have hl' : ((la.length : Int) != (lb.length : Int)) = false := by simp [hl]
  clear hl
  go_enter Tryz.func24, Tryz.ntmps24
  go_wp2
  go_loopw [5] (fun i wr => ∃ k : Nat, k ≤ la.length ∧ i = .int .i64 k ∧ la.take k = lb.take k ∧ Dr w wr) (fun i _ => la.length - (intOf i).toNat)
  case atStart => exact ⟨0, Nat.zero_le _, rfl, rfl, Dr.refl w⟩
  case round =>
   obtain ⟨k, hk, rfl, ht, n, rfl⟩ := hrel
   have Ht := Lib.hid ht
   clear ht
   by_cases hlt : k < la.length
   ·obtain ⟨ba, oa, rfl, hca⟩ := Fa.out k hlt
    obtain ⟨bb, ob, rfl, hcb⟩ := Fb.out k (by have := Hl.out; omega)
    have hlt2 : k < lb.length := by have := Hl.out; omega
    generalize hx : la.getD k 0 = x at hca
    generalize hy : lb.getD k 0 = y at hcb
    have Hx := Lib.hid hx
    have Hy := Lib.hid hy
    clear hx hy
    go_wp2
    go_quiet (fail)
    go_wp2
    ·go_ret
     refine ⟨?_, (Dr.refl w).more _ |>.more _⟩
     have hne : la ≠ lb := by
      intro h
      have := Hx.out
      have := Hy.out
      have : (x != y) = true := by assumption
      simp_all
     simp [hne]
    ·go_roundw
     case rel => exact ⟨k + 1, by omega, by go_num, lO_ Ht.out Hl.out hlt (by rw [Hx.out, Hy.out]; simpa using ‹(x != y) = false›), (Dr.refl w).more _⟩
     case measure => simp [intOf]; omega
   ·go_wp2
    go_ret
    refine ⟨?_, (Dr.refl w).more _⟩
    have he : la = lb := by
     have h1 := Ht.out
     rw [List.take_of_length_le (by omega), List.take_of_length_le (by have := Hl.out; omega)] at h1
     exact h1
    simp [he]
 ·have hl' : ((la.length : Int) != (lb.length : Int)) = true := by simp; omega
  have hne : Hid (decide (la = lb) = false) := by
   have : la ≠ lb := fun h => hl (by rw [h])
   show decide (la = lb) = false
   simp [this]
  clear hl
  go_enter Tryz.func24, Tryz.ntmps24
  go_wp2
  go_ret
  exact ⟨by rw [hne.out]; rfl, Dr.refl w⟩
set_option maxHeartbeats 400000 in
theorem lc_ (B : Nat) (v : Value) (l : List Int) (k : Int) (w : World) (h : Own B w v l) (hk : 0 ≤ k) (hk2 : k + l.length ≤ 4611686018427387904) :
  Calls Tryz.prog 26 #[v, .int .i64 k] w fun e w' => e = .returned (.int .i64 (k + l.length)) ∧ Own B w' v (iota k l.length) ∧ w.grownBy w' v.ownBlock := by
 obtain ⟨a, c, rfl, hm⟩ := h.len
 have H := Lib.hid h
 clear h
 go_enter Tryz.func26, Tryz.ntmps26
 go_wp2
 go_loopw [1, 5] (fun x i wr => ∃ j : Nat, j ≤ l.length ∧ i = .int .i64 j ∧ x = .int .i64 (k + j) ∧ Own B wr (.slice a l.length c) (iota k j ++ l.drop j) ∧ w.grownBy wr (Value.slice a l.length c).ownBlock) (fun _ i _ => l.length - (intOf i).toNat)
 case atStart => exact ⟨0, Nat.zero_le _, rfl, by simp, by simpa [iota] using H.out, oD_ _ _⟩
 case round =>
  obtain ⟨j, hj, rfl, rfl, hown, hgr⟩ := hrel
  have HO := Lib.hid hown
  have HG := Lib.hid hgr
  clear hown hgr
  by_cases hlt : j < l.length
  ·obtain ⟨g, cap, hv, hc⟩ := HO.out.form (by simp; omega)
   simp only [Value.slice.injEq] at hv
   obtain ⟨rfl, -, rfl⟩ := hv
   obtain ⟨hc1, hc2⟩ := hc j (by simp [fC_]; omega)
   have hc1' : ∃ u, wr.cell? ⟨g, j, none⟩ = some u := ⟨_, hc1⟩
   clear hc hc1
   obtain ⟨u, hc1⟩ := hc1'
   go_wp2
   go_roundw
   case rel =>
    have h5 := HO.out
    rw [lL_ l j hlt] at h5
    obtain ⟨h6, h7⟩ := Own.set (y := k + j) h5 j (by simp [fC_])
    exact ⟨j + 1, by omega, by go_num, by congr 1; omega, by simpa [pv_] using h6, nr_ HG.out h7⟩
   case measure => simp [intOf]; omega
  ·go_wp2
   go_ret
   have he : j = l.length := by omega
   subst he
   refine ⟨rfl, ?_, HG.out⟩
   simpa using HO.out
theorem kC_ (n : Nat) : (madeCells (Value.int .i64 0).cells (n * 1)).toList = (List.replicate n (0 : Int)).map (Value.int .i64) := by
 simp [Value.cells, toList_madeCells_one]
set_option maxHeartbeats 400000 in
theorem oI_ (v : Value) (l : List Int) (w : World) (h : Ints w v l) (hl : l.length ≤ 1048576) :
  Calls Tryz.prog 67 #[v] w fun e w' => ∃ r, e = .returned r ∧ Own w.heap.size w' r l ∧ Keeps w w' := by
 obtain ⟨a, c, rfl, hm, hf⟩ := h.form
 have HF := Lib.hid hf
 clear h hf
 obtain ⟨i0, hi, hz0, hz1, hz2⟩ := info_parts rb_
 have HI := Lib.hid hi
 have HZ0 := Lib.hid hz0
 have HZ1 := Lib.hid hz1
 have HZ2 := Lib.hid hz2
 clear hi hz0 hz1 hz2
 go_enter Tryz.func67, Tryz.ntmps67
 go_wp2_with (at_make; refine wpList_make_full _ rfl _ _ 41 rfl w.heap.size 3 i0 (.int .i64 0) 1 Tryz.underlying41 HI.out HZ0.out HZ1.out .i64 .i64 _ _ l.length rfl rfl rfl rfl (by rw [HZ2.out]; omega) (by unfold maxLen; omega) (Nat.le_refl _) ?_; intro w1 hown hgr)
 rw [kC_] at hown
 have H1 : Hid (Own w.heap.size w1 (.slice (some ⟨w.heap.size, 0, none⟩) l.length l.length) (List.replicate l.length 0)) := by show Own _ _ _ _; unfold Own; simpa using hown
 have H2 : Hid (Below w.heap.size w w1) := (Below.refl _ _).grown hgr (Nat.le_refl _) (by simp)
 clear hown hgr
 go_wp2
 go_loopw [4] (fun i wr => ∃ j : Nat, j ≤ l.length ∧ i = .int .i64 j ∧ Own w.heap.size wr (.slice (some ⟨w.heap.size, 0, none⟩) l.length l.length) (l.take j ++ List.replicate (l.length - j) 0) ∧ Keeps w wr) (fun i _ => l.length - (intOf i).toNat)
 case atStart => exact ⟨0, Nat.zero_le _, rfl, by simpa using H1.out, H2.out⟩
 case round =>
  obtain ⟨j, hj, rfl, hown, hgr⟩ := hrel
  have HO := Lib.hid hown
  have HG := Lib.hid hgr
  clear hown hgr H1 H2
  by_cases hlt : j < l.length
  ·obtain ⟨b, o, rfl, hc⟩ := HF.out j hlt
   have hcr : wr.cell? ⟨b, o + j, none⟩ = some (.int .i64 (l.getD j 0)) := by rw [Below.cell HG.out (World.block_lt_of_cell? w _ hc)]; exact hc
   obtain ⟨g, cap, hv, hc2⟩ := HO.out.form (by simp; omega)
   simp only [Value.slice.injEq, Option.some.injEq, Addr.mk.injEq] at hv
   obtain ⟨⟨rfl, -⟩, -, rfl⟩ := hv
   obtain ⟨hc3, hc4⟩ := hc2 j (by simp; omega)
   have hc3' : ∃ u, wr.cell? ⟨w.heap.size, j, none⟩ = some u := ⟨_, hc3⟩
   clear hc2 hc3 hc
   obtain ⟨u, hc3⟩ := hc3'
   generalize hx : l.getD j 0 = x at hcr
   have Hx := Lib.hid hx
   clear hx
   go_wp2
   go_roundw
   case rel =>
    have h5 := HO.out
    obtain ⟨q, hq⟩ : ∃ q, l.length - j = q + 1 := ⟨l.length - j - 1, by omega⟩
    rw [hq, List.replicate_succ] at h5
    obtain ⟨h6, h7⟩ := Own.set (y := x) h5 j (by simp; omega)
    refine ⟨j + 1, by omega, by go_num, ?_, HG.out.setCell (Nat.le_refl _) _⟩
    rw [ju_ hlt, Hx.out, show l.length - (j + 1) = q by omega]
    simpa using h6
   case measure => simp [intOf]; omega
  ·go_wp2
   go_ret
   have he : j = l.length := by omega
   subst he
   refine ⟨_, rfl, by simpa using HO.out, HG.out⟩
end

section
open Go.RowKit
def IntRows (w : World) (v : Value) (LL : List (List Int)) : Prop := ∃ vs : List Value, Sl w v vs ∧ vs.length = LL.length ∧ ∀ i, i < vs.length → Ints w (vs.getD i undef) (LL.getD i [])
theorem IntRows.keep {w w' : World} {v : Value} {LL : List (List Int)} (h : IntRows w v LL) (k : Keeps w w') : IntRows w' v LL := by
 obtain ⟨vs, h1, h2, h3⟩ := h
 exact ⟨vs, h1.keep k, h2, fun i hi => (h3 i hi).keep k⟩
theorem IntRows.form {w : World} {v : Value} {LL : List (List Int)} (h : IntRows w v LL) :
  ∃ a c, v = .slice a LL.length c ∧ LL.length ≤ 9223372036854775807 ∧
   ∀ i, i < LL.length → ∃ b o u, a = some ⟨b, o, none⟩ ∧ w.cell? ⟨b, o + i, none⟩ = some u ∧ Ints w u (LL.getD i []) := by
 obtain ⟨vs, h1, h2, h3⟩ := h
 obtain ⟨a, c, rfl, h4, h5⟩ := h1.form
 rw [h2] at h4
 refine ⟨a, c, by rw [h2], h4, fun i hi => ?_⟩
 obtain ⟨b, o, rfl, hc⟩ := h5 i (by omega)
 exact ⟨b, o, _, rfl, hc, h3 i (by omega)⟩
theorem qj_ : (Tryz.prog.info? 41).map (fun i => (i.zero, i.size, i.bytes)) = some (some (.slice none 0 0), 1, 24) := by kernel_rfl
theorem hm_ {e e' : TypeId} {B C s s' n m : Nat} {w : World} {v u : Value} {xs ys : List Value} (hne : e ≠ e') (h : w.ownsRow B e s v n xs) (k : w.ownsRow C e' s' u m ys) : Apart v u := by
 unfold Apart
 rcases h.2 with ⟨rfl, _⟩ | ⟨g, cap, cur, rfl, _, hg, _⟩
 ·exact .inl rfl
 ·rcases k.2 with ⟨rfl, _⟩ | ⟨g', cap', cur', rfl, _, hg', _⟩
  ·exact .inr (by simp [Value.ownBlock])
  ·refine .inr fun e => ?_
   have : g = g' := by simpa [Value.ownBlock] using e
   subst this
   rw [hg] at hg'
   simp at hg'
   exact hne hg'.2
theorem Own.sl {B : Nat} {w : World} {v : Value} {l : List Int} (h : Own B w v l) : ∃ a n c, v = .slice a n c := by
 obtain ⟨a, c, h1, _⟩ := h.len
 exact ⟨a, _, c, h1⟩
structure MatIn (B : Nat) (w : World) (v : Value) (vs : List Value) (LL : List (List Int)) : Prop where
  row : w.ownsRow B 41 1 v LL.length vs
  own : ∀ i, i < LL.length → Own B w (vs.getD i undef) (LL.getD i [])
  apart : ∀ i j, i < LL.length → j < LL.length → i ≠ j → Apart (vs.getD i undef) (vs.getD j undef)

section
variable {B : Nat} {w w' : World} {v : Value} {vs : List Value} {LL : List (List Int)}
theorem MatIn.len (h : MatIn B w v vs LL) : vs.length = LL.length := by simpa using h.row.1
theorem MatIn.keep (h : MatIn B w v vs LL) (k : Keeps w w') : MatIn B w' v vs LL := ⟨gZ_ h.row k, fun i hi => (h.own i hi).keep k, h.apart⟩
theorem MatIn.kept {r : Option Nat} (h : MatIn B w v vs LL) (hg : w.grownBy w' r) (hv : v.ownBlock = none ∨ v.ownBlock ≠ r) (hvs : ∀ i, i < LL.length → (vs.getD i undef).ownBlock = none ∨ (vs.getD i undef).ownBlock ≠ r) : MatIn B w' v vs LL :=
 ⟨World.ownsRow.kept h.row hg hv, fun i hi => World.ownsRow.kept (h.own i hi) hg (hvs i hi), h.apart⟩
theorem MatIn.rows (h : MatIn B w v vs LL) : IntRows w v LL := by
 have hl := h.len
 refine ⟨vs, pN_ (B := B) (e := 41) (by rw [hl]; exact h.row), hl, fun i hi => (h.own i (by omega)).ints⟩
theorem MatIn.form (h : MatIn B w v vs LL) (hn : 0 < LL.length) :
  ∃ g cap, v = .slice (some ⟨g, 0, none⟩) LL.length cap ∧ ∀ i, i < LL.length → w.cell? ⟨g, i, none⟩ = some (vs.getD i undef) ∧ w.frozen? ⟨g, i, none⟩ = false := by
 obtain ⟨g, cap, rfl, _, _⟩ := World.ownsRow.form h.row hn
 refine ⟨g, cap, rfl, fun i hi => ⟨?_, World.ownsRow.frozenAt h.row i⟩⟩
 rw [World.ownsRow.cellAt h.row i (by omega)]
 have := h.len
 simp [show i < vs.length by omega]
end

theorem dx_ {α : Type} (l : List α) (i : Nat) (x d : α) (h : i < l.length) : (l.set i x).getD i d = x := by simp [h]
theorem getD_set_ne {α : Type} (l : List α) (i j : Nat) (x d : α) (h : j ≠ i) : (l.set i x).getD j d = l.getD j d := by
 simp [List.getElem?_set, Ne.symm h]
theorem MatIn.made {B : Nat} {w : World} {v : Value} {n : Nat} (h : w.ownsRow B 41 1 v n (List.replicate n (.slice none 0 0))) : MatIn B w v (List.replicate n (.slice none 0 0)) (List.replicate n []) := by
 refine ⟨by simpa using h, fun i hi => ?_, fun i j hi hj _ => ?_⟩
 ·simp only [List.length_replicate] at hi
  simp [List.getD_eq_getElem?_getD, List.getElem?_replicate, hi]
  exact Own.nil _ _
 ·simp only [List.length_replicate] at hi
  left
  simp [List.getD_eq_getElem?_getD, List.getElem?_replicate, hi, Value.ownBlock]
theorem if_ (n : Nat) : (madeCells (Value.slice none 0 0).cells (n * 1)).toList = List.replicate n (.slice none 0 0) := by
 simp [Value.cells, toList_madeCells_one]
end

end Go.Proofs.YtdbbeldgdgonfaaGreat
