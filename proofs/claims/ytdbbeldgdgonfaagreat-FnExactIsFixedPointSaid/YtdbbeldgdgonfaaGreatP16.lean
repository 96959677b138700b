/- Part 16 of what this claim rests on (GEs), packed by pack.py. -/
import Derived.Test.YtdbbeldgdgonfaaGreatP03
import Derived.Test.YtdbbeldgdgonfaaGreatP11
import Derived.Test.YtdbbeldgdgonfaaGreatP12
import Derived.Test.YtdbbeldgdgonfaaGreatP15
namespace Go.Proofs.YtdbbeldgdgonfaaGreat
set_option linter.unusedSimpArgs false
set_option linter.unusedVariables false

section
set_option maxRecDepth 100000
set_option maxHeartbeats 2000000
open Go.RowKit
theorem jA_ : Inf Tryz.prog 3 (.int .i64 0) 1 8 := by unfold Inf; kernel_rfl

theorem ji_ : Inf Tryz.prog 41 (.slice none 0 0) 1 24 := by unfold Inf; kernel_rfl

def bD_ (a : List Int) (b : (List Int) → Option Bool) : Option Bool :=
  (b a) >>= fun c =>
  some (!c)

def jr_ (w : World) (r : Bool) : Ending → World → Prop := fun e w' => e = .returned (.bool r) ∧ Keeps w w'
theorem jq_ (w : World) (a : Value) (c : Yl) (j : RdL zt w a c) (b : Nat) (f : Value) (g : Yl → Option Bool) (k : Cells w b 0 [f]) (m : FnV Tryz.prog w f g) (r : Bool) (hF : bD_ c g = some r) :
    Calls Tryz.prog 147 #[a, .pointer (some ⟨b, 0, none⟩)] w (jr_ w r) := by
 unfold bD_ at hF; have hB : Bs (fun _ => 1) (col (fun _ => 1)) w w := Bs.start _ _; refine i_ (n := 8) (vs := [a, (ZP b)]) Tryz.func147 rfl rfl ?_; refine Zq (Za rfl (Ze [(0, a), (1, ZP b)] (Zn (Zv (e_ rfl Tryz.isAgg97 (j_ (k.keep hB.keeps))) (Zm rfl ?_))))); obtain ⟨i, d, hF⟩ := bind_some hF; refine Zo ?_; refine fN_ (x := c) (vs := [a]) (m.keep hB.keeps) d ⟨_, rfl, (j.keep hB.keeps)⟩ rfl ⟨rfl, trivial⟩ ?_; intro v q; have s := q.stp 999 (col (fun _ => 1)); replace hB := hB.stp s; refine Zv (ba_ rfl) (Za rfl (Ze [(3, (.bool (!i)))] (nx (m_ ?_)))); have u := Zj hF; subst u; refine Zr Tryz.results147 [(.bool (!i))] ?_; exact ⟨rfl, hB.keeps⟩
def dt_ (fuel : Nat) (c : Int) (d : Int) (f : (List Int) → Option Bool) : Option (List (List Int)) :=
  (dr_ fuel c d) >>= fun a =>
  (delL (fun g => bD_ g f) a) >>= fun b =>
  some b

def lo_ (oo : Tg) (t : Nat) (w : World) (r : Yk) : Ending → World → Prop := fun e w' => ∃ (a : Value) (c : List Hv) (o' : Tg), e = .returned (a) ∧ Ow w.heap.size 41 t o' w' a c ∧ Rws w.heap.size 3 (t + 1) o' w' c r ∧ Keeps w w' ∧ ∀ b, b < w.heap.size → o' b = oo b
theorem ig_ (fuel : Nat) (w : World) (oo : Tg) (t : Nat) (ht : 2 ≤ t) (c : Int) (d : Int) (m : Value) (q : Yl → Option Bool) (G : FnV Tryz.prog w m q) (r : Yk) (hF : dt_ fuel c d q = some r) :
    Calls Tryz.prog 98 #[.int .i64 c, .int .i64 d, m] w (lo_ oo t w r) := by
 unfold dt_ at hF; have hB : Bs oo (col oo) w w := Bs.start _ _; refine i_ (n := 12) (vs := [(ZI c), (ZI d), m]) Tryz.func98 rfl rfl ?_; generalize col oo = o at *; refine Zq (Zo ?_); refine aK_ (o := o) w.heap.size 11 hB.keeps.size (cs := [m]) G.cells1 rfl ?_; intro I H s J K; replace hB := hB.stp K; refine Za rfl (Ze [(0, ZI c), (1, ZI d), (5, ZP s)] (Zn (Zm rfl (Zm rfl ?_)))); have L := (show FnV Tryz.prog H (.func (.func 147) #[] #[(ZP s)]) (fun M => bD_ M q) from ⟨_, _, rfl, Tryz.call147, fun ww vs xx rr kk hok hG => by (obtain ⟨W, rfl, N⟩ := hok; exact jq_ ww _ xx N s _ q ((J.cells).keep kk) ((G.keep hB.keeps).keep kk) rr hG)⟩); have f := hB.keeps.size; obtain ⟨u, g, hF⟩ := bind_some hF; refine Zo ?_; refine p_ (ic_ fuel H I 12 (by decide) c d u g) Tryz.call146 ⟨rfl, rfl, trivial⟩ ?_; rintro O P ⟨Q, R, S, rfl, v, x, i, y⟩; have z := i.stp' 12 y; have A := v; have B := x; refine ⟨_, rfl, ?_⟩; replace hB := hB.stp z; refine Zv (gE_ (vs := [(ZP s)]) ⟨rfl, trivial⟩) ?_; obtain ⟨T, j, hF⟩ := bind_some hF; refine Zo ?_; refine p_ (qY_ A B i L (by decide) (by decide) (by decide) j) Tryz.call145 ⟨rfl, rfl, trivial⟩ ?_; rintro U V ⟨k, C, D, rfl, a, b, E⟩; refine ⟨_, rfl, ?_⟩; replace a := a.mono f; replace b := b.mono f; replace hB := hB.stp E; refine Za rfl (Ze [(6, k)] (nx (m_ ?_))); have F := Zj hF; subst F; refine Zr Tryz.results98 [k] ?_; exact ⟨_, C, rt2 oo D w.heap.size 12 13 t, rfl, a.rt2 hB (by decide) (by decide) t, b.rt2 hB (by decide) (by decide) (by decide) t, hB.keeps, iA_ _ _ _ _ _ _⟩
def ak_ : Int → (List Int) → Int → Option (Lp Int Int (List Int)) := fun (c : Int) (b : List Int) (s : Int) =>
  (ck (s + (b.length : Int))) >>= fun a =>
  if decide (a < 0) then
    none
  else
    some (.go a)
def an_ : Int → (List Int) → (List Int) → Option (Lp (List Int) (List Int) (List Int)) := fun (c : Int) (a : List Int) (s : List Int) =>
  (cat s a) >>= fun b =>
  some (.go b)
def aZ_ (d : List (List Int)) : Option (List Int) :=
  (forI (ak_) d 0 0) >>= fun f =>
  match f with
  | .inl g =>
    (growO g) >>= fun a =>
    (forI (an_) d 0 a) >>= fun b =>
    match b with
    | .inl c =>
      some c
    | .inr _ => none
  | .inr _ => none

def fn_ (oo : Tg) (t : Nat) (w : World) (r : Yl) : Ending → World → Prop := fun e w' => ∃ (a : Value) (o' : Tg), e = .returned (a) ∧ Ow w.heap.size 3 t o' w' a r ∧ Keeps w w' ∧ ∀ b, b < w.heap.size → o' b = oo b
theorem fp_ (w : World) (oo : Tg) (t : Nat) (ht : 2 ≤ t) (b : Value) (d : Yk) (E : RdL zt w b d) (r : Yl) (hF : aZ_ d = some r) :
    Calls Tryz.prog 140 #[b] w (fn_ oo t w r) := by
 unfold aZ_ at hF; have hB : Bs oo (col oo) w w := Bs.start _ _; refine i_ (n := 36) (vs := [b]) Tryz.func140 rfl rfl ?_; generalize col oo = o at *; refine Zq (Za rfl (Ze [(0, b)] (Zn (Za rfl (Ze [(0, b), (3, ZI 0)] (nx (a_ (Zq (Zm rfl (Zv (C_ rfl E Tryz.underlying22) (Zm rfl (Ze [(0, b), (3, ZI 0), (9, b), (10, (ZI (d.length : Int))), (11, ZI 0)] ?_)))))))))))); refine nx ?_; obtain ⟨b6, Q, hF⟩ := bind_some hF; refine A_ (fun a F => ∃ (q : Int) (B : Tg), b6 = .inl q ∧ Fr a 36 [(0, b), (3, ZI q)] ∧ Bs oo B w F) (fun _ _ => False) ?_ ?_ ?_
 ·refine f_ ?_; refine z_ (fun (K : Nat) a F => ∃ (i : Int) (q : Int) (B : Tg), forI (ak_) (d.drop i.toNat) i q = some b6 ∧ (d.drop i.toNat).length = K ∧ 0 ≤ i ∧ Fr a 36 [(0, b), (3, ZI q), (9, b), (10, (ZI (d.length : Int))), (11, ZI i)] ∧ Bs oo B w F) _ (fun a ha => ⟨0, 0, o, Q, rfl, Int.le_refl 0, ha.sub (r := [(0, b), (3, ZI 0), (9, b), (10, (ZI (d.length : Int))), (11, ZI 0)]) ⟨rfl, rfl, rfl, rfl, rfl, trivial⟩, hB⟩) ?_; rintro K9 a F ⟨i, q, B, b7, b8, b9, ha, hB⟩; by_cases u : i < (d.length : Int)
  ·obtain ⟨c0, c1, G, k, R⟩ := V_ b9 u b7; have hle := E.len_le; dsimp only [ak_] at k; refine M_ ha ?_; refine Zq (Zv (t_ rfl rfl) (Ze [(0, b), (3, ZI q), (9, b), (10, (ZI (d.length : Int))), (11, ZI i), (12, (.bool (decide (i < (d.length : Int)))))] (nx (a_ ?_)))); refine P_ (Zb (decide_eq_true u)) ?_; refine g_ (nx (a_ (f_ (Zq (Zo ?_))))); refine wf_atZ E G hB rfl rfl Tryz.underlying22 Tryz.sizeOf41 ?_; intro c2 c3 c4 S T; obtain ⟨U, rfl, V⟩ := T; refine Zv (e_ rfl Tryz.isAgg41 (j_ S)) (Za rfl (Ze [(0, b), (3, ZI q), (5, U), (9, b), (10, (ZI (d.length : Int))), (11, ZI i)] (Zn (Zm rfl (Zm rfl (Zv (C_ rfl V Tryz.underlying41) ?_)))))); obtain ⟨s, H, k⟩ := bind_some k; refine Zv (F_ rfl rfl H) (Za rfl (Ze [(0, b), (3, ZI s), (9, b), (10, (ZI (d.length : Int))), (11, ZI i)] (Zn (Zm rfl (Zv (t_ rfl rfl) (Ze [(0, b), (3, ZI s), (9, b), (10, (ZI (d.length : Int))), (11, ZI i), (20, (.bool (decide (s < 0))))] (nx ?_))))))); refine o_ rfl (fun C => ?_) (fun C => ?_)
   ·rw [if_pos C] at k; cases k
   ·rw [if_neg (by rw [C]; decide)] at k; refine g_ (y_ (nx (c_ (Zv (F_ rfl rfl (G_ (by omega) (by omega))) (Zm rfl (Ze [(0, b), (3, ZI s), (9, b), (10, (ZI (d.length : Int))), (11, (ZI (i + 1)))] (w_ ?_))))))); have W := Zj k; subst W; refine Zk [(0, b), (3, ZI s), (9, b), (10, (ZI (d.length : Int))), (11, (ZI (i + 1)))] ?_; intro a ha; exact ⟨_, (by rw [← b8]; simp only [List.length_drop]; omega), i + 1, s, B, R, rfl, (by omega), ha, hB⟩
  ·have X := W_ u b7; refine M_ ha ?_; refine Zq (Zv (t_ rfl rfl) (Ze [(0, b), (3, ZI q), (9, b), (10, (ZI (d.length : Int))), (11, ZI i), (12, (.bool (decide (i < (d.length : Int)))))] (nx (a_ ?_)))); refine J_ (Zb (decide_eq_false u)) ?_; refine v_ ?_; refine r_ (r_ (Q_ ?_)); refine s_ ?_; refine Zk [(0, b), (3, ZI q)] ?_; intro a ha; exact ⟨q, B, X, ha, hB⟩
 ·rintro a F ⟨q, B, rfl, ha, hB⟩; dsimp only at hF; refine ap_k ha ?_; refine Zn (Zm rfl ?_); obtain ⟨I, J, hF⟩ := bind_some hF; refine Zo ?_; refine p_ (ot_ F B 11 q I J) Tryz.call173 ⟨rfl, rfl, trivial⟩ ?_; rintro c5 c6 ⟨v, Y, rfl, D, Z, a0⟩; have a1 := Z.stp' 11 a0; replace D := D.mono hB.keeps.size; refine ⟨_, rfl, ?_⟩; replace hB := hB.stp a1; refine Za rfl (Ze [(0, b), (6, v)] (nx (a_ (Zq (Zm rfl (Zv (C_ rfl E Tryz.underlying22) (Zm rfl (Ze [(6, v), (25, b), (26, (ZI (d.length : Int))), (27, ZI 0)] (nx ?_))))))))); obtain ⟨L, M, hF⟩ := bind_some hF; refine A_ (fun a m => ∃ (j : Yl) (f : Value) (g : Tg), L = .inl j ∧ Fr a 36 [(6, f)] ∧ Bs oo g w m ∧ Ow w.heap.size 3 11 g m f j) (fun _ _ => False) ?_ ?_ ?_
  ·refine f_ ?_; refine z_ (fun (K : Nat) a m => ∃ (c : Int) (j : Yl) (f : Value) (g : Tg), forI (an_) (d.drop c.toNat) c j = some L ∧ (d.drop c.toNat).length = K ∧ 0 ≤ c ∧ Fr a 36 [(6, f), (25, b), (26, (ZI (d.length : Int))), (27, ZI c)] ∧ Bs oo g w m ∧ Ow w.heap.size 3 11 g m f j) _ (fun a ha => ⟨0, I, v, Y, M, rfl, Int.le_refl 0, ha.sub (r := [(6, v), (25, b), (26, (ZI (d.length : Int))), (27, ZI 0)]) ⟨rfl, rfl, rfl, rfl, trivial⟩, hB, D⟩) ?_; rintro K45 a m ⟨c, j, f, g, N, a2, a3, ha, hB, x⟩; by_cases y : c < (d.length : Int)
   ·obtain ⟨c7, c8, O, z, a4⟩ := V_ a3 y N; have hle := E.len_le; dsimp only [an_] at z; refine M_ ha ?_; refine Zq (Zv (t_ rfl rfl) (Ze [(6, f), (25, b), (26, (ZI (d.length : Int))), (27, ZI c), (28, (.bool (decide (c < (d.length : Int)))))] (nx (a_ ?_)))); refine P_ (Zb (decide_eq_true y)) ?_; refine g_ (nx (a_ (f_ (Zq (Zo ?_))))); refine wf_atZ E O hB rfl rfl Tryz.underlying22 Tryz.sizeOf41 ?_; intro c9 d0 d1 a5 a6; obtain ⟨a7, rfl, a8⟩ := a6; refine Zv (e_ rfl Tryz.isAgg41 (j_ a5)) (Za rfl (Ze [(6, f), (8, a7), (25, b), (26, (ZI (d.length : Int))), (27, ZI c)] (nx (c_ (Zm rfl (Zm rfl ?_)))))); obtain ⟨a9, P, z⟩ := bind_some z; refine Zo ?_; refine kH_ x ((a8.keep hB.keeps)) P (by decide) hB.keeps.size (fun _ _ h => h) rfl rfl Tryz.underlying41 jA_ rfl (by decide) ?_; intro b0 d2 A b1 b2; replace hB := hB.stp b2; refine Za rfl (Ze [(6, A), (25, b), (26, (ZI (d.length : Int))), (27, ZI c)] (y_ (nx (c_ (Zv (F_ rfl rfl (G_ (by omega) (by omega))) (Zm rfl (Ze [(6, A), (25, b), (26, (ZI (d.length : Int))), (27, (ZI (c + 1)))] (w_ ?_)))))))); have b3 := Zj z; subst b3; refine Zk [(6, A), (25, b), (26, (ZI (d.length : Int))), (27, (ZI (c + 1)))] ?_; intro a ha; exact ⟨_, (by rw [← a2]; simp only [List.length_drop]; omega), c + 1, a9, A, b0, a4, rfl, (by omega), ha, hB, b1⟩
   ·have b4 := W_ y N; refine M_ ha ?_; refine Zq (Zv (t_ rfl rfl) (Ze [(6, f), (25, b), (26, (ZI (d.length : Int))), (27, ZI c), (28, (.bool (decide (c < (d.length : Int)))))] (nx (a_ ?_)))); refine J_ (Zb (decide_eq_false y)) ?_; refine v_ ?_; refine r_ (r_ (Q_ ?_)); refine s_ ?_; refine Zk [(6, f)] ?_; intro a ha; exact ⟨j, f, g, b4, ha, hB, x⟩
  ·rintro a m ⟨j, f, g, rfl, ha, hB, x⟩; dsimp only at hF; refine ap_k ha ?_; refine Zn (Zm rfl (Za rfl (Ze [(2, f)] (nx (m_ ?_))))); have b5 := Zj hF; subst b5; refine Zr Tryz.results140 [f] ?_; exact ⟨_, rt oo g w.heap.size 11 t, rfl, x.rt hB (by decide) t, hB.keeps, af_ _ _ _ _ _⟩
  ·exact fun _ _ h => h.elim
 ·exact fun _ _ h => h.elim
def at_ (fuel : Nat) (a : List Int) (b : b_) : Option Bool :=
  (co_ fuel b a) >>= fun c =>
  some c

def fI_ (w : World) (r : Bool) : Ending → World → Prop := fun e w' => e = .returned (.bool r) ∧ Keeps w w'
theorem fE_ (fuel : Nat) (w : World) (a : Value) (c : Yl) (m : RdL zt w a c) (b : Nat) (j : List Value) (d : b_) (q : Cells w b 0 j) (k : Rp.rd zt w j d) (r : Bool) (hF : at_ fuel c d = some r) :
    Calls Tryz.prog 149 #[a, .pointer (some ⟨b, 0, none⟩)] w (fI_ w r) := by
 unfold at_ at hF; have g1k := k; obtain ⟨z, A, rfl, s, u⟩ := k; have hB : Bs (fun _ => 1) (col (fun _ => 1)) w w := Bs.start _ _; refine i_ (n := 7) (vs := [a, (ZP b)]) Tryz.func149 rfl rfl ?_; refine Zq (Za rfl (Ze [(0, a), (1, ZP b)] (Zn (Zv (L_ rfl Tryz.isAgg28 Tryz.sizeOf28 rfl (q.keep hB.keeps)) (Zm rfl ?_))))); obtain ⟨f, g, hF⟩ := bind_some hF; refine Zo ?_; refine p_ (gd_ fuel w _ d (⟨_, _, rfl, (s.keep hB.keeps), (u.keep hB.keeps)⟩) _ c (m.keep hB.keeps) f g) Tryz.call150 ⟨rfl, rfl, trivial⟩ ?_; rintro v B ⟨rfl, x⟩; have y := x.stp 999 (col (fun _ => 1)); refine ⟨_, rfl, ?_⟩; replace hB := hB.stp y; refine Za rfl (Ze [(3, (.bool f))] (nx (m_ ?_))); have i := Zj hF; subst i; refine Zr Tryz.results149 [(.bool f)] ?_; exact ⟨rfl, hB.keeps⟩
def ca_ (fuel : Nat) (c : b_) (d : List (List Int)) : Option ((List Int) × Bool) :=
  (cz_ fuel d (fun b => at_ fuel b c)) >>= fun a =>
  some (a.1, a.2)

def gw_ (oo : Tg) (t : Nat) (w : World) (r : Yl × Bool) : Ending → World → Prop := fun e w' => ∃ (a : Value) (o' : Tg), e = .returned (.tuple #[a, .bool r.2]) ∧ Ow w.heap.size 3 t o' w' a r.1 ∧ Keeps w w' ∧ ∀ b, b < w.heap.size → o' b = oo b
theorem gv_ (fuel : Nat) (w : World) (oo : Tg) (t : Nat) (ht : 2 ≤ t) (B : List Value) (a : b_) (C : Rp.rd zt w B a) (i : Value) (k : Yk) (D : RdL zt w i k) (r : Yl × Bool) (hF : ca_ fuel a k = some r) :
    Calls Tryz.prog 100 #[.agg B.toArray, i] w (gw_ oo t w r) := by
 unfold ca_ at hF; obtain ⟨m, q, rfl, E, F⟩ := C; have hB : Bs oo (col oo) w w := Bs.start _ _; refine i_ (n := 11) (vs := [(.agg #[(ZI a.Labels), (ZI a.Degree), m, q]), i]) Tryz.func100 rfl rfl ?_; generalize col oo = o at *; refine Zq (Zo ?_); refine aK_ (o := o) w.heap.size 11 hB.keeps.size (cs := [(ZI a.Labels), (ZI a.Degree), m, q]) rfl rfl ?_; intro G s j H I; replace hB := hB.stp I; refine Za rfl (Za rfl (Ze [(1, i), (2, ZP j)] (Zn (Zm rfl (Zv (gE_ (vs := [(ZP j)]) ⟨rfl, trivial⟩) ?_))))); obtain ⟨b, f, hF⟩ := bind_some hF; refine Zo ?_; refine p_ (gV_ fuel s G 12 (by decide) _ k (D.keep hB.keeps) _ (fun c => at_ fuel c a) (show FnV Tryz.prog s (.func (.func 149) #[] #[(ZP j)]) (fun c => at_ fuel c a) from ⟨_, _, rfl, Tryz.call149, fun ww vs xx rr kk hok hG => by (obtain ⟨J, rfl, u⟩ := hok; exact fE_ fuel ww _ xx u j _ a ((H.cells).keep kk) (Rp.keep ((show Rp.rd zt s [(ZI a.Labels), (ZI a.Degree), m, q] (a : b_) from ⟨_, _, rfl, (E.keep hB.keeps), (F.keep hB.keeps)⟩)) kk) rr hG)⟩) b f) Tryz.call148 ⟨rfl, rfl, trivial⟩ ?_; rintro K L ⟨g, v, rfl, d, x, y⟩; have z := x.stp' 12 y; replace d := d.mono hB.keeps.size; refine ⟨_, rfl, ?_⟩; replace hB := hB.stp z; refine Zv (u_ rfl rfl) (Zv (u_ rfl rfl) (Za rfl (Za rfl (Ze [(4, g), (5, (.bool b.2))] (nx (m_ ?_)))))); have A := Zj hF; subst A; refine Zr Tryz.results100 [g, (.bool b.2)] ?_; exact ⟨_, rt oo v w.heap.size 12 t, rfl, d.rt hB (by decide) t, hB.keeps, af_ _ _ _ _ _⟩
def av_ (fuel : Nat) (b : List Int) (c : b_) : Option Bool :=
  (ix b 0) >>= fun d =>
  (ix b 1) >>= fun f =>
  (cl_ fuel c d f) >>= fun a =>
  some a

def fH_ (w : World) (r : Bool) : Ending → World → Prop := fun e w' => e = .returned (.bool r) ∧ Keeps w w'
theorem fC_ (fuel : Nat) (w : World) (a : Value) (m : Yl) (q : RdL zt w a m) (g : Nat) (T : List Value) (s : b_) (Z : Cells w g 0 T) (U : Rp.rd zt w T s) (r : Bool) (hF : av_ fuel m s = some r) :
    Calls Tryz.prog 153 #[a, .pointer (some ⟨g, 0, none⟩)] w (fH_ w r) := by
 unfold av_ at hF; have g1k := U; obtain ⟨d6, d7, rfl, a0, a1⟩ := U; have hB : Bs (fun _ => 1) (col (fun _ => 1)) w w := Bs.start _ _; refine i_ (n := 12) (vs := [a, (ZP g)]) Tryz.func153 rfl rfl ?_; refine Zq (Za rfl (Ze [(0, a), (1, ZP g)] (nx (a_ ?_)))); obtain ⟨V, i, hF⟩ := bind_some hF; obtain ⟨W, j, hF⟩ := bind_some hF; refine Z_ (o := (col (fun _ => 1))) [(0, a), (1, ZP g)] [0, 1] [4, 5, 6, 7, 8, 9, 10] [[], [], [1], [2], [], [4], [5]] [none, none, none, none, none, none, none] [999, 999, 999, 999, 999, 999, 999] [0, 0, 0, 0, 0, 0, 0] [999] [fun v o X => ∃ (c : List Value), v = .agg c.toArray ∧ Rp.rd zt w c s, fun v _ _ => v = a, fun v o X => ∃ vl, v = adr vl ((0 : Int).toNat * Rp.sz Int) ∧ RdL zt w vl m, fun v _ _ => v = (ZI V), fun v _ _ => v = a, fun v o X => ∃ vl, v = adr vl ((1 : Int).toNat * Rp.sz Int) ∧ RdL zt w vl m, fun v _ _ => v = (ZI W)] (fun a2 a3 => Bs (fun _ => 1) a2 w a3) E_ (by kernel_rfl) rfl ⟨rfl, rfl, trivial⟩ hB ?_ ⟨fun _ _ _ _ _ _ Y hb ⟨c, e, h⟩ hs => ⟨c, e, h⟩, q_ _, fun _ _ _ _ _ _ Y hb ⟨vl, e, h⟩ hs => ⟨vl, e, h⟩, q_ _, q_ _, fun _ _ _ _ _ _ Y hb ⟨vl, e, h⟩ hs => ⟨vl, e, h⟩, q_ _, trivial⟩ ?_ ?_
 ·rintro a4 d8 d9 e0 e1 b hB u; have b : a4 = 999 := by simpa using b
  subst b; all_goals exact hB.stp u (by decide)
 ·refine ⟨?_, ?_, ?_, ?_, ?_, ?_, ?_, trivial⟩
  ·rintro a5 a6 a7 ha hB -; refine Zs ha ?_; refine d_ (L_ rfl Tryz.isAgg28 Tryz.sizeOf28 rfl (Z.keep hB.keeps)) ?_; exact ⟨_, Stp.refl _ _ _, ⟨_, rfl, ⟨_, _, rfl, a0, a1⟩⟩⟩
  ·rintro a8 a9 b0 ha hB -; refine Zs ha ?_; refine d_ (h_ rfl) ?_; exact Zx rfl
  ·rintro b1 b2 b3 ha hB ⟨x, -⟩; have ha := Fr.cons (d := 5) ha x; refine Zs ha ?_; refine bq_ q i rfl rfl Tryz.underlying41 Tryz.sizeOf3 ?_; exact ⟨_, Stp.refl _ _ _, ⟨_, rfl, q⟩⟩
  ·rintro b4 b5 b6 ha hB ⟨y, -⟩; obtain ⟨b7, z, A⟩ := y; have ha := Fr.cons (d := 6) ha z; refine Zs ha ?_; refine bx_ A i hB rfl rfl Tryz.isAgg3 ?_; intro b8 B; cases B
   exact Zx rfl
  ·rintro b9 c0 c1 ha hB -; refine Zs ha ?_; refine d_ (h_ rfl) ?_; exact Zx rfl
  ·rintro c2 c3 c4 ha hB ⟨C, -⟩; have ha := Fr.cons (d := 8) ha C; refine Zs ha ?_; refine bq_ q j rfl rfl Tryz.underlying41 Tryz.sizeOf3 ?_; exact ⟨_, Stp.refl _ _ _, ⟨_, rfl, q⟩⟩
  ·rintro c5 c6 c7 ha hB ⟨D, -⟩; obtain ⟨c8, E, F⟩ := D; have ha := Fr.cons (d := 9) ha E; refine Zs ha ?_; refine bx_ F j hB rfl rfl Tryz.isAgg3 ?_; intro c9 G; cases G
   exact Zx rfl
 rintro H I d0 ha hB ⟨J, -, -, K, -, -, L, -⟩; obtain ⟨d1, M, N⟩ := J; obtain ⟨d2, d3, rfl, O, P⟩ := N; have ha := Fr.cons (d := 4) ha M; have ha := Fr.cons (d := 7) ha K; have ha := Fr.cons (d := 10) ha L; refine aV_ ha ?_; simp only [List.length_cons, List.length_nil, Nat.zero_add, Nat.reduceAdd, List.drop_succ_cons, List.drop_zero]; obtain ⟨f, k, hF⟩ := bind_some hF; refine Zo ?_; refine p_ (gB_ fuel I _ s (⟨_, _, rfl, (O.keep hB.keeps), (P.keep hB.keeps)⟩) V W f k) Tryz.call125 ⟨rfl, rfl, rfl, trivial⟩ ?_; rintro d4 d5 ⟨rfl, Q⟩; have R := Q.stp 999 H; refine ⟨_, rfl, ?_⟩; replace hB := hB.stp R; refine Za rfl (Ze [(3, (.bool f))] (nx (m_ ?_))); have S := Zj hF; subst S; refine Zr Tryz.results153 [(.bool f)] ?_; exact ⟨rfl, hB.keeps⟩
def bS_ (fuel : Nat) (c : b_) (d : List (List Int)) : Option ((List Int) × Bool) :=
  (cz_ fuel d (fun b => av_ fuel b c)) >>= fun a =>
  some (a.1, a.2)

def gC_ (oo : Tg) (t : Nat) (w : World) (r : Yl × Bool) : Ending → World → Prop := fun e w' => ∃ (a : Value) (o' : Tg), e = .returned (.tuple #[a, .bool r.2]) ∧ Ow w.heap.size 3 t o' w' a r.1 ∧ Keeps w w' ∧ ∀ b, b < w.heap.size → o' b = oo b
theorem go_ (fuel : Nat) (w : World) (oo : Tg) (t : Nat) (ht : 2 ≤ t) (B : List Value) (a : b_) (C : Rp.rd zt w B a) (i : Value) (k : Yk) (D : RdL zt w i k) (r : Yl × Bool) (hF : bS_ fuel a k = some r) :
    Calls Tryz.prog 105 #[.agg B.toArray, i] w (gC_ oo t w r) := by
 unfold bS_ at hF; obtain ⟨m, q, rfl, E, F⟩ := C; have hB : Bs oo (col oo) w w := Bs.start _ _; refine i_ (n := 11) (vs := [(.agg #[(ZI a.Labels), (ZI a.Degree), m, q]), i]) Tryz.func105 rfl rfl ?_; generalize col oo = o at *; refine Zq (Zo ?_); refine aK_ (o := o) w.heap.size 11 hB.keeps.size (cs := [(ZI a.Labels), (ZI a.Degree), m, q]) rfl rfl ?_; intro G s j H I; replace hB := hB.stp I; refine Za rfl (Za rfl (Ze [(1, i), (2, ZP j)] (Zn (Zm rfl (Zv (gE_ (vs := [(ZP j)]) ⟨rfl, trivial⟩) ?_))))); obtain ⟨b, f, hF⟩ := bind_some hF; refine Zo ?_; refine p_ (gV_ fuel s G 12 (by decide) _ k (D.keep hB.keeps) _ (fun c => av_ fuel c a) (show FnV Tryz.prog s (.func (.func 153) #[] #[(ZP j)]) (fun c => av_ fuel c a) from ⟨_, _, rfl, Tryz.call153, fun ww vs xx rr kk hok hG => by (obtain ⟨J, rfl, u⟩ := hok; exact fC_ fuel ww _ xx u j _ a ((H.cells).keep kk) (Rp.keep ((show Rp.rd zt s [(ZI a.Labels), (ZI a.Degree), m, q] (a : b_) from ⟨_, _, rfl, (E.keep hB.keeps), (F.keep hB.keeps)⟩)) kk) rr hG)⟩) b f) Tryz.call148 ⟨rfl, rfl, trivial⟩ ?_; rintro K L ⟨g, v, rfl, d, x, y⟩; have z := x.stp' 12 y; replace d := d.mono hB.keeps.size; refine ⟨_, rfl, ?_⟩; replace hB := hB.stp z; refine Zv (u_ rfl rfl) (Zv (u_ rfl rfl) (Za rfl (Za rfl (Ze [(4, g), (5, (.bool b.2))] (nx (m_ ?_)))))); have A := Zj hF; subst A; refine Zr Tryz.results105 [g, (.bool b.2)] ?_; exact ⟨_, rt oo v w.heap.size 12 t, rfl, d.rt hB (by decide) t, hB.keeps, af_ _ _ _ _ _⟩
def db_ (fuel : Nat) (d : b_) (a : Int) : Int → Int → Unit → Option (Lp Unit Unit ((List Int) × Bool)) := fun (f : Int) (b : Int) (s : Unit) =>
  (cl_ fuel d a b) >>= fun c =>
  if !c then
    some (.ret (([a, b] : List Int), true))
  else
    some (.go ())
def dI_ (fuel : Nat) (c : b_) (d : List Int) : Int → Int → Unit → Option (Lp Unit Unit ((List Int) × Bool)) := fun (f : Int) (a : Int) (s : Unit) =>
  (forI (db_ fuel c a) d 0 ()) >>= fun b =>
  match b with
  | .inl _ =>
    some (.go ())
  | .inr r' => some (.ret r')
def fl_ (fuel : Nat) (b : b_) (c : List Int) (d : List Int) : Option ((List Int) × Bool) :=
  (forI (dI_ fuel b d) c 0 ()) >>= fun a =>
  match a with
  | .inl _ =>
    some ([], false)
  | .inr r' => some r'

def hO_ (oo : Tg) (t : Nat) (w : World) (r : Yl × Bool) : Ending → World → Prop := fun e w' => ∃ (a : Value) (o' : Tg), e = .returned (.tuple #[a, .bool r.2]) ∧ Ow w.heap.size 3 t o' w' a r.1 ∧ Keeps w w' ∧ ∀ b, b < w.heap.size → o' b = oo b
theorem or_ (fuel : Nat) (w : World) (oo : Tg) (t : Nat) (ht : 2 ≤ t) (c0 : List Value) (u : b_) (c1 : Rp.rd zt w c0 u) (j : Value) (g : Yl) (W : RdL zt w j g) (d : Value) (s : Yl) (X : RdL zt w d s) (r : Yl × Bool) (hF : fl_ fuel u g s = some r) :
    Calls Tryz.prog 87 #[.agg c0.toArray, j, d] w (hO_ oo t w r) := by
 unfold fl_ at hF; obtain ⟨G, H, rfl, c2, c3⟩ := c1; have hB : Bs oo (col oo) w w := Bs.start _ _; refine i_ (n := 34) (vs := [(.agg #[(ZI u.Labels), (ZI u.Degree), G, H]), j, d]) Tryz.func87 rfl rfl ?_; generalize col oo = o at *; refine Zq (Zo ?_); refine aK_ (o := o) w.heap.size 11 hB.keeps.size (cs := [(ZI u.Labels), (ZI u.Degree), G, H]) rfl rfl ?_; intro c4 d7 k A c5; replace hB := hB.stp c5; refine Za rfl (Za rfl (Ze [(1, j), (2, d), (3, ZP k)] (nx (a_ (Zq (Zm rfl (Zv (C_ rfl W Tryz.underlying41) (Zm rfl (Ze [(2, d), (3, ZP k), (12, j), (13, (ZI (g.length : Int))), (14, ZI 0)] (nx ?_)))))))))); obtain ⟨D, I, hF⟩ := bind_some hF; refine A_ (fun a v => ∃ (m : Tg), D = .inl () ∧ Fr a 34 [] ∧ Bs oo m w v) (fun a w' => ∃ r', D = .inr r' ∧ bodyPost Tryz.prog Tryz.f87 (hO_ oo t w r') .ret a w') ?_ ?_ ?_
 ·refine f_ ?_; refine z_ (fun (K : Nat) a v => ∃ (b : Int) (m : Tg), forI (dI_ fuel u s) (g.drop b.toNat) b () = some D ∧ (g.drop b.toNat).length = K ∧ 0 ≤ b ∧ Fr a 34 [(2, d), (3, ZP k), (12, j), (13, (ZI (g.length : Int))), (14, ZI b)] ∧ Bs oo m w v ∧ Bx w.heap.size 11 m v k 28 [(ZI u.Labels), (ZI u.Degree), G, H]) _ (fun a ha => ⟨0, c4, I, rfl, Int.le_refl 0, ha.sub (r := [(2, d), (3, ZP k), (12, j), (13, (ZI (g.length : Int))), (14, ZI 0)]) ⟨rfl, rfl, rfl, rfl, rfl, trivial⟩, hB, A⟩) ?_; rintro K17 a v ⟨b, m, J, Y, Z, ha, hB, A⟩; by_cases B : b < (g.length : Int)
  ·obtain ⟨f, c6, L, x, M⟩ := V_ Z B J; have hle := W.len_le; dsimp only [dI_] at x; refine M_ ha ?_; refine Zq (Zv (t_ rfl rfl) (Ze [(2, d), (3, ZP k), (12, j), (13, (ZI (g.length : Int))), (14, ZI b), (15, (.bool (decide (b < (g.length : Int)))))] (nx (a_ ?_)))); refine P_ (Zb (decide_eq_true B)) ?_; refine g_ (nx (a_ (f_ (Zq (Zo ?_))))); refine wf_atZ W L hB rfl rfl Tryz.underlying41 Tryz.sizeOf3 ?_; intro c7 c8 c9 a0 a1; cases a1
   refine Zv (e_ rfl Tryz.isAgg3 (j_ a0)) (Za rfl (Ze [(2, d), (3, ZP k), (9, ZI f), (12, j), (13, (ZI (g.length : Int))), (14, ZI b)] (Zn (Zm rfl (Zv (C_ rfl X Tryz.underlying41) (Zm rfl (Ze [(2, d), (3, ZP k), (9, ZI f), (12, j), (13, (ZI (g.length : Int))), (14, ZI b), (18, d), (19, (ZI (s.length : Int))), (20, ZI 0)] (nx ?_)))))))); obtain ⟨E, N, x⟩ := bind_some x; refine A_ (fun a q => ∃ (i : Tg), E = .inl () ∧ Fr a 34 [(2, d), (3, ZP k), (12, j), (13, (ZI (g.length : Int))), (14, ZI b)] ∧ Bs oo i w q ∧ Bx w.heap.size 11 i q k 28 [(ZI u.Labels), (ZI u.Degree), G, H]) (fun a w' => ∃ r', E = .inr r' ∧ bodyPost Tryz.prog Tryz.f87 (hO_ oo t w r') .ret a w') ?_ ?_ ?_
   ·refine f_ ?_; refine z_ (fun (K : Nat) a q => ∃ (c : Int) (i : Tg), forI (db_ fuel u f) (s.drop c.toNat) c () = some E ∧ (s.drop c.toNat).length = K ∧ 0 ≤ c ∧ Fr a 34 [(2, d), (3, ZP k), (9, ZI f), (12, j), (13, (ZI (g.length : Int))), (14, ZI b), (18, d), (19, (ZI (s.length : Int))), (20, ZI c)] ∧ Bs oo i w q ∧ Bx w.heap.size 11 i q k 28 [(ZI u.Labels), (ZI u.Degree), G, H]) _ (fun a ha => ⟨0, m, N, rfl, Int.le_refl 0, ha.sub (r := [(2, d), (3, ZP k), (9, ZI f), (12, j), (13, (ZI (g.length : Int))), (14, ZI b), (18, d), (19, (ZI (s.length : Int))), (20, ZI 0)]) ⟨rfl, rfl, rfl, rfl, rfl, rfl, rfl, rfl, rfl, trivial⟩, hB, A⟩) ?_; rintro K35 a q ⟨c, i, O, a2, a3, ha, hB, A⟩; by_cases C : c < (s.length : Int)
    ·obtain ⟨z, d0, Q, y, R⟩ := V_ a3 C O; have hle := X.len_le; dsimp only [db_] at y; refine M_ ha ?_; refine Zq (Zv (t_ rfl rfl) (Ze [(2, d), (3, ZP k), (9, ZI f), (12, j), (13, (ZI (g.length : Int))), (14, ZI b), (18, d), (19, (ZI (s.length : Int))), (20, ZI c), (21, (.bool (decide (c < (s.length : Int)))))] (nx (a_ ?_)))); refine P_ (Zb (decide_eq_true C)) ?_; refine g_ (nx (a_ (f_ (Zq (Zo ?_))))); refine wf_atZ X Q hB rfl rfl Tryz.underlying41 Tryz.sizeOf3 ?_; intro d1 d2 d3 a4 a5; cases a5
     refine Zv (e_ rfl Tryz.isAgg3 (j_ a4)) (Za rfl (Ze [(2, d), (3, ZP k), (9, ZI f), (11, ZI z), (12, j), (13, (ZI (g.length : Int))), (14, ZI b), (18, d), (19, (ZI (s.length : Int))), (20, ZI c)] (Zn (Zv (L_ rfl Tryz.isAgg28 Tryz.sizeOf28 rfl A.cells) (Zm rfl (Zm rfl ?_)))))); obtain ⟨S, T, y⟩ := bind_some y; refine Zo ?_; refine p_ (gB_ fuel q _ u (⟨_, _, rfl, (c2.keep hB.keeps), (c3.keep hB.keeps)⟩) f z S T) Tryz.call125 ⟨rfl, rfl, rfl, trivial⟩ ?_; rintro d4 d5 ⟨rfl, a6⟩; have U := a6.stp 999 i; refine ⟨_, rfl, ?_⟩; replace A := A.stp U; replace hB := hB.stp U; refine Zv (ba_ rfl) (Ze [(2, d), (3, ZP k), (9, ZI f), (11, ZI z), (12, j), (13, (ZI (g.length : Int))), (14, ZI b), (18, d), (19, (ZI (s.length : Int))), (20, ZI c), (28, (.bool (!S)))] (nx ?_)); refine o_ rfl (fun F => ?_) (fun F => ?_)
     ·rw [if_pos F] at y; refine Zq (Zm rfl (Zm rfl (Zo ?_))); refine fF_ w.heap.size 13 hB.keeps.size (o := i) (cs := [(ZI f), (ZI z)]) (xs := ([f, z] : Yl)) (vs := [(0, ZI f), (1, ZI z)]) ⟨_, _, rfl, rfl, ⟨_, _, rfl, rfl, rfl⟩⟩ rfl ⟨rfl, rfl, rfl, rfl, trivial⟩ Tryz.underlying41 Tryz.sizeOf3 Tryz.zeroValue3 (by decide) (fill2 rfl rfl) (by simp) ?_; intro a7 d6 V a8 a9; replace hB := hB.stp a9; refine Za rfl (Za rfl (Ze [(6, V), (7, (.bool true))] (nx (m_ (ac_ (D_ (D_ (ac_ ?_)))))))); refine bQ_ ?_; have b0 := Zj y; subst b0; refine fun a ha => ⟨_, R, ?_⟩; refine H_ (P := Tryz.prog) (vs := [V, (.bool true)]) Tryz.results87 ⟨rfl, rfl, trivial⟩ ?_ a ha; exact ⟨_, rt oo a7 w.heap.size 13 t, rfl, a8.rt hB (by decide) t, hB.keeps, af_ _ _ _ _ _⟩
     ·rw [if_neg (by rw [F]; decide)] at y; refine g_ (y_ (nx (c_ (Zv (F_ rfl rfl (G_ (by omega) (by omega))) (Zm rfl (Ze [(2, d), (3, ZP k), (9, ZI f), (12, j), (13, (ZI (g.length : Int))), (14, ZI b), (18, d), (19, (ZI (s.length : Int))), (20, (ZI (c + 1)))] (w_ ?_))))))); have b1 := Zj y; subst b1; refine Zk [(2, d), (3, ZP k), (9, ZI f), (12, j), (13, (ZI (g.length : Int))), (14, ZI b), (18, d), (19, (ZI (s.length : Int))), (20, (ZI (c + 1)))] ?_; intro a ha; exact ⟨_, (by rw [← a2]; simp only [List.length_drop]; omega), c + 1, i, R, rfl, (by omega), ha, hB, A⟩
    ·have b2 := W_ C O; refine M_ ha ?_; refine Zq (Zv (t_ rfl rfl) (Ze [(2, d), (3, ZP k), (9, ZI f), (12, j), (13, (ZI (g.length : Int))), (14, ZI b), (18, d), (19, (ZI (s.length : Int))), (20, ZI c), (21, (.bool (decide (c < (s.length : Int)))))] (nx (a_ ?_)))); refine J_ (Zb (decide_eq_false C)) ?_; refine v_ ?_; refine r_ (r_ (Q_ ?_)); refine s_ ?_; refine Zk [(2, d), (3, ZP k), (12, j), (13, (ZI (g.length : Int))), (14, ZI b)] ?_; intro a ha; exact ⟨i, b2, ha, hB, A⟩
   ·rintro a q ⟨i, rfl, ha, hB, A⟩; dsimp only at x; refine ap_k ha ?_; refine y_ (nx (c_ (Zv (F_ rfl rfl (G_ (by omega) (by omega))) (Zm rfl (Ze [(2, d), (3, ZP k), (12, j), (13, (ZI (g.length : Int))), (14, (ZI (b + 1)))] (w_ ?_)))))); have b3 := Zj x; subst b3; refine Zk [(2, d), (3, ZP k), (12, j), (13, (ZI (g.length : Int))), (14, (ZI (b + 1)))] ?_; intro a ha; exact ⟨_, (by rw [← Y]; simp only [List.length_drop]; omega), b + 1, i, M, rfl, (by omega), ha, hB, A⟩
   ·rintro a q ⟨r', rfl, b4⟩; dsimp only at x; have b5 := Zj x; subst b5; exact ⟨_, M, b4⟩
  ·have b6 := W_ B J; refine M_ ha ?_; refine Zq (Zv (t_ rfl rfl) (Ze [(2, d), (3, ZP k), (12, j), (13, (ZI (g.length : Int))), (14, ZI b), (15, (.bool (decide (b < (g.length : Int)))))] (nx (a_ ?_)))); refine J_ (Zb (decide_eq_false B)) ?_; refine v_ ?_; refine r_ (r_ (Q_ ?_)); refine s_ ?_; refine Zk [] ?_; intro a ha; exact ⟨m, b6, ha, hB⟩
 ·rintro a v ⟨m, rfl, ha, hB⟩; dsimp only at hF; refine ap_k ha ?_; refine Zn (Za rfl (Za rfl (Ze [(6, (.slice none 0 0)), (7, (.bool false))] (nx (m_ ?_))))); have b7 := Zj hF; subst b7; refine Zr Tryz.results87 [(.slice none 0 0), (.bool false)] ?_; exact ⟨_, rt oo m w.heap.size 9 t, rfl, (Ow.nil _ _ _ _ _), hB.keeps, af_ _ _ _ _ _⟩
 ·rintro a v ⟨r', rfl, b8⟩; dsimp only at hF; have b9 := Zj hF; subst b9; exact b8
def dK_ (fuel : Nat) (b : b_) (c : List Int) (d : List Int) : Option Bool :=
  (fl_ fuel b c d) >>= fun a =>
  some (!a.2)

def kG_ (w : World) (r : Bool) : Ending → World → Prop := fun e w' => e = .returned (.bool r) ∧ Keeps w w'
theorem kn_ (fuel : Nat) (w : World) (s : List Value) (b : b_) (x : Rp.rd zt w s b) (d : Value) (g : Yl) (y : RdL zt w d g) (f : Value) (i : Yl) (z : RdL zt w f i) (r : Bool) (hF : dK_ fuel b g i = some r) :
    Calls Tryz.prog 69 #[.agg s.toArray, d, f] w (kG_ w r) := by
 unfold dK_ at hF; obtain ⟨u, v, rfl, A, B⟩ := x; have hB : Bs (fun _ => 1) (col (fun _ => 1)) w w := Bs.start _ _; refine i_ (n := 18) (vs := [(.agg #[(ZI b.Labels), (ZI b.Degree), u, v]), d, f]) Tryz.func69 rfl rfl ?_; refine Zq (Zo ?_); refine aK_ (o := (col (fun _ => 1))) w.heap.size 11 hB.keeps.size (cs := [(ZI b.Labels), (ZI b.Degree), u, v]) rfl rfl ?_; intro C D E F G; replace hB := hB.stp G; refine Za rfl (Ze [(1, d), (2, f), (3, ZP E)] (Zn (Zv (L_ rfl Tryz.isAgg28 Tryz.sizeOf28 rfl F.cells) (Zm rfl (Zm rfl ?_))))); obtain ⟨a, c, hF⟩ := bind_some hF; refine Zo ?_; refine p_ (or_ fuel D C 12 (by decide) _ b (⟨_, _, rfl, (A.keep hB.keeps), (B.keep hB.keeps)⟩) _ g (y.keep hB.keeps) _ i (z.keep hB.keeps) a c) Tryz.call87 ⟨rfl, rfl, rfl, trivial⟩ ?_; rintro H I ⟨J, K, rfl, L, j, k⟩; have m := j.stp' 12 k; refine ⟨_, rfl, ?_⟩; replace hB := hB.stp m; refine Zm rfl (Zv (u_ rfl rfl) (Zv (u_ rfl rfl) (Za rfl (Za rfl (Ze [(8, (.bool a.2))] (Zn (Zm rfl (Zv (ba_ rfl) (Za rfl (Ze [(6, (.bool (!a.2)))] (nx (m_ ?_)))))))))))); have q := Zj hF; subst q; refine Zr Tryz.results69 [(.bool (!a.2))] ?_; exact ⟨rfl, hB.keeps⟩
def en_ (fuel : Nat) (f : b_) (g : Int) : Int → Int → Option (Lp Int Int Int) := fun (a : Int) (s : Int) =>
  (dk_ fuel g) >>= fun b =>
  (dK_ fuel f b ([a] : List Int)) >>= fun c =>
  if c then
    (shl 1 a) >>= fun d =>
    some (.go (bor s d))
  else
    some (.go s)
def fk_ (fuel : Nat) (a : b_) (d : Int) : Option Int :=
  ck a.Labels >>= fun _ =>
  (forN (en_ fuel a d) (a.Labels).toNat 0 0) >>= fun b =>
  match b with
  | .inl c =>
    some c
  | .inr _ => none

def qs_ (w : World) (r : Int) : Ending → World → Prop := fun e w' => e = .returned (.int .i64 r) ∧ Keeps w w'
theorem lF_ (fuel : Nat) (w : World) (b6 : List Value) (f : b_) (b9 : Rp.rd zt w b6 f) (i : Int) (r : Int) (hF : fk_ fuel f i = some r) :
    Calls Tryz.prog 96 #[.agg b6.toArray, .int .i64 i] w (qs_ w r) := by
 unfold fk_ at hF; obtain ⟨I, J, rfl, c0, c1⟩ := b9; have hB : Bs (fun _ => 1) (col (fun _ => 1)) w w := Bs.start _ _; refine i_ (n := 24) (vs := [(.agg #[(ZI f.Labels), (ZI f.Degree), I, J]), (ZI i)]) Tryz.func96 rfl rfl ?_; refine Zq (Zo ?_); refine aK_ (o := (col (fun _ => 1))) w.heap.size 11 hB.keeps.size (cs := [(ZI f.Labels), (ZI f.Degree), I, J]) rfl rfl ?_; intro c2 f2 j k c3; replace hB := hB.stp c3; refine Za rfl (Ze [(1, ZI i), (2, ZP j)] (Zn (Za rfl (Ze [(1, ZI i), (2, ZP j), (5, ZI 0)] (nx (a_ (Zq (Zv (l_ rfl Tryz.underlying28 rfl Tryz.sizeOf3) (Zv (e_ rfl Tryz.isAgg3 (k.cell rfl)) (Zm rfl (Ze [(1, ZI i), (2, ZP j), (5, ZI 0), (8, ZI f.Labels), (9, ZI 0)] (nx ?_)))))))))))); obtain ⟨c4, V, hF⟩ := bind_some hF; obtain ⟨-, h15a, h15b⟩ := cj_ V; obtain ⟨L, M, hF⟩ := bind_some hF; refine A_ (fun a q => ∃ (c : Int) (m : Tg), L = .inl c ∧ Fr a 24 [(5, ZI c)] ∧ Bs (fun _ => 1) m w q) (fun _ _ => False) ?_ ?_ ?_
 ·refine f_ ?_; refine z_ (fun (K : Nat) a q => ∃ (b : Int) (c : Int) (m : Tg), forN (en_ fuel f i) (f.Labels - b).toNat b c = some L ∧ (f.Labels - b).toNat = K ∧ 0 ≤ b ∧ Fr a 24 [(1, ZI i), (2, ZP j), (5, ZI c), (8, ZI f.Labels), (9, ZI b)] ∧ Bs (fun _ => 1) m w q ∧ Bx w.heap.size 11 m q j 28 [(ZI f.Labels), (ZI f.Degree), I, J]) _ (fun a ha => ⟨0, 0, c2, (by rw [Int.sub_zero]; exact M), rfl, Int.le_refl 0, ha.sub (r := [(1, ZI i), (2, ZP j), (5, ZI 0), (8, ZI f.Labels), (9, ZI 0)]) ⟨rfl, rfl, rfl, rfl, rfl, trivial⟩, hB, k⟩) ?_; rintro K20 a q ⟨b, c, m, N, O, c5, ha, hB, k⟩; by_cases y : b < f.Labels
  ·obtain ⟨c6, g, P⟩ := bA_ y N; dsimp only [en_] at g; refine M_ ha ?_; refine Zq (Zv (t_ rfl rfl) (Ze [(1, ZI i), (2, ZP j), (5, ZI c), (8, ZI f.Labels), (9, ZI b), (10, (.bool (decide (b < f.Labels))))] (nx (a_ ?_)))); refine P_ (Zb (decide_eq_true y)) ?_; refine g_ (nx (a_ (f_ (Zq (Zm rfl (Za rfl (Ze [(1, ZI i), (2, ZP j), (5, ZI c), (6, ZI b), (8, ZI f.Labels), (9, ZI b)] (nx (a_ ?_))))))))); obtain ⟨A, Q, g⟩ := bind_some g; refine Z_ (o := m) [(1, ZI i), (2, ZP j), (5, ZI c), (6, ZI b), (8, ZI f.Labels), (9, ZI b)] [1, 2, 5, 6, 8, 9] [12, 13, 14, 15, 16] [[], [], [1], [], [3]] [none, none, none, none, none] [999, 999, 999, 999, 999] [0, 0, 12, 0, 0] [999] [fun v _ _ => v = (.agg #[(ZI f.Labels), (ZI f.Degree), I, J]), fun v _ _ => v = (ZI i), fun v o W => Ow w.heap.size 3 12 o W v A, fun v _ _ => v = (ZI b), fun v o W => RdL o W v (([b] : Yl) : Yl)] (fun b7 b8 => Bs (fun _ => 1) b7 w b8 ∧ Bx w.heap.size 11 b7 b8 j 28 [(ZI f.Labels), (ZI f.Degree), I, J]) E_ (by kernel_rfl) rfl ⟨rfl, rfl, rfl, rfl, rfl, rfl, trivial⟩ ⟨hB, k⟩ ?_ ⟨q_ _, q_ _, fun _ _ _ _ _ _ X hb h hs => h.stp hs X.1 (Ne.symm hb), q_ _, fun _ _ _ _ _ _ X hb h hs => h.stp hs X.1, trivial⟩ ?_ ?_
   ·rintro c7 f3 f4 f5 f6 E ⟨hB, k⟩ R; have E : c7 = 999 := by simpa using E
    subst E; all_goals exact ⟨hB.stp R (by decide), k.stp R (by decide)⟩
   ·refine ⟨?_, ?_, ?_, ?_, ?_, trivial⟩
    ·rintro c8 c9 d0 ha ⟨hB, k⟩ -; refine Zs ha ?_; refine d_ (L_ rfl Tryz.isAgg28 Tryz.sizeOf28 rfl k.cells) ?_; exact Zx rfl
    ·rintro d1 d2 d3 ha ⟨hB, k⟩ -; refine Zs ha ?_; refine d_ (h_ rfl) ?_; exact Zx rfl
    ·rintro Y Z d4 ha ⟨hB, k⟩ ⟨a0, -⟩; have ha := Fr.cons (d := 13) ha a0; refine Zs ha ?_; refine p_ (iY_ fuel Z Y 12 (by decide) i A Q) Tryz.call139 ⟨rfl, trivial⟩ ?_; rintro d5 d6 ⟨d7, d8, rfl, F, a1, a2⟩; have a3 := a1.stp' 999 a2; replace F := F.mono hB.keeps.size; refine ⟨_, rfl, ?_⟩; exact ⟨_, a3, F⟩
    ·rintro d9 e0 e1 ha ⟨hB, k⟩ -; refine Zs ha ?_; refine d_ (h_ rfl) ?_; exact Zx rfl
    ·rintro a4 e2 e3 ha ⟨hB, k⟩ ⟨a5, -⟩; have ha := Fr.cons (d := 15) ha a5; refine Zs ha ?_; refine aL_ (o := a4) (cs := [(ZI b)]) (xs := ([b] : Yl)) (vs := [(0, ZI b)]) ⟨_, _, rfl, rfl, rfl⟩ rfl ⟨rfl, rfl, trivial⟩ Tryz.underlying41 Tryz.sizeOf3 Tryz.zeroValue3 (by decide) (fill1 rfl) (by simp) ?_; intro e4 e5 e6 a6 a7 e7; exact ⟨_, a7, a6⟩
   rintro x G B ha ⟨hB, k⟩ ⟨a8, -, s, -, u, -⟩; have ha := Fr.cons (d := 12) ha a8; replace s : Ow w.heap.size 3 12 x G (B.tmps.getD 14 undef) A := s; generalize a9 : B.tmps.getD 14 undef = e8 at s; have ha := Fr.cons (d := 14) ha a9; replace u : RdL x G (B.tmps.getD 16 undef) (([b] : Yl) : Yl) := u; generalize b0 : B.tmps.getD 16 undef = e9 at u; have ha := Fr.cons (d := 16) ha b0; refine aV_ ha ?_; simp only [List.length_cons, List.length_nil, Nat.zero_add, Nat.reduceAdd, List.drop_succ_cons, List.drop_zero]; obtain ⟨S, T, g⟩ := bind_some g; refine Zo ?_; refine p_ (kn_ fuel G _ f (⟨_, _, rfl, (c0.keep hB.keeps), (c1.keep hB.keeps)⟩) _ A s.z _ ([b] : Yl) u.z S T) Tryz.call69 ⟨rfl, rfl, rfl, trivial⟩ ?_; rintro f0 f1 ⟨rfl, b1⟩; have C := b1.stp 999 x; refine ⟨_, rfl, ?_⟩; replace s := s.stp C; replace u := u.stp C; replace k := k.stp C; replace hB := hB.stp C; refine Ze [(1, ZI i), (2, ZP j), (5, ZI c), (6, ZI b), (8, ZI f.Labels), (9, ZI b), (17, (.bool S))] (nx ?_); refine o_ rfl (fun H => ?_) (fun H => ?_)
   ·rw [if_pos H] at g; refine c_ (Zm rfl (Zm rfl ?_)); obtain ⟨D, U, g⟩ := bind_some g; refine Zv (gU_ rfl rfl U) (Zv (rY_ rfl rfl) (Za rfl (Ze [(1, ZI i), (2, ZP j), (5, (ZI (bor c D))), (8, ZI f.Labels), (9, ZI b)] (y_ (nx (c_ (Zv (F_ rfl rfl (G_ (by omega) (by omega))) (Zm rfl (Ze [(1, ZI i), (2, ZP j), (5, (ZI (bor c D))), (8, ZI f.Labels), (9, (ZI (b + 1)))] (w_ ?_)))))))))); have b2 := Zj g; subst b2; refine Zk [(1, ZI i), (2, ZP j), (5, (ZI (bor c D))), (8, ZI f.Labels), (9, (ZI (b + 1)))] ?_; intro a ha; exact ⟨_, (by rw [← O]; omega), b + 1, bor c D, x, P, rfl, (by omega), ha, hB, k⟩
   ·rw [if_neg (by rw [H]; decide)] at g; refine g_ (y_ (nx (c_ (Zv (F_ rfl rfl (G_ (by omega) (by omega))) (Zm rfl (Ze [(1, ZI i), (2, ZP j), (5, ZI c), (8, ZI f.Labels), (9, (ZI (b + 1)))] (w_ ?_))))))); have b3 := Zj g; subst b3; refine Zk [(1, ZI i), (2, ZP j), (5, ZI c), (8, ZI f.Labels), (9, (ZI (b + 1)))] ?_; intro a ha; exact ⟨_, (by rw [← O]; omega), b + 1, c, x, P, rfl, (by omega), ha, hB, k⟩
  ·have b4 := bw_ y N; refine M_ ha ?_; refine Zq (Zv (t_ rfl rfl) (Ze [(1, ZI i), (2, ZP j), (5, ZI c), (8, ZI f.Labels), (9, ZI b), (10, (.bool (decide (b < f.Labels))))] (nx (a_ ?_)))); refine J_ (Zb (decide_eq_false y)) ?_; refine v_ ?_; refine r_ (r_ (Q_ ?_)); refine s_ ?_; refine Zk [(5, ZI c)] ?_; intro a ha; exact ⟨c, m, b4, ha, hB⟩
 ·rintro a q ⟨c, m, rfl, ha, hB⟩; dsimp only at hF; refine ap_k ha ?_; refine Zn (Zm rfl (Za rfl (Ze [(4, ZI c)] (nx (m_ ?_))))); have b5 := Zj hF; subst b5; refine Zr Tryz.results96 [(ZI c)] ?_; exact ⟨rfl, hB.keeps⟩
 ·exact fun _ _ h => h.elim
def cY_ (fuel : Nat) (f : List Int) : Int → Int → (List (List Int)) → Option (Lp (List (List Int)) (List (List Int)) (List (List Int))) := fun (g : Int) (a : Int) (s : List (List Int)) =>
  (ix f a) >>= fun b =>
  (dk_ fuel b) >>= fun c =>
  (push s c) >>= fun d =>
  some (.go d)
def eF_ (fuel : Nat) (b : List Int) (c : List Int) : Option (List (List Int)) :=
  (forI (cY_ fuel b) c 0 []) >>= fun a =>
  match a with
  | .inl d =>
    some d
  | .inr _ => none

def oI_ (oo : Tg) (t : Nat) (w : World) (r : Yk) : Ending → World → Prop := fun e w' => ∃ (a : Value) (c : List Hv) (o' : Tg), e = .returned (a) ∧ Ow w.heap.size 41 t o' w' a c ∧ Rws w.heap.size 3 (t + 1) o' w' c r ∧ Keeps w w' ∧ ∀ b, b < w.heap.size → o' b = oo b
theorem kg_ (fuel : Nat) (w : World) (oo : Tg) (t : Nat) (ht : 2 ≤ t) (g : Value) (P : Yl) (b2 : RdL zt w g P) (i : Value) (f : Yl) (Q : RdL zt w i f) (r : Yk) (hF : eF_ fuel P f = some r) :
    Calls Tryz.prog 101 #[g, i] w (oI_ oo t w r) := by
 unfold eF_ at hF; have hB : Bs oo (col oo) w w := Bs.start _ _; refine i_ (n := 24) (vs := [g, i]) Tryz.func101 rfl rfl ?_; generalize col oo = o at *; refine Zq (Za rfl (Ze [(0, g), (1, i)] (Zn (Za rfl (Ze [(0, g), (1, i), (5, (.slice none 0 0))] (nx (a_ (Zq (Zm rfl (Zv (C_ rfl Q Tryz.underlying41) (Zm rfl (Ze [(0, g), (5, (.slice none 0 0)), (8, i), (9, (ZI (f.length : Int))), (10, ZI 0)] ?_)))))))))))); refine nx ?_; have b3 : Ow w.heap.size 41 11 o w (.slice none 0 0) ([] : List Hv) := Ow.nil _ _ _ _ _; have b4 : Rws w.heap.size 3 12 o w [] ([] : Yk) := Rws.nil _ _ _ _ _; obtain ⟨E, F, hF⟩ := bind_some hF; refine A_ (fun a s => ∃ (z : Yk) (j : Value) (u : List Hv) (k : Tg), E = .inl z ∧ Fr a 24 [(5, j)] ∧ Bs oo k w s ∧ Ow w.heap.size 41 11 k s j u ∧ Rws w.heap.size 3 12 k s u z) (fun _ _ => False) ?_ ?_ ?_
 ·refine f_ ?_; refine z_ (fun (K : Nat) a s => ∃ (b : Int) (z : Yk) (j : Value) (u : List Hv) (k : Tg), forI (cY_ fuel P) (f.drop b.toNat) b z = some E ∧ (f.drop b.toNat).length = K ∧ 0 ≤ b ∧ Fr a 24 [(0, g), (5, j), (8, i), (9, (ZI (f.length : Int))), (10, ZI b)] ∧ Bs oo k w s ∧ Ow w.heap.size 41 11 k s j u ∧ Rws w.heap.size 3 12 k s u z) _ (fun a ha => ⟨0, [], (.slice none 0 0), [], o, F, rfl, Int.le_refl 0, ha.sub (r := [(0, g), (5, (.slice none 0 0)), (8, i), (9, (ZI (f.length : Int))), (10, ZI 0)]) ⟨rfl, rfl, rfl, rfl, rfl, trivial⟩, hB, b3, b4⟩) ?_; rintro K15 a s ⟨b, z, j, u, k, G, R, S, ha, hB, A, m⟩; by_cases v : b < (f.length : Int)
  ·obtain ⟨T, b5, H, d, U⟩ := V_ S v G; have hle := Q.len_le; dsimp only [cY_] at d; refine M_ ha ?_; refine Zq (Zv (t_ rfl rfl) (Ze [(0, g), (5, j), (8, i), (9, (ZI (f.length : Int))), (10, ZI b), (11, (.bool (decide (b < (f.length : Int)))))] (nx (a_ ?_)))); refine P_ (Zb (decide_eq_true v)) ?_; refine g_ (nx (a_ (f_ (Zq (Zo ?_))))); refine wf_atZ Q H hB rfl rfl Tryz.underlying41 Tryz.sizeOf3 ?_; intro b6 b7 b8 V W; cases W
   refine Zv (e_ rfl Tryz.isAgg3 (j_ V)) (Za rfl (Ze [(0, g), (5, j), (7, ZI T), (8, i), (9, (ZI (f.length : Int))), (10, ZI b)] (nx (c_ (Zm rfl (Zm rfl (Zm rfl ?_))))))); obtain ⟨X, I, d⟩ := bind_some d; refine Zo ?_; refine wf_atZ b2 I hB rfl rfl Tryz.underlying41 Tryz.sizeOf3 ?_; intro b9 c0 c1 Y Z; cases Z
   refine Zv (e_ rfl Tryz.isAgg3 (j_ Y)) ?_; obtain ⟨a0, J, d⟩ := bind_some d; refine Zo ?_; refine p_ (iY_ fuel s k 13 (by decide) X a0 J) Tryz.call139 ⟨rfl, trivial⟩ ?_; rintro c2 c3 ⟨q, a1, rfl, c, a2, a3⟩; have B := a2.stp' 13 a3; replace c := c.mono hB.keeps.size; refine ⟨_, rfl, ?_⟩; replace A := A.stp B; replace m := m.stp B; replace hB := hB.stp B; refine Zo ?_; refine aL_ (o := a1) (cs := [q]) (xs := ([⟨q⟩] : List Hv)) (vs := [(0, q)]) ⟨_, _, rfl, iH_ c, rfl⟩ rfl ⟨rfl, rfl, trivial⟩ Tryz.underlying22 Tryz.sizeOf41 Tryz.zeroValue41 (by decide) (fill1 c.cells1) (by simp) ?_; intro c4 c5 c6 a4 x c7; replace A := A.stp x; replace m := m.stp x; replace c := c.stp x; replace hB := hB.stp x; obtain ⟨a5, L, d⟩ := bind_some d; obtain ⟨a6, a7⟩ := m.pushV L q; refine Zo ?_; refine bo_ A a4 (au_ a6) (by decide) hB.keeps.size rfl rfl Tryz.underlying22 ji_ rfl (by decide) ?_; intro M c8 y C D; replace m := m.stp D; replace c := c.stp D; replace hB := hB.stp D; have N := m.push c (by decide) (by decide); rw [← a7] at N; clear m c; have O := eY_ 13 12 M; replace C := C.rc O (by decide) (by decide); replace hB := hB.rc O (by decide); generalize mrg 13 12 M = a8 at *; refine Za rfl (Ze [(0, g), (5, y), (8, i), (9, (ZI (f.length : Int))), (10, ZI b)] (y_ (nx (c_ (Zv (F_ rfl rfl (G_ (by omega) (by omega))) (Zm rfl (Ze [(0, g), (5, y), (8, i), (9, (ZI (f.length : Int))), (10, (ZI (b + 1)))] (w_ ?_)))))))); have a9 := Zj d; subst a9; refine Zk [(0, g), (5, y), (8, i), (9, (ZI (f.length : Int))), (10, (ZI (b + 1)))] ?_; intro a ha; exact ⟨_, (by rw [← R]; simp only [List.length_drop]; omega), b + 1, a5, y, (u ++ [⟨q⟩]), a8, U, rfl, (by omega), ha, hB, C, N⟩
  ·have b0 := W_ v G; refine M_ ha ?_; refine Zq (Zv (t_ rfl rfl) (Ze [(0, g), (5, j), (8, i), (9, (ZI (f.length : Int))), (10, ZI b), (11, (.bool (decide (b < (f.length : Int)))))] (nx (a_ ?_)))); refine J_ (Zb (decide_eq_false v)) ?_; refine v_ ?_; refine r_ (r_ (Q_ ?_)); refine s_ ?_; refine Zk [(5, j)] ?_; intro a ha; exact ⟨z, j, u, k, b0, ha, hB, A, m⟩
 ·rintro a s ⟨z, j, u, k, rfl, ha, hB, A, m⟩; dsimp only at hF; refine ap_k ha ?_; refine Zn (Zm rfl (Za rfl (Ze [(4, j)] (nx (m_ ?_))))); have b1 := Zj hF; subst b1; refine Zr Tryz.results101 [j] ?_; exact ⟨_, u, rt2 oo k w.heap.size 11 12 t, rfl, A.rt2 hB (by decide) (by decide) t, m.rt2 hB (by decide) (by decide) (by decide) t, hB.keeps, iA_ _ _ _ _ _ _⟩
 ·exact fun _ _ h => h.elim
def bY_ (fuel : Nat) (b : List Int) (c : b_) (d : List Int) : Option Bool :=
  (eF_ fuel d b) >>= fun f =>
  (ca_ fuel c f) >>= fun a =>
  some a.2

def kz_ (w : World) (r : Bool) : Ending → World → Prop := fun e w' => e = .returned (.bool r) ∧ Keeps w w'
theorem kC_ (fuel : Nat) (w : World) (D : Value) (Q : Yl) (c9 : RdL zt w D Q) (E : Nat) (c1 : List Value) (O : b_) (d0 : Cells w E 0 c1) (c2 : Rp.rd zt w c1 O) (F : Nat) (c3 : List Value) (G : Yl) (d1 : Cells w F 0 c3) (c4 : Rp.rd zt w c3 G) (r : Bool) (hF : bY_ fuel Q O G = some r) :
    Calls Tryz.prog 99 #[D, .pointer (some ⟨E, 0, none⟩), .pointer (some ⟨F, 0, none⟩)] w (kz_ w r) := by
 unfold bY_ at hF; have g1k := c2; obtain ⟨h4, h5, rfl, R, d2⟩ := c2; have g2k := c4; obtain ⟨h6, rfl, d3⟩ := c4; have hB : Bs (fun _ => 1) (col (fun _ => 1)) w w := Bs.start _ _; refine i_ (n := 16) (vs := [D, (ZP E), (ZP F)]) Tryz.func99 rfl rfl ?_; refine Zq (Za rfl (Ze [(0, D), (1, ZP E), (2, ZP F)] (nx (a_ ?_)))); obtain ⟨P, S, hF⟩ := bind_some hF; obtain ⟨a, H, hF⟩ := bind_some hF; refine Z_ (o := (col (fun _ => 1))) [(0, D), (1, ZP E), (2, ZP F)] [0, 1, 2] [8, 9, 10, 11, 12, 7, 13, 14, 5] [[], [], [], [1, 2], [0, 3], [4], [5], [5], [6]] [none, none, none, none, none, none, none, none, none] [999, 999, 999, 999, 999, 999, 999, 999, 999] [0, 0, 0, 0, 13, 13, 13, 0, 13] [999] [fun v o i => ∃ (c : List Value), v = .agg c.toArray ∧ Rp.rd zt w c O, fun v o i => RdL zt w v G, fun v _ _ => v = D, fun v o i => ∃ g : List Hv, Ow w.heap.size 41 2022 o i v g ∧ Rws w.heap.size 3 2023 o i g P, fun v o i => ∃ j, v = .tuple #[j, (.bool a.2)] ∧ Ow w.heap.size 3 13 o i j (a.1 : Yl), fun v o i => ∃ j, v = .tuple #[j, (.bool a.2)] ∧ Ow w.heap.size 3 13 o i j (a.1 : Yl), fun v o i => Ow w.heap.size 3 13 o i v (a.1 : Yl), fun v _ _ => v = (.bool a.2), fun v o i => Ow w.heap.size 3 13 o i v (a.1 : Yl)] (fun d4 d5 => Bs (fun _ => 1) d4 w d5) E_ (by kernel_rfl) rfl ⟨rfl, rfl, rfl, trivial⟩ hB ?_ ⟨fun _ _ _ _ _ _ b hb ⟨c, e, h⟩ hs => ⟨c, e, h⟩, fun _ _ _ _ _ _ b hb h hs => h, q_ _, fun _ _ _ _ _ _ b hb ⟨g, h, R⟩ hs => ⟨g, h.stp hs b.1 (Nat.ne_of_gt (Nat.lt_of_le_of_lt b.2 (by decide))), R.stp hs b.1 (Nat.ne_of_gt (Nat.lt_of_le_of_lt b.2 (by decide)))⟩, fun _ _ _ _ _ _ b hb ⟨j, e, s⟩ hs => ⟨j, e, s.stp hs b.1 (Ne.symm hb)⟩, fun _ _ _ _ _ _ b hb ⟨j, e, s⟩ hs => ⟨j, e, s.stp hs b.1 (Ne.symm hb)⟩, fun _ _ _ _ _ _ b hb h hs => h.stp hs b.1 (Ne.symm hb), q_ _, fun _ _ _ _ _ _ b hb h hs => h.stp hs b.1 (Ne.symm hb), trivial⟩ ?_ ?_
 ·rintro d6 h7 h8 h9 i0 u hB T; have u : d6 = 999 := by simpa using u
  subst u; all_goals exact hB.stp T (by decide)
 ·refine ⟨?_, ?_, ?_, ?_, ?_, ?_, ?_, ?_, ?_, trivial⟩
  ·rintro d7 d8 d9 ha hB -; refine Zs ha ?_; refine d_ (L_ rfl Tryz.isAgg28 Tryz.sizeOf28 rfl (d0.keep hB.keeps)) ?_; exact ⟨_, Stp.refl _ _ _, ⟨_, rfl, ⟨_, _, rfl, R, d2⟩⟩⟩
  ·rintro e0 e1 e2 ha hB -; refine Zs ha ?_; refine d_ (e_ rfl Tryz.isAgg41 (j_ (d1.keep hB.keeps))) ?_; exact ⟨_, Stp.refl _ _ _, d3⟩
  ·rintro e3 e4 e5 ha hB -; refine Zs ha ?_; refine d_ (h_ rfl) ?_; exact Zx rfl
  ·rintro U V I ha hB ⟨k, W, -⟩; replace k : RdL zt w (I.tmps.getD 9 undef) G := k; generalize X : I.tmps.getD 9 undef = e6 at k; have ha := Fr.cons (d := 9) ha X; have ha := Fr.cons (d := 10) ha W; refine Zs ha ?_; refine p_ (kg_ fuel V U 2022 (by decide) _ G (k.keep hB.keeps) _ Q (c9.keep hB.keeps) P S) Tryz.call101 ⟨rfl, rfl, trivial⟩ ?_; rintro e7 e8 ⟨e9, f0, f1, rfl, x, y, Y, Z⟩; have a0 := Y.stp' 999 Z; replace x := x.mono hB.keeps.size; replace y := y.mono hB.keeps.size; refine ⟨_, rfl, ?_⟩; exact ⟨_, a0, ⟨_, x, y⟩⟩
  ·rintro A B J ha hB ⟨a1, m, -⟩; obtain ⟨f2, a2, a3⟩ := a1; obtain ⟨f3, f4, rfl, a4, a5⟩ := a3; have ha := Fr.cons (d := 8) ha a2; replace m : ∃ g : List Hv, Ow w.heap.size 41 2022 A B (J.tmps.getD 11 undef) g ∧ Rws w.heap.size 3 2023 A B g P := m; generalize a6 : J.tmps.getD 11 undef = f5 at m; obtain ⟨f6, a7, a8⟩ := m; have ha := Fr.cons (d := 11) ha a6; refine Zs ha ?_; refine p_ (gv_ fuel B A 13 (by decide) _ O (⟨_, _, rfl, (a4.keep hB.keeps), (a5.keep hB.keeps)⟩) _ P (a8.z a7) a H) Tryz.call100 ⟨rfl, rfl, trivial⟩ ?_; rintro f7 f8 ⟨f9, g0, rfl, C, a9, b0⟩; have b1 := a9.stp' 999 b0; replace C := C.mono hB.keeps.size; refine ⟨_, rfl, ?_⟩; exact ⟨_, b1, ⟨_, rfl, C⟩⟩
  ·rintro g1 g2 g3 ha hB ⟨b2, -⟩; obtain ⟨g4, b3, b4⟩ := b2; have ha := Fr.cons (d := 12) ha b3; refine Zs ha ?_; refine d_ (h_ rfl) ?_; exact ⟨_, Stp.refl _ _ _, ⟨_, rfl, b4⟩⟩
  ·rintro g5 g6 g7 ha hB ⟨b5, -⟩; obtain ⟨g8, b6, b7⟩ := b5; have ha := Fr.cons (d := 7) ha b6; refine Zs ha ?_; refine d_ (u_ rfl rfl) ?_; exact ⟨_, Stp.refl _ _ _, b7⟩
  ·rintro g9 h0 h1 ha hB ⟨b8, -⟩; obtain ⟨h2, b9, h3⟩ := b8; have ha := Fr.cons (d := 7) ha b9; refine Zs ha ?_; refine d_ (u_ rfl rfl) ?_; exact Zx rfl
  ·rintro c0 K q ha hB ⟨f, -⟩; replace f : Ow w.heap.size 3 13 c0 K (q.tmps.getD 13 undef) (a.1 : Yl) := f; generalize L : q.tmps.getD 13 undef = c5 at f; have ha := Fr.cons (d := 13) ha L; refine Zs ha ?_; refine d_ (ah_ rfl) ?_; exact ⟨_, Stp.refl _ _ _, f⟩
 rintro c6 c7 c8 ha hB ⟨-, -, -, -, -, -, -, M, -, -⟩; have ha := Fr.cons (d := 14) ha M; refine aV_ ha ?_; simp only [List.length_cons, List.length_nil, Nat.zero_add, Nat.reduceAdd, List.drop_succ_cons, List.drop_zero]; refine Za rfl (Ze [(6, (.bool a.2))] (Zn (Zm rfl (Za rfl (Ze [(4, (.bool a.2))] (nx (m_ ?_))))))); have N := Zj hF; subst N; refine Zr Tryz.results99 [(.bool a.2)] ?_; exact ⟨rfl, hB.keeps⟩
end

end Go.Proofs.YtdbbeldgdgonfaaGreat
