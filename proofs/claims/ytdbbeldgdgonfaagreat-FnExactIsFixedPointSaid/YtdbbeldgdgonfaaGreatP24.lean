/- Part 24 of what this claim rests on (GRo, GRs), packed by pack.py. -/
import Derived.Test.YtdbbeldgdgonfaaGreatP03
import Derived.Test.YtdbbeldgdgonfaaGreatP07
import Derived.Test.YtdbbeldgdgonfaaGreatP08
import Derived.Test.YtdbbeldgdgonfaaGreatP09
import Derived.Test.YtdbbeldgdgonfaaGreatP22
namespace Go.Proofs.YtdbbeldgdgonfaaGreat
set_option linter.unusedSimpArgs false
set_option linter.unusedVariables false

section
set_option maxRecDepth 100000
set_option maxHeartbeats 2000000
open Go.RowKit
theorem jz_ : Inf Tryz.prog 3 (.int .i64 0) 1 8 := by unfold Inf; kernel_rfl

def bg_ (c : List Int) (d : Int) : Int → Unit → Option (Lp Unit Unit Int) := fun (b : Int) (s : Unit) =>
  (ix c b) >>= fun a =>
  if d == a then
    some (.ret b)
  else
    some (.go ())
def bb_ (a : List Int) (b : Int) : Option Int :=
  ck (a.length : Int) >>= fun _ =>
  (forN (bg_ a b) ((a.length : Int)).toNat 0 ()) >>= fun c =>
  match c with
  | .inl _ =>
    some (-1)
  | .inr r' => some r'

def dG_ (w : World) (r : Int) : Ending → World → Prop := fun e w' => e = .returned (.int .i64 r) ∧ Keeps w w'
theorem fK_ (w : World) (g : Value) (c : Yl) (G : RdL zt w g c) (d : Int) (r : Int) (hF : bb_ c d = some r) :
    Calls Tryz.prog 161 #[g, .int .i64 d] w (dG_ w r) := by
 unfold bb_ at hF; have hB : Bs (fun _ => 1) (col (fun _ => 1)) w w := Bs.start _ _; refine i_ (n := 19) (vs := [g, (ZI d)]) Tryz.func161 rfl rfl ?_; refine Zq (Za rfl (Ze [(0, g), (1, ZI d)] (nx (a_ (Zq (Zm rfl (Zv (C_ rfl G Tryz.underlying41) (Zm rfl (Ze [(0, g), (1, ZI d), (7, (ZI (c.length : Int))), (8, ZI 0)] (nx ?_)))))))))); obtain ⟨Q, I, hF⟩ := bind_some hF; obtain ⟨-, h5a, h5b⟩ := cj_ I; obtain ⟨u, v, hF⟩ := bind_some hF; refine A_ (fun a m => ∃ (j : Tg), u = .inl () ∧ Fr a 19 [] ∧ Bs (fun _ => 1) j w m) (fun a w' => ∃ r', u = .inr r' ∧ bodyPost Tryz.prog Tryz.f161 (dG_ w r') .ret a w') ?_ ?_ ?_
 ·refine f_ ?_; refine z_ (fun (K : Nat) a m => ∃ (b : Int) (j : Tg), forN (bg_ c d) ((c.length : Int) - b).toNat b () = some u ∧ ((c.length : Int) - b).toNat = K ∧ 0 ≤ b ∧ Fr a 19 [(0, g), (1, ZI d), (7, (ZI (c.length : Int))), (8, ZI b)] ∧ Bs (fun _ => 1) j w m) _ (fun a ha => ⟨0, (col (fun _ => 1)), (by rw [Int.sub_zero]; exact v), rfl, Int.le_refl 0, ha.sub (r := [(0, g), (1, ZI d), (7, (ZI (c.length : Int))), (8, ZI 0)]) ⟨rfl, rfl, rfl, rfl, trivial⟩, hB⟩) ?_; rintro K10 a m ⟨b, j, H, J, R, ha, hB⟩; by_cases i : b < (c.length : Int)
  ·obtain ⟨L, f, q⟩ := bA_ i H; dsimp only [bg_] at f; refine M_ ha ?_; refine Zq (Zv (t_ rfl rfl) (Ze [(0, g), (1, ZI d), (7, (ZI (c.length : Int))), (8, ZI b), (9, (.bool (decide (b < (c.length : Int)))))] (nx (a_ ?_)))); refine P_ (Zb (decide_eq_true i)) ?_; refine g_ (nx (a_ (f_ (Zq (Zm rfl (Za rfl (Ze [(0, g), (1, ZI d), (5, ZI b), (7, (ZI (c.length : Int))), (8, ZI b)] (Zn (Zm rfl (Zm rfl (Zm rfl ?_))))))))))); obtain ⟨x, s, f⟩ := bind_some f; refine Zo ?_; refine wf_atZ G s hB rfl rfl Tryz.underlying41 Tryz.sizeOf3 ?_; intro M N O y z; cases z
   refine Zv (e_ rfl Tryz.isAgg3 (j_ y)) (Zv (cE_ rfl rfl) (Ze [(0, g), (1, ZI d), (5, ZI b), (7, (ZI (c.length : Int))), (8, ZI b), (16, (.bool (d == x)))] (nx ?_))); refine o_ rfl (fun k => ?_) (fun k => ?_)
   ·rw [if_pos k] at f; refine Zq (Zm rfl (Za rfl (Ze [(4, ZI b)] (nx (m_ (ac_ (D_ (D_ (ac_ ?_))))))))); refine bQ_ ?_; have A := Zj f; subst A; refine fun a ha => ⟨_, q, ?_⟩; refine H_ (P := Tryz.prog) (vs := [(ZI b)]) Tryz.results161 ⟨rfl, trivial⟩ ?_ a ha; exact ⟨rfl, hB.keeps⟩
   ·rw [if_neg (by rw [k]; decide)] at f; refine g_ (y_ (nx (c_ (Zv (F_ rfl rfl (G_ (by omega) (by omega))) (Zm rfl (Ze [(0, g), (1, ZI d), (7, (ZI (c.length : Int))), (8, (ZI (b + 1)))] (w_ ?_))))))); have B := Zj f; subst B; refine Zk [(0, g), (1, ZI d), (7, (ZI (c.length : Int))), (8, (ZI (b + 1)))] ?_; intro a ha; exact ⟨_, (by rw [← J]; omega), b + 1, j, q, rfl, (by omega), ha, hB⟩
  ·have C := bw_ i H; refine M_ ha ?_; refine Zq (Zv (t_ rfl rfl) (Ze [(0, g), (1, ZI d), (7, (ZI (c.length : Int))), (8, ZI b), (9, (.bool (decide (b < (c.length : Int)))))] (nx (a_ ?_)))); refine J_ (Zb (decide_eq_false i)) ?_; refine v_ ?_; refine r_ (r_ (Q_ ?_)); refine s_ ?_; refine Zk [] ?_; intro a ha; exact ⟨j, C, ha, hB⟩
 ·rintro a m ⟨j, rfl, ha, hB⟩; dsimp only at hF; refine ap_k ha ?_; refine Zn (Za rfl (Ze [(4, (ZI (-1)))] (nx (m_ ?_)))); have D := Zj hF; subst D; refine Zr Tryz.results161 [(ZI (-1))] ?_; exact ⟨rfl, hB.keeps⟩
 ·rintro a m ⟨r', rfl, E⟩; dsimp only at hF; have F := Zj hF; subst F; exact E
def aO_ (a : List Int) (b : Int) : Option Bool :=
  (bb_ a b) >>= fun c =>
  some (decide (c ≥ 0))

def eW_ (w : World) (r : Bool) : Ending → World → Prop := fun e w' => e = .returned (.bool r) ∧ Keeps w w'
theorem eX_ (w : World) (b : Value) (c : Yl) (g : RdL zt w b c) (a : Int) (r : Bool) (hF : aO_ c a = some r) :
    Calls Tryz.prog 118 #[b, .int .i64 a] w (eW_ w r) := by
 unfold aO_ at hF; have hB : Bs (fun _ => 1) (col (fun _ => 1)) w w := Bs.start _ _; refine i_ (n := 9) (vs := [b, (ZI a)]) Tryz.func118 rfl rfl ?_; refine Zq (Za rfl (Ze [(0, b), (1, ZI a)] (Zn (Zm rfl (Zm rfl ?_))))); obtain ⟨d, f, hF⟩ := bind_some hF; refine Zo ?_; refine p_ (fK_ w _ c (g.keep hB.keeps) a d f) Tryz.call161 ⟨rfl, rfl, trivial⟩ ?_; rintro m q ⟨rfl, i⟩; have j := i.stp 999 (col (fun _ => 1)); refine ⟨_, rfl, ?_⟩; replace hB := hB.stp j; refine Zv (je_ rfl rfl) (Za rfl (Ze [(4, (.bool (decide (d ≥ 0))))] (nx (m_ ?_)))); have k := Zj hF; subst k; refine Zr Tryz.results118 [(.bool (decide (d ≥ 0)))] ?_; exact ⟨rfl, hB.keeps⟩
def by_ (d : bX_) : Int → Int → (List Int) → Option (Lp (List Int) (List Int) Bool) := fun (f : Int) (a : Int) (s : List Int) =>
  (ix d.perm a) >>= fun b =>
  (push s b) >>= fun c =>
  some (.go c)
def bB_ (fuel : Nat) (j : bX_) (k : List (List Int)) (b : Int) : Int → (List Int) → Unit → Option (Lp Unit Unit Bool) := fun (m : Int) (a : List Int) (s : Unit) =>
  (ck ((a.length : Int) - 1)) >>= fun c =>
  (ix a c) >>= fun d =>
  if d != b then
    some (.go ())
  else
    (forI (by_ j) a 0 []) >>= fun f =>
    match f with
    | .inl g =>
      (aW_ fuel k g) >>= fun i =>
      if !i then
        some (.ret false)
      else
        some (.go ())
    | .inr _ => none
def bF_ (fuel : Nat) (c : bX_) (d : List (List Int)) (f : List (List Int)) : Option Bool :=
  (ck ((c.perm.length : Int) - 1)) >>= fun a =>
  (forI (bB_ fuel c f a) d 0 ()) >>= fun b =>
  match b with
  | .inl _ =>
    some true
  | .inr r' => some r'

def fu_ (w : World) (r : Bool) : Ending → World → Prop := fun e w' => e = .returned (.bool r) ∧ Keeps w w'
theorem dS_ (fuel : Nat) (w : World) (i : Nat) (d9 : List Value) (a5 : bX_) (e0 : Cells w i 0 d9) (e1 : Rp.rd zt w d9 a5) (j : Value) (g : Yk) (a7 : RdL zt w j g) (k : Value) (a6 : Yk) (e2 : RdL zt w k a6) (r : Bool) (hF : bF_ fuel a5 g a6 = some r) :
    Calls Tryz.prog 119 #[.pointer (some ⟨i, 0, none⟩), j, k] w (fu_ w r) := by
 unfold bF_ at hF; have g0k := e1; obtain ⟨g5, g6, g7, g8, g9, rfl, h0, h1, h2, h3, N⟩ := e1; have hB : Bs (fun _ => 1) (col (fun _ => 1)) w w := Bs.start _ _; refine i_ (n := 55) (vs := [(ZP i), j, k]) Tryz.func119 rfl rfl ?_; refine Zq (Za rfl (Ze [(0, ZP i), (1, j), (2, k)] (Zn (Zm rfl (Zv (bh_ rfl) (Zv (l_ rfl Tryz.underlying85 rfl Tryz.sizeOf41) (Zv (e_ rfl Tryz.isAgg41 ((e0.keep hB.keeps) 8 _ rfl)) (Zv (C_ rfl N Tryz.underlying41) ?_)))))))); obtain ⟨c, O, hF⟩ := bind_some hF; refine Zv (bt_ rfl rfl O) (Za rfl (Ze [(0, ZP i), (1, j), (2, k), (7, ZI c)] (nx (a_ (Zq (Zm rfl (Zv (C_ rfl a7 Tryz.underlying22) (Zm rfl (Ze [(0, ZP i), (2, k), (7, ZI c), (19, j), (20, (ZI (g.length : Int))), (21, ZI 0)] (nx ?_)))))))))); obtain ⟨H, Q, hF⟩ := bind_some hF; refine A_ (fun a A => ∃ (v : Tg), H = .inl () ∧ Fr a 55 [] ∧ Bs (fun _ => 1) v w A) (fun a w' => ∃ r', H = .inr r' ∧ bodyPost Tryz.prog Tryz.f119 (fu_ w r') .ret a w') ?_ ?_ ?_
 ·refine f_ ?_; refine z_ (fun (K : Nat) a A => ∃ (b : Int) (v : Tg), forI (bB_ fuel a5 a6 c) (g.drop b.toNat) b () = some H ∧ (g.drop b.toNat).length = K ∧ 0 ≤ b ∧ Fr a 55 [(0, ZP i), (2, k), (7, ZI c), (19, j), (20, (ZI (g.length : Int))), (21, ZI b)] ∧ Bs (fun _ => 1) v w A) _ (fun a ha => ⟨0, (col (fun _ => 1)), Q, rfl, Int.le_refl 0, ha.sub (r := [(0, ZP i), (2, k), (7, ZI c), (19, j), (20, (ZI (g.length : Int))), (21, ZI 0)]) ⟨rfl, rfl, rfl, rfl, rfl, rfl, trivial⟩, hB⟩) ?_; rintro K19 a A ⟨b, v, R, S, a8, ha, hB⟩; by_cases E : b < (g.length : Int)
  ·obtain ⟨m, e3, T, d, I⟩ := V_ a8 E R; have hle := a7.len_le; dsimp only [bB_] at d; refine M_ ha ?_; refine Zq (Zv (t_ rfl rfl) (Ze [(0, ZP i), (2, k), (7, ZI c), (19, j), (20, (ZI (g.length : Int))), (21, ZI b), (22, (.bool (decide (b < (g.length : Int)))))] (nx (a_ ?_)))); refine P_ (Zb (decide_eq_true E)) ?_; refine g_ (nx (a_ (f_ (Zq (Zo ?_))))); refine wf_atZ a7 T hB rfl rfl Tryz.underlying22 Tryz.sizeOf41 ?_; intro e4 e5 e6 a9 b0; obtain ⟨q, rfl, D⟩ := b0; refine Zv (e_ rfl Tryz.isAgg41 (j_ a9)) (Za rfl (Ze [(0, ZP i), (2, k), (7, ZI c), (9, q), (19, j), (20, (ZI (g.length : Int))), (21, ZI b)] (nx (a_ (Zq (Zm rfl (Zm rfl (Zv (C_ rfl D Tryz.underlying41) ?_)))))))); obtain ⟨e7, U, d⟩ := bind_some d; refine Zv (bt_ rfl rfl U) ?_; obtain ⟨b1, V, d⟩ := bind_some d; refine Zo ?_; refine wf_atZ D V hB rfl rfl Tryz.underlying41 Tryz.sizeOf3 ?_; intro e8 e9 f0 b2 b3; cases b3
   refine Zv (e_ rfl Tryz.isAgg3 (j_ b2)) (Zm rfl (Zv (bK_ rfl rfl) (Ze [(0, ZP i), (2, k), (7, ZI c), (9, q), (19, j), (20, (ZI (g.length : Int))), (21, ZI b), (32, (.bool (b1 != c)))] (nx ?_)))); refine o_ rfl (fun J => ?_) (fun J => ?_)
   ·rw [if_pos J] at d; refine v_ ?_; refine r_ (Q_ (nx (c_ (Zv (F_ rfl rfl (G_ (by omega) (by omega))) (Zm rfl (Ze [(0, ZP i), (2, k), (7, ZI c), (19, j), (20, (ZI (g.length : Int))), (21, (ZI (b + 1)))] (w_ ?_))))))); have b4 := Zj d; subst b4; refine Zk [(0, ZP i), (2, k), (7, ZI c), (19, j), (20, (ZI (g.length : Int))), (21, (ZI (b + 1)))] ?_; intro a ha; exact ⟨_, (by rw [← S]; simp only [List.length_drop]; omega), b + 1, v, I, rfl, (by omega), ha, hB⟩
   ·rw [if_neg (by rw [J]; decide)] at d; refine g_ (Zn (Za rfl (Ze [(0, ZP i), (2, k), (7, ZI c), (9, q), (10, (.slice none 0 0)), (19, j), (20, (ZI (g.length : Int))), (21, ZI b)] (nx (a_ (Zq (Zm rfl (Zv (C_ rfl D Tryz.underlying41) (Zm rfl (Ze [(0, ZP i), (2, k), (7, ZI c), (10, (.slice none 0 0)), (19, j), (20, (ZI (g.length : Int))), (21, ZI b), (33, q), (34, (ZI (m.length : Int))), (35, ZI 0)] (nx ?_))))))))))); have b5 : Ow w.heap.size 3 11 v A (.slice none 0 0) ([] : Yl) := Ow.nil _ _ _ _ _; obtain ⟨W, X, d⟩ := bind_some d; refine A_ (fun a y => ∃ (x : Yl) (s : Value) (u : Tg), W = .inl x ∧ Fr a 55 [(0, ZP i), (2, k), (7, ZI c), (10, s), (19, j), (20, (ZI (g.length : Int))), (21, ZI b)] ∧ Bs (fun _ => 1) u w y ∧ Ow w.heap.size 3 11 u y s x) (fun _ _ => False) ?_ ?_ ?_
    ·refine f_ ?_; refine z_ (fun (K : Nat) a y => ∃ (f : Int) (x : Yl) (s : Value) (u : Tg), forI (by_ a5) (m.drop f.toNat) f x = some W ∧ (m.drop f.toNat).length = K ∧ 0 ≤ f ∧ Fr a 55 [(0, ZP i), (2, k), (7, ZI c), (10, s), (19, j), (20, (ZI (g.length : Int))), (21, ZI b), (33, q), (34, (ZI (m.length : Int))), (35, ZI f)] ∧ Bs (fun _ => 1) u w y ∧ Ow w.heap.size 3 11 u y s x) _ (fun a ha => ⟨0, [], (.slice none 0 0), v, X, rfl, Int.le_refl 0, ha.sub (r := [(0, ZP i), (2, k), (7, ZI c), (10, (.slice none 0 0)), (19, j), (20, (ZI (g.length : Int))), (21, ZI b), (33, q), (34, (ZI (m.length : Int))), (35, ZI 0)]) ⟨rfl, rfl, rfl, rfl, rfl, rfl, rfl, rfl, rfl, rfl, trivial⟩, hB, b5⟩) ?_; rintro K52 a y ⟨f, x, s, u, Y, b6, b7, ha, hB, B⟩; by_cases F : f < (m.length : Int)
     ·obtain ⟨b8, f1, Z, C, b9⟩ := V_ b7 F Y; have hle := D.len_le; dsimp only [by_] at C; refine M_ ha ?_; refine Zq (Zv (t_ rfl rfl) (Ze [(0, ZP i), (2, k), (7, ZI c), (10, s), (19, j), (20, (ZI (g.length : Int))), (21, ZI b), (33, q), (34, (ZI (m.length : Int))), (35, ZI f), (36, (.bool (decide (f < (m.length : Int)))))] (nx (a_ ?_)))); refine P_ (Zb (decide_eq_true F)) ?_; refine g_ (nx (a_ (f_ (Zq (Zo ?_))))); refine wf_atZ D Z hB rfl rfl Tryz.underlying41 Tryz.sizeOf3 ?_; intro f2 f3 f4 c0 c1; cases c1
      refine Zv (e_ rfl Tryz.isAgg3 (j_ c0)) (Za rfl (Ze [(0, ZP i), (2, k), (7, ZI c), (10, s), (12, ZI b8), (19, j), (20, (ZI (g.length : Int))), (21, ZI b), (33, q), (34, (ZI (m.length : Int))), (35, ZI f)] (nx (c_ (Zm rfl (Zm rfl (Zv (bh_ rfl) (Zv (l_ rfl Tryz.underlying85 rfl Tryz.sizeOf41) (Zv (e_ rfl Tryz.isAgg41 ((e0.keep hB.keeps) 8 _ rfl)) (Zm rfl ?_)))))))))); obtain ⟨L, a0, C⟩ := bind_some C; refine Zo ?_; refine wf_atZ N a0 hB rfl rfl Tryz.underlying41 Tryz.sizeOf3 ?_; intro f5 f6 f7 c2 c3; cases c3
      refine Zv (e_ rfl Tryz.isAgg3 (j_ c2)) (Zo ?_); refine aL_ (o := u) (cs := [(ZI L)]) (xs := ([L] : Yl)) (vs := [(0, ZI L)]) ⟨_, _, rfl, rfl, rfl⟩ rfl ⟨rfl, rfl, trivial⟩ Tryz.underlying41 Tryz.sizeOf3 Tryz.zeroValue3 (by decide) (fill1 rfl) (by simp) ?_; intro f8 f9 g0 c4 a1 g1; replace B := B.stp a1; replace hB := hB.stp a1; obtain ⟨c5, a2, C⟩ := bind_some C; refine Zo ?_; refine bo_ B c4 (au_ a2) (by decide) hB.keeps.size rfl rfl Tryz.underlying41 jz_ rfl (by decide) ?_; intro c6 g2 G c7 c8; replace hB := hB.stp c8; refine Za rfl (Ze [(0, ZP i), (2, k), (7, ZI c), (10, G), (19, j), (20, (ZI (g.length : Int))), (21, ZI b), (33, q), (34, (ZI (m.length : Int))), (35, ZI f)] (y_ (nx (c_ (Zv (F_ rfl rfl (G_ (by omega) (by omega))) (Zm rfl (Ze [(0, ZP i), (2, k), (7, ZI c), (10, G), (19, j), (20, (ZI (g.length : Int))), (21, ZI b), (33, q), (34, (ZI (m.length : Int))), (35, (ZI (f + 1)))] (w_ ?_)))))))); have c9 := Zj C; subst c9; refine Zk [(0, ZP i), (2, k), (7, ZI c), (10, G), (19, j), (20, (ZI (g.length : Int))), (21, ZI b), (33, q), (34, (ZI (m.length : Int))), (35, (ZI (f + 1)))] ?_; intro a ha; exact ⟨_, (by rw [← b6]; simp only [List.length_drop]; omega), f + 1, c5, G, c6, b9, rfl, (by omega), ha, hB, c7⟩
     ·have d0 := W_ F Y; refine M_ ha ?_; refine Zq (Zv (t_ rfl rfl) (Ze [(0, ZP i), (2, k), (7, ZI c), (10, s), (19, j), (20, (ZI (g.length : Int))), (21, ZI b), (33, q), (34, (ZI (m.length : Int))), (35, ZI f), (36, (.bool (decide (f < (m.length : Int)))))] (nx (a_ ?_)))); refine J_ (Zb (decide_eq_false F)) ?_; refine v_ ?_; refine r_ (r_ (Q_ ?_)); refine s_ ?_; refine Zk [(0, ZP i), (2, k), (7, ZI c), (10, s), (19, j), (20, (ZI (g.length : Int))), (21, ZI b)] ?_; intro a ha; exact ⟨x, s, u, d0, ha, hB, B⟩
    ·rintro a y ⟨x, s, u, rfl, ha, hB, B⟩; dsimp only at d; refine ap_k ha ?_; refine Zn (Zm rfl (Zm rfl ?_)); obtain ⟨a3, a4, d⟩ := bind_some d; refine Zo ?_; refine p_ (dl_ fuel y _ a6 (e2.keep hB.keeps) _ x B.z a3 a4) Tryz.call162 ⟨rfl, rfl, trivial⟩ ?_; rintro g3 g4 ⟨rfl, d1⟩; have d2 := d1.stp 999 u; refine ⟨_, rfl, ?_⟩; replace hB := hB.stp d2; refine Zv (ba_ rfl) (Ze [(0, ZP i), (2, k), (7, ZI c), (19, j), (20, (ZI (g.length : Int))), (21, ZI b), (53, (.bool (!a3)))] (nx ?_)); refine o_ rfl (fun M => ?_) (fun M => ?_)
     ·rw [if_pos M] at d; refine Zq (Za rfl (Ze [(6, (.bool false))] (nx (m_ (ac_ (D_ (D_ (ac_ ?_)))))))); refine bQ_ ?_; have d3 := Zj d; subst d3; refine fun a ha => ⟨_, I, ?_⟩; refine H_ (P := Tryz.prog) (vs := [(.bool false)]) Tryz.results119 ⟨rfl, trivial⟩ ?_ a ha; exact ⟨rfl, hB.keeps⟩
     ·rw [if_neg (by rw [M]; decide)] at d; refine g_ (y_ (nx (c_ (Zv (F_ rfl rfl (G_ (by omega) (by omega))) (Zm rfl (Ze [(0, ZP i), (2, k), (7, ZI c), (19, j), (20, (ZI (g.length : Int))), (21, (ZI (b + 1)))] (w_ ?_))))))); have d4 := Zj d; subst d4; refine Zk [(0, ZP i), (2, k), (7, ZI c), (19, j), (20, (ZI (g.length : Int))), (21, (ZI (b + 1)))] ?_; intro a ha; exact ⟨_, (by rw [← S]; simp only [List.length_drop]; omega), b + 1, u, I, rfl, (by omega), ha, hB⟩
    ·exact fun _ _ h => h.elim
  ·have d5 := W_ E R; refine M_ ha ?_; refine Zq (Zv (t_ rfl rfl) (Ze [(0, ZP i), (2, k), (7, ZI c), (19, j), (20, (ZI (g.length : Int))), (21, ZI b), (22, (.bool (decide (b < (g.length : Int)))))] (nx (a_ ?_)))); refine J_ (Zb (decide_eq_false E)) ?_; refine v_ ?_; refine r_ (r_ (Q_ ?_)); refine s_ ?_; refine Zk [] ?_; intro a ha; exact ⟨v, d5, ha, hB⟩
 ·rintro a A ⟨v, rfl, ha, hB⟩; dsimp only at hF; refine ap_k ha ?_; refine Zn (Za rfl (Ze [(6, (.bool true))] (nx (m_ ?_)))); have d6 := Zj hF; subst d6; refine Zr Tryz.results119 [(.bool true)] ?_; exact ⟨rfl, hB.keeps⟩
 ·rintro a A ⟨r', rfl, d7⟩; dsimp only at hF; have d8 := Zj hF; subst d8; exact d7
end

section
set_option maxRecDepth 100000
set_option maxHeartbeats 2000000
open Go.RowKit
theorem jy_ : Inf Tryz.prog 3 (.int .i64 0) 1 8 := by unfold Inf; kernel_rfl

def bz_ (fuel : Nat) (pp : b_) (pq : b_) (self : b_ → b_ → (List Int) → Option (Bool × List Int)) : Int → (List Int) → Option (Lp (List Int) (List Int) (Bool × List Int)) := fun (c : Int) (s : List Int) =>
  (aO_ s c) >>= fun j =>
  if j then
    some (.go s)
  else
    (push s c) >>= fun a =>
    (
      (bF_ fuel (⟨⟨pp.Labels, pp.Degree, pp.Nodes, pp.Edges⟩, ⟨pq.Labels, pq.Degree, pq.Nodes, pq.Edges⟩, a⟩ : bX_) pp.Nodes pq.Nodes) >>= fun k =>
      if k then
        (bF_ fuel (⟨⟨pp.Labels, pp.Degree, pp.Nodes, pp.Edges⟩, ⟨pq.Labels, pq.Degree, pq.Nodes, pq.Edges⟩, a⟩ : bX_) pp.Edges pq.Edges) >>= fun d =>
        if d then
          (self pp pq a) >>= fun f =>
          some f
        else
          some (false, a)
      else
        some (false, a)) >>= fun b =>
    if b.1 then
      some (.ret (true, b.2))
    else
      (ck ((b.2.length : Int) - 1)) >>= fun g =>
      (cut b.2 0 g) >>= fun i =>
      some (.go i)
def ay_ : Nat → b_ → b_ → (List Int) → Option (Bool × List Int)
  | 0 => fun _ _ _ => none
  | fuel + 1 => fun pp pq ls =>
    if (ls.length : Int) == pp.Labels then
      some (true, ls)
    else
      ck pp.Labels >>= fun _ =>
      (forN (bz_ fuel pp pq (ay_ fuel)) (pp.Labels).toNat 0 ls) >>= fun a =>
      match a with
      | .inl b =>
        some (false, b)
      | .inr r' => some r'
def fq_ (oo : Tg) (w : World) (a : Nat) (pp pq : b_) (b c d f : Value) (r : Bool × Yl) : Ending → World → Prop := fun e w' => ∃ (o' : Tg) (v' : Value), e = .returned (.bool r.1) ∧ Bx w.heap.size 15 o' w' a 85 [(.int .i64 pp.Labels), (.int .i64 pp.Degree), b, c, (.int .i64 pq.Labels), (.int .i64 pq.Degree), d, f, v'] ∧ Ow w.heap.size 3 13 o' w' v' r.2 ∧ Bs oo o' w w'
theorem hH_ (fuel : Nat) : ∀ (w a0 : World) (oo o : Tg) (hB : Bs oo o w a0) (pp : b_) (pq : b_) (C : Value) (E : RdL zt w C pp.Nodes) (F : Value) (L : RdL zt w F pp.Edges) (D : Value) (G : RdL zt w D pq.Nodes) (H : Value) (M : RdL zt w H pq.Edges) (f : Nat) (ul : Value) (ls : Yl) (hb : Bx w.heap.size 15 o a0 f 85 [(.int .i64 pp.Labels), (.int .i64 pp.Degree), C, F, (.int .i64 pq.Labels), (.int .i64 pq.Degree), D, H, ul]) (hl : Ow w.heap.size 3 13 o a0 ul ls) (r : Bool × Yl) (hF : ay_ fuel pp pq ls = some r), Calls Tryz.prog 79 #[.pointer (some ⟨f, 0, none⟩)] a0 (fq_ oo w f pp pq C F D H r) := by
 induction fuel with
 | zero =>
  intro w a0 oo o hB pp pq C E F L D G H M f ul ls hb hl r hF; unfold ay_ at hF; cases hF
 | succ fuel ih =>
  intro w a0 oo o hB pp pq C E F L D G H M f ul ls hb hl r hF; unfold ay_ at hF; refine i_ (n := 84) (vs := [(ZP f)]) Tryz.func79 rfl rfl ?_; refine Zq (Za rfl (Ze [(0, ZP f)] (nx (a_ (a_ ?_))))); refine Z_ (o := o) [(0, ZP f)] [0] [4, 5, 6, 7, 8, 9, 10, 11, 12, 13] [[], [0], [1], [2], [3], [], [5], [6], [7], [8]] [none, none, none, none, none, none, none, none, none, none] [999, 999, 999, 999, 999, 999, 999, 999, 999, 999] [0, 0, 0, 0, 0, 0, 0, 0, 0, 0] [999] [fun v _ _ => v = (ZP f), fun v _ _ => v = (ZP f), fun v _ _ => v = (.pointer (some ⟨f, 0 + 8, none⟩)), fun v _ _ => v = ul, fun v _ _ => v = (ZI (ls.length : Int)), fun v _ _ => v = (ZP f), fun v _ _ => v = (ZP f), fun v _ _ => v = (.pointer (some ⟨f, 0 + 0, none⟩)), fun v _ _ => v = (.pointer (some ⟨f, 0 + 0 + 0, none⟩)), fun v _ _ => v = (ZI pp.Labels)] (fun J N => Bs oo J w N ∧ Bx w.heap.size 15 J N f 85 [(ZI pp.Labels), (ZI pp.Degree), C, F, (ZI pq.Labels), (ZI pq.Degree), D, H, ul] ∧ Ow w.heap.size 3 13 J N ul ls) E_ (by kernel_rfl) rfl ⟨rfl, trivial⟩ ⟨hB, hb, hl⟩ ?_ ⟨q_ _, q_ _, q_ _, q_ _, q_ _, q_ _, q_ _, q_ _, q_ _, q_ _, trivial⟩ ?_ ?_
  ·rintro a9 m5 a0 m7 m6 m ⟨hB, hb, hl⟩ q; have m : a9 = 999 := by simpa using m
   subst m; all_goals exact ⟨hB.stp q (by decide), hb.stp q (by decide), hl.stp q (by decide) (by decide)⟩
  ·refine ⟨?_, ?_, ?_, ?_, ?_, ?_, ?_, ?_, ?_, ?_, trivial⟩
   ·rintro m5 m6 a3 ha ⟨hB, hb, hl⟩ -; refine Zs ha ?_; refine d_ (h_ rfl) ?_; exact Zx rfl
   ·rintro o4 w5 a6 ha ⟨hB, hb, hl⟩ ⟨r7, -⟩; have ha := Fr.cons (d := 4) ha r7; refine Zs ha ?_; refine d_ (bh_ rfl) ?_; exact Zx rfl
   ·rintro J w9 a10 ha ⟨hB, hb, hl⟩ ⟨m8, -⟩; have ha := Fr.cons (d := 5) ha m8; refine Zs ha ?_; refine d_ (l_ rfl Tryz.underlying85 rfl Tryz.sizeOf41) ?_; exact Zx rfl
   ·rintro o12 w13 a14 ha ⟨hB, hb, hl⟩ ⟨m9, -⟩; have ha := Fr.cons (d := 6) ha m9; refine Zs ha ?_; refine d_ (e_ rfl Tryz.isAgg41 (hb.cell rfl)) ?_; exact Zx rfl
   ·rintro o16 w17 a18 ha ⟨hB, hb, hl⟩ ⟨n0, -⟩; have ha := Fr.cons (d := 7) ha n0; refine Zs ha ?_; refine d_ (bM_ rfl hl Tryz.underlying41) ?_; exact Zx rfl
   ·rintro o20 w21 a22 ha ⟨hB, hb, hl⟩ -; refine Zs ha ?_; refine d_ (h_ rfl) ?_; exact Zx rfl
   ·rintro o23 w24 a25 ha ⟨hB, hb, hl⟩ ⟨n1, -⟩; have ha := Fr.cons (d := 9) ha n1; refine Zs ha ?_; refine d_ (bh_ rfl) ?_; exact Zx rfl
   ·rintro o27 w28 a29 ha ⟨hB, hb, hl⟩ ⟨n2, -⟩; have ha := Fr.cons (d := 10) ha n2; refine Zs ha ?_; refine d_ (l_ rfl Tryz.underlying85 rfl Tryz.sizeOf28) ?_; exact Zx rfl
   ·rintro o31 w32 a33 ha ⟨hB, hb, hl⟩ ⟨n3, -⟩; have ha := Fr.cons (d := 11) ha n3; refine Zs ha ?_; refine d_ (l_ rfl Tryz.underlying28 rfl Tryz.sizeOf3) ?_; exact Zx rfl
   ·rintro o35 w36 a37 ha ⟨hB, hb, hl⟩ ⟨n4, -⟩; have ha := Fr.cons (d := 12) ha n4; refine Zs ha ?_; refine d_ (e_ rfl Tryz.isAgg3 (hb.cell rfl)) ?_; exact Zx rfl
  rintro n5 w40 a41 ha ⟨hB, hb, hl⟩ ⟨-, -, -, -, n6, -, -, -, -, n7, -⟩; have ha := Fr.cons (d := 8) ha n6; have ha := Fr.cons (d := 13) ha n7; refine aV_ ha ?_; simp only [List.length_cons, List.length_nil, Nat.zero_add, Nat.reduceAdd, List.drop_succ_cons, List.drop_zero]; refine Zv (cE_ rfl rfl) (Ze [(0, ZP f), (14, (.bool ((ls.length : Int) == pp.Labels)))] (nx ?_)); refine o_ rfl (fun b0 => ?_) (fun b0 => ?_)
  ·rw [if_pos b0] at hF; refine Zq (Za rfl (Ze [(2, (.bool true))] (nx (m_ (D_ ?_))))); have n8 := Zj hF; subst n8; refine Zr Tryz.results79 [(.bool true)] ?_; exact ⟨_, _, rfl, hb, hl, hB⟩
  ·rw [if_neg (by rw [b0]; decide)] at hF; refine g_ (nx (a_ (Zq (Zm rfl (Zv (bh_ rfl) (Zv (l_ rfl Tryz.underlying85 rfl Tryz.sizeOf28) (Zv (l_ rfl Tryz.underlying28 rfl Tryz.sizeOf3) (Zv (e_ rfl Tryz.isAgg3 (hb.cell rfl)) (Zm rfl (Ze [(0, ZP f), (19, ZI pp.Labels), (20, ZI 0)] (nx ?_))))))))))); obtain ⟨u54, n9, hF⟩ := bind_some hF; obtain ⟨-, h53a, h53b⟩ := cj_ n9; obtain ⟨b1, c0, hF⟩ := bind_some hF; refine A_ (fun a x => ∃ (y : Yl) (B : Value) (u : Tg), b1 = .inl y ∧ Fr a 84 [] ∧ Bs oo u w x ∧ Bx w.heap.size 15 u x f 85 [(ZI pp.Labels), (ZI pp.Degree), C, F, (ZI pq.Labels), (ZI pq.Degree), D, H, B] ∧ Ow w.heap.size 3 13 u x B y) (fun a w' => ∃ r', b1 = .inr r' ∧ bodyPost Tryz.prog Tryz.f79 (fq_ oo w f pp pq C F D H r') .ret a w') ?_ ?_ ?_
   ·refine f_ ?_; refine z_ (fun (K : Nat) a x => ∃ (g : Int) (y : Yl) (B : Value) (u : Tg), forN (bz_ fuel pp pq (ay_ fuel)) (pp.Labels - g).toNat g y = some b1 ∧ (pp.Labels - g).toNat = K ∧ 0 ≤ g ∧ Fr a 84 [(0, ZP f), (19, ZI pp.Labels), (20, ZI g)] ∧ Bs oo u w x ∧ Bx w.heap.size 15 u x f 85 [(ZI pp.Labels), (ZI pp.Degree), C, F, (ZI pq.Labels), (ZI pq.Degree), D, H, B] ∧ Ow w.heap.size 3 13 u x B y) _ (fun a ha => ⟨0, ls, ul, n5, (by rw [Int.sub_zero]; exact c0), rfl, Int.le_refl 0, ha.sub (r := [(0, ZP f), (19, ZI pp.Labels), (20, ZI 0)]) ⟨rfl, rfl, rfl, trivial⟩, hB, hb, hl⟩) ?_; rintro K58 a x ⟨g, y, B, u, c1, c2, z56, ha, hB, hb, A⟩; by_cases a1 : g < pp.Labels
    ·obtain ⟨q59, k, b2⟩ := bA_ a1 c1; dsimp only [bz_] at k; refine M_ ha ?_; refine Zq (Zv (t_ rfl rfl) (Ze [(0, ZP f), (19, ZI pp.Labels), (20, ZI g), (21, (.bool (decide (g < pp.Labels))))] (nx (a_ ?_)))); refine P_ (Zb (decide_eq_true a1)) ?_; refine g_ (nx (a_ (f_ (Zq (Zm rfl (Za rfl (Ze [(0, ZP f), (3, ZI g), (19, ZI pp.Labels), (20, ZI g)] (nx (a_ (Zq (Zm rfl (Zv (bh_ rfl) ?_)))))))))))); refine Zv (l_ rfl Tryz.underlying85 rfl Tryz.sizeOf41) (Zv (e_ rfl Tryz.isAgg41 (hb.cell rfl)) (Zm rfl ?_)); obtain ⟨c3, c4, k⟩ := bind_some k; refine Zo ?_; refine p_ (eX_ x _ y A.z g c3 c4) Tryz.call118 ⟨rfl, rfl, trivial⟩ ?_; rintro e68 w64 ⟨rfl, o0⟩; have b3 := o0.stp 999 u; refine ⟨_, rfl, ?_⟩; replace A := A.stp b3; replace hb := hb.stp b3; replace hB := hB.stp b3; refine Ze [(0, ZP f), (3, ZI g), (19, ZI pp.Labels), (20, ZI g), (28, (.bool c3))] (nx ?_); refine o_ rfl (fun b4 => ?_) (fun b4 => ?_)
     ·rw [if_pos b4] at k; refine v_ ?_; refine r_ (Q_ (nx (c_ (Zv (F_ rfl rfl (G_ (by omega) (by omega))) (Zm rfl (Ze [(0, ZP f), (19, ZI pp.Labels), (20, (ZI (g + 1)))] (w_ ?_))))))); have o1 := Zj k; subst o1; refine Zk [(0, ZP f), (19, ZI pp.Labels), (20, (ZI (g + 1)))] ?_; intro a ha; exact ⟨_, (by rw [← c2]; omega), g + 1, y, B, u, b2, rfl, (by omega), ha, hB, hb, A⟩
     ·rw [if_neg (by rw [b4]; decide)] at k; refine g_ (Zn (Zm rfl (Zm rfl (Zv (bh_ rfl) (Zv (l_ rfl Tryz.underlying85 rfl Tryz.sizeOf41) (Zv (e_ rfl Tryz.isAgg41 (hb.cell rfl)) (Zm rfl (Zo ?_)))))))); refine aL_ (o := u) (cs := [(ZI g)]) (xs := ([g] : Yl)) (vs := [(0, ZI g)]) ⟨_, _, rfl, rfl, rfl⟩ rfl ⟨rfl, rfl, trivial⟩ Tryz.underlying41 Tryz.sizeOf3 Tryz.zeroValue3 (by decide) (fill1 rfl) (by simp) ?_; intro o71 w72 v73 o2 b5 k76; replace A := A.stp b5; replace hb := hb.stp b5; replace hB := hB.stp b5; obtain ⟨R, c5, k⟩ := bind_some k; refine Zo ?_; refine bo_ A o2 (au_ c5) (by decide) hB.keeps.size rfl rfl Tryz.underlying41 jy_ rfl (by decide) ?_; intro b6 w79 S c c6; replace hb := hb.stp c6; replace hB := hB.stp c6; refine Zv (bh_ rfl) (Zv (l_ rfl Tryz.underlying85 rfl Tryz.sizeOf41) ?_); refine ad_ trivial ?_; refine bp_ hb rfl rfl (of_decide_eq_true rfl) Tryz.sizeOf41 c.cells1 c.one1 ?_; intro o3 b c7; replace c := c.stp c7; replace hB := hB.stp c7; replace b : Bx w.heap.size 15 b6 o3 f 85 [(ZI pp.Labels), (ZI pp.Degree), C, F, (ZI pq.Labels), (ZI pq.Degree), D, H, S] := b; refine Ze [(0, ZP f), (19, ZI pp.Labels), (20, ZI g)] (nx (a_ (a_ ?_))); obtain ⟨a2, j, k⟩ := bind_some k; refine A_ (fun a89 w88 => ∃ (U : Tg) (T : Value), Fr a89 84 [(0, ZP f), (19, ZI pp.Labels), (20, ZI g), (68, (.bool a2.1))] ∧ Bs oo U w w88 ∧ Bx w.heap.size 15 U w88 f 85 [(ZI pp.Labels), (ZI pp.Degree), C, F, (ZI pq.Labels), (ZI pq.Degree), D, H, T] ∧ Ow w.heap.size 3 13 U w88 T a2.2) (fun _ _ => False) ?_ ?_ (fun _ _ h => h.elim)
      ·obtain ⟨O, a4, j⟩ := bind_some j; rcases Bool.eq_false_or_eq_true (O) with i | i
       ·rw [if_pos i] at j; refine Z_ (o := b6) [(0, ZP f), (19, ZI pp.Labels), (20, ZI g)] [0, 19, 20] [39, 40, 41, 42, 43, 44, 45, 46, 47, 48, 49, 50, 51, 52, 53, 54, 55, 56, 57, 58, 59, 60, 61, 62] [[], [], [1], [2], [3], [4], [], [6], [7], [8], [9], [0, 5, 10], [11], [12], [12], [12, 14], [12, 15], [12, 16], [12, 17], [12], [12, 19], [12, 20], [12, 21], [12, 22]] [none, none, none, none, none, none, none, none, none, none, none, none, none, none, none, none, none, none, none, none, none, none, none, none] [999, 999, 999, 999, 999, 999, 999, 999, 999, 999, 999, 999, 999, 999, 999, 999, 999, 999, 999, 999, 999, 999, 999, 999] [0, 0, 0, 0, 0, 0, 0, 0, 0, 0, 0, 0, 0, 0, 0, 0, 0, 0, 0, 0, 0, 0, 0, 0] [999] [fun v _ _ => v = (ZP f), fun v _ _ => v = (ZP f), fun v _ _ => v = (ZP f), fun v _ _ => v = (.pointer (some ⟨f, 0 + 0, none⟩)), fun v _ _ => v = (.pointer (some ⟨f, 0 + 0 + 2, none⟩)), fun v _ _ => v = C, fun v _ _ => v = (ZP f), fun v _ _ => v = (ZP f), fun v _ _ => v = (.pointer (some ⟨f, 0 + 4, none⟩)), fun v _ _ => v = (.pointer (some ⟨f, 0 + 4 + 2, none⟩)), fun v _ _ => v = D, fun v _ _ => v = (.bool O), fun v _ _ => v = (.bool O), fun v _ _ => v = (ZP f), fun v _ _ => v = (ZP f), fun v _ _ => v = (ZP f), fun v _ _ => v = (.pointer (some ⟨f, 0 + 0, none⟩)), fun v _ _ => v = (.pointer (some ⟨f, 0 + 0 + 3, none⟩)), fun v _ _ => v = F, fun v _ _ => v = (ZP f), fun v _ _ => v = (ZP f), fun v _ _ => v = (.pointer (some ⟨f, 0 + 4, none⟩)), fun v _ _ => v = (.pointer (some ⟨f, 0 + 4 + 3, none⟩)), fun v _ _ => v = H] (fun J N => Bs oo J w N ∧ Bx w.heap.size 15 J N f 85 [(ZI pp.Labels), (ZI pp.Degree), C, F, (ZI pq.Labels), (ZI pq.Degree), D, H, S] ∧ Ow w.heap.size 3 13 J N S R) E_ (by kernel_rfl) rfl ⟨rfl, rfl, rfl, trivial⟩ ⟨hB, b, c⟩ ?_ ⟨q_ _, q_ _, q_ _, q_ _, q_ _, q_ _, q_ _, q_ _, q_ _, q_ _, q_ _, q_ _, q_ _, q_ _, q_ _, q_ _, q_ _, q_ _, q_ _, q_ _, q_ _, q_ _, q_ _, q_ _, trivial⟩ ?_ ?_
        ·rintro a9 m5 a0 m7 m6 m ⟨hB, b, c⟩ q; have m : a9 = 999 := by simpa using m
         subst m; all_goals exact ⟨hB.stp q (by decide), b.stp q (by decide), c.stp q (by decide) (by decide)⟩
        ·refine ⟨?_, ?_, ?_, ?_, ?_, ?_, ?_, ?_, ?_, ?_, ?_, ?_, ?_, ?_, ?_, ?_, ?_, ?_, ?_, ?_, ?_, ?_, ?_, ?_, trivial⟩
         ·rintro o97 w98 a99 ha ⟨hB, b, c⟩ -; refine Zs ha ?_; refine d_ (h_ rfl) ?_; exact Zx rfl
         ·rintro o5 o6 o7 ha ⟨hB, b, c⟩ -; refine Zs ha ?_; refine d_ (h_ rfl) ?_; exact Zx rfl
         ·rintro o8 w104 p0 ha ⟨hB, b, c⟩ ⟨c8, -⟩; have ha := Fr.cons (d := 40) ha c8; refine Zs ha ?_; refine d_ (bh_ rfl) ?_; exact Zx rfl
         ·rintro p1 p2 p3 ha ⟨hB, b, c⟩ ⟨c9, -⟩; have ha := Fr.cons (d := 41) ha c9; refine Zs ha ?_; refine d_ (l_ rfl Tryz.underlying85 rfl Tryz.sizeOf28) ?_; exact Zx rfl
         ·rintro p4 p5 p6 ha ⟨hB, b, c⟩ ⟨d0, -⟩; have ha := Fr.cons (d := 42) ha d0; refine Zs ha ?_; refine d_ (l_ rfl Tryz.underlying28 rfl Tryz.sizeOf22) ?_; exact Zx rfl
         ·rintro p7 p8 p9 ha ⟨hB, b, c⟩ ⟨d1, -⟩; have ha := Fr.cons (d := 43) ha d1; refine Zs ha ?_; refine d_ (e_ rfl Tryz.isAgg22 (b.cell rfl)) ?_; exact Zx rfl
         ·rintro q0 q1 q2 ha ⟨hB, b, c⟩ -; refine Zs ha ?_; refine d_ (h_ rfl) ?_; exact Zx rfl
         ·rintro q3 q4 q5 ha ⟨hB, b, c⟩ ⟨d2, -⟩; have ha := Fr.cons (d := 45) ha d2; refine Zs ha ?_; refine d_ (bh_ rfl) ?_; exact Zx rfl
         ·rintro q6 q7 q8 ha ⟨hB, b, c⟩ ⟨d3, -⟩; have ha := Fr.cons (d := 46) ha d3; refine Zs ha ?_; refine d_ (l_ rfl Tryz.underlying85 rfl Tryz.sizeOf28) ?_; exact Zx rfl
         ·rintro q9 r0 r1 ha ⟨hB, b, c⟩ ⟨d4, -⟩; have ha := Fr.cons (d := 47) ha d4; refine Zs ha ?_; refine d_ (l_ rfl Tryz.underlying28 rfl Tryz.sizeOf22) ?_; exact Zx rfl
         ·rintro r2 r3 r4 ha ⟨hB, b, c⟩ ⟨d5, -⟩; have ha := Fr.cons (d := 48) ha d5; refine Zs ha ?_; refine d_ (e_ rfl Tryz.isAgg22 (b.cell rfl)) ?_; exact Zx rfl
         ·rintro d6 d7 r5 ha ⟨hB, b, c⟩ ⟨d8, d9, e0, -⟩; have ha := Fr.cons (d := 39) ha d8; have ha := Fr.cons (d := 44) ha d9; have ha := Fr.cons (d := 49) ha e0; refine Zs ha ?_; refine p_ (dS_ fuel d7 f _ (⟨⟨pp.Labels, pp.Degree, pp.Nodes, pp.Edges⟩, ⟨pq.Labels, pq.Degree, pq.Nodes, pq.Edges⟩, R⟩ : bX_) b.cells ⟨_, _, _, _, _, rfl, (E.keep hB.keeps), (L.keep hB.keeps), (G.keep hB.keeps), (M.keep hB.keeps), c.z⟩ _ pp.Nodes (E.keep hB.keeps) _ pq.Nodes (G.keep hB.keeps) O a4) Tryz.call119 ⟨rfl, rfl, rfl, trivial⟩ ?_; rintro r6 w144 ⟨rfl, e1⟩; have e2 := e1.stp 999 d6; refine ⟨_, rfl, ?_⟩; exact ⟨_, e2, rfl⟩
         ·rintro r8 r9 s0 ha ⟨hB, b, c⟩ ⟨e3, -⟩; have ha := Fr.cons (d := 50) ha e3; refine Zs ha ?_; refine d_ (h_ rfl) ?_; exact Zx rfl
         ·rintro s1 s2 s3 ha ⟨hB, b, c⟩ ⟨e4, -⟩; have ha := Fr.cons (d := 51) ha e4; refine ap_ ha (⟨_, rfl, (Zb i)⟩) ?_; refine d_ (h_ rfl) ?_; exact Zx rfl
         ·rintro s4 s5 s6 ha ⟨hB, b, c⟩ ⟨e5, -⟩; have ha := Fr.cons (d := 51) ha e5; refine ap_ ha (⟨_, rfl, (Zb i)⟩) ?_; refine d_ (h_ rfl) ?_; exact Zx rfl
         ·rintro s7 s8 s9 ha ⟨hB, b, c⟩ ⟨e6, e7, -⟩; have ha := Fr.cons (d := 51) ha e6; have ha := Fr.cons (d := 53) ha e7; refine ap_ ha (⟨_, rfl, (Zb i)⟩) ?_; refine d_ (bh_ rfl) ?_; exact Zx rfl
         ·rintro t0 t1 t2 ha ⟨hB, b, c⟩ ⟨e8, e9, -⟩; have ha := Fr.cons (d := 51) ha e8; have ha := Fr.cons (d := 54) ha e9; refine ap_ ha (⟨_, rfl, (Zb i)⟩) ?_; refine d_ (l_ rfl Tryz.underlying85 rfl Tryz.sizeOf28) ?_; exact Zx rfl
         ·rintro t3 t4 t5 ha ⟨hB, b, c⟩ ⟨f0, f1, -⟩; have ha := Fr.cons (d := 51) ha f0; have ha := Fr.cons (d := 55) ha f1; refine ap_ ha (⟨_, rfl, (Zb i)⟩) ?_; refine d_ (l_ rfl Tryz.underlying28 rfl Tryz.sizeOf22) ?_; exact Zx rfl
         ·rintro t6 t7 t8 ha ⟨hB, b, c⟩ ⟨f2, f3, -⟩; have ha := Fr.cons (d := 51) ha f2; have ha := Fr.cons (d := 56) ha f3; refine ap_ ha (⟨_, rfl, (Zb i)⟩) ?_; refine d_ (e_ rfl Tryz.isAgg22 (b.cell rfl)) ?_; exact Zx rfl
         ·rintro t9 u0 u1 ha ⟨hB, b, c⟩ ⟨f4, -⟩; have ha := Fr.cons (d := 51) ha f4; refine ap_ ha (⟨_, rfl, (Zb i)⟩) ?_; refine d_ (h_ rfl) ?_; exact Zx rfl
         ·rintro u2 u3 u4 ha ⟨hB, b, c⟩ ⟨f5, f6, -⟩; have ha := Fr.cons (d := 51) ha f5; have ha := Fr.cons (d := 58) ha f6; refine ap_ ha (⟨_, rfl, (Zb i)⟩) ?_; refine d_ (bh_ rfl) ?_; exact Zx rfl
         ·rintro u5 u6 u7 ha ⟨hB, b, c⟩ ⟨f7, f8, -⟩; have ha := Fr.cons (d := 51) ha f7; have ha := Fr.cons (d := 59) ha f8; refine ap_ ha (⟨_, rfl, (Zb i)⟩) ?_; refine d_ (l_ rfl Tryz.underlying85 rfl Tryz.sizeOf28) ?_; exact Zx rfl
         ·rintro u8 u9 v0 ha ⟨hB, b, c⟩ ⟨f9, g0, -⟩; have ha := Fr.cons (d := 51) ha f9; have ha := Fr.cons (d := 60) ha g0; refine ap_ ha (⟨_, rfl, (Zb i)⟩) ?_; refine d_ (l_ rfl Tryz.underlying28 rfl Tryz.sizeOf22) ?_; exact Zx rfl
         ·rintro v1 v2 v3 ha ⟨hB, b, c⟩ ⟨g1, g2, -⟩; have ha := Fr.cons (d := 51) ha g1; have ha := Fr.cons (d := 61) ha g2; refine ap_ ha (⟨_, rfl, (Zb i)⟩) ?_; refine d_ (e_ rfl Tryz.isAgg22 (b.cell rfl)) ?_; exact Zx rfl
        rintro V g3 v4 ha ⟨hB, b, c⟩ ⟨-, -, -, -, -, -, -, -, -, -, -, -, g4, g5, -, -, -, -, g6, -, -, -, -, g7, -⟩; have ha := Fr.cons (d := 51) ha g4; have ha := Fr.cons (d := 52) ha g5; have ha := Fr.cons (d := 57) ha g6; have ha := Fr.cons (d := 62) ha g7; refine aV_ ha ?_; simp only [List.length_cons, List.length_nil, Nat.zero_add, Nat.reduceAdd, List.drop_succ_cons, List.drop_zero]; obtain ⟨a5, b7, j⟩ := bind_some j; refine bI_ (by decide) ⟨_, rfl, (Zb i)⟩ ?_; refine p_ (dS_ fuel g3 f _ (⟨⟨pp.Labels, pp.Degree, pp.Nodes, pp.Edges⟩, ⟨pq.Labels, pq.Degree, pq.Nodes, pq.Edges⟩, R⟩ : bX_) b.cells ⟨_, _, _, _, _, rfl, (E.keep hB.keeps), (L.keep hB.keeps), (G.keep hB.keeps), (M.keep hB.keeps), c.z⟩ _ pp.Edges (L.keep hB.keeps) _ pq.Edges (M.keep hB.keeps) a5 b7) Tryz.call119 ⟨rfl, rfl, rfl, trivial⟩ ?_; rintro v5 g8 ⟨rfl, g9⟩; have W := g9.stp 999 V; refine ⟨_, rfl, ?_⟩; replace b := b.stp W; replace c := c.stp W; replace hB := hB.stp W; refine Zv (x_ (Zb i) rfl) (Zm rfl ?_); rcases Bool.eq_false_or_eq_true (a5) with s | s
        ·rw [if_pos s] at j; refine k_ (h_ rfl) (by decide) ⟨_, rfl, (Zb s)⟩ ?_; obtain ⟨x219, b8, j⟩ := bind_some j; refine bI_ (by decide) ⟨_, rfl, (Zb s)⟩ ?_; refine p_ (ih w g8 oo V hB pp pq C E F L D G H M f S R b c x219 b8) Tryz.call79 ⟨rfl, trivial⟩ ?_; rintro v6 v7 ⟨o9, T, rfl, b, c, hB⟩; refine ⟨_, rfl, ?_⟩; refine Zv (x_ (Zb s) rfl) ?_; have h0 := Zj j; subst h0; refine Ze [(0, ZP f), (19, ZI pp.Labels), (20, ZI g), (68, (.bool x219.1))] ?_; refine s_ (fun a ha => ⟨o9, T, ha, hB, b, c⟩)
        ·rw [if_neg (by rw [s]; decide)] at j; refine n_ rfl rfl (by rw [s]; rfl) (by decide) ?_; refine n_ rfl rfl (by rw [s]; rfl) (by decide) ?_; refine Zv (B_ (Zb s) rfl) ?_; have h1 := Zj j; subst h1; refine Ze [(0, ZP f), (19, ZI pp.Labels), (20, ZI g), (68, (.bool false))] ?_; refine s_ (fun a ha => ⟨V, _, ha, hB, b, c⟩)
       ·rw [if_neg (by rw [i]; decide)] at j; refine Z_ (o := b6) [(0, ZP f), (19, ZI pp.Labels), (20, ZI g)] [0, 19, 20] [39, 40, 41, 42, 43, 44, 45, 46, 47, 48, 49, 50, 51, 52, 53, 54, 55, 56, 57, 58, 59, 60, 61, 62] [[], [], [1], [2], [3], [4], [], [6], [7], [8], [9], [0, 5, 10], [11], [12], [12], [12], [12], [12], [12], [12], [12], [12], [12], [12]] [none, none, none, none, none, none, none, none, none, none, none, none, none, none, none, none, none, none, none, none, none, none, none, none] [999, 999, 999, 999, 999, 999, 999, 999, 999, 999, 999, 999, 999, 999, 999, 999, 999, 999, 999, 999, 999, 999, 999, 999] [0, 0, 0, 0, 0, 0, 0, 0, 0, 0, 0, 0, 0, 0, 0, 0, 0, 0, 0, 0, 0, 0, 0, 0] [999] [fun v _ _ => v = (ZP f), fun v _ _ => v = (ZP f), fun v _ _ => v = (ZP f), fun v _ _ => v = (.pointer (some ⟨f, 0 + 0, none⟩)), fun v _ _ => v = (.pointer (some ⟨f, 0 + 0 + 2, none⟩)), fun v _ _ => v = C, fun v _ _ => v = (ZP f), fun v _ _ => v = (ZP f), fun v _ _ => v = (.pointer (some ⟨f, 0 + 4, none⟩)), fun v _ _ => v = (.pointer (some ⟨f, 0 + 4 + 2, none⟩)), fun v _ _ => v = D, fun v _ _ => v = (.bool O), fun v _ _ => v = (.bool O), fun v _ _ => v = undef, fun v _ _ => v = undef, fun v _ _ => v = undef, fun v _ _ => v = undef, fun v _ _ => v = undef, fun v _ _ => v = undef, fun v _ _ => v = undef, fun v _ _ => v = undef, fun v _ _ => v = undef, fun v _ _ => v = undef, fun v _ _ => v = undef] (fun J N => Bs oo J w N ∧ Bx w.heap.size 15 J N f 85 [(ZI pp.Labels), (ZI pp.Degree), C, F, (ZI pq.Labels), (ZI pq.Degree), D, H, S] ∧ Ow w.heap.size 3 13 J N S R) E_ (by kernel_rfl) rfl ⟨rfl, rfl, rfl, trivial⟩ ⟨hB, b, c⟩ ?_ ⟨q_ _, q_ _, q_ _, q_ _, q_ _, q_ _, q_ _, q_ _, q_ _, q_ _, q_ _, q_ _, q_ _, q_ _, q_ _, q_ _, q_ _, q_ _, q_ _, q_ _, q_ _, q_ _, q_ _, q_ _, trivial⟩ ?_ ?_
        ·rintro a9 m5 a0 m7 m6 m ⟨hB, b, c⟩ q; have m : a9 = 999 := by simpa using m
         subst m; all_goals exact ⟨hB.stp q (by decide), b.stp q (by decide), c.stp q (by decide) (by decide)⟩
        ·refine ⟨?_, ?_, ?_, ?_, ?_, ?_, ?_, ?_, ?_, ?_, ?_, ?_, ?_, ?_, ?_, ?_, ?_, ?_, ?_, ?_, ?_, ?_, ?_, ?_, trivial⟩
         ·rintro v8 v9 w0 ha ⟨hB, b, c⟩ -; refine Zs ha ?_; refine d_ (h_ rfl) ?_; exact Zx rfl
         ·rintro w1 w2 w3 ha ⟨hB, b, c⟩ -; refine Zs ha ?_; refine d_ (h_ rfl) ?_; exact Zx rfl
         ·rintro w4 w234 w6 ha ⟨hB, b, c⟩ ⟨h2, -⟩; have ha := Fr.cons (d := 40) ha h2; refine Zs ha ?_; refine d_ (bh_ rfl) ?_; exact Zx rfl
         ·rintro w7 w8 a239 ha ⟨hB, b, c⟩ ⟨h3, -⟩; have ha := Fr.cons (d := 41) ha h3; refine Zs ha ?_; refine d_ (l_ rfl Tryz.underlying85 rfl Tryz.sizeOf28) ?_; exact Zx rfl
         ·rintro x0 x1 x2 ha ⟨hB, b, c⟩ ⟨h4, -⟩; have ha := Fr.cons (d := 42) ha h4; refine Zs ha ?_; refine d_ (l_ rfl Tryz.underlying28 rfl Tryz.sizeOf22) ?_; exact Zx rfl
         ·rintro x3 x4 x5 ha ⟨hB, b, c⟩ ⟨h5, -⟩; have ha := Fr.cons (d := 43) ha h5; refine Zs ha ?_; refine d_ (e_ rfl Tryz.isAgg22 (b.cell rfl)) ?_; exact Zx rfl
         ·rintro x6 x7 x8 ha ⟨hB, b, c⟩ -; refine Zs ha ?_; refine d_ (h_ rfl) ?_; exact Zx rfl
         ·rintro x9 y0 y1 ha ⟨hB, b, c⟩ ⟨h6, -⟩; have ha := Fr.cons (d := 45) ha h6; refine Zs ha ?_; refine d_ (bh_ rfl) ?_; exact Zx rfl
         ·rintro y2 y3 y4 ha ⟨hB, b, c⟩ ⟨h7, -⟩; have ha := Fr.cons (d := 46) ha h7; refine Zs ha ?_; refine d_ (l_ rfl Tryz.underlying85 rfl Tryz.sizeOf28) ?_; exact Zx rfl
         ·rintro y5 y6 y7 ha ⟨hB, b, c⟩ ⟨h8, -⟩; have ha := Fr.cons (d := 47) ha h8; refine Zs ha ?_; refine d_ (l_ rfl Tryz.underlying28 rfl Tryz.sizeOf22) ?_; exact Zx rfl
         ·rintro y8 y9 z0 ha ⟨hB, b, c⟩ ⟨h9, -⟩; have ha := Fr.cons (d := 48) ha h9; refine Zs ha ?_; refine d_ (e_ rfl Tryz.isAgg22 (b.cell rfl)) ?_; exact Zx rfl
         ·rintro i0 i1 z1 ha ⟨hB, b, c⟩ ⟨i2, i3, i4, -⟩; have ha := Fr.cons (d := 39) ha i2; have ha := Fr.cons (d := 44) ha i3; have ha := Fr.cons (d := 49) ha i4; refine Zs ha ?_; refine p_ (dS_ fuel i1 f _ (⟨⟨pp.Labels, pp.Degree, pp.Nodes, pp.Edges⟩, ⟨pq.Labels, pq.Degree, pq.Nodes, pq.Edges⟩, R⟩ : bX_) b.cells ⟨_, _, _, _, _, rfl, (E.keep hB.keeps), (L.keep hB.keeps), (G.keep hB.keeps), (M.keep hB.keeps), c.z⟩ _ pp.Nodes (E.keep hB.keeps) _ pq.Nodes (G.keep hB.keeps) O a4) Tryz.call119 ⟨rfl, rfl, rfl, trivial⟩ ?_; rintro z2 z3 ⟨rfl, i5⟩; have i6 := i5.stp 999 i0; refine ⟨_, rfl, ?_⟩; exact ⟨_, i6, rfl⟩
         ·rintro z4 z5 z6 ha ⟨hB, b, c⟩ ⟨i7, -⟩; have ha := Fr.cons (d := 50) ha i7; refine Zs ha ?_; refine d_ (h_ rfl) ?_; exact Zx rfl
         ·rintro z7 z8 z9 ha ⟨hB, b, c⟩ ⟨i8, -⟩; have ha := Fr.cons (d := 51) ha i8; exact az_ ha rfl rfl rfl (by rw [i]; rfl) ⟨_, Stp.refl _ _ _, rfl⟩
         ·rintro o287 w288 a289 ha ⟨hB, b, c⟩ ⟨i9, -⟩; have ha := Fr.cons (d := 51) ha i9; exact az_ ha rfl rfl rfl (by rw [i]; rfl) ⟨_, Stp.refl _ _ _, rfl⟩
         ·rintro o291 w292 a293 ha ⟨hB, b, c⟩ ⟨j0, -⟩; have ha := Fr.cons (d := 51) ha j0; exact az_ ha rfl rfl rfl (by rw [i]; rfl) ⟨_, Stp.refl _ _ _, rfl⟩
         ·rintro o295 w296 a297 ha ⟨hB, b, c⟩ ⟨j1, -⟩; have ha := Fr.cons (d := 51) ha j1; exact az_ ha rfl rfl rfl (by rw [i]; rfl) ⟨_, Stp.refl _ _ _, rfl⟩
         ·rintro o299 w300 a301 ha ⟨hB, b, c⟩ ⟨j2, -⟩; have ha := Fr.cons (d := 51) ha j2; exact az_ ha rfl rfl rfl (by rw [i]; rfl) ⟨_, Stp.refl _ _ _, rfl⟩
         ·rintro o303 w304 a305 ha ⟨hB, b, c⟩ ⟨j3, -⟩; have ha := Fr.cons (d := 51) ha j3; exact az_ ha rfl rfl rfl (by rw [i]; rfl) ⟨_, Stp.refl _ _ _, rfl⟩
         ·rintro o307 w308 a309 ha ⟨hB, b, c⟩ ⟨j4, -⟩; have ha := Fr.cons (d := 51) ha j4; exact az_ ha rfl rfl rfl (by rw [i]; rfl) ⟨_, Stp.refl _ _ _, rfl⟩
         ·rintro o311 w312 a313 ha ⟨hB, b, c⟩ ⟨j5, -⟩; have ha := Fr.cons (d := 51) ha j5; exact az_ ha rfl rfl rfl (by rw [i]; rfl) ⟨_, Stp.refl _ _ _, rfl⟩
         ·rintro o315 w316 a317 ha ⟨hB, b, c⟩ ⟨j6, -⟩; have ha := Fr.cons (d := 51) ha j6; exact az_ ha rfl rfl rfl (by rw [i]; rfl) ⟨_, Stp.refl _ _ _, rfl⟩
         ·rintro o319 w320 a321 ha ⟨hB, b, c⟩ ⟨j7, -⟩; have ha := Fr.cons (d := 51) ha j7; exact az_ ha rfl rfl rfl (by rw [i]; rfl) ⟨_, Stp.refl _ _ _, rfl⟩
         ·rintro o323 w324 a325 ha ⟨hB, b, c⟩ ⟨j8, -⟩; have ha := Fr.cons (d := 51) ha j8; exact az_ ha rfl rfl rfl (by rw [i]; rfl) ⟨_, Stp.refl _ _ _, rfl⟩
        rintro j9 w328 a329 ha ⟨hB, b, c⟩ ⟨-, -, -, -, -, -, -, -, -, -, -, -, k0, k1, -, -, -, -, k2, -, -, -, -, k3, -⟩; have ha := Fr.cons (d := 51) ha k0; have ha := Fr.cons (d := 52) ha k1; have ha := Fr.cons (d := 57) ha k2; have ha := Fr.cons (d := 62) ha k3; refine aV_ ha ?_; simp only [List.length_cons, List.length_nil, Nat.zero_add, Nat.reduceAdd, List.drop_succ_cons, List.drop_zero]; refine n_ rfl rfl (by rw [i]; rfl) (by decide) ?_; refine Zv (B_ (Zb i) rfl) (Zm rfl ?_); refine n_ rfl rfl rfl (by decide) ?_; refine n_ rfl rfl rfl (by decide) ?_; refine Zv (B_ rfl rfl) ?_; have k4 := Zj j; subst k4; refine Ze [(0, ZP f), (19, ZI pp.Labels), (20, ZI g), (68, (.bool false))] ?_; refine s_ (fun a ha => ⟨j9, _, ha, hB, b, c⟩)
      rintro a335 w88 ⟨U, T, ha, hB, b, c⟩; refine ap_k ha ?_; refine nx ?_; refine o_ rfl (fun X => ?_) (fun X => ?_)
      ·rw [if_pos X] at k; refine Zq (Za rfl (Ze [(2, (.bool true))] (nx (m_ (D_ (ac_ (D_ (D_ (ac_ ?_))))))))); refine bQ_ ?_; have k5 := Zj k; subst k5; refine fun a ha => ⟨_, b2, ?_⟩; refine H_ (P := Tryz.prog) (vs := [(.bool true)]) Tryz.results79 ⟨rfl, trivial⟩ ?_ a ha; exact ⟨_, _, rfl, b, c, hB⟩
      ·rw [if_neg (by rw [X]; decide)] at k; refine g_ (nx ?_); obtain ⟨Q, b9, k⟩ := bind_some k; obtain ⟨k6, Y, k⟩ := bind_some k; refine Z_ (o := U) [(0, ZP f), (19, ZI pp.Labels), (20, ZI g)] [0, 19, 20] [69, 70, 71, 72, 73, 74, 75, 76, 77, 78, 79, 80] [[], [], [1], [2], [3], [], [5], [6], [7], [8], [9], [4, 10]] [none, none, none, none, none, none, none, none, none, none, none, none] [999, 999, 999, 999, 999, 999, 999, 999, 999, 999, 999, 999] [0, 0, 0, 0, 0, 0, 0, 0, 0, 0, 0, 0] [999] [fun v _ _ => v = (ZP f), fun v _ _ => v = (ZP f), fun v _ _ => v = (ZP f), fun v _ _ => v = (.pointer (some ⟨f, 0 + 8, none⟩)), fun v _ _ => v = T, fun v _ _ => v = (ZP f), fun v _ _ => v = (ZP f), fun v _ _ => v = (.pointer (some ⟨f, 0 + 8, none⟩)), fun v _ _ => v = T, fun v _ _ => v = (ZI (a2.2.length : Int)), fun v _ _ => v = (ZI Q), fun v _ _ => v = (prev T Q.toNat)] (fun J N => Bs oo J w N ∧ Bx w.heap.size 15 J N f 85 [(ZI pp.Labels), (ZI pp.Degree), C, F, (ZI pq.Labels), (ZI pq.Degree), D, H, T] ∧ Ow w.heap.size 3 13 J N T a2.2) E_ (by kernel_rfl) rfl ⟨rfl, rfl, rfl, trivial⟩ ⟨hB, b, c⟩ ?_ ⟨q_ _, q_ _, q_ _, q_ _, q_ _, q_ _, q_ _, q_ _, q_ _, q_ _, q_ _, q_ _, trivial⟩ ?_ ?_
       ·rintro a9 m5 a0 m7 m6 m ⟨hB, b, c⟩ q; have m : a9 = 999 := by simpa using m
        subst m; all_goals exact ⟨hB.stp q (by decide), b.stp q (by decide), c.stp q (by decide) (by decide)⟩
       ·refine ⟨?_, ?_, ?_, ?_, ?_, ?_, ?_, ?_, ?_, ?_, ?_, ?_, trivial⟩
        ·rintro o340 w341 a342 ha ⟨hB, b, c⟩ -; refine Zs ha ?_; refine d_ (h_ rfl) ?_; exact Zx rfl
        ·rintro o343 w344 a345 ha ⟨hB, b, c⟩ -; refine Zs ha ?_; refine d_ (h_ rfl) ?_; exact Zx rfl
        ·rintro o346 w347 a348 ha ⟨hB, b, c⟩ ⟨k7, -⟩; have ha := Fr.cons (d := 70) ha k7; refine Zs ha ?_; refine d_ (bh_ rfl) ?_; exact Zx rfl
        ·rintro o350 w351 a352 ha ⟨hB, b, c⟩ ⟨k8, -⟩; have ha := Fr.cons (d := 71) ha k8; refine Zs ha ?_; refine d_ (l_ rfl Tryz.underlying85 rfl Tryz.sizeOf41) ?_; exact Zx rfl
        ·rintro o354 w355 a356 ha ⟨hB, b, c⟩ ⟨k9, -⟩; have ha := Fr.cons (d := 72) ha k9; refine Zs ha ?_; refine d_ (e_ rfl Tryz.isAgg41 (b.cell rfl)) ?_; exact Zx rfl
        ·rintro o358 w359 a360 ha ⟨hB, b, c⟩ -; refine Zs ha ?_; refine d_ (h_ rfl) ?_; exact Zx rfl
        ·rintro o361 w362 a363 ha ⟨hB, b, c⟩ ⟨l0, -⟩; have ha := Fr.cons (d := 74) ha l0; refine Zs ha ?_; refine d_ (bh_ rfl) ?_; exact Zx rfl
        ·rintro o365 w366 a367 ha ⟨hB, b, c⟩ ⟨l1, -⟩; have ha := Fr.cons (d := 75) ha l1; refine Zs ha ?_; refine d_ (l_ rfl Tryz.underlying85 rfl Tryz.sizeOf41) ?_; exact Zx rfl
        ·rintro o369 w370 a371 ha ⟨hB, b, c⟩ ⟨l2, -⟩; have ha := Fr.cons (d := 76) ha l2; refine Zs ha ?_; refine d_ (e_ rfl Tryz.isAgg41 (b.cell rfl)) ?_; exact Zx rfl
        ·rintro o373 w374 a375 ha ⟨hB, b, c⟩ ⟨l3, -⟩; have ha := Fr.cons (d := 77) ha l3; refine Zs ha ?_; refine d_ (bM_ rfl c Tryz.underlying41) ?_; exact Zx rfl
        ·rintro o377 w378 a379 ha ⟨hB, b, c⟩ ⟨l4, -⟩; have ha := Fr.cons (d := 78) ha l4; refine Zs ha ?_; refine d_ (bt_ rfl rfl b9) ?_; exact Zx rfl
        ·rintro o381 w382 a383 ha ⟨hB, b, c⟩ ⟨l5, l6, -⟩; have ha := Fr.cons (d := 73) ha l5; have ha := Fr.cons (d := 79) ha l6; refine Zs ha ?_; refine d_ (oH_ c Y rfl rfl Tryz.underlying41 Tryz.sizeOf3) ?_; exact Zx rfl
       rintro a7 w387 a388 ha ⟨hB, b, c⟩ ⟨l7, -, -, -, -, -, -, -, -, -, -, l8, -⟩; have ha := Fr.cons (d := 69) ha l7; have ha := Fr.cons (d := 80) ha l8; refine aV_ ha ?_; simp only [List.length_cons, List.length_nil, Nat.zero_add, Nat.reduceAdd, List.drop_succ_cons, List.drop_zero]; refine Zv (bh_ rfl) (Zv (l_ rfl Tryz.underlying85 rfl Tryz.sizeOf41) ?_); have I := c.pre Y; refine ad_ trivial ?_; refine bp_ b rfl rfl (of_decide_eq_true rfl) Tryz.sizeOf41 I.cells1 I.one1 ?_; intro l9 Z a8; replace I := I.stp a8; replace hB := hB.stp a8; replace Z : Bx w.heap.size 15 a7 l9 f 85 [(ZI pp.Labels), (ZI pp.Degree), C, F, (ZI pq.Labels), (ZI pq.Degree), D, H, (prev T Q.toNat)] := Z; refine Ze [(0, ZP f), (19, ZI pp.Labels), (20, ZI g)] (y_ (nx (c_ (Zv (F_ rfl rfl (G_ (by omega) (by omega))) (Zm rfl (Ze [(0, ZP f), (19, ZI pp.Labels), (20, (ZI (g + 1)))] (w_ ?_))))))); have m0 := Zj k; subst m0; refine Zk [(0, ZP f), (19, ZI pp.Labels), (20, (ZI (g + 1)))] ?_; intro a ha; exact ⟨_, (by rw [← c2]; omega), g + 1, k6, (prev T Q.toNat), a7, b2, rfl, (by omega), ha, hB, Z, I⟩
    ·have m1 := bw_ a1 c1; refine M_ ha ?_; refine Zq (Zv (t_ rfl rfl) (Ze [(0, ZP f), (19, ZI pp.Labels), (20, ZI g), (21, (.bool (decide (g < pp.Labels))))] (nx (a_ ?_)))); refine J_ (Zb (decide_eq_false a1)) ?_; refine v_ ?_; refine r_ (r_ (Q_ ?_)); refine s_ ?_; refine Zk [] ?_; intro a ha; exact ⟨y, B, u, m1, ha, hB, hb, A⟩
   ·rintro a x ⟨y, B, u, rfl, ha, hB, hb, A⟩; dsimp only at hF; refine ap_k ha ?_; refine Zn (Za rfl (Ze [(2, (.bool false))] (nx (m_ ?_)))); have m2 := Zj hF; subst m2; refine Zr Tryz.results79 [(.bool false)] ?_; exact ⟨_, _, rfl, hb, A, hB⟩
   ·rintro a x ⟨r', rfl, m3⟩; dsimp only at hF; have m4 := Zj hF; subst m4; exact m3
end

end Go.Proofs.YtdbbeldgdgonfaaGreat
