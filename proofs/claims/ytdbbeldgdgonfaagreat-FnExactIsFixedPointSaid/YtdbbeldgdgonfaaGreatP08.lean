/- Part 8 of what this claim rests on (GR), packed by pack.py. -/
import Derived.Test.YtdbbeldgdgonfaaGreatP03
import Derived.Test.YtdbbeldgdgonfaaGreatP07
namespace Go.Proofs.YtdbbeldgdgonfaaGreat
set_option linter.unusedSimpArgs false
set_option linter.unusedVariables false

section
set_option maxRecDepth 100000
set_option maxHeartbeats 2000000
open Go.RowKit
def bm_ (g : Int) (a : List Int) : Int → Option (Lp Int Int Bool) := fun (s : Int) =>
  if decide (s < g) then
    (ck (s - 1)) >>= fun c =>
    (ix a c) >>= fun d =>
    (ix a s) >>= fun f =>
    if decide (d > f) then
      some (.ret false)
    else
      (ck (s + 1)) >>= fun b =>
      some (.go b)
  else
    some (.out s)
def eA_ (fuel : Nat) (n : List (List Int)) (k : Int) (q : Int) : Int → (List Int) → Unit → Option (Lp Unit Unit Bool) := fun (m : Int) (a : List Int) (s : Unit) =>
  (
    if (a.length : Int) != k then
      some true
    else
      (ck (q - 1)) >>= fun b =>
      (hp_ a 0 b) >>= fun c =>
      if !c then
        some true
      else
        if decide (m > 0) then
          (ck (m - 1)) >>= fun d =>
          (ix n d) >>= fun f =>
          (dX_ f a) >>= fun g =>
          some (decide (g ≥ 0))
        else
          some false) >>= fun i =>
  if i then
    some (.ret false)
  else
    (loopF (bm_ k a) fuel 1) >>= fun j =>
    match j with
    | .inl u =>
      some (.go ())
    | .inr r' => some (.ret r')
def eH_ (fuel : Nat) (a : List (List Int)) (b : Int) (c : Int) : Option Bool :=
  (forI (eA_ fuel a b c) a 0 ()) >>= fun d =>
  match d with
  | .inl _ =>
    some true
  | .inr r' => some r'

def hQ_ (w : World) (r : Bool) : Ending → World → Prop := fun e w' => e = .returned (.bool r) ∧ Keeps w w'
theorem kc_ (fuel : Nat) (w : World) (c : Value) (k : Yk) (d0 : RdL zt w c k) (m : Int) (x : Int) (r : Bool) (hF : eH_ fuel k m x = some r) :
    Calls Tryz.prog 73 #[c, .int .i64 m, .int .i64 x] w (hQ_ w r) := by
 unfold eH_ at hF; have hB : Bs (fun _ => 1) (col (fun _ => 1)) w w := Bs.start _ _; refine i_ (n := 58) (vs := [c, (ZI m), (ZI x)]) Tryz.func73 rfl rfl ?_; refine Zq (Za rfl (Ze [(0, c), (1, ZI m), (2, ZI x)] (nx (a_ (Zq (Zm rfl (Zv (C_ rfl d0 Tryz.underlying22) (Zm rfl (Ze [(0, c), (1, ZI m), (2, ZI x), (10, c), (11, (ZI (k.length : Int))), (12, ZI 0)] (nx ?_)))))))))); obtain ⟨d1, d2, hF⟩ := bind_some hF; refine A_ (fun a E => ∃ (F : Tg), d1 = .inl () ∧ Fr a 58 [] ∧ Bs (fun _ => 1) F w E) (fun a w' => ∃ r', d1 = .inr r' ∧ bodyPost Tryz.prog Tryz.f73 (hQ_ w r') .ret a w') ?_ ?_ ?_
 ·refine f_ ?_; refine z_ (fun (K : Nat) a E => ∃ (i : Int) (F : Tg), forI (eA_ fuel k m x) (k.drop i.toNat) i () = some d1 ∧ (k.drop i.toNat).length = K ∧ 0 ≤ i ∧ Fr a 58 [(0, c), (1, ZI m), (2, ZI x), (10, c), (11, (ZI (k.length : Int))), (12, ZI i)] ∧ Bs (fun _ => 1) F w E) _ (fun a ha => ⟨0, (col (fun _ => 1)), d2, rfl, Int.le_refl 0, ha.sub (r := [(0, c), (1, ZI m), (2, ZI x), (10, c), (11, (ZI (k.length : Int))), (12, ZI 0)]) ⟨rfl, rfl, rfl, rfl, rfl, rfl, trivial⟩, hB⟩) ?_; rintro K8 a E ⟨i, F, f5, h1, h2, ha, hB⟩; by_cases I : i < (k.length : Int)
  ·obtain ⟨C, l1, U, z, M⟩ := V_ h2 I f5; have hle := d0.len_le; dsimp only [eA_] at z; refine M_ ha ?_; refine Zq (Zv (t_ rfl rfl) (Ze [(0, c), (1, ZI m), (2, ZI x), (10, c), (11, (ZI (k.length : Int))), (12, ZI i), (13, (.bool (decide (i < (k.length : Int)))))] (nx (a_ ?_)))); refine P_ (Zb (decide_eq_true I)) ?_; refine g_ (nx (a_ (f_ (Zq (Zm rfl (Zo ?_)))))); refine wf_atZ d0 U hB rfl rfl Tryz.underlying22 Tryz.sizeOf41 ?_; intro h3 h4 h5 d3 d4; obtain ⟨g, rfl, B⟩ := d4; refine Zv (e_ rfl Tryz.isAgg41 (j_ d3)) (Za rfl (Za rfl (Ze [(0, c), (1, ZI m), (2, ZI x), (7, ZI i), (8, g), (10, c), (11, (ZI (k.length : Int))), (12, ZI i)] (nx (a_ (Zq (Zm rfl (Zv (C_ rfl B Tryz.underlying41) (Zm rfl (Zv (bK_ rfl rfl) (Zm rfl ?_))))))))))); obtain ⟨V, b, z⟩ := bind_some z; refine as_ 20 (fun d5 W => Fr d5 58 [(0, c), (1, ZI m), (2, ZI x), (8, g), (10, c), (11, (ZI (k.length : Int))), (12, ZI i), (41, (.bool V))] ∧ Keeps E W) ?_ ?_; all_goals simp only [List.take_succ_cons, List.take_zero, List.drop_succ_cons, List.drop_zero]
   ·have kp : Keeps E E := Keeps.refl _; rcases Bool.eq_false_or_eq_true ((C.length : Int) != m) with q | q
    ·rw [if_pos q] at b; refine n_ rfl rfl (by rw [q]; rfl) (by decide) ?_; refine n_ rfl rfl (by rw [q]; rfl) (by decide) ?_; refine n_ rfl rfl (by rw [q]; rfl) (by decide) ?_; refine n_ rfl rfl (by rw [q]; rfl) (by decide) ?_; refine n_ rfl rfl (by rw [q]; rfl) (by decide) ?_; refine Zv (x_ (Zb q) rfl) (Zm rfl ?_); refine n_ rfl rfl rfl (by decide) ?_; refine n_ rfl rfl rfl (by decide) ?_; refine n_ rfl rfl rfl (by decide) ?_; refine ai_ rfl rfl (by decide) ?_; refine ai_ rfl rfl (by decide) ?_; refine ai_ rfl rfl (by decide) ?_; refine ai_ rfl rfl (by decide) ?_; refine ai_ rfl rfl (by decide) ?_; refine ai_ rfl rfl (by decide) ?_; refine ai_ rfl rfl (by decide) ?_; refine ai_ rfl rfl (by decide) ?_; refine n_ rfl rfl rfl (by decide) ?_; refine Zv (x_ rfl rfl) ?_; have s := Zj b; refine Ze [(0, c), (1, ZI m), (2, ZI x), (8, g), (10, c), (11, (ZI (k.length : Int))), (12, ZI i), (41, (.bool true))] ?_; subst s; refine s_ (fun a ha => ⟨ha, kp⟩)
    ·rw [if_neg (by rw [q]; decide)] at b; refine k_ (h_ rfl) (by decide) ⟨_, rfl, (Zb q)⟩ (k_ (h_ rfl) (by decide) ⟨_, rfl, (Zb q)⟩ ?_); obtain ⟨d6, X, b⟩ := bind_some b; refine k_ (bt_ rfl rfl X) (by decide) ⟨_, rfl, (Zb q)⟩ ?_; obtain ⟨Y, Z, b⟩ := bind_some b; refine bI_ (by decide) ⟨_, rfl, (Zb q)⟩ ?_; refine p_ (qK_ E _ C (B.keep hB.keeps) 0 d6 Y Z) Tryz.call106 ⟨rfl, rfl, rfl, trivial⟩ ?_; rintro h6 d7 ⟨rfl, a0⟩; have d8 := a0.stp 999 F; refine ⟨_, rfl, ?_⟩; replace hB := hB.stp d8; replace kp := Keeps.trans kp a0; refine k_ (ba_ rfl) (by decide) ⟨_, rfl, (Zb q)⟩ (Zv (B_ (Zb q) rfl) (Zm rfl ?_)); rcases Bool.eq_false_or_eq_true (!Y) with u | u
     ·rw [if_pos u] at b; refine n_ rfl rfl (by rw [u]; rfl) (by decide) ?_; refine n_ rfl rfl (by rw [u]; rfl) (by decide) ?_; refine n_ rfl rfl (by rw [u]; rfl) (by decide) ?_; refine ai_ rfl rfl (by decide) ?_; refine ai_ rfl rfl (by decide) ?_; refine ai_ rfl rfl (by decide) ?_; refine ai_ rfl rfl (by decide) ?_; refine ai_ rfl rfl (by decide) ?_; refine ai_ rfl rfl (by decide) ?_; refine ai_ rfl rfl (by decide) ?_; refine ai_ rfl rfl (by decide) ?_; refine n_ rfl rfl (by rw [u]; rfl) (by decide) ?_; refine Zv (x_ (Zb u) rfl) ?_; have s := Zj b; refine Ze [(0, c), (1, ZI m), (2, ZI x), (8, g), (10, c), (11, (ZI (k.length : Int))), (12, ZI i), (41, (.bool true))] ?_; subst s; refine s_ (fun a ha => ⟨ha, kp⟩)
     ·rw [if_neg (by rw [u]; decide)] at b; refine k_ (h_ rfl) (by decide) ⟨_, rfl, (Zb u)⟩ (k_ (dR_ rfl rfl) (by decide) ⟨_, rfl, (Zb u)⟩ (k_ (h_ rfl) (by decide) ⟨_, rfl, (Zb u)⟩ ?_)); rcases Bool.eq_false_or_eq_true (decide (i > 0)) with f | f
      ·rw [if_pos f] at b; refine k_ (h_ rfl) (by decide) ⟨_, rfl, (Zb f)⟩ (k_ (h_ rfl) (by decide) ⟨_, rfl, (Zb f)⟩ ?_); obtain ⟨h7, a1, b⟩ := bind_some b; refine k_ (bt_ rfl rfl a1) (by decide) ⟨_, rfl, (Zb f)⟩ ?_; obtain ⟨d9, a2, b⟩ := bind_some b; refine bI_ (by decide) ⟨_, rfl, (Zb f)⟩ ?_; refine wf_atZ d0 a2 hB rfl rfl Tryz.underlying22 Tryz.sizeOf41 ?_; intro h8 h9 i0 e0 e1; obtain ⟨i1, rfl, e2⟩ := e1; refine k_ (e_ rfl Tryz.isAgg41 (j_ e0)) (by decide) ⟨_, rfl, (Zb f)⟩ (k_ (h_ rfl) (by decide) ⟨_, rfl, (Zb f)⟩ ?_); obtain ⟨a3, a4, b⟩ := bind_some b; refine bI_ (by decide) ⟨_, rfl, (Zb f)⟩ ?_; refine p_ (kf_ d7 _ d9 (e2.keep hB.keeps) _ C (B.keep hB.keeps) a3 a4) Tryz.call107 ⟨rfl, rfl, trivial⟩ ?_; rintro i2 i3 ⟨rfl, a5⟩; have i4 := a5.stp 999 F; refine ⟨_, rfl, ?_⟩; replace kp := Keeps.trans kp a5; refine k_ (je_ rfl rfl) (by decide) ⟨_, rfl, (Zb f)⟩ (k_ (x_ (Zb f) rfl) (by decide) ⟨_, rfl, (Zb u)⟩ (Zv (B_ (Zb u) rfl) ?_)); have s := Zj b; refine Ze [(0, c), (1, ZI m), (2, ZI x), (8, g), (10, c), (11, (ZI (k.length : Int))), (12, ZI i), (41, (.bool (decide (a3 ≥ 0))))] ?_; subst s; refine s_ (fun a ha => ⟨ha, kp⟩)
      ·rw [if_neg (by rw [f]; decide)] at b; refine n_ rfl rfl (by rw [f]; rfl) (by decide) ?_; refine n_ rfl rfl (by rw [f]; rfl) (by decide) ?_; refine n_ rfl rfl (by rw [f]; rfl) (by decide) ?_; refine n_ rfl rfl (by rw [f]; rfl) (by decide) ?_; refine n_ rfl rfl (by rw [f]; rfl) (by decide) ?_; refine n_ rfl rfl (by rw [f]; rfl) (by decide) ?_; refine n_ rfl rfl (by rw [f]; rfl) (by decide) ?_; refine n_ rfl rfl (by rw [f]; rfl) (by decide) ?_; refine k_ (B_ (Zb f) rfl) (by decide) ⟨_, rfl, (Zb u)⟩ (Zv (B_ (Zb u) rfl) ?_); have s := Zj b; refine Ze [(0, c), (1, ZI m), (2, ZI x), (8, g), (10, c), (11, (ZI (k.length : Int))), (12, ZI i), (41, (.bool false))] ?_; subst s; refine s_ (fun a ha => ⟨ha, kp⟩)
   rintro i5 W ⟨ha, e3⟩; have e4 := e3.stp 999 F; replace hB := hB.stp e4; refine aV_ ha ?_; refine Ze [(0, c), (1, ZI m), (2, ZI x), (8, g), (10, c), (11, (ZI (k.length : Int))), (12, ZI i), (41, (.bool V))] (nx ?_); refine o_ rfl (fun N => ?_) (fun N => ?_)
   ·rw [if_pos N] at z; refine Zq (Za rfl (Ze [(6, (.bool false))] (nx (m_ (D_ (ac_ (D_ (D_ (ac_ ?_))))))))); refine bQ_ ?_; have e5 := Zj z; subst e5; refine fun a ha => ⟨_, M, ?_⟩; refine H_ (P := Tryz.prog) (vs := [(.bool false)]) Tryz.results73 ⟨rfl, trivial⟩ ?_ a ha; exact ⟨rfl, hB.keeps⟩
   ·rw [if_neg (by rw [N]; decide)] at z; refine g_ (Zn (Za rfl (Ze [(0, c), (1, ZI m), (2, ZI x), (8, g), (9, ZI 1), (10, c), (11, (ZI (k.length : Int))), (12, ZI i)] (nx ?_)))); obtain ⟨O, a6, z⟩ := bind_some z; refine A_ (fun a D => ∃ (y : Int) (A : Tg), O = .inl y ∧ Fr a 58 [(0, c), (1, ZI m), (2, ZI x), (10, c), (11, (ZI (k.length : Int))), (12, ZI i)] ∧ Bs (fun _ => 1) A w D) (fun a w' => ∃ r', O = .inr r' ∧ bodyPost Tryz.prog Tryz.f73 (hQ_ w r') .ret a w') ?_ ?_ ?_
    ·refine f_ ?_; refine z_ (fun (K : Nat) a D => ∃ (y : Int) (A : Tg), loopF (bm_ m C) K y = some O ∧ Fr a 58 [(0, c), (1, ZI m), (2, ZI x), (8, g), (9, ZI y), (10, c), (11, (ZI (k.length : Int))), (12, ZI i)] ∧ Bs (fun _ => 1) A w D) fuel (fun a ha => ⟨1, F, a6, ha.sub (r := [(0, c), (1, ZI m), (2, ZI x), (8, g), (9, ZI 1), (10, c), (11, (ZI (k.length : Int))), (12, ZI i)]) ⟨rfl, rfl, rfl, rfl, rfl, rfl, rfl, rfl, trivial⟩, hB⟩) ?_; rintro K61 a D ⟨y, A, e6, ha, hB⟩; obtain ⟨K65, i6, i7, j, Q⟩ := Y_ e6; dsimp only [bm_] at j; refine M_ ha ?_; refine a_ (Zq (Zm rfl (Zm rfl (Zv (t_ rfl rfl) (Ze [(0, c), (1, ZI m), (2, ZI x), (8, g), (9, ZI y), (10, c), (11, (ZI (k.length : Int))), (12, ZI i), (44, (.bool (decide (y < m))))] (nx ?_)))))); refine o_ rfl (fun R => ?_) (fun R => ?_)
     ·rw [if_pos R] at j; refine g_ (nx (a_ (f_ (a_ ?_)))); obtain ⟨a7, a8, j⟩ := bind_some j; obtain ⟨a9, J, j⟩ := bind_some j; obtain ⟨b0, L, j⟩ := bind_some j; refine Z_ (o := A) [(0, c), (1, ZI m), (2, ZI x), (8, g), (9, ZI y), (10, c), (11, (ZI (k.length : Int))), (12, ZI i)] [0, 1, 2, 8, 9, 10, 11, 12] [47, 48, 49, 50, 51, 52, 53, 54, 55] [[], [], [1], [0, 2], [3], [], [], [5, 6], [7]] [none, none, none, none, none, none, none, none, none] [999, 999, 999, 999, 999, 999, 999, 999, 999] [0, 0, 0, 0, 0, 0, 0, 0, 0] [999] [fun v _ _ => v = g, fun v _ _ => v = (ZI y), fun v _ _ => v = (ZI a7), fun v o i8 => ∃ vl, v = adr vl (a7.toNat * Rp.sz Int) ∧ RdL zt w vl C, fun v _ _ => v = (ZI a9), fun v _ _ => v = g, fun v _ _ => v = (ZI y), fun v o i8 => ∃ vl, v = adr vl (y.toNat * Rp.sz Int) ∧ RdL zt w vl C, fun v _ _ => v = (ZI b0)] (fun i9 j0 => Bs (fun _ => 1) i9 w j0) E_ (by kernel_rfl) rfl ⟨rfl, rfl, rfl, rfl, rfl, rfl, rfl, rfl, trivial⟩ hB ?_ ⟨q_ _, q_ _, q_ _, fun _ _ _ _ _ _ j1 hb ⟨vl, e, h⟩ hs => ⟨vl, e, h⟩, q_ _, q_ _, q_ _, fun _ _ _ _ _ _ j1 hb ⟨vl, e, h⟩ hs => ⟨vl, e, h⟩, q_ _, trivial⟩ ?_ ?_
      ·rintro j2 F l2 l3 E S hB e7; have S : j2 = 999 := by simpa using S
       subst S; all_goals exact hB.stp e7 (by decide)
      ·refine ⟨?_, ?_, ?_, ?_, ?_, ?_, ?_, ?_, ?_, trivial⟩
       ·rintro j3 j4 j5 ha hB -; refine Zs ha ?_; refine d_ (h_ rfl) ?_; exact Zx rfl
       ·rintro j6 j7 j8 ha hB -; refine Zs ha ?_; refine d_ (h_ rfl) ?_; exact Zx rfl
       ·rintro j9 k0 k1 ha hB ⟨e8, -⟩; have ha := Fr.cons (d := 48) ha e8; refine Zs ha ?_; refine d_ (bt_ rfl rfl a8) ?_; exact Zx rfl
       ·rintro k2 k3 k4 ha hB ⟨e9, f0, -⟩; have ha := Fr.cons (d := 47) ha e9; have ha := Fr.cons (d := 49) ha f0; refine Zs ha ?_; refine bq_ B J rfl rfl Tryz.underlying41 Tryz.sizeOf3 ?_; exact ⟨_, Stp.refl _ _ _, ⟨_, rfl, B⟩⟩
       ·rintro k5 k6 k7 ha hB ⟨f1, -⟩; obtain ⟨k8, f2, f3⟩ := f1; have ha := Fr.cons (d := 50) ha f2; refine Zs ha ?_; refine bx_ f3 J hB rfl rfl Tryz.isAgg3 ?_; intro k9 f4; cases f4
        exact Zx rfl
       ·rintro l0 f6 f7 ha hB -; refine Zs ha ?_; refine d_ (h_ rfl) ?_; exact Zx rfl
       ·rintro f8 f9 g0 ha hB -; refine Zs ha ?_; refine d_ (h_ rfl) ?_; exact Zx rfl
       ·rintro g1 g2 g3 ha hB ⟨b1, b2, -⟩; have ha := Fr.cons (d := 52) ha b1; have ha := Fr.cons (d := 53) ha b2; refine Zs ha ?_; refine bq_ B L rfl rfl Tryz.underlying41 Tryz.sizeOf3 ?_; exact ⟨_, Stp.refl _ _ _, ⟨_, rfl, B⟩⟩
       ·rintro g4 g5 g6 ha hB ⟨b3, -⟩; obtain ⟨g7, b4, b5⟩ := b3; have ha := Fr.cons (d := 54) ha b4; refine Zs ha ?_; refine bx_ b5 L hB rfl rfl Tryz.isAgg3 ?_; intro g8 b6; cases b6
        exact Zx rfl
      rintro b7 g9 h0 ha hB ⟨-, -, -, -, b8, -, -, -, b9, -⟩; have ha := Fr.cons (d := 51) ha b8; have ha := Fr.cons (d := 55) ha b9; refine aV_ ha ?_; simp only [List.length_cons, List.length_nil, Nat.zero_add, Nat.reduceAdd, List.drop_succ_cons, List.drop_zero]; refine Zv (dR_ rfl rfl) (Ze [(0, c), (1, ZI m), (2, ZI x), (8, g), (9, ZI y), (10, c), (11, (ZI (k.length : Int))), (12, ZI i), (56, (.bool (decide (a9 > b0))))] (nx ?_)); refine o_ rfl (fun G => ?_) (fun G => ?_)
      ·rw [if_pos G] at j; refine Zq (Za rfl (Ze [(6, (.bool false))] (nx (m_ (ac_ (D_ (D_ (ac_ ?_)))))))); refine bQ_ ?_; have c0 := Zj j; subst c0; refine fun a ha => ⟨_, Q, ?_⟩; refine H_ (P := Tryz.prog) (vs := [(.bool false)]) Tryz.results73 ⟨rfl, trivial⟩ ?_ a ha; exact ⟨rfl, hB.keeps⟩
      ·rw [if_neg (by rw [G]; decide)] at j; refine g_ (y_ (nx (c_ (Zm rfl ?_)))); obtain ⟨H, T, j⟩ := bind_some j; refine Zv (F_ rfl rfl T) (Za rfl (Ze [(0, c), (1, ZI m), (2, ZI x), (8, g), (9, ZI H), (10, c), (11, (ZI (k.length : Int))), (12, ZI i)] (w_ ?_))); have c1 := Zj j; subst c1; refine Zk [(0, c), (1, ZI m), (2, ZI x), (8, g), (9, ZI H), (10, c), (11, (ZI (k.length : Int))), (12, ZI i)] ?_; intro a ha; exact ⟨K65, by omega, H, b7, Q, ha, hB⟩
     ·rw [if_neg (by rw [R]; decide)] at j; refine v_ ?_; refine r_ (r_ (Q_ ?_)); refine s_ ?_; have c2 := Zj j; subst c2; refine Zk [(0, c), (1, ZI m), (2, ZI x), (10, c), (11, (ZI (k.length : Int))), (12, ZI i)] ?_; intro a ha; exact ⟨y, A, Q, ha, hB⟩
    ·rintro a D ⟨y, A, rfl, ha, hB⟩; dsimp only at z; refine ap_k ha ?_; refine y_ (nx (c_ (Zv (F_ rfl rfl (G_ (by omega) (by omega))) (Zm rfl (Ze [(0, c), (1, ZI m), (2, ZI x), (10, c), (11, (ZI (k.length : Int))), (12, (ZI (i + 1)))] (w_ ?_)))))); have c3 := Zj z; subst c3; refine Zk [(0, c), (1, ZI m), (2, ZI x), (10, c), (11, (ZI (k.length : Int))), (12, (ZI (i + 1)))] ?_; intro a ha; exact ⟨_, (by rw [← h1]; simp only [List.length_drop]; omega), i + 1, A, M, rfl, (by omega), ha, hB⟩
    ·rintro a D ⟨r', rfl, c4⟩; dsimp only at z; have c5 := Zj z; subst c5; exact ⟨_, M, c4⟩
  ·have c6 := W_ I f5; refine M_ ha ?_; refine Zq (Zv (t_ rfl rfl) (Ze [(0, c), (1, ZI m), (2, ZI x), (10, c), (11, (ZI (k.length : Int))), (12, ZI i), (13, (.bool (decide (i < (k.length : Int)))))] (nx (a_ ?_)))); refine J_ (Zb (decide_eq_false I)) ?_; refine v_ ?_; refine r_ (r_ (Q_ ?_)); refine s_ ?_; refine Zk [] ?_; intro a ha; exact ⟨F, c6, ha, hB⟩
 ·rintro a E ⟨F, rfl, ha, hB⟩; dsimp only at hF; refine ap_k ha ?_; refine Zn (Za rfl (Ze [(6, (.bool true))] (nx (m_ ?_)))); have c7 := Zj hF; subst c7; refine Zr Tryz.results73 [(.bool true)] ?_; exact ⟨rfl, hB.keeps⟩
 ·rintro a E ⟨r', rfl, c8⟩; dsimp only at hF; have c9 := Zj hF; subst c9; exact c8
def eR_ (fuel : Nat) (a : b_) : Option Bool :=
  (ge_ a.Labels 1 8) >>= fun b =>
  (
    if b then
      (ge_ a.Degree 1 4) >>= fun c =>
      if c then
        (eH_ fuel a.Nodes a.Degree a.Labels) >>= fun d =>
        if d then
          (eH_ fuel a.Edges 2 a.Labels) >>= fun f =>
          some f
        else
          some false
      else
        some false
    else
      some false) >>= fun g =>
  some g

def oL_ (w : World) (r : Bool) : Ending → World → Prop := fun e w' => e = .returned (.bool r) ∧ Keeps w w'
theorem iL_ (fuel : Nat) (w : World) (Q : List Value) (i : b_) (T : Rp.rd zt w Q i) (r : Bool) (hF : eR_ fuel i = some r) :
    Calls Tryz.prog 47 #[.agg Q.toArray] w (oL_ w r) := by
 unfold eR_ at hF; obtain ⟨R, S, rfl, U, V⟩ := T; have hB : Bs (fun _ => 1) (col (fun _ => 1)) w w := Bs.start _ _; refine i_ (n := 27) (vs := [(.agg #[(ZI i.Labels), (ZI i.Degree), R, S])]) Tryz.func47 rfl rfl ?_; refine Zq (Zo ?_); refine aK_ (o := (col (fun _ => 1))) w.heap.size 11 hB.keeps.size (cs := [(ZI i.Labels), (ZI i.Degree), R, S]) rfl rfl ?_; intro q W X j Y; replace hB := hB.stp Y; refine Za rfl (Ze [(1, ZP X)] (Zn (Zv (l_ rfl Tryz.underlying28 rfl Tryz.sizeOf3) (Zv (e_ rfl Tryz.isAgg3 (j.cell rfl)) ?_)))); obtain ⟨s, u, hF⟩ := bind_some hF; refine Zo ?_; refine p_ (kE_ W i.Labels 1 8 s u) Tryz.call40 ⟨rfl, rfl, rfl, trivial⟩ ?_; rintro Z k ⟨rfl, J⟩; have v := J.stp 999 q; refine ⟨_, rfl, ?_⟩; replace j := j.stp v; replace hB := hB.stp v; refine Zm rfl ?_; obtain ⟨m, b, hF⟩ := bind_some hF; refine as_ 20 (fun K x => Fr K 27 [(26, (.bool m))] ∧ Keeps k x) ?_ ?_; all_goals simp only [List.take_succ_cons, List.take_zero, List.drop_succ_cons, List.drop_zero]
 ·have kp : Keeps k k := Keeps.refl _; rcases Bool.eq_false_or_eq_true (s) with g | g
  ·rw [if_pos g] at b; refine k_ (l_ rfl Tryz.underlying28 rfl Tryz.sizeOf3) (by decide) ⟨_, rfl, (Zb g)⟩ (k_ (e_ rfl Tryz.isAgg3 (j.cell rfl)) (by decide) ⟨_, rfl, (Zb g)⟩ ?_); obtain ⟨y, z, b⟩ := bind_some b; refine bI_ (by decide) ⟨_, rfl, (Zb g)⟩ ?_; refine p_ (kE_ k i.Degree 1 4 y z) Tryz.call40 ⟨rfl, rfl, rfl, trivial⟩ ?_; rintro a0 L ⟨rfl, A⟩; have B := A.stp 999 q; refine ⟨_, rfl, ?_⟩; replace j := j.stp B; replace hB := hB.stp B; replace kp := Keeps.trans kp A; refine Zv (x_ (Zb g) rfl) (Zm rfl ?_); rcases Bool.eq_false_or_eq_true (y) with c | c
   ·rw [if_pos c] at b; refine k_ (l_ rfl Tryz.underlying28 rfl Tryz.sizeOf22) (by decide) ⟨_, rfl, (Zb c)⟩ (k_ (e_ rfl Tryz.isAgg22 (j.cell rfl)) (by decide) ⟨_, rfl, (Zb c)⟩ (k_ (l_ rfl Tryz.underlying28 rfl Tryz.sizeOf3) (by decide) ⟨_, rfl, (Zb c)⟩ (k_ (e_ rfl Tryz.isAgg3 (j.cell rfl)) (by decide) ⟨_, rfl, (Zb c)⟩ (k_ (l_ rfl Tryz.underlying28 rfl Tryz.sizeOf3) (by decide) ⟨_, rfl, (Zb c)⟩ (k_ (e_ rfl Tryz.isAgg3 (j.cell rfl)) (by decide) ⟨_, rfl, (Zb c)⟩ ?_))))); obtain ⟨C, D, b⟩ := bind_some b; refine bI_ (by decide) ⟨_, rfl, (Zb c)⟩ ?_; refine p_ (kc_ fuel L _ i.Nodes (U.keep hB.keeps) i.Degree i.Labels C D) Tryz.call73 ⟨rfl, rfl, rfl, trivial⟩ ?_; rintro a1 M ⟨rfl, E⟩; have F := E.stp 999 q; refine ⟨_, rfl, ?_⟩; replace j := j.stp F; replace hB := hB.stp F; replace kp := Keeps.trans kp E; refine Zv (x_ (Zb c) rfl) (Zm rfl ?_); rcases Bool.eq_false_or_eq_true (C) with d | d
    ·rw [if_pos d] at b; refine k_ (l_ rfl Tryz.underlying28 rfl Tryz.sizeOf22) (by decide) ⟨_, rfl, (Zb d)⟩ (k_ (e_ rfl Tryz.isAgg22 (j.cell rfl)) (by decide) ⟨_, rfl, (Zb d)⟩ (k_ (l_ rfl Tryz.underlying28 rfl Tryz.sizeOf3) (by decide) ⟨_, rfl, (Zb d)⟩ (k_ (e_ rfl Tryz.isAgg3 (j.cell rfl)) (by decide) ⟨_, rfl, (Zb d)⟩ ?_))); obtain ⟨G, H, b⟩ := bind_some b; refine bI_ (by decide) ⟨_, rfl, (Zb d)⟩ ?_; refine p_ (kc_ fuel M _ i.Edges (V.keep hB.keeps) 2 i.Labels G H) Tryz.call73 ⟨rfl, rfl, rfl, trivial⟩ ?_; rintro a2 a3 ⟨rfl, I⟩; have a4 := I.stp 999 q; refine ⟨_, rfl, ?_⟩; replace kp := Keeps.trans kp I; refine Zv (x_ (Zb d) rfl) ?_; have f := Zj b; refine Ze [(26, (.bool G))] ?_; subst f; refine s_ (fun a ha => ⟨ha, kp⟩)
    ·rw [if_neg (by rw [d]; decide)] at b; refine n_ rfl rfl (by rw [d]; rfl) (by decide) ?_; refine n_ rfl rfl (by rw [d]; rfl) (by decide) ?_; refine n_ rfl rfl (by rw [d]; rfl) (by decide) ?_; refine n_ rfl rfl (by rw [d]; rfl) (by decide) ?_; refine n_ rfl rfl (by rw [d]; rfl) (by decide) ?_; refine Zv (B_ (Zb d) rfl) ?_; have f := Zj b; refine Ze [(26, (.bool false))] ?_; subst f; refine s_ (fun a ha => ⟨ha, kp⟩)
   ·rw [if_neg (by rw [c]; decide)] at b; refine n_ rfl rfl (by rw [c]; rfl) (by decide) ?_; refine n_ rfl rfl (by rw [c]; rfl) (by decide) ?_; refine n_ rfl rfl (by rw [c]; rfl) (by decide) ?_; refine n_ rfl rfl (by rw [c]; rfl) (by decide) ?_; refine n_ rfl rfl (by rw [c]; rfl) (by decide) ?_; refine n_ rfl rfl (by rw [c]; rfl) (by decide) ?_; refine n_ rfl rfl (by rw [c]; rfl) (by decide) ?_; refine Zv (B_ (Zb c) rfl) (Zm rfl ?_); refine n_ rfl rfl rfl (by decide) ?_; refine n_ rfl rfl rfl (by decide) ?_; refine n_ rfl rfl rfl (by decide) ?_; refine n_ rfl rfl rfl (by decide) ?_; refine n_ rfl rfl rfl (by decide) ?_; refine Zv (B_ rfl rfl) ?_; have f := Zj b; refine Ze [(26, (.bool false))] ?_; subst f; refine s_ (fun a ha => ⟨ha, kp⟩)
  ·rw [if_neg (by rw [g]; decide)] at b; refine n_ rfl rfl (by rw [g]; rfl) (by decide) ?_; refine n_ rfl rfl (by rw [g]; rfl) (by decide) ?_; refine n_ rfl rfl (by rw [g]; rfl) (by decide) ?_; refine Zv (B_ (Zb g) rfl) (Zm rfl ?_); refine n_ rfl rfl rfl (by decide) ?_; refine n_ rfl rfl rfl (by decide) ?_; refine n_ rfl rfl rfl (by decide) ?_; refine n_ rfl rfl rfl (by decide) ?_; refine n_ rfl rfl rfl (by decide) ?_; refine n_ rfl rfl rfl (by decide) ?_; refine n_ rfl rfl rfl (by decide) ?_; refine Zv (B_ rfl rfl) (Zm rfl ?_); refine n_ rfl rfl rfl (by decide) ?_; refine n_ rfl rfl rfl (by decide) ?_; refine n_ rfl rfl rfl (by decide) ?_; refine n_ rfl rfl rfl (by decide) ?_; refine n_ rfl rfl rfl (by decide) ?_; refine Zv (B_ rfl rfl) ?_; have f := Zj b; refine Ze [(26, (.bool false))] ?_; subst f; refine s_ (fun a ha => ⟨ha, kp⟩)
 rintro a5 x ⟨ha, N⟩; have O := N.stp 999 q; replace hB := hB.stp O; refine aV_ ha ?_; refine Za rfl (Ze [(2, (.bool m))] (nx (m_ ?_))); have P := Zj hF; subst P; refine Zr Tryz.results47 [(.bool m)] ?_; exact ⟨rfl, hB.keeps⟩
def fP_ (c : List Int) : Int → (List Int) → Unit → Option (Lp Unit Unit Bool) := fun (d : Int) (a : List Int) (s : Unit) =>
  (em_ c a) >>= fun b =>
  if b then
    some (.ret true)
  else
    some (.go ())
def fa_ (a : List (List Int)) (b : List Int) : Option Bool :=
  (forI (fP_ b) a 0 ()) >>= fun c =>
  match c with
  | .inl _ =>
    some false
  | .inr r' => some r'

def nW_ (w : World) (r : Bool) : Ending → World → Prop := fun e w' => e = .returned (.bool r) ∧ Keeps w w'
theorem ix_ (w : World) (f : Value) (b : Yk) (y : RdL zt w f b) (g : Value) (x : Yl) (R : RdL zt w g x) (r : Bool) (hF : fa_ b x = some r) :
    Calls Tryz.prog 120 #[f, g] w (nW_ w r) := by
 unfold fa_ at hF; have hB : Bs (fun _ => 1) (col (fun _ => 1)) w w := Bs.start _ _; refine i_ (n := 17) (vs := [f, g]) Tryz.func120 rfl rfl ?_; refine Zq (Za rfl (Ze [(0, f), (1, g)] (nx (a_ (Zq (Zm rfl (Zv (C_ rfl y Tryz.underlying22) (Zm rfl (Ze [(1, g), (7, f), (8, (ZI (b.length : Int))), (9, ZI 0)] (nx ?_)))))))))); obtain ⟨z, A, hF⟩ := bind_some hF; refine A_ (fun a k => ∃ (j : Tg), z = .inl () ∧ Fr a 17 [] ∧ Bs (fun _ => 1) j w k) (fun a w' => ∃ r', z = .inr r' ∧ bodyPost Tryz.prog Tryz.f120 (nW_ w r') .ret a w') ?_ ?_ ?_
 ·refine f_ ?_; refine z_ (fun (K : Nat) a k => ∃ (c : Int) (j : Tg), forI (fP_ x) (b.drop c.toNat) c () = some z ∧ (b.drop c.toNat).length = K ∧ 0 ≤ c ∧ Fr a 17 [(1, g), (7, f), (8, (ZI (b.length : Int))), (9, ZI c)] ∧ Bs (fun _ => 1) j w k) _ (fun a ha => ⟨0, (col (fun _ => 1)), A, rfl, Int.le_refl 0, ha.sub (r := [(1, g), (7, f), (8, (ZI (b.length : Int))), (9, ZI 0)]) ⟨rfl, rfl, rfl, rfl, trivial⟩, hB⟩) ?_; rintro K8 a k ⟨c, j, Q, S, T, ha, hB⟩; by_cases i : c < (b.length : Int)
  ·obtain ⟨B, Z, q, d, s⟩ := V_ T i Q; have hle := y.len_le; dsimp only [fP_] at d; refine M_ ha ?_; refine Zq (Zv (t_ rfl rfl) (Ze [(1, g), (7, f), (8, (ZI (b.length : Int))), (9, ZI c), (10, (.bool (decide (c < (b.length : Int)))))] (nx (a_ ?_)))); refine P_ (Zb (decide_eq_true i)) ?_; refine g_ (nx (a_ (f_ (Zq (Zo ?_))))); refine wf_atZ y q hB rfl rfl Tryz.underlying22 Tryz.sizeOf41 ?_; intro U V W C D; obtain ⟨E, rfl, F⟩ := D; refine Zv (e_ rfl Tryz.isAgg41 (j_ C)) (Za rfl (Ze [(1, g), (6, E), (7, f), (8, (ZI (b.length : Int))), (9, ZI c)] (Zn (Zm rfl (Zm rfl ?_))))); obtain ⟨u, v, d⟩ := bind_some d; refine Zo ?_; refine p_ (gl_ k _ x (R.keep hB.keeps) _ B (F.keep hB.keeps) u v) Tryz.call115 ⟨rfl, rfl, trivial⟩ ?_; rintro X Y ⟨rfl, G⟩; have H := G.stp 999 j; refine ⟨_, rfl, ?_⟩; replace hB := hB.stp H; refine Ze [(1, g), (7, f), (8, (ZI (b.length : Int))), (9, ZI c), (15, (.bool u))] (nx ?_); refine o_ rfl (fun m => ?_) (fun m => ?_)
   ·rw [if_pos m] at d; refine Zq (Za rfl (Ze [(4, (.bool true))] (nx (m_ (ac_ (D_ (D_ (ac_ ?_)))))))); refine bQ_ ?_; have I := Zj d; subst I; refine fun a ha => ⟨_, s, ?_⟩; refine H_ (P := Tryz.prog) (vs := [(.bool true)]) Tryz.results120 ⟨rfl, trivial⟩ ?_ a ha; exact ⟨rfl, hB.keeps⟩
   ·rw [if_neg (by rw [m]; decide)] at d; refine g_ (y_ (nx (c_ (Zv (F_ rfl rfl (G_ (by omega) (by omega))) (Zm rfl (Ze [(1, g), (7, f), (8, (ZI (b.length : Int))), (9, (ZI (c + 1)))] (w_ ?_))))))); have J := Zj d; subst J; refine Zk [(1, g), (7, f), (8, (ZI (b.length : Int))), (9, (ZI (c + 1)))] ?_; intro a ha; exact ⟨_, (by rw [← S]; simp only [List.length_drop]; omega), c + 1, j, s, rfl, (by omega), ha, hB⟩
  ·have L := W_ i Q; refine M_ ha ?_; refine Zq (Zv (t_ rfl rfl) (Ze [(1, g), (7, f), (8, (ZI (b.length : Int))), (9, ZI c), (10, (.bool (decide (c < (b.length : Int)))))] (nx (a_ ?_)))); refine J_ (Zb (decide_eq_false i)) ?_; refine v_ ?_; refine r_ (r_ (Q_ ?_)); refine s_ ?_; refine Zk [] ?_; intro a ha; exact ⟨j, L, ha, hB⟩
 ·rintro a k ⟨j, rfl, ha, hB⟩; dsimp only at hF; refine ap_k ha ?_; refine Zn (Za rfl (Ze [(4, (.bool false))] (nx (m_ ?_)))); have M := Zj hF; subst M; refine Zr Tryz.results120 [(.bool false)] ?_; exact ⟨rfl, hB.keeps⟩
 ·rintro a k ⟨r', rfl, N⟩; dsimp only at hF; have O := Zj hF; subst O; exact N
def gm_ (fuel : Nat) (c : b_) (d : List Int) : Option Bool :=
  (cM_ fuel d) >>= fun a =>
  (fa_ c.Nodes a) >>= fun b =>
  some b

def ql_ (w : World) (r : Bool) : Ending → World → Prop := fun e w' => e = .returned (.bool r) ∧ Keeps w w'
theorem qc_ (fuel : Nat) (w : World) (Q : List Value) (b : b_) (T : Rp.rd zt w Q b) (k : Value) (D : Yl) (U : RdL zt w k D) (r : Bool) (hF : gm_ fuel b D = some r) :
    Calls Tryz.prog 156 #[.agg Q.toArray, k] w (ql_ w r) := by
 unfold gm_ at hF; obtain ⟨B, E, rfl, V, b8⟩ := T; have hB : Bs (fun _ => 1) (col (fun _ => 1)) w w := Bs.start _ _; refine i_ (n := 10) (vs := [(.agg #[(ZI b.Labels), (ZI b.Degree), B, E]), k]) Tryz.func156 rfl rfl ?_; refine Zq (Zo ?_); refine aK_ (o := (col (fun _ => 1))) w.heap.size 11 hB.keeps.size (cs := [(ZI b.Labels), (ZI b.Degree), B, E]) rfl rfl ?_; intro W b9 C c X; replace hB := hB.stp X; refine Za rfl (Ze [(1, k), (2, ZP C)] (nx (a_ ?_))); obtain ⟨f, m, hF⟩ := bind_some hF; refine Z_ (o := W) [(1, k), (2, ZP C)] [1, 2] [5, 6, 7, 8] [[], [0], [], [2]] [none, none, none, none] [999, 999, 999, 999] [0, 0, 0, 12] [999] [fun v _ _ => v = (.pointer (some ⟨C, 0 + 2, none⟩)), fun v _ _ => v = B, fun v _ _ => v = k, fun v o Y => Ow w.heap.size 3 12 o Y v f] (fun R S => Bs (fun _ => 1) R w S ∧ Bx w.heap.size 11 R S C 28 [(ZI b.Labels), (ZI b.Degree), B, E]) E_ (by kernel_rfl) rfl ⟨rfl, rfl, trivial⟩ ⟨hB, c⟩ ?_ ⟨q_ _, q_ _, q_ _, fun _ _ _ _ _ _ Z hb h hs => h.stp hs Z.1 (Ne.symm hb), trivial⟩ ?_ ?_
 ·rintro a0 c0 c1 c2 c3 g ⟨hB, c⟩ q; have g : a0 = 999 := by simpa using g
  subst g; all_goals exact ⟨hB.stp q (by decide), c.stp q (by decide)⟩
 ·refine ⟨?_, ?_, ?_, ?_, trivial⟩
  ·rintro a1 a2 a3 ha ⟨hB, c⟩ -; refine Zs ha ?_; refine d_ (l_ rfl Tryz.underlying28 rfl Tryz.sizeOf22) ?_; exact Zx rfl
  ·rintro a4 a5 a6 ha ⟨hB, c⟩ ⟨F, -⟩; have ha := Fr.cons (d := 5) ha F; refine Zs ha ?_; refine d_ (e_ rfl Tryz.isAgg22 (c.cell rfl)) ?_; exact Zx rfl
  ·rintro a7 a8 a9 ha ⟨hB, c⟩ -; refine Zs ha ?_; refine d_ (h_ rfl) ?_; exact Zx rfl
  ·rintro G H b0 ha ⟨hB, c⟩ ⟨I, -⟩; have ha := Fr.cons (d := 7) ha I; refine Zs ha ?_; refine p_ (fG_ fuel H G 12 (by decide) _ D (U.keep hB.keeps) f m) Tryz.call121 ⟨rfl, trivial⟩ ?_; rintro b1 b2 ⟨b3, b4, rfl, i, J, K⟩; have L := J.stp' 999 K; replace i := i.mono hB.keeps.size; refine ⟨_, rfl, ?_⟩; exact ⟨_, L, i⟩
 rintro s u x ha ⟨hB, c⟩ ⟨-, M, -, a, -⟩; have ha := Fr.cons (d := 6) ha M; replace a : Ow w.heap.size 3 12 s u (x.tmps.getD 8 undef) f := a; generalize N : x.tmps.getD 8 undef = b5 at a; have ha := Fr.cons (d := 8) ha N; refine aV_ ha ?_; simp only [List.length_cons, List.length_nil, Nat.zero_add, Nat.reduceAdd, List.drop_succ_cons, List.drop_zero]; obtain ⟨j, y, hF⟩ := bind_some hF; refine Zo ?_; refine p_ (ix_ u _ b.Nodes (V.keep hB.keeps) _ f a.z j y) Tryz.call120 ⟨rfl, rfl, trivial⟩ ?_; rintro b6 b7 ⟨rfl, O⟩; have A := O.stp 999 s; refine ⟨_, rfl, ?_⟩; replace a := a.stp A; replace hB := hB.stp A; refine Za rfl (Ze [(4, (.bool j))] (nx (m_ ?_))); have P := Zj hF; subst P; refine Zr Tryz.results156 [(.bool j)] ?_; exact ⟨rfl, hB.keeps⟩
def ht_ (a : Int) (b : Int) : Option Int :=
  if decide (a > b) then
    some a
  else
    some b

def qe_ (w : World) (r : Int) : Ending → World → Prop := fun e w' => e = .returned (.int .i64 r) ∧ Keeps w w'
theorem pU_ (w : World) (a : Int) (b : Int) (r : Int) (hF : ht_ a b = some r) :
    Calls Tryz.prog 165 #[.int .i64 a, .int .i64 b] w (qe_ w r) := by
 unfold ht_ at hF; have hB : Bs (fun _ => 1) (col (fun _ => 1)) w w := Bs.start _ _; refine i_ (n := 10) (vs := [(ZI a), (ZI b)]) Tryz.func165 rfl rfl ?_; refine Zq (Za rfl (Ze [(0, ZI a), (1, ZI b)] (nx (a_ (Zq (Zm rfl (Zm rfl (Zv (dR_ rfl rfl) (Ze [(0, ZI a), (1, ZI b), (7, (.bool (decide (a > b))))] (nx ?_)))))))))); refine o_ rfl (fun c => ?_) (fun c => ?_)
 ·rw [if_pos c] at hF; refine Zq (Zm rfl (Za rfl (Ze [(4, ZI a)] (nx (m_ (D_ ?_)))))); have d := Zj hF; subst d; refine Zr Tryz.results165 [(ZI a)] ?_; exact ⟨rfl, hB.keeps⟩
 ·rw [if_neg (by rw [c]; decide)] at hF; refine g_ (Zn (Zm rfl (Za rfl (Ze [(4, ZI b)] (nx (m_ ?_)))))); have f := Zj hF; subst f; refine Zr Tryz.results165 [(ZI b)] ?_; exact ⟨rfl, hB.keeps⟩
def gA_ (g : b_) (d : Int) (f : Int) : Option Bool :=
  (gO_ d f) >>= fun a =>
  (ht_ d f) >>= fun b =>
  (fa_ g.Edges ([a, b] : List Int)) >>= fun c =>
  some c

def qm_ (w : World) (r : Bool) : Ending → World → Prop := fun e w' => e = .returned (.bool r) ∧ Keeps w w'
theorem qk_ (w : World) (a2 : List Value) (g : b_) (a5 : Rp.rd zt w a2 g) (i : Int) (j : Int) (r : Bool) (hF : gA_ g i j = some r) :
    Calls Tryz.prog 124 #[.agg a2.toArray, .int .i64 i, .int .i64 j] w (qm_ w r) := by
 unfold gA_ at hF; obtain ⟨F, D, rfl, e5, a6⟩ := a5; have hB : Bs (fun _ => 1) (col (fun _ => 1)) w w := Bs.start _ _; refine i_ (n := 17) (vs := [(.agg #[(ZI g.Labels), (ZI g.Degree), F, D]), (ZI i), (ZI j)]) Tryz.func124 rfl rfl ?_; refine Zq (Zo ?_); refine aK_ (o := (col (fun _ => 1))) w.heap.size 11 hB.keeps.size (cs := [(ZI g.Labels), (ZI g.Degree), F, D]) rfl rfl ?_; intro a7 e6 E c a8; replace hB := hB.stp a8; refine Za rfl (Ze [(1, ZI i), (2, ZI j), (3, ZP E)] (nx (a_ ?_))); obtain ⟨a, q, hF⟩ := bind_some hF; obtain ⟨b, s, hF⟩ := bind_some hF; refine Z_ (o := a7) [(1, ZI i), (2, ZI j), (3, ZP E)] [1, 2, 3] [7, 8, 9, 10, 11, 12, 13, 14, 15] [[], [0], [], [], [2, 3], [], [], [5, 6], [4, 7]] [none, none, none, none, none, none, none, none, none] [999, 999, 999, 999, 999, 999, 999, 999, 999] [0, 0, 0, 0, 0, 0, 0, 0, 0] [999] [fun v _ _ => v = (.pointer (some ⟨E, 0 + 3, none⟩)), fun v _ _ => v = D, fun v _ _ => v = (ZI i), fun v _ _ => v = (ZI j), fun v _ _ => v = (ZI a), fun v _ _ => v = (ZI i), fun v _ _ => v = (ZI j), fun v _ _ => v = (ZI b), fun v o a9 => RdL o a9 v (([a, b] : Yl) : Yl)] (fun a3 a4 => Bs (fun _ => 1) a3 w a4 ∧ Bx w.heap.size 11 a3 a4 E 28 [(ZI g.Labels), (ZI g.Degree), F, D]) E_ (by kernel_rfl) rfl ⟨rfl, rfl, rfl, trivial⟩ ⟨hB, c⟩ ?_ ⟨q_ _, q_ _, q_ _, q_ _, q_ _, q_ _, q_ _, q_ _, fun _ _ _ _ _ _ b0 hb h hs => h.stp hs b0.1, trivial⟩ ?_ ?_
 ·rintro b1 e7 e8 e9 f0 k ⟨hB, c⟩ u; have k : b1 = 999 := by simpa using k
  subst k; all_goals exact ⟨hB.stp u (by decide), c.stp u (by decide)⟩
 ·refine ⟨?_, ?_, ?_, ?_, ?_, ?_, ?_, ?_, ?_, trivial⟩
  ·rintro b2 b3 b4 ha ⟨hB, c⟩ -; refine Zs ha ?_; refine d_ (l_ rfl Tryz.underlying28 rfl Tryz.sizeOf22) ?_; exact Zx rfl
  ·rintro b5 b6 b7 ha ⟨hB, c⟩ ⟨G, -⟩; have ha := Fr.cons (d := 7) ha G; refine Zs ha ?_; refine d_ (e_ rfl Tryz.isAgg22 (c.cell rfl)) ?_; exact Zx rfl
  ·rintro b8 b9 c0 ha ⟨hB, c⟩ -; refine Zs ha ?_; refine d_ (h_ rfl) ?_; exact Zx rfl
  ·rintro c1 c2 c3 ha ⟨hB, c⟩ -; refine Zs ha ?_; refine d_ (h_ rfl) ?_; exact Zx rfl
  ·rintro H I c4 ha ⟨hB, c⟩ ⟨J, K, -⟩; have ha := Fr.cons (d := 9) ha J; have ha := Fr.cons (d := 10) ha K; refine Zs ha ?_; refine p_ (oE_ I i j a q) Tryz.call164 ⟨rfl, rfl, trivial⟩ ?_; rintro c5 c6 ⟨rfl, L⟩; have M := L.stp 999 H; refine ⟨_, rfl, ?_⟩; exact ⟨_, M, rfl⟩
  ·rintro c7 c8 c9 ha ⟨hB, c⟩ -; refine Zs ha ?_; refine d_ (h_ rfl) ?_; exact Zx rfl
  ·rintro d0 d1 d2 ha ⟨hB, c⟩ -; refine Zs ha ?_; refine d_ (h_ rfl) ?_; exact Zx rfl
  ·rintro N O d3 ha ⟨hB, c⟩ ⟨P, Q, -⟩; have ha := Fr.cons (d := 12) ha P; have ha := Fr.cons (d := 13) ha Q; refine Zs ha ?_; refine p_ (pU_ O i j b s) Tryz.call165 ⟨rfl, rfl, trivial⟩ ?_; rintro d4 d5 ⟨rfl, R⟩; have S := R.stp 999 N; refine ⟨_, rfl, ?_⟩; exact ⟨_, S, rfl⟩
  ·rintro T d6 d7 ha ⟨hB, c⟩ ⟨U, V, -⟩; have ha := Fr.cons (d := 11) ha U; have ha := Fr.cons (d := 14) ha V; refine Zs ha ?_; refine aL_ (o := T) (cs := [(ZI a), (ZI b)]) (xs := ([a, b] : Yl)) (vs := [(0, ZI a), (1, ZI b)]) ⟨_, _, rfl, rfl, ⟨_, _, rfl, rfl, rfl⟩⟩ rfl ⟨rfl, rfl, rfl, rfl, trivial⟩ Tryz.underlying41 Tryz.sizeOf3 Tryz.zeroValue3 (by decide) (fill2 rfl rfl) (by simp) ?_; intro d8 d9 e0 W X e1; exact ⟨_, X, W⟩
 rintro x y A ha ⟨hB, c⟩ ⟨-, Y, -, -, -, -, -, -, f, -⟩; have ha := Fr.cons (d := 8) ha Y; replace f : RdL x y (A.tmps.getD 15 undef) (([a, b] : Yl) : Yl) := f; generalize Z : A.tmps.getD 15 undef = e2 at f; have ha := Fr.cons (d := 15) ha Z; refine aV_ ha ?_; simp only [List.length_cons, List.length_nil, Nat.zero_add, Nat.reduceAdd, List.drop_succ_cons, List.drop_zero]; obtain ⟨m, B, hF⟩ := bind_some hF; refine Zo ?_; refine p_ (ix_ y _ g.Edges (a6.keep hB.keeps) _ ([a, b] : Yl) f.z m B) Tryz.call120 ⟨rfl, rfl, trivial⟩ ?_; rintro e3 e4 ⟨rfl, a0⟩; have C := a0.stp 999 x; refine ⟨_, rfl, ?_⟩; replace f := f.stp C; replace hB := hB.stp C; refine Za rfl (Ze [(6, (.bool m))] (nx (m_ ?_))); have a1 := Zj hF; subst a1; refine Zr Tryz.results124 [(.bool m)] ?_; exact ⟨rfl, hB.keeps⟩
def bO_ (fuel : Nat) (m : List (List Int)) (n : Int) (q : Int) : Int → (List Int) → Unit → Option (Lp Unit Unit Bool) := fun (k : Int) (a : List Int) (s : Unit) =>
  (
    if (a.length : Int) != n then
      some true
    else
      (aP_ fuel a) >>= fun b =>
      if !b then
        some true
      else
        (ck (q - 1)) >>= fun c =>
        (ef_ a 0 c) >>= fun d =>
        if !d then
          some true
        else
          if decide (k > 0) then
            (ck (k - 1)) >>= fun f =>
            (ix m f) >>= fun g =>
            (K_ g a) >>= fun i =>
            some (decide (i ≥ 0))
          else
            some false) >>= fun j =>
  if j then
    some (.ret false)
  else
    some (.go ())
def bj_ (fuel : Nat) (a : List (List Int)) (b : Int) (c : Int) : Option Bool :=
  (forI (bO_ fuel a b c) a 0 ()) >>= fun d =>
  match d with
  | .inl _ =>
    some true
  | .inr r' => some r'

def eQ_ (w : World) (r : Bool) : Ending → World → Prop := fun e w' => e = .returned (.bool r) ∧ Keeps w w'
theorem eJ_ (fuel : Nat) (w : World) (f : Value) (k : Yk) (U : RdL zt w f k) (q : Int) (s : Int) (r : Bool) (hF : bj_ fuel k q s = some r) :
    Calls Tryz.prog 68 #[f, .int .i64 q, .int .i64 s] w (eQ_ w r) := by
 unfold bj_ at hF; have hB : Bs (fun _ => 1) (col (fun _ => 1)) w w := Bs.start _ _; refine i_ (n := 47) (vs := [f, (ZI q), (ZI s)]) Tryz.func68 rfl rfl ?_; refine Zq (Za rfl (Ze [(0, f), (1, ZI q), (2, ZI s)] (nx (a_ (Zq (Zm rfl (Zv (C_ rfl U Tryz.underlying22) (Zm rfl (Ze [(0, f), (1, ZI q), (2, ZI s), (9, f), (10, (ZI (k.length : Int))), (11, ZI 0)] (nx ?_)))))))))); obtain ⟨V, W, hF⟩ := bind_some hF; refine A_ (fun a x => ∃ (v : Tg), V = .inl () ∧ Fr a 47 [] ∧ Bs (fun _ => 1) v w x) (fun a w' => ∃ r', V = .inr r' ∧ bodyPost Tryz.prog Tryz.f68 (eQ_ w r') .ret a w') ?_ ?_ ?_
 ·refine f_ ?_; refine z_ (fun (K : Nat) a x => ∃ (j : Int) (v : Tg), forI (bO_ fuel k q s) (k.drop j.toNat) j () = some V ∧ (k.drop j.toNat).length = K ∧ 0 ≤ j ∧ Fr a 47 [(0, f), (1, ZI q), (2, ZI s), (9, f), (10, (ZI (k.length : Int))), (11, ZI j)] ∧ Bs (fun _ => 1) v w x) _ (fun a ha => ⟨0, (col (fun _ => 1)), W, rfl, Int.le_refl 0, ha.sub (r := [(0, f), (1, ZI q), (2, ZI s), (9, f), (10, (ZI (k.length : Int))), (11, ZI 0)]) ⟨rfl, rfl, rfl, rfl, rfl, rfl, trivial⟩, hB⟩) ?_; rintro K8 a x ⟨j, v, b8, b9, c0, ha, hB⟩; by_cases y : j < (k.length : Int)
  ·obtain ⟨z, d5, C, u, D⟩ := V_ c0 y b8; have hle := U.len_le; dsimp only [bO_] at u; refine M_ ha ?_; refine Zq (Zv (t_ rfl rfl) (Ze [(0, f), (1, ZI q), (2, ZI s), (9, f), (10, (ZI (k.length : Int))), (11, ZI j), (12, (.bool (decide (j < (k.length : Int)))))] (nx (a_ ?_)))); refine P_ (Zb (decide_eq_true y)) ?_; refine g_ (nx (a_ (f_ (Zq (Zm rfl (Zo ?_)))))); refine wf_atZ U C hB rfl rfl Tryz.underlying22 Tryz.sizeOf41 ?_; intro c1 c2 c3 X Y; obtain ⟨Z, rfl, A⟩ := Y; refine Zv (e_ rfl Tryz.isAgg41 (j_ X)) (Za rfl (Za rfl (Ze [(0, f), (1, ZI q), (2, ZI s), (7, ZI j), (8, Z), (9, f), (10, (ZI (k.length : Int))), (11, ZI j)] (Zn (Zm rfl (Zv (C_ rfl A Tryz.underlying41) (Zm rfl (Zv (bK_ rfl rfl) (Zm rfl ?_))))))))); obtain ⟨E, b, u⟩ := bind_some u; refine as_ 25 (fun a0 F => Fr a0 47 [(0, f), (1, ZI q), (2, ZI s), (9, f), (10, (ZI (k.length : Int))), (11, ZI j), (45, (.bool E))] ∧ Keeps x F) ?_ ?_; all_goals simp only [List.take_succ_cons, List.take_zero, List.drop_succ_cons, List.drop_zero]
   ·have kp : Keeps x x := Keeps.refl _; rcases Bool.eq_false_or_eq_true ((z.length : Int) != q) with m | m
    ·rw [if_pos m] at b; refine n_ rfl rfl (by rw [m]; rfl) (by decide) ?_; refine n_ rfl rfl (by rw [m]; rfl) (by decide) ?_; refine n_ rfl rfl (by rw [m]; rfl) (by decide) ?_; refine Zv (x_ (Zb m) rfl) (Zm rfl ?_); refine n_ rfl rfl rfl (by decide) ?_; refine n_ rfl rfl rfl (by decide) ?_; refine n_ rfl rfl rfl (by decide) ?_; refine n_ rfl rfl rfl (by decide) ?_; refine n_ rfl rfl rfl (by decide) ?_; refine Zv (x_ rfl rfl) (Zm rfl ?_); refine n_ rfl rfl rfl (by decide) ?_; refine n_ rfl rfl rfl (by decide) ?_; refine n_ rfl rfl rfl (by decide) ?_; refine ai_ rfl rfl (by decide) ?_; refine ai_ rfl rfl (by decide) ?_; refine ai_ rfl rfl (by decide) ?_; refine ai_ rfl rfl (by decide) ?_; refine ai_ rfl rfl (by decide) ?_; refine ai_ rfl rfl (by decide) ?_; refine ai_ rfl rfl (by decide) ?_; refine ai_ rfl rfl (by decide) ?_; refine n_ rfl rfl rfl (by decide) ?_; refine Zv (x_ rfl rfl) ?_; have d := Zj b; refine Ze [(0, f), (1, ZI q), (2, ZI s), (9, f), (10, (ZI (k.length : Int))), (11, ZI j), (45, (.bool true))] ?_; subst d; refine s_ (fun a ha => ⟨ha, kp⟩)
    ·rw [if_neg (by rw [m]; decide)] at b; refine k_ (h_ rfl) (by decide) ⟨_, rfl, (Zb m)⟩ ?_; obtain ⟨G, H, b⟩ := bind_some b; refine bI_ (by decide) ⟨_, rfl, (Zb m)⟩ ?_; refine p_ (eV_ fuel x _ z (A.keep hB.keeps) G H) Tryz.call93 ⟨rfl, trivial⟩ ?_; rintro c4 a1 ⟨rfl, I⟩; have a2 := I.stp 999 v; refine ⟨_, rfl, ?_⟩; replace hB := hB.stp a2; replace kp := Keeps.trans kp I; refine k_ (ba_ rfl) (by decide) ⟨_, rfl, (Zb m)⟩ (Zv (B_ (Zb m) rfl) (Zm rfl ?_)); rcases Bool.eq_false_or_eq_true (!G) with g | g
     ·rw [if_pos g] at b; refine n_ rfl rfl (by rw [g]; rfl) (by decide) ?_; refine n_ rfl rfl (by rw [g]; rfl) (by decide) ?_; refine n_ rfl rfl (by rw [g]; rfl) (by decide) ?_; refine n_ rfl rfl (by rw [g]; rfl) (by decide) ?_; refine n_ rfl rfl (by rw [g]; rfl) (by decide) ?_; refine Zv (x_ (Zb g) rfl) (Zm rfl ?_); refine n_ rfl rfl rfl (by decide) ?_; refine n_ rfl rfl rfl (by decide) ?_; refine n_ rfl rfl rfl (by decide) ?_; refine ai_ rfl rfl (by decide) ?_; refine ai_ rfl rfl (by decide) ?_; refine ai_ rfl rfl (by decide) ?_; refine ai_ rfl rfl (by decide) ?_; refine ai_ rfl rfl (by decide) ?_; refine ai_ rfl rfl (by decide) ?_; refine ai_ rfl rfl (by decide) ?_; refine ai_ rfl rfl (by decide) ?_; refine n_ rfl rfl rfl (by decide) ?_; refine Zv (x_ rfl rfl) ?_; have d := Zj b; refine Ze [(0, f), (1, ZI q), (2, ZI s), (9, f), (10, (ZI (k.length : Int))), (11, ZI j), (45, (.bool true))] ?_; subst d; refine s_ (fun a ha => ⟨ha, kp⟩)
     ·rw [if_neg (by rw [g]; decide)] at b; refine k_ (h_ rfl) (by decide) ⟨_, rfl, (Zb g)⟩ (k_ (h_ rfl) (by decide) ⟨_, rfl, (Zb g)⟩ ?_); obtain ⟨a3, J, b⟩ := bind_some b; refine k_ (bt_ rfl rfl J) (by decide) ⟨_, rfl, (Zb g)⟩ ?_; obtain ⟨L, M, b⟩ := bind_some b; refine bI_ (by decide) ⟨_, rfl, (Zb g)⟩ ?_; refine p_ (lf_ a1 _ z (A.keep hB.keeps) 0 a3 L M) Tryz.call94 ⟨rfl, rfl, rfl, trivial⟩ ?_; rintro c5 a4 ⟨rfl, N⟩; have a5 := N.stp 999 v; refine ⟨_, rfl, ?_⟩; replace hB := hB.stp a5; replace kp := Keeps.trans kp N; refine k_ (ba_ rfl) (by decide) ⟨_, rfl, (Zb g)⟩ (Zv (B_ (Zb g) rfl) (Zm rfl ?_)); rcases Bool.eq_false_or_eq_true (!L) with i | i
      ·rw [if_pos i] at b; refine n_ rfl rfl (by rw [i]; rfl) (by decide) ?_; refine n_ rfl rfl (by rw [i]; rfl) (by decide) ?_; refine n_ rfl rfl (by rw [i]; rfl) (by decide) ?_; refine ai_ rfl rfl (by decide) ?_; refine ai_ rfl rfl (by decide) ?_; refine ai_ rfl rfl (by decide) ?_; refine ai_ rfl rfl (by decide) ?_; refine ai_ rfl rfl (by decide) ?_; refine ai_ rfl rfl (by decide) ?_; refine ai_ rfl rfl (by decide) ?_; refine ai_ rfl rfl (by decide) ?_; refine n_ rfl rfl (by rw [i]; rfl) (by decide) ?_; refine Zv (x_ (Zb i) rfl) ?_; have d := Zj b; refine Ze [(0, f), (1, ZI q), (2, ZI s), (9, f), (10, (ZI (k.length : Int))), (11, ZI j), (45, (.bool true))] ?_; subst d; refine s_ (fun a ha => ⟨ha, kp⟩)
      ·rw [if_neg (by rw [i]; decide)] at b; refine k_ (h_ rfl) (by decide) ⟨_, rfl, (Zb i)⟩ (k_ (dR_ rfl rfl) (by decide) ⟨_, rfl, (Zb i)⟩ (k_ (h_ rfl) (by decide) ⟨_, rfl, (Zb i)⟩ ?_)); rcases Bool.eq_false_or_eq_true (decide (j > 0)) with c | c
       ·rw [if_pos c] at b; refine k_ (h_ rfl) (by decide) ⟨_, rfl, (Zb c)⟩ (k_ (h_ rfl) (by decide) ⟨_, rfl, (Zb c)⟩ ?_); obtain ⟨c6, O, b⟩ := bind_some b; refine k_ (bt_ rfl rfl O) (by decide) ⟨_, rfl, (Zb c)⟩ ?_; obtain ⟨a6, Q, b⟩ := bind_some b; refine bI_ (by decide) ⟨_, rfl, (Zb c)⟩ ?_; refine wf_atZ U Q hB rfl rfl Tryz.underlying22 Tryz.sizeOf41 ?_; intro c7 c8 c9 a7 a8; obtain ⟨d0, rfl, a9⟩ := a8; refine k_ (e_ rfl Tryz.isAgg41 (j_ a7)) (by decide) ⟨_, rfl, (Zb c)⟩ (k_ (h_ rfl) (by decide) ⟨_, rfl, (Zb c)⟩ ?_); obtain ⟨R, S, b⟩ := bind_some b; refine bI_ (by decide) ⟨_, rfl, (Zb c)⟩ ?_; refine p_ (cX_slices_Compare_int_int a4 _ a6 (a9.keep hB.keeps) _ z (A.keep hB.keeps) R S) Tryz.call95 ⟨rfl, rfl, trivial⟩ ?_; rintro d1 d2 ⟨rfl, T⟩; have d3 := T.stp 999 v; refine ⟨_, rfl, ?_⟩; replace kp := Keeps.trans kp T; refine k_ (je_ rfl rfl) (by decide) ⟨_, rfl, (Zb c)⟩ (k_ (x_ (Zb c) rfl) (by decide) ⟨_, rfl, (Zb i)⟩ (Zv (B_ (Zb i) rfl) ?_)); have d := Zj b; refine Ze [(0, f), (1, ZI q), (2, ZI s), (9, f), (10, (ZI (k.length : Int))), (11, ZI j), (45, (.bool (decide (R ≥ 0))))] ?_; subst d; refine s_ (fun a ha => ⟨ha, kp⟩)
       ·rw [if_neg (by rw [c]; decide)] at b; refine n_ rfl rfl (by rw [c]; rfl) (by decide) ?_; refine n_ rfl rfl (by rw [c]; rfl) (by decide) ?_; refine n_ rfl rfl (by rw [c]; rfl) (by decide) ?_; refine n_ rfl rfl (by rw [c]; rfl) (by decide) ?_; refine n_ rfl rfl (by rw [c]; rfl) (by decide) ?_; refine n_ rfl rfl (by rw [c]; rfl) (by decide) ?_; refine n_ rfl rfl (by rw [c]; rfl) (by decide) ?_; refine n_ rfl rfl (by rw [c]; rfl) (by decide) ?_; refine k_ (B_ (Zb c) rfl) (by decide) ⟨_, rfl, (Zb i)⟩ (Zv (B_ (Zb i) rfl) ?_); have d := Zj b; refine Ze [(0, f), (1, ZI q), (2, ZI s), (9, f), (10, (ZI (k.length : Int))), (11, ZI j), (45, (.bool false))] ?_; subst d; refine s_ (fun a ha => ⟨ha, kp⟩)
   rintro d4 F ⟨ha, b0⟩; have b1 := b0.stp 999 v; replace hB := hB.stp b1; refine aV_ ha ?_; refine Ze [(0, f), (1, ZI q), (2, ZI s), (9, f), (10, (ZI (k.length : Int))), (11, ZI j), (45, (.bool E))] (nx ?_); refine o_ rfl (fun B => ?_) (fun B => ?_)
   ·rw [if_pos B] at u; refine Zq (Za rfl (Ze [(6, (.bool false))] (nx (m_ (ac_ (D_ (D_ (ac_ ?_)))))))); refine bQ_ ?_; have b2 := Zj u; subst b2; refine fun a ha => ⟨_, D, ?_⟩; refine H_ (P := Tryz.prog) (vs := [(.bool false)]) Tryz.results68 ⟨rfl, trivial⟩ ?_ a ha; exact ⟨rfl, hB.keeps⟩
   ·rw [if_neg (by rw [B]; decide)] at u; refine g_ (y_ (nx (c_ (Zv (F_ rfl rfl (G_ (by omega) (by omega))) (Zm rfl (Ze [(0, f), (1, ZI q), (2, ZI s), (9, f), (10, (ZI (k.length : Int))), (11, (ZI (j + 1)))] (w_ ?_))))))); have b3 := Zj u; subst b3; refine Zk [(0, f), (1, ZI q), (2, ZI s), (9, f), (10, (ZI (k.length : Int))), (11, (ZI (j + 1)))] ?_; intro a ha; exact ⟨_, (by rw [← b9]; simp only [List.length_drop]; omega), j + 1, v, D, rfl, (by omega), ha, hB⟩
  ·have b4 := W_ y b8; refine M_ ha ?_; refine Zq (Zv (t_ rfl rfl) (Ze [(0, f), (1, ZI q), (2, ZI s), (9, f), (10, (ZI (k.length : Int))), (11, ZI j), (12, (.bool (decide (j < (k.length : Int)))))] (nx (a_ ?_)))); refine J_ (Zb (decide_eq_false y)) ?_; refine v_ ?_; refine r_ (r_ (Q_ ?_)); refine s_ ?_; refine Zk [] ?_; intro a ha; exact ⟨v, b4, ha, hB⟩
 ·rintro a x ⟨v, rfl, ha, hB⟩; dsimp only at hF; refine ap_k ha ?_; refine Zn (Za rfl (Ze [(6, (.bool true))] (nx (m_ ?_)))); have b5 := Zj hF; subst b5; refine Zr Tryz.results68 [(.bool true)] ?_; exact ⟨rfl, hB.keeps⟩
 ·rintro a x ⟨r', rfl, b6⟩; dsimp only at hF; have b7 := Zj hF; subst b7; exact b6
def cW_ (fuel : Nat) (a : b_) : Option Bool :=
  (dE_ a.Labels 1 8) >>= fun b =>
  (
    if b then
      (dE_ a.Degree 1 4) >>= fun c =>
      if c then
        (bj_ fuel a.Nodes a.Degree a.Labels) >>= fun d =>
        if d then
          (bj_ fuel a.Edges 2 a.Labels) >>= fun f =>
          some f
        else
          some false
      else
        some false
    else
      some false) >>= fun g =>
  some g

def lq_ (w : World) (r : Bool) : Ending → World → Prop := fun e w' => e = .returned (.bool r) ∧ Keeps w w'
theorem gq_ (fuel : Nat) (w : World) (Q : List Value) (i : b_) (T : Rp.rd zt w Q i) (r : Bool) (hF : cW_ fuel i = some r) :
    Calls Tryz.prog 43 #[.agg Q.toArray] w (lq_ w r) := by
 unfold cW_ at hF; obtain ⟨R, S, rfl, U, V⟩ := T; have hB : Bs (fun _ => 1) (col (fun _ => 1)) w w := Bs.start _ _; refine i_ (n := 27) (vs := [(.agg #[(ZI i.Labels), (ZI i.Degree), R, S])]) Tryz.func43 rfl rfl ?_; refine Zq (Zo ?_); refine aK_ (o := (col (fun _ => 1))) w.heap.size 11 hB.keeps.size (cs := [(ZI i.Labels), (ZI i.Degree), R, S]) rfl rfl ?_; intro q W X j Y; replace hB := hB.stp Y; refine Za rfl (Ze [(1, ZP X)] (Zn (Zv (l_ rfl Tryz.underlying28 rfl Tryz.sizeOf3) (Zv (e_ rfl Tryz.isAgg3 (j.cell rfl)) ?_)))); obtain ⟨s, u, hF⟩ := bind_some hF; refine Zo ?_; refine p_ (gn_ W i.Labels 1 8 s u) Tryz.call62 ⟨rfl, rfl, rfl, trivial⟩ ?_; rintro Z k ⟨rfl, J⟩; have v := J.stp 999 q; refine ⟨_, rfl, ?_⟩; replace j := j.stp v; replace hB := hB.stp v; refine Zm rfl ?_; obtain ⟨m, b, hF⟩ := bind_some hF; refine as_ 20 (fun K x => Fr K 27 [(26, (.bool m))] ∧ Keeps k x) ?_ ?_; all_goals simp only [List.take_succ_cons, List.take_zero, List.drop_succ_cons, List.drop_zero]
 ·have kp : Keeps k k := Keeps.refl _; rcases Bool.eq_false_or_eq_true (s) with g | g
  ·rw [if_pos g] at b; refine k_ (l_ rfl Tryz.underlying28 rfl Tryz.sizeOf3) (by decide) ⟨_, rfl, (Zb g)⟩ (k_ (e_ rfl Tryz.isAgg3 (j.cell rfl)) (by decide) ⟨_, rfl, (Zb g)⟩ ?_); obtain ⟨y, z, b⟩ := bind_some b; refine bI_ (by decide) ⟨_, rfl, (Zb g)⟩ ?_; refine p_ (gn_ k i.Degree 1 4 y z) Tryz.call62 ⟨rfl, rfl, rfl, trivial⟩ ?_; rintro a0 L ⟨rfl, A⟩; have B := A.stp 999 q; refine ⟨_, rfl, ?_⟩; replace j := j.stp B; replace hB := hB.stp B; replace kp := Keeps.trans kp A; refine Zv (x_ (Zb g) rfl) (Zm rfl ?_); rcases Bool.eq_false_or_eq_true (y) with c | c
   ·rw [if_pos c] at b; refine k_ (l_ rfl Tryz.underlying28 rfl Tryz.sizeOf22) (by decide) ⟨_, rfl, (Zb c)⟩ (k_ (e_ rfl Tryz.isAgg22 (j.cell rfl)) (by decide) ⟨_, rfl, (Zb c)⟩ (k_ (l_ rfl Tryz.underlying28 rfl Tryz.sizeOf3) (by decide) ⟨_, rfl, (Zb c)⟩ (k_ (e_ rfl Tryz.isAgg3 (j.cell rfl)) (by decide) ⟨_, rfl, (Zb c)⟩ (k_ (l_ rfl Tryz.underlying28 rfl Tryz.sizeOf3) (by decide) ⟨_, rfl, (Zb c)⟩ (k_ (e_ rfl Tryz.isAgg3 (j.cell rfl)) (by decide) ⟨_, rfl, (Zb c)⟩ ?_))))); obtain ⟨C, D, b⟩ := bind_some b; refine bI_ (by decide) ⟨_, rfl, (Zb c)⟩ ?_; refine p_ (eJ_ fuel L _ i.Nodes (U.keep hB.keeps) i.Degree i.Labels C D) Tryz.call68 ⟨rfl, rfl, rfl, trivial⟩ ?_; rintro a1 M ⟨rfl, E⟩; have F := E.stp 999 q; refine ⟨_, rfl, ?_⟩; replace j := j.stp F; replace hB := hB.stp F; replace kp := Keeps.trans kp E; refine Zv (x_ (Zb c) rfl) (Zm rfl ?_); rcases Bool.eq_false_or_eq_true (C) with d | d
    ·rw [if_pos d] at b; refine k_ (l_ rfl Tryz.underlying28 rfl Tryz.sizeOf22) (by decide) ⟨_, rfl, (Zb d)⟩ (k_ (e_ rfl Tryz.isAgg22 (j.cell rfl)) (by decide) ⟨_, rfl, (Zb d)⟩ (k_ (l_ rfl Tryz.underlying28 rfl Tryz.sizeOf3) (by decide) ⟨_, rfl, (Zb d)⟩ (k_ (e_ rfl Tryz.isAgg3 (j.cell rfl)) (by decide) ⟨_, rfl, (Zb d)⟩ ?_))); obtain ⟨G, H, b⟩ := bind_some b; refine bI_ (by decide) ⟨_, rfl, (Zb d)⟩ ?_; refine p_ (eJ_ fuel M _ i.Edges (V.keep hB.keeps) 2 i.Labels G H) Tryz.call68 ⟨rfl, rfl, rfl, trivial⟩ ?_; rintro a2 a3 ⟨rfl, I⟩; have a4 := I.stp 999 q; refine ⟨_, rfl, ?_⟩; replace kp := Keeps.trans kp I; refine Zv (x_ (Zb d) rfl) ?_; have f := Zj b; refine Ze [(26, (.bool G))] ?_; subst f; refine s_ (fun a ha => ⟨ha, kp⟩)
    ·rw [if_neg (by rw [d]; decide)] at b; refine n_ rfl rfl (by rw [d]; rfl) (by decide) ?_; refine n_ rfl rfl (by rw [d]; rfl) (by decide) ?_; refine n_ rfl rfl (by rw [d]; rfl) (by decide) ?_; refine n_ rfl rfl (by rw [d]; rfl) (by decide) ?_; refine n_ rfl rfl (by rw [d]; rfl) (by decide) ?_; refine Zv (B_ (Zb d) rfl) ?_; have f := Zj b; refine Ze [(26, (.bool false))] ?_; subst f; refine s_ (fun a ha => ⟨ha, kp⟩)
   ·rw [if_neg (by rw [c]; decide)] at b; refine n_ rfl rfl (by rw [c]; rfl) (by decide) ?_; refine n_ rfl rfl (by rw [c]; rfl) (by decide) ?_; refine n_ rfl rfl (by rw [c]; rfl) (by decide) ?_; refine n_ rfl rfl (by rw [c]; rfl) (by decide) ?_; refine n_ rfl rfl (by rw [c]; rfl) (by decide) ?_; refine n_ rfl rfl (by rw [c]; rfl) (by decide) ?_; refine n_ rfl rfl (by rw [c]; rfl) (by decide) ?_; refine Zv (B_ (Zb c) rfl) (Zm rfl ?_); refine n_ rfl rfl rfl (by decide) ?_; refine n_ rfl rfl rfl (by decide) ?_; refine n_ rfl rfl rfl (by decide) ?_; refine n_ rfl rfl rfl (by decide) ?_; refine n_ rfl rfl rfl (by decide) ?_; refine Zv (B_ rfl rfl) ?_; have f := Zj b; refine Ze [(26, (.bool false))] ?_; subst f; refine s_ (fun a ha => ⟨ha, kp⟩)
  ·rw [if_neg (by rw [g]; decide)] at b; refine n_ rfl rfl (by rw [g]; rfl) (by decide) ?_; refine n_ rfl rfl (by rw [g]; rfl) (by decide) ?_; refine n_ rfl rfl (by rw [g]; rfl) (by decide) ?_; refine Zv (B_ (Zb g) rfl) (Zm rfl ?_); refine n_ rfl rfl rfl (by decide) ?_; refine n_ rfl rfl rfl (by decide) ?_; refine n_ rfl rfl rfl (by decide) ?_; refine n_ rfl rfl rfl (by decide) ?_; refine n_ rfl rfl rfl (by decide) ?_; refine n_ rfl rfl rfl (by decide) ?_; refine n_ rfl rfl rfl (by decide) ?_; refine Zv (B_ rfl rfl) (Zm rfl ?_); refine n_ rfl rfl rfl (by decide) ?_; refine n_ rfl rfl rfl (by decide) ?_; refine n_ rfl rfl rfl (by decide) ?_; refine n_ rfl rfl rfl (by decide) ?_; refine n_ rfl rfl rfl (by decide) ?_; refine Zv (B_ rfl rfl) ?_; have f := Zj b; refine Ze [(26, (.bool false))] ?_; subst f; refine s_ (fun a ha => ⟨ha, kp⟩)
 rintro a5 x ⟨ha, N⟩; have O := N.stp 999 q; replace hB := hB.stp O; refine aV_ ha ?_; refine Za rfl (Ze [(2, (.bool m))] (nx (m_ ?_))); have P := Zj hF; subst P; refine Zr Tryz.results43 [(.bool m)] ?_; exact ⟨rfl, hB.keeps⟩
def co_ (fuel : Nat) (b : b_) (c : List Int) : Option Bool :=
  (aW_ fuel b.Nodes c) >>= fun a =>
  some a

def iR_ (w : World) (r : Bool) : Ending → World → Prop := fun e w' => e = .returned (.bool r) ∧ Keeps w w'
theorem gd_ (fuel : Nat) (w : World) (k : List Value) (a : b_) (s : Rp.rd zt w k a) (d : Value) (f : Yl) (u : RdL zt w d f) (r : Bool) (hF : co_ fuel a f = some r) :
    Calls Tryz.prog 150 #[.agg k.toArray, d] w (iR_ w r) := by
 unfold co_ at hF; obtain ⟨m, q, rfl, v, E⟩ := s; have hB : Bs (fun _ => 1) (col (fun _ => 1)) w w := Bs.start _ _; refine i_ (n := 9) (vs := [(.agg #[(ZI a.Labels), (ZI a.Degree), m, q]), d]) Tryz.func150 rfl rfl ?_; refine Zq (Zo ?_); refine aK_ (o := (col (fun _ => 1))) w.heap.size 11 hB.keeps.size (cs := [(ZI a.Labels), (ZI a.Degree), m, q]) rfl rfl ?_; intro x y z A B; replace hB := hB.stp B; refine Za rfl (Ze [(1, d), (2, ZP z)] (Zn (Zv (l_ rfl Tryz.underlying28 rfl Tryz.sizeOf22) (Zv (e_ rfl Tryz.isAgg22 (A.cell rfl)) (Zm rfl ?_))))); obtain ⟨b, c, hF⟩ := bind_some hF; refine Zo ?_; refine p_ (dl_ fuel y _ a.Nodes (v.keep hB.keeps) _ f (u.keep hB.keeps) b c) Tryz.call162 ⟨rfl, rfl, trivial⟩ ?_; rintro C D ⟨rfl, g⟩; have i := g.stp 999 x; refine ⟨_, rfl, ?_⟩; replace hB := hB.stp i; refine Za rfl (Ze [(4, (.bool b))] (nx (m_ ?_))); have j := Zj hF; subst j; refine Zr Tryz.results150 [(.bool b)] ?_; exact ⟨rfl, hB.keeps⟩
def cl_ (fuel : Nat) (b : b_) (c : Int) (d : Int) : Option Bool :=
  (aW_ fuel b.Edges ([c, d] : List Int)) >>= fun a =>
  some a

def iJ_ (w : World) (r : Bool) : Ending → World → Prop := fun e w' => e = .returned (.bool r) ∧ Keeps w w'
theorem gB_ (fuel : Nat) (w : World) (u : List Value) (c : b_) (y : Rp.rd zt w u c) (a : Int) (b : Int) (r : Bool) (hF : cl_ fuel c a b = some r) :
    Calls Tryz.prog 125 #[.agg u.toArray, .int .i64 a, .int .i64 b] w (iJ_ w r) := by
 unfold cl_ at hF; obtain ⟨v, x, rfl, J, A⟩ := y; have hB : Bs (fun _ => 1) (col (fun _ => 1)) w w := Bs.start _ _; refine i_ (n := 13) (vs := [(.agg #[(ZI c.Labels), (ZI c.Degree), v, x]), (ZI a), (ZI b)]) Tryz.func125 rfl rfl ?_; refine Zq (Zo ?_); refine aK_ (o := (col (fun _ => 1))) w.heap.size 11 hB.keeps.size (cs := [(ZI c.Labels), (ZI c.Degree), v, x]) rfl rfl ?_; intro B K C D E; replace hB := hB.stp E; refine Za rfl (Ze [(1, ZI a), (2, ZI b), (3, ZP C)] (Zn (Zv (l_ rfl Tryz.underlying28 rfl Tryz.sizeOf22) (Zv (e_ rfl Tryz.isAgg22 (D.cell rfl)) (Zm rfl (Zm rfl (Zo ?_))))))); refine aL_ (o := B) (cs := [(ZI a), (ZI b)]) (xs := ([a, b] : Yl)) (vs := [(0, ZI a), (1, ZI b)]) ⟨_, _, rfl, rfl, ⟨_, _, rfl, rfl, rfl⟩⟩ rfl ⟨rfl, rfl, rfl, rfl, trivial⟩ Tryz.underlying41 Tryz.sizeOf3 Tryz.zeroValue3 (by decide) (fill2 rfl rfl) (by simp) ?_; intro g i F j k G; replace hB := hB.stp k; obtain ⟨d, f, hF⟩ := bind_some hF; refine Zo ?_; refine p_ (dl_ fuel i _ c.Edges (A.keep hB.keeps) _ ([a, b] : Yl) j.z d f) Tryz.call162 ⟨rfl, rfl, trivial⟩ ?_; rintro H I ⟨rfl, m⟩; have q := m.stp 999 g; refine ⟨_, rfl, ?_⟩; replace hB := hB.stp q; refine Za rfl (Ze [(6, (.bool d))] (nx (m_ ?_))); have s := Zj hF; subst s; refine Zr Tryz.results125 [(.bool d)] ?_; exact ⟨rfl, hB.keeps⟩
end

end Go.Proofs.YtdbbeldgdgonfaaGreat
