/- Part 26 of what this claim rests on (GLqa, Lqc, Etq), packed by pack.py. -/
import Derived.Test.YtdbbeldgdgonfaaGreatP03
import Derived.Test.YtdbbeldgdgonfaaGreatP05
import Derived.Test.YtdbbeldgdgonfaaGreatP25
namespace Go.Proofs.YtdbbeldgdgonfaaGreat
set_option linter.unusedSimpArgs false
set_option linter.unusedVariables false

section
set_option maxRecDepth 100000
set_option maxHeartbeats 2000000
open Go.RowKit
def dg_ (d : List Int) (f : List Int) : Int → Option (Lp Int Int Bool) := fun (s : Int) =>
  if decide (s < (d.length : Int)) then
    (ix d s) >>= fun a =>
    (ix f s) >>= fun b =>
    if a != b then
      some (.ret false)
    else
      (ck (s + 1)) >>= fun c =>
      some (.go c)
  else
    some (.out s)
def gq_ (fuel : Nat) (a : List Int) (b : List Int) : Option Bool :=
  if (a.length : Int) != (b.length : Int) then
    some false
  else
    (loopF (dg_ a b) fuel 0) >>= fun c =>
    match c with
    | .inl d =>
      some true
    | .inr r' => some r'

def mh_ (w : World) (r : Bool) : Ending → World → Prop := fun e w' => e = .returned (.bool r) ∧ Keeps w w'
theorem oY_ (fuel : Nat) (w : World) (f : Value) (y : Yl) (E : RdL zt w f y) (g : Value) (A : Yl) (F : RdL zt w g A) (r : Bool) (hF : gq_ fuel y A = some r) :
    Calls Tryz.prog 24 #[f, g] w (mh_ w r) := by
 unfold gq_ at hF; have hB : Bs (fun _ => 1) (col (fun _ => 1)) w w := Bs.start _ _; refine h_ (n := 26) (vs := [f, g]) Tryz.func24 rfl rfl ?_; refine Zq (Za rfl (Ze [(0, f), (1, g)] (nx (b_ (Zq (Zm rfl (Zv (H_ rfl E Tryz.underlying41) (Zm rfl (Zv (H_ rfl F Tryz.underlying41) (Zv (ck_ rfl rfl) (Ze [(0, f), (1, g), (10, (.bool ((y.length : Int) != (A.length : Int))))] (nx ?_)))))))))))); refine m_ rfl (fun G => ?_) (fun G => ?_)
 ·rw [if_pos G] at hF; refine Zq (Za rfl (Ze [(4, (.bool false))] (nx (k_ (A_ ?_))))); have a7 := Zj hF; subst a7; refine Zr Tryz.results24 [(.bool false)] ?_; exact ⟨rfl, hB.keeps⟩
 ·rw [if_neg (by rw [G]; decide)] at hF; refine f_ (nx (b_ (Zq (Za rfl (Ze [(0, f), (1, g), (5, ZI 0)] (nx ?_)))))); obtain ⟨H, I, hF⟩ := bind_some hF; refine z_ (fun a z => ∃ (c : Int) (k : Tg), H = .inl c ∧ Fr a 26 [] ∧ Bs (fun _ => 1) k w z) (fun a w' => ∃ r', H = .inr r' ∧ bodyPost Tryz.prog Tryz.f24 (mh_ w r') .ret a w') ?_ ?_ ?_
  ·refine d_ ?_; refine y_ (fun (K : Nat) a z => ∃ (c : Int) (k : Tg), loopF (dg_ y A) K c = some H ∧ Fr a 26 [(0, f), (1, g), (5, ZI c)] ∧ Bs (fun _ => 1) k w z) fuel (fun a ha => ⟨0, (col (fun _ => 1)), I, ha.sub (r := [(0, f), (1, g), (5, ZI 0)]) ⟨rfl, rfl, rfl, trivial⟩, hB⟩) ?_; rintro K10 a z ⟨c, k, a8, ha, hB⟩; obtain ⟨K14, a9, b0, b, m⟩ := V_ a8; dsimp only [dg_] at b; refine N_ ha ?_; refine b_ (Zq (Zm rfl (Zm rfl (Zv (H_ rfl E Tryz.underlying41) (Zv (t_ rfl rfl) (Ze [(0, f), (1, g), (5, ZI c), (14, (.bool (decide (c < (y.length : Int)))))] (nx ?_))))))); refine m_ rfl (fun q => ?_) (fun q => ?_)
   ·rw [if_pos q] at b; refine f_ (nx (b_ (d_ (b_ ?_)))); obtain ⟨B, i, b⟩ := bind_some b; obtain ⟨C, j, b⟩ := bind_some b; refine ai_ (o := k) [(0, f), (1, g), (5, ZI c)] [0, 1, 5] [17, 18, 19, 20, 21, 22, 23, 24] [[], [], [0, 1], [2], [], [], [4, 5], [6]] [none, none, none, none, none, none, none, none] [999, 999, 999, 999, 999, 999, 999, 999] [0, 0, 0, 0, 0, 0, 0, 0] [999] [fun v _ _ => v = f, fun v _ _ => v = (ZI c), fun v o b1 => ∃ vl, v = adr vl (c.toNat * Rp.sz Int) ∧ RdL zt w vl y, fun v _ _ => v = (ZI B), fun v _ _ => v = g, fun v _ _ => v = (ZI c), fun v o b1 => ∃ vl, v = adr vl (c.toNat * Rp.sz Int) ∧ RdL zt w vl A, fun v _ _ => v = (ZI C)] (fun b2 b3 => Bs (fun _ => 1) b2 w b3) G_ (by kernel_rfl) rfl ⟨rfl, rfl, rfl, trivial⟩ hB ?_ ⟨u_ _, u_ _, fun _ _ _ _ _ _ b4 hb ⟨vl, e, h⟩ hs => ⟨vl, e, h⟩, u_ _, u_ _, u_ _, fun _ _ _ _ _ _ b4 hb ⟨vl, e, h⟩ hs => ⟨vl, e, h⟩, u_ _, trivial⟩ ?_ ?_
    ·rintro b5 e6 e7 e8 e9 s hB J; have s : b5 = 999 := by simpa using s
     subst s; all_goals exact hB.stp J (by decide)
    ·refine ⟨?_, ?_, ?_, ?_, ?_, ?_, ?_, ?_, trivial⟩
     ·rintro b6 b7 b8 ha hB -; refine Zs ha ?_; refine g_ (j_ rfl) ?_; exact Zx rfl
     ·rintro b9 c0 c1 ha hB -; refine Zs ha ?_; refine g_ (j_ rfl) ?_; exact Zx rfl
     ·rintro c2 c3 c4 ha hB ⟨L, M, -⟩; have ha := Fr.cons (d := 17) ha L; have ha := Fr.cons (d := 18) ha M; refine Zs ha ?_; refine aZ_ E i rfl rfl Tryz.underlying41 Tryz.sizeOf3 ?_; exact ⟨_, Stp.refl _ _ _, ⟨_, rfl, E⟩⟩
     ·rintro c5 c6 c7 ha hB ⟨N, -⟩; obtain ⟨c8, O, Q⟩ := N; have ha := Fr.cons (d := 19) ha O; refine Zs ha ?_; refine bq_ Q i hB rfl rfl Tryz.isAgg3 ?_; intro c9 R; cases R
      exact Zx rfl
     ·rintro d0 d1 d2 ha hB -; refine Zs ha ?_; refine g_ (j_ rfl) ?_; exact Zx rfl
     ·rintro d3 d4 d5 ha hB -; refine Zs ha ?_; refine g_ (j_ rfl) ?_; exact Zx rfl
     ·rintro d6 d7 d8 ha hB ⟨S, T, -⟩; have ha := Fr.cons (d := 21) ha S; have ha := Fr.cons (d := 22) ha T; refine Zs ha ?_; refine aZ_ F j rfl rfl Tryz.underlying41 Tryz.sizeOf3 ?_; exact ⟨_, Stp.refl _ _ _, ⟨_, rfl, F⟩⟩
     ·rintro d9 e0 e1 ha hB ⟨U, -⟩; obtain ⟨e2, V, W⟩ := U; have ha := Fr.cons (d := 23) ha V; refine Zs ha ?_; refine bq_ W j hB rfl rfl Tryz.isAgg3 ?_; intro e3 X; cases X
      exact Zx rfl
    rintro Y e4 e5 ha hB ⟨-, -, -, Z, -, -, -, a0, -⟩; have ha := Fr.cons (d := 20) ha Z; have ha := Fr.cons (d := 24) ha a0; refine bi_ ha ?_; simp only [List.length_cons, List.length_nil, Nat.zero_add, Nat.reduceAdd, List.drop_succ_cons, List.drop_zero]; refine Zv (ck_ rfl rfl) (Ze [(0, f), (1, g), (5, ZI c), (25, (.bool (B != C)))] (nx ?_)); refine m_ rfl (fun u => ?_) (fun u => ?_)
    ·rw [if_pos u] at b; refine Zq (Za rfl (Ze [(4, (.bool false))] (nx (k_ (Z_ (A_ (A_ (Z_ ?_)))))))); refine bt_ ?_; have a1 := Zj b; subst a1; refine fun a ha => ⟨_, m, ?_⟩; refine E_ (P := Tryz.prog) (vs := [(.bool false)]) Tryz.results24 ⟨rfl, trivial⟩ ?_ a ha; exact ⟨rfl, hB.keeps⟩
    ·rw [if_neg (by rw [u]; decide)] at b; refine f_ (x_ (nx (c_ (Zm rfl ?_)))); obtain ⟨x, D, b⟩ := bind_some b; refine Zv (C_ rfl rfl D) (Za rfl (Ze [(0, f), (1, g), (5, ZI x)] (w_ ?_))); have a2 := Zj b; subst a2; refine Zk [(0, f), (1, g), (5, ZI x)] ?_; intro a ha; exact ⟨K14, by omega, x, Y, m, ha, hB⟩
   ·rw [if_neg (by rw [q]; decide)] at b; refine v_ ?_; refine n_ (n_ (S_ ?_)); refine q_ ?_; have a3 := Zj b; subst a3; refine Zk [] ?_; intro a ha; exact ⟨c, k, m, ha, hB⟩
  ·rintro a z ⟨c, k, rfl, ha, hB⟩; dsimp only at hF; refine ap_k ha ?_; refine Zn (Za rfl (Ze [(4, (.bool true))] (nx (k_ ?_)))); have a4 := Zj hF; subst a4; refine Zr Tryz.results24 [(.bool true)] ?_; exact ⟨rfl, hB.keeps⟩
  ·rintro a z ⟨r', rfl, a5⟩; dsimp only at hF; have a6 := Zj hF; subst a6; exact a5
def cN_ (fuel : Nat) (f : List (List Int)) (g : List (List Int)) : Int → Option (Lp Int Int Bool) := fun (s : Int) =>
  if decide (s < (f.length : Int)) then
    (ix f s) >>= fun a =>
    (ix g s) >>= fun b =>
    (gq_ fuel a b) >>= fun c =>
    if !c then
      some (.ret false)
    else
      (ck (s + 1)) >>= fun d =>
      some (.go d)
  else
    some (.out s)
def er_ (fuel : Nat) (a : List (List Int)) (b : List (List Int)) : Option Bool :=
  if (a.length : Int) != (b.length : Int) then
    some false
  else
    (loopF (cN_ fuel a b) fuel 0) >>= fun c =>
    match c with
    | .inl d =>
      some true
    | .inr r' => some r'

def ka_ (w : World) (r : Bool) : Ending → World → Prop := fun e w' => e = .returned (.bool r) ∧ Keeps w w'
theorem jX_ (fuel : Nat) (w : World) (f : Value) (D : Yk) (L : RdL zt w f D) (g : Value) (F : Yk) (M : RdL zt w g F) (r : Bool) (hF : er_ fuel D F = some r) :
    Calls Tryz.prog 25 #[f, g] w (ka_ w r) := by
 unfold er_ at hF; have hB : Bs (fun _ => 1) (col (fun _ => 1)) w w := Bs.start _ _; refine h_ (n := 27) (vs := [f, g]) Tryz.func25 rfl rfl ?_; refine Zq (Za rfl (Ze [(0, f), (1, g)] (nx (b_ (Zq (Zm rfl (Zv (H_ rfl L Tryz.underlying22) (Zm rfl (Zv (H_ rfl M Tryz.underlying22) (Zv (ck_ rfl rfl) (Ze [(0, f), (1, g), (10, (.bool ((D.length : Int) != (F.length : Int))))] (nx ?_)))))))))))); refine m_ rfl (fun N => ?_) (fun N => ?_)
 ·rw [if_pos N] at hF; refine Zq (Za rfl (Ze [(4, (.bool false))] (nx (k_ (A_ ?_))))); have c1 := Zj hF; subst c1; refine Zr Tryz.results25 [(.bool false)] ?_; exact ⟨rfl, hB.keeps⟩
 ·rw [if_neg (by rw [N]; decide)] at hF; refine f_ (nx (b_ (Zq (Za rfl (Ze [(0, f), (1, g), (5, ZI 0)] (nx ?_)))))); obtain ⟨O, Q, hF⟩ := bind_some hF; refine z_ (fun a E => ∃ (c : Int) (s : Tg), O = .inl c ∧ Fr a 27 [] ∧ Bs (fun _ => 1) s w E) (fun a w' => ∃ r', O = .inr r' ∧ bodyPost Tryz.prog Tryz.f25 (ka_ w r') .ret a w') ?_ ?_ ?_
  ·refine d_ ?_; refine y_ (fun (K : Nat) a E => ∃ (c : Int) (s : Tg), loopF (cN_ fuel D F) K c = some O ∧ Fr a 27 [(0, f), (1, g), (5, ZI c)] ∧ Bs (fun _ => 1) s w E) fuel (fun a ha => ⟨0, (col (fun _ => 1)), Q, ha.sub (r := [(0, f), (1, g), (5, ZI 0)]) ⟨rfl, rfl, rfl, trivial⟩, hB⟩) ?_; rintro K10 a E ⟨c, s, c2, ha, hB⟩; obtain ⟨K14, c3, c4, b, u⟩ := V_ c2; dsimp only [cN_] at b; refine N_ ha ?_; refine b_ (Zq (Zm rfl (Zm rfl (Zv (H_ rfl L Tryz.underlying22) (Zv (t_ rfl rfl) (Ze [(0, f), (1, g), (5, ZI c), (14, (.bool (decide (c < (D.length : Int)))))] (nx ?_))))))); refine m_ rfl (fun x => ?_) (fun x => ?_)
   ·rw [if_pos x] at b; refine f_ (nx (b_ (d_ (b_ ?_)))); obtain ⟨y, m, b⟩ := bind_some b; obtain ⟨z, q, b⟩ := bind_some b; refine ai_ (o := s) [(0, f), (1, g), (5, ZI c)] [0, 1, 5] [17, 18, 19, 20, 21, 22, 23, 24] [[], [], [0, 1], [2], [], [], [4, 5], [6]] [none, none, none, none, none, none, none, none] [999, 999, 999, 999, 999, 999, 999, 999] [0, 0, 0, 0, 0, 0, 0, 0] [999] [fun v _ _ => v = f, fun v _ _ => v = (ZI c), fun v o R => ∃ vl, v = adr vl (c.toNat * Rp.sz Yl) ∧ RdL zt w vl D, fun v o R => RdL zt w v y, fun v _ _ => v = g, fun v _ _ => v = (ZI c), fun v o R => ∃ vl, v = adr vl (c.toNat * Rp.sz Yl) ∧ RdL zt w vl F, fun v o R => RdL zt w v z] (fun c5 c6 => Bs (fun _ => 1) c5 w c6) G_ (by kernel_rfl) rfl ⟨rfl, rfl, rfl, trivial⟩ hB ?_ ⟨u_ _, u_ _, fun _ _ _ _ _ _ S hb ⟨vl, e, h⟩ hs => ⟨vl, e, h⟩, fun _ _ _ _ _ _ S hb h hs => h, u_ _, u_ _, fun _ _ _ _ _ _ S hb ⟨vl, e, h⟩ hs => ⟨vl, e, h⟩, fun _ _ _ _ _ _ S hb h hs => h, trivial⟩ ?_ ?_
    ·rintro c7 g2 g3 g4 g5 A hB T; have A : c7 = 999 := by simpa using A
     subst A; all_goals exact hB.stp T (by decide)
    ·refine ⟨?_, ?_, ?_, ?_, ?_, ?_, ?_, ?_, trivial⟩
     ·rintro c8 c9 d0 ha hB -; refine Zs ha ?_; refine g_ (j_ rfl) ?_; exact Zx rfl
     ·rintro d1 d2 d3 ha hB -; refine Zs ha ?_; refine g_ (j_ rfl) ?_; exact Zx rfl
     ·rintro d4 d5 d6 ha hB ⟨U, V, -⟩; have ha := Fr.cons (d := 17) ha U; have ha := Fr.cons (d := 18) ha V; refine Zs ha ?_; refine aZ_ L m rfl rfl Tryz.underlying22 Tryz.sizeOf41 ?_; exact ⟨_, Stp.refl _ _ _, ⟨_, rfl, L⟩⟩
     ·rintro d7 d8 d9 ha hB ⟨W, -⟩; obtain ⟨e0, X, Y⟩ := W; have ha := Fr.cons (d := 19) ha X; refine Zs ha ?_; refine bq_ Y m hB rfl rfl Tryz.isAgg41 ?_; intro e1 Z; obtain ⟨e2, a0, a1⟩ := Z; cases a0
      exact ⟨_, Stp.refl _ _ _, a1⟩
     ·rintro e3 e4 e5 ha hB -; refine Zs ha ?_; refine g_ (j_ rfl) ?_; exact Zx rfl
     ·rintro e6 e7 e8 ha hB -; refine Zs ha ?_; refine g_ (j_ rfl) ?_; exact Zx rfl
     ·rintro e9 f0 f1 ha hB ⟨a2, a3, -⟩; have ha := Fr.cons (d := 21) ha a2; have ha := Fr.cons (d := 22) ha a3; refine Zs ha ?_; refine aZ_ M q rfl rfl Tryz.underlying22 Tryz.sizeOf41 ?_; exact ⟨_, Stp.refl _ _ _, ⟨_, rfl, M⟩⟩
     ·rintro f2 f3 f4 ha hB ⟨a4, -⟩; obtain ⟨f5, a5, a6⟩ := a4; have ha := Fr.cons (d := 23) ha a5; refine Zs ha ?_; refine bq_ a6 q hB rfl rfl Tryz.isAgg41 ?_; intro f6 a7; obtain ⟨f7, a8, a9⟩ := a7; cases a8
      exact ⟨_, Stp.refl _ _ _, a9⟩
    rintro G b0 i ha hB ⟨-, -, -, j, -, -, -, k, -⟩; replace j : RdL zt w (i.tmps.getD 20 undef) y := j; generalize b1 : i.tmps.getD 20 undef = f8 at j; have ha := Fr.cons (d := 20) ha b1; replace k : RdL zt w (i.tmps.getD 24 undef) z := k; generalize b2 : i.tmps.getD 24 undef = f9 at k; have ha := Fr.cons (d := 24) ha b2; refine bi_ ha ?_; simp only [List.length_cons, List.length_nil, Nat.zero_add, Nat.reduceAdd, List.drop_succ_cons, List.drop_zero]; obtain ⟨H, I, b⟩ := bind_some b; refine Zo ?_; refine p_ (oY_ fuel b0 _ y (j.keep hB.keeps) _ z (k.keep hB.keeps) H I) Tryz.call24 ⟨rfl, rfl, trivial⟩ ?_; rintro g0 g1 ⟨rfl, b3⟩; have b4 := b3.stp 999 G; refine ⟨_, rfl, ?_⟩; replace hB := hB.stp b4; refine Zv (bC_ rfl) (Ze [(0, f), (1, g), (5, ZI c), (26, (.bool (!H)))] (nx ?_)); refine m_ rfl (fun B => ?_) (fun B => ?_)
    ·rw [if_pos B] at b; refine Zq (Za rfl (Ze [(4, (.bool false))] (nx (k_ (Z_ (A_ (A_ (Z_ ?_)))))))); refine bt_ ?_; have b5 := Zj b; subst b5; refine fun a ha => ⟨_, u, ?_⟩; refine E_ (P := Tryz.prog) (vs := [(.bool false)]) Tryz.results25 ⟨rfl, trivial⟩ ?_ a ha; exact ⟨rfl, hB.keeps⟩
    ·rw [if_neg (by rw [B]; decide)] at b; refine f_ (x_ (nx (c_ (Zm rfl ?_)))); obtain ⟨C, J, b⟩ := bind_some b; refine Zv (C_ rfl rfl J) (Za rfl (Ze [(0, f), (1, g), (5, ZI C)] (w_ ?_))); have b6 := Zj b; subst b6; refine Zk [(0, f), (1, g), (5, ZI C)] ?_; intro a ha; exact ⟨K14, by omega, C, G, u, ha, hB⟩
   ·rw [if_neg (by rw [x]; decide)] at b; refine v_ ?_; refine n_ (n_ (S_ ?_)); refine q_ ?_; have b7 := Zj b; subst b7; refine Zk [] ?_; intro a ha; exact ⟨c, s, u, ha, hB⟩
  ·rintro a E ⟨c, s, rfl, ha, hB⟩; dsimp only at hF; refine ap_k ha ?_; refine Zn (Za rfl (Ze [(4, (.bool true))] (nx (k_ ?_)))); have b8 := Zj hF; subst b8; refine Zr Tryz.results25 [(.bool true)] ?_; exact ⟨rfl, hB.keeps⟩
  ·rintro a E ⟨r', rfl, b9⟩; dsimp only at hF; have c0 := Zj hF; subst c0; exact b9
def ed_ (fuel : Nat) (a : a_) (b : a_) : Option Bool :=
  if a.Labels != b.Labels then
    some false
  else
    if a.Degree != b.Degree then
      some false
    else
      (er_ fuel a.Nodes b.Nodes) >>= fun c =>
      if !c then
        some false
      else
        (er_ fuel a.Edges b.Edges) >>= fun d =>
        if !d then
          some false
        else
          some true

def li_ (w : World) (r : Bool) : Ending → World → Prop := fun e w' => e = .returned (.bool r) ∧ Keeps w w'
theorem lv_ (fuel : Nat) (w : World) (L : List Value) (c : a_) (R : Rp.rd zt w L c) (M : List Value) (d : a_) (S : Rp.rd zt w M d) (r : Bool) (hF : ed_ fuel c d = some r) :
    Calls Tryz.prog 13 #[.agg L.toArray, .agg M.toArray] w (li_ w r) := by
 unfold ed_ at hF; obtain ⟨N, O, rfl, T, U⟩ := R; obtain ⟨P, Q, rfl, V, W⟩ := S; have hB : Bs (fun _ => 1) (col (fun _ => 1)) w w := Bs.start _ _; refine h_ (n := 27) (vs := [(.agg #[(ZI c.Labels), (ZI c.Degree), N, O]), (.agg #[(ZI d.Labels), (ZI d.Degree), P, Q])]) Tryz.func13 rfl rfl ?_; refine Zq (Zo ?_); refine bb_ (o := (col (fun _ => 1))) w.heap.size 11 hB.keeps.size (cs := [(ZI c.Labels), (ZI c.Degree), N, O]) rfl rfl ?_; intro X Y f a A; replace hB := hB.stp A; refine Zo ?_; refine bb_ (o := X) w.heap.size 12 hB.keeps.size (cs := [(ZI d.Labels), (ZI d.Degree), P, Q]) rfl rfl ?_; intro s B g b u; replace a := a.stp u; replace hB := hB.stp u; refine Za rfl (Ze [(2, ZP f), (3, ZP g)] (nx (b_ (Zq (Zv (r_ rfl Tryz.underlying28 rfl Tryz.sizeOf3) (Zv (e_ rfl Tryz.isAgg3 (a.cell rfl)) (Zv (r_ rfl Tryz.underlying28 rfl Tryz.sizeOf3) (Zv (e_ rfl Tryz.isAgg3 (b.cell rfl)) (Zv (ck_ rfl rfl) (Ze [(2, ZP f), (3, ZP g), (9, (.bool (c.Labels != d.Labels)))] (nx ?_))))))))))); refine m_ rfl (fun i => ?_) (fun i => ?_)
 ·rw [if_pos i] at hF; refine Zq (Za rfl (Ze [(4, (.bool false))] (nx (k_ (A_ ?_))))); have C := Zj hF; subst C; refine Zr Tryz.results13 [(.bool false)] ?_; exact ⟨rfl, hB.keeps⟩
 ·rw [if_neg (by rw [i]; decide)] at hF; refine f_ (nx (b_ (Zq (Zv (r_ rfl Tryz.underlying28 rfl Tryz.sizeOf3) (Zv (e_ rfl Tryz.isAgg3 (a.cell rfl)) (Zv (r_ rfl Tryz.underlying28 rfl Tryz.sizeOf3) (Zv (e_ rfl Tryz.isAgg3 (b.cell rfl)) (Zv (ck_ rfl rfl) (Ze [(2, ZP f), (3, ZP g), (14, (.bool (c.Degree != d.Degree)))] (nx ?_)))))))))); refine m_ rfl (fun j => ?_) (fun j => ?_)
  ·rw [if_pos j] at hF; refine Zq (Za rfl (Ze [(4, (.bool false))] (nx (k_ (A_ ?_))))); have D := Zj hF; subst D; refine Zr Tryz.results13 [(.bool false)] ?_; exact ⟨rfl, hB.keeps⟩
  ·rw [if_neg (by rw [j]; decide)] at hF; refine f_ (nx (b_ (Zq (Zv (r_ rfl Tryz.underlying28 rfl Tryz.sizeOf22) (Zv (e_ rfl Tryz.isAgg22 (a.cell rfl)) (Zv (r_ rfl Tryz.underlying28 rfl Tryz.sizeOf22) (Zv (e_ rfl Tryz.isAgg22 (b.cell rfl)) ?_))))))); obtain ⟨v, x, hF⟩ := bind_some hF; refine Zo ?_; refine p_ (jX_ fuel B _ c.Nodes (T.keep hB.keeps) _ d.Nodes (V.keep hB.keeps) v x) Tryz.call25 ⟨rfl, rfl, trivial⟩ ?_; rintro Z E ⟨rfl, F⟩; have k := F.stp 999 s; refine ⟨_, rfl, ?_⟩; replace a := a.stp k; replace b := b.stp k; replace hB := hB.stp k; refine Zv (bC_ rfl) (Ze [(2, ZP f), (3, ZP g), (20, (.bool (!v)))] (nx ?_)); refine m_ rfl (fun m => ?_) (fun m => ?_)
   ·rw [if_pos m] at hF; refine Zq (Za rfl (Ze [(4, (.bool false))] (nx (k_ (A_ ?_))))); have G := Zj hF; subst G; refine Zr Tryz.results13 [(.bool false)] ?_; exact ⟨rfl, hB.keeps⟩
   ·rw [if_neg (by rw [m]; decide)] at hF; refine f_ (nx (b_ (Zq (Zv (r_ rfl Tryz.underlying28 rfl Tryz.sizeOf22) (Zv (e_ rfl Tryz.isAgg22 (a.cell rfl)) (Zv (r_ rfl Tryz.underlying28 rfl Tryz.sizeOf22) (Zv (e_ rfl Tryz.isAgg22 (b.cell rfl)) ?_))))))); obtain ⟨y, z, hF⟩ := bind_some hF; refine Zo ?_; refine p_ (jX_ fuel E _ c.Edges (U.keep hB.keeps) _ d.Edges (W.keep hB.keeps) y z) Tryz.call25 ⟨rfl, rfl, trivial⟩ ?_; rintro a0 a1 ⟨rfl, H⟩; have I := H.stp 999 s; refine ⟨_, rfl, ?_⟩; replace hB := hB.stp I; refine Zv (bC_ rfl) (Ze [(26, (.bool (!y)))] (nx ?_)); refine m_ rfl (fun q => ?_) (fun q => ?_)
    ·rw [if_pos q] at hF; refine Zq (Za rfl (Ze [(4, (.bool false))] (nx (k_ (A_ ?_))))); have J := Zj hF; subst J; refine Zr Tryz.results13 [(.bool false)] ?_; exact ⟨rfl, hB.keeps⟩
    ·rw [if_neg (by rw [q]; decide)] at hF; refine f_ (Zn (Za rfl (Ze [(4, (.bool true))] (nx (k_ ?_))))); have K := Zj hF; subst K; refine Zr Tryz.results13 [(.bool true)] ?_; exact ⟨rfl, hB.keeps⟩
def bE_ (fuel : Nat) (f : List a_) (g : List a_) : Int → Option (Lp Int Int Bool) := fun (s : Int) =>
  if decide (s < (f.length : Int)) then
    (ix f s) >>= fun b =>
    (ix g s) >>= fun c =>
    (ed_ fuel b c) >>= fun d =>
    if !d then
      some (.ret false)
    else
      (ck (s + 1)) >>= fun a =>
      some (.go a)
  else
    some (.out s)
def en_ (fuel : Nat) (a : List a_) (b : List a_) : Option Bool :=
  if (a.length : Int) != (b.length : Int) then
    some false
  else
    (loopF (bE_ fuel a b) fuel 0) >>= fun c =>
    match c with
    | .inl d =>
      some true
    | .inr r' => some r'

def ha_ (w : World) (r : Bool) : Ending → World → Prop := fun e w' => e = .returned (.bool r) ∧ Keeps w w'
theorem kF_ (fuel : Nat) (w : World) (g : Value) (A : List a_) (S : RdL zt w g A) (i : Value) (C : List a_) (T : RdL zt w i C) (r : Bool) (hF : en_ fuel A C = some r) :
    Calls Tryz.prog 16 #[g, i] w (ha_ w r) := by
 unfold en_ at hF; have hB : Bs (fun _ => 1) (col (fun _ => 1)) w w := Bs.start _ _; refine h_ (n := 27) (vs := [g, i]) Tryz.func16 rfl rfl ?_; refine Zq (Za rfl (Ze [(0, g), (1, i)] (nx (b_ (Zq (Zm rfl (Zv (H_ rfl S Tryz.underlying32) (Zm rfl (Zv (H_ rfl T Tryz.underlying32) (Zv (ck_ rfl rfl) (Ze [(0, g), (1, i), (10, (.bool ((A.length : Int) != (C.length : Int))))] (nx ?_)))))))))))); refine m_ rfl (fun U => ?_) (fun U => ?_)
 ·rw [if_pos U] at hF; refine Zq (Za rfl (Ze [(4, (.bool false))] (nx (k_ (A_ ?_))))); have c8 := Zj hF; subst c8; refine Zr Tryz.results16 [(.bool false)] ?_; exact ⟨rfl, hB.keeps⟩
 ·rw [if_neg (by rw [U]; decide)] at hF; refine f_ (nx (b_ (Zq (Za rfl (Ze [(0, g), (1, i), (5, ZI 0)] (nx ?_)))))); obtain ⟨V, W, hF⟩ := bind_some hF; refine z_ (fun a B => ∃ (f : Int) (s : Tg), V = .inl f ∧ Fr a 27 [] ∧ Bs (fun _ => 1) s w B) (fun a w' => ∃ r', V = .inr r' ∧ bodyPost Tryz.prog Tryz.f16 (ha_ w r') .ret a w') ?_ ?_ ?_
  ·refine d_ ?_; refine y_ (fun (K : Nat) a B => ∃ (f : Int) (s : Tg), loopF (bE_ fuel A C) K f = some V ∧ Fr a 27 [(0, g), (1, i), (5, ZI f)] ∧ Bs (fun _ => 1) s w B) fuel (fun a ha => ⟨0, (col (fun _ => 1)), W, ha.sub (r := [(0, g), (1, i), (5, ZI 0)]) ⟨rfl, rfl, rfl, trivial⟩, hB⟩) ?_; rintro K10 a B ⟨f, s, c9, ha, hB⟩; obtain ⟨K14, d0, d1, b, u⟩ := V_ c9; dsimp only [bE_] at b; refine N_ ha ?_; refine b_ (Zq (Zm rfl (Zm rfl (Zv (H_ rfl S Tryz.underlying32) (Zv (t_ rfl rfl) (Ze [(0, g), (1, i), (5, ZI f), (14, (.bool (decide (f < (A.length : Int)))))] (nx ?_))))))); refine m_ rfl (fun x => ?_) (fun x => ?_)
   ·rw [if_pos x] at b; refine f_ (nx (b_ (d_ (b_ ?_)))); obtain ⟨D, m, b⟩ := bind_some b; obtain ⟨E, q, b⟩ := bind_some b; refine ai_ (o := s) [(0, g), (1, i), (5, ZI f)] [0, 1, 5] [17, 18, 19, 20, 21, 22, 23, 24] [[], [], [0, 1], [2], [], [], [4, 5], [6]] [none, none, none, none, none, none, none, none] [999, 999, 999, 999, 999, 999, 999, 999] [0, 0, 0, 0, 0, 0, 0, 0] [999] [fun v _ _ => v = g, fun v _ _ => v = (ZI f), fun v o X => ∃ vl, v = adr vl (f.toNat * Rp.sz a_) ∧ RdL zt w vl A, fun v o X => ∃ (c : List Value), v = .agg c.toArray ∧ Rp.rd zt w c D, fun v _ _ => v = i, fun v _ _ => v = (ZI f), fun v o X => ∃ vl, v = adr vl (f.toNat * Rp.sz a_) ∧ RdL zt w vl C, fun v o X => ∃ (c : List Value), v = .agg c.toArray ∧ Rp.rd zt w c E] (fun d2 d3 => Bs (fun _ => 1) d2 w d3) G_ (by kernel_rfl) rfl ⟨rfl, rfl, rfl, trivial⟩ hB ?_ ⟨u_ _, u_ _, fun _ _ _ _ _ _ Y hb ⟨vl, e, h⟩ hs => ⟨vl, e, h⟩, fun _ _ _ _ _ _ Y hb ⟨c, e, h⟩ hs => ⟨c, e, h⟩, u_ _, u_ _, fun _ _ _ _ _ _ Y hb ⟨vl, e, h⟩ hs => ⟨vl, e, h⟩, fun _ _ _ _ _ _ Y hb ⟨c, e, h⟩ hs => ⟨c, e, h⟩, trivial⟩ ?_ ?_
    ·rintro d4 h5 h6 h7 h8 y hB Z; have y : d4 = 999 := by simpa using y
     subst y; all_goals exact hB.stp Z (by decide)
    ·refine ⟨?_, ?_, ?_, ?_, ?_, ?_, ?_, ?_, trivial⟩
     ·rintro d5 d6 d7 ha hB -; refine Zs ha ?_; refine g_ (j_ rfl) ?_; exact Zx rfl
     ·rintro d8 d9 e0 ha hB -; refine Zs ha ?_; refine g_ (j_ rfl) ?_; exact Zx rfl
     ·rintro e1 e2 e3 ha hB ⟨a0, a1, -⟩; have ha := Fr.cons (d := 17) ha a0; have ha := Fr.cons (d := 18) ha a1; refine Zs ha ?_; refine aZ_ S m rfl rfl Tryz.underlying32 Tryz.sizeOf28 ?_; exact ⟨_, Stp.refl _ _ _, ⟨_, rfl, S⟩⟩
     ·rintro e4 e5 e6 ha hB ⟨a2, -⟩; obtain ⟨e7, a3, a4⟩ := a2; have ha := Fr.cons (d := 19) ha a3; refine Zs ha ?_; refine kW_ a4 m hB rfl Tryz.isAgg28 Tryz.sizeOf28 ?_; intro e8 a5; obtain ⟨e9, f0, rfl, a6, a7⟩ := a5; exact ⟨_, Stp.refl _ _ _, ⟨_, rfl, ⟨_, _, rfl, a6, a7⟩⟩⟩
     ·rintro f1 f2 f3 ha hB -; refine Zs ha ?_; refine g_ (j_ rfl) ?_; exact Zx rfl
     ·rintro f4 f5 f6 ha hB -; refine Zs ha ?_; refine g_ (j_ rfl) ?_; exact Zx rfl
     ·rintro f7 f8 f9 ha hB ⟨a8, a9, -⟩; have ha := Fr.cons (d := 21) ha a8; have ha := Fr.cons (d := 22) ha a9; refine Zs ha ?_; refine aZ_ T q rfl rfl Tryz.underlying32 Tryz.sizeOf28 ?_; exact ⟨_, Stp.refl _ _ _, ⟨_, rfl, T⟩⟩
     ·rintro g0 g1 g2 ha hB ⟨b0, -⟩; obtain ⟨g3, b1, b2⟩ := b0; have ha := Fr.cons (d := 23) ha b1; refine Zs ha ?_; refine kW_ b2 q hB rfl Tryz.isAgg28 Tryz.sizeOf28 ?_; intro g4 b3; obtain ⟨g5, g6, rfl, b4, b5⟩ := b3; exact ⟨_, Stp.refl _ _ _, ⟨_, rfl, ⟨_, _, rfl, b4, b5⟩⟩⟩
    rintro F b6 g7 ha hB ⟨-, -, -, b7, -, -, -, b8, -⟩; obtain ⟨g8, b9, c0⟩ := b7; obtain ⟨g9, h0, rfl, c1, c2⟩ := c0; have ha := Fr.cons (d := 20) ha b9; obtain ⟨h1, c3, c4⟩ := b8; obtain ⟨h2, h3, rfl, c5, c6⟩ := c4; have ha := Fr.cons (d := 24) ha c3; refine bi_ ha ?_; simp only [List.length_cons, List.length_nil, Nat.zero_add, Nat.reduceAdd, List.drop_succ_cons, List.drop_zero]; obtain ⟨G, H, b⟩ := bind_some b; refine Zo ?_; refine p_ (lv_ fuel b6 _ D (⟨_, _, rfl, (c1.keep hB.keeps), (c2.keep hB.keeps)⟩) _ E (⟨_, _, rfl, (c5.keep hB.keeps), (c6.keep hB.keeps)⟩) G H) Tryz.call13 ⟨rfl, rfl, trivial⟩ ?_; rintro c7 h4 ⟨rfl, I⟩; have J := I.stp 999 F; refine ⟨_, rfl, ?_⟩; replace hB := hB.stp J; refine Zv (bC_ rfl) (Ze [(0, g), (1, i), (5, ZI f), (26, (.bool (!G)))] (nx ?_)); refine m_ rfl (fun j => ?_) (fun j => ?_)
    ·rw [if_pos j] at b; refine Zq (Za rfl (Ze [(4, (.bool false))] (nx (k_ (Z_ (A_ (A_ (Z_ ?_)))))))); refine bt_ ?_; have L := Zj b; subst L; refine fun a ha => ⟨_, u, ?_⟩; refine E_ (P := Tryz.prog) (vs := [(.bool false)]) Tryz.results16 ⟨rfl, trivial⟩ ?_ a ha; exact ⟨rfl, hB.keeps⟩
    ·rw [if_neg (by rw [j]; decide)] at b; refine f_ (x_ (nx (c_ (Zm rfl ?_)))); obtain ⟨k, z, b⟩ := bind_some b; refine Zv (C_ rfl rfl z) (Za rfl (Ze [(0, g), (1, i), (5, ZI k)] (w_ ?_))); have M := Zj b; subst M; refine Zk [(0, g), (1, i), (5, ZI k)] ?_; intro a ha; exact ⟨K14, by omega, k, F, u, ha, hB⟩
   ·rw [if_neg (by rw [x]; decide)] at b; refine v_ ?_; refine n_ (n_ (S_ ?_)); refine q_ ?_; have N := Zj b; subst N; refine Zk [] ?_; intro a ha; exact ⟨f, s, u, ha, hB⟩
  ·rintro a B ⟨f, s, rfl, ha, hB⟩; dsimp only at hF; refine ap_k ha ?_; refine Zn (Za rfl (Ze [(4, (.bool true))] (nx (k_ ?_)))); have O := Zj hF; subst O; refine Zr Tryz.results16 [(.bool true)] ?_; exact ⟨rfl, hB.keeps⟩
  ·rintro a B ⟨r', rfl, Q⟩; dsimp only at hF; have R := Zj hF; subst R; exact Q
def cp_ (d : List Int) : (Int × Int) → Option (Lp (Int × Int) (Int × Int) Int) := fun (s : Int × Int) =>
  if decide (s.2 < (d.length : Int)) then
    (ix d s.2) >>= fun a =>
    if a != s.1 then
      some (.ret (-1))
    else
      (ck (s.1 + 1)) >>= fun b =>
      (ck (s.2 + 1)) >>= fun c =>
      some (.go (b, c))
  else
    some (.out (s.1, s.2))
def eM_ (fuel : Nat) (a : List Int) (b : Int) : Option Int :=
  (loopF (cp_ a) fuel (b, 0)) >>= fun c =>
  match c with
  | .inl (d, f) =>
    some d
  | .inr r' => some r'

def jg_ (w : World) (r : Int) : Ending → World → Prop := fun e w' => e = .returned (.int .i64 r) ∧ Keeps w w'
theorem nc_ (fuel : Nat) (w : World) (d : Value) (z : Yl) (M : RdL zt w d z) (i : Int) (r : Int) (hF : eM_ fuel z i = some r) :
    Calls Tryz.prog 28 #[d, .int .i64 i] w (jg_ w r) := by
 unfold eM_ at hF; have hB : Bs (fun _ => 1) (col (fun _ => 1)) w w := Bs.start _ _; refine h_ (n := 21) (vs := [d, (ZI i)]) Tryz.func28 rfl rfl ?_; refine Zq (Za rfl (Ze [(0, d), (1, ZI i)] (nx (b_ (Zq (Za rfl (Ze [(0, d), (1, ZI i), (5, ZI 0)] (nx ?_)))))))); obtain ⟨A, B, hF⟩ := bind_some hF; refine z_ (fun a u => ∃ (c : Int) (f : Int) (j : Tg), A = .inl (c, f) ∧ Fr a 21 [(1, ZI c)] ∧ Bs (fun _ => 1) j w u) (fun a w' => ∃ r', A = .inr r' ∧ bodyPost Tryz.prog Tryz.f28 (jg_ w r') .ret a w') ?_ ?_ ?_
 ·refine d_ ?_; refine y_ (fun (K : Nat) a u => ∃ (c : Int) (f : Int) (j : Tg), loopF (cp_ z) K (c, f) = some A ∧ Fr a 21 [(0, d), (1, ZI c), (5, ZI f)] ∧ Bs (fun _ => 1) j w u) fuel (fun a ha => ⟨i, 0, (col (fun _ => 1)), B, ha.sub (r := [(0, d), (1, ZI i), (5, ZI 0)]) ⟨rfl, rfl, rfl, trivial⟩, hB⟩) ?_; rintro K9 a u ⟨c, f, j, N, ha, hB⟩; obtain ⟨K13, O, Q, b, k⟩ := V_ N; dsimp only [cp_] at b; refine N_ ha ?_; refine b_ (Zq (Zm rfl (Zm rfl (Zv (H_ rfl M Tryz.underlying41) (Zv (t_ rfl rfl) (Ze [(0, d), (1, ZI c), (5, ZI f), (9, (.bool (decide (f < (z.length : Int)))))] (nx ?_))))))); refine m_ rfl (fun m => ?_) (fun m => ?_)
  ·rw [if_pos m] at b; refine f_ (nx (b_ (d_ (b_ (Zq (Zm rfl (Zm rfl ?_))))))); obtain ⟨C, v, b⟩ := bind_some b; refine Zo ?_; refine wf_atZ M v hB rfl rfl Tryz.underlying41 Tryz.sizeOf3 ?_; intro R S T D E; cases E
   refine Zv (e_ rfl Tryz.isAgg3 (i_ D)) (Zm rfl (Zv (ck_ rfl rfl) (Ze [(0, d), (1, ZI c), (5, ZI f), (17, (.bool (C != c)))] (nx ?_)))); refine m_ rfl (fun q => ?_) (fun q => ?_)
   ·rw [if_pos q] at b; refine Zq (Za rfl (Ze [(4, (ZI (-1)))] (nx (k_ (A_ (Z_ (A_ (A_ (Z_ ?_))))))))); refine bt_ ?_; have F := Zj b; subst F; refine fun a ha => ⟨_, k, ?_⟩; refine E_ (P := Tryz.prog) (vs := [(ZI (-1))]) Tryz.results28 ⟨rfl, trivial⟩ ?_ a ha; exact ⟨rfl, hB.keeps⟩
   ·rw [if_neg (by rw [q]; decide)] at b; refine f_ (nx (c_ (Zm rfl ?_))); obtain ⟨g, x, b⟩ := bind_some b; refine Zv (C_ rfl rfl x) (Za rfl (Ze [(0, d), (1, ZI g), (5, ZI f)] (x_ (nx (c_ (Zm rfl ?_)))))); obtain ⟨s, y, b⟩ := bind_some b; refine Zv (C_ rfl rfl y) (Za rfl (Ze [(0, d), (1, ZI g), (5, ZI s)] (w_ ?_))); have G := Zj b; subst G; refine Zk [(0, d), (1, ZI g), (5, ZI s)] ?_; intro a ha; exact ⟨K13, by omega, g, s, j, k, ha, hB⟩
  ·rw [if_neg (by rw [m]; decide)] at b; refine v_ ?_; refine n_ (n_ (S_ ?_)); refine q_ ?_; have H := Zj b; subst H; refine Zk [(1, ZI c)] ?_; intro a ha; exact ⟨c, f, j, k, ha, hB⟩
 ·rintro a u ⟨c, f, j, rfl, ha, hB⟩; dsimp only at hF; refine ap_k ha ?_; refine Zn (Zm rfl (Za rfl (Ze [(4, ZI c)] (nx (k_ ?_))))); have I := Zj hF; subst I; refine Zr Tryz.results28 [(ZI c)] ?_; exact ⟨rfl, hB.keeps⟩
 ·rintro a u ⟨r', rfl, J⟩; dsimp only at hF; have L := Zj hF; subst L; exact J
def bY_ (fuel : Nat) (d : List (List Int)) : (Int × Int) → Option (Lp (Int × Int) (Int × Int) Int) := fun (s : Int × Int) =>
  if decide (s.2 < (d.length : Int)) then
    (ix d s.2) >>= fun b =>
    (eM_ fuel b s.1) >>= fun a =>
    if decide (a < 0) then
      some (.ret (-1))
    else
      (ck (s.2 + 1)) >>= fun c =>
      some (.go (a, c))
  else
    some (.out (s.1, s.2))
def dh_ (fuel : Nat) (a : List (List Int)) (b : Int) : Option Int :=
  (loopF (bY_ fuel a) fuel (b, 0)) >>= fun c =>
  match c with
  | .inl (d, f) =>
    some d
  | .inr r' => some r'

def hV_ (w : World) (r : Int) : Ending → World → Prop := fun e w' => e = .returned (.int .i64 r) ∧ Keeps w w'
theorem hW_ (fuel : Nat) (w : World) (f : Value) (z : Yk) (Q : RdL zt w f z) (j : Int) (r : Int) (hF : dh_ fuel z j = some r) :
    Calls Tryz.prog 29 #[f, .int .i64 j] w (hV_ w r) := by
 unfold dh_ at hF; have hB : Bs (fun _ => 1) (col (fun _ => 1)) w w := Bs.start _ _; refine h_ (n := 21) (vs := [f, (ZI j)]) Tryz.func29 rfl rfl ?_; refine Zq (Za rfl (Ze [(0, f), (1, ZI j)] (nx (b_ (Zq (Za rfl (Ze [(0, f), (1, ZI j), (5, ZI 0)] (nx ?_)))))))); obtain ⟨A, B, hF⟩ := bind_some hF; refine z_ (fun a k => ∃ (d : Int) (g : Int) (i : Tg), A = .inl (d, g) ∧ Fr a 21 [(1, ZI d)] ∧ Bs (fun _ => 1) i w k) (fun a w' => ∃ r', A = .inr r' ∧ bodyPost Tryz.prog Tryz.f29 (hV_ w r') .ret a w') ?_ ?_ ?_
 ·refine d_ ?_; refine y_ (fun (K : Nat) a k => ∃ (d : Int) (g : Int) (i : Tg), loopF (bY_ fuel z) K (d, g) = some A ∧ Fr a 21 [(0, f), (1, ZI d), (5, ZI g)] ∧ Bs (fun _ => 1) i w k) fuel (fun a ha => ⟨j, 0, (col (fun _ => 1)), B, ha.sub (r := [(0, f), (1, ZI j), (5, ZI 0)]) ⟨rfl, rfl, rfl, trivial⟩, hB⟩) ?_; rintro K9 a k ⟨d, g, i, R, ha, hB⟩; obtain ⟨K13, S, T, b, m⟩ := V_ R; dsimp only [bY_] at b; refine N_ ha ?_; refine b_ (Zq (Zm rfl (Zm rfl (Zv (H_ rfl Q Tryz.underlying22) (Zv (t_ rfl rfl) (Ze [(0, f), (1, ZI d), (5, ZI g), (9, (.bool (decide (g < (z.length : Int)))))] (nx ?_))))))); refine m_ rfl (fun q => ?_) (fun q => ?_)
  ·rw [if_pos q] at b; refine f_ (nx (b_ (d_ (Zq (Zm rfl (Zm rfl ?_)))))); obtain ⟨C, v, b⟩ := bind_some b; refine Zo ?_; refine wf_atZ Q v hB rfl rfl Tryz.underlying22 Tryz.sizeOf41 ?_; intro U V W D E; obtain ⟨X, rfl, F⟩ := E; refine Zv (e_ rfl Tryz.isAgg41 (i_ D)) (Zm rfl ?_); obtain ⟨c, x, b⟩ := bind_some b; refine Zo ?_; refine p_ (nc_ fuel k _ C (F.keep hB.keeps) d c x) Tryz.call28 ⟨rfl, rfl, trivial⟩ ?_; rintro Y Z ⟨rfl, G⟩; have H := G.stp 999 i; refine ⟨_, rfl, ?_⟩; replace hB := hB.stp H; refine Za rfl (Ze [(0, f), (1, ZI c), (5, ZI g)] (Zn (Zm rfl (Zv (t_ rfl rfl) (Ze [(0, f), (1, ZI c), (5, ZI g), (19, (.bool (decide (c < 0))))] (nx ?_)))))); refine m_ rfl (fun s => ?_) (fun s => ?_)
   ·rw [if_pos s] at b; refine Zq (Za rfl (Ze [(4, (ZI (-1)))] (nx (k_ (Z_ (A_ (A_ (Z_ ?_)))))))); refine bt_ ?_; have I := Zj b; subst I; refine fun a ha => ⟨_, m, ?_⟩; refine E_ (P := Tryz.prog) (vs := [(ZI (-1))]) Tryz.results29 ⟨rfl, trivial⟩ ?_ a ha; exact ⟨rfl, hB.keeps⟩
   ·rw [if_neg (by rw [s]; decide)] at b; refine f_ (x_ (nx (c_ (Zm rfl ?_)))); obtain ⟨u, y, b⟩ := bind_some b; refine Zv (C_ rfl rfl y) (Za rfl (Ze [(0, f), (1, ZI c), (5, ZI u)] (w_ ?_))); have J := Zj b; subst J; refine Zk [(0, f), (1, ZI c), (5, ZI u)] ?_; intro a ha; exact ⟨K13, by omega, c, u, i, m, ha, hB⟩
  ·rw [if_neg (by rw [q]; decide)] at b; refine v_ ?_; refine n_ (n_ (S_ ?_)); refine q_ ?_; have L := Zj b; subst L; refine Zk [(1, ZI d)] ?_; intro a ha; exact ⟨d, g, i, m, ha, hB⟩
 ·rintro a k ⟨d, g, i, rfl, ha, hB⟩; dsimp only at hF; refine ap_k ha ?_; refine Zn (Zm rfl (Za rfl (Ze [(4, ZI d)] (nx (k_ ?_))))); have M := Zj hF; subst M; refine Zr Tryz.results29 [(ZI d)] ?_; exact ⟨rfl, hB.keeps⟩
 ·rintro a k ⟨r', rfl, N⟩; dsimp only at hF; have O := Zj hF; subst O; exact N
def bn_ (fuel : Nat) (a : List a_) : (Int × Int) → Option (Lp (Int × Int) (Int × Int) Int) := fun (s : Int × Int) =>
  if decide (s.2 < (a.length : Int)) then
    (ix a s.2) >>= fun f =>
    if f.Labels != s.1 then
      some (.ret (-1))
    else
      (ck (s.1 + 1)) >>= fun b =>
      (ix a s.2) >>= fun g =>
      if g.Degree != b then
        some (.ret (-1))
      else
        (ck (b + 1)) >>= fun i =>
        (ix a s.2) >>= fun j =>
        (dh_ fuel j.Nodes i) >>= fun c =>
        if decide (c < 0) then
          some (.ret (-1))
        else
          (ix a s.2) >>= fun k =>
          (dh_ fuel k.Edges c) >>= fun d =>
          if decide (d < 0) then
            some (.ret (-1))
          else
            (ck (s.2 + 1)) >>= fun m =>
            some (.go (d, m))
  else
    some (.out (s.1, s.2))
def dv_ (fuel : Nat) (a : List a_) (b : Int) : Option Int :=
  (loopF (bn_ fuel a) fuel (b, 0)) >>= fun c =>
  match c with
  | .inl (d, f) =>
    some d
  | .inr r' => some r'

def gx_ (w : World) (r : Int) : Ending → World → Prop := fun e w' => e = .returned (.int .i64 r) ∧ Keeps w w'
theorem iR_ (fuel : Nat) (w : World) (c : Value) (N : List a_) (B : RdL zt w c N) (m : Int) (r : Int) (hF : dv_ fuel N m = some r) :
    Calls Tryz.prog 19 #[c, .int .i64 m] w (gx_ w r) := by
 unfold dv_ at hF; have hB : Bs (fun _ => 1) (col (fun _ => 1)) w w := Bs.start _ _; refine h_ (n := 49) (vs := [c, (ZI m)]) Tryz.func19 rfl rfl ?_; refine Zq (Za rfl (Ze [(0, c), (1, ZI m)] (nx (b_ (Zq (Za rfl (Ze [(0, c), (1, ZI m), (5, ZI 0)] (nx ?_)))))))); obtain ⟨O, Q, hF⟩ := bind_some hF; refine z_ (fun a q => ∃ (g : Int) (d : Int) (k : Tg), O = .inl (g, d) ∧ Fr a 49 [(1, ZI g)] ∧ Bs (fun _ => 1) k w q) (fun a w' => ∃ r', O = .inr r' ∧ bodyPost Tryz.prog Tryz.f19 (gx_ w r') .ret a w') ?_ ?_ ?_
 ·refine d_ ?_; refine y_ (fun (K : Nat) a q => ∃ (g : Int) (d : Int) (k : Tg), loopF (bn_ fuel N) K (g, d) = some O ∧ Fr a 49 [(0, c), (1, ZI g), (5, ZI d)] ∧ Bs (fun _ => 1) k w q) fuel (fun a ha => ⟨m, 0, (col (fun _ => 1)), Q, ha.sub (r := [(0, c), (1, ZI m), (5, ZI 0)]) ⟨rfl, rfl, rfl, trivial⟩, hB⟩) ?_; rintro K9 a q ⟨g, d, k, b9, ha, hB⟩; obtain ⟨K13, c0, c1, b, i⟩ := V_ b9; dsimp only [bn_] at b; refine N_ ha ?_; refine b_ (Zq (Zm rfl (Zm rfl (Zv (H_ rfl B Tryz.underlying32) (Zv (t_ rfl rfl) (Ze [(0, c), (1, ZI g), (5, ZI d), (9, (.bool (decide (d < (N.length : Int)))))] (nx ?_))))))); refine m_ rfl (fun s => ?_) (fun s => ?_)
  ·rw [if_pos s] at b; refine f_ (nx (b_ (d_ (b_ (Zq (Zm rfl (Zm rfl ?_))))))); obtain ⟨R, C, b⟩ := bind_some b; refine Zo ?_; refine wf_atZ B C hB rfl rfl Tryz.underlying32 Tryz.sizeOf28 ?_; intro c2 c3 c4 S T; obtain ⟨c5, c6, rfl, c7, c8⟩ := T; refine Zv (r_ rfl Tryz.underlying28 rfl Tryz.sizeOf3) (Zv (e_ rfl Tryz.isAgg3 (S 0 _ rfl)) (Zm rfl (Zv (ck_ rfl rfl) (Ze [(0, c), (1, ZI g), (5, ZI d), (18, (.bool (R.Labels != g)))] (nx ?_))))); refine m_ rfl (fun u => ?_) (fun u => ?_)
   ·rw [if_pos u] at b; refine Zq (Za rfl (Ze [(4, (ZI (-1)))] (nx (k_ (A_ (Z_ (A_ (A_ (Z_ ?_))))))))); refine bt_ ?_; have U := Zj b; subst U; refine fun a ha => ⟨_, i, ?_⟩; refine E_ (P := Tryz.prog) (vs := [(ZI (-1))]) Tryz.results19 ⟨rfl, trivial⟩ ?_ a ha; exact ⟨rfl, hB.keeps⟩
   ·rw [if_neg (by rw [u]; decide)] at b; refine f_ (Zn (Zm rfl ?_)); obtain ⟨v, D, b⟩ := bind_some b; refine Zv (C_ rfl rfl D) (Za rfl (Ze [(0, c), (1, ZI v), (5, ZI d)] (nx (b_ (Zq (Zm rfl (Zm rfl ?_))))))); obtain ⟨V, E, b⟩ := bind_some b; refine Zo ?_; refine wf_atZ B E hB rfl rfl Tryz.underlying32 Tryz.sizeOf28 ?_; intro c9 d0 d1 W X; obtain ⟨d2, d3, rfl, d4, d5⟩ := X; refine Zv (r_ rfl Tryz.underlying28 rfl Tryz.sizeOf3) (Zv (e_ rfl Tryz.isAgg3 (W 1 _ rfl)) (Zm rfl (Zv (ck_ rfl rfl) (Ze [(0, c), (1, ZI v), (5, ZI d), (27, (.bool (V.Degree != v)))] (nx ?_))))); refine m_ rfl (fun x => ?_) (fun x => ?_)
    ·rw [if_pos x] at b; refine Zq (Za rfl (Ze [(4, (ZI (-1)))] (nx (k_ (A_ (Z_ (A_ (A_ (Z_ ?_))))))))); refine bt_ ?_; have Y := Zj b; subst Y; refine fun a ha => ⟨_, i, ?_⟩; refine E_ (P := Tryz.prog) (vs := [(ZI (-1))]) Tryz.results19 ⟨rfl, trivial⟩ ?_ a ha; exact ⟨rfl, hB.keeps⟩
    ·rw [if_neg (by rw [x]; decide)] at b; refine f_ (Zn (Zm rfl ?_)); obtain ⟨F, G, b⟩ := bind_some b; refine Zv (C_ rfl rfl G) (Za rfl (Ze [(0, c), (1, ZI F), (5, ZI d)] (Zn (Zm rfl (Zm rfl ?_))))); obtain ⟨Z, H, b⟩ := bind_some b; refine Zo ?_; refine wf_atZ B H hB rfl rfl Tryz.underlying32 Tryz.sizeOf28 ?_; intro d6 d7 d8 a0 a1; obtain ⟨d9, e0, rfl, a2, e1⟩ := a1; refine Zv (r_ rfl Tryz.underlying28 rfl Tryz.sizeOf22) (Zv (e_ rfl Tryz.isAgg22 (a0 2 _ rfl)) (Zm rfl ?_)); obtain ⟨j, I, b⟩ := bind_some b; refine Zo ?_; refine p_ (hW_ fuel q _ Z.Nodes (a2.keep hB.keeps) F j I) Tryz.call29 ⟨rfl, rfl, trivial⟩ ?_; rintro e2 a3 ⟨rfl, a4⟩; have a5 := a4.stp 999 k; refine ⟨_, rfl, ?_⟩; replace hB := hB.stp a5; refine Za rfl (Ze [(0, c), (1, ZI j), (5, ZI d)] (nx (b_ (Zq (Zm rfl (Zv (t_ rfl rfl) (Ze [(0, c), (1, ZI j), (5, ZI d), (38, (.bool (decide (j < 0))))] (nx ?_)))))))); refine m_ rfl (fun y => ?_) (fun y => ?_)
     ·rw [if_pos y] at b; refine Zq (Za rfl (Ze [(4, (ZI (-1)))] (nx (k_ (A_ (Z_ (A_ (A_ (Z_ ?_))))))))); refine bt_ ?_; have a6 := Zj b; subst a6; refine fun a ha => ⟨_, i, ?_⟩; refine E_ (P := Tryz.prog) (vs := [(ZI (-1))]) Tryz.results19 ⟨rfl, trivial⟩ ?_ a ha; exact ⟨rfl, hB.keeps⟩
     ·rw [if_neg (by rw [y]; decide)] at b; refine f_ (Zn (Zm rfl (Zm rfl ?_))); obtain ⟨a7, J, b⟩ := bind_some b; refine Zo ?_; refine wf_atZ B J hB rfl rfl Tryz.underlying32 Tryz.sizeOf28 ?_; intro e3 e4 e5 a8 a9; obtain ⟨e6, e7, rfl, e8, b0⟩ := a9; refine Zv (r_ rfl Tryz.underlying28 rfl Tryz.sizeOf22) (Zv (e_ rfl Tryz.isAgg22 (a8 3 _ rfl)) (Zm rfl ?_)); obtain ⟨f, L, b⟩ := bind_some b; refine Zo ?_; refine p_ (hW_ fuel a3 _ a7.Edges (b0.keep hB.keeps) j f L) Tryz.call29 ⟨rfl, rfl, trivial⟩ ?_; rintro e9 f0 ⟨rfl, b1⟩; have b2 := b1.stp 999 k; refine ⟨_, rfl, ?_⟩; replace hB := hB.stp b2; refine Za rfl (Ze [(0, c), (1, ZI f), (5, ZI d)] (Zn (Zm rfl (Zv (t_ rfl rfl) (Ze [(0, c), (1, ZI f), (5, ZI d), (47, (.bool (decide (f < 0))))] (nx ?_)))))); refine m_ rfl (fun z => ?_) (fun z => ?_)
      ·rw [if_pos z] at b; refine Zq (Za rfl (Ze [(4, (ZI (-1)))] (nx (k_ (Z_ (A_ (A_ (Z_ ?_)))))))); refine bt_ ?_; have b3 := Zj b; subst b3; refine fun a ha => ⟨_, i, ?_⟩; refine E_ (P := Tryz.prog) (vs := [(ZI (-1))]) Tryz.results19 ⟨rfl, trivial⟩ ?_ a ha; exact ⟨rfl, hB.keeps⟩
      ·rw [if_neg (by rw [z]; decide)] at b; refine f_ (x_ (nx (c_ (Zm rfl ?_)))); obtain ⟨A, M, b⟩ := bind_some b; refine Zv (C_ rfl rfl M) (Za rfl (Ze [(0, c), (1, ZI f), (5, ZI A)] (w_ ?_))); have b4 := Zj b; subst b4; refine Zk [(0, c), (1, ZI f), (5, ZI A)] ?_; intro a ha; exact ⟨K13, by omega, f, A, k, i, ha, hB⟩
  ·rw [if_neg (by rw [s]; decide)] at b; refine v_ ?_; refine n_ (n_ (S_ ?_)); refine q_ ?_; have b5 := Zj b; subst b5; refine Zk [(1, ZI g)] ?_; intro a ha; exact ⟨g, d, k, i, ha, hB⟩
 ·rintro a q ⟨g, d, k, rfl, ha, hB⟩; dsimp only at hF; refine ap_k ha ?_; refine Zn (Zm rfl (Za rfl (Ze [(4, ZI g)] (nx (k_ ?_))))); have b6 := Zj hF; subst b6; refine Zr Tryz.results19 [(ZI g)] ?_; exact ⟨rfl, hB.keeps⟩
 ·rintro a q ⟨r', rfl, b7⟩; dsimp only at hF; have b8 := Zj hF; subst b8; exact b7
end

section
open Go.RowKit
theorem ij_ {σ τ ρ : Type} {f : σ → Option (Lp σ τ ρ)} (R : Nat → σ) (n : Nat) (t : τ) (hgo : ∀ j, j < n → f (R j) = some (.go (R (j + 1)))) (hout : f (R n) = some (.out t)) (fuel : Nat) (hf : n < fuel) : loopF f fuel (R 0) = some (.inl t) := by
 suffices h : ∀ (d j fuel : Nat), j + d = n → d < fuel → loopF f fuel (R j) = some (.inl t) by exact h n 0 fuel (by omega) hf
 intro d
 induction d with
 | zero =>
  intro j fuel hj hf
  obtain ⟨m, rfl⟩ : ∃ m, fuel = m + 1 := ⟨fuel - 1, by omega⟩
  have : j = n := by omega
  subst this
  simp only [loopF, hout]
 | succ d ih =>
  intro j fuel hj hf
  obtain ⟨m, rfl⟩ : ∃ m, fuel = m + 1 := ⟨fuel - 1, by omega⟩
  simp only [loopF, hgo j (by omega)]
  exact ih (j + 1) m (by omega) (by omega)
theorem upE {α : Type} (f : Int → Option (Lp Int Int Bool)) (xs : List α) (hgo : ∀ (j : Nat) (h : j < xs.length), f (j : Int) = some (.go ((j + 1 : Nat) : Int))) (hout : f (xs.length : Int) = some (.out (xs.length : Int))) (fuel : Nat) (hf : xs.length < fuel) :
  loopF f fuel 0 = some (.inl (xs.length : Int)) := ij_ (f := f) (fun j => (j : Int)) xs.length _ hgo hout fuel hf
theorem qU_ (fuel : Nat) (l : List Int) (hf : l.length < fuel) (h : l.length ≤ 1000000000000000000) : gq_ fuel l l = some true := by
 unfold gq_
 rw [if_neg (by simp), upE (dg_ l l) l (fun j hj => by
  unfold dg_
  rw [if_pos (by simp; omega), cu_, List.getElem?_eq_getElem hj, sb, sb, if_neg (by simp), D_ (by omega) (by omega), sb]; simp)
  (by unfold dg_; rw [if_neg (by simp)]) fuel hf, sb]
theorem rK_ {LL : List (List Int)} {x : List Int} (h : x ∈ LL) : x.length ≤ tot LL := by
 obtain ⟨i, hi, rfl⟩ := List.getElem_of_mem h
 have := ql_ LL i hi
 rw [List.getD_eq_getElem?_getD, List.getElem?_eq_getElem hi] at this
 exact this
theorem ll_ (fuel : Nat) (LL : List (List Int)) (hf : tot LL < fuel) (h : tot LL ≤ 1000000000000000000) : er_ fuel LL LL = some true := by
 have hl : LL.length ≤ tot LL := by unfold tot; omega
 unfold er_
 rw [if_neg (by simp), upE (cN_ fuel LL LL) LL (fun j hj => by
  have := rK_ (List.getElem_mem hj)
  unfold cN_
  rw [if_pos (by simp; omega), cu_, List.getElem?_eq_getElem hj, sb, sb, qU_ fuel _ (by omega) (by omega), sb, if_neg (by simp), D_ (by omega) (by omega), sb]; simp)
  (by unfold cN_; rw [if_neg (by simp)]) fuel (by omega), sb]
theorem mN_ (fuel : Nat) (p : a_) (hf : szT p < fuel) (h : szT p ≤ 1000000000000000000) : ed_ fuel p p = some true := by
 unfold ed_
 unfold szT at h hf
 rw [if_neg (by simp), if_neg (by simp), ll_ fuel _ (by omega) (by omega), sb, if_neg (by simp), ll_ fuel _ (by omega) (by omega), sb, if_neg (by simp)]
theorem ln_ (fuel : Nat) (ps : List a_) (hf : szQ ps < fuel) (h : szQ ps ≤ 1000000000000000000) : en_ fuel ps ps = some true := by
 have hl : ps.length ≤ szQ ps := by unfold szQ; omega
 unfold en_
 rw [if_neg (by simp), upE (bE_ fuel ps ps) ps (fun j hj => by
  have := rP_ (List.getElem_mem hj)
  unfold bE_
  rw [if_pos (by simp; omega), cu_, List.getElem?_eq_getElem hj, sb, sb, mN_ fuel _ (by omega) (by omega), sb, if_neg (by simp), D_ (by omega) (by omega), sb]; simp)
  (by unfold bE_; rw [if_neg (by simp)]) fuel (by omega), sb]
theorem oM_ (fuel : Nat) (n : Nat) (k : Int) (hf : n < fuel) (hk : 0 ≤ k) (h : k + n ≤ 4611686018427387904) : eM_ fuel (iota k n) k = some (k + n) := by
 have := ij_ (f := cp_ (iota k n)) (fun j => (k + (j : Int), (j : Int))) n (k + (n : Int), (n : Int)) (fun j hj => by
  unfold cp_
  simp only
  rw [if_pos (by simp [fC_]; omega), cu_, show (iota k n)[j]? = some (k + (j : Int)) by simp [iota, hj], sb, if_neg (by simp), D_ (by omega) (by omega), sb, D_ (by omega) (by omega), sb]
  congr 3; omega) (by
  unfold cp_
  simp only
  rw [if_neg (by simp [fC_])]) fuel hf
 simp only [Int.add_zero, show ((0 : Nat) : Int) = 0 from rfl] at this
 unfold eM_
 rw [this, sb]
theorem iQ_ (fuel : Nat) (LL : List (List Int)) (k : Int) (hf : tot LL < fuel) (hk : 0 ≤ k) (h : k + tot LL ≤ 4611686018427387904) : dh_ fuel (numbered k LL LL.length) k = some (k + (off LL LL.length : Nat)) := by
 have hl : LL.length ≤ tot LL := by unfold tot; omega
 have := ij_ (f := bY_ fuel (numbered k LL LL.length)) (fun j => (k + ((off LL j : Nat) : Int), (j : Int))) LL.length (k + ((off LL LL.length : Nat) : Int), (LL.length : Int)) (fun j hj => by
  have o1 := jK_ LL j (by omega)
  have o2 := jK_ LL (j + 1) (by omega)
  have o3 := gz_ LL j hj
  have o4 := ql_ LL j hj
  have hq : (numbered k LL LL.length)[j]? = some (iota (k + (off LL j : Nat)) (LL.getD j []).length) := by simp [numbered, hj]
  unfold bY_
  simp only
  rw [if_pos (by simp [dB_]; omega), cu_, hq, sb, oM_ fuel _ _ (by omega) (by omega) (by omega), sb, if_neg (by simp; omega), D_ (by omega) (by omega), sb]
  congr 3; omega) (by
  unfold bY_
  simp only
  rw [if_neg (by simp [dB_])]) fuel (by omega)
 simp only [show off LL 0 = 0 by simp [off], Int.add_zero, show ((0 : Nat) : Int) = 0 from rfl] at this
 unfold dh_
 rw [this, sb]
theorem jr_ (fuel : Nat) (ps : List a_) (k : Int) (hf : szQ ps < fuel) (hk : 0 ≤ k) (h : k + szQ ps ≤ 4611686018427387904) : dv_ fuel (numU k ps ps.length) k = some (k + (offQ ps ps.length : Nat)) := by
 have hl : ps.length ≤ szQ ps := by unfold szQ; omega
 have := ij_ (f := bn_ fuel (numU k ps ps.length)) (fun j => (k + ((offQ ps j : Nat) : Int), (j : Int))) ps.length (k + ((offQ ps ps.length : Nat) : Int), (ps.length : Int)) (fun j hj => by
  have hp : ps[j]? = some ps[j] := List.getElem?_eq_getElem hj
  have o1 := pE_ ps j _ hp
  have o2 := la_ ps j _ hp
  have o3 : cQ ps[j] ≤ szT ps[j] := rG_ _
  have hq := ik_ k ps ps.length j _ hp
  rw [if_pos hj] at hq
  have hcq : cQ ps[j] = 2 + (off (ps[j]).Nodes (ps[j]).Nodes.length + off (ps[j]).Edges (ps[j]).Edges.length) := rfl
  have hst : szT ps[j] = 2 + (tot (ps[j]).Nodes + tot (ps[j]).Edges) := rfl
  have hoN := jK_ (ps[j]).Nodes _ (Nat.le_refl _)
  have hoE := jK_ (ps[j]).Edges _ (Nat.le_refl _)
  unfold bn_
  simp only
  rw [if_pos (by simp [ez_]; omega), cu_, hq, sb, if_neg (by simp [nP]), D_ (by omega) (by omega), sb, sb, if_neg (by simp [nP]), D_ (by omega) (by omega), sb, sb]
  unfold nP
  simp only
  rw [iQ_ fuel _ _ (by omega) (by omega) (by omega), sb, if_neg (by simp; omega), sb, iQ_ fuel _ _ (by omega) (by omega) (by omega), sb, if_neg (by simp; omega), D_ (by omega) (by omega), sb]
  congr 3; omega) (by
  unfold bn_
  simp only
  rw [if_neg (by simp [ez_])]) fuel (by omega)
 simp only [show offQ ps 0 = 0 by simp [offQ], Int.add_zero, show ((0 : Nat) : Int) = 0 from rfl] at this
 unfold dv_
 rw [this, sb]
theorem eH_ (va vb : Value) (ps : List a_) (w : World) (ha : RdL zt w va ps) (hb : RdL zt w vb ps) (hs : szQ ps ≤ 10000000000000) :
  Calls Tryz.prog 16 #[va, vb] w fun e w' => e = .returned (.bool true) ∧ Keeps w w' :=
 kF_ 100000000000000 w va ps ha vb ps hb _ (ln_ _ ps (by omega) (by omega))
theorem fP_ (v : Value) (ps : List a_) (k : Int) (w : World) (h : RdL zt w v (numU k ps ps.length)) (hs : szQ ps ≤ 10000000000000) (hk : 0 ≤ k) (hk2 : k + szQ ps ≤ 4611686018427387904) :
  Calls Tryz.prog 19 #[v, .int .i64 k] w fun e w' => e = .returned (.int .i64 (k + (offQ ps ps.length : Nat))) ∧ Keeps w w' :=
 iR_ 100000000000000 w v _ h k _ (jr_ _ ps k (by omega) hk hk2)
end

section
open Go.RowKit
def RdI (B C : Nat) (w : World) (v : Value) (ps : List a_) : Prop := RdL (fun b => if B ≤ b ∧ b < C then 0 else 1) w v ps
theorem RdI.keep {B C : Nat} {w w' : World} {v : Value} {ps : List a_} (h : RdI B C w v ps) (k : Keeps w w') : RdI B C w' v ps := RdL.mv h k.size fun b hb h0 => ⟨k.block b hb, h0⟩
theorem RdI.chg {B C B' C' : Nat} {w w' : World} {v : Value} {ps : List a_} (h : RdI B C w v ps) (c : Chg B' C' w w') (hd : C ≤ B' ∨ C' ≤ B) : RdI B C w' v ps := RdL.mv h c.size fun b hb h0 => ⟨c.block b hb (by
 have : B ≤ b ∧ b < C := by
  by_cases q : B ≤ b ∧ b < C
  ·exact q
  ·rw [if_neg q] at h0; cases h0
 omega), h0⟩
theorem RdI.rd {B C : Nat} {w : World} {v : Value} {ps : List a_} (h : RdI B C w v ps) : RdL zt w v ps := h.z
noncomputable def fEliminateTimesSpec (x : PR) (k : Int) : Option (List a_) := if (timV (tP x) k).2 then some (timV (tP x) k).1 else none
noncomputable def fEliminateTimesImpl (x : PR) (k : Int) : Option (List a_) := fEliminateTimesSpec x k
theorem hv_ (x : PR) (k : Int) (_ : okP x) (_ : szP x ≤ 1048576) (_ : I64 k) : fEliminateTimesImpl x k = fEliminateTimesSpec x k := rfl
theorem rf_ (p : a_) (k : Int) (h : (timV p k).2 = false) : (timV p k).1 = [] := by
 unfold timV at *
 split at h
 ·rename_i hc
  rw [if_pos hc]
  split at h
  ·cases h
  ·rename_i hq
   rw [if_neg hq]
 ·rename_i hc
  rw [if_neg hc]
theorem rz_ (x : PR) (k : Int) : (fEliminateTimesSpec x k).isSome = (timV (tP x) k).2 ∧ (fEliminateTimesSpec x k).getD [] = (timV (tP x) k).1 := by
 unfold fEliminateTimesSpec
 cases h : (timV (tP x) k).2
 ·rw [if_neg (by simp)]
  exact ⟨rfl, (rf_ _ _ h).symm⟩
 ·rw [if_pos rfl]
  exact ⟨rfl, rfl⟩
theorem fR_ (v : Value) (x : PR) (k : Int) (w : World) (h : RdP w v x) (_ : okP x) (hs : szP x ≤ 1048576) (_ : I64 k) :
  Calls Tryz.prog 14 #[v, .int .i64 k] w fun e w' => ∃ r, e = .returned (.tuple #[r, .bool (fEliminateTimesSpec x k).isSome]) ∧ RdI w.heap.size w'.heap.size w' r ((fEliminateTimesSpec x k).getD []) ∧ szQ ((fEliminateTimesSpec x k).getD []) ≤ 10000000000000 ∧ Keeps w w' := by
 obtain ⟨u, rfl, hu⟩ := h.rdz
 obtain ⟨l1, l2⟩ := qt_ hs
 have l1' : (tP x).Nodes.length ≤ 100000000 := by show x.nodes.length ≤ _; omega
 have l2' : (tP x).Edges.length ≤ 100000000 := by show x.edges.length ≤ _; omega
 obtain ⟨q1, q2⟩ := rz_ x k
 rw [q1, q2]
 refine (hB_ 1000000000 w ot 2 (by decide) u (tP x) hu k _ (qI_ 1000000000 (by omega) (tP x) k l1' l2')).mono ?_
 rintro e w' ⟨v0, o', rfl, h0, hk, ho⟩
 refine ⟨v0, rfl, RdL.mv (Ow.frz h0) (Nat.le_refl _) fun b hb h1 => ⟨rfl, ?_⟩, ph_ _ _ l1' l2', hk⟩
 have hge : w.heap.size ≤ b := Nat.le_of_not_lt fun hlt => by
  unfold frz at h1
  rw [show o' b = 1 from ho b hlt] at h1
  exact absurd h1 (by decide)
 exact if_pos ⟨hge, hb⟩
theorem dH_ (v : Value) (x : PR) (k : Int) (w : World) (h : RdP w v x) (_ : okP x) (hs : szP x ≤ 1048576) (_ : I64 k) :
  Calls Tryz.prog 15 #[v, .int .i64 k] w fun e w' => ∃ r, e = .returned (.tuple #[r, .bool (fEliminateTimesImpl x k).isSome]) ∧ OwQ w.heap.size w'.heap.size w' r ((fEliminateTimesImpl x k).getD []) ∧ szQ ((fEliminateTimesImpl x k).getD []) ≤ 10000000000000 ∧ Keeps w w' := by
 obtain ⟨u, rfl, hu⟩ := h.rdz
 obtain ⟨l1, l2⟩ := qt_ hs
 have l1' : (tP x).Nodes.length ≤ 100000000 := by show x.nodes.length ≤ _; omega
 have l2' : (tP x).Edges.length ≤ 100000000 := by show x.edges.length ≤ _; omega
 obtain ⟨q1, q2⟩ := rz_ x k
 unfold fEliminateTimesImpl
 rw [q1, q2]
 refine (hx_ 1000000000 w u (tP x) hu k _ (qO_ 1000000000 (by omega) (tP x) k l1' l2')).mono ?_
 rintro e w' ⟨v0, rfl, h0, hk⟩
 exact ⟨v0, rfl, h0, ph_ _ _ l1' l2', hk⟩
end

end Go.Proofs.YtdbbeldgdgonfaaGreat
