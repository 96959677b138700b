/- Part 7 of what this claim rests on (GN, Bs, Elc, Pd, Lpp, Pc), packed by pack.py. -/
import Derived.Test.YtdbbeldgdgonfaaGreatP03
import Derived.Test.YtdbbeldgdgonfaaGreatP06
namespace Go.Proofs.YtdbbeldgdgonfaaGreat
set_option linter.unusedSimpArgs false
set_option linter.unusedVariables false

section
set_option maxRecDepth 100000
set_option maxHeartbeats 2000000
open Go.RowKit
theorem kw_ : Inf Tryz.prog 3 (.int .i64 0) 1 8 := by unfold Inf; kernel_rfl

def bk_ (a : Int) : Option Bool :=
  some (a != a)

def he_ (w : World) (r : Bool) : Ending → World → Prop := fun e w' => e = .returned (.bool r) ∧ Keeps w w'
theorem eU_ (w : World) (a : Int) (r : Bool) (hF : bk_ a = some r) :
    Calls Tryz.prog 176 #[.int .i64 a] w (he_ w r) := by
 unfold bk_ at hF; have hB : Bs (fun _ => 1) (col (fun _ => 1)) w w := Bs.start _ _; refine i_ (n := 6) (vs := [(ZI a)]) Tryz.func176 rfl rfl ?_; refine Zq (Za rfl (Ze [(0, ZI a)] (Zn (Zm rfl (Zm rfl (Zv (bK_ rfl rfl) (Za rfl (Ze [(2, (.bool (a != a)))] (nx (m_ ?_)))))))))); have b := Zj hF; subst b; refine Zr Tryz.results176 [(.bool (a != a))] ?_; exact ⟨rfl, hB.keeps⟩
def aw_ (a : List Int) : Option (List Int) :=
  (cat ([] : List Int) a) >>= fun b =>
  some b

def fD_ (oo : Tg) (t : Nat) (w : World) (r : Yl) : Ending → World → Prop := fun e w' => ∃ (a : Value) (o' : Tg), e = .returned (a) ∧ Ow w.heap.size 3 t o' w' a r ∧ Keeps w w' ∧ ∀ b, b < w.heap.size → o' b = oo b
theorem cv_ (w : World) (oo : Tg) (t : Nat) (ht : 2 ≤ t) (a : Value) (k : Yl) (c : RdL zt w a k) (r : Yl) (hF : aw_ k = some r) :
    Calls Tryz.prog 70 #[a] w (fD_ oo t w r) := by
 unfold aw_ at hF; have hB : Bs oo (col oo) w w := Bs.start _ _; refine i_ (n := 8) (vs := [a]) Tryz.func70 rfl rfl ?_; generalize col oo = o at *; refine Zq (Za rfl (Ze [(0, a)] (nx (a_ (Zq (Zm rfl (Zv (pR_ (c.keep hB.keeps) rfl rfl Tryz.underlying41) (Ze [(0, a), (4, (.bool (isnil a)))] (nx ?_))))))))); refine o_ rfl (fun m => ?_) (fun m => ?_)
 ·have q := oN_ (c.keep hB.keeps) m; subst q; replace hF : (some [] : Option Yl) = some r := hF; refine Zq (Za rfl (Ze [(2, (.slice none 0 0))] (nx (m_ (D_ ?_))))); have s := Zj hF; subst s; refine Zr Tryz.results70 [(.slice none 0 0)] ?_; exact ⟨_, rt oo o w.heap.size 9 t, rfl, (Ow.nil _ _ _ _ _), hB.keeps, af_ _ _ _ _ _⟩
 ·refine g_ (Zn (Zo ?_)); refine fF_ w.heap.size 11 hB.keeps.size (o := o) (cs := []) (xs := ([] : Yl)) (vs := []) rfl rfl trivial Tryz.underlying41 Tryz.sizeOf3 Tryz.zeroValue3 (by decide) fill0 (by simp) ?_; intro y z A u v; replace hB := hB.stp v; refine Zm rfl ?_; obtain ⟨B, d, hF⟩ := bind_some hF; refine Zo ?_; refine kH_ u (c.keep hB.keeps) d (by decide) hB.keeps.size (fun _ _ h => h) rfl rfl Tryz.underlying41 kw_ rfl (by decide) ?_; intro f x b g i; replace hB := hB.stp i; refine Za rfl (Ze [(2, b)] (nx (m_ ?_))); have j := Zj hF; subst j; refine Zr Tryz.results70 [b] ?_; exact ⟨_, rt oo f w.heap.size 11 t, rfl, g.rt hB (by decide) t, hB.keeps, af_ _ _ _ _ _⟩
def X_ (j : List Int) (k : Int) : (Int × Int) → Option (Lp (Int × Int) (Int × Int) (Int × Bool)) := fun (s : Int × Int) =>
  if decide (s.1 < s.2) then
    (ck (s.1 + s.2)) >>= fun b =>
    (cvU b) >>= fun c =>
    (shr c 1) >>= fun d =>
    (cvU d) >>= fun a =>
    (ix j a) >>= fun f =>
    (cm_ f k) >>= fun g =>
    if g then
      (ck (a + 1)) >>= fun i =>
      some (.go (i, s.2))
    else
      some (.go (s.1, a))
  else
    some (.out (s.1, s.2))
def aq_ (fuel : Nat) (a : List Int) (c : Int) : Option (Int × Bool) :=
  (loopF (X_ a c) fuel (0, (a.length : Int))) >>= fun k =>
  match k with
  | .inl (b, m) =>
    (
      if decide (b < (a.length : Int)) then
        (ix a b) >>= fun d =>
        if d == c then
          some true
        else
          (ix a b) >>= fun f =>
          (bk_ f) >>= fun g =>
          if g then
            (bk_ c) >>= fun i =>
            some i
          else
            some false
      else
        some false) >>= fun j =>
    some (b, j)
  | .inr _ => none

def ek_ (w : World) (r : Int × Bool) : Ending → World → Prop := fun e w' => e = .returned (.tuple #[.int .i64 r.1, .bool r.2]) ∧ Keeps w w'
theorem es_ (fuel : Nat) (w : World) (q : Value) (k : Yl) (V : RdL zt w q k) (j : Int) (r : Int × Bool) (hF : aq_ fuel k j = some r) :
    Calls Tryz.prog 143 #[q, .int .i64 j] w (ek_ w r) := by
 unfold aq_ at hF; have hB : Bs (fun _ => 1) (col (fun _ => 1)) w w := Bs.start _ _; refine i_ (n := 54) (vs := [q, (ZI j)]) Tryz.func143 rfl rfl ?_; refine Zq (Za rfl (Za rfl (Ze [(0, q), (1, ZI j)] (Zn (Zm rfl (Zv (C_ rfl V Tryz.underlying41) (Za rfl (Ze [(0, q), (1, ZI j), (6, (ZI (k.length : Int)))] (Zn (Zm rfl (Za rfl (Za rfl ?_)))))))))))); refine Ze [(0, q), (1, ZI j), (6, (ZI (k.length : Int))), (7, ZI 0), (8, (ZI (k.length : Int)))] (nx ?_); obtain ⟨b6, W, hF⟩ := bind_some hF; refine iu_ (fun a x => ∃ (i : Int) (s : Int) (u : Tg), b6 = .inl (i, s) ∧ Fr a 54 [(0, q), (1, ZI j), (6, (ZI (k.length : Int))), (7, ZI i)] ∧ Bs (fun _ => 1) u w x) (fun _ _ => False) ?_ ?_ ?_
 ·refine f_ ?_; refine z_ (fun (K : Nat) a x => ∃ (i : Int) (s : Int) (u : Tg), loopF (X_ k j) K (i, s) = some b6 ∧ Fr a 54 [(0, q), (1, ZI j), (6, (ZI (k.length : Int))), (7, ZI i), (8, ZI s)] ∧ Bs (fun _ => 1) u w x) fuel (fun a ha => ⟨0, (k.length : Int), (col (fun _ => 1)), W, ha.sub (r := [(0, q), (1, ZI j), (6, (ZI (k.length : Int))), (7, ZI 0), (8, (ZI (k.length : Int)))]) ⟨rfl, rfl, rfl, rfl, rfl, trivial⟩, hB⟩) ?_; rintro K9 a x ⟨i, s, u, b7, ha, hB⟩; obtain ⟨K13, b8, b9, d, y⟩ := Y_ b7; dsimp only [X_] at d; refine M_ ha ?_; refine a_ (Zq (Zm rfl (Zm rfl (Zv (t_ rfl rfl) (Ze [(0, q), (1, ZI j), (6, (ZI (k.length : Int))), (7, ZI i), (8, ZI s), (15, (.bool (decide (i < s))))] (nx ?_)))))); refine o_ rfl (fun z => ?_) (fun z => ?_)
  ·rw [if_pos z] at d; refine g_ (nx (f_ (Zq (Zm rfl (Zm rfl ?_))))); obtain ⟨c0, D, d⟩ := bind_some d; refine Zv (F_ rfl rfl D) ?_; obtain ⟨c1, E, d⟩ := bind_some d; refine Zv (nS_ E rfl Tryz.underlying3 Tryz.underlying146) ?_; obtain ⟨c2, F, d⟩ := bind_some d; refine Zv (pa_ rfl rfl F) ?_; obtain ⟨v, G, d⟩ := bind_some d; refine Zv (nL_ G rfl Tryz.underlying146 Tryz.underlying3) (Za rfl (Ze [(0, q), (1, ZI j), (6, (ZI (k.length : Int))), (7, ZI i), (8, ZI s), (9, ZI v)] (Zn (Zm rfl (Zm rfl ?_))))); obtain ⟨X, H, d⟩ := bind_some d; refine Zo ?_; refine wf_atZ V H hB rfl rfl Tryz.underlying41 Tryz.sizeOf3 ?_; intro c3 c4 c5 Y Z; cases Z
   refine Zv (e_ rfl Tryz.isAgg3 (j_ Y)) (Zm rfl ?_); obtain ⟨I, J, d⟩ := bind_some d; refine Zo ?_; refine p_ (fZ_ x X j I J) Tryz.call135 ⟨rfl, rfl, trivial⟩ ?_; rintro c6 c7 ⟨rfl, a0⟩; have a1 := a0.stp 999 u; refine ⟨_, rfl, ?_⟩; replace hB := hB.stp a1; refine Ze [(0, q), (1, ZI j), (6, (ZI (k.length : Int))), (7, ZI i), (8, ZI s), (9, ZI v), (27, (.bool I))] (nx ?_); refine o_ rfl (fun A => ?_) (fun A => ?_)
   ·rw [if_pos A] at d; refine c_ (Zm rfl ?_); obtain ⟨B, L, d⟩ := bind_some d; refine Zv (F_ rfl rfl L) (Za rfl (Ze [(0, q), (1, ZI j), (6, (ZI (k.length : Int))), (7, ZI B), (8, ZI s)] (y_ (w_ ?_)))); have a2 := Zj d; subst a2; refine Zk [(0, q), (1, ZI j), (6, (ZI (k.length : Int))), (7, ZI B), (8, ZI s)] ?_; intro a ha; exact ⟨K13, by omega, B, s, u, y, ha, hB⟩
   ·rw [if_neg (by rw [A]; decide)] at d; refine c_ (Zm rfl (Za rfl (Ze [(0, q), (1, ZI j), (6, (ZI (k.length : Int))), (7, ZI i), (8, ZI v)] (y_ (w_ ?_))))); have a3 := Zj d; subst a3; refine Zk [(0, q), (1, ZI j), (6, (ZI (k.length : Int))), (7, ZI i), (8, ZI v)] ?_; intro a ha; exact ⟨K13, by omega, i, v, u, y, ha, hB⟩
  ·rw [if_neg (by rw [z]; decide)] at d; refine v_ ?_; refine r_ (r_ (Q_ ?_)); refine s_ ?_; have a4 := Zj d; subst a4; refine Zk [(0, q), (1, ZI j), (6, (ZI (k.length : Int))), (7, ZI i)] ?_; intro a ha; exact ⟨i, s, u, y, ha, hB⟩
 ·rintro a x ⟨i, s, u, rfl, ha, hB⟩; dsimp only at hF; refine M_ ha ?_; refine Zq (Zm rfl (Zm rfl (Zm rfl (Zv (t_ rfl rfl) (Zm rfl ?_))))); obtain ⟨C, b, hF⟩ := bind_some hF; refine as_ 18 (fun a5 M => Fr a5 54 [(31, ZI i), (53, (.bool C))] ∧ Keeps x M) ?_ ?_; all_goals simp only [List.take_succ_cons, List.take_zero, List.drop_succ_cons, List.drop_zero]
  ·have kp : Keeps x x := Keeps.refl _; rcases Bool.eq_false_or_eq_true (decide (i < (k.length : Int))) with c | c
   ·rw [if_pos c] at b; refine k_ (h_ rfl) (by decide) ⟨_, rfl, (Zb c)⟩ (k_ (h_ rfl) (by decide) ⟨_, rfl, (Zb c)⟩ ?_); obtain ⟨a6, N, b⟩ := bind_some b; refine bI_ (by decide) ⟨_, rfl, (Zb c)⟩ ?_; refine wf_atZ V N hB rfl rfl Tryz.underlying41 Tryz.sizeOf3 ?_; intro c8 c9 d0 a7 a8; cases a8
    refine k_ (e_ rfl Tryz.isAgg3 (j_ a7)) (by decide) ⟨_, rfl, (Zb c)⟩ (k_ (h_ rfl) (by decide) ⟨_, rfl, (Zb c)⟩ (k_ (cE_ rfl rfl) (by decide) ⟨_, rfl, (Zb c)⟩ (k_ (h_ rfl) (by decide) ⟨_, rfl, (Zb c)⟩ ?_))); rcases Bool.eq_false_or_eq_true (a6 == j) with f | f
    ·rw [if_pos f] at b; refine n_ rfl rfl (by rw [f]; rfl) (by decide) ?_; refine n_ rfl rfl (by rw [f]; rfl) (by decide) ?_; refine n_ rfl rfl (by rw [f]; rfl) (by decide) ?_; refine n_ rfl rfl (by rw [f]; rfl) (by decide) ?_; refine n_ rfl rfl (by rw [f]; rfl) (by decide) ?_; refine n_ rfl rfl (by rw [f]; rfl) (by decide) ?_; refine ai_ rfl rfl (by decide) ?_; refine ai_ rfl rfl (by decide) ?_; refine n_ rfl rfl (by rw [f]; rfl) (by decide) ?_; refine k_ (x_ (Zb f) rfl) (by decide) ⟨_, rfl, (Zb c)⟩ (Zv (x_ (Zb c) rfl) ?_); have g := Zj b; refine Ze [(31, ZI i), (53, (.bool true))] ?_; subst g; refine s_ (fun a ha => ⟨ha, kp⟩)
    ·rw [if_neg (by rw [f]; decide)] at b; refine k_ (h_ rfl) (by decide) ⟨_, rfl, (Zb f)⟩ (k_ (h_ rfl) (by decide) ⟨_, rfl, (Zb f)⟩ ?_); obtain ⟨a9, O, b⟩ := bind_some b; refine bI_ (by decide) ⟨_, rfl, (Zb f)⟩ ?_; refine wf_atZ V O hB rfl rfl Tryz.underlying41 Tryz.sizeOf3 ?_; intro d1 d2 d3 b0 b1; cases b1
     refine k_ (e_ rfl Tryz.isAgg3 (j_ b0)) (by decide) ⟨_, rfl, (Zb f)⟩ ?_; obtain ⟨P, Q, b⟩ := bind_some b; refine bI_ (by decide) ⟨_, rfl, (Zb f)⟩ ?_; refine p_ (eU_ x a9 P Q) Tryz.call176 ⟨rfl, trivial⟩ ?_; rintro d4 b2 ⟨rfl, R⟩; have d5 := R.stp 999 u; refine ⟨_, rfl, ?_⟩; replace kp := Keeps.trans kp R; refine k_ (h_ rfl) (by decide) ⟨_, rfl, (Zb f)⟩ ?_; rcases Bool.eq_false_or_eq_true (P) with m | m
     ·rw [if_pos m] at b; refine k_ (h_ rfl) (by decide) ⟨_, rfl, (Zb m)⟩ ?_; obtain ⟨S, T, b⟩ := bind_some b; refine bI_ (by decide) ⟨_, rfl, (Zb m)⟩ ?_; refine p_ (eU_ b2 j S T) Tryz.call176 ⟨rfl, trivial⟩ ?_; rintro d6 d7 ⟨rfl, U⟩; have d8 := U.stp 999 u; refine ⟨_, rfl, ?_⟩; replace kp := Keeps.trans kp U; refine k_ (x_ (Zb m) rfl) (by decide) ⟨_, rfl, (Zb f)⟩ (k_ (B_ (Zb f) rfl) (by decide) ⟨_, rfl, (Zb c)⟩ (Zv (x_ (Zb c) rfl) ?_)); have g := Zj b; refine Ze [(31, ZI i), (53, (.bool S))] ?_; subst g; refine s_ (fun a ha => ⟨ha, kp⟩)
     ·rw [if_neg (by rw [m]; decide)] at b; refine n_ rfl rfl (by rw [m]; rfl) (by decide) ?_; refine n_ rfl rfl (by rw [m]; rfl) (by decide) ?_; refine k_ (B_ (Zb m) rfl) (by decide) ⟨_, rfl, (Zb f)⟩ (k_ (B_ (Zb f) rfl) (by decide) ⟨_, rfl, (Zb c)⟩ (Zv (x_ (Zb c) rfl) ?_)); have g := Zj b; refine Ze [(31, ZI i), (53, (.bool false))] ?_; subst g; refine s_ (fun a ha => ⟨ha, kp⟩)
   ·rw [if_neg (by rw [c]; decide)] at b; refine n_ rfl rfl (by rw [c]; rfl) (by decide) ?_; refine n_ rfl rfl (by rw [c]; rfl) (by decide) ?_; refine n_ rfl rfl (by rw [c]; rfl) (by decide) ?_; refine n_ rfl rfl (by rw [c]; rfl) (by decide) ?_; refine n_ rfl rfl (by rw [c]; rfl) (by decide) ?_; refine n_ rfl rfl (by rw [c]; rfl) (by decide) ?_; refine n_ rfl rfl (by rw [c]; rfl) (by decide) ?_; refine ai_ rfl rfl (by decide) ?_; refine ai_ rfl rfl (by decide) ?_; refine ai_ rfl rfl (by decide) ?_; refine ai_ rfl rfl (by decide) ?_; refine ai_ rfl rfl (by decide) ?_; refine ai_ rfl rfl (by decide) ?_; refine ai_ rfl rfl (by decide) ?_; refine ai_ rfl rfl (by decide) ?_; refine ai_ rfl rfl (by decide) ?_; refine n_ rfl rfl (by rw [c]; rfl) (by decide) ?_; refine Zv (B_ (Zb c) rfl) ?_; have g := Zj b; refine Ze [(31, ZI i), (53, (.bool false))] ?_; subst g; refine s_ (fun a ha => ⟨ha, kp⟩)
  rintro d9 M ⟨ha, b3⟩; have b4 := b3.stp 999 u; replace hB := hB.stp b4; refine aV_ ha ?_; refine Za rfl (Za rfl (Ze [(4, ZI i), (5, (.bool C))] (nx (m_ ?_)))); have b5 := Zj hF; subst b5; refine Zr Tryz.results143 [(ZI i), (.bool C)] ?_; exact ⟨rfl, hB.keeps⟩
 ·exact fun _ _ h => h.elim
def N_ (j : List (List Int)) (k : List Int) (m : ((List Int) × (List Int)) → Option Int) : (Int × Int) → Option (Lp (Int × Int) (Int × Int) (Int × Bool)) := fun (s : Int × Int) =>
  if decide (s.1 < s.2) then
    (ck (s.1 + s.2)) >>= fun b =>
    (cvU b) >>= fun c =>
    (shr c 1) >>= fun d =>
    (cvU d) >>= fun a =>
    (ix j a) >>= fun f =>
    (m (f, k)) >>= fun g =>
    if decide (g < 0) then
      (ck (a + 1)) >>= fun i =>
      some (.go (i, s.2))
    else
      some (.go (s.1, a))
  else
    some (.out (s.1, s.2))
def ae_ (fuel : Nat) (a : List (List Int)) (g : List Int) (i : ((List Int) × (List Int)) → Option Int) : Option (Int × Bool) :=
  (loopF (N_ a g i) fuel (0, (a.length : Int))) >>= fun j =>
  match j with
  | .inl (b, k) =>
    (
      if decide (b < (a.length : Int)) then
        (ix a b) >>= fun c =>
        (i (c, g)) >>= fun d =>
        some (d == 0)
      else
        some false) >>= fun f =>
    some (b, f)
  | .inr _ => none

def cG_ (w : World) (r : Int × Bool) : Ending → World → Prop := fun e w' => e = .returned (.tuple #[.int .i64 r.1, .bool r.2]) ∧ Keeps w w'
theorem cF_ (fuel : Nat) (w : World) (j : Value) (i : Yk) (S : RdL zt w j i) (g : Value) (D : Yl) (b4 : RdL zt w g D) (k : Value) (T : (Yl × Yl) → Option Int) (b5 : FnV Tryz.prog w k T) (r : Int × Bool) (hF : ae_ fuel i D T = some r) :
    Calls Tryz.prog 184 #[j, g, k] w (cG_ w r) := by
 unfold ae_ at hF; have hB : Bs (fun _ => 1) (col (fun _ => 1)) w w := Bs.start _ _; refine i_ (n := 49) (vs := [j, g, k]) Tryz.func184 rfl rfl ?_; refine Zq (Za rfl (Za rfl (Ze [(0, j), (1, g), (2, k)] (Zn (Zm rfl (Zv (C_ rfl S Tryz.underlying22) (Za rfl (Ze [(0, j), (1, g), (2, k), (8, (ZI (i.length : Int)))] (Zn (Zm rfl (Za rfl (Za rfl ?_)))))))))))); refine Ze [(0, j), (1, g), (2, k), (8, (ZI (i.length : Int))), (9, ZI 0), (10, (ZI (i.length : Int)))] (nx ?_); obtain ⟨b6, U, hF⟩ := bind_some hF; refine iu_ (fun a v => ∃ (f : Int) (q : Int) (s : Tg), b6 = .inl (f, q) ∧ Fr a 49 [(0, j), (1, g), (2, k), (8, (ZI (i.length : Int))), (9, ZI f)] ∧ Bs (fun _ => 1) s w v) (fun _ _ => False) ?_ ?_ ?_
 ·refine f_ ?_; refine z_ (fun (K : Nat) a v => ∃ (f : Int) (q : Int) (s : Tg), loopF (N_ i D T) K (f, q) = some b6 ∧ Fr a 49 [(0, j), (1, g), (2, k), (8, (ZI (i.length : Int))), (9, ZI f), (10, ZI q)] ∧ Bs (fun _ => 1) s w v) fuel (fun a ha => ⟨0, (i.length : Int), (col (fun _ => 1)), U, ha.sub (r := [(0, j), (1, g), (2, k), (8, (ZI (i.length : Int))), (9, ZI 0), (10, (ZI (i.length : Int)))]) ⟨rfl, rfl, rfl, rfl, rfl, rfl, trivial⟩, hB⟩) ?_; rintro K9 a v ⟨f, q, s, b7, ha, hB⟩; obtain ⟨K13, b8, b9, b, y⟩ := Y_ b7; dsimp only [N_] at b; refine M_ ha ?_; refine a_ (Zq (Zm rfl (Zm rfl (Zv (t_ rfl rfl) (Ze [(0, j), (1, g), (2, k), (8, (ZI (i.length : Int))), (9, ZI f), (10, ZI q), (17, (.bool (decide (f < q))))] (nx ?_)))))); refine o_ rfl (fun z => ?_) (fun z => ?_)
  ·rw [if_pos z] at b; refine g_ (nx (f_ (Zq (Zm rfl (Zm rfl ?_))))); obtain ⟨c0, E, b⟩ := bind_some b; refine Zv (F_ rfl rfl E) ?_; obtain ⟨c1, F, b⟩ := bind_some b; refine Zv (nS_ F rfl Tryz.underlying3 Tryz.underlying146) ?_; obtain ⟨c2, G, b⟩ := bind_some b; refine Zv (pa_ rfl rfl G) ?_; obtain ⟨u, H, b⟩ := bind_some b; refine Zv (nL_ H rfl Tryz.underlying146 Tryz.underlying3) (Za rfl (Ze [(0, j), (1, g), (2, k), (8, (ZI (i.length : Int))), (9, ZI f), (10, ZI q), (11, ZI u)] (Zn (Zm rfl (Zm rfl (Zm rfl ?_)))))); obtain ⟨V, I, b⟩ := bind_some b; refine Zo ?_; refine wf_atZ S I hB rfl rfl Tryz.underlying22 Tryz.sizeOf41 ?_; intro c3 c4 c5 W X; obtain ⟨J, rfl, Y⟩ := X; refine Zv (e_ rfl Tryz.isAgg41 (j_ W)) (Zm rfl ?_); obtain ⟨Z, L, b⟩ := bind_some b; refine Zo ?_; refine fN_ (x := (V, D)) (vs := [J, g]) (b5.keep hB.keeps) L ⟨[J], [g], rfl, ⟨_, rfl, (Y.keep hB.keeps)⟩, ⟨_, rfl, (b4.keep hB.keeps)⟩⟩ rfl ⟨rfl, rfl, trivial⟩ ?_; intro c6 a0; have a1 := a0.stp 999 s; replace hB := hB.stp a1; refine Zv (t_ rfl rfl) (Ze [(0, j), (1, g), (2, k), (8, (ZI (i.length : Int))), (9, ZI f), (10, ZI q), (11, ZI u), (31, (.bool (decide (Z < 0))))] (nx ?_)); refine o_ rfl (fun A => ?_) (fun A => ?_)
   ·rw [if_pos A] at b; refine c_ (Zm rfl ?_); obtain ⟨B, M, b⟩ := bind_some b; refine Zv (F_ rfl rfl M) (Za rfl (Ze [(0, j), (1, g), (2, k), (8, (ZI (i.length : Int))), (9, ZI B), (10, ZI q)] (y_ (w_ ?_)))); have a2 := Zj b; subst a2; refine Zk [(0, j), (1, g), (2, k), (8, (ZI (i.length : Int))), (9, ZI B), (10, ZI q)] ?_; intro a ha; exact ⟨K13, by omega, B, q, s, y, ha, hB⟩
   ·rw [if_neg (by rw [A]; decide)] at b; refine c_ (Zm rfl (Za rfl (Ze [(0, j), (1, g), (2, k), (8, (ZI (i.length : Int))), (9, ZI f), (10, ZI u)] (y_ (w_ ?_))))); have a3 := Zj b; subst a3; refine Zk [(0, j), (1, g), (2, k), (8, (ZI (i.length : Int))), (9, ZI f), (10, ZI u)] ?_; intro a ha; exact ⟨K13, by omega, f, u, s, y, ha, hB⟩
  ·rw [if_neg (by rw [z]; decide)] at b; refine v_ ?_; refine r_ (r_ (Q_ ?_)); refine s_ ?_; have a4 := Zj b; subst a4; refine Zk [(0, j), (1, g), (2, k), (8, (ZI (i.length : Int))), (9, ZI f)] ?_; intro a ha; exact ⟨f, q, s, y, ha, hB⟩
 ·rintro a v ⟨f, q, s, rfl, ha, hB⟩; dsimp only at hF; refine M_ ha ?_; refine Zq (Zm rfl (Zm rfl (Zm rfl (Zv (t_ rfl rfl) (Zm rfl ?_))))); obtain ⟨C, d, hF⟩ := bind_some hF; refine as_ 9 (fun a5 N => Fr a5 49 [(35, ZI f), (48, (.bool C))] ∧ Keeps v N) ?_ ?_; all_goals simp only [List.take_succ_cons, List.take_zero, List.drop_succ_cons, List.drop_zero]
  ·have kp : Keeps v v := Keeps.refl _; rcases Bool.eq_false_or_eq_true (decide (f < (i.length : Int))) with c | c
   ·rw [if_pos c] at d; refine k_ (h_ rfl) (by decide) ⟨_, rfl, (Zb c)⟩ (k_ (h_ rfl) (by decide) ⟨_, rfl, (Zb c)⟩ (k_ (h_ rfl) (by decide) ⟨_, rfl, (Zb c)⟩ ?_)); obtain ⟨a6, O, d⟩ := bind_some d; refine bI_ (by decide) ⟨_, rfl, (Zb c)⟩ ?_; refine wf_atZ S O hB rfl rfl Tryz.underlying22 Tryz.sizeOf41 ?_; intro c7 c8 c9 a7 a8; obtain ⟨P, rfl, a9⟩ := a8; refine k_ (e_ rfl Tryz.isAgg41 (j_ a7)) (by decide) ⟨_, rfl, (Zb c)⟩ (k_ (h_ rfl) (by decide) ⟨_, rfl, (Zb c)⟩ ?_); obtain ⟨b0, Q, d⟩ := bind_some d; refine bI_ (by decide) ⟨_, rfl, (Zb c)⟩ ?_; refine fN_ (x := (a6, D)) (vs := [P, g]) (b5.keep hB.keeps) Q ⟨[P], [g], rfl, ⟨_, rfl, (a9.keep hB.keeps)⟩, ⟨_, rfl, (b4.keep hB.keeps)⟩⟩ rfl ⟨rfl, rfl, trivial⟩ ?_; intro d0 R; have d1 := R.stp 999 s; replace kp := Keeps.trans kp R; refine k_ (cE_ rfl rfl) (by decide) ⟨_, rfl, (Zb c)⟩ (Zv (x_ (Zb c) rfl) ?_); have m := Zj d; refine Ze [(35, ZI f), (48, (.bool (b0 == 0)))] ?_; subst m; refine s_ (fun a ha => ⟨ha, kp⟩)
   ·rw [if_neg (by rw [c]; decide)] at d; refine n_ rfl rfl (by rw [c]; rfl) (by decide) ?_; refine n_ rfl rfl (by rw [c]; rfl) (by decide) ?_; refine n_ rfl rfl (by rw [c]; rfl) (by decide) ?_; refine n_ rfl rfl (by rw [c]; rfl) (by decide) ?_; refine n_ rfl rfl (by rw [c]; rfl) (by decide) ?_; refine n_ rfl rfl (by rw [c]; rfl) (by decide) ?_; refine n_ rfl rfl (by rw [c]; rfl) (by decide) ?_; refine n_ rfl rfl (by rw [c]; rfl) (by decide) ?_; refine Zv (B_ (Zb c) rfl) ?_; have m := Zj d; refine Ze [(35, ZI f), (48, (.bool false))] ?_; subst m; refine s_ (fun a ha => ⟨ha, kp⟩)
  rintro d2 N ⟨ha, b1⟩; have b2 := b1.stp 999 s; replace hB := hB.stp b2; refine aV_ ha ?_; refine Za rfl (Za rfl (Ze [(6, ZI f), (7, (.bool C))] (nx (m_ ?_)))); have b3 := Zj hF; subst b3; refine Zr Tryz.results184 [(ZI f), (.bool C)] ?_; exact ⟨rfl, hB.keeps⟩
 ·exact fun _ _ h => h.elim
def aW_ (fuel : Nat) (d : List (List Int)) (f : List Int) : Option Bool :=
  (srtO f) >>= fun b =>
  (ae_ fuel d b (fun (a : (List Int) × (List Int)) => K_ a.1 a.2)) >>= fun c =>
  some c.2

def gY_ (w : World) (r : Bool) : Ending → World → Prop := fun e w' => e = .returned (.bool r) ∧ Keeps w w'
theorem dl_ (fuel : Nat) (w : World) (j : Value) (m : Yk) (H : RdL zt w j m) (d : Value) (k : Yl) (F : RdL zt w d k) (r : Bool) (hF : aW_ fuel m k = some r) :
    Calls Tryz.prog 162 #[j, d] w (gY_ w r) := by
 unfold aW_ at hF; have hB : Bs (fun _ => 1) (col (fun _ => 1)) w w := Bs.start _ _; refine i_ (n := 16) (vs := [j, d]) Tryz.func162 rfl rfl ?_; refine Zq (Za rfl (Ze [(0, j), (1, d)] (Zn (Zm rfl (Zm rfl (Zo ?_)))))); refine p_ (oT_ w (col (fun _ => 1)) d k (F.keep hB.keeps)) Tryz.call186 ⟨rfl, trivial⟩ ?_; rintro X I ⟨J, K, rfl, L, M, N⟩; have O := M.stp' 999 N; refine ⟨_, rfl, ?_⟩; replace hB := hB.stp O; obtain ⟨f, g, hF⟩ := bind_some hF; refine Zo ?_; refine p_ (qh_ I K 11 J d _ L k (F.keep hB.keeps) f g) Tryz.call185 ⟨rfl, trivial⟩ ?_; rintro P G ⟨Q, q, rfl, c, s, u⟩; have v := s.stp' 11 u; replace c := c.mono hB.keeps.size; refine ⟨_, rfl, ?_⟩; replace hB := hB.stp v; obtain ⟨b, i, hF⟩ := bind_some hF; refine Zo ?_; refine p_ (cF_ fuel G _ m (H.keep hB.keeps) _ f c.z _ (fun (a : Yl × Yl) => K_ a.1 a.2) (show FnV Tryz.prog G (.func (.func 95) #[] #[]) (fun (a : Yl × Yl) => K_ a.1 a.2) from ⟨_, _, rfl, Tryz.call95, fun ww vs xx rr kk hok hG => by (obtain ⟨R, S, rfl, x, y⟩ := hok; obtain ⟨T, rfl, A⟩ := x; obtain ⟨U, rfl, B⟩ := y; exact cX_slices_Compare_int_int ww _ xx.1 A _ xx.2 B rr hG)⟩) b i) Tryz.call184 ⟨rfl, rfl, rfl, trivial⟩ ?_; rintro V W ⟨rfl, C⟩; have D := C.stp 999 q; refine ⟨_, rfl, ?_⟩; replace hB := hB.stp D; refine Zm rfl (Zv (u_ rfl rfl) (Zv (u_ rfl rfl) (Za rfl (Za rfl (Ze [(6, (.bool b.2))] (Zn (Zm rfl (Za rfl (Ze [(4, (.bool b.2))] (nx (m_ ?_))))))))))); have E := Zj hF; subst E; refine Zr Tryz.results162 [(.bool b.2)] ?_; exact ⟨rfl, hB.keeps⟩
end

section
theorem lj_ {σ τ ρ : Type} {f : σ → Option (Lp σ τ ρ)} {s s' : σ} (h : f s = some (.go s')) (fuel : Nat) : loopF f (fuel + 1) s = loopF f fuel s' := by simp only [loopF, h]
theorem hU_ {σ τ ρ : Type} {f : σ → Option (Lp σ τ ρ)} {s : σ} {t : τ} (h : f s = some (.out t)) (fuel : Nat) : loopF f (fuel + 1) s = some (.inl t) := by simp only [loopF, h]
theorem cI_ {σ ρ : Type} {f : σ → Option (Lp σ σ ρ)} (R : Nat → σ) (n : Nat) (hgo : ∀ j, j < n → f (R j) = some (.go (R (j + 1)))) (hout : f (R n) = some (.out (R n))) : ∀ (fuel j : Nat), j ≤ n → n < fuel + j → loopF f fuel (R j) = some (.inl (R n)) := by
 intro fuel
 induction fuel with
 | zero => intro j h1 h2; omega
 | succ fuel ih =>
  intro j h1 h2
  by_cases e : j = n
  ·subst e; exact hU_ hout fuel
  ·rw [lj_ (hgo j (by omega)) fuel]; exact ih (j + 1) (by omega) (by omega)
theorem pW_ {ρ : Type} {f : Int × Int → Option (Lp (Int × Int) (Int × Int) ρ)} (P : Nat → Bool) (n c : Nat) (hc : c ≤ n)
  (hf : ∀ lo hi : Nat, lo < hi → hi ≤ n → f ((lo : Int), (hi : Int)) = some (.go (if P ((lo + hi) / 2) then ((((lo + hi) / 2 + 1 : Nat) : Int), (hi : Int)) else ((lo : Int), (((lo + hi) / 2 : Nat) : Int)))))
  (ho : ∀ lo : Nat, lo ≤ n → f ((lo : Int), (lo : Int)) = some (.out ((lo : Int), (lo : Int)))) (h1 : ∀ j, j < c → P j = true) (h2 : ∀ j, c ≤ j → j < n → P j = false) :
  ∀ (fuel lo hi : Nat), lo ≤ c → c ≤ hi → hi ≤ n → hi < fuel + lo → loopF f fuel ((lo : Int), (hi : Int)) = some (.inl ((c : Int), (c : Int))) := by
 intro fuel
 induction fuel with
 | zero => intro lo hi a b d e; omega
 | succ fuel ih =>
  intro lo hi a b d e
  by_cases hlt : lo < hi
  ·rw [lj_ (hf lo hi hlt d) fuel]
   by_cases hm : (lo + hi) / 2 < c
   ·rw [if_pos (h1 _ hm)]
    exact ih _ _ (by omega) b d (by omega)
   ·rw [if_neg (by rw [h2 _ (by omega) (by omega)]; simp)]
    exact ih _ _ a (by omega) (by omega) (by omega)
  ·have : lo = c := by omega
   have : hi = c := by omega
   subst_vars
   exact hU_ (ho _ hc) fuel
theorem rj_ {lo hi : Nat} (h : lo + hi ≤ 4000000000) : (ck ((lo : Int) + hi) >>= fun x => cvU x >>= fun y => shr y 1 >>= fun z => cvU z) = some ((((lo + hi) / 2 : Nat)) : Int) := by
 rw [G_ (by omega) (by omega), sb]
 unfold cvU shr
 rw [if_pos (by omega), sb, if_neg (by omega), sb]
 have : ((lo : Int) + (hi : Int)).fdiv (2 ^ min (Int.toNat 1) 64) = (((lo + hi) / 2 : Nat) : Int) := by
  rw [show min (Int.toNat 1) 64 = 1 from rfl, Int.fdiv_eq_ediv_of_nonneg _ (by decide)]
  omega
 rw [this, if_pos (by omega)]
theorem gt_ {α : Type} (p : α → Bool) : ∀ (l : List α), l.Pairwise (fun a b => p b = true → p a = true) → (∀ (j : Nat) x, l[j]? = some x → j < l.countP p → p x = true) ∧ ∀ (j : Nat) x, l[j]? = some x → l.countP p ≤ j → p x = false
 | [], _ => ⟨fun j x h => by simp at h, fun j x h => by simp at h⟩
 | a :: l, h => by
  rw [List.pairwise_cons] at h
  obtain ⟨h1, h2⟩ := gt_ p l h.2
  cases hp : p a with
  | true =>
   rw [List.countP_cons_of_pos hp]
   refine ⟨fun j x hj hlt => ?_, fun j x hj hle => ?_⟩
   ·cases j with
    | zero => simp at hj; subst hj; exact hp
    | succ j => exact h1 j x (by simpa using hj) (by omega)
   ·cases j with
    | zero => omega
    | succ j => exact h2 j x (by simpa using hj) (by omega)
  | false =>
   have hall : ∀ x, x ∈ l → p x = false := fun x hx => by
    cases hx2 : p x with
    | false => rfl
    | true => rw [h.1 x hx hx2] at hp; cases hp
   have hz : l.countP p = 0 := List.countP_eq_zero.2 fun x hx => by rw [hall x hx]; simp
   rw [List.countP_cons_of_neg (by rw [hp]; simp), hz]
   refine ⟨fun j x hj hlt => by omega, fun j x hj hle => ?_⟩
   cases j with
   | zero => simp at hj; subst hj; exact hp
   | succ j => exact hall x (List.mem_of_getElem? (by simpa using hj))
theorem rJ_ (a : Int) : bk_ a = some false := by unfold bk_; simp
theorem jw_ (fuel : Nat) (xs : List Int) (t : Int) (hs : xs.Pairwise (· ≤ ·)) (hl : xs.length ≤ 1000000000) (hf : xs.length < fuel) :
  aq_ fuel xs t = some (((xs.countP fun x => decide (x < t) : Nat) : Int), decide (t ∈ xs)) := by
 obtain ⟨c1, c2⟩ := gt_ (fun x => decide (x < t)) xs (hs.imp fun h hb => by simp only [decide_eq_true_eq] at hb ⊢; omega)
 have hc : xs.countP (fun x => decide (x < t)) ≤ xs.length := List.countP_le_length
 unfold aq_
 have := pW_ (f := X_ xs t) (fun j => decide (xs.getD j 0 < t)) xs.length (xs.countP fun x => decide (x < t)) hc (fun lo hi h1 h2 => by
   have hm : (lo + hi) / 2 < xs.length := by omega
   unfold X_
   simp only
   rw [if_pos (by simpa using h1)]
   have e := rj_ (lo := lo) (hi := hi) (by omega)
   rw [G_ (by omega) (by omega), sb] at e ⊢
   unfold cvU at e ⊢
   rw [if_pos (by omega), sb] at e ⊢
   cases hsh : shr ((lo : Int) + hi) 1 with
   | none => rw [hsh] at e; cases e
   | some z =>
    rw [hsh, sb] at e
    rw [sb]
    rw [e, sb, fW_ _ _ hm, sb, rh_, sb]
    rw [show xs.getD ((lo + hi) / 2) 0 = xs[(lo + hi) / 2] by simp [List.getElem?_eq_getElem hm]]
    by_cases hlt : xs[(lo + hi) / 2] < t
    ·simp only [decide_eq_true hlt, if_true]
     rw [G_ (by omega) (by omega), sb]; rfl
    ·simp only [decide_eq_false hlt]; rfl)
  (fun lo h => by
   unfold X_
   simp only
   rw [if_neg (by simp)]) (fun j hj => by
   have hjl : j < xs.length := by omega
   have := c1 j _ (List.getElem?_eq_getElem hjl) hj
   simpa [List.getElem?_eq_getElem hjl] using this) (fun j hj hjl => by
   have := c2 j _ (List.getElem?_eq_getElem hjl) hj
   simpa [List.getElem?_eq_getElem hjl] using this) fuel 0 xs.length (Nat.zero_le _) hc (Nat.le_refl _) (by omega)
 rw [show ((0 : Nat) : Int) = 0 from rfl] at this
 rw [this, sb]
 simp only
 generalize hcc : xs.countP (fun x => decide (x < t)) = c at c1 c2 hc
 by_cases hlt : c < xs.length
 ·rw [if_pos (by simpa using hlt), fW_ _ _ hlt, sb]
  have hle : t ≤ xs[c] := by
   have := c2 c _ (List.getElem?_eq_getElem hlt) (Nat.le_refl _)
   simpa using this
  by_cases e : xs[c] = t
  ·rw [if_pos (by simpa using e), sb]
   have : t ∈ xs := by rw [← e]; exact List.getElem_mem hlt
   simp [this]
  ·rw [if_neg (by simpa using e), sb, rJ_, sb]
   have : t ∉ xs := by
    intro hm
    obtain ⟨j, hj, hj2⟩ := List.mem_iff_getElem.1 hm
    have h3 := c1 j _ (List.getElem?_eq_getElem hj)
    by_cases hjc : j < c
    ·have := h3 hjc; rw [hj2] at this; simp at this
    ·rw [List.pairwise_iff_getElem] at hs
     by_cases hjc2 : j = c
     ·subst hjc2; exact e hj2
     ·have := hs c j hlt hj (by omega)
      omega
   simp [this, sb]
 ·rw [if_neg (by simpa using hlt), sb]
  have : t ∉ xs := by
   intro hm
   obtain ⟨j, hj, hj2⟩ := List.mem_iff_getElem.1 hm
   have := c1 j _ (List.getElem?_eq_getElem hj) (by omega)
   rw [hj2] at this; simp at this
  simp [this]
theorem jG_ (xs : List Int) : (srt xs).Pairwise (· ≤ ·) := by
 have := List.pairwise_mergeSort (le := fun x y : Int => decide (x ≤ y)) (fun a b c h1 h2 => by simp only [decide_eq_true_eq] at *; omega) (fun a b => by simp only [Bool.or_eq_true, decide_eq_true_eq]; omega) xs
 exact this.imp fun h => by simpa using h
theorem nI_ (xs : List Int) : (srt xs).Perm xs := List.mergeSort_perm xs _
theorem eZ_ (xs : List Int) : srt xs = ssort xs :=
 List.Perm.eq_of_pairwise (le := fun a b => a ≤ b) (fun a b _ _ h1 h2 => Int.le_antisymm h1 h2) (jG_ xs) (lX_ xs) ((nI_ xs).trans (oA_ xs).symm)
end

section
theorem eL_ {α β ρ : Type} {body : Int → α → List β → Option (Lp (List β) (List β) ρ)} (g : α → List β) (N : Nat) : ∀ (xs : List α) (k : Int) (acc : List β),
  acc.length + (xs.flatMap g).length ≤ N → (∀ x ∈ xs, ∀ (j : Int) (ac : List β), ac.length + (g x).length ≤ N → body j x ac = some (.go (ac ++ g x))) →
  forI body xs k acc = some (.inl (acc ++ xs.flatMap g))
 | [], k, acc, _, _ => by simp [forI]
 | x :: xs, k, acc, h, hb => by
  rw [List.flatMap_cons, List.length_append] at h
  have h0 := hb x (by simp) k acc (by omega)
  simp only [forI, h0]
  rw [eL_ g N xs (k + 1) (acc ++ g x) (by rw [List.length_append]; omega) (fun y hy => hb y (by simp [hy])), List.flatMap_cons, List.append_assoc]
theorem dT_ {α ρ : Type} {body : Int → α → Unit → Option (Lp Unit Unit ρ)} (Q : α → Prop) (R : ρ → Prop) : ∀ (xs : List α) (k : Int),
  (∀ x ∈ xs, ∀ j : Int, ∃ z, body j x () = some z ∧ ((z = .go () ∧ ¬ Q x) ∨ ∃ r, z = .ret r ∧ R r ∧ Q x)) →
  ∃ z, forI body xs k () = some z ∧ ((z = .inl () ∧ ∀ x ∈ xs, ¬ Q x) ∨ ∃ r, z = .inr r ∧ R r ∧ ∃ x ∈ xs, Q x)
 | [], k, _ => ⟨_, rfl, .inl ⟨rfl, by simp⟩⟩
 | x :: xs, k, h => by
  obtain ⟨z, h1, h2⟩ := h x (by simp) k
  rcases h2 with ⟨rfl, hn⟩ | ⟨r, rfl, hr, hq⟩
  ·obtain ⟨z, g1, g2⟩ := dT_ Q R xs (k + 1) (fun y hy => h y (by simp [hy]))
   refine ⟨z, by simp only [forI, h1]; exact g1, ?_⟩
   rcases g2 with ⟨rfl, g2⟩ | ⟨r, rfl, hr, y, hy, hq⟩
   ·refine .inl ⟨rfl, fun y hy => ?_⟩
    rcases List.mem_cons.1 hy with rfl | hy
    ·exact hn
    ·exact g2 y hy
   ·exact .inr ⟨r, rfl, hr, y, by simp [hy], hq⟩
  ·exact ⟨.inr r, by simp only [forI, h1], .inr ⟨r, rfl, hr, x, by simp, hq⟩⟩
theorem ha_ {α : Type} (p : α → Bool) : ∀ xs : List α, (xs.flatMap fun x => if p x then [x] else []) = xs.filter p
 | [] => rfl
 | x :: xs => by
  rw [List.flatMap_cons, ha_ p xs, List.filter_cons]
  split <;> simp
def extD (n : Nat) (x : List Int) : List (List Int) := (List.range' (x.getLastD 0).toNat (n - (x.getLastD 0).toNat)).map fun a : Nat => x ++ [(a : Int)]
def msD (n : Nat) : Nat → List (List Int)
  | 0 => [[]]
  | d + 1 => (msD n d).flatMap (extD n)
theorem qu_ (n : Nat) (x : List Int) : (extD n x).length ≤ n := by
 unfold extD
 rw [List.length_map, List.length_range']
 omega
theorem gK_ {α β : Type} {g : α → List β} {m : Nat} : ∀ xs : List α, (∀ x ∈ xs, (g x).length ≤ m) → (xs.flatMap g).length ≤ xs.length * m
 | [], _ => by simp
 | x :: xs, h => by
  have h1 := h x (by simp)
  have h2 := gK_ xs (fun y hy => h y (by simp [hy]))
  rw [List.flatMap_cons, List.length_append, List.length_cons, Nat.succ_mul]
  omega
theorem fQ_ (n : Nat) : ∀ d, (msD n d).length ≤ n ^ d
 | 0 => by simp [msD]
 | d + 1 => by
  have h1 := fQ_ n d
  have h2 := gK_ (g := extD n) (m := n) (msD n d) fun x _ => qu_ n x
  have h3 : (msD n d).length * n ≤ n ^ d * n := Nat.mul_le_mul_right n h1
  rw [Nat.pow_succ]
  unfold msD
  omega
theorem pZ_ {x : List Int} (hs : x.Pairwise (· ≤ ·)) : ∀ y ∈ x, y ≤ x.getLastD 0 := by
 intro y hy
 rcases List.eq_nil_or_concat x with rfl | ⟨u, a, rfl⟩
 ·simp at hy
 ·rw [List.concat_eq_append] at hs hy ⊢
  rw [List.getLastD_concat]
  rcases List.mem_append.1 hy with hy | hy
  ·exact (List.pairwise_append.1 hs).2.2 y hy a (by simp)
  ·rw [List.mem_singleton.1 hy]; exact Int.le_refl _
def ndP (n d : Nat) (x : List Int) : Prop := x.length = d ∧ x.Pairwise (· ≤ ·) ∧ ∀ y ∈ x, 0 ≤ y ∧ y < (n : Int)
theorem oW_ {n d : Nat} {x : List Int} (h : ndP n d x) : 0 ≤ x.getLastD 0 := by
 rcases List.eq_nil_or_concat x with rfl | ⟨u, a, rfl⟩
 ·simp
 ·have := h.2.2 a (by simp)
  rw [List.concat_eq_append, List.getLastD_concat]
  exact this.1
theorem ip_ {n : Nat} {x z : List Int} : z ∈ extD n x ↔ ∃ a : Nat, z = x ++ [(a : Int)] ∧ (x.getLastD 0).toNat ≤ a ∧ a < n := by
 unfold extD
 rw [List.mem_map]
 constructor
 ·rintro ⟨a, h1, rfl⟩
  rw [List.mem_range'_1] at h1
  exact ⟨a, rfl, h1.1, by omega⟩
 ·rintro ⟨a, rfl, h1, h2⟩
  exact ⟨a, by rw [List.mem_range'_1]; omega, rfl⟩
theorem dW_ (n : Nat) : ∀ (d : Nat) (z : List Int), z ∈ msD n d ↔ ndP n d z
 | 0, z => by
  unfold msD ndP
  rw [List.mem_singleton, List.length_eq_zero_iff]
  constructor
  ·rintro rfl; simp
  ·exact fun h => h.1
 | d + 1, z => by
  unfold msD
  rw [List.mem_flatMap]
  constructor
  ·rintro ⟨x, hx, hz⟩
   have h := (dW_ n d x).1 hx
   obtain ⟨a, rfl, h1, h2⟩ := ip_.1 hz
   refine ⟨by rw [List.length_append, h.1]; rfl, ?_, fun y hy => ?_⟩
   ·rw [List.pairwise_append]
    refine ⟨h.2.1, by simp, fun y hy b hb => ?_⟩
    rw [List.mem_singleton.1 hb]
    have := pZ_ h.2.1 y hy
    omega
   ·rcases List.mem_append.1 hy with hy | hy
    ·exact h.2.2 y hy
    ·rw [List.mem_singleton.1 hy]; omega
  ·rintro ⟨h1, h2, h3⟩
   rcases List.eq_nil_or_concat z with rfl | ⟨u, a, rfl⟩
   ·simp at h1
   ·rw [List.concat_eq_append] at h1 h2 h3 ⊢
    rw [List.pairwise_append] at h2
    have ha := h3 a (by simp)
    have hu : ndP n d u := ⟨by rw [List.length_append] at h1; simp at h1; exact h1, h2.1, fun y hy => h3 y (by simp [hy])⟩
    refine ⟨u, (dW_ n d u).2 hu, ip_.2 ⟨a.toNat, by rw [Int.toNat_of_nonneg ha.1], ?_, by omega⟩⟩
    rcases List.eq_nil_or_concat u with rfl | ⟨t, b, rfl⟩
    ·simp
    ·rw [List.concat_eq_append, List.getLastD_concat]
     have := h2.2.2 b (by simp) a (by simp)
     omega
theorem kU_ : ∀ (x : List Int) (a b : Int), a < b → ordL (x ++ [a]) (x ++ [b]) < 0
 | [], a, b, h => by simp [ordL, h]
 | y :: x, a, b, h => by
  have := kU_ x a b h
  simp only [List.cons_append, ordL]
  rw [if_neg (by omega), if_neg (by omega)]
  exact this
theorem nA_ : ∀ {x y : List Int} (s t : List Int), x.length = y.length → ordL x y < 0 → ordL (x ++ s) (y ++ t) < 0
 | [], [], s, t, _, h => by simp [ordL] at h
 | [], _ :: _, s, t, h, _ => by simp at h
 | _ :: _, [], s, t, h, _ => by simp at h
 | a :: x, b :: y, s, t, hl, h => by
  have ih := nA_ (x := x) (y := y) s t (by simpa using hl)
  simp only [List.cons_append, ordL] at h ⊢
  by_cases e : a < b
  ·rw [if_pos e]; omega
  ·rw [if_neg e] at h ⊢
   by_cases e2 : a > b
   ·rw [if_pos e2] at h; omega
   ·rw [if_neg e2] at h ⊢
    exact ih h
theorem pC_ (n : Nat) : ∀ d, sorS (msD n d)
 | 0 => by simp [msD, sorS]
 | d + 1 => by
  unfold msD sorS
  rw [List.pairwise_flatMap]
  constructor
  ·intro x _
   unfold extD
   rw [List.pairwise_map]
   exact List.Pairwise.imp (fun {a b : Nat} (h : a < b) => kU_ x (a : Int) (b : Int) (by omega)) (List.pairwise_lt_range' (step := 1) (by decide))
  ·have ih := pC_ n d
   unfold sorS at ih
   refine (List.Pairwise.and_mem.1 ih).imp fun {x y} h u hu v hv => ?_
   obtain ⟨a, rfl, -, -⟩ := ip_.1 hu
   obtain ⟨b, rfl, -, -⟩ := ip_.1 hv
   exact nA_ _ _ (by rw [((dW_ n d x).1 h.1).1, ((dW_ n d y).1 h.2.1).1]) h.2.2
theorem kp_ {ρ : Type} {f : List (List Int) × Int → Option (Lp (List (List Int) × Int) (List (List Int) × Int) ρ)} {n : Nat} {x : List Int}
  (hgo : ∀ (acc : List (List Int)) (k : Nat), k < n → acc.length < 1000000000 → f (acc, (k : Int)) = some (.go (acc ++ [x ++ [(k : Int)]], ((k + 1 : Nat) : Int))))
  (hout : ∀ acc : List (List Int), f (acc, (n : Int)) = some (.out (acc, (n : Int)))) : ∀ (d k fuel : Nat) (acc : List (List Int)), k + d = n → d < fuel → acc.length + d ≤ 1000000000 →
  loopF f fuel (acc, (k : Int)) = some (.inl (acc ++ (List.range' k d).map (fun a : Nat => x ++ [(a : Int)]), (n : Int)))
 | 0, k, fuel, acc, hk, hf, _ => by
  obtain ⟨fuel, rfl⟩ : ∃ m, fuel = m + 1 := ⟨fuel - 1, by omega⟩
  have : k = n := by omega
  subst this
  rw [hU_ (hout acc)]
  simp
 | d + 1, k, fuel, acc, hk, hf, hl => by
  obtain ⟨fuel, rfl⟩ : ∃ m, fuel = m + 1 := ⟨fuel - 1, by omega⟩
  rw [lj_ (hgo acc k (by omega) (by omega)), kp_ hgo hout d (k + 1) fuel _ (by omega) (by omega) (by simp; omega), List.range'_succ]
  simp
theorem mi_ {x : List Int} {d : Nat} (h : x.length = d + 1) : ix x (d : Int) = some (x.getLastD 0) := by
 rcases List.eq_nil_or_concat x with rfl | ⟨u, a, rfl⟩
 ·simp at h
 ·rw [List.concat_eq_append] at h ⊢
  rw [List.getLastD_concat]
  have : u.length = d := by simpa using h
  subst this
  exact jN_ u a []
end

section
theorem dV_ {a b c : Int} : inB b c a = true ↔ b ≤ a ∧ a ≤ c := by simp [inB]
theorem hM_ (n : Int) (h₀ : 0 ≤ n) (h₁ : n < 2 ^ 63) : IntKind.i64.wrap n = n := by rw [IntKind.wrap_i64]; omega
theorem nm_ {a : Nat} (ha : a < 2 ^ 62) : (BitVec.ofInt 64 (a : Int)).toNat = a := by
 rw [BitVec.ofInt_natCast, BitVec.toNat_ofNat, Nat.mod_eq_of_lt (by omega)]
theorem pL_ {a b : Nat} (ha : a < 2 ^ 62) (hb : b < 2 ^ 62) : bor a b = ((a ||| b : Nat) : Int) := by
 unfold bor
 rw [BitVec.toNat_or, nm_ ha, nm_ hb]
 have := Nat.or_lt_two_pow ha hb
 exact hM_ _ (by omega) (by omega)
theorem kq_ {a b : Nat} (ha : a < 2 ^ 62) (hb : b < 2 ^ 62) : band a b = ((a &&& b : Nat) : Int) := by
 unfold band
 rw [BitVec.toNat_and, nm_ ha, nm_ hb]
 have : a &&& b < 2 ^ 62 := Nat.and_lt_two_pow a hb
 exact hM_ _ (by omega) (by omega)
theorem kk_ {S a : Nat} (h : a ≤ 62) : shr S a = some ((S / 2 ^ a : Nat) : Int) := by
 unfold shr
 rw [if_neg (by omega), Int.toNat_natCast, Nat.min_eq_left (by omega), Int.fdiv_eq_ediv_of_nonneg _ (Int.le_of_lt (Int.pow_pos (by decide)))]
 simp
theorem fi_ {a : Nat} (h : a ≤ 61) : shl 1 a = some ((2 ^ a : Nat) : Int) := by
 unfold shl
 rw [if_neg (by omega), Int.toNat_natCast, Nat.min_eq_left (by omega), Int.one_mul]
 have h1 : (2 : Int) ^ a = ((2 ^ a : Nat) : Int) := by simp
 have h2 : 2 ^ a ≤ 2 ^ 61 := Nat.pow_le_pow_right (by decide) h
 rw [h1]
 generalize 2 ^ a = P at h2 ⊢
 rw [hM_ _ (by omega) (by omega)]
theorem nx_ {S a : Nat} (hS : S < 2 ^ 62) : (band ((S / 2 ^ a : Nat) : Int) 1 == 1) = S.testBit a := by
 have h1 : S / 2 ^ a < 2 ^ 62 := Nat.lt_of_le_of_lt (Nat.div_le_self _ _) hS
 rw [show (1 : Int) = ((1 : Nat) : Int) from rfl, kq_ h1 (by decide), Nat.and_one_is_mod, Nat.testBit_eq_decide_div_mod_eq]
 rw [Bool.eq_iff_iff, beq_iff_eq, decide_eq_true_eq]
 omega
def lbs (n S : Nat) : List Int := ((List.range n).filter fun i => S.testBit i).map fun i : Nat => (i : Int)
theorem mu_ {n S : Nat} {y : Int} : y ∈ lbs n S ↔ ∃ i : Nat, y = i ∧ i < n ∧ S.testBit i = true := by
 simp only [lbs, List.mem_map, List.mem_filter, List.mem_range]
 constructor
 ·rintro ⟨i, ⟨h1, h2⟩, rfl⟩; exact ⟨i, rfl, h1, h2⟩
 ·rintro ⟨i, rfl, h1, h2⟩; exact ⟨i, ⟨h1, h2⟩, rfl⟩
theorem kA_ (n S : Nat) : lbs (n + 1) S = if S.testBit n then lbs n S ++ [(n : Int)] else lbs n S := by
 simp only [lbs, List.range_succ, List.filter_append, List.map_append]
 cases h : S.testBit n <;> simp [List.filter, h]
theorem jS_ (n S : Nat) : (lbs n S).length ≤ n := by
 simp only [lbs, List.length_map]
 exact Nat.le_trans (List.length_filter_le _ _) (by simp)
theorem pK_ {a S : Nat} (h : S < 2 ^ a) : ∀ d, lbs (a + d) S = lbs a S
 | 0 => rfl
 | d + 1 => by
  rw [show a + (d + 1) = (a + d) + 1 by omega, kA_, pK_ h d]
  rw [Nat.testBit_lt_two_pow (Nat.lt_of_lt_of_le h (Nat.pow_le_pow_right (by decide) (by omega)))]
  simp
theorem nV_ {xs ys : List Int} (hx : xs.Pairwise (· < ·)) (hy : ys.Pairwise (· < ·)) (h : ∀ a, a ∈ xs ↔ a ∈ ys) : xs = ys := by
 have nx : xs.Nodup := hx.imp fun h => by omega
 have ny : ys.Nodup := hy.imp fun h => by omega
 exact List.Perm.eq_of_pairwise (le := fun a b => a ≤ b) (fun a b _ _ h1 h2 => Int.le_antisymm h1 h2) (hx.imp fun h => by omega) (hy.imp fun h => by omega) ((List.perm_ext_iff_of_nodup nx ny).2 h)
theorem rH_ (xs : List Int) (a : Int) : ho_ xs a = some (decide (a ∈ xs)) := by
 unfold ho_
 rw [cU_ (fun _ x => if x == a then some true else none) xs (fun j x hj _ => by
  unfold fB_
  cases h : (x == a) <;> simp [lpP]), sb]
 cases hc : firstP (fun _ x => if x == a then some true else none) xs 0 with
 | none =>
  have : a ∉ xs := fun hm => by
   obtain ⟨j, hj⟩ := List.mem_iff_getElem?.1 hm
   have := cc_.1 hc j a hj
   simp at this
  simp [outP, this]
 | some r =>
  obtain ⟨j, x, h1, h2⟩ := cw_ hc
  by_cases e : (x == a) = true
  ·rw [if_pos e] at h2
   cases h2
   have : a ∈ xs := by rw [← beq_iff_eq.1 e]; exact List.mem_of_getElem? h1
   simp [outP, this]
  ·rw [if_neg e] at h2; cases h2
theorem lZ_ (S k : Nat) (hk : k ≤ 61) (hz : S / 2 ^ k = 0) (xs : List Int) : bC_ (S : Int) (xs, (k : Int)) = some (.out (xs, (k : Int))) := by
 unfold bC_
 simp only
 rw [kk_ (by omega), sb, hz, if_neg (by simp)]
theorem mG_ (S k : Nat) (hS : S < 2 ^ 62) (hk : k < 61) (hz : S / 2 ^ k ≠ 0) (xs : List Int) (hx : xs.length ≤ 61) :
  bC_ (S : Int) (xs, (k : Int)) = some (.go (if S.testBit k then xs ++ [(k : Int)] else xs, ((k + 1 : Nat) : Int))) := by
 unfold bC_
 simp only
 rw [kk_ (by omega), sb, sb, nx_ hS]
 generalize S / 2 ^ k = Q at hz
 rw [if_pos (by simp only [bne_iff_ne, ne_eq]; omega)]
 cases ht : S.testBit k
 ·rw [if_neg (by simp), G_ (by omega) (by omega), sb]; simp
 ·rw [if_pos rfl]
  unfold push
  rw [if_pos (by omega), sb, G_ (by omega) (by omega), sb]; simp
theorem kx_ (n S : Nat) (hS : S < 2 ^ n) (hn : n ≤ 61) : ∀ (fuel k : Nat), k ≤ n → n - k < fuel →
  ∃ j, loopF (bC_ (S : Int)) fuel (lbs k S, (k : Int)) = some (.inl (lbs n S, j)) := by
 have hS2 : S < 2 ^ 62 := Nat.lt_of_lt_of_le hS (Nat.pow_le_pow_right (by decide) (by omega))
 intro fuel
 induction fuel with
 | zero => intro k _ hf; omega
 | succ fuel ih =>
  intro k hk hf
  have hl := jS_ k S
  by_cases hz : S / 2 ^ k = 0
  ·have hlt : S < 2 ^ k := by
    rcases Nat.div_eq_zero_iff.1 hz with h | h
    ·have := Nat.two_pow_pos k; omega
    ·exact h
   have e : lbs n S = lbs k S := by
    have := pK_ hlt (n - k)
    rwa [show k + (n - k) = n by omega] at this
   exact ⟨k, by simp only [loopF, lZ_ S k (by omega) hz, e]⟩
  ·have hkn : k < n := by
    rcases Nat.lt_or_ge k n with h | h
    ·exact h
    ·exact absurd (Nat.div_eq_of_lt (Nat.lt_of_lt_of_le hS (Nat.pow_le_pow_right (by decide) h))) hz
   obtain ⟨j, hj⟩ := ih (k + 1) (by omega) (by omega)
   refine ⟨j, ?_⟩
   simp only [loopF, mG_ S k hS2 (by omega) hz (lbs k S) (by omega)]
   rw [← kA_]
   exact hj
theorem ka_ (n S fuel : Nat) (hS : S < 2 ^ n) (hn : n ≤ 61) (hf : n < fuel) : dk_ fuel (S : Int) = some (lbs n S) := by
 unfold dk_
 obtain ⟨j, hj⟩ := kx_ n S hS hn fuel 0 (by omega) (by omega)
 have h0 : lbs 0 S = [] := rfl
 rw [h0] at hj
 rw [show ((0 : Nat) : Int) = 0 from rfl] at hj
 rw [hj, sb]
def posL (xs : List Int) (a : Int) : Nat := (xs.takeWhile fun x => decide (x < a)).length
theorem jV_ (a : Int) : ∀ (ys pre : List Int) (fuel : Nat), ys.length < fuel → pre.length + ys.length ≤ 1000000000 →
  loopF (cN_ (pre ++ ys) a) fuel (pre.length : Int) = some (.inl ((pre.length + posL ys a : Nat) : Int))
 | [], pre, fuel, hf, hl => by
  cases fuel with
  | zero => simp at hf
  | succ fuel =>
   have hs : cN_ (pre ++ []) a (pre.length : Int) = some (.out (pre.length : Int)) := by
    unfold cN_
    rw [if_neg (by simp), sb, if_neg (by simp)]
   rw [List.append_nil] at hs ⊢
   simp [loopF, hs, posL]
 | y :: ys, pre, fuel, hf, hl => by
  cases fuel with
  | zero => simp at hf
  | succ fuel =>
   simp only [List.length_cons] at hf hl
   have hs : cN_ (pre ++ y :: ys) a (pre.length : Int) = some (if y < a then .go ((pre.length + 1 : Nat) : Int) else .out (pre.length : Int)) := by
    unfold cN_
    rw [if_pos (by simp; omega), jN_, sb, sb]
    by_cases h : y < a
    ·simp only [h, decide_true, if_true]
     rw [G_ (by omega) (by omega), sb]; simp
    ·simp only [h, decide_false, if_false, Bool.false_eq_true]
   by_cases h : y < a
   ·simp only [loopF, hs, h, if_true]
    have := jV_ a ys (pre ++ [y]) fuel (by omega) (by simp; omega)
    rw [List.append_assoc] at this
    simp only [List.length_append, List.length_cons, List.length_nil, List.cons_append, List.nil_append, Nat.zero_add] at this
    rw [this]
    simp [posL, List.takeWhile_cons, h]; omega
   ·simp only [loopF, hs, h, if_false]
    simp [posL, List.takeWhile_cons, h]
theorem rM_ (xs : List Int) (a : Int) : posL xs a ≤ xs.length := by
 unfold posL
 exact (List.takeWhile_sublist _).length_le
theorem oR_ (xs : List Int) (a : Int) : xs.take (posL xs a) = xs.takeWhile fun x => decide (x < a) := by
 induction xs with
 | nil => rfl
 | cons x xs ih =>
  unfold posL at ih ⊢
  rw [List.takeWhile_cons]
  split
  ·rw [List.length_cons, List.take_succ_cons, ih]
  ·rfl
theorem iT_ (xs : List Int) (a : Int) : xs.drop (posL xs a) = xs.dropWhile fun x => decide (x < a) := by
 induction xs with
 | nil => rfl
 | cons x xs ih =>
  unfold posL at ih ⊢
  rw [List.takeWhile_cons, List.dropWhile_cons]
  split
  ·rw [List.length_cons, List.drop_succ_cons, ih]
  ·rfl
theorem ml_ {xs : List Int} {a : Int} (hx : xs.Pairwise (· < ·)) : ∀ y, y ∈ xs.dropWhile (fun x => decide (x < a)) → a ≤ y := by
 induction xs with
 | nil => simp
 | cons x xs ih =>
  rw [List.pairwise_cons] at hx
  intro y hy
  rw [List.dropWhile_cons] at hy
  split at hy
  ·exact ih hx.2 y hy
  ·rename_i h
   simp at h
   rcases List.mem_cons.1 hy with rfl | hy
   ·exact h
   ·have := hx.1 y hy; omega
theorem rP_ (xs : List Int) (a : Int) (fuel : Nat) (hf : xs.length < fuel) (hl : xs.length ≤ 1000000) (hx : xs.Pairwise (· < ·)) :
  ∃ ys, gQ_ fuel xs a = some ys ∧ ys.Pairwise (· < ·) ∧ ∀ b, b ∈ ys ↔ b ∈ xs ∨ b = a := by
 unfold gQ_
 have h0 := jV_ a xs [] fuel hf (by simp; omega)
 simp only [List.nil_append, List.length_nil, Nat.zero_add] at h0
 rw [show ((0 : Nat) : Int) = 0 from rfl] at h0
 rw [h0, sb]
 have hp := rM_ xs a
 have hsplit : xs.takeWhile (fun x => decide (x < a)) ++ xs.dropWhile (fun x => decide (x < a)) = xs := List.takeWhile_append_dropWhile
 have htk : ∀ y, y ∈ xs.takeWhile (fun x => decide (x < a)) → y < a := fun y hy => by
  have := List.all_eq_true.1 List.all_takeWhile y hy
  simpa using this
 by_cases hlt : posL xs a < xs.length
 ·simp only
  rw [if_pos (by simp; omega), fW_ _ _ hlt, sb, sb]
  by_cases he : xs[posL xs a] = a
  ·rw [if_pos (by simp [he])]
   exact ⟨xs, rfl, hx, fun b => ⟨.inl, fun h => by
    rcases h with h | h
    ·exact h
    ·rw [h, ← he]; exact List.getElem_mem hlt⟩⟩
  ·rw [if_neg (by simp [he])]
   have hd : xs.dropWhile (fun x => decide (x < a)) = xs[posL xs a] :: xs.drop (posL xs a + 1) := by
    rw [← iT_, List.drop_eq_getElem_cons hlt]
   have hge : ∀ y, y ∈ xs.dropWhile (fun x => decide (x < a)) → a < y := fun y hy => by
    rw [hd] at hy
    have h1 := ml_ hx xs[posL xs a] (by rw [hd]; exact List.mem_cons_self)
    have h2 : (xs.drop (posL xs a)).Pairwise (· < ·) := hx.sublist (List.drop_sublist _ _)
    rw [List.drop_eq_getElem_cons hlt, List.pairwise_cons] at h2
    rcases List.mem_cons.1 hy with rfl | hy
    ·omega
    ·have := h2.1 y hy; omega
   have hc1 : cut xs 0 ((posL xs a : Nat) : Int) = some (xs.takeWhile fun x => decide (x < a)) := by
    unfold cut
    rw [if_pos ⟨by omega, by omega, by omega⟩]
    simp [oR_]
   have hc2 : cut xs ((posL xs a : Nat) : Int) xs.length = some (xs.dropWhile fun x => decide (x < a)) := by
    unfold cut
    rw [if_pos ⟨by omega, by omega, by omega⟩]
    simp [iT_]
   have hlen := congrArg List.length hsplit
   rw [List.length_append] at hlen
   refine ⟨xs.takeWhile (fun x => decide (x < a)) ++ [a] ++ xs.dropWhile (fun x => decide (x < a)), ?_, ?_, ?_⟩
   ·rw [hc1, sb, iV_ _ (by omega), sb]
    unfold push
    rw [if_pos (by omega), sb, hc2, sb]
    unfold cat
    rw [if_pos (by simp; omega), sb]
   ·rw [← hsplit] at hx
    rw [List.pairwise_append] at hx
    rw [List.append_assoc, List.singleton_append, List.pairwise_append, List.pairwise_cons]
    refine ⟨hx.1, ⟨hge, hx.2.1⟩, fun u hu v hv => ?_⟩
    rcases List.mem_cons.1 hv with rfl | hv
    ·exact htk u hu
    ·exact hx.2.2 u hu v hv
   ·intro b
    conv => rhs; rw [← hsplit]
    simp only [List.mem_append, List.mem_cons, List.not_mem_nil, or_false]
    constructor
    ·rintro ((h | h) | h)
     ·exact .inl (.inl h)
     ·exact .inr h
     ·exact .inl (.inr h)
    ·rintro ((h | h) | h)
     ·exact .inl (.inl h)
     ·exact .inr h
     ·exact .inl (.inr h)
 ·have hd : xs.dropWhile (fun x => decide (x < a)) = [] := by rw [← iT_, List.drop_eq_nil_of_le (by omega)]
  have htw : xs.takeWhile (fun x => decide (x < a)) = xs := by rw [hd, List.append_nil] at hsplit; exact hsplit
  simp only
  rw [if_neg (by simp; omega), sb, if_neg (by simp)]
  have hp2 : posL xs a = xs.length := by omega
  rw [hp2, rv_, sb, iV_ _ (by omega), sb]
  unfold push
  rw [if_pos (by omega), sb]
  have hc2 : cut xs ((xs.length : Nat) : Int) xs.length = some [] := by
   unfold cut
   rw [if_pos ⟨by omega, by omega, by omega⟩]
   simp
  rw [hc2, sb]
  unfold cat
  refine ⟨xs ++ [a], ?_, ?_, ?_⟩
  ·rw [if_pos (by simp; omega), sb]; simp
  ·rw [List.pairwise_append]
   refine ⟨hx, by simp, fun u hu v hv => ?_⟩
   simp at hv; subst hv
   rw [← htw] at hu
   exact htk u hu
  ·intro b; simp
end

section
theorem nj_ {α σ ρ : Type} {body : Int → α → σ → Option (Lp σ σ ρ)} (R : Nat → σ) : ∀ (xs : List α) (k : Nat), (∀ (j : Nat) x, xs[j]? = some x → body ((k + j : Nat) : Int) x (R (k + j)) = some (.go (R (k + j + 1)))) →
  forI body xs (k : Int) (R k) = some (.inl (R (k + xs.length)))
 | [], k, h => rfl
 | x :: xs, k, h => by
  have h0 := h 0 x rfl
  simp only [Nat.add_zero] at h0
  simp only [forI, h0]
  rw [show ((k : Int) + 1) = ((k + 1 : Nat) : Int) by omega]
  rw [nj_ R xs (k + 1) (fun j y hj => by have := h (j + 1) y (by simpa using hj); rw [show k + (j + 1) = k + 1 + j by omega] at this; exact this)]
  rw [List.length_cons, show k + 1 + xs.length = k + (xs.length + 1) by omega]
theorem nl_ {σ ρ : Type} {body : Int → σ → Option (Lp σ σ ρ)} (R : Nat → σ) : ∀ (n k : Nat), (∀ (j : Nat), j < n → body ((k + j : Nat) : Int) (R (k + j)) = some (.go (R (k + j + 1)))) →
  forN body n (k : Int) (R k) = some (.inl (R (k + n)))
 | 0, k, h => rfl
 | n + 1, k, h => by
  have h0 := h 0 (by omega)
  simp only [Nat.add_zero] at h0
  simp only [forN, h0]
  rw [show ((k : Int) + 1) = ((k + 1 : Nat) : Int) by omega]
  rw [nl_ R n (k + 1) (fun j hj => by have := h (j + 1) (by omega); rw [show k + (j + 1) = k + 1 + j by omega] at this; exact this)]
  rw [show k + 1 + n = k + (n + 1) by omega]
theorem lz_ {α σ ρ : Type} {body : Int → α → σ → Option (Lp σ σ ρ)} (R : Nat → σ) (xs : List α) (h : ∀ (j : Nat) x, xs[j]? = some x → body (j : Int) x (R j) = some (.go (R (j + 1)))) :
  forI body xs 0 (R 0) = some (.inl (R xs.length)) := by
 have := nj_ R xs 0 (fun j x hj => by rw [Nat.zero_add]; exact h j x hj)
 rw [Nat.zero_add] at this; exact this
theorem ev_ {σ ρ : Type} {body : Int → σ → Option (Lp σ σ ρ)} (R : Nat → σ) (n : Nat) (h : ∀ (j : Nat), j < n → body (j : Int) (R j) = some (.go (R (j + 1)))) :
  forN body n 0 (R 0) = some (.inl (R n)) := by
 have := nl_ R n 0 (fun j hj => by rw [Nat.zero_add]; exact h j hj)
 rw [Nat.zero_add] at this; exact this
end

end Go.Proofs.YtdbbeldgdgonfaaGreat
