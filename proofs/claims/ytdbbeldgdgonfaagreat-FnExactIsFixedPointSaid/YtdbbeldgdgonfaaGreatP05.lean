/- Part 5 of what this claim rests on (GA), packed by pack.py. -/
import Derived.Test.YtdbbeldgdgonfaaGreatP03
import Derived.Test.YtdbbeldgdgonfaaGreatP04
namespace Go.Proofs.YtdbbeldgdgonfaaGreat
set_option linter.unusedSimpArgs false
set_option linter.unusedVariables false

section
set_option maxRecDepth 100000
set_option maxHeartbeats 2000000
open Go.RowKit
theorem dc_ : Inf Tryz.prog 3 (.int .i64 0) 1 8 := by unfold Inf; kernel_rfl

def ge_ (a : Int) (b : Int) (c : Int) : Option Bool :=
  (
    if decide (a ≥ b) then
      some (decide (a ≤ c))
    else
      some false) >>= fun d =>
  some d

def rF_ (w : World) (r : Bool) : Ending → World → Prop := fun e w' => e = .returned (.bool r) ∧ Keeps w w'
theorem kE_ (w : World) (f : Int) (g : Int) (i : Int) (r : Bool) (hF : ge_ f g i = some r) :
    Calls Tryz.prog 40 #[.int .i64 f, .int .i64 g, .int .i64 i] w (rF_ w r) := by
 unfold ge_ at hF; have hB : Bs (fun _ => 1) (col (fun _ => 1)) w w := Bs.start _ _; refine i_ (n := 15) (vs := [(ZI f), (ZI g), (ZI i)]) Tryz.func40 rfl rfl ?_; refine Zq (Za rfl (Ze [(0, ZI f), (1, ZI g), (2, ZI i)] (Zn (Zm rfl (Zm rfl (Zv (je_ rfl rfl) (Zm rfl ?_))))))); obtain ⟨j, d, hF⟩ := bind_some hF; refine as_ 4 (fun m k => Fr m 15 [(14, (.bool j))] ∧ Keeps w k) ?_ ?_; all_goals simp only [List.take_succ_cons, List.take_zero, List.drop_succ_cons, List.drop_zero]
 ·have kp : Keeps w w := Keeps.refl _; rcases Bool.eq_false_or_eq_true (decide (f ≥ g)) with b | b
  ·rw [if_pos b] at d; refine k_ (h_ rfl) (by decide) ⟨_, rfl, (Zb b)⟩ (k_ (h_ rfl) (by decide) ⟨_, rfl, (Zb b)⟩ (k_ (pY_ rfl rfl) (by decide) ⟨_, rfl, (Zb b)⟩ (Zv (x_ (Zb b) rfl) ?_))); have c := Zj d; refine Ze [(14, (.bool (decide (f ≤ i))))] ?_; subst c; refine s_ (fun a ha => ⟨ha, kp⟩)
  ·rw [if_neg (by rw [b]; decide)] at d; refine n_ rfl rfl (by rw [b]; rfl) (by decide) ?_; refine n_ rfl rfl (by rw [b]; rfl) (by decide) ?_; refine n_ rfl rfl (by rw [b]; rfl) (by decide) ?_; refine Zv (B_ (Zb b) rfl) ?_; have c := Zj d; refine Ze [(14, (.bool false))] ?_; subst c; refine s_ (fun a ha => ⟨ha, kp⟩)
 rintro v k ⟨ha, q⟩; have s := q.stp 999 (col (fun _ => 1)); replace hB := hB.stp s; refine aV_ ha ?_; refine Za rfl (Ze [(6, (.bool j))] (nx (m_ ?_))); have u := Zj hF; subst u; refine Zr Tryz.results40 [(.bool j)] ?_; exact ⟨rfl, hB.keeps⟩
def gO_ (a : Int) (b : Int) : Option Int :=
  if decide (a < b) then
    some a
  else
    some b

def os_ (w : World) (r : Int) : Ending → World → Prop := fun e w' => e = .returned (.int .i64 r) ∧ Keeps w w'
theorem oE_ (w : World) (a : Int) (b : Int) (r : Int) (hF : gO_ a b = some r) :
    Calls Tryz.prog 164 #[.int .i64 a, .int .i64 b] w (os_ w r) := by
 unfold gO_ at hF; have hB : Bs (fun _ => 1) (col (fun _ => 1)) w w := Bs.start _ _; refine i_ (n := 10) (vs := [(ZI a), (ZI b)]) Tryz.func164 rfl rfl ?_; refine Zq (Za rfl (Ze [(0, ZI a), (1, ZI b)] (nx (a_ (Zq (Zm rfl (Zm rfl (Zv (t_ rfl rfl) (Ze [(0, ZI a), (1, ZI b), (7, (.bool (decide (a < b))))] (nx ?_)))))))))); refine o_ rfl (fun c => ?_) (fun c => ?_)
 ·rw [if_pos c] at hF; refine Zq (Zm rfl (Za rfl (Ze [(4, ZI a)] (nx (m_ (D_ ?_)))))); have d := Zj hF; subst d; refine Zr Tryz.results164 [(ZI a)] ?_; exact ⟨rfl, hB.keeps⟩
 ·rw [if_neg (by rw [c]; decide)] at hF; refine g_ (Zn (Zm rfl (Za rfl (Ze [(4, ZI b)] (nx (m_ ?_)))))); have f := Zj hF; subst f; refine Zr Tryz.results164 [(ZI b)] ?_; exact ⟨rfl, hB.keeps⟩
def fB_ (b : Int) : Int → Int → Unit → Option (Lp Unit Unit Bool) := fun (c : Int) (a : Int) (s : Unit) =>
  if a == b then
    some (.ret true)
  else
    some (.go ())
def ho_ (a : List Int) (b : Int) : Option Bool :=
  (forI (fB_ b) a 0 ()) >>= fun c =>
  match c with
  | .inl _ =>
    some false
  | .inr r' => some r'

def nG_ (w : World) (r : Bool) : Ending → World → Prop := fun e w' => e = .returned (.bool r) ∧ Keeps w w'
theorem ks_ (w : World) (f : Value) (b : Yl) (v : RdL zt w f b) (d : Int) (r : Bool) (hF : ho_ b d = some r) :
    Calls Tryz.prog 114 #[f, .int .i64 d] w (nG_ w r) := by
 unfold ho_ at hF; have hB : Bs (fun _ => 1) (col (fun _ => 1)) w w := Bs.start _ _; refine i_ (n := 17) (vs := [f, (ZI d)]) Tryz.func114 rfl rfl ?_; refine Zq (Za rfl (Ze [(0, f), (1, ZI d)] (nx (a_ (Zq (Zm rfl (Zv (C_ rfl v Tryz.underlying41) (Zm rfl (Ze [(1, ZI d), (7, f), (8, (ZI (b.length : Int))), (9, ZI 0)] (nx ?_)))))))))); obtain ⟨x, y, hF⟩ := bind_some hF; refine A_ (fun a m => ∃ (j : Tg), x = .inl () ∧ Fr a 17 [] ∧ Bs (fun _ => 1) j w m) (fun a w' => ∃ r', x = .inr r' ∧ bodyPost Tryz.prog Tryz.f114 (nG_ w r') .ret a w') ?_ ?_ ?_
 ·refine f_ ?_; refine z_ (fun (K : Nat) a m => ∃ (c : Int) (j : Tg), forI (fB_ d) (b.drop c.toNat) c () = some x ∧ (b.drop c.toNat).length = K ∧ 0 ≤ c ∧ Fr a 17 [(1, ZI d), (7, f), (8, (ZI (b.length : Int))), (9, ZI c)] ∧ Bs (fun _ => 1) j w m) _ (fun a ha => ⟨0, (col (fun _ => 1)), y, rfl, Int.le_refl 0, ha.sub (r := [(1, ZI d), (7, f), (8, (ZI (b.length : Int))), (9, ZI 0)]) ⟨rfl, rfl, rfl, rfl, trivial⟩, hB⟩) ?_; rintro K8 a m ⟨c, j, H, I, J, ha, hB⟩; by_cases i : c < (b.length : Int)
  ·obtain ⟨q, O, s, g, u⟩ := V_ J i H; have hle := v.len_le; dsimp only [fB_] at g; refine M_ ha ?_; refine Zq (Zv (t_ rfl rfl) (Ze [(1, ZI d), (7, f), (8, (ZI (b.length : Int))), (9, ZI c), (10, (.bool (decide (c < (b.length : Int)))))] (nx (a_ ?_)))); refine P_ (Zb (decide_eq_true i)) ?_; refine g_ (nx (a_ (f_ (Zq (Zo ?_))))); refine wf_atZ v s hB rfl rfl Tryz.underlying41 Tryz.sizeOf3 ?_; intro L M N z A; cases A
   refine Zv (e_ rfl Tryz.isAgg3 (j_ z)) (Za rfl (Ze [(1, ZI d), (6, ZI q), (7, f), (8, (ZI (b.length : Int))), (9, ZI c)] (Zn (Zm rfl (Zm rfl (Zv (cE_ rfl rfl) (Ze [(1, ZI d), (7, f), (8, (ZI (b.length : Int))), (9, ZI c), (15, (.bool (q == d)))] (nx ?_)))))))); refine o_ rfl (fun k => ?_) (fun k => ?_)
   ·rw [if_pos k] at g; refine Zq (Za rfl (Ze [(4, (.bool true))] (nx (m_ (ac_ (D_ (D_ (ac_ ?_)))))))); refine bQ_ ?_; have B := Zj g; subst B; refine fun a ha => ⟨_, u, ?_⟩; refine H_ (P := Tryz.prog) (vs := [(.bool true)]) Tryz.results114 ⟨rfl, trivial⟩ ?_ a ha; exact ⟨rfl, hB.keeps⟩
   ·rw [if_neg (by rw [k]; decide)] at g; refine g_ (y_ (nx (c_ (Zv (F_ rfl rfl (G_ (by omega) (by omega))) (Zm rfl (Ze [(1, ZI d), (7, f), (8, (ZI (b.length : Int))), (9, (ZI (c + 1)))] (w_ ?_))))))); have C := Zj g; subst C; refine Zk [(1, ZI d), (7, f), (8, (ZI (b.length : Int))), (9, (ZI (c + 1)))] ?_; intro a ha; exact ⟨_, (by rw [← I]; simp only [List.length_drop]; omega), c + 1, j, u, rfl, (by omega), ha, hB⟩
  ·have D := W_ i H; refine M_ ha ?_; refine Zq (Zv (t_ rfl rfl) (Ze [(1, ZI d), (7, f), (8, (ZI (b.length : Int))), (9, ZI c), (10, (.bool (decide (c < (b.length : Int)))))] (nx (a_ ?_)))); refine J_ (Zb (decide_eq_false i)) ?_; refine v_ ?_; refine r_ (r_ (Q_ ?_)); refine s_ ?_; refine Zk [] ?_; intro a ha; exact ⟨j, D, ha, hB⟩
 ·rintro a m ⟨j, rfl, ha, hB⟩; dsimp only at hF; refine ap_k ha ?_; refine Zn (Za rfl (Ze [(4, (.bool false))] (nx (m_ ?_)))); have E := Zj hF; subst E; refine Zr Tryz.results114 [(.bool false)] ?_; exact ⟨rfl, hB.keeps⟩
 ·rintro a m ⟨r', rfl, F⟩; dsimp only at hF; have G := Zj hF; subst G; exact F
def fJ_ (c : Int) (d : Int) : Int → Int → Unit → Option (Lp Unit Unit Bool) := fun (f : Int) (a : Int) (s : Unit) =>
  (ge_ a c d) >>= fun b =>
  if !b then
    some (.ret false)
  else
    some (.go ())
def hp_ (a : List Int) (b : Int) (c : Int) : Option Bool :=
  (forI (fJ_ b c) a 0 ()) >>= fun d =>
  match d with
  | .inl _ =>
    some true
  | .inr r' => some r'

def nC_ (w : World) (r : Bool) : Ending → World → Prop := fun e w' => e = .returned (.bool r) ∧ Keeps w w'
theorem qK_ (w : World) (i : Value) (b : Yl) (z : RdL zt w i b) (d : Int) (f : Int) (r : Bool) (hF : hp_ b d f = some r) :
    Calls Tryz.prog 106 #[i, .int .i64 d, .int .i64 f] w (nC_ w r) := by
 unfold hp_ at hF; have hB : Bs (fun _ => 1) (col (fun _ => 1)) w w := Bs.start _ _; refine i_ (n := 21) (vs := [i, (ZI d), (ZI f)]) Tryz.func106 rfl rfl ?_; refine Zq (Za rfl (Ze [(0, i), (1, ZI d), (2, ZI f)] (nx (a_ (Zq (Zm rfl (Zv (C_ rfl z Tryz.underlying41) (Zm rfl (Ze [(1, ZI d), (2, ZI f), (9, i), (10, (ZI (b.length : Int))), (11, ZI 0)] (nx ?_)))))))))); obtain ⟨A, B, hF⟩ := bind_some hF; refine A_ (fun a m => ∃ (k : Tg), A = .inl () ∧ Fr a 21 [] ∧ Bs (fun _ => 1) k w m) (fun a w' => ∃ r', A = .inr r' ∧ bodyPost Tryz.prog Tryz.f106 (nC_ w r') .ret a w') ?_ ?_ ?_
 ·refine f_ ?_; refine z_ (fun (K : Nat) a m => ∃ (c : Int) (k : Tg), forI (fJ_ d f) (b.drop c.toNat) c () = some A ∧ (b.drop c.toNat).length = K ∧ 0 ≤ c ∧ Fr a 21 [(1, ZI d), (2, ZI f), (9, i), (10, (ZI (b.length : Int))), (11, ZI c)] ∧ Bs (fun _ => 1) k w m) _ (fun a ha => ⟨0, (col (fun _ => 1)), B, rfl, Int.le_refl 0, ha.sub (r := [(1, ZI d), (2, ZI f), (9, i), (10, (ZI (b.length : Int))), (11, ZI 0)]) ⟨rfl, rfl, rfl, rfl, rfl, trivial⟩, hB⟩) ?_; rintro K8 a m ⟨c, k, N, O, Q, ha, hB⟩; by_cases j : c < (b.length : Int)
  ·obtain ⟨s, W, u, g, v⟩ := V_ Q j N; have hle := z.len_le; dsimp only [fJ_] at g; refine M_ ha ?_; refine Zq (Zv (t_ rfl rfl) (Ze [(1, ZI d), (2, ZI f), (9, i), (10, (ZI (b.length : Int))), (11, ZI c), (12, (.bool (decide (c < (b.length : Int)))))] (nx (a_ ?_)))); refine P_ (Zb (decide_eq_true j)) ?_; refine g_ (nx (a_ (f_ (Zq (Zo ?_))))); refine wf_atZ z u hB rfl rfl Tryz.underlying41 Tryz.sizeOf3 ?_; intro R S T C D; cases D
   refine Zv (e_ rfl Tryz.isAgg3 (j_ C)) (Za rfl (Ze [(1, ZI d), (2, ZI f), (8, ZI s), (9, i), (10, (ZI (b.length : Int))), (11, ZI c)] (Zn (Zm rfl (Zm rfl (Zm rfl ?_)))))); obtain ⟨x, y, g⟩ := bind_some g; refine Zo ?_; refine p_ (kE_ m s d f x y) Tryz.call40 ⟨rfl, rfl, rfl, trivial⟩ ?_; rintro U V ⟨rfl, E⟩; have F := E.stp 999 k; refine ⟨_, rfl, ?_⟩; replace hB := hB.stp F; refine Zv (ba_ rfl) (Ze [(1, ZI d), (2, ZI f), (9, i), (10, (ZI (b.length : Int))), (11, ZI c), (19, (.bool (!x)))] (nx ?_)); refine o_ rfl (fun q => ?_) (fun q => ?_)
   ·rw [if_pos q] at g; refine Zq (Za rfl (Ze [(6, (.bool false))] (nx (m_ (ac_ (D_ (D_ (ac_ ?_)))))))); refine bQ_ ?_; have G := Zj g; subst G; refine fun a ha => ⟨_, v, ?_⟩; refine H_ (P := Tryz.prog) (vs := [(.bool false)]) Tryz.results106 ⟨rfl, trivial⟩ ?_ a ha; exact ⟨rfl, hB.keeps⟩
   ·rw [if_neg (by rw [q]; decide)] at g; refine g_ (y_ (nx (c_ (Zv (F_ rfl rfl (G_ (by omega) (by omega))) (Zm rfl (Ze [(1, ZI d), (2, ZI f), (9, i), (10, (ZI (b.length : Int))), (11, (ZI (c + 1)))] (w_ ?_))))))); have H := Zj g; subst H; refine Zk [(1, ZI d), (2, ZI f), (9, i), (10, (ZI (b.length : Int))), (11, (ZI (c + 1)))] ?_; intro a ha; exact ⟨_, (by rw [← O]; simp only [List.length_drop]; omega), c + 1, k, v, rfl, (by omega), ha, hB⟩
  ·have I := W_ j N; refine M_ ha ?_; refine Zq (Zv (t_ rfl rfl) (Ze [(1, ZI d), (2, ZI f), (9, i), (10, (ZI (b.length : Int))), (11, ZI c), (12, (.bool (decide (c < (b.length : Int)))))] (nx (a_ ?_)))); refine J_ (Zb (decide_eq_false j)) ?_; refine v_ ?_; refine r_ (r_ (Q_ ?_)); refine s_ ?_; refine Zk [] ?_; intro a ha; exact ⟨k, I, ha, hB⟩
 ·rintro a m ⟨k, rfl, ha, hB⟩; dsimp only at hF; refine ap_k ha ?_; refine Zn (Za rfl (Ze [(6, (.bool true))] (nx (m_ ?_)))); have J := Zj hF; subst J; refine Zr Tryz.results106 [(.bool true)] ?_; exact ⟨rfl, hB.keeps⟩
 ·rintro a m ⟨r', rfl, L⟩; dsimp only at hF; have M := Zj hF; subst M; exact L
def cN_ (d : List Int) (f : Int) : Int → Option (Lp Int Int (List Int)) := fun (s : Int) =>
  (
    if decide (s < (d.length : Int)) then
      (ix d s) >>= fun a =>
      some (decide (a < f))
    else
      some false) >>= fun b =>
  if b then
    (ck (s + 1)) >>= fun c =>
    some (.go c)
  else
    some (.out s)
def gQ_ (fuel : Nat) (a : List Int) (c : Int) : Option (List Int) :=
  (loopF (cN_ a c) fuel 0) >>= fun n =>
  match n with
  | .inl b =>
    (
      if decide (b < (a.length : Int)) then
        (ix a b) >>= fun d =>
        some (d == c)
      else
        some false) >>= fun f =>
    if f then
      some a
    else
      (cut a 0 b) >>= fun g =>
      (cat ([] : List Int) g) >>= fun i =>
      (push i c) >>= fun j =>
      (cut a b a.length) >>= fun k =>
      (cat j k) >>= fun m =>
      some m
  | .inr _ => none

def qH_ (oo : Tg) (t : Nat) (w : World) (r : Yl) : Ending → World → Prop := fun e w' => ∃ (a : Value) (o' : Tg), e = .returned (a) ∧ Of 3 o' w' a r ∧ Keeps w w' ∧ ∀ b, b < w.heap.size → o' b = oo b
theorem qT_ (fuel : Nat) (w : World) (oo : Tg) (t : Nat) (ht : 2 ≤ t) (d : Value) (x : Yl) (g : Of 3 oo w d x) (f : Int) (r : Yl) (hF : gQ_ fuel x f = some r) :
    Calls Tryz.prog 157 #[d, .int .i64 f] w (qH_ oo t w r) := by
 unfold gQ_ at hF; replace g := g.col; have g0r := g.rd; have hB : Bs oo (col oo) w w := Bs.start _ _; refine i_ (n := 48) (vs := [d, (ZI f)]) Tryz.func157 rfl rfl ?_; generalize col oo = o at *; refine Zq (Za rfl (Ze [(0, d), (1, ZI f)] (Zn (Za rfl (Ze [(0, d), (1, ZI f), (5, ZI 0)] (nx ?_)))))); obtain ⟨c5, Y, hF⟩ := bind_some hF; refine iu_ (fun a q => ∃ (i : Int) (s : Tg), c5 = .inl i ∧ Fr a 48 [(0, d), (1, ZI f), (5, ZI i)] ∧ Bs oo s w q ∧ RdL s q d x ∧ Of 3 s q d x) (fun _ _ => False) ?_ ?_ ?_
 ·refine f_ ?_; refine z_ (fun (K : Nat) a q => ∃ (i : Int) (s : Tg), loopF (cN_ x f) K i = some c5 ∧ Fr a 48 [(0, d), (1, ZI f), (5, ZI i)] ∧ Bs oo s w q ∧ RdL s q d x ∧ Of 3 s q d x) fuel (fun a ha => ⟨0, o, Y, ha.sub (r := [(0, d), (1, ZI f), (5, ZI 0)]) ⟨rfl, rfl, rfl, trivial⟩, hB, g0r, g⟩) ?_; rintro K8 a q ⟨i, s, c6, ha, hB, g0r, g⟩; obtain ⟨K12, f4, c7, m, J⟩ := Y_ c6; dsimp only [cN_] at m; refine M_ ha ?_; refine a_ (Zq (Zm rfl (Zm rfl (Zv (C_ rfl g0r Tryz.underlying41) (Zv (t_ rfl rfl) (Zm rfl ?_)))))); obtain ⟨L, j, m⟩ := bind_some m; refine as_ 7 (fun Z M => Fr Z 48 [(0, d), (1, ZI f), (5, ZI i), (18, (.bool L))] ∧ Keeps q M) ?_ ?_; all_goals simp only [List.take_succ_cons, List.take_zero, List.drop_succ_cons, List.drop_zero]
  ·have kp : Keeps q q := Keeps.refl _; rcases Bool.eq_false_or_eq_true (decide (i < (x.length : Int))) with b | b
   ·rw [if_pos b] at j; refine k_ (h_ rfl) (by decide) ⟨_, rfl, (Zb b)⟩ (k_ (h_ rfl) (by decide) ⟨_, rfl, (Zb b)⟩ ?_); obtain ⟨a0, N, j⟩ := bind_some j; refine bI_ (by decide) ⟨_, rfl, (Zb b)⟩ ?_; refine hw_ g0r N rfl rfl Tryz.underlying41 Tryz.sizeOf3 ?_; intro c8 c9 d0 a1 a2; cases a2
    refine k_ (e_ rfl Tryz.isAgg3 (j_ a1)) (by decide) ⟨_, rfl, (Zb b)⟩ (k_ (h_ rfl) (by decide) ⟨_, rfl, (Zb b)⟩ (k_ (t_ rfl rfl) (by decide) ⟨_, rfl, (Zb b)⟩ (Zv (x_ (Zb b) rfl) ?_))); have u := Zj j; refine Ze [(0, d), (1, ZI f), (5, ZI i), (18, (.bool (decide (a0 < f))))] ?_; subst u; refine s_ (fun a ha => ⟨ha, kp⟩)
   ·rw [if_neg (by rw [b]; decide)] at j; refine n_ rfl rfl (by rw [b]; rfl) (by decide) ?_; refine n_ rfl rfl (by rw [b]; rfl) (by decide) ?_; refine n_ rfl rfl (by rw [b]; rfl) (by decide) ?_; refine n_ rfl rfl (by rw [b]; rfl) (by decide) ?_; refine n_ rfl rfl (by rw [b]; rfl) (by decide) ?_; refine n_ rfl rfl (by rw [b]; rfl) (by decide) ?_; refine Zv (B_ (Zb b) rfl) ?_; have u := Zj j; refine Ze [(0, d), (1, ZI f), (5, ZI i), (18, (.bool false))] ?_; subst u; refine s_ (fun a ha => ⟨ha, kp⟩)
  rintro d1 M ⟨ha, a3⟩; have z := a3.stp 999 s; replace g0r := g0r.stp z; replace g := g.stp z; replace hB := hB.stp z; refine aV_ ha ?_; refine Ze [(0, d), (1, ZI f), (5, ZI i), (18, (.bool L))] (nx ?_); refine o_ rfl (fun A => ?_) (fun A => ?_)
  ·rw [if_pos A] at m; refine g_ (nx (f_ (c_ (Zm rfl ?_)))); obtain ⟨B, O, m⟩ := bind_some m; refine Zv (F_ rfl rfl O) (Za rfl (Ze [(0, d), (1, ZI f), (5, ZI B)] (y_ (w_ ?_)))); have a4 := Zj m; subst a4; refine Zk [(0, d), (1, ZI f), (5, ZI B)] ?_; intro a ha; exact ⟨K12, by omega, B, s, J, ha, hB, g0r, g⟩
  ·rw [if_neg (by rw [A]; decide)] at m; refine v_ ?_; refine r_ (r_ (Q_ ?_)); refine s_ ?_; have a5 := Zj m; subst a5; refine Zk [(0, d), (1, ZI f), (5, ZI i)] ?_; intro a ha; exact ⟨i, s, J, ha, hB, g0r, g⟩
 ·rintro a q ⟨i, s, rfl, ha, hB, g0r, g⟩; dsimp only at hF; refine M_ ha ?_; refine a_ (Zq (Zm rfl (Zm rfl (Zv (C_ rfl g0r Tryz.underlying41) (Zv (t_ rfl rfl) (Zm rfl ?_)))))); obtain ⟨P, k, hF⟩ := bind_some hF; refine as_ 7 (fun a6 Q => Fr a6 48 [(0, d), (1, ZI f), (5, ZI i), (32, (.bool P))] ∧ Keeps q Q) ?_ ?_; all_goals simp only [List.take_succ_cons, List.take_zero, List.drop_succ_cons, List.drop_zero]
  ·have kp : Keeps q q := Keeps.refl _; rcases Bool.eq_false_or_eq_true (decide (i < (x.length : Int))) with c | c
   ·rw [if_pos c] at k; refine k_ (h_ rfl) (by decide) ⟨_, rfl, (Zb c)⟩ (k_ (h_ rfl) (by decide) ⟨_, rfl, (Zb c)⟩ ?_); obtain ⟨a7, R, k⟩ := bind_some k; refine bI_ (by decide) ⟨_, rfl, (Zb c)⟩ ?_; refine hw_ g0r R rfl rfl Tryz.underlying41 Tryz.sizeOf3 ?_; intro d2 d3 d4 a8 a9; cases a9
    refine k_ (e_ rfl Tryz.isAgg3 (j_ a8)) (by decide) ⟨_, rfl, (Zb c)⟩ (k_ (h_ rfl) (by decide) ⟨_, rfl, (Zb c)⟩ (k_ (cE_ rfl rfl) (by decide) ⟨_, rfl, (Zb c)⟩ (Zv (x_ (Zb c) rfl) ?_))); have v := Zj k; refine Ze [(0, d), (1, ZI f), (5, ZI i), (32, (.bool (a7 == f)))] ?_; subst v; refine s_ (fun a ha => ⟨ha, kp⟩)
   ·rw [if_neg (by rw [c]; decide)] at k; refine n_ rfl rfl (by rw [c]; rfl) (by decide) ?_; refine n_ rfl rfl (by rw [c]; rfl) (by decide) ?_; refine n_ rfl rfl (by rw [c]; rfl) (by decide) ?_; refine n_ rfl rfl (by rw [c]; rfl) (by decide) ?_; refine n_ rfl rfl (by rw [c]; rfl) (by decide) ?_; refine n_ rfl rfl (by rw [c]; rfl) (by decide) ?_; refine Zv (B_ (Zb c) rfl) ?_; have v := Zj k; refine Ze [(0, d), (1, ZI f), (5, ZI i), (32, (.bool false))] ?_; subst v; refine s_ (fun a ha => ⟨ha, kp⟩)
  rintro d5 Q ⟨ha, b0⟩; have C := b0.stp 999 s; replace g0r := g0r.stp C; replace g := g.stp C; replace hB := hB.stp C; refine aV_ ha ?_; refine Ze [(0, d), (1, ZI f), (5, ZI i), (32, (.bool P))] (nx ?_); refine o_ rfl (fun D => ?_) (fun D => ?_)
  ·rw [if_pos D] at hF; refine Zq (Zm rfl (Za rfl (Ze [(4, d)] (nx (m_ (D_ ?_)))))); have b1 := Zj hF; subst b1; refine Zr Tryz.results157 [d] ?_; exact ⟨_, rt oo s w.heap.size 9 t, rfl, g.rt hB 9 t (by decide), hB.keeps, af_ _ _ _ _ _⟩
  ·rw [if_neg (by rw [D]; decide)] at hF; refine g_ (Zn (Zo ?_)); refine fF_ w.heap.size 11 hB.keeps.size (o := s) (cs := []) (xs := ([] : Yl)) (vs := []) rfl rfl trivial Tryz.underlying41 Tryz.sizeOf3 Tryz.zeroValue3 (by decide) fill0 (by simp) ?_; intro d6 d7 d8 b2 E; replace g0r := g0r.stp E; replace g := g.stp E; replace hB := hB.stp E; refine Zm rfl (Zm rfl ?_); obtain ⟨d9, S, hF⟩ := bind_some hF; refine Zo ?_; refine kO_ g0r S rfl rfl rfl Tryz.underlying41 Tryz.sizeOf3 ?_; intro e0 b3; obtain ⟨e1, T, hF⟩ := bind_some hF; refine Zo ?_; refine bo_ b2 b3 T (by decide) hB.keeps.size rfl rfl Tryz.underlying41 dc_ rfl (by decide) ?_; intro b4 e2 b5 F G; replace g0r := g0r.stp G; replace g := g.stp G; replace hB := hB.stp G; refine Za rfl (Ze [(0, d), (1, ZI f), (5, ZI i), (6, b5)] (Zn (Zm rfl (Zm rfl (Zo ?_))))); refine aL_ (o := b4) (cs := [(ZI f)]) (xs := ([f] : Yl)) (vs := [(0, ZI f)]) ⟨_, _, rfl, rfl, rfl⟩ rfl ⟨rfl, rfl, trivial⟩ Tryz.underlying41 Tryz.sizeOf3 Tryz.zeroValue3 (by decide) (fill1 rfl) (by simp) ?_; intro e3 e4 e5 b6 y e6; replace g0r := g0r.stp y; replace g := g.stp y; replace F := F.stp y; replace hB := hB.stp y; obtain ⟨e7, U, hF⟩ := bind_some hF; refine Zo ?_; refine bo_ F b6 (au_ U) (by decide) hB.keeps.size rfl rfl Tryz.underlying41 dc_ rfl (by decide) ?_; intro e8 e9 b7 b8 H; replace g0r := g0r.stp H; replace g := g.stp H; replace hB := hB.stp H; refine Za rfl (Ze [(0, d), (5, ZI i), (6, b7)] (Zn (Zm rfl (Zm rfl (Zm rfl ?_))))); obtain ⟨f0, V, hF⟩ := bind_some hF; refine Zo ?_; refine kO_ g0r V rfl rfl rfl Tryz.underlying41 Tryz.sizeOf3 ?_; intro f1 b9; obtain ⟨f2, W, hF⟩ := bind_some hF; refine Zo ?_; refine bo_ b8 b9 W (by decide) hB.keeps.size rfl rfl Tryz.underlying41 dc_ rfl (by decide) ?_; intro c0 f3 X c1 I; replace g0r := g0r.stp I; replace g := g.stp I; replace hB := hB.stp I; refine Za rfl (Ze [(4, X)] (nx (m_ ?_))); have c2 := c1.frzF; replace hB := hB.frz 11 (by decide); generalize (frz 11 c0) = c3 at *; have c4 := Zj hF; subst c4; refine Zr Tryz.results157 [X] ?_; exact ⟨_, rt oo c3 w.heap.size 9 t, rfl, c2.rt hB 9 t (by decide), hB.keeps, af_ _ _ _ _ _⟩
 ·exact fun _ _ h => h.elim
def ed_ (a : List Int) : Option (List Int) :=
  (cat ([] : List Int) a) >>= fun b =>
  some b

def qv_ (oo : Tg) (t : Nat) (w : World) (r : Yl) : Ending → World → Prop := fun e w' => ∃ (a : Value) (o' : Tg), e = .returned (a) ∧ Ow w.heap.size 3 t o' w' a r ∧ Keeps w w' ∧ ∀ b, b < w.heap.size → o' b = oo b
theorem gN_ (w : World) (oo : Tg) (t : Nat) (ht : 2 ≤ t) (a : Value) (g : Yl) (j : RdL zt w a g) (r : Yl) (hF : ed_ g = some r) :
    Calls Tryz.prog 66 #[a] w (qv_ oo t w r) := by
 unfold ed_ at hF; have hB : Bs oo (col oo) w w := Bs.start _ _; refine i_ (n := 6) (vs := [a]) Tryz.func66 rfl rfl ?_; generalize col oo = o at *; refine Zq (Za rfl (Ze [(0, a)] (Zn (Zo ?_)))); refine fF_ w.heap.size 11 hB.keeps.size (o := o) (cs := []) (xs := ([] : Yl)) (vs := []) rfl rfl trivial Tryz.underlying41 Tryz.sizeOf3 Tryz.zeroValue3 (by decide) fill0 (by simp) ?_; intro s u v k m; replace hB := hB.stp m; refine Zm rfl ?_; obtain ⟨x, b, hF⟩ := bind_some hF; refine Zo ?_; refine kH_ k (j.keep hB.keeps) b (by decide) hB.keeps.size (fun _ _ h => h) rfl rfl Tryz.underlying41 dc_ rfl (by decide) ?_; intro q y i c d; replace hB := hB.stp d; refine Za rfl (Ze [(2, i)] (nx (m_ ?_))); have f := Zj hF; subst f; refine Zr Tryz.results66 [i] ?_; exact ⟨_, rt oo q w.heap.size 11 t, rfl, c.rt hB (by decide) t, hB.keeps, af_ _ _ _ _ _⟩
def gz_ (a : Int) : Option Int :=
  if decide (a > 0) then
    some 1
  else
    if decide (a < 0) then
      some (-1)
    else
      some 0

def qa_ (w : World) (r : Int) : Ending → World → Prop := fun e w' => e = .returned (.int .i64 r) ∧ Keeps w w'
theorem pB_ (w : World) (a : Int) (r : Int) (hF : gz_ a = some r) :
    Calls Tryz.prog 154 #[.int .i64 a] w (qa_ w r) := by
 unfold gz_ at hF; have hB : Bs (fun _ => 1) (col (fun _ => 1)) w w := Bs.start _ _; refine i_ (n := 9) (vs := [(ZI a)]) Tryz.func154 rfl rfl ?_; refine Zq (Za rfl (Ze [(0, ZI a)] (nx (a_ (f_ (Zq (Zm rfl (Zv (dR_ rfl rfl) (Za rfl (Ze [(0, ZI a), (3, (.bool (decide (a > 0))))] (nx ?_))))))))))); refine o_ rfl (fun b => ?_) (fun b => ?_)
 ·rw [if_pos b] at hF; refine Zq (Za rfl (Ze [(2, ZI 1)] (nx (m_ (ac_ (D_ ?_)))))); have d := Zj hF; subst d; refine Zr Tryz.results154 [(ZI 1)] ?_; exact ⟨rfl, hB.keeps⟩
 ·rw [if_neg (by rw [b]; decide)] at hF; refine Zq (Zm rfl (Zv (t_ rfl rfl) (Za rfl (Ze [(6, (.bool (decide (a < 0))))] (nx ?_))))); refine o_ rfl (fun c => ?_) (fun c => ?_)
  ·rw [if_pos c] at hF; refine Zq (Za rfl (Ze [(2, (ZI (-1)))] (nx (m_ (ac_ (D_ ?_)))))); have f := Zj hF; subst f; refine Zr Tryz.results154 [(ZI (-1))] ?_; exact ⟨rfl, hB.keeps⟩
  ·rw [if_neg (by rw [c]; decide)] at hF; refine g_ (y_ (Zn (Za rfl (Ze [(2, ZI 0)] (nx (m_ ?_)))))); have g := Zj hF; subst g; refine Zr Tryz.results154 [(ZI 0)] ?_; exact ⟨rfl, hB.keeps⟩
def fd_ (d : List Int) (f : List Int) : Int → Unit → Option (Lp Unit Unit Bool) := fun (c : Int) (s : Unit) =>
  (ix d c) >>= fun a =>
  (ix f c) >>= fun b =>
  if a != b then
    some (.ret false)
  else
    some (.go ())
def em_ (a : List Int) (b : List Int) : Option Bool :=
  if (a.length : Int) != (b.length : Int) then
    some false
  else
    ck (a.length : Int) >>= fun _ =>
    (forN (fd_ a b) ((a.length : Int)).toNat 0 ()) >>= fun c =>
    match c with
    | .inl _ =>
      some true
    | .inr r' => some r'

def ln_ (w : World) (r : Bool) : Ending → World → Prop := fun e w' => e = .returned (.bool r) ∧ Keeps w w'
theorem gl_ (w : World) (g : Value) (c : Yl) (C : RdL zt w g c) (i : Value) (y : Yl) (D : RdL zt w i y) (r : Bool) (hF : em_ c y = some r) :
    Calls Tryz.prog 115 #[g, i] w (ln_ w r) := by
 unfold em_ at hF; have hB : Bs (fun _ => 1) (col (fun _ => 1)) w w := Bs.start _ _; refine i_ (n := 26) (vs := [g, i]) Tryz.func115 rfl rfl ?_; refine Zq (Za rfl (Ze [(0, g), (1, i)] (nx (a_ (Zq (Zm rfl (Zv (C_ rfl C Tryz.underlying41) (Zm rfl (Zv (C_ rfl D Tryz.underlying41) (Zv (bK_ rfl rfl) (Ze [(0, g), (1, i), (10, (.bool ((c.length : Int) != (y.length : Int))))] (nx ?_)))))))))))); refine o_ rfl (fun E => ?_) (fun E => ?_)
 ·rw [if_pos E] at hF; refine Zq (Za rfl (Ze [(4, (.bool false))] (nx (m_ (D_ ?_))))); have a7 := Zj hF; subst a7; refine Zr Tryz.results115 [(.bool false)] ?_; exact ⟨rfl, hB.keeps⟩
 ·rw [if_neg (by rw [E]; decide)] at hF; refine g_ (nx (a_ (Zq (Zm rfl (Zv (C_ rfl C Tryz.underlying41) (Zm rfl (Ze [(0, g), (1, i), (12, (ZI (c.length : Int))), (13, ZI 0)] (nx ?_)))))))); obtain ⟨e6, a8, hF⟩ := bind_some hF; obtain ⟨-, h7a, h7b⟩ := cj_ a8; obtain ⟨F, G, hF⟩ := bind_some hF; refine A_ (fun a x => ∃ (q : Tg), F = .inl () ∧ Fr a 26 [] ∧ Bs (fun _ => 1) q w x) (fun a w' => ∃ r', F = .inr r' ∧ bodyPost Tryz.prog Tryz.f115 (ln_ w r') .ret a w') ?_ ?_ ?_
  ·refine f_ ?_; refine z_ (fun (K : Nat) a x => ∃ (b : Int) (q : Tg), forN (fd_ c y) ((c.length : Int) - b).toNat b () = some F ∧ ((c.length : Int) - b).toNat = K ∧ 0 ≤ b ∧ Fr a 26 [(0, g), (1, i), (12, (ZI (c.length : Int))), (13, ZI b)] ∧ Bs (fun _ => 1) q w x) _ (fun a ha => ⟨0, (col (fun _ => 1)), G, rfl, Int.le_refl 0, ha.sub (r := [(0, g), (1, i), (12, (ZI (c.length : Int))), (13, ZI 0)]) ⟨rfl, rfl, rfl, rfl, trivial⟩, hB⟩) ?_; rintro K12 a x ⟨b, q, a6, H, a9, ha, hB⟩; by_cases j : b < (c.length : Int)
   ·obtain ⟨b0, f, z⟩ := bA_ j a6; dsimp only [fd_] at f; refine M_ ha ?_; refine Zq (Zv (t_ rfl rfl) (Ze [(0, g), (1, i), (12, (ZI (c.length : Int))), (13, ZI b), (14, (.bool (decide (b < (c.length : Int)))))] (nx (a_ ?_)))); refine P_ (Zb (decide_eq_true j)) ?_; refine g_ (nx (a_ (f_ (Zq (Zm rfl (Za rfl (Ze [(0, g), (1, i), (5, ZI b), (12, (ZI (c.length : Int))), (13, ZI b)] (nx (a_ ?_))))))))); obtain ⟨A, k, f⟩ := bind_some f; obtain ⟨B, m, f⟩ := bind_some f; refine Z_ (o := q) [(0, g), (1, i), (5, ZI b), (12, (ZI (c.length : Int))), (13, ZI b)] [0, 1, 5, 12, 13] [16, 17, 18, 19, 20, 21, 22, 23] [[], [], [0, 1], [2], [], [], [4, 5], [6]] [none, none, none, none, none, none, none, none] [999, 999, 999, 999, 999, 999, 999, 999] [0, 0, 0, 0, 0, 0, 0, 0] [999] [fun v _ _ => v = g, fun v _ _ => v = (ZI b), fun v o b1 => ∃ vl, v = adr vl (b.toNat * Rp.sz Int) ∧ RdL zt w vl c, fun v _ _ => v = (ZI A), fun v _ _ => v = i, fun v _ _ => v = (ZI b), fun v o b1 => ∃ vl, v = adr vl (b.toNat * Rp.sz Int) ∧ RdL zt w vl y, fun v _ _ => v = (ZI B)] (fun b2 b3 => Bs (fun _ => 1) b2 w b3) E_ (by kernel_rfl) rfl ⟨rfl, rfl, rfl, rfl, rfl, trivial⟩ hB ?_ ⟨q_ _, q_ _, fun _ _ _ _ _ _ b4 hb ⟨vl, e, h⟩ hs => ⟨vl, e, h⟩, q_ _, q_ _, q_ _, fun _ _ _ _ _ _ b4 hb ⟨vl, e, h⟩ hs => ⟨vl, e, h⟩, q_ _, trivial⟩ ?_ ?_
    ·rintro b5 e7 e8 e9 f0 s hB I; have s : b5 = 999 := by simpa using s
     subst s; all_goals exact hB.stp I (by decide)
    ·refine ⟨?_, ?_, ?_, ?_, ?_, ?_, ?_, ?_, trivial⟩
     ·rintro b6 b7 b8 ha hB -; refine Zs ha ?_; refine d_ (h_ rfl) ?_; exact Zx rfl
     ·rintro b9 c0 c1 ha hB -; refine Zs ha ?_; refine d_ (h_ rfl) ?_; exact Zx rfl
     ·rintro c2 c3 c4 ha hB ⟨J, L, -⟩; have ha := Fr.cons (d := 16) ha J; have ha := Fr.cons (d := 17) ha L; refine Zs ha ?_; refine bq_ C k rfl rfl Tryz.underlying41 Tryz.sizeOf3 ?_; exact ⟨_, Stp.refl _ _ _, ⟨_, rfl, C⟩⟩
     ·rintro c5 c6 c7 ha hB ⟨M, -⟩; obtain ⟨c8, N, O⟩ := M; have ha := Fr.cons (d := 18) ha N; refine Zs ha ?_; refine bx_ O k hB rfl rfl Tryz.isAgg3 ?_; intro c9 Q; cases Q
      exact Zx rfl
     ·rintro d0 d1 d2 ha hB -; refine Zs ha ?_; refine d_ (h_ rfl) ?_; exact Zx rfl
     ·rintro d3 d4 d5 ha hB -; refine Zs ha ?_; refine d_ (h_ rfl) ?_; exact Zx rfl
     ·rintro d6 d7 d8 ha hB ⟨R, S, -⟩; have ha := Fr.cons (d := 20) ha R; have ha := Fr.cons (d := 21) ha S; refine Zs ha ?_; refine bq_ D m rfl rfl Tryz.underlying41 Tryz.sizeOf3 ?_; exact ⟨_, Stp.refl _ _ _, ⟨_, rfl, D⟩⟩
     ·rintro d9 e0 e1 ha hB ⟨T, -⟩; obtain ⟨e2, U, V⟩ := T; have ha := Fr.cons (d := 22) ha U; refine Zs ha ?_; refine bx_ V m hB rfl rfl Tryz.isAgg3 ?_; intro e3 W; cases W
      exact Zx rfl
    rintro X e4 e5 ha hB ⟨-, -, -, Y, -, -, -, Z, -⟩; have ha := Fr.cons (d := 19) ha Y; have ha := Fr.cons (d := 23) ha Z; refine aV_ ha ?_; simp only [List.length_cons, List.length_nil, Nat.zero_add, Nat.reduceAdd, List.drop_succ_cons, List.drop_zero]; refine Zv (bK_ rfl rfl) (Ze [(0, g), (1, i), (12, (ZI (c.length : Int))), (13, ZI b), (24, (.bool (A != B)))] (nx ?_)); refine o_ rfl (fun u => ?_) (fun u => ?_)
    ·rw [if_pos u] at f; refine Zq (Za rfl (Ze [(4, (.bool false))] (nx (m_ (ac_ (D_ (D_ (ac_ ?_)))))))); refine bQ_ ?_; have a0 := Zj f; subst a0; refine fun a ha => ⟨_, z, ?_⟩; refine H_ (P := Tryz.prog) (vs := [(.bool false)]) Tryz.results115 ⟨rfl, trivial⟩ ?_ a ha; exact ⟨rfl, hB.keeps⟩
    ·rw [if_neg (by rw [u]; decide)] at f; refine g_ (y_ (nx (c_ (Zv (F_ rfl rfl (G_ (by omega) (by omega))) (Zm rfl (Ze [(0, g), (1, i), (12, (ZI (c.length : Int))), (13, (ZI (b + 1)))] (w_ ?_))))))); have a1 := Zj f; subst a1; refine Zk [(0, g), (1, i), (12, (ZI (c.length : Int))), (13, (ZI (b + 1)))] ?_; intro a ha; exact ⟨_, (by rw [← H]; omega), b + 1, X, z, rfl, (by omega), ha, hB⟩
   ·have a2 := bw_ j a6; refine M_ ha ?_; refine Zq (Zv (t_ rfl rfl) (Ze [(0, g), (1, i), (12, (ZI (c.length : Int))), (13, ZI b), (14, (.bool (decide (b < (c.length : Int)))))] (nx (a_ ?_)))); refine J_ (Zb (decide_eq_false j)) ?_; refine v_ ?_; refine r_ (r_ (Q_ ?_)); refine s_ ?_; refine Zk [] ?_; intro a ha; exact ⟨q, a2, ha, hB⟩
  ·rintro a x ⟨q, rfl, ha, hB⟩; dsimp only at hF; refine ap_k ha ?_; refine Zn (Za rfl (Ze [(4, (.bool true))] (nx (m_ ?_)))); have a3 := Zj hF; subst a3; refine Zr Tryz.results115 [(.bool true)] ?_; exact ⟨rfl, hB.keeps⟩
  ·rintro a x ⟨r', rfl, a4⟩; dsimp only at hF; have a5 := Zj hF; subst a5; exact a4
def cP_ (d : List Int) : Int → Int → (List Int) → Option (Lp (List Int) (List Int) (List Int)) := fun (f : Int) (a : Int) (s : List Int) =>
  (ix d a) >>= fun b =>
  (push s b) >>= fun c =>
  some (.go c)
def ds_ (a : List Int) (b : List Int) : Option (List Int) :=
  (forI (cP_ a) b 0 []) >>= fun c =>
  match c with
  | .inl d =>
    some d
  | .inr _ => none

def kR_ (oo : Tg) (t : Nat) (w : World) (r : Yl) : Ending → World → Prop := fun e w' => ∃ (a : Value) (o' : Tg), e = .returned (a) ∧ Ow w.heap.size 3 t o' w' a r ∧ Keeps w w' ∧ ∀ b, b < w.heap.size → o' b = oo b
theorem ih_ (w : World) (oo : Tg) (t : Nat) (ht : 2 ≤ t) (d : Value) (B : Yl) (X : RdL zt w d B) (f : Value) (b : Yl) (C : RdL zt w f b) (r : Yl) (hF : ds_ B b = some r) :
    Calls Tryz.prog 130 #[d, f] w (kR_ oo t w r) := by
 unfold ds_ at hF; have hB : Bs oo (col oo) w w := Bs.start _ _; refine i_ (n := 23) (vs := [d, f]) Tryz.func130 rfl rfl ?_; generalize col oo = o at *; refine Zq (Za rfl (Ze [(0, d), (1, f)] (Zn (Za rfl (Ze [(0, d), (1, f), (5, (.slice none 0 0))] (nx (a_ (Zq (Zm rfl (Zv (C_ rfl C Tryz.underlying41) (Zm rfl (Ze [(0, d), (5, (.slice none 0 0)), (8, f), (9, (ZI (b.length : Int))), (10, ZI 0)] ?_)))))))))))); refine nx ?_; have Y : Ow w.heap.size 3 11 o w (.slice none 0 0) ([] : Yl) := Ow.nil _ _ _ _ _; obtain ⟨V, D, hF⟩ := bind_some hF; refine A_ (fun a s => ∃ (q : Yl) (g : Value) (j : Tg), V = .inl q ∧ Fr a 23 [(5, g)] ∧ Bs oo j w s ∧ Ow w.heap.size 3 11 j s g q) (fun _ _ => False) ?_ ?_ ?_
 ·refine f_ ?_; refine z_ (fun (K : Nat) a s => ∃ (c : Int) (q : Yl) (g : Value) (j : Tg), forI (cP_ B) (b.drop c.toNat) c q = some V ∧ (b.drop c.toNat).length = K ∧ 0 ≤ c ∧ Fr a 23 [(0, d), (5, g), (8, f), (9, (ZI (b.length : Int))), (10, ZI c)] ∧ Bs oo j w s ∧ Ow w.heap.size 3 11 j s g q) _ (fun a ha => ⟨0, [], (.slice none 0 0), o, D, rfl, Int.le_refl 0, ha.sub (r := [(0, d), (5, (.slice none 0 0)), (8, f), (9, (ZI (b.length : Int))), (10, ZI 0)]) ⟨rfl, rfl, rfl, rfl, rfl, trivial⟩, hB, Y⟩) ?_; rintro K12 a s ⟨c, q, g, j, W, E, F, ha, hB, v⟩; by_cases k : c < (b.length : Int)
  ·obtain ⟨G, Z, x, i, H⟩ := V_ F k W; have hle := C.len_le; dsimp only [cP_] at i; refine M_ ha ?_; refine Zq (Zv (t_ rfl rfl) (Ze [(0, d), (5, g), (8, f), (9, (ZI (b.length : Int))), (10, ZI c), (11, (.bool (decide (c < (b.length : Int)))))] (nx (a_ ?_)))); refine P_ (Zb (decide_eq_true k)) ?_; refine g_ (nx (a_ (f_ (Zq (Zo ?_))))); refine wf_atZ C x hB rfl rfl Tryz.underlying41 Tryz.sizeOf3 ?_; intro a0 a1 a2 I J; cases J
   refine Zv (e_ rfl Tryz.isAgg3 (j_ I)) (Za rfl (Ze [(0, d), (5, g), (7, ZI G), (8, f), (9, (ZI (b.length : Int))), (10, ZI c)] (nx (c_ (Zm rfl (Zm rfl (Zm rfl ?_))))))); obtain ⟨u, y, i⟩ := bind_some i; refine Zo ?_; refine wf_atZ X y hB rfl rfl Tryz.underlying41 Tryz.sizeOf3 ?_; intro a3 a4 a5 L M; cases M
   refine Zv (e_ rfl Tryz.isAgg3 (j_ L)) (Zo ?_); refine aL_ (o := j) (cs := [(ZI u)]) (xs := ([u] : Yl)) (vs := [(0, ZI u)]) ⟨_, _, rfl, rfl, rfl⟩ rfl ⟨rfl, rfl, trivial⟩ Tryz.underlying41 Tryz.sizeOf3 Tryz.zeroValue3 (by decide) (fill1 rfl) (by simp) ?_; intro a6 a7 a8 N z a9; replace v := v.stp z; replace hB := hB.stp z; obtain ⟨O, A, i⟩ := bind_some i; refine Zo ?_; refine bo_ v N (au_ A) (by decide) hB.keeps.size rfl rfl Tryz.underlying41 dc_ rfl (by decide) ?_; intro P b0 m Q R; replace hB := hB.stp R; refine Za rfl (Ze [(0, d), (5, m), (8, f), (9, (ZI (b.length : Int))), (10, ZI c)] (y_ (nx (c_ (Zv (F_ rfl rfl (G_ (by omega) (by omega))) (Zm rfl (Ze [(0, d), (5, m), (8, f), (9, (ZI (b.length : Int))), (10, (ZI (c + 1)))] (w_ ?_)))))))); have S := Zj i; subst S; refine Zk [(0, d), (5, m), (8, f), (9, (ZI (b.length : Int))), (10, (ZI (c + 1)))] ?_; intro a ha; exact ⟨_, (by rw [← E]; simp only [List.length_drop]; omega), c + 1, O, m, P, H, rfl, (by omega), ha, hB, Q⟩
  ·have T := W_ k W; refine M_ ha ?_; refine Zq (Zv (t_ rfl rfl) (Ze [(0, d), (5, g), (8, f), (9, (ZI (b.length : Int))), (10, ZI c), (11, (.bool (decide (c < (b.length : Int)))))] (nx (a_ ?_)))); refine J_ (Zb (decide_eq_false k)) ?_; refine v_ ?_; refine r_ (r_ (Q_ ?_)); refine s_ ?_; refine Zk [(5, g)] ?_; intro a ha; exact ⟨q, g, j, T, ha, hB, v⟩
 ·rintro a s ⟨q, g, j, rfl, ha, hB, v⟩; dsimp only at hF; refine ap_k ha ?_; refine Zn (Zm rfl (Za rfl (Ze [(4, g)] (nx (m_ ?_))))); have U := Zj hF; subst U; refine Zr Tryz.results130 [g] ?_; exact ⟨_, rt oo j w.heap.size 11 t, rfl, v.rt hB (by decide) t, hB.keeps, af_ _ _ _ _ _⟩
 ·exact fun _ _ h => h.elim
def ez_ (g : List Int) : Int → Int → Unit → Option (Lp Unit Unit Int) := fun (i : Int) (a : Int) (s : Unit) =>
  (ix g i) >>= fun b =>
  if a != b then
    (ix g i) >>= fun c =>
    (ck (a - c)) >>= fun d =>
    (gz_ d) >>= fun f =>
    some (.ret f)
  else
    some (.go ())
def dX_ (a : List Int) (b : List Int) : Option Int :=
  (forI (ez_ b) a 0 ()) >>= fun c =>
  match c with
  | .inl _ =>
    some 0
  | .inr r' => some r'

def jH_ (w : World) (r : Int) : Ending → World → Prop := fun e w' => e = .returned (.int .i64 r) ∧ Keeps w w'
theorem kf_ (w : World) (f : Value) (d : Yl) (B : RdL zt w f d) (g : Value) (C : Yl) (X : RdL zt w g C) (r : Int) (hF : dX_ d C = some r) :
    Calls Tryz.prog 107 #[f, g] w (jH_ w r) := by
 unfold dX_ at hF; have hB : Bs (fun _ => 1) (col (fun _ => 1)) w w := Bs.start _ _; refine i_ (n := 28) (vs := [f, g]) Tryz.func107 rfl rfl ?_; refine Zq (Za rfl (Ze [(0, f), (1, g)] (nx (a_ (Zq (Zm rfl (Zv (C_ rfl B Tryz.underlying41) (Zm rfl (Ze [(1, g), (7, f), (8, (ZI (d.length : Int))), (9, ZI 0)] (nx ?_)))))))))); obtain ⟨D, E, hF⟩ := bind_some hF; refine A_ (fun a k => ∃ (j : Tg), D = .inl () ∧ Fr a 28 [] ∧ Bs (fun _ => 1) j w k) (fun a w' => ∃ r', D = .inr r' ∧ bodyPost Tryz.prog Tryz.f107 (jH_ w r') .ret a w') ?_ ?_ ?_
 ·refine f_ ?_; refine z_ (fun (K : Nat) a k => ∃ (c : Int) (j : Tg), forI (ez_ C) (d.drop c.toNat) c () = some D ∧ (d.drop c.toNat).length = K ∧ 0 ≤ c ∧ Fr a 28 [(1, g), (7, f), (8, (ZI (d.length : Int))), (9, ZI c)] ∧ Bs (fun _ => 1) j w k) _ (fun a ha => ⟨0, (col (fun _ => 1)), E, rfl, Int.le_refl 0, ha.sub (r := [(1, g), (7, f), (8, (ZI (d.length : Int))), (9, ZI 0)]) ⟨rfl, rfl, rfl, rfl, trivial⟩, hB⟩) ?_; rintro K8 a k ⟨c, j, Y, Z, a0, ha, hB⟩; by_cases i : c < (d.length : Int)
  ·obtain ⟨m, b3, u, b, v⟩ := V_ a0 i Y; have hle := B.len_le; dsimp only [ez_] at b; refine M_ ha ?_; refine Zq (Zv (t_ rfl rfl) (Ze [(1, g), (7, f), (8, (ZI (d.length : Int))), (9, ZI c), (10, (.bool (decide (c < (d.length : Int)))))] (nx (a_ ?_)))); refine P_ (Zb (decide_eq_true i)) ?_; refine g_ (nx (a_ (f_ (Zq (Zm rfl (Zo ?_)))))); refine wf_atZ B u hB rfl rfl Tryz.underlying41 Tryz.sizeOf3 ?_; intro a1 a2 a3 F G; cases G
   refine Zv (e_ rfl Tryz.isAgg3 (j_ F)) (Za rfl (Za rfl (Ze [(1, g), (5, ZI c), (6, ZI m), (7, f), (8, (ZI (d.length : Int))), (9, ZI c)] (Zn (Zm rfl (Zm rfl (Zm rfl ?_))))))); obtain ⟨H, x, b⟩ := bind_some b; refine Zo ?_; refine wf_atZ X x hB rfl rfl Tryz.underlying41 Tryz.sizeOf3 ?_; intro a4 a5 a6 I J; cases J
   refine Zv (e_ rfl Tryz.isAgg3 (j_ I)) (Zv (bK_ rfl rfl) (Ze [(1, g), (5, ZI c), (6, ZI m), (7, f), (8, (ZI (d.length : Int))), (9, ZI c), (19, (.bool (m != H)))] (nx ?_))); refine o_ rfl (fun q => ?_) (fun q => ?_)
   ·rw [if_pos q] at b; refine Zq (Zm rfl (Zm rfl (Zm rfl ?_))); obtain ⟨a7, y, b⟩ := bind_some b; refine Zo ?_; refine wf_atZ X y hB rfl rfl Tryz.underlying41 Tryz.sizeOf3 ?_; intro a8 a9 b0 L M; cases M
    refine Zv (e_ rfl Tryz.isAgg3 (j_ L)) ?_; obtain ⟨N, z, b⟩ := bind_some b; refine Zv (bt_ rfl rfl z) ?_; obtain ⟨s, A, b⟩ := bind_some b; refine Zo ?_; refine p_ (pB_ k N s A) Tryz.call154 ⟨rfl, trivial⟩ ?_; rintro b1 b2 ⟨rfl, O⟩; have Q := O.stp 999 j; refine ⟨_, rfl, ?_⟩; replace hB := hB.stp Q; refine Za rfl (Ze [(4, ZI s)] (nx (m_ (ac_ (D_ (D_ (ac_ ?_))))))); refine bQ_ ?_; have R := Zj b; subst R; refine fun a ha => ⟨_, v, ?_⟩; refine H_ (P := Tryz.prog) (vs := [(ZI s)]) Tryz.results107 ⟨rfl, trivial⟩ ?_ a ha; exact ⟨rfl, hB.keeps⟩
   ·rw [if_neg (by rw [q]; decide)] at b; refine g_ (y_ (nx (c_ (Zv (F_ rfl rfl (G_ (by omega) (by omega))) (Zm rfl (Ze [(1, g), (7, f), (8, (ZI (d.length : Int))), (9, (ZI (c + 1)))] (w_ ?_))))))); have S := Zj b; subst S; refine Zk [(1, g), (7, f), (8, (ZI (d.length : Int))), (9, (ZI (c + 1)))] ?_; intro a ha; exact ⟨_, (by rw [← Z]; simp only [List.length_drop]; omega), c + 1, j, v, rfl, (by omega), ha, hB⟩
  ·have T := W_ i Y; refine M_ ha ?_; refine Zq (Zv (t_ rfl rfl) (Ze [(1, g), (7, f), (8, (ZI (d.length : Int))), (9, ZI c), (10, (.bool (decide (c < (d.length : Int)))))] (nx (a_ ?_)))); refine J_ (Zb (decide_eq_false i)) ?_; refine v_ ?_; refine r_ (r_ (Q_ ?_)); refine s_ ?_; refine Zk [] ?_; intro a ha; exact ⟨j, T, ha, hB⟩
 ·rintro a k ⟨j, rfl, ha, hB⟩; dsimp only at hF; refine ap_k ha ?_; refine Zn (Za rfl (Ze [(4, ZI 0)] (nx (m_ ?_)))); have U := Zj hF; subst U; refine Zr Tryz.results107 [(ZI 0)] ?_; exact ⟨rfl, hB.keeps⟩
 ·rintro a k ⟨r', rfl, V⟩; dsimp only at hF; have W := Zj hF; subst W; exact V
def cb_ : ((List Int) × Int) → Option (Lp ((List Int) × Int) ((List Int) × Int) (List Int)) := fun (s : (List Int) × Int) =>
  (
    if decide (s.2 > 0) then
      (ck (s.2 - 1)) >>= fun j =>
      (ix s.1 j) >>= fun k =>
      (ix s.1 s.2) >>= fun m =>
      some (decide (k > m))
    else
      some false) >>= fun n =>
  if n then
    (ix s.1 s.2) >>= fun c =>
    (ck (s.2 - 1)) >>= fun d =>
    (ix s.1 d) >>= fun f =>
    (ix s.1 s.2) >>= fun q =>
    (st s.1 s.2 f) >>= fun a =>
    (ck (s.2 - 1)) >>= fun b =>
    (ix a b) >>= fun u =>
    (st a b c) >>= fun g =>
    (ck (s.2 - 1)) >>= fun i =>
    some (.go (g, i))
  else
    some (.out (s.1, s.2))
def ce_ (fuel : Nat) : Int → (List Int) → Option (Lp (List Int) (List Int) (List Int)) := fun (a : Int) (s : List Int) =>
  (loopF (cb_) fuel (s, a)) >>= fun b =>
  match b with
  | .inl (c, d) =>
    some (.go c)
  | .inr _ => none
def cM_ (fuel : Nat) (d : List Int) : Option (List Int) :=
  (ed_ d) >>= fun a =>
  ck (a.length : Int) >>= fun _ =>
  (forN (ce_ fuel) ((a.length : Int)).toNat 0 a) >>= fun b =>
  match b with
  | .inl c =>
    some c
  | .inr _ => none

def mC_ (oo : Tg) (t : Nat) (w : World) (r : Yl) : Ending → World → Prop := fun e w' => ∃ (a : Value) (o' : Tg), e = .returned (a) ∧ Ow w.heap.size 3 t o' w' a r ∧ Keeps w w' ∧ ∀ b, b < w.heap.size → o' b = oo b
theorem fG_ (fuel : Nat) (w : World) (oo : Tg) (t : Nat) (ht : 2 ≤ t) (f6 : Value) (f8 : Yl) (p4 : RdL zt w f6 f8) (r : Yl) (hF : cM_ fuel f8 = some r) :
    Calls Tryz.prog 121 #[f6] w (mC_ oo t w r) := by
 unfold cM_ at hF; have hB : Bs oo (col oo) w w := Bs.start _ _; refine i_ (n := 50) (vs := [f6]) Tryz.func121 rfl rfl ?_; generalize col oo = o at *; refine Zq (Za rfl (Ze [(0, f6)] (Zn (Zm rfl ?_)))); obtain ⟨m, f9, hF⟩ := bind_some hF; refine Zo ?_; refine p_ (gN_ w o 11 (by decide) _ f8 (p4.keep hB.keeps) m f9) Tryz.call66 ⟨rfl, trivial⟩ ?_; rintro t9 i4 ⟨j, p5, rfl, f7, p6, p7⟩; have p8 := p6.stp' 11 p7; replace f7 := f7.mono hB.keeps.size; refine ⟨_, rfl, ?_⟩; replace hB := hB.stp p8; refine Za rfl (Ze [(3, j)] (nx (a_ (Zq (Zm rfl (Zv (bM_ rfl f7 Tryz.underlying41) (Zm rfl (Ze [(3, j), (10, (ZI (m.length : Int))), (11, ZI 0)] (nx ?_))))))))); obtain ⟨p9, g0, hF⟩ := bind_some hF; obtain ⟨-, h16a, h16b⟩ := cj_ g0; obtain ⟨X, Y, hF⟩ := bind_some hF; refine A_ (fun a y => ∃ (x : Yl) (s : Tg), X = .inl x ∧ Fr a 50 [(3, j)] ∧ Bs oo s w y ∧ Ow w.heap.size 3 11 s y j x) (fun _ _ => False) ?_ ?_ ?_
 ·refine f_ ?_; refine z_ (fun (K : Nat) a y => ∃ (c : Int) (x : Yl) (s : Tg), forN (ce_ fuel) ((m.length : Int) - c).toNat c x = some X ∧ ((m.length : Int) - c).toNat = K ∧ 0 ≤ c ∧ Fr a 50 [(3, j), (10, (ZI (m.length : Int))), (11, ZI c)] ∧ Bs oo s w y ∧ Ow w.heap.size 3 11 s y j x) _ (fun a ha => ⟨0, m, p5, Y, rfl, Int.le_refl 0, ha.sub (r := [(3, j), (10, (ZI (m.length : Int))), (11, ZI 0)]) ⟨rfl, rfl, rfl, trivial⟩, hB, f7⟩) ?_; rintro K21 a y ⟨c, x, s, Z, g1, q0, ha, hB, G⟩; by_cases H : c < (m.length : Int)
  ·obtain ⟨q1, B, g2⟩ := bA_ H Z; dsimp only [ce_] at B; refine M_ ha ?_; refine Zq (Zv (t_ rfl rfl) (Ze [(3, j), (10, (ZI (m.length : Int))), (11, ZI c), (12, (.bool (decide (c < (m.length : Int)))))] (nx (a_ ?_)))); refine P_ (Zb (decide_eq_true H)) ?_; refine g_ (nx (a_ (f_ (Zq (Zm rfl (Za rfl (Ze [(3, j), (4, ZI c), (10, (ZI (m.length : Int))), (11, ZI c)] (Zn (Zm rfl (Za rfl (Ze [(3, j), (5, ZI c), (10, (ZI (m.length : Int))), (11, ZI c)] (nx ?_)))))))))))); obtain ⟨a0, a1, B⟩ := bind_some B; refine A_ (fun a z => ∃ (q : Yl) (f : Int) (u : Tg), a0 = .inl (q, f) ∧ Fr a 50 [(3, j), (10, (ZI (m.length : Int))), (11, ZI c)] ∧ Bs oo u w z ∧ Ow w.heap.size 3 11 u z j q) (fun _ _ => False) ?_ ?_ ?_
   ·refine f_ ?_; refine z_ (fun (K : Nat) a z => ∃ (q : Yl) (f : Int) (u : Tg), loopF (cb_) K (q, f) = some a0 ∧ Fr a 50 [(3, j), (5, ZI f), (10, (ZI (m.length : Int))), (11, ZI c)] ∧ Bs oo u w z ∧ Ow w.heap.size 3 11 u z j q) fuel (fun a ha => ⟨x, c, s, a1, ha.sub (r := [(3, j), (5, ZI c), (10, (ZI (m.length : Int))), (11, ZI c)]) ⟨rfl, rfl, rfl, rfl, trivial⟩, hB, G⟩) ?_; rintro K35 a z ⟨q, f, u, g3, ha, hB, b⟩; obtain ⟨K39, q2, q3, g, a2⟩ := Y_ g3; dsimp only [cb_] at g; refine M_ ha ?_; refine a_ (a_ ?_); obtain ⟨g4, k, g⟩ := bind_some g; refine A_ (fun g5 N => ∃ C : Tg, Fr g5 50 [(3, j), (5, ZI f), (10, (ZI (m.length : Int))), (11, ZI c), (28, (.bool g4))] ∧ Bs oo C w N ∧ Ow w.heap.size 3 11 C N j q) (fun _ _ => False) ?_ ?_ (fun _ _ h => h.elim)
    ·rcases Bool.eq_false_or_eq_true (decide (f > 0)) with i | i
     ·rw [if_pos i] at k; obtain ⟨a3, a4, k⟩ := bind_some k; obtain ⟨a5, I, k⟩ := bind_some k; obtain ⟨a6, J, k⟩ := bind_some k; refine Z_ (o := u) [(3, j), (5, ZI f), (10, (ZI (m.length : Int))), (11, ZI c)] [3, 5, 10, 11] [15, 16, 17, 18, 19, 20, 21, 22, 23, 24, 25, 26] [[], [0], [1], [2], [2], [2, 4], [2, 3, 5], [2, 6], [2], [2], [2, 8, 9], [2, 10]] [none, none, none, none, none, none, none, none, none, none, none, none] [999, 999, 999, 999, 999, 999, 999, 999, 999, 999, 999, 999] [0, 0, 0, 0, 0, 0, 11, 0, 0, 0, 11, 0] [999] [fun v _ _ => v = (ZI f), fun v _ _ => v = (.bool (decide (f > 0))), fun v _ _ => v = (.bool (decide (f > 0))), fun v _ _ => v = j, fun v _ _ => v = (ZI f), fun v _ _ => v = (ZI a3), fun v o g6 => ∃ vl, v = adr vl (a3.toNat * Rp.sz Int) ∧ Ow w.heap.size 3 11 o g6 vl q, fun v _ _ => v = (ZI a5), fun v _ _ => v = j, fun v _ _ => v = (ZI f), fun v o g6 => ∃ vl, v = adr vl (f.toNat * Rp.sz Int) ∧ Ow w.heap.size 3 11 o g6 vl q, fun v _ _ => v = (ZI a6)] (fun a7 a8 => Bs oo a7 w a8 ∧ Ow w.heap.size 3 11 a7 a8 j q) E_ (by kernel_rfl) rfl ⟨rfl, rfl, rfl, rfl, trivial⟩ ⟨hB, b⟩ ?_ ⟨q_ _, q_ _, q_ _, q_ _, q_ _, q_ _, fun _ _ _ _ _ _ g7 hb ⟨vl, e, h⟩ hs => ⟨vl, e, h.stp hs g7.1 (Ne.symm hb)⟩, q_ _, q_ _, q_ _, fun _ _ _ _ _ _ g7 hb ⟨vl, e, h⟩ hs => ⟨vl, e, h.stp hs g7.1 (Ne.symm hb)⟩, q_ _, trivial⟩ ?_ ?_
      ·rintro g8 q4 q5 q6 i4 A ⟨hB, b⟩ D; have A : g8 = 999 := by simpa using A
       subst A; all_goals exact ⟨hB.stp D (by decide), b.stp D (by decide) (by decide)⟩
      ·refine ⟨?_, ?_, ?_, ?_, ?_, ?_, ?_, ?_, ?_, ?_, ?_, ?_, trivial⟩
       ·rintro q7 q8 q9 ha ⟨hB, b⟩ -; refine Zs ha ?_; refine d_ (h_ rfl) ?_; exact Zx rfl
       ·rintro r0 r1 r2 ha ⟨hB, b⟩ ⟨g9, -⟩; have ha := Fr.cons (d := 15) ha g9; refine Zs ha ?_; refine d_ (dR_ rfl rfl) ?_; exact Zx rfl
       ·rintro r3 r4 r5 ha ⟨hB, b⟩ ⟨h0, -⟩; have ha := Fr.cons (d := 16) ha h0; refine Zs ha ?_; refine d_ (h_ rfl) ?_; exact Zx rfl
       ·rintro r6 r7 r8 ha ⟨hB, b⟩ ⟨h1, -⟩; have ha := Fr.cons (d := 17) ha h1; refine ap_ ha (⟨_, rfl, (Zb i)⟩) ?_; refine d_ (h_ rfl) ?_; exact Zx rfl
       ·rintro r9 s0 s1 ha ⟨hB, b⟩ ⟨h2, -⟩; have ha := Fr.cons (d := 17) ha h2; refine ap_ ha (⟨_, rfl, (Zb i)⟩) ?_; refine d_ (h_ rfl) ?_; exact Zx rfl
       ·rintro s2 s3 s4 ha ⟨hB, b⟩ ⟨h3, h4, -⟩; have ha := Fr.cons (d := 17) ha h3; have ha := Fr.cons (d := 19) ha h4; refine ap_ ha (⟨_, rfl, (Zb i)⟩) ?_; refine d_ (bt_ rfl rfl a4) ?_; exact Zx rfl
       ·rintro s5 s6 s7 ha ⟨hB, b⟩ ⟨h5, h6, h7, -⟩; have ha := Fr.cons (d := 17) ha h5; have ha := Fr.cons (d := 18) ha h6; have ha := Fr.cons (d := 20) ha h7; refine ap_ ha (⟨_, rfl, (Zb i)⟩) ?_; refine gs_ b I rfl rfl Tryz.underlying41 Tryz.sizeOf3 ?_; exact ⟨_, Stp.refl _ _ _, ⟨_, rfl, b⟩⟩
       ·rintro s8 s9 t0 ha ⟨hB, b⟩ ⟨h8, h9, -⟩; have ha := Fr.cons (d := 17) ha h8; obtain ⟨t1, i0, i1⟩ := h9; have ha := Fr.cons (d := 21) ha i0; refine ap_ ha (⟨_, rfl, (Zb i)⟩) ?_; refine eP_ i1 I rfl rfl Tryz.isAgg3 ?_; intro t2 i2; cases i2
        exact Zx rfl
       ·rintro t3 t4 t5 ha ⟨hB, b⟩ ⟨i3, -⟩; have ha := Fr.cons (d := 17) ha i3; refine ap_ ha (⟨_, rfl, (Zb i)⟩) ?_; refine d_ (h_ rfl) ?_; exact Zx rfl
       ·rintro t6 t7 t8 ha ⟨hB, b⟩ ⟨a9, -⟩; have ha := Fr.cons (d := 17) ha a9; refine ap_ ha (⟨_, rfl, (Zb i)⟩) ?_; refine d_ (h_ rfl) ?_; exact Zx rfl
       ·rintro i5 i6 i7 ha ⟨hB, b⟩ ⟨b0, b1, b2, -⟩; have ha := Fr.cons (d := 17) ha b0; have ha := Fr.cons (d := 23) ha b1; have ha := Fr.cons (d := 24) ha b2; refine ap_ ha (⟨_, rfl, (Zb i)⟩) ?_; refine gs_ b J rfl rfl Tryz.underlying41 Tryz.sizeOf3 ?_; exact ⟨_, Stp.refl _ _ _, ⟨_, rfl, b⟩⟩
       ·rintro i8 i9 j0 ha ⟨hB, b⟩ ⟨b3, b4, -⟩; have ha := Fr.cons (d := 17) ha b3; obtain ⟨j1, b5, b6⟩ := b4; have ha := Fr.cons (d := 25) ha b5; refine ap_ ha (⟨_, rfl, (Zb i)⟩) ?_; refine eP_ b6 J rfl rfl Tryz.isAgg3 ?_; intro j2 b7; cases b7
        exact Zx rfl
      rintro b8 j3 j4 ha ⟨hB, b⟩ ⟨-, -, b9, -, -, -, -, c0, -, -, -, c1, -⟩; have ha := Fr.cons (d := 17) ha b9; have ha := Fr.cons (d := 22) ha c0; have ha := Fr.cons (d := 26) ha c1; refine aV_ ha ?_; simp only [List.length_cons, List.length_nil, Nat.zero_add, Nat.reduceAdd, List.drop_succ_cons, List.drop_zero]; refine k_ (dR_ rfl rfl) (by decide) ⟨_, rfl, (Zb i)⟩ (Zv (x_ (Zb i) rfl) ?_); have c2 := Zj k; subst c2; refine Ze [(3, j), (5, ZI f), (10, (ZI (m.length : Int))), (11, ZI c), (28, (.bool (decide (a5 > a6))))] ?_; refine s_ (fun a ha => ⟨b8, ha, hB, b⟩)
     ·rw [if_neg (by rw [i]; decide)] at k; refine Z_ (o := u) [(3, j), (5, ZI f), (10, (ZI (m.length : Int))), (11, ZI c)] [3, 5, 10, 11] [15, 16, 17, 18, 19, 20, 21, 22, 23, 24, 25, 26] [[], [0], [1], [2], [2], [2], [2], [2], [2], [2], [2], [2]] [none, none, none, none, none, none, none, none, none, none, none, none] [999, 999, 999, 999, 999, 999, 999, 999, 999, 999, 999, 999] [0, 0, 0, 0, 0, 0, 0, 0, 0, 0, 0, 0] [999] [fun v _ _ => v = (ZI f), fun v _ _ => v = (.bool (decide (f > 0))), fun v _ _ => v = (.bool (decide (f > 0))), fun v _ _ => v = undef, fun v _ _ => v = undef, fun v _ _ => v = undef, fun v _ _ => v = undef, fun v _ _ => v = undef, fun v _ _ => v = undef, fun v _ _ => v = undef, fun v _ _ => v = undef, fun v _ _ => v = undef] (fun a7 a8 => Bs oo a7 w a8 ∧ Ow w.heap.size 3 11 a7 a8 j q) E_ (by kernel_rfl) rfl ⟨rfl, rfl, rfl, rfl, trivial⟩ ⟨hB, b⟩ ?_ ⟨q_ _, q_ _, q_ _, q_ _, q_ _, q_ _, q_ _, q_ _, q_ _, q_ _, q_ _, q_ _, trivial⟩ ?_ ?_
      ·rintro g8 q4 q5 q6 i4 A ⟨hB, b⟩ D; have A : g8 = 999 := by simpa using A
       subst A; all_goals exact ⟨hB.stp D (by decide), b.stp D (by decide) (by decide)⟩
      ·refine ⟨?_, ?_, ?_, ?_, ?_, ?_, ?_, ?_, ?_, ?_, ?_, ?_, trivial⟩
       ·rintro j5 j6 j7 ha ⟨hB, b⟩ -; refine Zs ha ?_; refine d_ (h_ rfl) ?_; exact Zx rfl
       ·rintro j8 j9 k0 ha ⟨hB, b⟩ ⟨c3, -⟩; have ha := Fr.cons (d := 15) ha c3; refine Zs ha ?_; refine d_ (dR_ rfl rfl) ?_; exact Zx rfl
       ·rintro k1 k2 k3 ha ⟨hB, b⟩ ⟨c4, -⟩; have ha := Fr.cons (d := 16) ha c4; refine Zs ha ?_; refine d_ (h_ rfl) ?_; exact Zx rfl
       ·rintro k4 k5 k6 ha ⟨hB, b⟩ ⟨c5, -⟩; have ha := Fr.cons (d := 17) ha c5; exact az_ ha rfl rfl rfl (by rw [i]; rfl) ⟨_, Stp.refl _ _ _, rfl⟩
       ·rintro k7 k8 k9 ha ⟨hB, b⟩ ⟨c6, -⟩; have ha := Fr.cons (d := 17) ha c6; exact az_ ha rfl rfl rfl (by rw [i]; rfl) ⟨_, Stp.refl _ _ _, rfl⟩
       ·rintro l0 l1 l2 ha ⟨hB, b⟩ ⟨c7, -⟩; have ha := Fr.cons (d := 17) ha c7; exact az_ ha rfl rfl rfl (by rw [i]; rfl) ⟨_, Stp.refl _ _ _, rfl⟩
       ·rintro l3 l4 l5 ha ⟨hB, b⟩ ⟨c8, -⟩; have ha := Fr.cons (d := 17) ha c8; exact az_ ha rfl rfl rfl (by rw [i]; rfl) ⟨_, Stp.refl _ _ _, rfl⟩
       ·rintro l6 l7 l8 ha ⟨hB, b⟩ ⟨c9, -⟩; have ha := Fr.cons (d := 17) ha c9; exact az_ ha rfl rfl rfl (by rw [i]; rfl) ⟨_, Stp.refl _ _ _, rfl⟩
       ·rintro l9 m0 m1 ha ⟨hB, b⟩ ⟨d0, -⟩; have ha := Fr.cons (d := 17) ha d0; exact az_ ha rfl rfl rfl (by rw [i]; rfl) ⟨_, Stp.refl _ _ _, rfl⟩
       ·rintro m2 m3 m4 ha ⟨hB, b⟩ ⟨d1, -⟩; have ha := Fr.cons (d := 17) ha d1; exact az_ ha rfl rfl rfl (by rw [i]; rfl) ⟨_, Stp.refl _ _ _, rfl⟩
       ·rintro m5 m6 m7 ha ⟨hB, b⟩ ⟨d2, -⟩; have ha := Fr.cons (d := 17) ha d2; exact az_ ha rfl rfl rfl (by rw [i]; rfl) ⟨_, Stp.refl _ _ _, rfl⟩
       ·rintro m8 m9 n0 ha ⟨hB, b⟩ ⟨d3, -⟩; have ha := Fr.cons (d := 17) ha d3; exact az_ ha rfl rfl rfl (by rw [i]; rfl) ⟨_, Stp.refl _ _ _, rfl⟩
      rintro d4 n1 n2 ha ⟨hB, b⟩ ⟨-, -, d5, -, -, -, -, d6, -, -, -, d7, -⟩; have ha := Fr.cons (d := 17) ha d5; have ha := Fr.cons (d := 22) ha d6; have ha := Fr.cons (d := 26) ha d7; refine aV_ ha ?_; simp only [List.length_cons, List.length_nil, Nat.zero_add, Nat.reduceAdd, List.drop_succ_cons, List.drop_zero]; refine n_ rfl rfl (by rw [i]; rfl) (by decide) ?_; refine Zv (B_ (Zb i) rfl) ?_; have d8 := Zj k; subst d8; refine Ze [(3, j), (5, ZI f), (10, (ZI (m.length : Int))), (11, ZI c), (28, (.bool false))] ?_; refine s_ (fun a ha => ⟨d4, ha, hB, b⟩)
    rintro n3 N ⟨C, ha, hB, b⟩; refine ap_k ha ?_; refine nx ?_; refine o_ rfl (fun E => ?_) (fun E => ?_)
    ·rw [if_pos E] at g; refine g_ (nx (a_ (f_ (Zq (Zm rfl (Zm rfl ?_)))))); obtain ⟨L, O, g⟩ := bind_some g; refine Zo ?_; refine fT_ b O rfl rfl Tryz.underlying41 Tryz.sizeOf3 ?_; intro n4 n5 n6 d9 e0; cases e0
     refine Zv (e_ rfl Tryz.isAgg3 (j_ d9)) (Za rfl (Ze [(3, j), (5, ZI f), (6, ZI L), (10, (ZI (m.length : Int))), (11, ZI c)] (Zn (Zm rfl (Zm rfl (Zm rfl (Zm rfl ?_))))))); obtain ⟨n7, P, g⟩ := bind_some g; refine Zv (bt_ rfl rfl P) ?_; obtain ⟨n8, Q, g⟩ := bind_some g; refine Zo ?_; refine fT_ b Q rfl rfl Tryz.underlying41 Tryz.sizeOf3 ?_; intro n9 o0 o1 e1 e2; cases e2
     refine Zv (e_ rfl Tryz.isAgg3 (j_ e1)) ?_; obtain ⟨o2, R, g⟩ := bind_some g; refine Zo ?_; refine fS_ b R rfl rfl Tryz.underlying41 Tryz.sizeOf3 ?_; intro o3 o4 e3 o5 e4; cases e4
     obtain ⟨o6, S, g⟩ := bind_some g; refine ad_ trivial ?_; refine cx_ b e3 S rfl (by decide) rfl rfl rfl Tryz.sizeOf3 rfl ?_; intro o7 M e5; replace hB := hB.stp e5; refine Ze [(3, j), (5, ZI f), (6, ZI L), (10, (ZI (m.length : Int))), (11, ZI c)] (nx (c_ (Zm rfl (Zm rfl ?_)))); obtain ⟨o8, T, g⟩ := bind_some g; refine Zv (bt_ rfl rfl T) (Zm rfl ?_); obtain ⟨o9, U, g⟩ := bind_some g; refine Zo ?_; refine fS_ M U rfl rfl Tryz.underlying41 Tryz.sizeOf3 ?_; intro p0 p1 e6 p2 e7; cases e7
     obtain ⟨e8, V, g⟩ := bind_some g; refine ad_ trivial ?_; refine cx_ M e6 V rfl (by decide) rfl rfl rfl Tryz.sizeOf3 rfl ?_; intro p3 e9 f0; replace hB := hB.stp f0; refine Ze [(3, j), (5, ZI f), (10, (ZI (m.length : Int))), (11, ZI c)] (y_ (nx (c_ (Zm rfl ?_)))); obtain ⟨F, W, g⟩ := bind_some g; refine Zv (bt_ rfl rfl W) (Za rfl (Ze [(3, j), (5, ZI F), (10, (ZI (m.length : Int))), (11, ZI c)] (w_ ?_))); have f1 := Zj g; subst f1; refine Zk [(3, j), (5, ZI F), (10, (ZI (m.length : Int))), (11, ZI c)] ?_; intro a ha; exact ⟨K39, by omega, e8, F, C, a2, ha, hB, e9⟩
    ·rw [if_neg (by rw [E]; decide)] at g; refine v_ ?_; refine r_ (r_ (Q_ ?_)); refine s_ ?_; have f2 := Zj g; subst f2; refine Zk [(3, j), (10, (ZI (m.length : Int))), (11, ZI c)] ?_; intro a ha; exact ⟨q, f, C, a2, ha, hB, b⟩
   ·rintro a z ⟨q, f, u, rfl, ha, hB, b⟩; dsimp only at B; refine ap_k ha ?_; refine y_ (nx (c_ (Zv (F_ rfl rfl (G_ (by omega) (by omega))) (Zm rfl (Ze [(3, j), (10, (ZI (m.length : Int))), (11, (ZI (c + 1)))] (w_ ?_)))))); have f3 := Zj B; subst f3; refine Zk [(3, j), (10, (ZI (m.length : Int))), (11, (ZI (c + 1)))] ?_; intro a ha; exact ⟨_, (by rw [← g1]; omega), c + 1, q, u, g2, rfl, (by omega), ha, hB, b⟩
   ·exact fun _ _ h => h.elim
  ·have f4 := bw_ H Z; refine M_ ha ?_; refine Zq (Zv (t_ rfl rfl) (Ze [(3, j), (10, (ZI (m.length : Int))), (11, ZI c), (12, (.bool (decide (c < (m.length : Int)))))] (nx (a_ ?_)))); refine J_ (Zb (decide_eq_false H)) ?_; refine v_ ?_; refine r_ (r_ (Q_ ?_)); refine s_ ?_; refine Zk [(3, j)] ?_; intro a ha; exact ⟨x, s, f4, ha, hB, G⟩
 ·rintro a y ⟨x, s, rfl, ha, hB, G⟩; dsimp only at hF; refine ap_k ha ?_; refine Zn (Zm rfl (Za rfl (Ze [(2, j)] (nx (m_ ?_))))); have f5 := Zj hF; subst f5; refine Zr Tryz.results121 [j] ?_; exact ⟨_, rt oo s w.heap.size 11 t, rfl, G.rt hB (by decide) t, hB.keeps, af_ _ _ _ _ _⟩
 ·exact fun _ _ h => h.elim
def dE_ (a : Int) (b : Int) (c : Int) : Option Bool :=
  (
    if decide (b ≤ a) then
      some (decide (a ≤ c))
    else
      some false) >>= fun d =>
  some d

def qo_ (w : World) (r : Bool) : Ending → World → Prop := fun e w' => e = .returned (.bool r) ∧ Keeps w w'
theorem gn_ (w : World) (f : Int) (g : Int) (i : Int) (r : Bool) (hF : dE_ f g i = some r) :
    Calls Tryz.prog 62 #[.int .i64 f, .int .i64 g, .int .i64 i] w (qo_ w r) := by
 unfold dE_ at hF; have hB : Bs (fun _ => 1) (col (fun _ => 1)) w w := Bs.start _ _; refine i_ (n := 15) (vs := [(ZI f), (ZI g), (ZI i)]) Tryz.func62 rfl rfl ?_; refine Zq (Za rfl (Ze [(0, ZI f), (1, ZI g), (2, ZI i)] (Zn (Zm rfl (Zm rfl (Zv (pY_ rfl rfl) (Zm rfl ?_))))))); obtain ⟨j, d, hF⟩ := bind_some hF; refine as_ 4 (fun m k => Fr m 15 [(14, (.bool j))] ∧ Keeps w k) ?_ ?_; all_goals simp only [List.take_succ_cons, List.take_zero, List.drop_succ_cons, List.drop_zero]
 ·have kp : Keeps w w := Keeps.refl _; rcases Bool.eq_false_or_eq_true (decide (g ≤ f)) with b | b
  ·rw [if_pos b] at d; refine k_ (h_ rfl) (by decide) ⟨_, rfl, (Zb b)⟩ (k_ (h_ rfl) (by decide) ⟨_, rfl, (Zb b)⟩ (k_ (pY_ rfl rfl) (by decide) ⟨_, rfl, (Zb b)⟩ (Zv (x_ (Zb b) rfl) ?_))); have c := Zj d; refine Ze [(14, (.bool (decide (f ≤ i))))] ?_; subst c; refine s_ (fun a ha => ⟨ha, kp⟩)
  ·rw [if_neg (by rw [b]; decide)] at d; refine n_ rfl rfl (by rw [b]; rfl) (by decide) ?_; refine n_ rfl rfl (by rw [b]; rfl) (by decide) ?_; refine n_ rfl rfl (by rw [b]; rfl) (by decide) ?_; refine Zv (B_ (Zb b) rfl) ?_; have c := Zj d; refine Ze [(14, (.bool false))] ?_; subst c; refine s_ (fun a ha => ⟨ha, kp⟩)
 rintro v k ⟨ha, q⟩; have s := q.stp 999 (col (fun _ => 1)); replace hB := hB.stp s; refine aV_ ha ?_; refine Za rfl (Ze [(6, (.bool j))] (nx (m_ ?_))); have u := Zj hF; subst u; refine Zr Tryz.results62 [(.bool j)] ?_; exact ⟨rfl, hB.keeps⟩
def bC_ (g : Int) : ((List Int) × Int) → Option (Lp ((List Int) × Int) ((List Int) × Int) (List Int)) := fun (s : (List Int) × Int) =>
  (shr g s.2) >>= fun a =>
  if a != 0 then
    (shr g s.2) >>= fun b =>
    if (band b 1) == 1 then
      (push s.1 s.2) >>= fun c =>
      (ck (s.2 + 1)) >>= fun d =>
      some (.go (c, d))
    else
      (ck (s.2 + 1)) >>= fun f =>
      some (.go (s.1, f))
  else
    some (.out (s.1, s.2))
def dk_ (fuel : Nat) (a : Int) : Option (List Int) :=
  (loopF (bC_ a) fuel ([], 0)) >>= fun b =>
  match b with
  | .inl (c, d) =>
    some c
  | .inr _ => none

def mF_ (oo : Tg) (t : Nat) (w : World) (r : Yl) : Ending → World → Prop := fun e w' => ∃ (a : Value) (o' : Tg), e = .returned (a) ∧ Ow w.heap.size 3 t o' w' a r ∧ Keeps w w' ∧ ∀ b, b < w.heap.size → o' b = oo b
theorem iY_ (fuel : Nat) (w : World) (oo : Tg) (t : Nat) (ht : 2 ≤ t) (c : Int) (r : Yl) (hF : dk_ fuel c = some r) :
    Calls Tryz.prog 139 #[.int .i64 c] w (mF_ oo t w r) := by
 unfold dk_ at hF; have hB : Bs oo (col oo) w w := Bs.start _ _; refine i_ (n := 21) (vs := [(ZI c)]) Tryz.func139 rfl rfl ?_; generalize col oo = o at *; refine Zq (Za rfl (Ze [(0, ZI c)] (Zn (Za rfl (Ze [(0, ZI c), (3, (.slice none 0 0))] (nx (a_ (Zq (Za rfl (Ze [(0, ZI c), (3, (.slice none 0 0)), (4, ZI 0)] (nx ?_))))))))))); have S : Ow w.heap.size 3 11 o w (.slice none 0 0) ([] : Yl) := Ow.nil _ _ _ _ _; obtain ⟨R, E, hF⟩ := bind_some hF; refine A_ (fun a k => ∃ (i : Yl) (f : Int) (d : Value) (g : Tg), R = .inl (i, f) ∧ Fr a 21 [(3, d)] ∧ Bs oo g w k ∧ Ow w.heap.size 3 11 g k d i) (fun _ _ => False) ?_ ?_ ?_
 ·refine f_ ?_; refine z_ (fun (K : Nat) a k => ∃ (i : Yl) (f : Int) (d : Value) (g : Tg), loopF (bC_ c) K (i, f) = some R ∧ Fr a 21 [(0, ZI c), (3, d), (4, ZI f)] ∧ Bs oo g w k ∧ Ow w.heap.size 3 11 g k d i) fuel (fun a ha => ⟨[], 0, (.slice none 0 0), o, E, ha.sub (r := [(0, ZI c), (3, (.slice none 0 0)), (4, ZI 0)]) ⟨rfl, rfl, rfl, trivial⟩, hB, S⟩) ?_; rintro K12 a k ⟨i, f, d, g, T, ha, hB, m⟩; obtain ⟨K16, U, V, b, q⟩ := Y_ T; dsimp only [bC_] at b; refine M_ ha ?_; refine a_ (Zq (Zm rfl (Zm rfl ?_))); obtain ⟨F, y, b⟩ := bind_some b; refine Zv (no_ rfl rfl y) (Zv (bK_ rfl rfl) (Ze [(0, ZI c), (3, d), (4, ZI f), (8, (.bool (F != 0)))] (nx ?_))); refine o_ rfl (fun s => ?_) (fun s => ?_)
  ·rw [if_pos s] at b; refine g_ (nx (a_ (f_ (Zq (Zm rfl (Zm rfl ?_)))))); obtain ⟨G, z, b⟩ := bind_some b; refine Zv (no_ rfl rfl z) (Zv (nw_ rfl rfl) (Zv (cE_ rfl rfl) (Ze [(0, ZI c), (3, d), (4, ZI f), (15, (.bool ((band G 1) == 1)))] (nx ?_)))); refine o_ rfl (fun u => ?_) (fun u => ?_)
   ·rw [if_pos u] at b; refine c_ (Zm rfl (Zm rfl (Zo ?_))); refine aL_ (o := g) (cs := [(ZI f)]) (xs := ([f] : Yl)) (vs := [(0, ZI f)]) ⟨_, _, rfl, rfl, rfl⟩ rfl ⟨rfl, rfl, trivial⟩ Tryz.underlying41 Tryz.sizeOf3 Tryz.zeroValue3 (by decide) (fill1 rfl) (by simp) ?_; intro W X Y H A Z; replace m := m.stp A; replace hB := hB.stp A; obtain ⟨I, B, b⟩ := bind_some b; refine Zo ?_; refine bo_ m H (au_ B) (by decide) hB.keeps.size rfl rfl Tryz.underlying41 dc_ rfl (by decide) ?_; intro J a0 j L M; replace hB := hB.stp M; refine Za rfl (Ze [(0, ZI c), (3, j), (4, ZI f)] (y_ (nx (c_ (Zm rfl ?_))))); obtain ⟨v, C, b⟩ := bind_some b; refine Zv (F_ rfl rfl C) (Za rfl (Ze [(0, ZI c), (3, j), (4, ZI v)] (w_ ?_))); have N := Zj b; subst N; refine Zk [(0, ZI c), (3, j), (4, ZI v)] ?_; intro a ha; exact ⟨K16, by omega, I, v, j, J, q, ha, hB, L⟩
   ·rw [if_neg (by rw [u]; decide)] at b; refine g_ (y_ (nx (c_ (Zm rfl ?_)))); obtain ⟨x, D, b⟩ := bind_some b; refine Zv (F_ rfl rfl D) (Za rfl (Ze [(0, ZI c), (3, d), (4, ZI x)] (w_ ?_))); have O := Zj b; subst O; refine Zk [(0, ZI c), (3, d), (4, ZI x)] ?_; intro a ha; exact ⟨K16, by omega, i, x, d, g, q, ha, hB, m⟩
  ·rw [if_neg (by rw [s]; decide)] at b; refine v_ ?_; refine r_ (r_ (Q_ ?_)); refine s_ ?_; have P := Zj b; subst P; refine Zk [(3, d)] ?_; intro a ha; exact ⟨i, f, d, g, q, ha, hB, m⟩
 ·rintro a k ⟨i, f, d, g, rfl, ha, hB, m⟩; dsimp only at hF; refine ap_k ha ?_; refine Zn (Zm rfl (Za rfl (Ze [(2, d)] (nx (m_ ?_))))); have Q := Zj hF; subst Q; refine Zr Tryz.results139 [d] ?_; exact ⟨_, rt oo g w.heap.size 11 t, rfl, m.rt hB (by decide) t, hB.keeps, af_ _ _ _ _ _⟩
 ·exact fun _ _ h => h.elim
def aJ_ (a : Int) : Option Bool :=
  some (a != a)

def ew_ (w : World) (r : Bool) : Ending → World → Prop := fun e w' => e = .returned (.bool r) ∧ Keeps w w'
theorem bv_ (w : World) (a : Int) (r : Bool) (hF : aJ_ a = some r) :
    Calls Tryz.prog 171 #[.int .i64 a] w (ew_ w r) := by
 unfold aJ_ at hF; have hB : Bs (fun _ => 1) (col (fun _ => 1)) w w := Bs.start _ _; refine i_ (n := 6) (vs := [(ZI a)]) Tryz.func171 rfl rfl ?_; refine Zq (Za rfl (Ze [(0, ZI a)] (Zn (Zm rfl (Zm rfl (Zv (bK_ rfl rfl) (Za rfl (Ze [(2, (.bool (a != a)))] (nx (m_ ?_)))))))))); have b := Zj hF; subst b; refine Zr Tryz.results171 [(.bool (a != a))] ?_; exact ⟨rfl, hB.keeps⟩
def be_ (a : Int) (b : Int) : Option Int :=
  (aJ_ a) >>= fun d =>
  (aJ_ b) >>= fun c =>
  if d then
    if c then
      some 0
    else
      some (-1)
  else
    if c then
      some 1
    else
      if decide (a < b) then
        some (-1)
      else
        if decide (a > b) then
          some 1
        else
          some 0

def dF_ (w : World) (r : Int) : Ending → World → Prop := fun e w' => e = .returned (.int .i64 r) ∧ Keeps w w'
theorem dP_ (w : World) (a : Int) (b : Int) (r : Int) (hF : be_ a b = some r) :
    Calls Tryz.prog 138 #[.int .i64 a, .int .i64 b] w (dF_ w r) := by
 unfold be_ at hF; have hB : Bs (fun _ => 1) (col (fun _ => 1)) w w := Bs.start _ _; refine i_ (n := 20) (vs := [(ZI a), (ZI b)]) Tryz.func138 rfl rfl ?_; refine Zq (Za rfl (Ze [(0, ZI a), (1, ZI b)] (Zn (Zm rfl ?_)))); obtain ⟨k, m, hF⟩ := bind_some hF; refine Zo ?_; refine p_ (bv_ w a k m) Tryz.call171 ⟨rfl, trivial⟩ ?_; rintro G B ⟨rfl, C⟩; have D := C.stp 999 (col (fun _ => 1)); refine ⟨_, rfl, ?_⟩; replace hB := hB.stp D; refine Za rfl (Ze [(0, ZI a), (1, ZI b), (5, (.bool k))] (Zn (Zm rfl ?_))); obtain ⟨j, q, hF⟩ := bind_some hF; refine Zo ?_; refine p_ (bv_ B b j q) Tryz.call171 ⟨rfl, trivial⟩ ?_; rintro E H ⟨rfl, F⟩; have s := F.stp 999 (col (fun _ => 1)); refine ⟨_, rfl, ?_⟩; replace hB := hB.stp s; refine Za rfl (Ze [(0, ZI a), (1, ZI b), (5, (.bool k)), (6, (.bool j))] (nx (a_ (Zq (Zm rfl (Ze [(0, ZI a), (1, ZI b), (6, (.bool j)), (11, (.bool k))] (nx ?_))))))); refine o_ rfl (fun c => ?_) (fun c => ?_)
 ·rw [if_pos c] at hF; refine a_ (Zq (Zm rfl (Ze [(12, (.bool j))] (nx ?_)))); refine o_ rfl (fun d => ?_) (fun d => ?_)
  ·rw [if_pos d] at hF; refine Zq (Za rfl (Ze [(4, ZI 0)] (nx (m_ (D_ (D_ ?_)))))); have u := Zj hF; subst u; refine Zr Tryz.results138 [(ZI 0)] ?_; exact ⟨rfl, hB.keeps⟩
  ·rw [if_neg (by rw [d]; decide)] at hF; refine g_ (Zn (Za rfl (Ze [(4, (ZI (-1)))] (nx (m_ (D_ ?_)))))); have v := Zj hF; subst v; refine Zr Tryz.results138 [(ZI (-1))] ?_; exact ⟨rfl, hB.keeps⟩
 ·rw [if_neg (by rw [c]; decide)] at hF; refine g_ (nx (a_ (Zq (Zm rfl (Ze [(0, ZI a), (1, ZI b), (13, (.bool j))] (nx ?_)))))); refine o_ rfl (fun f => ?_) (fun f => ?_)
  ·rw [if_pos f] at hF; refine Zq (Za rfl (Ze [(4, ZI 1)] (nx (m_ (D_ ?_))))); have x := Zj hF; subst x; refine Zr Tryz.results138 [(ZI 1)] ?_; exact ⟨rfl, hB.keeps⟩
  ·rw [if_neg (by rw [f]; decide)] at hF; refine g_ (nx (a_ (Zq (Zm rfl (Zm rfl (Zv (t_ rfl rfl) (Ze [(0, ZI a), (1, ZI b), (16, (.bool (decide (a < b))))] (nx ?_)))))))); refine o_ rfl (fun g => ?_) (fun g => ?_)
   ·rw [if_pos g] at hF; refine Zq (Za rfl (Ze [(4, (ZI (-1)))] (nx (m_ (D_ ?_))))); have y := Zj hF; subst y; refine Zr Tryz.results138 [(ZI (-1))] ?_; exact ⟨rfl, hB.keeps⟩
   ·rw [if_neg (by rw [g]; decide)] at hF; refine g_ (nx (a_ (Zq (Zm rfl (Zm rfl (Zv (dR_ rfl rfl) (Ze [(19, (.bool (decide (a > b))))] (nx ?_)))))))); refine o_ rfl (fun i => ?_) (fun i => ?_)
    ·rw [if_pos i] at hF; refine Zq (Za rfl (Ze [(4, ZI 1)] (nx (m_ (D_ ?_))))); have z := Zj hF; subst z; refine Zr Tryz.results138 [(ZI 1)] ?_; exact ⟨rfl, hB.keeps⟩
    ·rw [if_neg (by rw [i]; decide)] at hF; refine g_ (Zn (Za rfl (Ze [(4, ZI 0)] (nx (m_ ?_))))); have A := Zj hF; subst A; refine Zr Tryz.results138 [(ZI 0)] ?_; exact ⟨rfl, hB.keeps⟩
def cm_ (a : Int) (b : Int) : Option Bool :=
  (aJ_ a) >>= fun d =>
  (
    if d then
      (aJ_ b) >>= fun c =>
      if !c then
        some true
      else
        some (decide (a < b))
    else
      some (decide (a < b))) >>= fun f =>
  some f

def iz_ (w : World) (r : Bool) : Ending → World → Prop := fun e w' => e = .returned (.bool r) ∧ Keeps w w'
theorem fZ_ (w : World) (g : Int) (i : Int) (r : Bool) (hF : cm_ g i = some r) :
    Calls Tryz.prog 135 #[.int .i64 g, .int .i64 i] w (iz_ w r) := by
 unfold cm_ at hF; have hB : Bs (fun _ => 1) (col (fun _ => 1)) w w := Bs.start _ _; refine i_ (n := 17) (vs := [(ZI g), (ZI i)]) Tryz.func135 rfl rfl ?_; refine Zq (Za rfl (Ze [(0, ZI g), (1, ZI i)] (Zn (Zm rfl ?_)))); obtain ⟨z, s, hF⟩ := bind_some hF; refine Zo ?_; refine p_ (bv_ w g z s) Tryz.call171 ⟨rfl, trivial⟩ ?_; rintro I q ⟨rfl, B⟩; have C := B.stp 999 (col (fun _ => 1)); refine ⟨_, rfl, ?_⟩; replace hB := hB.stp C; refine Zm rfl ?_; obtain ⟨u, d, hF⟩ := bind_some hF; refine as_ 9 (fun D A => Fr D 17 [(16, (.bool u))] ∧ Keeps q A) ?_ ?_; all_goals simp only [List.take_succ_cons, List.take_zero, List.drop_succ_cons, List.drop_zero]
 ·have kp : Keeps q q := Keeps.refl _; rcases Bool.eq_false_or_eq_true (z) with b | b
  ·rw [if_pos b] at d; refine k_ (h_ rfl) (by decide) ⟨_, rfl, (Zb b)⟩ ?_; obtain ⟨j, k, d⟩ := bind_some d; refine bI_ (by decide) ⟨_, rfl, (Zb b)⟩ ?_; refine p_ (bv_ q i j k) Tryz.call171 ⟨rfl, trivial⟩ ?_; rintro E F ⟨rfl, m⟩; have G := m.stp 999 (col (fun _ => 1)); refine ⟨_, rfl, ?_⟩; replace kp := Keeps.trans kp m; refine k_ (ba_ rfl) (by decide) ⟨_, rfl, (Zb b)⟩ (Zv (x_ (Zb b) rfl) (Zm rfl ?_)); rcases Bool.eq_false_or_eq_true (!j) with c | c
   ·rw [if_pos c] at d; refine n_ rfl rfl (by rw [c]; rfl) (by decide) ?_; refine n_ rfl rfl (by rw [c]; rfl) (by decide) ?_; refine n_ rfl rfl (by rw [c]; rfl) (by decide) ?_; refine Zv (x_ (Zb c) rfl) ?_; have f := Zj d; refine Ze [(16, (.bool true))] ?_; subst f; refine s_ (fun a ha => ⟨ha, kp⟩)
   ·rw [if_neg (by rw [c]; decide)] at d; refine k_ (h_ rfl) (by decide) ⟨_, rfl, (Zb c)⟩ (k_ (h_ rfl) (by decide) ⟨_, rfl, (Zb c)⟩ (k_ (t_ rfl rfl) (by decide) ⟨_, rfl, (Zb c)⟩ (Zv (B_ (Zb c) rfl) ?_))); have f := Zj d; refine Ze [(16, (.bool (decide (g < i))))] ?_; subst f; refine s_ (fun a ha => ⟨ha, kp⟩)
  ·rw [if_neg (by rw [b]; decide)] at d; refine n_ rfl rfl (by rw [b]; rfl) (by decide) ?_; refine n_ rfl rfl (by rw [b]; rfl) (by decide) ?_; refine n_ rfl rfl (by rw [b]; rfl) (by decide) ?_; refine Zv (B_ (Zb b) rfl) (Zm rfl (k_ (h_ rfl) (by decide) ⟨_, rfl, rfl⟩ (k_ (h_ rfl) (by decide) ⟨_, rfl, rfl⟩ (k_ (t_ rfl rfl) (by decide) ⟨_, rfl, rfl⟩ (Zv (B_ rfl rfl) ?_))))); have f := Zj d; refine Ze [(16, (.bool (decide (g < i))))] ?_; subst f; refine s_ (fun a ha => ⟨ha, kp⟩)
 rintro H A ⟨ha, v⟩; have x := v.stp 999 (col (fun _ => 1)); replace hB := hB.stp x; refine aV_ ha ?_; refine Za rfl (Ze [(4, (.bool u))] (nx (m_ ?_))); have y := Zj hF; subst y; refine Zr Tryz.results135 [(.bool u)] ?_; exact ⟨rfl, hB.keeps⟩
def aR_ (d : List Int) (f : Int → Option Bool) : Int → Unit → Option (Lp Unit Unit Int) := fun (c : Int) (s : Unit) =>
  (ix d c) >>= fun a =>
  (f a) >>= fun b =>
  if b then
    some (.ret c)
  else
    some (.go ())
def aF_ (a : List Int) (b : Int → Option Bool) : Option Int :=
  ck (a.length : Int) >>= fun _ =>
  (forN (aR_ a b) ((a.length : Int)).toNat 0 ()) >>= fun c =>
  match c with
  | .inl _ =>
    some (-1)
  | .inr r' => some r'

def cR_ (w : World) (r : Int) : Ending → World → Prop := fun e w' => e = .returned (.int .i64 r) ∧ Keeps w w'
theorem eT_ (w : World) (f : Value) (d : Yl) (N : RdL zt w f d) (g : Value) (y : Int → Option Bool) (Q : FnV Tryz.prog w g y) (r : Int) (hF : aF_ d y = some r) :
    Calls Tryz.prog 172 #[f, g] w (cR_ w r) := by
 unfold aF_ at hF; have hB : Bs (fun _ => 1) (col (fun _ => 1)) w w := Bs.start _ _; refine i_ (n := 19) (vs := [f, g]) Tryz.func172 rfl rfl ?_; refine Zq (Za rfl (Ze [(0, f), (1, g)] (nx (a_ (Zq (Zm rfl (Zv (C_ rfl N Tryz.underlying41) (Zm rfl (Ze [(0, f), (1, g), (7, (ZI (d.length : Int))), (8, ZI 0)] (nx ?_)))))))))); obtain ⟨Y, R, hF⟩ := bind_some hF; obtain ⟨-, h5a, h5b⟩ := cj_ R; obtain ⟨z, A, hF⟩ := bind_some hF; refine A_ (fun a m => ∃ (j : Tg), z = .inl () ∧ Fr a 19 [] ∧ Bs (fun _ => 1) j w m) (fun a w' => ∃ r', z = .inr r' ∧ bodyPost Tryz.prog Tryz.f172 (cR_ w r') .ret a w') ?_ ?_ ?_
 ·refine f_ ?_; refine z_ (fun (K : Nat) a m => ∃ (b : Int) (j : Tg), forN (aR_ d y) ((d.length : Int) - b).toNat b () = some z ∧ ((d.length : Int) - b).toNat = K ∧ 0 ≤ b ∧ Fr a 19 [(0, f), (1, g), (7, (ZI (d.length : Int))), (8, ZI b)] ∧ Bs (fun _ => 1) j w m) _ (fun a ha => ⟨0, (col (fun _ => 1)), A, rfl, Int.le_refl 0, ha.sub (r := [(0, f), (1, g), (7, (ZI (d.length : Int))), (8, ZI 0)]) ⟨rfl, rfl, rfl, rfl, trivial⟩, hB⟩) ?_; rintro K10 a m ⟨b, j, O, S, Z, ha, hB⟩; by_cases i : b < (d.length : Int)
  ·obtain ⟨T, c, q⟩ := bA_ i O; dsimp only [aR_] at c; refine M_ ha ?_; refine Zq (Zv (t_ rfl rfl) (Ze [(0, f), (1, g), (7, (ZI (d.length : Int))), (8, ZI b), (9, (.bool (decide (b < (d.length : Int)))))] (nx (a_ ?_)))); refine P_ (Zb (decide_eq_true i)) ?_; refine g_ (nx (a_ (f_ (Zq (Zm rfl (Za rfl (Ze [(0, f), (1, g), (5, ZI b), (7, (ZI (d.length : Int))), (8, ZI b)] (Zn (Zm rfl (Zm rfl (Zm rfl ?_))))))))))); obtain ⟨s, u, c⟩ := bind_some c; refine Zo ?_; refine wf_atZ N u hB rfl rfl Tryz.underlying41 Tryz.sizeOf3 ?_; intro U V W B C; cases C
   refine Zv (e_ rfl Tryz.isAgg3 (j_ B)) ?_; obtain ⟨D, v, c⟩ := bind_some c; refine Zo ?_; refine fN_ (x := s) (vs := [(ZI s)]) (Q.keep hB.keeps) v rfl rfl ⟨rfl, trivial⟩ ?_; intro X E; have F := E.stp 999 j; replace hB := hB.stp F; refine Ze [(0, f), (1, g), (5, ZI b), (7, (ZI (d.length : Int))), (8, ZI b), (16, (.bool D))] (nx ?_); refine o_ rfl (fun k => ?_) (fun k => ?_)
   ·rw [if_pos k] at c; refine Zq (Zm rfl (Za rfl (Ze [(4, ZI b)] (nx (m_ (ac_ (D_ (D_ (ac_ ?_))))))))); refine bQ_ ?_; have G := Zj c; subst G; refine fun a ha => ⟨_, q, ?_⟩; refine H_ (P := Tryz.prog) (vs := [(ZI b)]) Tryz.results172 ⟨rfl, trivial⟩ ?_ a ha; exact ⟨rfl, hB.keeps⟩
   ·rw [if_neg (by rw [k]; decide)] at c; refine g_ (y_ (nx (c_ (Zv (F_ rfl rfl (G_ (by omega) (by omega))) (Zm rfl (Ze [(0, f), (1, g), (7, (ZI (d.length : Int))), (8, (ZI (b + 1)))] (w_ ?_))))))); have H := Zj c; subst H; refine Zk [(0, f), (1, g), (7, (ZI (d.length : Int))), (8, (ZI (b + 1)))] ?_; intro a ha; exact ⟨_, (by rw [← S]; omega), b + 1, j, q, rfl, (by omega), ha, hB⟩
  ·have I := bw_ i O; refine M_ ha ?_; refine Zq (Zv (t_ rfl rfl) (Ze [(0, f), (1, g), (7, (ZI (d.length : Int))), (8, ZI b), (9, (.bool (decide (b < (d.length : Int)))))] (nx (a_ ?_)))); refine J_ (Zb (decide_eq_false i)) ?_; refine v_ ?_; refine r_ (r_ (Q_ ?_)); refine s_ ?_; refine Zk [] ?_; intro a ha; exact ⟨j, I, ha, hB⟩
 ·rintro a m ⟨j, rfl, ha, hB⟩; dsimp only at hF; refine ap_k ha ?_; refine Zn (Za rfl (Ze [(4, (ZI (-1)))] (nx (m_ ?_)))); have J := Zj hF; subst J; refine Zr Tryz.results172 [(ZI (-1))] ?_; exact ⟨rfl, hB.keeps⟩
 ·rintro a m ⟨r', rfl, L⟩; dsimp only at hF; have M := Zj hF; subst M; exact L
def ar_ (a : List Int) (b : Int → Option Bool) : Option Bool :=
  (aF_ a b) >>= fun c =>
  some (decide (c ≥ 0))

def eu_ (w : World) (r : Bool) : Ending → World → Prop := fun e w' => e = .returned (.bool r) ∧ Keeps w w'
theorem eh_ (w : World) (a : Value) (c : Yl) (i : RdL zt w a c) (b : Value) (d : Int → Option Bool) (j : FnV Tryz.prog w b d) (r : Bool) (hF : ar_ c d = some r) :
    Calls Tryz.prog 136 #[a, b] w (eu_ w r) := by
 unfold ar_ at hF; have hB : Bs (fun _ => 1) (col (fun _ => 1)) w w := Bs.start _ _; refine i_ (n := 9) (vs := [a, b]) Tryz.func136 rfl rfl ?_; refine Zq (Za rfl (Ze [(0, a), (1, b)] (Zn (Zm rfl (Zm rfl ?_))))); obtain ⟨f, g, hF⟩ := bind_some hF; refine Zo ?_; refine p_ (eT_ w _ c (i.keep hB.keeps) _ d (j.keep hB.keeps) f g) Tryz.call172 ⟨rfl, rfl, trivial⟩ ?_; rintro s u ⟨rfl, k⟩; have m := k.stp 999 (col (fun _ => 1)); refine ⟨_, rfl, ?_⟩; replace hB := hB.stp m; refine Zv (je_ rfl rfl) (Za rfl (Ze [(4, (.bool (decide (f ≥ 0))))] (nx (m_ ?_)))); have q := Zj hF; subst q; refine Zr Tryz.results136 [(.bool (decide (f ≥ 0)))] ?_; exact ⟨rfl, hB.keeps⟩
def cD_ (a : Int) (b : Int) (c : Int) : Option Bool :=
  (dE_ a b c) >>= fun d =>
  some (!d)

def jC_ (w : World) (r : Bool) : Ending → World → Prop := fun e w' => e = .returned (.bool r) ∧ Keeps w w'
theorem jB_ (w : World) (a : Int) (b : Nat) (j : List Value) (d : Int) (s : Cells w b 0 j) (k : Rp.rd zt w j d) (c : Nat) (m : List Value) (f : Int) (u : Cells w c 0 m) (q : Rp.rd zt w m f) (r : Bool) (hF : cD_ a d f = some r) :
    Calls Tryz.prog 137 #[.int .i64 a, .pointer (some ⟨b, 0, none⟩), .pointer (some ⟨c, 0, none⟩)] w (jC_ w r) := by
 unfold cD_ at hF; have g1k := k; cases k
 have g2k := q; cases q
 have hB : Bs (fun _ => 1) (col (fun _ => 1)) w w := Bs.start _ _; refine i_ (n := 10) (vs := [(ZI a), (ZP b), (ZP c)]) Tryz.func137 rfl rfl ?_; refine Zq (Za rfl (Ze [(0, ZI a), (1, ZP b), (2, ZP c)] (Zn (Zm rfl (Zv (e_ rfl Tryz.isAgg3 (j_ (s.keep hB.keeps))) (Zv (e_ rfl Tryz.isAgg3 (j_ (u.keep hB.keeps))) ?_)))))); obtain ⟨g, i, hF⟩ := bind_some hF; refine Zo ?_; refine p_ (gn_ w a d f g i) Tryz.call62 ⟨rfl, rfl, rfl, trivial⟩ ?_; rintro z A ⟨rfl, v⟩; have x := v.stp 999 (col (fun _ => 1)); refine ⟨_, rfl, ?_⟩; replace hB := hB.stp x; refine Zv (ba_ rfl) (Za rfl (Ze [(4, (.bool (!g)))] (nx (m_ ?_)))); have y := Zj hF; subst y; refine Zr Tryz.results137 [(.bool (!g))] ?_; exact ⟨rfl, hB.keeps⟩
def ef_ (c : List Int) (d : Int) (f : Int) : Option Bool :=
  (ar_ c (fun a => cD_ a d f)) >>= fun b =>
  some (!b)

def me_ (w : World) (r : Bool) : Ending → World → Prop := fun e w' => e = .returned (.bool r) ∧ Keeps w w'
theorem lf_ (w : World) (i : Value) (q : Yl) (y : RdL zt w i q) (a : Int) (b : Int) (r : Bool) (hF : ef_ q a b = some r) :
    Calls Tryz.prog 94 #[i, .int .i64 a, .int .i64 b] w (me_ w r) := by
 unfold ef_ at hF; have hB : Bs (fun _ => 1) (col (fun _ => 1)) w w := Bs.start _ _; refine i_ (n := 11) (vs := [i, (ZI a), (ZI b)]) Tryz.func94 rfl rfl ?_; refine Zq (Zo ?_); refine aK_ (o := (col (fun _ => 1))) w.heap.size 11 hB.keeps.size (cs := [(ZI a)]) rfl rfl ?_; intro z F j s A; replace hB := hB.stp A; refine Zo ?_; refine aK_ (o := z) w.heap.size 12 hB.keeps.size (cs := [(ZI b)]) rfl rfl ?_; intro B k m C f; replace s := s.stp f; replace hB := hB.stp f; refine Za rfl (Ze [(0, i), (4, ZP j), (5, ZP m)] (Zn (Zm rfl (Zv (gE_ (vs := [(ZP j), (ZP m)]) ⟨rfl, rfl, trivial⟩) ?_)))); obtain ⟨c, g, hF⟩ := bind_some hF; refine Zo ?_; refine p_ (eh_ k _ q (y.keep hB.keeps) _ (fun d => cD_ d a b) (show FnV Tryz.prog k (.func (.func 137) #[] #[(ZP j), (ZP m)]) (fun d => cD_ d a b) from ⟨_, _, rfl, Tryz.call137, fun ww vs xx rr kk hok hG => by (cases hok; exact jB_ ww xx j _ a ((s.cells).keep kk) (Rp.keep ((show Rp.rd zt k [(ZI a)] (a : Int) from rfl)) kk) m _ b ((C.cells).keep kk) (Rp.keep ((show Rp.rd zt k [(ZI b)] (b : Int) from rfl)) kk) rr hG)⟩) c g) Tryz.call136 ⟨rfl, rfl, trivial⟩ ?_; rintro D E ⟨rfl, u⟩; have v := u.stp 999 B; refine ⟨_, rfl, ?_⟩; replace hB := hB.stp v; refine Zv (ba_ rfl) (Za rfl (Ze [(6, (.bool (!c)))] (nx (m_ ?_)))); have x := Zj hF; subst x; refine Zr Tryz.results94 [(.bool (!c))] ?_; exact ⟨rfl, hB.keeps⟩
def aj_ (d : List Int) : Int → Int → Unit → Option (Lp Unit Unit Int) := fun (f : Int) (b : Int) (s : Unit) =>
  if decide (f ≥ (d.length : Int)) then
    some (.ret 1)
  else
    (ix d f) >>= fun c =>
    (be_ b c) >>= fun a =>
    if a != 0 then
      some (.ret a)
    else
      some (.go ())
def K_ (a : List Int) (b : List Int) : Option Int :=
  (forI (aj_ b) a 0 ()) >>= fun c =>
  match c with
  | .inl _ =>
    if decide ((a.length : Int) < (b.length : Int)) then
      some (-1)
    else
      some 0
  | .inr r' => some r'

def aT_ (w : World) (r : Int) : Ending → World → Prop := fun e w' => e = .returned (.int .i64 r) ∧ Keeps w w'
theorem cX_slices_Compare_int_int (w : World) (b : Value) (f : Yl) (D : RdL zt w b f) (g : Value) (y : Yl) (E : RdL zt w g y) (r : Int) (hF : K_ f y = some r) :
    Calls Tryz.prog 95 #[b, g] w (aT_ w r) := by
 unfold K_ at hF; have hB : Bs (fun _ => 1) (col (fun _ => 1)) w w := Bs.start _ _; refine i_ (n := 36) (vs := [b, g]) Tryz.func95 rfl rfl ?_; refine Zq (Za rfl (Ze [(0, b), (1, g)] (nx (a_ (Zq (Zm rfl (Zv (C_ rfl D Tryz.underlying41) (Zm rfl (Ze [(0, b), (1, g), (9, b), (10, (ZI (f.length : Int))), (11, ZI 0)] (nx ?_)))))))))); obtain ⟨F, G, hF⟩ := bind_some hF; refine A_ (fun a q => ∃ (m : Tg), F = .inl () ∧ Fr a 36 [(0, b), (1, g)] ∧ Bs (fun _ => 1) m w q) (fun a w' => ∃ r', F = .inr r' ∧ bodyPost Tryz.prog Tryz.f95 (aT_ w r') .ret a w') ?_ ?_ ?_
 ·refine f_ ?_; refine z_ (fun (K : Nat) a q => ∃ (d : Int) (m : Tg), forI (aj_ y) (f.drop d.toNat) d () = some F ∧ (f.drop d.toNat).length = K ∧ 0 ≤ d ∧ Fr a 36 [(0, b), (1, g), (9, b), (10, (ZI (f.length : Int))), (11, ZI d)] ∧ Bs (fun _ => 1) m w q) _ (fun a ha => ⟨0, (col (fun _ => 1)), G, rfl, Int.le_refl 0, ha.sub (r := [(0, b), (1, g), (9, b), (10, (ZI (f.length : Int))), (11, ZI 0)]) ⟨rfl, rfl, rfl, rfl, rfl, trivial⟩, hB⟩) ?_; rintro K8 a q ⟨d, m, X, Y, Z, ha, hB⟩; by_cases j : d < (f.length : Int)
  ·obtain ⟨k, a8, z, c, s⟩ := V_ Z j X; have hle := D.len_le; dsimp only [aj_] at c; refine M_ ha ?_; refine Zq (Zv (t_ rfl rfl) (Ze [(0, b), (1, g), (9, b), (10, (ZI (f.length : Int))), (11, ZI d), (12, (.bool (decide (d < (f.length : Int)))))] (nx (a_ ?_)))); refine P_ (Zb (decide_eq_true j)) ?_; refine g_ (nx (a_ (f_ (Zq (Zm rfl (Zo ?_)))))); refine wf_atZ D z hB rfl rfl Tryz.underlying41 Tryz.sizeOf3 ?_; intro a0 a1 a2 H I; cases I
   refine Zv (e_ rfl Tryz.isAgg3 (j_ H)) (Za rfl (Za rfl (Ze [(0, b), (1, g), (5, ZI d), (6, ZI k), (9, b), (10, (ZI (f.length : Int))), (11, ZI d)] (nx (a_ (Zq (Zm rfl (Zm rfl (Zv (C_ rfl E Tryz.underlying41) (Zv (je_ rfl rfl) (Ze [(0, b), (1, g), (5, ZI d), (6, ZI k), (9, b), (10, (ZI (f.length : Int))), (11, ZI d), (19, (.bool (decide (d ≥ (y.length : Int)))))] (nx ?_)))))))))))); refine o_ rfl (fun u => ?_) (fun u => ?_)
   ·rw [if_pos u] at c; refine Zq (Za rfl (Ze [(4, ZI 1)] (nx (m_ (D_ (ac_ (D_ (D_ (ac_ ?_))))))))); refine bQ_ ?_; have J := Zj c; subst J; refine fun a ha => ⟨_, s, ?_⟩; refine H_ (P := Tryz.prog) (vs := [(ZI 1)]) Tryz.results95 ⟨rfl, trivial⟩ ?_ a ha; exact ⟨rfl, hB.keeps⟩
   ·rw [if_neg (by rw [u]; decide)] at c; refine g_ (Zn (Zm rfl (Zm rfl ?_))); obtain ⟨A, B, c⟩ := bind_some c; refine Zo ?_; refine wf_atZ E B hB rfl rfl Tryz.underlying41 Tryz.sizeOf3 ?_; intro a3 a4 a5 L M; cases M
    refine Zv (e_ rfl Tryz.isAgg3 (j_ L)) (Za rfl (Ze [(0, b), (1, g), (6, ZI k), (7, ZI A), (9, b), (10, (ZI (f.length : Int))), (11, ZI d)] (Zn (Zm rfl (Zm rfl ?_))))); obtain ⟨i, C, c⟩ := bind_some c; refine Zo ?_; refine p_ (dP_ q k A i C) Tryz.call138 ⟨rfl, rfl, trivial⟩ ?_; rintro a6 a7 ⟨rfl, N⟩; have O := N.stp 999 m; refine ⟨_, rfl, ?_⟩; replace hB := hB.stp O; refine Za rfl (Ze [(0, b), (1, g), (8, ZI i), (9, b), (10, (ZI (f.length : Int))), (11, ZI d)] (Zn (Zm rfl (Zv (bK_ rfl rfl) (Ze [(0, b), (1, g), (8, ZI i), (9, b), (10, (ZI (f.length : Int))), (11, ZI d), (28, (.bool (i != 0)))] (nx ?_)))))); refine o_ rfl (fun v => ?_) (fun v => ?_)
    ·rw [if_pos v] at c; refine Zq (Zm rfl (Za rfl (Ze [(4, ZI i)] (nx (m_ (ac_ (D_ (D_ (ac_ ?_))))))))); refine bQ_ ?_; have Q := Zj c; subst Q; refine fun a ha => ⟨_, s, ?_⟩; refine H_ (P := Tryz.prog) (vs := [(ZI i)]) Tryz.results95 ⟨rfl, trivial⟩ ?_ a ha; exact ⟨rfl, hB.keeps⟩
    ·rw [if_neg (by rw [v]; decide)] at c; refine g_ (y_ (nx (c_ (Zv (F_ rfl rfl (G_ (by omega) (by omega))) (Zm rfl (Ze [(0, b), (1, g), (9, b), (10, (ZI (f.length : Int))), (11, (ZI (d + 1)))] (w_ ?_))))))); have R := Zj c; subst R; refine Zk [(0, b), (1, g), (9, b), (10, (ZI (f.length : Int))), (11, (ZI (d + 1)))] ?_; intro a ha; exact ⟨_, (by rw [← Y]; simp only [List.length_drop]; omega), d + 1, m, s, rfl, (by omega), ha, hB⟩
  ·have S := W_ j X; refine M_ ha ?_; refine Zq (Zv (t_ rfl rfl) (Ze [(0, b), (1, g), (9, b), (10, (ZI (f.length : Int))), (11, ZI d), (12, (.bool (decide (d < (f.length : Int)))))] (nx (a_ ?_)))); refine J_ (Zb (decide_eq_false j)) ?_; refine v_ ?_; refine r_ (r_ (Q_ ?_)); refine s_ ?_; refine Zk [(0, b), (1, g)] ?_; intro a ha; exact ⟨m, S, ha, hB⟩
 ·rintro a q ⟨m, rfl, ha, hB⟩; dsimp only at hF; refine ap_k ha ?_; refine nx (a_ (Zq (Zm rfl (Zv (C_ rfl D Tryz.underlying41) (Zm rfl (Zv (C_ rfl E Tryz.underlying41) (Zv (t_ rfl rfl) (Ze [(35, (.bool (decide ((f.length : Int) < (y.length : Int)))))] (nx ?_))))))))); refine o_ rfl (fun x => ?_) (fun x => ?_)
  ·rw [if_pos x] at hF; refine Zq (Za rfl (Ze [(4, (ZI (-1)))] (nx (m_ (D_ ?_))))); have T := Zj hF; subst T; refine Zr Tryz.results95 [(ZI (-1))] ?_; exact ⟨rfl, hB.keeps⟩
  ·rw [if_neg (by rw [x]; decide)] at hF; refine g_ (Zn (Za rfl (Ze [(4, ZI 0)] (nx (m_ ?_))))); have U := Zj hF; subst U; refine Zr Tryz.results95 [(ZI 0)] ?_; exact ⟨rfl, hB.keeps⟩
 ·rintro a q ⟨r', rfl, V⟩; dsimp only at hF; have W := Zj hF; subst W; exact V
def S_ (g : List Int) : Int → Option (Lp Int Int Bool) := fun (s : Int) =>
  if decide (s > 0) then
    (ix g s) >>= fun a =>
    (ck (s - 1)) >>= fun b =>
    (ix g b) >>= fun c =>
    (cm_ a c) >>= fun d =>
    if d then
      some (.ret false)
    else
      (ck (s - 1)) >>= fun f =>
      some (.go f)
  else
    some (.out s)
def aP_ (fuel : Nat) (a : List Int) : Option Bool :=
  (ck ((a.length : Int) - 1)) >>= fun b =>
  (loopF (S_ a) fuel b) >>= fun c =>
  match c with
  | .inl d =>
    some true
  | .inr r' => some r'

def de_ (w : World) (r : Bool) : Ending → World → Prop := fun e w' => e = .returned (.bool r) ∧ Keeps w w'
theorem eV_ (fuel : Nat) (w : World) (c : Value) (y : Yl) (z : RdL zt w c y) (r : Bool) (hF : aP_ fuel y = some r) :
    Calls Tryz.prog 93 #[c] w (de_ w r) := by
 unfold aP_ at hF; have hB : Bs (fun _ => 1) (col (fun _ => 1)) w w := Bs.start _ _; refine i_ (n := 21) (vs := [c]) Tryz.func93 rfl rfl ?_; refine Zq (Za rfl (Ze [(0, c)] (nx (a_ (Zq (Zm rfl (Zv (C_ rfl z Tryz.underlying41) ?_))))))); obtain ⟨I, J, hF⟩ := bind_some hF; refine Zv (bt_ rfl rfl J) (Za rfl (Ze [(0, c), (3, ZI I)] (nx ?_))); obtain ⟨L, M, hF⟩ := bind_some hF; refine A_ (fun a x => ∃ (f : Int) (j : Tg), L = .inl f ∧ Fr a 21 [] ∧ Bs (fun _ => 1) j w x) (fun a w' => ∃ r', L = .inr r' ∧ bodyPost Tryz.prog Tryz.f93 (de_ w r') .ret a w') ?_ ?_ ?_
 ·refine f_ ?_; refine z_ (fun (K : Nat) a x => ∃ (f : Int) (j : Tg), loopF (S_ y) K f = some L ∧ Fr a 21 [(0, c), (3, ZI f)] ∧ Bs (fun _ => 1) j w x) fuel (fun a ha => ⟨I, (col (fun _ => 1)), M, ha.sub (r := [(0, c), (3, ZI I)]) ⟨rfl, rfl, trivial⟩, hB⟩) ?_; rintro K9 a x ⟨f, j, b3, ha, hB⟩; obtain ⟨K13, b4, b5, b, k⟩ := Y_ b3; dsimp only [S_] at b; refine M_ ha ?_; refine a_ (Zq (Zm rfl (Zv (dR_ rfl rfl) (Ze [(0, c), (3, ZI f), (8, (.bool (decide (f > 0))))] (nx ?_))))); refine o_ rfl (fun m => ?_) (fun m => ?_)
  ·rw [if_pos m] at b; refine g_ (nx (a_ (f_ (a_ ?_)))); obtain ⟨A, g, b⟩ := bind_some b; obtain ⟨B, C, b⟩ := bind_some b; obtain ⟨D, i, b⟩ := bind_some b; refine Z_ (o := j) [(0, c), (3, ZI f)] [0, 3] [11, 12, 13, 14, 15, 16, 17, 18, 19] [[], [], [0, 1], [2], [], [], [5], [4, 6], [7]] [none, none, none, none, none, none, none, none, none] [999, 999, 999, 999, 999, 999, 999, 999, 999] [0, 0, 0, 0, 0, 0, 0, 0, 0] [999] [fun v _ _ => v = c, fun v _ _ => v = (ZI f), fun v o b6 => ∃ vl, v = adr vl (f.toNat * Rp.sz Int) ∧ RdL zt w vl y, fun v _ _ => v = (ZI A), fun v _ _ => v = c, fun v _ _ => v = (ZI f), fun v _ _ => v = (ZI B), fun v o b6 => ∃ vl, v = adr vl (B.toNat * Rp.sz Int) ∧ RdL zt w vl y, fun v _ _ => v = (ZI D)] (fun b7 b8 => Bs (fun _ => 1) b7 w b8) E_ (by kernel_rfl) rfl ⟨rfl, rfl, trivial⟩ hB ?_ ⟨q_ _, q_ _, fun _ _ _ _ _ _ b9 hb ⟨vl, e, h⟩ hs => ⟨vl, e, h⟩, q_ _, q_ _, q_ _, q_ _, fun _ _ _ _ _ _ b9 hb ⟨vl, e, h⟩ hs => ⟨vl, e, h⟩, q_ _, trivial⟩ ?_ ?_
   ·rintro c0 f5 f6 f7 f8 q hB N; have q : c0 = 999 := by simpa using q
    subst q; all_goals exact hB.stp N (by decide)
   ·refine ⟨?_, ?_, ?_, ?_, ?_, ?_, ?_, ?_, ?_, trivial⟩
    ·rintro c1 c2 c3 ha hB -; refine Zs ha ?_; refine d_ (h_ rfl) ?_; exact Zx rfl
    ·rintro c4 c5 c6 ha hB -; refine Zs ha ?_; refine d_ (h_ rfl) ?_; exact Zx rfl
    ·rintro c7 c8 c9 ha hB ⟨O, Q, -⟩; have ha := Fr.cons (d := 11) ha O; have ha := Fr.cons (d := 12) ha Q; refine Zs ha ?_; refine bq_ z g rfl rfl Tryz.underlying41 Tryz.sizeOf3 ?_; exact ⟨_, Stp.refl _ _ _, ⟨_, rfl, z⟩⟩
    ·rintro d0 d1 d2 ha hB ⟨R, -⟩; obtain ⟨d3, S, T⟩ := R; have ha := Fr.cons (d := 13) ha S; refine Zs ha ?_; refine bx_ T g hB rfl rfl Tryz.isAgg3 ?_; intro d4 U; cases U
     exact Zx rfl
    ·rintro d5 d6 d7 ha hB -; refine Zs ha ?_; refine d_ (h_ rfl) ?_; exact Zx rfl
    ·rintro d8 d9 e0 ha hB -; refine Zs ha ?_; refine d_ (h_ rfl) ?_; exact Zx rfl
    ·rintro e1 e2 e3 ha hB ⟨V, -⟩; have ha := Fr.cons (d := 16) ha V; refine Zs ha ?_; refine d_ (bt_ rfl rfl C) ?_; exact Zx rfl
    ·rintro e4 e5 e6 ha hB ⟨W, X, -⟩; have ha := Fr.cons (d := 15) ha W; have ha := Fr.cons (d := 17) ha X; refine Zs ha ?_; refine bq_ z i rfl rfl Tryz.underlying41 Tryz.sizeOf3 ?_; exact ⟨_, Stp.refl _ _ _, ⟨_, rfl, z⟩⟩
    ·rintro e7 e8 e9 ha hB ⟨Y, -⟩; obtain ⟨f0, Z, a0⟩ := Y; have ha := Fr.cons (d := 18) ha Z; refine Zs ha ?_; refine bx_ a0 i hB rfl rfl Tryz.isAgg3 ?_; intro f1 a1; cases a1
     exact Zx rfl
   rintro E a2 f2 ha hB ⟨-, -, -, a3, -, -, -, -, a4, -⟩; have ha := Fr.cons (d := 14) ha a3; have ha := Fr.cons (d := 19) ha a4; refine aV_ ha ?_; simp only [List.length_cons, List.length_nil, Nat.zero_add, Nat.reduceAdd, List.drop_succ_cons, List.drop_zero]; obtain ⟨F, G, b⟩ := bind_some b; refine Zo ?_; refine p_ (fZ_ a2 A D F G) Tryz.call135 ⟨rfl, rfl, trivial⟩ ?_; rintro f3 f4 ⟨rfl, a5⟩; have a6 := a5.stp 999 E; refine ⟨_, rfl, ?_⟩; replace hB := hB.stp a6; refine Ze [(0, c), (3, ZI f), (20, (.bool F))] (nx ?_); refine o_ rfl (fun s => ?_) (fun s => ?_)
   ·rw [if_pos s] at b; refine Zq (Za rfl (Ze [(2, (.bool false))] (nx (m_ (ac_ (D_ (D_ (ac_ ?_)))))))); refine bQ_ ?_; have a7 := Zj b; subst a7; refine fun a ha => ⟨_, k, ?_⟩; refine H_ (P := Tryz.prog) (vs := [(.bool false)]) Tryz.results93 ⟨rfl, trivial⟩ ?_ a ha; exact ⟨rfl, hB.keeps⟩
   ·rw [if_neg (by rw [s]; decide)] at b; refine g_ (y_ (nx (c_ (Zm rfl ?_)))); obtain ⟨u, H, b⟩ := bind_some b; refine Zv (bt_ rfl rfl H) (Za rfl (Ze [(0, c), (3, ZI u)] (w_ ?_))); have a8 := Zj b; subst a8; refine Zk [(0, c), (3, ZI u)] ?_; intro a ha; exact ⟨K13, by omega, u, E, k, ha, hB⟩
  ·rw [if_neg (by rw [m]; decide)] at b; refine v_ ?_; refine r_ (r_ (Q_ ?_)); refine s_ ?_; have a9 := Zj b; subst a9; refine Zk [] ?_; intro a ha; exact ⟨f, j, k, ha, hB⟩
 ·rintro a x ⟨f, j, rfl, ha, hB⟩; dsimp only at hF; refine ap_k ha ?_; refine Zn (Za rfl (Ze [(2, (.bool true))] (nx (m_ ?_)))); have b0 := Zj hF; subst b0; refine Zr Tryz.results93 [(.bool true)] ?_; exact ⟨rfl, hB.keeps⟩
 ·rintro a x ⟨r', rfl, b1⟩; dsimp only at hF; have b2 := Zj hF; subst b2; exact b1
end

end Go.Proofs.YtdbbeldgdgonfaaGreat
