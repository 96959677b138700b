/- Part 26 of what this claim rests on (GLx, Help, Mat, Open), packed by pack.py. -/
import Derived.BigQuiet
import Derived.Outline
import Derived.OpenShut
import Derived.ShutString
import Derived.ChangeOld
import Derived.Test.YtdbbeldgdgonfaaGreatP01
import Derived.Test.YtdbbeldgdgonfaaGreatP03
import Derived.Test.YtdbbeldgdgonfaaGreatP23
import Derived.Test.YtdbbeldgdgonfaaGreatP25
namespace Go.Proofs.YtdbbeldgdgonfaaGreat
set_option linter.unusedSimpArgs false
set_option linter.unusedVariables false

section
set_option maxRecDepth 100000
set_option maxHeartbeats 2000000
open Go.RowKit
theorem js_ : Inf Tryz.prog 3 (.int .i64 0) 1 8 := by unfold Inf; kernel_rfl

theorem jk_ : Inf Tryz.prog 41 (.slice none 0 0) 1 24 := by unfold Inf; kernel_rfl

theorem dO_ : (Tryz.prog.info? 28).map (·.size) = some 4 := by kernel_rfl

def gf_ (b : List Int) (c : Int) : Option Int :=
  (ck (c - (b.length : Int))) >>= fun a =>
  if decide (a < 0) then
    some (-1)
  else
    some a

def oJ_ (w : World) (r : Int) : Ending → World → Prop := fun e w' => e = .returned (.int .i64 r) ∧ Keeps w w'
theorem ph_ (w : World) (b : Value) (g : Yl) (i : RdL zt w b g) (c : Int) (r : Int) (hF : gf_ g c = some r) :
    Calls Tryz.prog 64 #[b, .int .i64 c] w (oJ_ w r) := by
 unfold gf_ at hF; have hB : Bs (fun _ => 1) (col (fun _ => 1)) w w := Bs.start _ _; refine i_ (n := 12) (vs := [b, (ZI c)]) Tryz.func64 rfl rfl ?_; refine Zq (Za rfl (Ze [(0, b), (1, ZI c)] (Zn (Zm rfl (Zm rfl (Zv (C_ rfl i Tryz.underlying41) ?_)))))); obtain ⟨a, d, hF⟩ := bind_some hF; refine Zv (bt_ rfl rfl d) (Za rfl (Ze [(1, ZI a)] (nx (a_ (Zq (Zm rfl (Zv (t_ rfl rfl) (Ze [(1, ZI a), (10, (.bool (decide (a < 0))))] (nx ?_))))))))); refine o_ rfl (fun f => ?_) (fun f => ?_)
 ·rw [if_pos f] at hF; refine Zq (Za rfl (Ze [(4, (ZI (-1)))] (nx (m_ (D_ ?_))))); have j := Zj hF; subst j; refine Zr Tryz.results64 [(ZI (-1))] ?_; exact ⟨rfl, hB.keeps⟩
 ·rw [if_neg (by rw [f]; decide)] at hF; refine g_ (Zn (Zm rfl (Za rfl (Ze [(4, ZI a)] (nx (m_ ?_)))))); have k := Zj hF; subst k; refine Zr Tryz.results64 [(ZI a)] ?_; exact ⟨rfl, hB.keeps⟩
def bU_ (d : List (List Int)) : (Int × Int) → Option (Lp (Int × Int) (Int × Int) Int) := fun (s : Int × Int) =>
  if decide (s.2 < (d.length : Int)) then
    (ix d s.2) >>= fun b =>
    (gf_ b s.1) >>= fun a =>
    if decide (a < 0) then
      some (.ret (-1))
    else
      (ck (s.2 + 1)) >>= fun c =>
      some (.go (a, c))
  else
    some (.out (s.1, s.2))
def eE_ (fuel : Nat) (a : List (List Int)) (c : Int) : Option Int :=
  (ck (c - (a.length : Int))) >>= fun b =>
  if decide (b < 0) then
    some (-1)
  else
    (loopF (bU_ a) fuel (b, 0)) >>= fun d =>
    match d with
    | .inl (f, g) =>
      some f
    | .inr r' => some r'

def ki_ (w : World) (r : Int) : Ending → World → Prop := fun e w' => e = .returned (.int .i64 r) ∧ Keeps w w'
theorem jR_ (fuel : Nat) (w : World) (d : Value) (z : Yk) (B : RdL zt w d z) (A : Int) (r : Int) (hF : eE_ fuel z A = some r) :
    Calls Tryz.prog 39 #[d, .int .i64 A] w (ki_ w r) := by
 unfold eE_ at hF; have hB : Bs (fun _ => 1) (col (fun _ => 1)) w w := Bs.start _ _; refine i_ (n := 27) (vs := [d, (ZI A)]) Tryz.func39 rfl rfl ?_; refine Zq (Za rfl (Ze [(0, d), (1, ZI A)] (Zn (Zm rfl (Zm rfl (Zv (C_ rfl B Tryz.underlying22) ?_)))))); obtain ⟨u, C, hF⟩ := bind_some hF; refine Zv (bt_ rfl rfl C) (Za rfl (Ze [(0, d), (1, ZI u)] (nx (a_ (Zq (Zm rfl (Zv (t_ rfl rfl) (Ze [(0, d), (1, ZI u), (11, (.bool (decide (u < 0))))] (nx ?_))))))))); refine o_ rfl (fun D => ?_) (fun D => ?_)
 ·rw [if_pos D] at hF; refine Zq (Za rfl (Ze [(4, (ZI (-1)))] (nx (m_ (D_ ?_))))); have U := Zj hF; subst U; refine Zr Tryz.results39 [(ZI (-1))] ?_; exact ⟨rfl, hB.keeps⟩
 ·rw [if_neg (by rw [D]; decide)] at hF; refine g_ (nx (a_ (Zq (Za rfl (Ze [(0, d), (1, ZI u), (5, ZI 0)] (nx ?_)))))); obtain ⟨E, F, hF⟩ := bind_some hF; refine A_ (fun a j => ∃ (f : Int) (g : Int) (i : Tg), E = .inl (f, g) ∧ Fr a 27 [(1, ZI f)] ∧ Bs (fun _ => 1) i w j) (fun a w' => ∃ r', E = .inr r' ∧ bodyPost Tryz.prog Tryz.f39 (ki_ w r') .ret a w') ?_ ?_ ?_
  ·refine f_ ?_; refine z_ (fun (K : Nat) a j => ∃ (f : Int) (g : Int) (i : Tg), loopF (bU_ z) K (f, g) = some E ∧ Fr a 27 [(0, d), (1, ZI f), (5, ZI g)] ∧ Bs (fun _ => 1) i w j) fuel (fun a ha => ⟨u, 0, (col (fun _ => 1)), F, ha.sub (r := [(0, d), (1, ZI u), (5, ZI 0)]) ⟨rfl, rfl, rfl, trivial⟩, hB⟩) ?_; rintro K12 a j ⟨f, g, i, V, ha, hB⟩; obtain ⟨K16, W, X, b, k⟩ := Y_ V; dsimp only [bU_] at b; refine M_ ha ?_; refine a_ (Zq (Zm rfl (Zm rfl (Zv (C_ rfl B Tryz.underlying22) (Zv (t_ rfl rfl) (Ze [(0, d), (1, ZI f), (5, ZI g), (15, (.bool (decide (g < (z.length : Int)))))] (nx ?_))))))); refine o_ rfl (fun m => ?_) (fun m => ?_)
   ·rw [if_pos m] at b; refine g_ (nx (a_ (f_ (Zq (Zm rfl (Zm rfl ?_)))))); obtain ⟨G, v, b⟩ := bind_some b; refine Zo ?_; refine wf_atZ B v hB rfl rfl Tryz.underlying22 Tryz.sizeOf41 ?_; intro Y Z a0 H I; obtain ⟨a1, rfl, J⟩ := I; refine Zv (e_ rfl Tryz.isAgg41 (j_ H)) (Zm rfl ?_); obtain ⟨c, x, b⟩ := bind_some b; refine Zo ?_; refine p_ (ph_ j _ G (J.keep hB.keeps) f c x) Tryz.call64 ⟨rfl, rfl, trivial⟩ ?_; rintro a2 a3 ⟨rfl, L⟩; have M := L.stp 999 i; refine ⟨_, rfl, ?_⟩; replace hB := hB.stp M; refine Za rfl (Ze [(0, d), (1, ZI c), (5, ZI g)] (Zn (Zm rfl (Zv (t_ rfl rfl) (Ze [(0, d), (1, ZI c), (5, ZI g), (25, (.bool (decide (c < 0))))] (nx ?_)))))); refine o_ rfl (fun q => ?_) (fun q => ?_)
    ·rw [if_pos q] at b; refine Zq (Za rfl (Ze [(4, (ZI (-1)))] (nx (m_ (ac_ (D_ (D_ (ac_ ?_)))))))); refine bQ_ ?_; have N := Zj b; subst N; refine fun a ha => ⟨_, k, ?_⟩; refine H_ (P := Tryz.prog) (vs := [(ZI (-1))]) Tryz.results39 ⟨rfl, trivial⟩ ?_ a ha; exact ⟨rfl, hB.keeps⟩
    ·rw [if_neg (by rw [q]; decide)] at b; refine g_ (y_ (nx (c_ (Zm rfl ?_)))); obtain ⟨s, y, b⟩ := bind_some b; refine Zv (F_ rfl rfl y) (Za rfl (Ze [(0, d), (1, ZI c), (5, ZI s)] (w_ ?_))); have O := Zj b; subst O; refine Zk [(0, d), (1, ZI c), (5, ZI s)] ?_; intro a ha; exact ⟨K16, by omega, c, s, i, k, ha, hB⟩
   ·rw [if_neg (by rw [m]; decide)] at b; refine v_ ?_; refine r_ (r_ (Q_ ?_)); refine s_ ?_; have Q := Zj b; subst Q; refine Zk [(1, ZI f)] ?_; intro a ha; exact ⟨f, g, i, k, ha, hB⟩
  ·rintro a j ⟨f, g, i, rfl, ha, hB⟩; dsimp only at hF; refine ap_k ha ?_; refine Zn (Zm rfl (Za rfl (Ze [(4, ZI f)] (nx (m_ ?_))))); have R := Zj hF; subst R; refine Zr Tryz.results39 [(ZI f)] ?_; exact ⟨rfl, hB.keeps⟩
  ·rintro a j ⟨r', rfl, S⟩; dsimp only at hF; have T := Zj hF; subst T; exact S
def dB_ (d : List Int) : ((List Int) × Int) → Option (Lp ((List Int) × Int) ((List Int) × Int) (List Int)) := fun (s : (List Int) × Int) =>
  if decide (s.2 < (d.length : Int)) then
    (ix d s.2) >>= fun a =>
    (ix s.1 s.2) >>= fun f =>
    (st s.1 s.2 a) >>= fun b =>
    (ck (s.2 + 1)) >>= fun c =>
    some (.go (b, c))
  else
    some (.out (s.1, s.2))
def gg_ (fuel : Nat) (b : List Int) : Option (List Int) :=
  (mk (Rz.z : Int) (b.length : Int)) >>= fun c =>
  (loopF (dB_ b) fuel (c, 0)) >>= fun a =>
  match a with
  | .inl (d, f) =>
    some d
  | .inr _ => none

def qb_ (oo : Tg) (t : Nat) (w : World) (r : Yl) : Ending → World → Prop := fun e w' => ∃ (a : Value) (o' : Tg), e = .returned (a) ∧ Ow w.heap.size 3 t o' w' a r ∧ Keeps w w' ∧ ∀ b, b < w.heap.size → o' b = oo b
theorem qt_ (fuel : Nat) (w : World) (oo : Tg) (t : Nat) (ht : 2 ≤ t) (g : Value) (B : Yl) (C : RdL zt w g B) (r : Yl) (hF : gg_ fuel B = some r) :
    Calls Tryz.prog 67 #[g] w (qb_ oo t w r) := by
 unfold gg_ at hF; have hB : Bs oo (col oo) w w := Bs.start _ _; refine i_ (n := 22) (vs := [g]) Tryz.func67 rfl rfl ?_; generalize col oo = o at *; refine Zq (Za rfl (Ze [(0, g)] (Zn (Zm rfl (Zv (C_ rfl C Tryz.underlying41) ?_))))); obtain ⟨Q, D, hF⟩ := bind_some hF; refine Zo ?_; refine hf_ (o := o) w.heap.size 11 hB.keeps.size D rfl rfl Tryz.underlying41 js_ rfl (by decide) ?_; intro R a5 f S T; replace hB := hB.stp T; refine Za rfl (Ze [(0, g), (3, f)] (nx (a_ (Zq (Za rfl (Ze [(0, g), (3, f), (4, ZI 0)] (nx ?_))))))); obtain ⟨q, s, hF⟩ := bind_some hF; refine A_ (fun a d => ∃ (j : Yl) (i : Int) (c : Tg), q = .inl (j, i) ∧ Fr a 22 [(3, f)] ∧ Bs oo c w d ∧ Ow w.heap.size 3 11 c d f j) (fun _ _ => False) ?_ ?_ ?_
 ·refine f_ ?_; refine z_ (fun (K : Nat) a d => ∃ (j : Yl) (i : Int) (c : Tg), loopF (dB_ B) K (j, i) = some q ∧ Fr a 22 [(0, g), (3, f), (4, ZI i)] ∧ Bs oo c w d ∧ Ow w.heap.size 3 11 c d f j) fuel (fun a ha => ⟨Q, 0, R, s, ha.sub (r := [(0, g), (3, f), (4, ZI 0)]) ⟨rfl, rfl, rfl, trivial⟩, hB, S⟩) ?_; rintro K16 a d ⟨j, i, c, E, ha, hB, u⟩; obtain ⟨K20, U, V, b, v⟩ := Y_ E; dsimp only [dB_] at b; refine M_ ha ?_; refine a_ (Zq (Zm rfl (Zm rfl (Zv (C_ rfl C Tryz.underlying41) (Zv (t_ rfl rfl) (Ze [(0, g), (3, f), (4, ZI i), (11, (.bool (decide (i < (B.length : Int)))))] (nx ?_))))))); refine o_ rfl (fun k => ?_) (fun k => ?_)
  ·rw [if_pos k] at b; refine g_ (nx (a_ (f_ (c_ (Zm rfl (Zm rfl (Zm rfl (Zm rfl ?_)))))))); obtain ⟨W, x, b⟩ := bind_some b; refine Zo ?_; refine wf_atZ C x hB rfl rfl Tryz.underlying41 Tryz.sizeOf3 ?_; intro X Y Z F G; cases G
   refine Zv (e_ rfl Tryz.isAgg3 (j_ F)) ?_; obtain ⟨a0, y, b⟩ := bind_some b; refine Zo ?_; refine fS_ u y rfl rfl Tryz.underlying41 Tryz.sizeOf3 ?_; intro a1 a2 H a3 I; cases I
   obtain ⟨J, z, b⟩ := bind_some b; refine ad_ trivial ?_; refine cx_ u H z rfl (by decide) rfl rfl rfl Tryz.sizeOf3 rfl ?_; intro a4 L M; replace hB := hB.stp M; refine Ze [(0, g), (3, f), (4, ZI i)] (y_ (nx (c_ (Zm rfl ?_)))); obtain ⟨m, A, b⟩ := bind_some b; refine Zv (F_ rfl rfl A) (Za rfl (Ze [(0, g), (3, f), (4, ZI m)] (w_ ?_))); have N := Zj b; subst N; refine Zk [(0, g), (3, f), (4, ZI m)] ?_; intro a ha; exact ⟨K20, by omega, J, m, c, v, ha, hB, L⟩
  ·rw [if_neg (by rw [k]; decide)] at b; refine v_ ?_; refine r_ (r_ (Q_ ?_)); refine s_ ?_; have O := Zj b; subst O; refine Zk [(3, f)] ?_; intro a ha; exact ⟨j, i, c, v, ha, hB, u⟩
 ·rintro a d ⟨j, i, c, rfl, ha, hB, u⟩; dsimp only at hF; refine ap_k ha ?_; refine Zn (Zm rfl (Za rfl (Ze [(2, f)] (nx (m_ ?_))))); have P := Zj hF; subst P; refine Zr Tryz.results67 [f] ?_; exact ⟨_, rt oo c w.heap.size 11 t, rfl, u.rt hB (by decide) t, hB.keeps, af_ _ _ _ _ _⟩
 ·exact fun _ _ h => h.elim
def cZ_ (fuel : Nat) (f : List (List Int)) : ((List (List Int)) × Int) → Option (Lp ((List (List Int)) × Int) ((List (List Int)) × Int) (List (List Int))) := fun (s : (List (List Int)) × Int) =>
  if decide (s.2 < (f.length : Int)) then
    (ix f s.2) >>= fun a =>
    (gg_ fuel a) >>= fun b =>
    (ix s.1 s.2) >>= fun g =>
    (st s.1 s.2 b) >>= fun c =>
    (ck (s.2 + 1)) >>= fun d =>
    some (.go (c, d))
  else
    some (.out (s.1, s.2))
def eD_ (fuel : Nat) (b : List (List Int)) : Option (List (List Int)) :=
  (mk ([] : List Int) (b.length : Int)) >>= fun c =>
  (loopF (cZ_ fuel b) fuel (c, 0)) >>= fun a =>
  match a with
  | .inl (d, f) =>
    some d
  | .inr _ => none

def oz_ (oo : Tg) (t : Nat) (w : World) (r : Yk) : Ending → World → Prop := fun e w' => ∃ (a : Value) (c : List Hv) (o' : Tg), e = .returned (a) ∧ Ow w.heap.size 41 t o' w' a c ∧ Rws w.heap.size 3 (t + 1) o' w' c r ∧ Keeps w w' ∧ ∀ b, b < w.heap.size → o' b = oo b
theorem jF_ (fuel : Nat) (w : World) (oo : Tg) (t : Nat) (ht : 2 ≤ t) (s : Value) (B : Yk) (P : RdL zt w s B) (r : Yk) (hF : eD_ fuel B = some r) :
    Calls Tryz.prog 42 #[s] w (oz_ oo t w r) := by
 unfold eD_ at hF; have hB : Bs oo (col oo) w w := Bs.start _ _; refine i_ (n := 23) (vs := [s]) Tryz.func42 rfl rfl ?_; generalize col oo = o at *; refine Zq (Za rfl (Ze [(0, s)] (Zn (Zm rfl (Zv (C_ rfl P Tryz.underlying22) ?_))))); obtain ⟨b1, Q, hF⟩ := bind_some hF; obtain ⟨b2, R⟩ := sm_ Q w.heap.size 3 12 o w; refine Zo ?_; refine hf_ (o := o) w.heap.size 11 hB.keeps.size b2 rfl rfl Tryz.underlying22 jk_ rfl (by decide) ?_; intro b3 d1 q b4 b0; replace R := R.stp b0; replace hB := hB.stp b0; refine Za rfl (Ze [(0, s), (3, q)] (nx (a_ (Zq (Za rfl (Ze [(0, s), (3, q), (4, ZI 0)] (nx ?_))))))); obtain ⟨C, D, hF⟩ := bind_some hF; refine A_ (fun a g => ∃ (u : Yk) (c : Int) (j : List Hv) (d : Tg), C = .inl (u, c) ∧ Fr a 23 [(3, q)] ∧ Bs oo d w g ∧ Ow w.heap.size 41 11 d g q j ∧ Rws w.heap.size 3 12 d g j u) (fun _ _ => False) ?_ ?_ ?_
 ·refine f_ ?_; refine z_ (fun (K : Nat) a g => ∃ (u : Yk) (c : Int) (j : List Hv) (d : Tg), loopF (cZ_ fuel B) K (u, c) = some C ∧ Fr a 23 [(0, s), (3, q), (4, ZI c)] ∧ Bs oo d w g ∧ Ow w.heap.size 41 11 d g q j ∧ Rws w.heap.size 3 12 d g j u) fuel (fun a ha => ⟨b1, 0, (List.replicate (B.length : Int).toNat ⟨.slice none 0 0⟩), b3, D, ha.sub (r := [(0, s), (3, q), (4, ZI 0)]) ⟨rfl, rfl, rfl, trivial⟩, hB, b4, R⟩) ?_; rintro K20 a g ⟨u, c, j, d, S, ha, hB, m, f⟩; obtain ⟨K24, b5, b6, b, E⟩ := Y_ S; dsimp only [cZ_] at b; refine M_ ha ?_; refine a_ (Zq (Zm rfl (Zm rfl (Zv (C_ rfl P Tryz.underlying22) (Zv (t_ rfl rfl) (Ze [(0, s), (3, q), (4, ZI c), (11, (.bool (decide (c < (B.length : Int)))))] (nx ?_))))))); refine o_ rfl (fun v => ?_) (fun v => ?_)
  ·rw [if_pos v] at b; refine g_ (nx (a_ (f_ (c_ (Zm rfl (Zm rfl (Zm rfl (Zm rfl ?_)))))))); obtain ⟨T, F, b⟩ := bind_some b; refine Zo ?_; refine wf_atZ P F hB rfl rfl Tryz.underlying22 Tryz.sizeOf41 ?_; intro b7 b8 b9 U V; obtain ⟨c0, rfl, W⟩ := V; refine Zv (e_ rfl Tryz.isAgg41 (j_ U)) ?_; obtain ⟨X, G, b⟩ := bind_some b; refine Zo ?_; refine p_ (qt_ fuel g d 13 (by decide) _ T (W.keep hB.keeps) X G) Tryz.call67 ⟨rfl, trivial⟩ ?_; rintro c1 c2 ⟨H, I, rfl, k, Y, Z⟩; have x := Y.stp' 13 Z; replace k := k.mono hB.keeps.size; refine ⟨_, rfl, ?_⟩; replace m := m.stp x; replace f := f.stp x; replace hB := hB.stp x; obtain ⟨c3, J, b⟩ := bind_some b; obtain ⟨c4, a0, c5, c6⟩ := f.ix J; refine Zo ?_; refine fS_ m a0 rfl rfl Tryz.underlying22 Tryz.sizeOf41 ?_; intro c7 c8 a1 c9 a2; obtain ⟨rfl, -⟩ := a2; obtain ⟨a3, L, b⟩ := bind_some b; obtain ⟨a4, a5⟩ := f.stV L H; refine ad_ trivial ?_; refine cx_ m a1 a4 (iH_ k) (by decide) rfl rfl rfl Tryz.sizeOf41 k.cells1 ?_; intro d0 y z; replace f := f.stp z; replace k := k.stp z; replace hB := hB.stp z; have M := RwH.put (i := c.toNat) (f.hole c.toNat) k (by decide) (by decide); rw [← a5] at M; have N := eY_ 13 12 I; clear f k; replace y := y.rc N (by decide) (by decide); replace hB := hB.rc N (by decide); generalize mrg 13 12 I = a6 at *; refine Ze [(0, s), (3, q), (4, ZI c)] (y_ (nx (c_ (Zm rfl ?_)))); obtain ⟨A, O, b⟩ := bind_some b; refine Zv (F_ rfl rfl O) (Za rfl (Ze [(0, s), (3, q), (4, ZI A)] (w_ ?_))); have a7 := Zj b; subst a7; refine Zk [(0, s), (3, q), (4, ZI A)] ?_; intro a ha; exact ⟨K24, by omega, a3, A, (j.set c.toNat ⟨H⟩), a6, E, ha, hB, y, M⟩
  ·rw [if_neg (by rw [v]; decide)] at b; refine v_ ?_; refine r_ (r_ (Q_ ?_)); refine s_ ?_; have a8 := Zj b; subst a8; refine Zk [(3, q)] ?_; intro a ha; exact ⟨u, c, j, d, E, ha, hB, m, f⟩
 ·rintro a g ⟨u, c, j, d, rfl, ha, hB, m, f⟩; dsimp only at hF; refine ap_k ha ?_; refine Zn (Zm rfl (Za rfl (Ze [(2, q)] (nx (m_ ?_))))); have a9 := Zj hF; subst a9; refine Zr Tryz.results42 [q] ?_; exact ⟨_, j, rt2 oo d w.heap.size 11 12 t, rfl, m.rt2 hB (by decide) (by decide) t, f.rt2 hB (by decide) (by decide) (by decide) t, hB.keeps, iA_ _ _ _ _ _ _⟩
 ·exact fun _ _ h => h.elim
def dz_ (d : List Int) (f : List Int) : Int → Option (Lp Int Int Bool) := fun (s : Int) =>
  if decide (s < (d.length : Int)) then
    (ix d s) >>= fun a =>
    (ix f s) >>= fun b =>
    if a != b then
      some (.ret false)
    else
      (ck (s + 1)) >>= fun c =>
      some (.go c)
  else
    some (.out s)
def gk_ (fuel : Nat) (a : List Int) (b : List Int) : Option Bool :=
  if (a.length : Int) != (b.length : Int) then
    some false
  else
    (loopF (dz_ a b) fuel 0) >>= fun c =>
    match c with
    | .inl d =>
      some true
    | .inr r' => some r'

def lK_ (w : World) (r : Bool) : Ending → World → Prop := fun e w' => e = .returned (.bool r) ∧ Keeps w w'
theorem pm_ (fuel : Nat) (w : World) (f : Value) (y : Yl) (E : RdL zt w f y) (g : Value) (A : Yl) (F : RdL zt w g A) (r : Bool) (hF : gk_ fuel y A = some r) :
    Calls Tryz.prog 24 #[f, g] w (lK_ w r) := by
 unfold gk_ at hF; have hB : Bs (fun _ => 1) (col (fun _ => 1)) w w := Bs.start _ _; refine i_ (n := 26) (vs := [f, g]) Tryz.func24 rfl rfl ?_; refine Zq (Za rfl (Ze [(0, f), (1, g)] (nx (a_ (Zq (Zm rfl (Zv (C_ rfl E Tryz.underlying41) (Zm rfl (Zv (C_ rfl F Tryz.underlying41) (Zv (bK_ rfl rfl) (Ze [(0, f), (1, g), (10, (.bool ((y.length : Int) != (A.length : Int))))] (nx ?_)))))))))))); refine o_ rfl (fun G => ?_) (fun G => ?_)
 ·rw [if_pos G] at hF; refine Zq (Za rfl (Ze [(4, (.bool false))] (nx (m_ (D_ ?_))))); have a7 := Zj hF; subst a7; refine Zr Tryz.results24 [(.bool false)] ?_; exact ⟨rfl, hB.keeps⟩
 ·rw [if_neg (by rw [G]; decide)] at hF; refine g_ (nx (a_ (Zq (Za rfl (Ze [(0, f), (1, g), (5, ZI 0)] (nx ?_)))))); obtain ⟨H, I, hF⟩ := bind_some hF; refine A_ (fun a z => ∃ (c : Int) (k : Tg), H = .inl c ∧ Fr a 26 [] ∧ Bs (fun _ => 1) k w z) (fun a w' => ∃ r', H = .inr r' ∧ bodyPost Tryz.prog Tryz.f24 (lK_ w r') .ret a w') ?_ ?_ ?_
  ·refine f_ ?_; refine z_ (fun (K : Nat) a z => ∃ (c : Int) (k : Tg), loopF (dz_ y A) K c = some H ∧ Fr a 26 [(0, f), (1, g), (5, ZI c)] ∧ Bs (fun _ => 1) k w z) fuel (fun a ha => ⟨0, (col (fun _ => 1)), I, ha.sub (r := [(0, f), (1, g), (5, ZI 0)]) ⟨rfl, rfl, rfl, trivial⟩, hB⟩) ?_; rintro K10 a z ⟨c, k, a8, ha, hB⟩; obtain ⟨K14, a9, b0, b, m⟩ := Y_ a8; dsimp only [dz_] at b; refine M_ ha ?_; refine a_ (Zq (Zm rfl (Zm rfl (Zv (C_ rfl E Tryz.underlying41) (Zv (t_ rfl rfl) (Ze [(0, f), (1, g), (5, ZI c), (14, (.bool (decide (c < (y.length : Int)))))] (nx ?_))))))); refine o_ rfl (fun q => ?_) (fun q => ?_)
   ·rw [if_pos q] at b; refine g_ (nx (a_ (f_ (a_ ?_)))); obtain ⟨B, i, b⟩ := bind_some b; obtain ⟨C, j, b⟩ := bind_some b; refine Z_ (o := k) [(0, f), (1, g), (5, ZI c)] [0, 1, 5] [17, 18, 19, 20, 21, 22, 23, 24] [[], [], [0, 1], [2], [], [], [4, 5], [6]] [none, none, none, none, none, none, none, none] [999, 999, 999, 999, 999, 999, 999, 999] [0, 0, 0, 0, 0, 0, 0, 0] [999] [fun v _ _ => v = f, fun v _ _ => v = (ZI c), fun v o b1 => ∃ vl, v = adr vl (c.toNat * Rp.sz Int) ∧ RdL zt w vl y, fun v _ _ => v = (ZI B), fun v _ _ => v = g, fun v _ _ => v = (ZI c), fun v o b1 => ∃ vl, v = adr vl (c.toNat * Rp.sz Int) ∧ RdL zt w vl A, fun v _ _ => v = (ZI C)] (fun b2 b3 => Bs (fun _ => 1) b2 w b3) E_ (by kernel_rfl) rfl ⟨rfl, rfl, rfl, trivial⟩ hB ?_ ⟨q_ _, q_ _, fun _ _ _ _ _ _ b4 hb ⟨vl, e, h⟩ hs => ⟨vl, e, h⟩, q_ _, q_ _, q_ _, fun _ _ _ _ _ _ b4 hb ⟨vl, e, h⟩ hs => ⟨vl, e, h⟩, q_ _, trivial⟩ ?_ ?_
    ·rintro b5 e6 e7 e8 e9 s hB J; have s : b5 = 999 := by simpa using s
     subst s; all_goals exact hB.stp J (by decide)
    ·refine ⟨?_, ?_, ?_, ?_, ?_, ?_, ?_, ?_, trivial⟩
     ·rintro b6 b7 b8 ha hB -; refine Zs ha ?_; refine d_ (h_ rfl) ?_; exact Zx rfl
     ·rintro b9 c0 c1 ha hB -; refine Zs ha ?_; refine d_ (h_ rfl) ?_; exact Zx rfl
     ·rintro c2 c3 c4 ha hB ⟨L, M, -⟩; have ha := Fr.cons (d := 17) ha L; have ha := Fr.cons (d := 18) ha M; refine Zs ha ?_; refine bq_ E i rfl rfl Tryz.underlying41 Tryz.sizeOf3 ?_; exact ⟨_, Stp.refl _ _ _, ⟨_, rfl, E⟩⟩
     ·rintro c5 c6 c7 ha hB ⟨N, -⟩; obtain ⟨c8, O, Q⟩ := N; have ha := Fr.cons (d := 19) ha O; refine Zs ha ?_; refine bx_ Q i hB rfl rfl Tryz.isAgg3 ?_; intro c9 R; cases R
      exact Zx rfl
     ·rintro d0 d1 d2 ha hB -; refine Zs ha ?_; refine d_ (h_ rfl) ?_; exact Zx rfl
     ·rintro d3 d4 d5 ha hB -; refine Zs ha ?_; refine d_ (h_ rfl) ?_; exact Zx rfl
     ·rintro d6 d7 d8 ha hB ⟨S, T, -⟩; have ha := Fr.cons (d := 21) ha S; have ha := Fr.cons (d := 22) ha T; refine Zs ha ?_; refine bq_ F j rfl rfl Tryz.underlying41 Tryz.sizeOf3 ?_; exact ⟨_, Stp.refl _ _ _, ⟨_, rfl, F⟩⟩
     ·rintro d9 e0 e1 ha hB ⟨U, -⟩; obtain ⟨e2, V, W⟩ := U; have ha := Fr.cons (d := 23) ha V; refine Zs ha ?_; refine bx_ W j hB rfl rfl Tryz.isAgg3 ?_; intro e3 X; cases X
      exact Zx rfl
    rintro Y e4 e5 ha hB ⟨-, -, -, Z, -, -, -, a0, -⟩; have ha := Fr.cons (d := 20) ha Z; have ha := Fr.cons (d := 24) ha a0; refine aV_ ha ?_; simp only [List.length_cons, List.length_nil, Nat.zero_add, Nat.reduceAdd, List.drop_succ_cons, List.drop_zero]; refine Zv (bK_ rfl rfl) (Ze [(0, f), (1, g), (5, ZI c), (25, (.bool (B != C)))] (nx ?_)); refine o_ rfl (fun u => ?_) (fun u => ?_)
    ·rw [if_pos u] at b; refine Zq (Za rfl (Ze [(4, (.bool false))] (nx (m_ (ac_ (D_ (D_ (ac_ ?_)))))))); refine bQ_ ?_; have a1 := Zj b; subst a1; refine fun a ha => ⟨_, m, ?_⟩; refine H_ (P := Tryz.prog) (vs := [(.bool false)]) Tryz.results24 ⟨rfl, trivial⟩ ?_ a ha; exact ⟨rfl, hB.keeps⟩
    ·rw [if_neg (by rw [u]; decide)] at b; refine g_ (y_ (nx (c_ (Zm rfl ?_)))); obtain ⟨x, D, b⟩ := bind_some b; refine Zv (F_ rfl rfl D) (Za rfl (Ze [(0, f), (1, g), (5, ZI x)] (w_ ?_))); have a2 := Zj b; subst a2; refine Zk [(0, f), (1, g), (5, ZI x)] ?_; intro a ha; exact ⟨K14, by omega, x, Y, m, ha, hB⟩
   ·rw [if_neg (by rw [q]; decide)] at b; refine v_ ?_; refine r_ (r_ (Q_ ?_)); refine s_ ?_; have a3 := Zj b; subst a3; refine Zk [] ?_; intro a ha; exact ⟨c, k, m, ha, hB⟩
  ·rintro a z ⟨c, k, rfl, ha, hB⟩; dsimp only at hF; refine ap_k ha ?_; refine Zn (Za rfl (Ze [(4, (.bool true))] (nx (m_ ?_)))); have a4 := Zj hF; subst a4; refine Zr Tryz.results24 [(.bool true)] ?_; exact ⟨rfl, hB.keeps⟩
  ·rintro a z ⟨r', rfl, a5⟩; dsimp only at hF; have a6 := Zj hF; subst a6; exact a5
def da_ (fuel : Nat) (f : List (List Int)) (g : List (List Int)) : Int → Option (Lp Int Int Bool) := fun (s : Int) =>
  if decide (s < (f.length : Int)) then
    (ix f s) >>= fun a =>
    (ix g s) >>= fun b =>
    (gk_ fuel a b) >>= fun c =>
    if !c then
      some (.ret false)
    else
      (ck (s + 1)) >>= fun d =>
      some (.go d)
  else
    some (.out s)
def eG_ (fuel : Nat) (a : List (List Int)) (b : List (List Int)) : Option Bool :=
  if (a.length : Int) != (b.length : Int) then
    some false
  else
    (loopF (da_ fuel a b) fuel 0) >>= fun c =>
    match c with
    | .inl d =>
      some true
    | .inr r' => some r'

def jM_ (w : World) (r : Bool) : Ending → World → Prop := fun e w' => e = .returned (.bool r) ∧ Keeps w w'
theorem jO_ (fuel : Nat) (w : World) (f : Value) (D : Yk) (L : RdL zt w f D) (g : Value) (F : Yk) (M : RdL zt w g F) (r : Bool) (hF : eG_ fuel D F = some r) :
    Calls Tryz.prog 25 #[f, g] w (jM_ w r) := by
 unfold eG_ at hF; have hB : Bs (fun _ => 1) (col (fun _ => 1)) w w := Bs.start _ _; refine i_ (n := 27) (vs := [f, g]) Tryz.func25 rfl rfl ?_; refine Zq (Za rfl (Ze [(0, f), (1, g)] (nx (a_ (Zq (Zm rfl (Zv (C_ rfl L Tryz.underlying22) (Zm rfl (Zv (C_ rfl M Tryz.underlying22) (Zv (bK_ rfl rfl) (Ze [(0, f), (1, g), (10, (.bool ((D.length : Int) != (F.length : Int))))] (nx ?_)))))))))))); refine o_ rfl (fun N => ?_) (fun N => ?_)
 ·rw [if_pos N] at hF; refine Zq (Za rfl (Ze [(4, (.bool false))] (nx (m_ (D_ ?_))))); have c1 := Zj hF; subst c1; refine Zr Tryz.results25 [(.bool false)] ?_; exact ⟨rfl, hB.keeps⟩
 ·rw [if_neg (by rw [N]; decide)] at hF; refine g_ (nx (a_ (Zq (Za rfl (Ze [(0, f), (1, g), (5, ZI 0)] (nx ?_)))))); obtain ⟨O, Q, hF⟩ := bind_some hF; refine A_ (fun a E => ∃ (c : Int) (s : Tg), O = .inl c ∧ Fr a 27 [] ∧ Bs (fun _ => 1) s w E) (fun a w' => ∃ r', O = .inr r' ∧ bodyPost Tryz.prog Tryz.f25 (jM_ w r') .ret a w') ?_ ?_ ?_
  ·refine f_ ?_; refine z_ (fun (K : Nat) a E => ∃ (c : Int) (s : Tg), loopF (da_ fuel D F) K c = some O ∧ Fr a 27 [(0, f), (1, g), (5, ZI c)] ∧ Bs (fun _ => 1) s w E) fuel (fun a ha => ⟨0, (col (fun _ => 1)), Q, ha.sub (r := [(0, f), (1, g), (5, ZI 0)]) ⟨rfl, rfl, rfl, trivial⟩, hB⟩) ?_; rintro K10 a E ⟨c, s, c2, ha, hB⟩; obtain ⟨K14, c3, c4, b, u⟩ := Y_ c2; dsimp only [da_] at b; refine M_ ha ?_; refine a_ (Zq (Zm rfl (Zm rfl (Zv (C_ rfl L Tryz.underlying22) (Zv (t_ rfl rfl) (Ze [(0, f), (1, g), (5, ZI c), (14, (.bool (decide (c < (D.length : Int)))))] (nx ?_))))))); refine o_ rfl (fun x => ?_) (fun x => ?_)
   ·rw [if_pos x] at b; refine g_ (nx (a_ (f_ (a_ ?_)))); obtain ⟨y, m, b⟩ := bind_some b; obtain ⟨z, q, b⟩ := bind_some b; refine Z_ (o := s) [(0, f), (1, g), (5, ZI c)] [0, 1, 5] [17, 18, 19, 20, 21, 22, 23, 24] [[], [], [0, 1], [2], [], [], [4, 5], [6]] [none, none, none, none, none, none, none, none] [999, 999, 999, 999, 999, 999, 999, 999] [0, 0, 0, 0, 0, 0, 0, 0] [999] [fun v _ _ => v = f, fun v _ _ => v = (ZI c), fun v o R => ∃ vl, v = adr vl (c.toNat * Rp.sz Yl) ∧ RdL zt w vl D, fun v o R => RdL zt w v y, fun v _ _ => v = g, fun v _ _ => v = (ZI c), fun v o R => ∃ vl, v = adr vl (c.toNat * Rp.sz Yl) ∧ RdL zt w vl F, fun v o R => RdL zt w v z] (fun c5 c6 => Bs (fun _ => 1) c5 w c6) E_ (by kernel_rfl) rfl ⟨rfl, rfl, rfl, trivial⟩ hB ?_ ⟨q_ _, q_ _, fun _ _ _ _ _ _ S hb ⟨vl, e, h⟩ hs => ⟨vl, e, h⟩, fun _ _ _ _ _ _ S hb h hs => h, q_ _, q_ _, fun _ _ _ _ _ _ S hb ⟨vl, e, h⟩ hs => ⟨vl, e, h⟩, fun _ _ _ _ _ _ S hb h hs => h, trivial⟩ ?_ ?_
    ·rintro c7 g2 g3 g4 g5 A hB T; have A : c7 = 999 := by simpa using A
     subst A; all_goals exact hB.stp T (by decide)
    ·refine ⟨?_, ?_, ?_, ?_, ?_, ?_, ?_, ?_, trivial⟩
     ·rintro c8 c9 d0 ha hB -; refine Zs ha ?_; refine d_ (h_ rfl) ?_; exact Zx rfl
     ·rintro d1 d2 d3 ha hB -; refine Zs ha ?_; refine d_ (h_ rfl) ?_; exact Zx rfl
     ·rintro d4 d5 d6 ha hB ⟨U, V, -⟩; have ha := Fr.cons (d := 17) ha U; have ha := Fr.cons (d := 18) ha V; refine Zs ha ?_; refine bq_ L m rfl rfl Tryz.underlying22 Tryz.sizeOf41 ?_; exact ⟨_, Stp.refl _ _ _, ⟨_, rfl, L⟩⟩
     ·rintro d7 d8 d9 ha hB ⟨W, -⟩; obtain ⟨e0, X, Y⟩ := W; have ha := Fr.cons (d := 19) ha X; refine Zs ha ?_; refine bx_ Y m hB rfl rfl Tryz.isAgg41 ?_; intro e1 Z; obtain ⟨e2, a0, a1⟩ := Z; cases a0
      exact ⟨_, Stp.refl _ _ _, a1⟩
     ·rintro e3 e4 e5 ha hB -; refine Zs ha ?_; refine d_ (h_ rfl) ?_; exact Zx rfl
     ·rintro e6 e7 e8 ha hB -; refine Zs ha ?_; refine d_ (h_ rfl) ?_; exact Zx rfl
     ·rintro e9 f0 f1 ha hB ⟨a2, a3, -⟩; have ha := Fr.cons (d := 21) ha a2; have ha := Fr.cons (d := 22) ha a3; refine Zs ha ?_; refine bq_ M q rfl rfl Tryz.underlying22 Tryz.sizeOf41 ?_; exact ⟨_, Stp.refl _ _ _, ⟨_, rfl, M⟩⟩
     ·rintro f2 f3 f4 ha hB ⟨a4, -⟩; obtain ⟨f5, a5, a6⟩ := a4; have ha := Fr.cons (d := 23) ha a5; refine Zs ha ?_; refine bx_ a6 q hB rfl rfl Tryz.isAgg41 ?_; intro f6 a7; obtain ⟨f7, a8, a9⟩ := a7; cases a8
      exact ⟨_, Stp.refl _ _ _, a9⟩
    rintro G b0 i ha hB ⟨-, -, -, j, -, -, -, k, -⟩; replace j : RdL zt w (i.tmps.getD 20 undef) y := j; generalize b1 : i.tmps.getD 20 undef = f8 at j; have ha := Fr.cons (d := 20) ha b1; replace k : RdL zt w (i.tmps.getD 24 undef) z := k; generalize b2 : i.tmps.getD 24 undef = f9 at k; have ha := Fr.cons (d := 24) ha b2; refine aV_ ha ?_; simp only [List.length_cons, List.length_nil, Nat.zero_add, Nat.reduceAdd, List.drop_succ_cons, List.drop_zero]; obtain ⟨H, I, b⟩ := bind_some b; refine Zo ?_; refine p_ (pm_ fuel b0 _ y (j.keep hB.keeps) _ z (k.keep hB.keeps) H I) Tryz.call24 ⟨rfl, rfl, trivial⟩ ?_; rintro g0 g1 ⟨rfl, b3⟩; have b4 := b3.stp 999 G; refine ⟨_, rfl, ?_⟩; replace hB := hB.stp b4; refine Zv (ba_ rfl) (Ze [(0, f), (1, g), (5, ZI c), (26, (.bool (!H)))] (nx ?_)); refine o_ rfl (fun B => ?_) (fun B => ?_)
    ·rw [if_pos B] at b; refine Zq (Za rfl (Ze [(4, (.bool false))] (nx (m_ (ac_ (D_ (D_ (ac_ ?_)))))))); refine bQ_ ?_; have b5 := Zj b; subst b5; refine fun a ha => ⟨_, u, ?_⟩; refine H_ (P := Tryz.prog) (vs := [(.bool false)]) Tryz.results25 ⟨rfl, trivial⟩ ?_ a ha; exact ⟨rfl, hB.keeps⟩
    ·rw [if_neg (by rw [B]; decide)] at b; refine g_ (y_ (nx (c_ (Zm rfl ?_)))); obtain ⟨C, J, b⟩ := bind_some b; refine Zv (F_ rfl rfl J) (Za rfl (Ze [(0, f), (1, g), (5, ZI C)] (w_ ?_))); have b6 := Zj b; subst b6; refine Zk [(0, f), (1, g), (5, ZI C)] ?_; intro a ha; exact ⟨K14, by omega, C, G, u, ha, hB⟩
   ·rw [if_neg (by rw [x]; decide)] at b; refine v_ ?_; refine r_ (r_ (Q_ ?_)); refine s_ ?_; have b7 := Zj b; subst b7; refine Zk [] ?_; intro a ha; exact ⟨c, s, u, ha, hB⟩
  ·rintro a E ⟨c, s, rfl, ha, hB⟩; dsimp only at hF; refine ap_k ha ?_; refine Zn (Za rfl (Ze [(4, (.bool true))] (nx (m_ ?_)))); have b8 := Zj hF; subst b8; refine Zr Tryz.results25 [(.bool true)] ?_; exact ⟨rfl, hB.keeps⟩
  ·rintro a E ⟨r', rfl, b9⟩; dsimp only at hF; have c0 := Zj hF; subst c0; exact b9
def el_ (fuel : Nat) (c : b_) (d : Int) : Option Int :=
  (eE_ fuel c.Nodes d) >>= fun a =>
  if decide (a < 0) then
    some (-1)
  else
    (eE_ fuel c.Edges a) >>= fun b =>
    if decide (b < 0) then
      some (-1)
    else
      some b

def lP_ (w : World) (r : Int) : Ending → World → Prop := fun e w' => e = .returned (.int .i64 r) ∧ Keeps w w'
theorem li_ (fuel : Nat) (w : World) (B : List Value) (c : b_) (F : Rp.rd zt w B c) (g : Int) (r : Int) (hF : el_ fuel c g = some r) :
    Calls Tryz.prog 9 #[.agg B.toArray, .int .i64 g] w (lP_ w r) := by
 unfold el_ at hF; obtain ⟨C, D, rfl, G, H⟩ := F; have hB : Bs (fun _ => 1) (col (fun _ => 1)) w w := Bs.start _ _; refine i_ (n := 18) (vs := [(.agg #[(ZI c.Labels), (ZI c.Degree), C, D]), (ZI g)]) Tryz.func9 rfl rfl ?_; refine Zq (Zo ?_); refine aK_ (o := (col (fun _ => 1))) w.heap.size 11 hB.keeps.size (cs := [(ZI c.Labels), (ZI c.Degree), C, D]) rfl rfl ?_; intro E I q m J; replace hB := hB.stp J; refine Za rfl (Ze [(1, ZI g), (2, ZP q)] (Zn (Zv (l_ rfl Tryz.underlying24 rfl Tryz.sizeOf22) (Zv (e_ rfl Tryz.isAgg22 (m.cell rfl)) (Zm rfl ?_))))); obtain ⟨b, i, hF⟩ := bind_some hF; refine Zo ?_; refine p_ (jR_ fuel I _ c.Nodes (G.keep hB.keeps) g b i) Tryz.call39 ⟨rfl, rfl, trivial⟩ ?_; rintro K s ⟨rfl, u⟩; have j := u.stp 999 E; refine ⟨_, rfl, ?_⟩; replace m := m.stp j; replace hB := hB.stp j; refine Za rfl (Ze [(1, ZI b), (2, ZP q)] (nx (a_ (Zq (Zm rfl (Zv (t_ rfl rfl) (Ze [(1, ZI b), (2, ZP q), (10, (.bool (decide (b < 0))))] (nx ?_)))))))); refine o_ rfl (fun d => ?_) (fun d => ?_)
 ·rw [if_pos d] at hF; refine Zq (Za rfl (Ze [(4, (ZI (-1)))] (nx (m_ (D_ ?_))))); have v := Zj hF; subst v; refine Zr Tryz.results9 [(ZI (-1))] ?_; exact ⟨rfl, hB.keeps⟩
 ·rw [if_neg (by rw [d]; decide)] at hF; refine g_ (Zn (Zv (l_ rfl Tryz.underlying24 rfl Tryz.sizeOf22) (Zv (e_ rfl Tryz.isAgg22 (m.cell rfl)) (Zm rfl ?_)))); obtain ⟨a, k, hF⟩ := bind_some hF; refine Zo ?_; refine p_ (jR_ fuel s _ c.Edges (H.keep hB.keeps) b a k) Tryz.call39 ⟨rfl, rfl, trivial⟩ ?_; rintro L M ⟨rfl, x⟩; have y := x.stp 999 E; refine ⟨_, rfl, ?_⟩; replace hB := hB.stp y; refine Za rfl (Ze [(1, ZI a)] (nx (a_ (Zq (Zm rfl (Zv (t_ rfl rfl) (Ze [(1, ZI a), (16, (.bool (decide (a < 0))))] (nx ?_)))))))); refine o_ rfl (fun f => ?_) (fun f => ?_)
  ·rw [if_pos f] at hF; refine Zq (Za rfl (Ze [(4, (ZI (-1)))] (nx (m_ (D_ ?_))))); have z := Zj hF; subst z; refine Zr Tryz.results9 [(ZI (-1))] ?_; exact ⟨rfl, hB.keeps⟩
  ·rw [if_neg (by rw [f]; decide)] at hF; refine g_ (Zn (Zm rfl (Za rfl (Ze [(4, ZI a)] (nx (m_ ?_)))))); have A := Zj hF; subst A; refine Zr Tryz.results9 [(ZI a)] ?_; exact ⟨rfl, hB.keeps⟩
def cX_ (fuel : Nat) (a : b_) : Option b_ :=
  (eD_ fuel a.Nodes) >>= fun b =>
  (eD_ fuel a.Edges) >>= fun c =>
  some (⟨a.Labels, a.Degree, b, c⟩ : b_)

def lv_ (oo : Tg) (t : Nat) (w : World) (r : b_) : Ending → World → Prop := fun e w' => ∃ (a : List Value) (o' : Tg), e = .returned (.agg a.toArray) ∧ Rp.rd o' w' a r ∧ Dz 41 3 o' w' (a.getD 2 undef) r.Nodes ∧ Dz 41 3 o' w' (a.getD 3 undef) r.Edges ∧ Keeps w w' ∧ ∀ b, b < w.heap.size → o' b = oo b
theorem gy_ (fuel : Nat) (w : World) (oo : Tg) (t : Nat) (ht : 2 ≤ t) (b3 : List Value) (g : b_) (b6 : Rp.rd zt w b3 g) (r : b_) (hF : cX_ fuel g = some r) :
    Calls Tryz.prog 11 #[.agg b3.toArray] w (lv_ oo t w r) := by
 unfold cX_ at hF; obtain ⟨b4, b5, rfl, b7, b8⟩ := b6; have hB : Bs oo (col oo) w w := Bs.start _ _; refine i_ (n := 19) (vs := [(.agg #[(ZI g.Labels), (ZI g.Degree), b4, b5])]) Tryz.func11 rfl rfl ?_; generalize col oo = o at *; refine Zq (Zo ?_); refine aK_ (o := o) w.heap.size 11 hB.keeps.size (cs := [(ZI g.Labels), (ZI g.Degree), b4, b5]) rfl rfl ?_; intro b9 d0 S k c0; replace hB := hB.stp c0; refine Zo ?_; refine aB_ (o := b9) w.heap.size 12 hB.keeps.size (cs := [(ZI 0), (ZI 0), (.slice none 0 0), (.slice none 0 0)]) Tryz.zeroValue28 rfl ?_; intro a0 c1 m a T; replace k := k.stp T; replace hB := hB.stp T; refine Ze [(1, ZP S), (2, ZP m)] (Zn (Zo ?_)); refine aB_ (o := a0) w.heap.size 13 hB.keeps.size (cs := [(ZI 0), (ZI 0), (.slice none 0 0), (.slice none 0 0)]) Tryz.zeroValue28 rfl ?_; intro I c2 i a1 J; replace k := k.stp J; replace a := a.stp J; replace hB := hB.stp J; refine Ze [(1, ZP S), (2, ZP m), (3, ZP i)] (Zn (Zv (l_ rfl Tryz.underlying24 rfl Tryz.sizeOf3) (Zv (e_ rfl Tryz.isAgg3 (k.cell rfl)) (Zv (l_ rfl Tryz.underlying28 rfl Tryz.sizeOf3) ?_)))); refine ad_ trivial ?_; refine bp_ a1 rfl rfl (of_decide_eq_true rfl) Tryz.sizeOf3 rfl rfl ?_; intro a2 K L; replace k := k.stp L; replace a := a.stp L; replace hB := hB.stp L; replace K : Bx w.heap.size 13 I a2 i 28 [(ZI g.Labels), (ZI 0), (.slice none 0 0), (.slice none 0 0)] := K; refine Ze [(1, ZP S), (2, ZP m), (3, ZP i)] (Zn (Zv (l_ rfl Tryz.underlying24 rfl Tryz.sizeOf3) (Zv (e_ rfl Tryz.isAgg3 (k.cell rfl)) (Zv (l_ rfl Tryz.underlying28 rfl Tryz.sizeOf3) ?_)))); refine ad_ trivial ?_; refine bp_ K rfl rfl (of_decide_eq_true rfl) Tryz.sizeOf3 rfl rfl ?_; intro U s M; replace k := k.stp M; replace a := a.stp M; replace hB := hB.stp M; replace s : Bx w.heap.size 13 I U i 28 [(ZI g.Labels), (ZI g.Degree), (.slice none 0 0), (.slice none 0 0)] := s; refine Ze [(1, ZP S), (2, ZP m), (3, ZP i)] (Zn (Zv (l_ rfl Tryz.underlying24 rfl Tryz.sizeOf22) (Zv (e_ rfl Tryz.isAgg22 (k.cell rfl)) ?_))); obtain ⟨a3, V, hF⟩ := bind_some hF; refine Zo ?_; refine p_ (jF_ fuel U I 14 (by decide) _ g.Nodes (b7.keep hB.keeps) a3 V) Tryz.call42 ⟨rfl, trivial⟩ ?_; rintro c3 c4 ⟨E, c5, W, rfl, b, f, a4, a5⟩; have F := a4.stp' 14 a5; replace b := b.mono hB.keeps.size; replace f := f.mono hB.keeps.size; refine ⟨_, rfl, ?_⟩; replace k := k.stp F; replace a := a.stp F; replace s := s.stp F; replace hB := hB.stp F; refine Zv (l_ rfl Tryz.underlying28 rfl Tryz.sizeOf22) ?_; refine ad_ trivial ?_; refine bp_ s rfl rfl (of_decide_eq_true rfl) Tryz.sizeOf22 b.cells1 b.one1 ?_; intro X u v; replace b := b.stp v; replace f := f.stp v; replace k := k.stp v; replace a := a.stp v; replace hB := hB.stp v
 replace u : Bx w.heap.size 13 W X i 28 [(ZI g.Labels), (ZI g.Degree), E, (.slice none 0 0)] := u; refine Ze [(1, ZP S), (2, ZP m), (3, ZP i)] (Zn (Zv (l_ rfl Tryz.underlying24 rfl Tryz.sizeOf22) (Zv (e_ rfl Tryz.isAgg22 (k.cell rfl)) ?_))); obtain ⟨a6, Y, hF⟩ := bind_some hF; refine Zo ?_; refine p_ (jF_ fuel X W 16 (by decide) _ g.Edges (b8.keep hB.keeps) a6 Y) Tryz.call42 ⟨rfl, trivial⟩ ?_; rintro c6 c7 ⟨N, c8, G, rfl, d, j, a7, a8⟩; have x := a7.stp' 16 a8; replace d := d.mono hB.keeps.size; replace j := j.mono hB.keeps.size; refine ⟨_, rfl, ?_⟩; replace a := a.stp x; replace u := u.stp x; replace b := b.stp x; replace f := f.stp x; replace hB := hB.stp x; refine Zv (l_ rfl Tryz.underlying28 rfl Tryz.sizeOf22) ?_; refine ad_ trivial ?_; refine bp_ u rfl rfl (of_decide_eq_true rfl) Tryz.sizeOf22 d.cells1 d.one1 ?_; intro a9 O q; replace d := d.stp q; replace j := j.stp q; replace a := a.stp q; replace b := b.stp q; replace f := f.stp q; replace hB := hB.stp q; replace O : Bx w.heap.size 13 G a9 i 28 [(ZI g.Labels), (ZI g.Degree), E, N] := O; refine Ze [(2, ZP m), (3, ZP i)] (Zn (Zv (L_ rfl Tryz.isAgg28 Tryz.sizeOf28 rfl O.cells) ?_)); refine ad_ trivial ?_; refine aa_ a rfl rfl rfl dO_ (by intro c hc; simp only [List.mem_cons, List.not_mem_nil, or_false] at hc; rcases hc with rfl | rfl | rfl | rfl <;> first | rfl | exact b.one1 | exact d.one1) ?_; intro c9 y z; replace b := b.stp z; replace f := f.stp z; replace d := d.stp z; replace j := j.stp z; replace hB := hB.stp z; refine Ze [(2, ZP m)] (nx (m_ ?_)); have H := Dz.of b f (by decide) (by decide) (by decide); have A := fv_ 14 G; have B := fv_ 15 (frz 14 G); replace y := (y.rc A (by decide)).rc B (by decide); replace d := (d.rc A (by decide) (by decide)).rc B (by decide) (by decide); replace j := (j.rc A (by decide) (by decide)).rc B (by decide) (by decide); replace hB := (hB.rc A (by decide)).rc B (by decide); clear A B; generalize frz 15 (frz 14 G) = Q at *; have R := H.rd; have Z := Dz.of d j (by decide) (by decide) (by decide); have C := fv_ 16 Q; have D := fv_ 17 (frz 16 Q); replace y := (y.rc C (by decide)).rc D (by decide); replace R := (R.rc C (by decide)).rc D (by decide); replace H := (H.rc C (by decide)).rc D (by decide); replace hB := (hB.rc C (by decide)).rc D (by decide); clear C D; generalize frz 17 (frz 16 Q) = b0 at *; have b1 := Z.rd; have b2 := Zj hF; subst b2; refine H_ (P := Tryz.prog) (vs := [(.agg #[(ZI g.Labels), (ZI g.Degree), E, N])]) Tryz.results11 ⟨⟨_, rfl, aD_ Tryz.isAgg28 Tryz.sizeOf28 rfl y.cells⟩, trivial⟩ ?_; exact ⟨[(ZI g.Labels), (ZI g.Degree), E, N], rt oo b0 w.heap.size 9 t, rfl, ⟨_, _, rfl, R.rt hB 9 t (by decide), b1.rt hB 9 t (by decide)⟩, H.rt hB 9 t (by decide), Z.rt hB 9 t (by decide), hB.keeps, af_ _ _ _ _ _⟩
def eo_ (fuel : Nat) (a : b_) (b : b_) : Option Bool :=
  if a.Labels != b.Labels then
    some false
  else
    if a.Degree != b.Degree then
      some false
    else
      (eG_ fuel a.Nodes b.Nodes) >>= fun c =>
      if !c then
        some false
      else
        (eG_ fuel a.Edges b.Edges) >>= fun d =>
        if !d then
          some false
        else
          some true

def mb_ (w : World) (r : Bool) : Ending → World → Prop := fun e w' => e = .returned (.bool r) ∧ Keeps w w'
theorem ls_ (fuel : Nat) (w : World) (L : List Value) (c : b_) (R : Rp.rd zt w L c) (M : List Value) (d : b_) (S : Rp.rd zt w M d) (r : Bool) (hF : eo_ fuel c d = some r) :
    Calls Tryz.prog 13 #[.agg L.toArray, .agg M.toArray] w (mb_ w r) := by
 unfold eo_ at hF; obtain ⟨N, O, rfl, T, U⟩ := R; obtain ⟨P, Q, rfl, V, W⟩ := S; have hB : Bs (fun _ => 1) (col (fun _ => 1)) w w := Bs.start _ _; refine i_ (n := 27) (vs := [(.agg #[(ZI c.Labels), (ZI c.Degree), N, O]), (.agg #[(ZI d.Labels), (ZI d.Degree), P, Q])]) Tryz.func13 rfl rfl ?_; refine Zq (Zo ?_); refine aK_ (o := (col (fun _ => 1))) w.heap.size 11 hB.keeps.size (cs := [(ZI c.Labels), (ZI c.Degree), N, O]) rfl rfl ?_; intro X Y f a A; replace hB := hB.stp A; refine Zo ?_; refine aK_ (o := X) w.heap.size 12 hB.keeps.size (cs := [(ZI d.Labels), (ZI d.Degree), P, Q]) rfl rfl ?_; intro s B g b u; replace a := a.stp u; replace hB := hB.stp u; refine Za rfl (Ze [(2, ZP f), (3, ZP g)] (nx (a_ (Zq (Zv (l_ rfl Tryz.underlying28 rfl Tryz.sizeOf3) (Zv (e_ rfl Tryz.isAgg3 (a.cell rfl)) (Zv (l_ rfl Tryz.underlying28 rfl Tryz.sizeOf3) (Zv (e_ rfl Tryz.isAgg3 (b.cell rfl)) (Zv (bK_ rfl rfl) (Ze [(2, ZP f), (3, ZP g), (9, (.bool (c.Labels != d.Labels)))] (nx ?_))))))))))); refine o_ rfl (fun i => ?_) (fun i => ?_)
 ·rw [if_pos i] at hF; refine Zq (Za rfl (Ze [(4, (.bool false))] (nx (m_ (D_ ?_))))); have C := Zj hF; subst C; refine Zr Tryz.results13 [(.bool false)] ?_; exact ⟨rfl, hB.keeps⟩
 ·rw [if_neg (by rw [i]; decide)] at hF; refine g_ (nx (a_ (Zq (Zv (l_ rfl Tryz.underlying28 rfl Tryz.sizeOf3) (Zv (e_ rfl Tryz.isAgg3 (a.cell rfl)) (Zv (l_ rfl Tryz.underlying28 rfl Tryz.sizeOf3) (Zv (e_ rfl Tryz.isAgg3 (b.cell rfl)) (Zv (bK_ rfl rfl) (Ze [(2, ZP f), (3, ZP g), (14, (.bool (c.Degree != d.Degree)))] (nx ?_)))))))))); refine o_ rfl (fun j => ?_) (fun j => ?_)
  ·rw [if_pos j] at hF; refine Zq (Za rfl (Ze [(4, (.bool false))] (nx (m_ (D_ ?_))))); have D := Zj hF; subst D; refine Zr Tryz.results13 [(.bool false)] ?_; exact ⟨rfl, hB.keeps⟩
  ·rw [if_neg (by rw [j]; decide)] at hF; refine g_ (nx (a_ (Zq (Zv (l_ rfl Tryz.underlying28 rfl Tryz.sizeOf22) (Zv (e_ rfl Tryz.isAgg22 (a.cell rfl)) (Zv (l_ rfl Tryz.underlying28 rfl Tryz.sizeOf22) (Zv (e_ rfl Tryz.isAgg22 (b.cell rfl)) ?_))))))); obtain ⟨v, x, hF⟩ := bind_some hF; refine Zo ?_; refine p_ (jO_ fuel B _ c.Nodes (T.keep hB.keeps) _ d.Nodes (V.keep hB.keeps) v x) Tryz.call25 ⟨rfl, rfl, trivial⟩ ?_; rintro Z E ⟨rfl, F⟩; have k := F.stp 999 s; refine ⟨_, rfl, ?_⟩; replace a := a.stp k; replace b := b.stp k; replace hB := hB.stp k; refine Zv (ba_ rfl) (Ze [(2, ZP f), (3, ZP g), (20, (.bool (!v)))] (nx ?_)); refine o_ rfl (fun m => ?_) (fun m => ?_)
   ·rw [if_pos m] at hF; refine Zq (Za rfl (Ze [(4, (.bool false))] (nx (m_ (D_ ?_))))); have G := Zj hF; subst G; refine Zr Tryz.results13 [(.bool false)] ?_; exact ⟨rfl, hB.keeps⟩
   ·rw [if_neg (by rw [m]; decide)] at hF; refine g_ (nx (a_ (Zq (Zv (l_ rfl Tryz.underlying28 rfl Tryz.sizeOf22) (Zv (e_ rfl Tryz.isAgg22 (a.cell rfl)) (Zv (l_ rfl Tryz.underlying28 rfl Tryz.sizeOf22) (Zv (e_ rfl Tryz.isAgg22 (b.cell rfl)) ?_))))))); obtain ⟨y, z, hF⟩ := bind_some hF; refine Zo ?_; refine p_ (jO_ fuel E _ c.Edges (U.keep hB.keeps) _ d.Edges (W.keep hB.keeps) y z) Tryz.call25 ⟨rfl, rfl, trivial⟩ ?_; rintro a0 a1 ⟨rfl, H⟩; have I := H.stp 999 s; refine ⟨_, rfl, ?_⟩; replace hB := hB.stp I; refine Zv (ba_ rfl) (Ze [(26, (.bool (!y)))] (nx ?_)); refine o_ rfl (fun q => ?_) (fun q => ?_)
    ·rw [if_pos q] at hF; refine Zq (Za rfl (Ze [(4, (.bool false))] (nx (m_ (D_ ?_))))); have J := Zj hF; subst J; refine Zr Tryz.results13 [(.bool false)] ?_; exact ⟨rfl, hB.keeps⟩
    ·rw [if_neg (by rw [q]; decide)] at hF; refine g_ (Zn (Za rfl (Ze [(4, (.bool true))] (nx (m_ ?_))))); have K := Zj hF; subst K; refine Zr Tryz.results13 [(.bool true)] ?_; exact ⟨rfl, hB.keeps⟩
def bN_ (fuel : Nat) (f : b_) : Option Bool :=
  (el_ fuel f 1048576) >>= fun g =>
  if decide (g < 0) then
    some true
  else
    (cX_ fuel f) >>= fun i =>
    (cL_ fuel i) >>= fun a =>
    (cX_ fuel f) >>= fun b =>
    (cH_ fuel b) >>= fun c =>
    (
      if c.1 != a.1 then
        some true
      else
        some (c.2 != a.2)) >>= fun j =>
    if j then
      some false
    else
      (cX_ fuel f) >>= fun k =>
      (eo_ fuel b k) >>= fun d =>
      if !d then
        some false
      else
        some true

def fX_ (w : World) (r : Bool) : Ending → World → Prop := fun e w' => e = .returned (.bool r) ∧ Keeps w w'
theorem fY_ (fuel : Nat) (w : World) (g7 : List Value) (C : b_) (h8 : Rp.rd zt w g7 C) (r : Bool) (hF : bN_ fuel C = some r) :
    Calls Tryz.prog 5 #[.agg g7.toArray] w (fX_ w r) := by
 unfold bN_ at hF; obtain ⟨e0, e1, rfl, e2, e3⟩ := h8; have hB : Bs (fun _ => 1) (col (fun _ => 1)) w w := Bs.start _ _; refine i_ (n := 40) (vs := [(.agg #[(ZI C.Labels), (ZI C.Degree), e0, e1])]) Tryz.func5 rfl rfl ?_; refine Zq (Zo ?_); refine aK_ (o := (col (fun _ => 1))) w.heap.size 11 hB.keeps.size (cs := [(ZI C.Labels), (ZI C.Degree), e0, e1]) rfl rfl ?_; intro g8 h9 E j i0; replace hB := hB.stp i0; refine Za rfl (Ze [(1, ZP E)] (Zn (Za rfl (Ze [(1, ZP E), (3, ZI 1048576)] (Zn (Zv (L_ rfl Tryz.isAgg24 Tryz.sizeOf24 rfl j.cells) (Zm rfl ?_))))))); obtain ⟨T, a4, hF⟩ := bind_some hF; refine Zo ?_; refine p_ (li_ fuel h9 _ C (⟨_, _, rfl, (e2.keep hB.keeps), (e3.keep hB.keeps)⟩) 1048576 T a4) Tryz.call9 ⟨rfl, rfl, trivial⟩ ?_; rintro i1 e4 ⟨rfl, e5⟩; have a5 := e5.stp 999 g8; refine ⟨_, rfl, ?_⟩; replace j := j.stp a5; replace hB := hB.stp a5; refine Za rfl (Ze [(1, ZP E), (3, ZI T)] (nx (a_ (Zq (Zm rfl (Zv (t_ rfl rfl) (Ze [(1, ZP E), (13, (.bool (decide (T < 0))))] (nx ?_)))))))); refine o_ rfl (fun U => ?_) (fun U => ?_)
 ·rw [if_pos U] at hF; refine Zq (Za rfl (Ze [(2, (.bool true))] (nx (m_ (D_ ?_))))); have e6 := Zj hF; subst e6; refine Zr Tryz.results5 [(.bool true)] ?_; exact ⟨rfl, hB.keeps⟩
 ·rw [if_neg (by rw [U]; decide)] at hF; refine g_ (Zn (Zv (L_ rfl Tryz.isAgg24 Tryz.sizeOf24 rfl j.cells) ?_)); obtain ⟨M, a6, hF⟩ := bind_some hF; refine Zo ?_; refine p_ (gy_ fuel e4 g8 13 (by decide) _ C (⟨_, _, rfl, (e2.keep hB.keeps), (e3.keep hB.keeps)⟩) M a6) Tryz.call11 ⟨rfl, trivial⟩ ?_; rintro i2 V ⟨i3, N, rfl, e7, a7, a8, e8, e9⟩; have a9 := e8.stp' 13 e9; refine ⟨_, rfl, ?_⟩; obtain ⟨f0, f1, rfl, f2, f3⟩ := e7; replace a7 : Dz 41 3 N V f0 M.Nodes := a7; replace a8 : Dz 41 3 N V f1 M.Edges := a8; replace j := j.stp a9; replace hB := hB.stp a9; obtain ⟨s, b0, hF⟩ := bind_some hF; refine Zo ?_; refine p_ (jl_ fuel V _ M (⟨_, _, rfl, f2.z, f3.z⟩) s b0) Tryz.call20 ⟨rfl, trivial⟩ ?_; rintro i4 f4 ⟨rfl, f5⟩; have b1 := f5.stp 999 N; refine ⟨_, rfl, ?_⟩; replace j := j.stp b1; replace hB := hB.stp b1; refine Zm rfl (Zv (u_ rfl rfl) (Zv (u_ rfl rfl) (Za rfl (Za rfl (Ze [(1, ZP E), (4, (.bool s.1)), (5, (.bool s.2))] (Zn (Zv (L_ rfl Tryz.isAgg24 Tryz.sizeOf24 rfl j.cells) ?_))))))); obtain ⟨k, b2, hF⟩ := bind_some hF; refine Zo ?_; refine p_ (gy_ fuel f4 N 15 (by decide) _ C (⟨_, _, rfl, (e2.keep hB.keeps), (e3.keep hB.keeps)⟩) k b2) Tryz.call11 ⟨rfl, trivial⟩ ?_; rintro i5 b3 ⟨i6, W, rfl, f6, g, i, f7, f8⟩; have b4 := f7.stp' 15 f8; refine ⟨_, rfl, ?_⟩; obtain ⟨H, I, rfl, b, f⟩ := f6; replace g : Dz 41 3 W b3 H k.Nodes := g; replace i : Dz 41 3 W b3 I k.Edges := i; replace j := j.stp b4; replace hB := hB.stp b4; refine Zo ?_; refine aB_ (o := W) w.heap.size 16 hB.keeps.size (cs := [(ZI 0), (ZI 0), (.slice none 0 0), (.slice none 0 0)]) Tryz.zeroValue28 rfl ?_; intro X i7 u f9 F; replace b := b.stp F; replace g := g.stp F; replace f := f.stp F; replace i := i.stp F; replace j := j.stp F; replace hB := hB.stp F; refine ad_ trivial ?_; refine aa_ f9 rfl rfl rfl dO_ (by intro c hc; simp only [List.mem_cons, List.not_mem_nil, or_false] at hc; rcases hc with rfl | rfl | rfl | rfl <;> first | rfl | exact b.one1 | exact f.one1) ?_; intro g0 m G; replace b := b.stp G; replace g := g.stp G; replace f := f.stp G; replace i := i.stp G; replace j := j.stp G; replace hB := hB.stp G; refine Ze [(1, ZP E), (4, (.bool s.1)), (5, (.bool s.2)), (6, ZP u)] (Zn (Zv (L_ rfl Tryz.isAgg28 Tryz.sizeOf28 rfl m.cells) ?_)); obtain ⟨J, b5, hF⟩ := bind_some hF; refine Zo ?_; refine p_ (jg_ fuel g0 _ k (⟨_, _, rfl, b.z, f.z⟩) J b5) Tryz.call21 ⟨rfl, trivial⟩ ?_; rintro i8 Y ⟨rfl, g1⟩; have x := g1.stp 999 X; refine ⟨_, rfl, ?_⟩; replace b := b.stp x; replace g := g.stp x; replace f := f.stp x; replace i := i.stp x; replace j := j.stp x; replace m := m.stp x
  replace hB := hB.stp x; refine Zm rfl (Zv (u_ rfl rfl) (Zv (u_ rfl rfl) (Za rfl (Za rfl (Ze [(1, ZP E), (4, (.bool s.1)), (5, (.bool s.2)), (6, ZP u), (7, (.bool J.1)), (8, (.bool J.2))] (nx (a_ (Zq (Zm rfl (Zm rfl (Zv (qq_ rfl rfl Tryz.underlying4) (Zm rfl ?_)))))))))))); obtain ⟨b6, D, hF⟩ := bind_some hF; refine as_ 4 (fun g2 b7 => Fr g2 40 [(1, ZP E), (6, ZP u), (34, (.bool b6))] ∧ Keeps Y b7) ?_ ?_; all_goals simp only [List.take_succ_cons, List.take_zero, List.drop_succ_cons, List.drop_zero]
  ·have kp : Keeps Y Y := Keeps.refl _; rcases Bool.eq_false_or_eq_true (J.1 != s.1) with q | q
   ·rw [if_pos q] at D; refine n_ rfl rfl (by rw [q]; rfl) (by decide) ?_; refine n_ rfl rfl (by rw [q]; rfl) (by decide) ?_; refine n_ rfl rfl (by rw [q]; rfl) (by decide) ?_; refine Zv (x_ (Zb q) rfl) ?_; have y := Zj D; refine Ze [(1, ZP E), (6, ZP u), (34, (.bool true))] ?_; subst y; refine s_ (fun a ha => ⟨ha, kp⟩)
   ·rw [if_neg (by rw [q]; decide)] at D; refine k_ (h_ rfl) (by decide) ⟨_, rfl, (Zb q)⟩ (k_ (h_ rfl) (by decide) ⟨_, rfl, (Zb q)⟩ (k_ (qq_ rfl rfl Tryz.underlying4) (by decide) ⟨_, rfl, (Zb q)⟩ (Zv (B_ (Zb q) rfl) ?_))); have y := Zj D; refine Ze [(1, ZP E), (6, ZP u), (34, (.bool (J.2 != s.2)))] ?_; subst y; refine s_ (fun a ha => ⟨ha, kp⟩)
  rintro i9 b7 ⟨ha, g3⟩; have A := g3.stp 999 X; replace j := j.stp A; replace m := m.stp A; replace b := b.stp A; replace g := g.stp A; replace f := f.stp A; replace i := i.stp A; replace hB := hB.stp A; refine aV_ ha ?_; refine Ze [(1, ZP E), (6, ZP u), (34, (.bool b6))] (nx ?_); refine o_ rfl (fun Z => ?_) (fun Z => ?_)
  ·rw [if_pos Z] at hF; refine Zq (Za rfl (Ze [(2, (.bool false))] (nx (m_ (D_ ?_))))); have g4 := Zj hF; subst g4; refine Zr Tryz.results5 [(.bool false)] ?_; exact ⟨rfl, hB.keeps⟩
  ·rw [if_neg (by rw [Z]; decide)] at hF; refine g_ (nx (a_ (a_ ?_))); obtain ⟨K, b8, hF⟩ := bind_some hF; refine Z_ (o := X) [(1, ZP E), (6, ZP u)] [1, 6] [35, 36, 37] [[], [], [1]] [none, none, none] [999, 999, 999] [0, 0, 0] [999] [fun v _ _ => v = (.agg #[(ZI k.Labels), (ZI k.Degree), H, I]), fun v _ _ => v = (.agg #[(ZI C.Labels), (ZI C.Degree), e0, e1]), fun v o j0 => ∃ (c : List Value), v = .agg c.toArray ∧ Rp.rd o j0 c K] (fun a0 a1 => Bs (fun _ => 1) a0 w a1 ∧ Bx w.heap.size 11 a0 a1 E 24 [(ZI C.Labels), (ZI C.Degree), e0, e1] ∧ Bx w.heap.size 16 a0 a1 u 28 [(ZI k.Labels), (ZI k.Degree), H, I] ∧ RdL a0 a1 H (k.Nodes : Yk) ∧ Dz 41 3 a0 a1 H (k.Nodes : Yk) ∧ RdL a0 a1 I (k.Edges : Yk) ∧ Dz 41 3 a0 a1 I (k.Edges : Yk)) E_ (by kernel_rfl) rfl ⟨rfl, rfl, trivial⟩ ⟨hB, j, m, b, g, f, i⟩ ?_ ⟨q_ _, q_ _, fun _ _ _ _ _ _ j1 hb ⟨c, e, h⟩ hs => ⟨c, e, Rp.stp h hs j1.1⟩, trivial⟩ ?_ ?_
   ·rintro j2 j9 k0 k1 k2 a2 ⟨hB, j, m, b, g, f, i⟩ B; have a2 : j2 = 999 := by simpa using a2
    subst a2; all_goals exact ⟨hB.stp B (by decide), j.stp B (by decide), m.stp B (by decide), b.stp B (by decide), g.stp B (by decide), f.stp B (by decide), i.stp B (by decide)⟩
   ·refine ⟨?_, ?_, ?_, trivial⟩
    ·rintro j3 j4 j5 ha ⟨hB, j, m, b, g, f, i⟩ -; refine Zs ha ?_; refine d_ (L_ rfl Tryz.isAgg28 Tryz.sizeOf28 rfl m.cells) ?_; exact Zx rfl
    ·rintro j6 j7 j8 ha ⟨hB, j, m, b, g, f, i⟩ -; refine Zs ha ?_; refine d_ (L_ rfl Tryz.isAgg24 Tryz.sizeOf24 rfl j.cells) ?_; exact Zx rfl
    ·rintro g5 g6 g9 ha ⟨hB, j, m, b, g, f, i⟩ ⟨b9, -⟩; have ha := Fr.cons (d := 36) ha b9; refine Zs ha ?_; refine p_ (gy_ fuel g6 g5 19 (by decide) _ C (⟨_, _, rfl, (e2.keep hB.keeps), (e3.keep hB.keeps)⟩) K b8) Tryz.call11 ⟨rfl, trivial⟩ ?_; rintro h0 O ⟨h1, P, rfl, c0, Q, R, c1, c2⟩; have c3 := c1.stp' 999 c2; refine ⟨_, rfl, ?_⟩; obtain ⟨c4, c5, rfl, c6, c7⟩ := c0; replace Q : Dz 41 3 P O c4 K.Nodes := Q; replace R : Dz 41 3 P O c5 K.Edges := R; exact ⟨_, c3, ⟨_, rfl, ⟨_, _, rfl, c6, c7⟩⟩⟩
   rintro c8 c9 h2 ha ⟨hB, j, m, b, g, f, i⟩ ⟨d0, -, d1, -⟩; have ha := Fr.cons (d := 35) ha d0; obtain ⟨h3, d2, d3⟩ := d1; obtain ⟨h4, h5, rfl, d4, d5⟩ := d3; have ha := Fr.cons (d := 37) ha d2; refine aV_ ha ?_; simp only [List.length_cons, List.length_nil, Nat.zero_add, Nat.reduceAdd, List.drop_succ_cons, List.drop_zero]; obtain ⟨S, a3, hF⟩ := bind_some hF; refine Zo ?_; refine p_ (ls_ fuel c9 _ k (⟨_, _, rfl, b.z, f.z⟩) _ K (⟨_, _, rfl, d4.z, d5.z⟩) S a3) Tryz.call13 ⟨rfl, rfl, trivial⟩ ?_; rintro h6 h7 ⟨rfl, d6⟩; have d7 := d6.stp 999 c8; refine ⟨_, rfl, ?_⟩; replace hB := hB.stp d7; refine Zv (ba_ rfl) (Ze [(39, (.bool (!S)))] (nx ?_)); refine o_ rfl (fun L => ?_) (fun L => ?_)
   ·rw [if_pos L] at hF; refine Zq (Za rfl (Ze [(2, (.bool false))] (nx (m_ (D_ ?_))))); have d8 := Zj hF; subst d8; refine Zr Tryz.results5 [(.bool false)] ?_; exact ⟨rfl, hB.keeps⟩
   ·rw [if_neg (by rw [L]; decide)] at hF; refine g_ (Zn (Za rfl (Ze [(2, (.bool true))] (nx (m_ ?_))))); have d9 := Zj hF; subst d9; refine Zr Tryz.results5 [(.bool true)] ?_; exact ⟨rfl, hB.keeps⟩
end

section
open Go.RowKit
theorem qN_ (p q : List Int) (x y : Int) : ((p ++ x :: q).map (Value.int .i64)).set p.length (.int .i64 y) = (p ++ y :: q).map (Value.int .i64) := by
 simp [List.set_append]
theorem Own.form {B : Nat} {w : World} {v : Value} {l : List Int} (h : Own B w v l) (hn : 0 < l.length) :
  ∃ g cap, v = .slice (some ⟨g, 0, none⟩) l.length cap ∧ ∀ i, i < l.length → w.cell? ⟨g, i, none⟩ = some (.int .i64 (l.getD i 0)) ∧ w.frozen? ⟨g, i, none⟩ = false := by
 obtain ⟨g, cap, rfl, _, _⟩ := World.ownsRow.form h hn
 refine ⟨g, cap, rfl, fun i hi => ⟨?_, World.ownsRow.frozenAt h i⟩⟩
 rw [World.ownsRow.cellAt h i (by omega)]
 simp [hi]
theorem Own.cellAt {B : Nat} {w : World} {g c : Nat} {l : List Int} (h : Own B w (.slice (some ⟨g, 0, none⟩) l.length c) l) (i : Nat) (hi : i < l.length) : w.cell? ⟨g, i, none⟩ = some (.int .i64 (l.getD i 0)) := by
 rw [World.ownsRow.cellAt h i (by omega)]
 simp [hi]
theorem Own.set {B : Nat} {w : World} {g cap n : Nat} {p q : List Int} {x y : Int} (h : Own B w (.slice (some ⟨g, 0, none⟩) n cap) (p ++ x :: q)) (j : Nat) (hj : j = p.length) :
  Own B (w.setCell ⟨g, j, none⟩ (.int .i64 y)) (.slice (some ⟨g, 0, none⟩) n cap) (p ++ y :: q) ∧ w.grownBy (w.setCell ⟨g, j, none⟩ (.int .i64 y)) (some g) := by
 subst hj
 have hn : n = (p ++ x :: q).length := by
  obtain ⟨a, c, h1, _⟩ := h.len
  simp at h1
  simp [h1]
 subst hn
 obtain ⟨h1, h2⟩ := World.ownsRow.stored h p.length (.int .i64 y)
 rw [qN_] at h1
 refine ⟨?_, h2⟩
 unfold Own
 simpa using h1
end

section
open Go.RowKit
def IntRows (w : World) (v : Value) (LL : List (List Int)) : Prop := ∃ vs : List Value, Sl w v vs ∧ vs.length = LL.length ∧ ∀ i, i < vs.length → Ints w (vs.getD i undef) (LL.getD i [])
theorem IntRows.keep {w w' : World} {v : Value} {LL : List (List Int)} (h : IntRows w v LL) (k : Keeps w w') : IntRows w' v LL := by
 obtain ⟨vs, h1, h2, h3⟩ := h
 exact ⟨vs, h1.keep k, h2, fun i hi => (h3 i hi).keep k⟩
theorem IntRows.form {w : World} {v : Value} {LL : List (List Int)} (h : IntRows w v LL) :
  ∃ a c, v = .slice a LL.length c ∧ LL.length ≤ 9223372036854775807 ∧
   ∀ i, i < LL.length → ∃ b o u, a = some ⟨b, o, none⟩ ∧ w.cell? ⟨b, o + i, none⟩ = some u ∧ Ints w u (LL.getD i []) := by
 obtain ⟨vs, h1, h2, h3⟩ := h
 obtain ⟨a, c, rfl, h4, h5⟩ := h1.form
 rw [h2] at h4
 refine ⟨a, c, by rw [h2], h4, fun i hi => ?_⟩
 obtain ⟨b, o, rfl, hc⟩ := h5 i (by omega)
 exact ⟨b, o, _, rfl, hc, h3 i (by omega)⟩
structure MatIn (B : Nat) (w : World) (v : Value) (vs : List Value) (LL : List (List Int)) : Prop where
  row : w.ownsRow B 41 1 v LL.length vs
  own : ∀ i, i < LL.length → Own B w (vs.getD i undef) (LL.getD i [])
  apart : ∀ i j, i < LL.length → j < LL.length → i ≠ j → Apart (vs.getD i undef) (vs.getD j undef)

section
variable {B : Nat} {w w' : World} {v : Value} {vs : List Value} {LL : List (List Int)}
theorem MatIn.len (h : MatIn B w v vs LL) : vs.length = LL.length := by simpa using h.row.1
theorem MatIn.keep (h : MatIn B w v vs LL) (k : Keeps w w') : MatIn B w' v vs LL := ⟨iK_ h.row k, fun i hi => (h.own i hi).keep k, h.apart⟩
theorem MatIn.kept {r : Option Nat} (h : MatIn B w v vs LL) (hg : w.grownBy w' r) (hv : v.ownBlock = none ∨ v.ownBlock ≠ r) (hvs : ∀ i, i < LL.length → (vs.getD i undef).ownBlock = none ∨ (vs.getD i undef).ownBlock ≠ r) : MatIn B w' v vs LL :=
 ⟨World.ownsRow.kept h.row hg hv, fun i hi => World.ownsRow.kept (h.own i hi) hg (hvs i hi), h.apart⟩
theorem MatIn.rows (h : MatIn B w v vs LL) : IntRows w v LL := by
 have hl := h.len
 refine ⟨vs, pJ_ (B := B) (e := 41) (by rw [hl]; exact h.row), hl, fun i hi => (h.own i (by omega)).ints⟩
theorem MatIn.form (h : MatIn B w v vs LL) (hn : 0 < LL.length) :
  ∃ g cap, v = .slice (some ⟨g, 0, none⟩) LL.length cap ∧ ∀ i, i < LL.length → w.cell? ⟨g, i, none⟩ = some (vs.getD i undef) ∧ w.frozen? ⟨g, i, none⟩ = false := by
 obtain ⟨g, cap, rfl, _, _⟩ := World.ownsRow.form h.row hn
 refine ⟨g, cap, rfl, fun i hi => ⟨?_, World.ownsRow.frozenAt h.row i⟩⟩
 rw [World.ownsRow.cellAt h.row i (by omega)]
 have := h.len
 simp [show i < vs.length by omega]
end

theorem getD_set_ne {α : Type} (l : List α) (i j : Nat) (x d : α) (h : j ≠ i) : (l.set i x).getD j d = l.getD j d := by
 simp [List.getElem?_set, Ne.symm h]
end

end Go.Proofs.YtdbbeldgdgonfaaGreat
