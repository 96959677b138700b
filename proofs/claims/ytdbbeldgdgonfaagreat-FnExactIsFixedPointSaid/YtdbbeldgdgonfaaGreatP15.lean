/- Part 15 of what this claim rests on (GFch, Efc, Gro, GIx, Kpw, GDef, Ifl, Del), packed by pack.py. -/
import Derived.Test.YtdbbeldgdgonfaaGreatP03
import Derived.Test.YtdbbeldgdgonfaaGreatP04
import Derived.Test.YtdbbeldgdgonfaaGreatP05
import Derived.Test.YtdbbeldgdgonfaaGreatP06
import Derived.Test.YtdbbeldgdgonfaaGreatP09
import Derived.Test.YtdbbeldgdgonfaaGreatP10
namespace Go.Proofs.YtdbbeldgdgonfaaGreat
set_option linter.unusedSimpArgs false
set_option linter.unusedVariables false

section
set_option maxRecDepth 100000
set_option maxHeartbeats 2000000
open Go.RowKit
theorem jn_ : Inf Tryz.prog 3 (.int .i64 0) 1 8 := by unfold Inf; kernel_rfl

def aC_ (b : Int) (g : List (List Int)) (i : (List Int) → Option Bool) (self : Int → (List (List Int)) → ((List Int) → Option Bool) → (List Int) → Option (Bool × List Int)) : Int → Int → (List Int) → Option (Lp (List Int) (List Int) (Bool × List Int)) := fun (j : Int) (c : Int) (s : List Int) =>
  (ix s b) >>= fun k =>
  (st s b c) >>= fun d =>
  (ck (b + 1)) >>= fun f =>
  (self f g i d) >>= fun a =>
  if a.1 then
    some (.ret (true, a.2))
  else
    some (.go a.2)
def ab_ : Nat → Int → (List (List Int)) → ((List Int) → Option Bool) → (List Int) → Option (Bool × List Int)
  | 0 => fun _ _ _ _ => none
  | fuel + 1 => fun a b g c =>
    if a == (b.length : Int) then
      (g c) >>= fun i =>
      some (i, c)
    else
      (ix b a) >>= fun j =>
      (forI (aC_ a b g (ab_ fuel)) j 0 c) >>= fun d =>
      match d with
      | .inl f =>
        some (false, f)
      | .inr r' => some r'

def fR_ (oo o : Tg) (w a : World) (u : Value) (r : Bool × Yl) : Ending → World → Prop := fun e w' => ∃ (o' : Tg), e = .returned (.bool r.1) ∧ Ow w.heap.size 3 13 o' w' u r.2 ∧ Bs oo o' w w' ∧ Stp 13 o a o' w'
theorem im_ (fuel : Nat) : ∀ (w : World) (y : World) (oo o : Tg) (hB : Bs oo o w y) (u : Int) (B : Nat) (I : Value) (J : Yk) (f : Bx w.heap.size 11 o y B 22 [I]) (V : RdL zt w I J) (C : Nat) (L : Value) (S : Yl → Option Bool) (i : Bx w.heap.size 12 o y C 97 [L]) (a7 : FnV Tryz.prog w L S) (m : Nat) (F : Value) (T : Yl) (g : Bx w.heap.size 14 o y m 41 [F]) (M : Ow w.heap.size 3 13 o y F T) (q : Nat) (j : Bx w.heap.size 15 o y q 64 [(.func (.func 181) #[] #[(.pointer (some ⟨B, 0, none⟩)), (.pointer (some ⟨C, 0, none⟩)), (.pointer (some ⟨m, 0, none⟩)), (.pointer (some ⟨q, 0, none⟩))])]) (r : Bool × Yl) (hF : ab_ fuel u J S T = some r), Calls Tryz.prog 181 #[.int .i64 u, .pointer (some ⟨B, 0, none⟩), .pointer (some ⟨C, 0, none⟩), .pointer (some ⟨m, 0, none⟩), .pointer (some ⟨q, 0, none⟩)] y (fR_ oo o w y F r) := by
 induction fuel with
 | zero =>
  intro w y oo o hB u B I J f V C L S i a7 m F T g M q j r hF; unfold ab_ at hF; cases hF
 | succ fuel ih =>
  intro w y oo o hB u B I J f V C L S i a7 m F T g M q j r hF; unfold ab_ at hF; have hS : Stp 13 o y o y := Stp.refl _ _ _; refine i_ (n := 34) (vs := [(ZI u), (ZP B), (ZP C), (ZP m), (ZP q)]) Tryz.func181 rfl rfl ?_; refine Zq (Za rfl (Ze [(0, ZI u), (1, ZP B), (2, ZP C), (3, ZP m), (4, ZP q)] (nx (a_ (Zq (Zm rfl (Zv (e_ rfl Tryz.isAgg22 (f.cell rfl)) (Zv (C_ rfl V Tryz.underlying22) (Zv (cE_ rfl rfl) (Ze [(0, ZI u), (1, ZP B), (2, ZP C), (3, ZP m), (4, ZP q), (12, (.bool (u == (J.length : Int))))] (nx ?_))))))))))); refine o_ rfl (fun a8 => ?_) (fun a8 => ?_)
  ·rw [if_pos a8] at hF; refine Zq (Zv (e_ rfl Tryz.isAgg97 (i.cell rfl)) (Zv (e_ rfl Tryz.isAgg41 (g.cell rfl)) ?_)); obtain ⟨c9, a9, hF⟩ := bind_some hF; refine Zo ?_; refine fN_ (x := T) (vs := [F]) (a7.keep hB.keeps) a9 ⟨_, rfl, M.z⟩ rfl ⟨rfl, trivial⟩ ?_; intro e3 d0; have U := d0.stp 999 o; replace hS := hS.trans (d0.stp 13 o); replace M := M.stp U; replace f := f.stp U; replace i := i.stp U; replace g := g.stp U; replace j := j.stp U; replace hB := hB.stp U; refine Za rfl (Ze [(6, (.bool c9))] (nx (m_ (D_ ?_)))); have d1 := Zj hF; subst d1; refine Zr Tryz.results181 [(.bool c9)] ?_; exact ⟨o, rfl, M, hB, hS⟩
  ·rw [if_neg (by rw [a8]; decide)] at hF; refine g_ (nx (a_ (Zq (Zv (e_ rfl Tryz.isAgg22 (f.cell rfl)) (Zm rfl ?_))))); obtain ⟨A, b0, hF⟩ := bind_some hF; refine Zo ?_; refine wf_atZ V b0 hB rfl rfl Tryz.underlying22 Tryz.sizeOf41 ?_; intro e4 e5 d2 b1 b2; obtain ⟨s, rfl, N⟩ := b2; refine Zv (e_ rfl Tryz.isAgg41 (j_ b1)) (Zv (C_ rfl N Tryz.underlying41) (Zm rfl (Ze [(0, ZI u), (3, ZP m), (4, ZP q), (19, s), (20, (ZI (A.length : Int))), (21, ZI 0)] (nx ?_)))); obtain ⟨O, W, hF⟩ := bind_some hF; refine A_ (fun a c => ∃ (v : Yl) (b : Tg), O = .inl v ∧ Fr a 34 [] ∧ Bs oo b w c ∧ Stp 13 o y b c ∧ Bx w.heap.size 15 b c q 64 [(.func (.func 181) #[] #[(ZP B), (ZP C), (ZP m), (ZP q)])] ∧ Bx w.heap.size 14 b c m 41 [F] ∧ Ow w.heap.size 3 13 b c F v ∧ Bx w.heap.size 12 b c C 97 [L] ∧ Bx w.heap.size 11 b c B 22 [I]) (fun a w' => ∃ r', O = .inr r' ∧ bodyPost Tryz.prog Tryz.f181 (fR_ oo o w y F r') .ret a w') ?_ ?_ ?_
   ·refine f_ ?_; refine z_ (fun (K : Nat) a c => ∃ (d : Int) (v : Yl) (b : Tg), forI (aC_ u J S (ab_ fuel)) (A.drop d.toNat) d v = some O ∧ (A.drop d.toNat).length = K ∧ 0 ≤ d ∧ Fr a 34 [(0, ZI u), (3, ZP m), (4, ZP q), (19, s), (20, (ZI (A.length : Int))), (21, ZI d)] ∧ Bs oo b w c ∧ Stp 13 o y b c ∧ Bx w.heap.size 15 b c q 64 [(.func (.func 181) #[] #[(ZP B), (ZP C), (ZP m), (ZP q)])] ∧ Bx w.heap.size 14 b c m 41 [F] ∧ Ow w.heap.size 3 13 b c F v ∧ Bx w.heap.size 12 b c C 97 [L] ∧ Bx w.heap.size 11 b c B 22 [I]) _ (fun a ha => ⟨0, T, o, W, rfl, Int.le_refl 0, ha.sub (r := [(0, ZI u), (3, ZP m), (4, ZP q), (19, s), (20, (ZI (A.length : Int))), (21, ZI 0)]) ⟨rfl, rfl, rfl, rfl, rfl, rfl, trivial⟩, hB, hS, j, g, M, i, f⟩) ?_; rintro K24 a c ⟨d, v, b, X, b3, b4, ha, hB, hS, j, g, G, i, f⟩; by_cases H : d < (A.length : Int)
    ·obtain ⟨b5, d3, Y, k, Z⟩ := V_ b4 H X; have hle := N.len_le; dsimp only [aC_] at k; refine M_ ha ?_; refine Zq (Zv (t_ rfl rfl) (Ze [(0, ZI u), (3, ZP m), (4, ZP q), (19, s), (20, (ZI (A.length : Int))), (21, ZI d), (22, (.bool (decide (d < (A.length : Int)))))] (nx (a_ ?_)))); refine P_ (Zb (decide_eq_true H)) ?_; refine g_ (nx (a_ (f_ (Zq (Zo ?_))))); refine wf_atZ N Y hB rfl rfl Tryz.underlying41 Tryz.sizeOf3 ?_; intro d4 d5 d6 b6 b7; cases b7
     refine Zv (e_ rfl Tryz.isAgg3 (j_ b6)) (Za rfl (Ze [(0, ZI u), (3, ZP m), (4, ZP q), (8, ZI b5), (19, s), (20, (ZI (A.length : Int))), (21, ZI d)] (Zn (Zv (e_ rfl Tryz.isAgg41 (g.cell rfl)) (Zm rfl (Zm rfl ?_)))))); obtain ⟨d7, a0, k⟩ := bind_some k; refine Zo ?_; refine fS_ G a0 rfl rfl Tryz.underlying41 Tryz.sizeOf3 ?_; intro d8 d9 b8 e0 b9; cases b9
     obtain ⟨c0, a1, k⟩ := bind_some k; refine ad_ trivial ?_; refine cx_ G b8 a1 rfl (by decide) rfl rfl rfl Tryz.sizeOf3 rfl ?_; intro c1 c2 D; replace hS := hS.trans D; replace f := f.stp D; replace i := i.stp D; replace g := g.stp D; replace j := j.stp D; replace hB := hB.stp D; refine Ze [(0, ZI u), (3, ZP m), (4, ZP q), (19, s), (20, (ZI (A.length : Int))), (21, ZI d)] (Zn (Zv (e_ rfl Tryz.isAgg64 (j.cell rfl)) (Zm rfl ?_))); obtain ⟨a2, a3, k⟩ := bind_some k; refine Zv (F_ rfl rfl a3) ?_; obtain ⟨Q, a4, k⟩ := bind_some k; refine Zo ?_; refine ir_ (vs := [(ZI a2)]) (cap := [(ZP B), (ZP C), (ZP m), (ZP q)]) (ih w c1 oo b hB a2 B I J f V C L S i a7 m F c0 g c2 q j Q a4) Tryz.call181 rfl ⟨rfl, trivial⟩ ?_; rintro e1 e2 ⟨a5, rfl, a6, -, E⟩; refine ⟨_, rfl, ?_⟩; replace hS := hS.trans E; replace f := f.stp E; replace i := i.stp E; replace g := g.stp E; replace j := j.stp E; replace hB := hB.stp E; refine Ze [(0, ZI u), (3, ZP m), (4, ZP q), (19, s), (20, (ZI (A.length : Int))), (21, ZI d), (32, (.bool Q.1))] (nx ?_); refine o_ rfl (fun R => ?_) (fun R => ?_)
     ·rw [if_pos R] at k; refine Zq (Za rfl (Ze [(6, (.bool true))] (nx (m_ (ac_ (D_ (D_ (ac_ ?_)))))))); refine bQ_ ?_; have c3 := Zj k; subst c3; refine fun a ha => ⟨_, Z, ?_⟩; refine H_ (P := Tryz.prog) (vs := [(.bool true)]) Tryz.results181 ⟨rfl, trivial⟩ ?_ a ha; exact ⟨a5, rfl, a6, hB, hS⟩
     ·rw [if_neg (by rw [R]; decide)] at k; refine g_ (y_ (nx (c_ (Zv (F_ rfl rfl (G_ (by omega) (by omega))) (Zm rfl (Ze [(0, ZI u), (3, ZP m), (4, ZP q), (19, s), (20, (ZI (A.length : Int))), (21, (ZI (d + 1)))] (w_ ?_))))))); have c4 := Zj k; subst c4; refine Zk [(0, ZI u), (3, ZP m), (4, ZP q), (19, s), (20, (ZI (A.length : Int))), (21, (ZI (d + 1)))] ?_; intro a ha; exact ⟨_, (by rw [← b3]; simp only [List.length_drop]; omega), d + 1, Q.2, a5, Z, rfl, (by omega), ha, hB, hS, j, g, a6, i, f⟩
    ·have c5 := W_ H X; refine M_ ha ?_; refine Zq (Zv (t_ rfl rfl) (Ze [(0, ZI u), (3, ZP m), (4, ZP q), (19, s), (20, (ZI (A.length : Int))), (21, ZI d), (22, (.bool (decide (d < (A.length : Int)))))] (nx (a_ ?_)))); refine J_ (Zb (decide_eq_false H)) ?_; refine v_ ?_; refine r_ (r_ (Q_ ?_)); refine s_ ?_; refine Zk [] ?_; intro a ha; exact ⟨v, b, c5, ha, hB, hS, j, g, G, i, f⟩
   ·rintro a c ⟨v, b, rfl, ha, hB, hS, j, g, G, i, f⟩; dsimp only at hF; refine ap_k ha ?_; refine Zn (Za rfl (Ze [(6, (.bool false))] (nx (m_ ?_)))); have c6 := Zj hF; subst c6; refine Zr Tryz.results181 [(.bool false)] ?_; exact ⟨b, rfl, G, hB, hS⟩
   ·rintro a c ⟨r', rfl, c7⟩; dsimp only at hF; have c8 := Zj hF; subst c8; exact c7
def cz_ (fuel : Nat) (c : List (List Int)) (d : (List Int) → Option Bool) : Option ((List Int) × Bool) :=
  (mk (Rz.z : Int) (c.length : Int)) >>= fun b =>
  (ab_ fuel 0 c d b) >>= fun a =>
  if !a.1 then
    some ([], false)
  else
    some (a.2, true)

def jx_ (oo : Tg) (t : Nat) (w : World) (r : Yl × Bool) : Ending → World → Prop := fun e w' => ∃ (a : Value) (o' : Tg), e = .returned (.tuple #[a, .bool r.2]) ∧ Ow w.heap.size 3 t o' w' a r.1 ∧ Keeps w w' ∧ ∀ b, b < w.heap.size → o' b = oo b
theorem gV_ (fuel : Nat) (w : World) (oo : Tg) (t : Nat) (ht : 2 ≤ t) (z : Value) (K : Yk) (L : RdL zt w z K) (A : Value) (M : Yl → Option Bool) (V : FnV Tryz.prog w A M) (r : Yl × Bool) (hF : cz_ fuel K M = some r) :
    Calls Tryz.prog 148 #[z, A] w (jx_ oo t w r) := by
 unfold cz_ at hF; have hB : Bs oo (col oo) w w := Bs.start _ _; refine i_ (n := 16) (vs := [z, A]) Tryz.func148 rfl rfl ?_; generalize col oo = o at *; refine Zq (Zo ?_); refine aK_ (o := o) w.heap.size 11 hB.keeps.size (cs := [z]) L.cells1 rfl ?_; intro W a4 u f X; replace hB := hB.stp X; refine Zo ?_; refine aK_ (o := W) w.heap.size 12 hB.keeps.size (cs := [A]) V.cells1 rfl ?_; intro Y a5 v g B; replace f := f.stp B; replace hB := hB.stp B; refine Za rfl (Za rfl (Ze [(2, ZP u), (3, ZP v)] (Zn (Zv (e_ rfl Tryz.isAgg22 (f.cell rfl)) (Zv (C_ rfl L Tryz.underlying22) ?_))))); obtain ⟨N, C, hF⟩ := bind_some hF; refine Zo ?_; refine hf_ (o := Y) w.heap.size 13 hB.keeps.size C rfl rfl Tryz.underlying41 jn_ rfl (by decide) ?_; intro O Z k a x; replace f := f.stp x; replace g := g.stp x; replace hB := hB.stp x; refine Zo ?_; refine aB_ (o := O) w.heap.size 14 hB.keeps.size (cs := [(.slice none 0 0)]) Tryz.zeroValue41 rfl ?_; intro D a0 c P m; replace a := a.stp m; replace f := f.stp m; replace g := g.stp m; replace hB := hB.stp m; refine ad_ trivial ?_; refine bp_ P rfl rfl (of_decide_eq_true rfl) Tryz.sizeOf41 a.cells1 a.one1 ?_; intro Q b q; replace a := a.stp q; replace f := f.stp q; replace g := g.stp q; replace hB := hB.stp q; replace b : Bx w.heap.size 14 D Q c 41 [k] := b; refine Ze [(2, ZP u), (3, ZP v), (6, ZP c)] (Zn (Zo ?_)); refine aB_ (o := D) w.heap.size 15 hB.keeps.size (cs := [.nilFunc]) Tryz.zeroValue64 rfl ?_; intro E a1 d R i; replace f := f.stp i; replace g := g.stp i; replace b := b.stp i; replace a := a.stp i; replace hB := hB.stp i; refine Ze [(2, ZP u), (3, ZP v), (6, ZP c), (7, ZP d)] (Zn (Zv (gE_ (vs := [(ZP u), (ZP v), (ZP c), (ZP d)]) ⟨rfl, rfl, rfl, rfl, trivial⟩) ?_)); refine ad_ trivial ?_; refine bp_ R rfl rfl (of_decide_eq_true rfl) Tryz.sizeOf64 rfl rfl ?_; intro F s j; replace f := f.stp j; replace g := g.stp j; replace b := b.stp j; replace a := a.stp j; replace hB := hB.stp j; replace s : Bx w.heap.size 15 E F d 64 [(.func (.func 181) #[] #[(ZP u), (ZP v), (ZP c), (ZP d)])] := s; refine Ze [(6, ZP c), (7, ZP d)] (nx (a_ (Zq (Zv (e_ rfl Tryz.isAgg64 (s.cell rfl)) ?_)))); obtain ⟨G, H, hF⟩ := bind_some hF; refine Zo ?_; refine ir_ (vs := [(ZI 0)]) (cap := [(ZP u), (ZP v), (ZP c), (ZP d)]) (im_ fuel w F oo E hB 0 u z K f L v A M g V c k N b a d s G H) Tryz.call181 rfl ⟨rfl, trivial⟩ ?_; rintro a2 a3 ⟨I, rfl, S, -, J⟩; refine ⟨_, rfl, ?_⟩; replace b := b.stp J; replace hB := hB.stp J; refine Zv (ba_ rfl) (Ze [(6, ZP c), (14, (.bool (!G.1)))] (nx ?_)); refine o_ rfl (fun y => ?_) (fun y => ?_)
 ·rw [if_pos y] at hF; refine Zq (Za rfl (Za rfl (Ze [(4, (.slice none 0 0)), (5, (.bool false))] (nx (m_ (D_ ?_)))))); have T := Zj hF; subst T; refine Zr Tryz.results148 [(.slice none 0 0), (.bool false)] ?_; exact ⟨_, rt oo I w.heap.size 9 t, rfl, (Ow.nil _ _ _ _ _), hB.keeps, af_ _ _ _ _ _⟩
 ·rw [if_neg (by rw [y]; decide)] at hF; refine g_ (Zn (Zv (e_ rfl Tryz.isAgg41 (b.cell rfl)) (Za rfl (Za rfl (Ze [(4, k), (5, (.bool true))] (nx (m_ ?_))))))); have U := Zj hF; subst U; refine Zr Tryz.results148 [k, (.bool true)] ?_; exact ⟨_, rt oo I w.heap.size 13 t, rfl, S.rt hB (by decide) t, hB.keeps, af_ _ _ _ _ _⟩
end

section
def chP (lists : List (List Int)) (g : List Int → Bool) (k : Nat) (lab : List Int) : Prop := ∃ m, m.length = lists.length ∧ m.take k = lab.take k ∧ (∀ (i : Nat) L a, k ≤ i → lists[i]? = some L → m[i]? = some a → a ∈ L) ∧ g m = true
theorem rf_ (lists : List (List Int)) (G : List Int → Option Bool) (g : List Int → Bool) (hG : ∀ m, m.length = lists.length → G m = some (g m)) (hl : lists.length ≤ 1000) : ∀ (d k fuel : Nat) (lab : List Int), k + d = lists.length → d < fuel → lab.length = lists.length →
  ∃ b lab', ab_ fuel (k : Int) lists G lab = some (b, lab') ∧ lab'.length = lists.length ∧ lab'.take k = lab.take k ∧ (b = true ↔ chP lists g k lab)
 | 0, k, fuel, lab, hd, hf, hlab => by
  obtain ⟨q, rfl⟩ : ∃ q, fuel = q + 1 := ⟨fuel - 1, by omega⟩
  refine ⟨g lab, lab, ?_, hlab, rfl, ?_⟩
  ·unfold ab_
   rw [if_pos (by simp; omega), hG lab hlab, sb]
  ·constructor
   ·intro h
    exact ⟨lab, hlab, rfl, fun i L a hi hL _ => by have := (List.getElem?_eq_some_iff.1 hL).1; omega, h⟩
   ·rintro ⟨m, m1, m2, m3, m4⟩
    rw [List.take_of_length_le (by omega), List.take_of_length_le (by omega)] at m2
    rw [← m2]; exact m4
 | d + 1, k, fuel, lab, hd, hf, hlab => by
  obtain ⟨q, rfl⟩ : ∃ q, fuel = q + 1 := ⟨fuel - 1, by omega⟩
  have hk : k < lists.length := by omega
  obtain ⟨L, hL⟩ : ∃ L, lists[k]? = some L := ⟨_, List.getElem?_eq_getElem hk⟩
  have one : ∀ (a : Int) (s : List Int), s.length = lists.length → s.take k = lab.take k → ∃ b s', aC_ (k : Int) lists G (ab_ q) 0 a s = some (if b then .ret (true, s') else .go s') ∧ s'.length = lists.length ∧ s'.take k = lab.take k ∧ (b = true ↔ chP lists g (k + 1) (s.set k a)) := fun a s hs1 hs2 => by
   obtain ⟨b, s', e1, e2, e3, e4⟩ := rf_ lists G g hG hl d (k + 1) q (s.set k a) (by omega) (by omega) (by simpa using hs1)
   refine ⟨b, s', ?_, e2, ?_, e4⟩
   ·unfold aC_
    rw [ct_, List.getElem?_eq_getElem (show k < s.length by omega), sb, iO_ _ _ _ (show k < s.length by omega), sb, G_ (by omega) (by omega), sb, show ((k : Int) + 1) = ((k + 1 : Nat) : Int) by omega, e1, sb]
    cases b <;> rfl
   ·have := congrArg (List.take k) e3
    rw [List.take_take, List.take_take, Nat.min_eq_left (by omega), List.take_set_of_le (Nat.le_refl _)] at this
    rw [this, hs2]
  have chs : ∀ (a : Int) (s : List Int), s.length = lists.length → s.take k = lab.take k → (chP lists g (k + 1) (s.set k a) ↔ ∃ m, m.length = lists.length ∧ m.take k = lab.take k ∧ m[k]? = some a ∧ (∀ (i : Nat) L a, k + 1 ≤ i → lists[i]? = some L → m[i]? = some a → a ∈ L) ∧ g m = true) := fun a s hs1 hs2 => by
   have ht : (s.set k a).take (k + 1) = lab.take k ++ [a] := by
    rw [List.take_add_one, List.take_set_of_le (Nat.le_refl _), hs2, List.getElem?_set_self (by omega)]; rfl
   constructor
   ·rintro ⟨m, m1, m2, m3, m4⟩
    rw [ht, List.take_add_one] at m2
    have hm : m[k]? = some m[k] := List.getElem?_eq_getElem (by omega)
    rw [hm] at m2
    obtain ⟨u1, u2⟩ := List.append_inj m2 (by rw [List.length_take, List.length_take]; omega)
    exact ⟨m, m1, u1, by rw [hm]; simpa using u2, m3, m4⟩
   ·rintro ⟨m, m1, m2, m3, m4, m5⟩
    exact ⟨m, m1, by rw [ht, List.take_add_one, m2, m3]; rfl, m4, m5⟩
  have loop : ∀ (xs pre : List Int) (i : Int) (s : List Int), pre ++ xs = L → s.length = lists.length → s.take k = lab.take k → (¬ ∃ a ∈ pre, chP lists g (k + 1) (lab.set k a)) →
    ∃ z, forI (aC_ (k : Int) lists G (ab_ q)) xs i s = some z ∧ ((∃ s', z = .inl s' ∧ s'.length = lists.length ∧ s'.take k = lab.take k ∧ ¬ ∃ a ∈ L, chP lists g (k + 1) (lab.set k a)) ∨ (∃ s', z = .inr (true, s') ∧ s'.length = lists.length ∧ s'.take k = lab.take k ∧ ∃ a ∈ L, chP lists g (k + 1) (lab.set k a))) := by
   intro xs
   induction xs with
   | nil =>
    intro pre i s hp h1 h2 h3
    rw [List.append_nil] at hp
    subst hp
    exact ⟨_, rfl, .inl ⟨s, rfl, h1, h2, h3⟩⟩
   | cons x xs ih =>
    intro pre i s hp h1 h2 h3
    obtain ⟨b, s', e1, e2, e3, e4⟩ := one x s h1 h2
    have e1' : aC_ (k : Int) lists G (ab_ q) i x s = some (if b then .ret (true, s') else .go s') := e1
    have hxL : x ∈ L := by rw [← hp]; simp
    have e5 : b = true ↔ chP lists g (k + 1) (lab.set k x) := by rw [e4, chs x s h1 h2, chs x lab hlab rfl]
    simp only [forI, e1']
    cases b with
    | true => exact ⟨_, rfl, .inr ⟨s', rfl, e2, e3, x, hxL, e5.1 rfl⟩⟩
    | false =>
     refine ih (pre ++ [x]) (i + 1) s' (by rw [← hp]; simp) e2 e3 ?_
     rintro ⟨a, ha, hca⟩
     rcases List.mem_append.1 ha with ha | ha
     ·exact h3 ⟨a, ha, hca⟩
     ·rw [List.mem_singleton.1 ha] at hca
      exact absurd (e5.2 hca) (by simp)
  obtain ⟨z, z1, z2⟩ := loop L [] 0 lab (by simp) hlab rfl (by simp)
  have hall : chP lists g k lab ↔ ∃ a ∈ L, chP lists g (k + 1) (lab.set k a) := by
   constructor
   ·rintro ⟨m, m1, m2, m3, m4⟩
    have hm : m[k]? = some m[k] := List.getElem?_eq_getElem (by omega)
    exact ⟨m[k], m3 k L _ (Nat.le_refl _) hL hm, (chs _ lab hlab rfl).2 ⟨m, m1, m2, hm, fun i L a hi => m3 i L a (by omega), m4⟩⟩
   ·rintro ⟨a, ha, hc⟩
    obtain ⟨m, m1, m2, m3, m4, m5⟩ := (chs a lab hlab rfl).1 hc
    refine ⟨m, m1, m2, fun i L' b hi hL' hb => ?_, m5⟩
    by_cases e : i = k
    ·subst e
     rw [hL] at hL'; cases hL'
     rw [m3] at hb; cases hb
     exact ha
    ·exact m4 i L' b (by omega) hL' hb
  have hhead : ab_ (q + 1) (k : Int) lists G lab = ((forI (aC_ (k : Int) lists G (ab_ q)) L 0 lab) >>= fun q20 => match q20 with | .inl y15 => some (false, y15) | .inr r' => some r') := by
   conv => lhs; unfold ab_
   rw [if_neg (by simp; omega), ct_, hL, sb]
   all_goals rfl
  rw [hhead, z1, sb, hall]
  rcases z2 with ⟨s', rfl, a1, a2, a3⟩ | ⟨s', rfl, a1, a2, a3⟩
  ·exact ⟨false, s', rfl, a1, a2, by simpa using a3⟩
  ·exact ⟨true, s', rfl, a1, a2, by simpa using a3⟩
theorem hv_ (fuel : Nat) (lists : List (List Int)) (G : List Int → Option Bool) (g : List Int → Bool) (hG : ∀ m, m.length = lists.length → G m = some (g m)) (hl : lists.length ≤ 1000) (hf : lists.length < fuel) :
  ∃ l b, cz_ fuel lists G = some (l, b) ∧ (b = true ↔ ∃ m, m.length = lists.length ∧ (∀ (i : Nat) L a, lists[i]? = some L → m[i]? = some a → a ∈ L) ∧ g m = true) := by
 obtain ⟨b, lab', e1, e2, e3, e4⟩ := rf_ lists G g hG hl lists.length 0 fuel (List.replicate lists.length 0) (by omega) hf (by simp)
 rw [show ((0 : Nat) : Int) = 0 from rfl] at e1
 have hm : mk (Rz.z : Int) (lists.length : Int) = some (List.replicate lists.length 0) := by
  unfold mk
  rw [if_pos (by omega)]; rfl
 have hc : chP lists g 0 (List.replicate lists.length 0) ↔ ∃ m, m.length = lists.length ∧ (∀ (i : Nat) L a, lists[i]? = some L → m[i]? = some a → a ∈ L) ∧ g m = true :=
  ⟨fun ⟨m, m1, _, m3, m4⟩ => ⟨m, m1, fun i L a => m3 i L a (Nat.zero_le _), m4⟩, fun ⟨m, m1, m3, m4⟩ => ⟨m, m1, by simp, fun i L a _ => m3 i L a, m4⟩⟩
 rw [hc] at e4
 unfold cz_
 rw [hm, sb, e1, sb]
 cases b with
 | true => exact ⟨lab', true, by rfl, e4⟩
 | false => exact ⟨[], false, by rfl, e4⟩
end

section
set_option maxRecDepth 100000
set_option maxHeartbeats 2000000
open Go.RowKit Go.Sort Go.Shelf
def growO (n : Int) : Option (List Int) := if 0 ≤ n ∧ n ≤ 1000000000 then some [] else none
theorem ot_ (w : World) (oo : Tg) (t : Nat) (n : Int) (r : Yl) (hF : growO n = some r) :
    Calls Tryz.prog 173 #[.slice none 0 0, .int .i64 n] w (fun e w' => ∃ v o', e = .returned v ∧ Ow w.heap.size 3 t o' w' v r ∧ Keeps w w' ∧ ∀ b, b < w.heap.size → o' b = oo b) := by
 unfold growO at hF; split at hF; rotate_left
 ·cases hF
 rename_i hl; cases hF
 obtain ⟨n, rfl⟩ : ∃ m : Nat, n = m := ⟨n.toNat, by omega⟩; by_cases j : n = 0
 ·subst j; refine (Any8.slices_Grow_room Tryz.laysGrow none 0 0 0 w (by omega) (by omega) (by omega) (by omega)).mono ?_; rintro e w' ⟨rfl, rfl⟩; exact ⟨_, oo, rfl, ⟨[], rfl, World.ownsRow_nil _ _ _ _, fun g' hg => by simp [Value.ownBlock] at hg, by simp⟩, Keeps.refl _, fun _ _ => rfl⟩
 ·obtain ⟨c, d, f, g, i⟩ := info_parts (show Inf Tryz.prog 3 (ZI 0) 1 8 by unfold Inf; kernel_rfl); have hsz : c.size = 1 := g; have hby : c.bytes = 8 := i; refine (Any8.slices_Grow_grow Tryz.laysGrow c (ZI 0) d f (by omega) none 0 0 n [] w (by omega) (by omega) (by rw [hby]; omega) (by omega) (by simp) (fun _ => rfl) (by intro a h; cases h)).mono ?_; rintro e w' ⟨rfl, rfl⟩; have hG := grownCap_ge w (0 + n) 0 3; have hM := grownCap_le_maxLen w (0 + n) 0 3 (by unfold maxLen; omega); have hs : Stp t oo w (ext oo w.heap.size t) (w.drew.alloc (.cells (([] : List Value).toArray ++ Builtin.zeroCells (Value.int .i64 0).cells (0 + n - 0) ++ Builtin.zeroCells (Value.int .i64 0).cells (grownCap w (0 + n) 0 3 - (0 + n))) 3)) := (is_ oo w t).trans (gD_ oo w.drew _ _ t); refine ⟨_, ext oo w.heap.size t, rfl, ⟨[], rfl, World.ownsRow_made w.drew _ _ (Nat.le_refl _) hM ?_, fun g' hg => ?_, by simp⟩, ?_, fun b hb => ?_⟩
  ·simp only [Nat.zero_add] at hG; have k : (Value.int IntKind.i64 0).cells.size = 1 := rfl; rw [Array.size_append, Array.size_append, size_zeroCells, size_zeroCells, k]; simp only [Nat.zero_add, List.size_toArray, List.length_nil, Nat.mul_one, Nat.sub_zero, Rp.sz]; exact Nat.add_sub_cancel' hG
  ·simp [Value.ownBlock] at hg; subst hg; exact hT_ _ _ _ _ (Nat.le_refl _)
  ·exact (Keeps.refl w).drew.alloc _
  ·exact jj_ _ _ _ _ hb
end

section
set_option maxRecDepth 100000
set_option maxHeartbeats 2000000
open Go.RowKit
def aA_ (d : List (List Int)) (f : (List Int) → Option Bool) : Int → Unit → Option (Lp Unit Unit Int) := fun (c : Int) (s : Unit) =>
  (ix d c) >>= fun a =>
  (f a) >>= fun b =>
  if b then
    some (.ret c)
  else
    some (.go ())
def ax_ (a : List (List Int)) (b : (List Int) → Option Bool) : Option Int :=
  ck (a.length : Int) >>= fun _ =>
  (forN (aA_ a b) ((a.length : Int)).toNat 0 ()) >>= fun c =>
  match c with
  | .inl _ =>
    some (-1)
  | .inr r' => some r'

def cy_ (w : World) (r : Int) : Ending → World → Prop := fun e w' => e = .returned (.int .i64 r) ∧ Keeps w w'
theorem ex_ (w : World) (f : Value) (d : Yk) (Q : RdL zt w f d) (g : Value) (v : Yl → Option Bool) (S : FnV Tryz.prog w g v) (r : Int) (hF : ax_ d v = some r) :
    Calls Tryz.prog 180 #[f, g] w (cy_ w r) := by
 unfold ax_ at hF; have hB : Bs (fun _ => 1) (col (fun _ => 1)) w w := Bs.start _ _; refine i_ (n := 19) (vs := [f, g]) Tryz.func180 rfl rfl ?_; refine Zq (Za rfl (Ze [(0, f), (1, g)] (nx (a_ (Zq (Zm rfl (Zv (C_ rfl Q Tryz.underlying22) (Zm rfl (Ze [(0, f), (1, g), (7, (ZI (d.length : Int))), (8, ZI 0)] (nx ?_)))))))))); obtain ⟨a0, T, hF⟩ := bind_some hF; obtain ⟨-, h5a, h5b⟩ := cj_ T; obtain ⟨y, z, hF⟩ := bind_some hF; refine A_ (fun a m => ∃ (j : Tg), y = .inl () ∧ Fr a 19 [] ∧ Bs (fun _ => 1) j w m) (fun a w' => ∃ r', y = .inr r' ∧ bodyPost Tryz.prog Tryz.f180 (cy_ w r') .ret a w') ?_ ?_ ?_
 ·refine f_ ?_; refine z_ (fun (K : Nat) a m => ∃ (b : Int) (j : Tg), forN (aA_ d v) ((d.length : Int) - b).toNat b () = some y ∧ ((d.length : Int) - b).toNat = K ∧ 0 ≤ b ∧ Fr a 19 [(0, f), (1, g), (7, (ZI (d.length : Int))), (8, ZI b)] ∧ Bs (fun _ => 1) j w m) _ (fun a ha => ⟨0, (col (fun _ => 1)), (by rw [Int.sub_zero]; exact z), rfl, Int.le_refl 0, ha.sub (r := [(0, f), (1, g), (7, (ZI (d.length : Int))), (8, ZI 0)]) ⟨rfl, rfl, rfl, rfl, trivial⟩, hB⟩) ?_; rintro K10 a m ⟨b, j, R, U, a1, ha, hB⟩; by_cases i : b < (d.length : Int)
  ·obtain ⟨V, c, q⟩ := bA_ i R; dsimp only [aA_] at c; refine M_ ha ?_; refine Zq (Zv (t_ rfl rfl) (Ze [(0, f), (1, g), (7, (ZI (d.length : Int))), (8, ZI b), (9, (.bool (decide (b < (d.length : Int)))))] (nx (a_ ?_)))); refine P_ (Zb (decide_eq_true i)) ?_; refine g_ (nx (a_ (f_ (Zq (Zm rfl (Za rfl (Ze [(0, f), (1, g), (5, ZI b), (7, (ZI (d.length : Int))), (8, ZI b)] (Zn (Zm rfl (Zm rfl (Zm rfl ?_))))))))))); obtain ⟨A, s, c⟩ := bind_some c; refine Zo ?_; refine wf_atZ Q s hB rfl rfl Tryz.underlying22 Tryz.sizeOf41 ?_; intro W X Y B C; obtain ⟨D, rfl, E⟩ := C; refine Zv (e_ rfl Tryz.isAgg41 (j_ B)) ?_; obtain ⟨F, u, c⟩ := bind_some c; refine Zo ?_; refine fN_ (x := A) (vs := [D]) (S.keep hB.keeps) u ⟨_, rfl, (E.keep hB.keeps)⟩ rfl ⟨rfl, trivial⟩ ?_; intro Z G; have H := G.stp 999 j; replace hB := hB.stp H; refine Ze [(0, f), (1, g), (5, ZI b), (7, (ZI (d.length : Int))), (8, ZI b), (16, (.bool F))] (nx ?_); refine o_ rfl (fun k => ?_) (fun k => ?_)
   ·rw [if_pos k] at c; refine Zq (Zm rfl (Za rfl (Ze [(4, ZI b)] (nx (m_ (ac_ (D_ (D_ (ac_ ?_))))))))); refine bQ_ ?_; have I := Zj c; subst I; refine fun a ha => ⟨_, q, ?_⟩; refine H_ (P := Tryz.prog) (vs := [(ZI b)]) Tryz.results180 ⟨rfl, trivial⟩ ?_ a ha; exact ⟨rfl, hB.keeps⟩
   ·rw [if_neg (by rw [k]; decide)] at c; refine g_ (y_ (nx (c_ (Zv (F_ rfl rfl (G_ (by omega) (by omega))) (Zm rfl (Ze [(0, f), (1, g), (7, (ZI (d.length : Int))), (8, (ZI (b + 1)))] (w_ ?_))))))); have J := Zj c; subst J; refine Zk [(0, f), (1, g), (7, (ZI (d.length : Int))), (8, (ZI (b + 1)))] ?_; intro a ha; exact ⟨_, (by rw [← U]; omega), b + 1, j, q, rfl, (by omega), ha, hB⟩
  ·have L := bw_ i R; refine M_ ha ?_; refine Zq (Zv (t_ rfl rfl) (Ze [(0, f), (1, g), (7, (ZI (d.length : Int))), (8, ZI b), (9, (.bool (decide (b < (d.length : Int)))))] (nx (a_ ?_)))); refine J_ (Zb (decide_eq_false i)) ?_; refine v_ ?_; refine r_ (r_ (Q_ ?_)); refine s_ ?_; refine Zk [] ?_; intro a ha; exact ⟨j, L, ha, hB⟩
 ·rintro a m ⟨j, rfl, ha, hB⟩; dsimp only at hF; refine ap_k ha ?_; refine Zn (Za rfl (Ze [(4, (ZI (-1)))] (nx (m_ ?_)))); have M := Zj hF; subst M; refine Zr Tryz.results180 [(ZI (-1))] ?_; exact ⟨rfl, hB.keeps⟩
 ·rintro a m ⟨r', rfl, N⟩; dsimp only at hF; have O := Zj hF; subst O; exact N
end

section
open Go.RowKit
theorem RdL.mapx {o : Tg} {w : World} {v : Value} {xs : List Pv} (h : RdL o w v xs) : RdL o w v (xs.map fun q => q.x) := by
 obtain ⟨a, c, e, h1, h2, h4⟩ := h
 refine ⟨a, c, by rw [e, List.length_map], by rw [List.length_map]; exact h1, h2, fun i x hi => ?_⟩
 rw [List.getElem?_map] at hi
 obtain ⟨q, hq, rfl⟩ := Option.map_eq_some_iff.1 hi
 obtain ⟨b, off, cs, r1, r2, r3, r4, r5⟩ := h4 i q hq
 obtain ⟨rfl, s1, s2⟩ := r5
 exact ⟨b, off, [q.v], r1, r2, r3, r4, _, rfl, s2⟩
theorem sb_ {B k : Nat} {e : TypeId} {o : Tg} {w : World} {v : Value} {xs : List Pv} (h : Ow B e k o w v xs) : RdL zt w v (xs.map fun q => q.x) := RdL.mapx h.z
end

section
set_option maxRecDepth 100000
set_option maxHeartbeats 2000000
open Go.RowKit
def I_ (i : (List Int) → Option Bool) : ((List Pv) × Int × Int) → Option (Lp ((List Pv) × Int × Int) ((List Pv) × Int × Int) (List Pv)) := fun (s : (List Pv) × Int × Int) =>
  if decide (s.2.2 < (s.1.length : Int)) then
    (ix s.1 s.2.2) >>= fun a =>
    (i a.x) >>= fun b =>
    if !b then
      (ix s.1 s.2.1) >>= fun j =>
      (st s.1 s.2.1 a) >>= fun c =>
      (ck (s.2.1 + 1)) >>= fun d =>
      (ck (s.2.2 + 1)) >>= fun f =>
      some (.go (c, d, f))
    else
      (ck (s.2.2 + 1)) >>= fun g =>
      some (.go (s.1, s.2.1, g))
  else
    some (.out (s.1, s.2.1, s.2.2))
def aQ_ (fuel : Nat) (c : List Pv) (i : (List Int) → Option Bool) : Option (List Pv) :=
  (ax_ (c.map fun q => q.x) i) >>= fun d =>
  if d == (-1) then
    some c
  else
    (ck (d + 1)) >>= fun j =>
    (loopF (I_ i) fuel (c, d, j)) >>= fun f =>
    match f with
    | .inl (a, b, k) =>
      (cut a b a.length) >>= fun m =>
      (cut a b a.length) >>= fun n =>
      (cut a 0 b) >>= fun g =>
      some g
    | .inr _ => none

def et_ (oo o : Tg) (w b : World) (r : List Pv) : Ending → World → Prop := fun e w' => ∃ (a : Value) (o' : Tg), e = .returned a ∧ Ow w.heap.size 41 10 o' w' a r ∧ Bs oo o' w w' ∧ Stp 10 o b o' w'
theorem eq_ (fuel : Nat) (w y : World) (oo o : Tg) (hB : Bs oo o w y) (hO : ∀ b, b < y.heap.size → o b ≠ 999) (g : Value) (a0 : List Pv) (L : Ow w.heap.size 41 10 o y g a0) (s : Value) (a1 : Yl → Option Bool) (c1 : FnV Tryz.prog w s a1) (r : List Pv) (hF : aQ_ fuel a0 a1 = some r) :
    Calls Tryz.prog 145 #[g, s] y (et_ oo o w y r) := by
 unfold aQ_ at hF; have hS : Stp 10 o y o y := Stp.refl _ _ _; refine i_ (n := 42) (vs := [g, s]) Tryz.func145 rfl rfl ?_; refine Zq (Za rfl (Ze [(0, g), (1, s)] (Zn (Zm rfl (Zm rfl ?_))))); obtain ⟨D, a2, hF⟩ := bind_some hF; refine Zo ?_; refine p_ (ex_ y _ (a0.map fun q => q.x) (sb_ L) _ a1 (c1.keep hB.keeps) D a2) Tryz.call180 ⟨rfl, rfl, trivial⟩ ?_; rintro e1 e2 ⟨rfl, c2⟩; have a3 := c2.stp 999 o; refine ⟨_, rfl, ?_⟩; replace hS := hS.tr9 hO a3; replace L := L.stp a3; replace hB := hB.stp a3; refine Za rfl (Ze [(0, g), (1, s), (5, ZI D)] (nx (a_ (Zq (Zm rfl (Zv (cE_ rfl rfl) (Ze [(0, g), (1, s), (5, ZI D), (12, (.bool (D == (-1))))] (nx ?_)))))))); refine o_ rfl (fun a4 => ?_) (fun a4 => ?_)
 ·rw [if_pos a4] at hF; refine Zq (Zm rfl (Za rfl (Ze [(4, g)] (nx (m_ (D_ ?_)))))); have c3 := Zj hF; subst c3; refine Zr Tryz.results145 [g] ?_; exact ⟨_, o, rfl, L, hB, hS⟩
 ·rw [if_neg (by rw [a4]; decide)] at hF; refine g_ (nx (a_ (Zq (Zm rfl ?_)))); obtain ⟨a5, a6, hF⟩ := bind_some hF; refine Zv (F_ rfl rfl a6) (Za rfl (Ze [(0, g), (1, s), (5, ZI D), (6, ZI a5)] (nx ?_))); obtain ⟨M, N, hF⟩ := bind_some hF; refine A_ (fun a m => ∃ (k : List Pv) (d : Int) (i : Int) (f : Tg), M = .inl (k, d, i) ∧ Fr a 42 [(0, g), (5, ZI d)] ∧ Bs oo f w m ∧ Stp 10 o y f m ∧ Ow w.heap.size 41 10 f m g k) (fun _ _ => False) ?_ ?_ ?_
  ·refine f_ ?_; refine z_ (fun (K : Nat) a m => ∃ (k : List Pv) (d : Int) (i : Int) (f : Tg), loopF (I_ a1) K (k, d, i) = some M ∧ Fr a 42 [(0, g), (1, s), (5, ZI d), (6, ZI i)] ∧ Bs oo f w m ∧ Stp 10 o y f m ∧ Ow w.heap.size 41 10 f m g k) fuel (fun a ha => ⟨a0, D, a5, o, N, ha.sub (r := [(0, g), (1, s), (5, ZI D), (6, ZI a5)]) ⟨rfl, rfl, rfl, rfl, trivial⟩, hB, hS, L⟩) ?_; rintro K20 a m ⟨k, d, i, f, a7, ha, hB, hS, j⟩; obtain ⟨K24, c4, c5, c, E⟩ := Y_ a7; dsimp only [I_] at c; refine M_ ha ?_; refine a_ (Zq (Zm rfl (Zm rfl (Zv (bM_ rfl j Tryz.underlying22) (Zv (t_ rfl rfl) (Ze [(0, g), (1, s), (5, ZI d), (6, ZI i), (19, (.bool (decide (i < (k.length : Int)))))] (nx ?_))))))); refine o_ rfl (fun F => ?_) (fun F => ?_)
   ·rw [if_pos F] at c; refine g_ (nx (a_ (f_ (Zq (Zm rfl (Zm rfl ?_)))))); obtain ⟨A, O, c⟩ := bind_some c; refine Zo ?_; refine fT_ j O rfl rfl Tryz.underlying22 Tryz.sizeOf41 ?_; intro c6 c7 c8 a8 a9; obtain ⟨rfl, -, u⟩ := a9; refine Zv (e_ rfl Tryz.isAgg41 (j_ a8)) (Za rfl (Ze [(0, g), (1, s), (5, ZI d), (6, ZI i), (7, A.v)] (Zn (Zm rfl (Zm rfl ?_))))); obtain ⟨b0, P, c⟩ := bind_some c; refine Zo ?_; refine fN_ (x := A.x) (vs := [A.v]) (c1.keep hB.keeps) P ⟨_, rfl, u.z⟩ rfl ⟨rfl, trivial⟩ ?_; intro c9 Q; have G := Q.stp 999 f; replace hS := hS.trans (Q.stp 10 f); replace j := j.stp G; replace u := u.stp G; replace hB := hB.stp G; refine Zv (ba_ rfl) (Ze [(0, g), (1, s), (5, ZI d), (6, ZI i), (7, A.v), (29, (.bool (!b0)))] (nx ?_)); refine o_ rfl (fun H => ?_) (fun H => ?_)
    ·rw [if_pos H] at c; refine Zq (Zm rfl (Zm rfl (Zm rfl ?_))); obtain ⟨d0, R, c⟩ := bind_some c; refine Zo ?_; refine fS_ j R rfl rfl Tryz.underlying22 Tryz.sizeOf41 ?_; intro d1 d2 b1 d3 b2; obtain ⟨rfl, -, d4⟩ := b2; obtain ⟨b3, S, c⟩ := bind_some c; refine ad_ trivial ?_; refine cx_ j b1 S (qJ_ u) (by decide) rfl rfl rfl Tryz.sizeOf41 u.cells1 ?_; intro d5 b4 T; replace hS := hS.trans T; replace hB := hB.stp T; refine Ze [(0, g), (1, s), (5, ZI d), (6, ZI i)] (nx (c_ (Zm rfl ?_))); obtain ⟨B, U, c⟩ := bind_some c; refine Zv (F_ rfl rfl U) (Za rfl (Ze [(0, g), (1, s), (5, ZI B), (6, ZI i)] (y_ (nx (c_ (Zm rfl ?_)))))); obtain ⟨I, V, c⟩ := bind_some c; refine Zv (F_ rfl rfl V) (Za rfl (Ze [(0, g), (1, s), (5, ZI B), (6, ZI I)] (w_ ?_))); have b5 := Zj c; subst b5; refine Zk [(0, g), (1, s), (5, ZI B), (6, ZI I)] ?_; intro a ha; exact ⟨K24, by omega, b3, B, I, f, E, ha, hB, hS, b4⟩
    ·rw [if_neg (by rw [H]; decide)] at c; refine g_ (y_ (nx (c_ (Zm rfl ?_)))); obtain ⟨J, W, c⟩ := bind_some c; refine Zv (F_ rfl rfl W) (Za rfl (Ze [(0, g), (1, s), (5, ZI d), (6, ZI J)] (w_ ?_))); have b6 := Zj c; subst b6; refine Zk [(0, g), (1, s), (5, ZI d), (6, ZI J)] ?_; intro a ha; exact ⟨K24, by omega, k, d, J, f, E, ha, hB, hS, j⟩
   ·rw [if_neg (by rw [F]; decide)] at c; refine v_ ?_; refine r_ (r_ (Q_ ?_)); refine s_ ?_; have b7 := Zj c; subst b7; refine Zk [(0, g), (5, ZI d)] ?_; intro a ha; exact ⟨k, d, i, f, E, ha, hB, hS, j⟩
  ·rintro a m ⟨k, d, i, f, rfl, ha, hB, hS, j⟩; dsimp only at hF; refine ap_k ha ?_; refine Zn (Zm rfl (Zm rfl ?_)); obtain ⟨d6, X, hF⟩ := bind_some hF; refine Zo ?_; refine iE_ j X rfl rfl Tryz.underlying22 Tryz.sizeOf41 ?_; obtain ⟨d7, Y, hF⟩ := bind_some hF; obtain ⟨d8, C, hF⟩ := bind_some hF; have b8 := nE_ j C; refine ad_ trivial ?_; refine iM_ j Y C (by decide) rfl Tryz.underlying22 Tryz.zeroValue41 ?_; intro d9 e0 b9 Z; replace hS := hS.trans Z; replace hB := hB.stp Z; refine Ze [(0, g), (5, ZI d)] (Zn (Zm rfl (Zm rfl (Zv (la_ b8 rfl rfl Tryz.underlying22 Tryz.sizeOf41) (Za rfl (Ze [(4, (prev g d.toNat))] (nx (m_ ?_)))))))); have c0 := Zj hF; subst c0; refine Zr Tryz.results145 [(prev g d.toNat)] ?_; exact ⟨_, f, rfl, b9, hB, hS⟩
  ·exact fun _ _ h => h.elim
end

section
theorem md_ (xs : List (List Int)) (f : List Int → Option Bool) (g : List Int → Bool) (hf : ∀ x, x ∈ xs → f x = some (g x)) (hl : xs.length ≤ 1000000000) :
  ax_ xs f = some ((firstP (fun k x => if g x then some (k : Int) else none) xs 0).getD (-1)) := by
 unfold ax_
 rw [G_ (by omega) (by omega), sb]
 simp only [Int.toNat_natCast]
 rw [eI_ (fun k x => if g x then some (k : Int) else none) xs (fun j x hj _ => by
  unfold aA_
  rw [ct_, hj, sb, hf x (List.mem_of_getElem? hj), sb]
  cases h : g x <;> simp [h, lpP]), sb]
 cases firstP (fun k x => if g x then some (k : Int) else none) xs 0 <;> rfl
end

section
open Go.RowKit
theorem kI_ (ps : List Pv) (G : List Int → Option Bool) (g : List Int → Bool) (hG : ∀ p ∈ ps, G p.x = some (g p.x)) (hl : ps.length ≤ 1000000000) : ∀ (d j i fuel : Nat) (L : List Pv), j + d = ps.length → d < fuel → L.length = ps.length → i ≤ j →
  L.take i = (ps.take j).filter (fun p => !g p.x) → L.drop j = ps.drop j →
  ∃ (L' : List Pv) (i' : Nat), loopF (I_ G) fuel (L, (i : Int), (j : Int)) = some (.inl (L', (i' : Int), (ps.length : Int))) ∧ L'.length = ps.length ∧ i' ≤ ps.length ∧ L'.take i' = ps.filter (fun p => !g p.x)
 | 0, j, i, fuel, L, hj, hf, hL, hi, ht, hd => by
  obtain ⟨fuel, rfl⟩ : ∃ q, fuel = q + 1 := ⟨fuel - 1, by omega⟩
  have e1 : I_ G (L, (i : Int), (j : Int)) = some (.out (L, (i : Int), (j : Int))) := by
   unfold I_
   simp only
   rw [if_neg (by simp; omega)]
  refine ⟨L, i, ?_, hL, by omega, ?_⟩
  ·simp only [loopF, e1]
   rw [show j = ps.length by omega]
  ·rw [ht, List.take_of_length_le (by omega)]
 | d + 1, j, i, fuel, L, hj, hf, hL, hi, ht, hd => by
  obtain ⟨fuel, rfl⟩ : ∃ q, fuel = q + 1 := ⟨fuel - 1, by omega⟩
  have hjl : j < ps.length := by omega
  have hx : L[j]? = some ps[j] := by
   have h1 := congrArg (fun l => l[0]?) hd
   simp only [List.getElem?_drop, Nat.add_zero] at h1
   rw [h1, List.getElem?_eq_getElem hjl]
  have hdr : L.drop (j + 1) = ps.drop (j + 1) := by
   have h1 := congrArg (List.drop 1) hd
   rw [List.drop_drop, List.drop_drop] at h1
   exact h1
  have htk : (ps.take (j + 1)).filter (fun p => !g p.x) = (ps.take j).filter (fun p => !g p.x) ++ (if g ps[j].x then [] else [ps[j]]) := by
   rw [List.take_add_one, List.filter_append, List.getElem?_eq_getElem hjl]
   cases h : g ps[j].x <;> simp [h]
  have hix : ix L (j : Int) = some ps[j] := by unfold ix; rw [if_pos (by omega), Int.toNat_natCast, hx]
  cases hg : g ps[j].x
  ·have e1 : I_ G (L, (i : Int), (j : Int)) = some (.go (L.set i ps[j], ((i + 1 : Nat) : Int), ((j + 1 : Nat) : Int))) := by
    unfold I_
    simp only
    rw [if_pos (by simp; omega), hix, sb, hG _ (List.getElem_mem hjl), sb, hg, if_pos (by simp)]
    have h1 : ix L (i : Int) = some (L[i]'(by omega)) := by unfold ix; rw [if_pos (by omega), Int.toNat_natCast, List.getElem?_eq_getElem]
    have h2 : st L (i : Int) ps[j] = some (L.set i ps[j]) := by unfold st; rw [if_pos (by omega), Int.toNat_natCast]
    rw [h1, sb, h2, sb, G_ (by omega) (by omega), sb, G_ (by omega) (by omega), sb]
    rfl
   have := kI_ ps G g hG hl d (j + 1) (i + 1) fuel (L.set i ps[j]) (by omega) (by omega) (by rw [List.length_set]; exact hL) (by omega) (by
    rw [htk, hg, ← ht, List.take_set, List.take_add_one, List.getElem?_eq_getElem (show i < L.length by omega)]
    refine List.ext_getElem? fun q => ?_
    rw [List.getElem?_set]
    by_cases hq : i = q
    ·subst hq
     have : (L.take i).length = i := by rw [List.length_take]; omega
     rw [if_pos rfl, if_pos (by simp; omega), List.getElem?_append_right (by omega), this]; simp
    ·rw [if_neg hq]
     by_cases hq2 : q < i
     ·rw [List.getElem?_append_left (by rw [List.length_take]; omega), List.getElem?_append_left (by rw [List.length_take]; omega)]
     ·rw [List.getElem?_eq_none (by simp; omega), List.getElem?_eq_none (by simp; omega)]) (by
    rw [List.drop_set_of_lt (by omega)]; exact hdr)
   obtain ⟨L', i', g1, g2⟩ := this
   exact ⟨L', i', by simp only [loopF, e1]; exact g1, g2⟩
  ·have e1 : I_ G (L, (i : Int), (j : Int)) = some (.go (L, (i : Int), ((j + 1 : Nat) : Int))) := by
    unfold I_
    simp only
    rw [if_pos (by simp; omega), hix, sb, hG _ (List.getElem_mem hjl), sb, hg, if_neg (by simp), G_ (by omega) (by omega), sb]
    rfl
   have := kI_ ps G g hG hl d (j + 1) i fuel L (by omega) (by omega) hL (by omega) (by rw [htk, hg, ht]; simp) hdr
   obtain ⟨L', i', g1, g2⟩ := this
   exact ⟨L', i', by simp only [loopF, e1]; exact g1, g2⟩
theorem sk_ (fuel : Nat) (ps : List Pv) (G : List Int → Option Bool) (g : List Int → Bool) (hG : ∀ p ∈ ps, G p.x = some (g p.x)) (hl : ps.length ≤ 1000000000) (hf : ps.length < fuel) : aQ_ fuel ps G = some (ps.filter fun p => !g p.x) := by
 unfold aQ_
 rw [md_ (ps.map fun q => q.x) G g (fun x hx => by
  obtain ⟨p, hp, rfl⟩ := List.mem_map.1 hx
  exact hG p hp) (by rw [List.length_map]; exact hl), sb]
 cases hc : firstP (fun k x => if g x then some (k : Int) else none) (ps.map fun q => q.x) 0 with
 | none =>
  have hall := cc_.1 hc
  rw [Option.getD_none, if_pos (by rfl)]
  congr 1
  refine (List.filter_eq_self.2 fun p hp => ?_).symm
  obtain ⟨j, hj⟩ := List.getElem?_of_mem hp
  have := hall j p.x (by rw [List.getElem?_map, hj]; rfl)
  cases h : g p.x
  ·rfl
  ·rw [h] at this; simp at this
 | some r =>
  have hmin : ∃ k : Nat, r = (k : Int) ∧ k < ps.length ∧ ∀ (i : Nat) p, i < k → ps[i]? = some p → g p.x = false := by
   clear hG hl hf
   have key : ∀ (xs : List Pv) (k : Nat) (r : Int), firstP (fun k x => if g x then some (k : Int) else none) (xs.map fun q => q.x) k = some r → ∃ m : Nat, r = ((k + m : Nat) : Int) ∧ m < xs.length ∧ ∀ (i : Nat) p, i < m → xs[i]? = some p → g p.x = false := by
    intro xs
    induction xs with
    | nil => intro k r h; cases h
    | cons x xs ih =>
     intro k r h
     simp only [List.map_cons, firstP] at h
     cases hg : g x.x
     ·rw [hg] at h
      simp only [Bool.false_eq_true, if_false] at h
      obtain ⟨m, h1, h2, h3⟩ := ih (k + 1) r h
      refine ⟨m + 1, by rw [h1]; congr 1; omega, by rw [List.length_cons]; omega, fun i p hi hp => ?_⟩
      cases i with
      | zero => simp at hp; subst hp; exact hg
      | succ i => exact h3 i p (by omega) (by simpa using hp)
     ·rw [hg] at h
      simp only [if_true, Option.some.injEq] at h
      exact ⟨0, by rw [← h]; rfl, by simp, fun i p hi => absurd hi (by omega)⟩
   obtain ⟨m, h1, h2, h3⟩ := key ps 0 r hc
   exact ⟨m, by rw [h1, Nat.zero_add], h2, h3⟩
  obtain ⟨k, rfl, hk, hno⟩ := hmin
  have hgk : g ps[k].x = true := by
   obtain ⟨j, x, h1, h2⟩ := cw_ hc
   rw [Nat.zero_add] at h2
   split at h2
   ·rename_i hg
    cases h2
    rw [List.getElem?_map, List.getElem?_eq_getElem hk] at h1
    cases h1
    exact hg
   ·cases h2
  have hpre : (ps.take k).filter (fun p => !g p.x) = ps.take k := List.filter_eq_self.2 fun p hp => by
   obtain ⟨i, hi⟩ := List.getElem?_of_mem hp
   rw [List.getElem?_take] at hi
   split at hi
   ·rename_i hik
    rw [hno i p hik hi]; rfl
   ·cases hi
  have hpre2 : (ps.take (k + 1)).filter (fun p => !g p.x) = ps.take k := by
   rw [List.take_add_one, List.filter_append, hpre, List.getElem?_eq_getElem hk]
   simp [hgk]
  obtain ⟨L', i', g1, g2, g3, g4⟩ := kI_ ps G g hG hl (ps.length - (k + 1)) (k + 1) k fuel ps (by omega) (by omega) rfl (by omega) hpre2.symm rfl
  rw [Option.getD_some, if_neg (by simp), G_ (by omega) (by omega), sb, show ((k : Int) + 1) = ((k + 1 : Nat) : Int) by omega, g1, sb]
  have c1 : cut L' (i' : Int) L'.length = some (L'.drop i') := by
   unfold cut
   rw [if_pos (by omega)]; simp
  have c2 : cut L' 0 (i' : Int) = some (L'.take i') := by
   unfold cut
   rw [if_pos (by omega)]; simp
  simp only
  rw [c1, sb, sb, c2, sb, g4]
def delL (G : List Int → Option Bool) (xs : List (List Int)) : Option (List (List Int)) := if (decide (xs.length ≤ 1000000000) && xs.all fun x => (G x).isSome) = true then some (xs.filter fun x => (G x).getD true == false) else none
def apD (a b : Pv) : Prop := ∀ g, a.v.ownBlock = some g → b.v.ownBlock ≠ some g
def sl3 (w : World) (G : Nat) : World := { w with heap := w.heap.extract 0 G }
set_option maxRecDepth 100000 in
set_option maxHeartbeats 2000000 in
theorem qY_ {k kr : Nat} {o : Tg} {wB w : World} {v u : Value} {vs : List Hv} {xs ys : List (List Int)} {G : List Int → Option Bool} (h : Ow wB.heap.size 41 k o w v vs) (hr : Rws wB.heap.size 3 kr o w vs xs) (hKp : Keeps wB w) (hfn : FnV Tryz.prog wB u G) (hk : k ≠ 0) (hkr : kr ≠ 0) (hne : kr ≠ k) (hF : delL G xs = some ys) :
  Calls Tryz.prog 145 #[v, u] w fun e w' => ∃ v' vs' o', e = .returned v' ∧ Ow wB.heap.size 41 k o' w' v' vs' ∧ Rws wB.heap.size 3 kr o' w' vs' ys ∧ Stp k o w o' w' := by
 unfold delL at hF
 split at hF
 rotate_left
 ·cases hF
 rename_i hcond
 rw [Bool.and_eq_true, decide_eq_true_eq, List.all_eq_true] at hcond
 obtain ⟨hl, hsome⟩ := hcond
 cases hF
 have hB : wB.heap.size ≤ w.heap.size := hKp.size
 -- the rows under their values
 obtain ⟨r1, r2, r3⟩ := hr
 let ps : List Pv := List.zipWith (fun u x => (⟨u.v, x⟩ : Pv)) vs xs
 have hpl : ps.length = xs.length := by show (List.zipWith _ vs xs).length = _; rw [List.length_zipWith, r1, Nat.min_self]
 have hpi : ∀ (i : Nat) (u : Hv) (x : List Int), vs[i]? = some u → xs[i]? = some x → ps[i]? = some (⟨u.v, x⟩ : Pv) := fun i u x a b => by
  show (List.zipWith _ vs xs)[i]? = _
  rw [List.getElem?_zipWith, a, b]
 have hpx : ps.map (·.x) = xs := by
  apply List.ext_getElem?
  intro i
  by_cases hi : i < xs.length
  ·rw [List.getElem?_map, hpi i (vs[i]'(by omega)) xs[i] (List.getElem?_eq_getElem (by omega)) (List.getElem?_eq_getElem hi), List.getElem?_eq_getElem hi]; rfl
  ·rw [List.getElem?_eq_none (by rw [List.length_map, hpl]; omega), List.getElem?_eq_none (by omega)]
 have hpe : ∀ (i : Nat) (p : Pv), ps[i]? = some p → vs[i]? = some (⟨p.v⟩ : Hv) ∧ xs[i]? = some p.x := fun i p hp => by
  have hi : i < xs.length := by have := (List.getElem?_eq_some_iff.1 hp).1; omega
  have := hpi i (vs[i]'(by omega)) xs[i] (List.getElem?_eq_getElem (by omega)) (List.getElem?_eq_getElem hi)
  rw [hp] at this
  cases this
  exact ⟨List.getElem?_eq_getElem (by omega), List.getElem?_eq_getElem hi⟩
 have hrow : ∀ p ∈ ps, Ow wB.heap.size 3 kr o w p.v p.x := fun p hp => by
  obtain ⟨i, hi⟩ := List.getElem?_of_mem hp
  obtain ⟨a, b⟩ := hpe i p hi
  exact r2 i ⟨p.v⟩ p.x a b
 have hpin : ∀ p ∈ ps, p.x ∈ xs := fun p hp => by rw [← hpx]; exact List.mem_map.2 ⟨p, hp, rfl⟩
 have hG : ∀ p ∈ ps, G p.x = some ((G p.x).getD true) := fun p hp => by
  have := hsome p.x (hpin p hp)
  cases hg : G p.x with
  | none => rw [hg] at this; cases this
  | some b => rfl
 have hap : ps.Pairwise apD := by
  rw [List.pairwise_iff_getElem]
  intro i j hi hj hij g h1 h2
  obtain ⟨a1, b1⟩ := hpe i _ (List.getElem?_eq_getElem hi)
  obtain ⟨a2, b2⟩ := hpe j _ (List.getElem?_eq_getElem hj)
  have := r3 i j _ _ g a1 a2 h1 h2
  omega
 let o2 : Tg := frz kr o
 have ho2 : ∀ b, o b = k → o2 b = k := fun b hb => by show (if o b = kr then 0 else o b) = k; rw [hb, if_neg (Ne.symm hne)]
 have ho2' : ∀ b, o2 b = k → o b = k := fun b hb => by
  have hb : (if o b = kr then 0 else o b) = k := hb
  split at hb
  ·exact absurd hb.symm hk
  ·exact hb
 have hrd2 : ∀ p ∈ ps, RdL o2 w p.v p.x := fun p hp => (hrow p hp).frz
 have hsp1 : Ow wB.heap.size 41 k o2 w v ps := by
  obtain ⟨css, c1, c2, c3, c4⟩ := h
  refine ⟨css, by rw [c1, r1, hpl], ?_, fun g hg => ho2 g (c3 g hg), fun i cs p hc hp => ?_⟩
  ·rw [hpl, ← r1]; exact c2
  ·obtain ⟨a, b⟩ := hpe i p hp
   obtain ⟨q1, q2⟩ := c4 i cs _ hc a
   exact ⟨q1, q2, hrd2 p (List.mem_of_getElem? hp)⟩
 clear h r2 r3
 -- as the call sees it
 let Gb : Nat := match v.ownBlock with | some g => g | none => w.heap.size
 let wb : World := sl3 w Gb
 let oo : Tg := fun b => if o2 b = 0 then 0 else 1
 let o10 : Tg := fun b => if v.ownBlock = some b then 10 else if o2 b = 0 then 0 else 1
 have hGw : Gb ≤ w.heap.size := by
  show (match v.ownBlock with | some g => g | none => w.heap.size) ≤ _
  cases hv : v.ownBlock with
  | none => exact Nat.le_refl _
  | some g => exact Nat.le_of_lt (hsp1.ltw g hv).2
 have hBG : wB.heap.size ≤ Gb := by
  show wB.heap.size ≤ (match v.ownBlock with | some g => g | none => w.heap.size)
  cases hv : v.ownBlock with
  | none => exact hB
  | some g => exact (hsp1.ltw g hv).1
 have hwb : wb.heap.size = Gb := by show (w.heap.extract 0 Gb).size = Gb; simp; omega
 have hog : ∀ g, v.ownBlock = some g → o2 g = k := hsp1.tagged
 have hKb : Keeps wB wb := by
  refine ⟨hKp.os, hKp.tape, hKp.output, by rw [hwb]; exact hBG, fun b hb => ?_⟩
  show (w.heap.extract 0 Gb)[b]? = wB.heap[b]?
  rw [Array.getElem?_extract, if_pos (by omega), Nat.zero_add]
  exact hKp.block b hb
 have hBs : Bs oo o10 wb w := by
  refine ⟨⟨rfl, rfl, rfl, by rw [hwb]; exact hGw, fun b hb => ?_⟩, fun b hb => ?_⟩
  ·show w.heap[b]? = (w.heap.extract 0 Gb)[b]?
   rw [Array.getElem?_extract]
   rw [hwb] at hb
   rw [if_pos (by omega)]; simp
  ·rw [hwb] at hb
   show (if v.ownBlock = some b then 10 else if o2 b = 0 then 0 else 1) = if (if o2 b = 0 then 0 else 1) = 0 then 0 else 1
   rw [if_neg (fun e => by
    have : Gb = b := by show (match v.ownBlock with | some g => g | none => w.heap.size) = b; rw [e]
    omega)]
   split <;> simp
 have hO : ∀ b, b < w.heap.size → o10 b ≠ 999 := fun b _ => by
  show (if v.ownBlock = some b then 10 else if o2 b = 0 then 0 else 1) ≠ 999
  split
  ·decide
  ·split <;> decide
 have h10 : ∀ b, o2 b = 0 → o10 b = 0 := fun b hb => by
  show (if v.ownBlock = some b then 10 else if o2 b = 0 then 0 else 1) = 0
  rw [if_neg (fun e => by have := hog b e; rw [hb] at this; exact hk this.symm), if_pos hb]
 have hsp2 : Ow wb.heap.size 41 10 o10 w v ps := by
  obtain ⟨css, c1, c2, c3, c4⟩ := hsp1
  refine ⟨css, c1, ⟨c2.1, ?_⟩, fun g hg => if_pos hg, fun i cs p hc hp => ?_⟩
  ·rcases c2.2 with q | ⟨g, cap, cur, rfl, q⟩
   ·exact .inl q
   ·refine .inr ⟨g, cap, cur, rfl, ?_, q.2⟩
    rw [hwb]
    exact Nat.le_refl _
  ·obtain ⟨q1, q2, q3⟩ := c4 i cs p hc hp
   exact ⟨q1, q2, q3.mv (Nat.le_refl _) fun b _ hb => ⟨rfl, h10 b hb⟩⟩
 refine (eq_ 1000000001 wb w oo o10 hBs hO v ps hsp2 u G (hfn.keep hKb) _ (sk_ 1000000001 ps G (fun x => (G x).getD true) hG (by omega) (by omega))).mono ?_
 rintro e2 w2 ⟨v2, o3, rfl, hsp3, hBs3, hst2⟩
 -- what is left
 have hxs : (ps.filter fun p => !(G p.x).getD true).map (·.x) = xs.filter fun x => (G x).getD true == false := by
  rw [← hpx, List.filter_map]
  congr 1
  refine List.filter_congr fun p _ => ?_
  show (!(G p.x).getD true) = ((G p.x).getD true == false)
  cases (G p.x).getD true <;> rfl
 have hsub : (ps.filter fun p => !(G p.x).getD true).Sublist ps := List.filter_sublist
 generalize (ps.filter fun p => !(G p.x).getD true) = r at hsp3 hxs hsub
 have hmem : ∀ p ∈ r, p ∈ ps := fun p hp => hsub.subset hp
 let o' : Tg := fun b => if b < w.heap.size then o b else if o3 b = 10 then k else 0
 have hstep : Stp k o w o' w2 := by
  refine ⟨hst2.os, hst2.tape, hst2.output, hst2.size, fun b hb hnk => ?_, fun b hb => if_pos hb⟩
  exact hst2.block b hb (fun e => by
   have e : (if v.ownBlock = some b then 10 else if o2 b = 0 then 0 else 1) = 10 := e
   split at e
   ·rename_i hv
    exact hnk (ho2' b (hog b hv))
   ·split at e <;> cases e)
 have hrow2 : ∀ p ∈ r, Ow wB.heap.size 3 kr o' w2 p.v p.x := fun p hp => (hrow p (hmem p hp)).stp hstep hk hne
 have hapr : r.Pairwise apD := hap.sublist hsub
 refine ⟨v2, r.map fun p => ⟨p.v⟩, o', rfl, ?_, ⟨?_, ?_, ?_⟩, hstep⟩
 ·obtain ⟨css, c1, c2, c3, c4⟩ := hsp3
  refine ⟨css, by simpa using c1, ?_, fun g hg => ?_, fun i cs u hc hu => ?_⟩
  ·rw [List.length_map]
   obtain ⟨q1, q2⟩ := c2
   refine ⟨q1, ?_⟩
   rcases q2 with q2 | ⟨g, cap, cur, e, q3, q4⟩
   ·exact .inl q2
   ·rw [hwb] at q3
    exact .inr ⟨g, cap, cur, e, Nat.le_trans hBG q3, q4⟩
  ·have e3 := c3 g hg
   show (if g < w.heap.size then o g else if o3 g = 10 then k else 0) = k
   split
   ·rename_i hgl
    have e4 := hst2.own g hgl
    rw [e3] at e4
    have e5 : (if v.ownBlock = some g then 10 else if o2 g = 0 then 0 else 1) = 10 := e4.symm
    split at e5
    ·rename_i hv
     exact ho2' g (hog g hv)
    ·split at e5 <;> cases e5
   ·simp
  ·rw [List.getElem?_map] at hu
   cases hp : r[i]? with
   | none => rw [hp] at hu; cases hu
   | some p =>
    rw [hp] at hu
    cases hu
    obtain ⟨q1, q2, _⟩ := c4 i cs p hc hp
    exact ⟨q1, q2⟩
 ·rw [List.length_map, ← hxs, List.length_map]
 ·intro i u x hu hx
  rw [List.getElem?_map] at hu
  rw [← hxs, List.getElem?_map] at hx
  cases hp : r[i]? with
  | none => rw [hp] at hu; cases hu
  | some p =>
   rw [hp] at hu hx
   cases hu; cases hx
   exact hrow2 p (List.mem_of_getElem? hp)
 ·intro i j u u' g hu hu' h1 h2
  rw [List.getElem?_map] at hu hu'
  cases hp : r[i]? with
  | none => rw [hp] at hu; cases hu
  | some p =>
   cases hq : r[j]? with
   | none => rw [hq] at hu'; cases hu'
   | some q =>
    rw [hp] at hu
    rw [hq] at hu'
    cases hu; cases hu'
    obtain ⟨hi, ei⟩ := List.getElem?_eq_some_iff.1 hp
    obtain ⟨hj, ej⟩ := List.getElem?_eq_some_iff.1 hq
    have hpw := List.pairwise_iff_getElem.1 hapr
    rcases Nat.lt_trichotomy i j with hlt | heq | hgt
    ·have := hpw i j hi hj hlt g
     rw [ei, ej] at this
     exact absurd h2 (this h1)
    ·exact heq
    ·have := hpw j i hj hi hgt g
     rw [ei, ej] at this
     exact absurd h1 (this h2)
end

end Go.Proofs.YtdbbeldgdgonfaaGreat
