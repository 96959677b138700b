/- Part 15 of what this claim rests on (GFch, Efc, Gro, GIx, Kpw, GDef, Ifl, Del), packed by pack.py. -/
import Derived.Test.YtdbbeldgdgonfaaGreatP03
import Derived.Test.YtdbbeldgdgonfaaGreatP04
import Derived.Test.YtdbbeldgdgonfaaGreatP05
import Derived.Test.YtdbbeldgdgonfaaGreatP06
import Derived.Test.YtdbbeldgdgonfaaGreatP09
import Derived.Test.YtdbbeldgdgonfaaGreatP10
namespace Go.Proofs.YtdbbeldgdgonfaaGreat
set_option linter.unusedSimpArgs false
set_option linter.unusedVariables false

section
set_option maxRecDepth 100000
set_option maxHeartbeats 2000000
open Go.RowKit
theorem iG_ : Inf Tryz.prog 3 (.int .i64 0) 1 8 := by unfold Inf; kernel_rfl

def aC_ (p0 : Int) (p1 : List (List Int)) (p2 : (List Int) → Option Bool) (self : Int → (List (List Int)) → ((List Int) → Option Bool) → (List Int) → Option (Bool × List Int)) : Int → Int → (List Int) → Option (Lp (List Int) (List Int) (Bool × List Int)) := fun (i19 : Int) (x29 : Int) (s : List Int) =>
  (ix s p0) >>= fun x35 =>
  (st s p0 x29) >>= fun x44 =>
  (ck (p0 + 1)) >>= fun x46 =>
  (self x46 p1 p2 x44) >>= fun x47 =>
  if x47.1 then
    some (.ret (true, x47.2))
  else
    some (.go x47.2)
def ac_ : Nat → Int → (List (List Int)) → ((List Int) → Option Bool) → (List Int) → Option (Bool × List Int)
  | 0 => fun _ _ _ _ => none
  | fuel + 1 => fun p0 p1 p2 p3 =>
    if p0 == (p1.length : Int) then
      (p2 p3) >>= fun x2 =>
      some (x2, p3)
    else
      (ix p1 p0) >>= fun x7 =>
      (forI (aC_ p0 p1 p2 (ac_ fuel)) x7 0 p3) >>= fun q20 =>
      match q20 with
      | .inl y15 =>
        some (false, y15)
      | .inr r' => some r'

def fE_ (oo o : Tg) (w w1 : World) (u : Value) (r : Bool × List Int) : Ending → World → Prop := fun e w' => ∃ (o' : Tg), e = .returned (.bool r.1) ∧ Ow w.heap.size 3 13 o' w' u r.2 ∧ Bs oo o' w w' ∧ Stp 13 o w1 o' w'
theorem hT_ (fuel : Nat) : ∀ (w : World) (w1 : World) (oo o : Tg) (hB : Bs oo o w w1) (p0 : Int) (b1 : Nat) (u1 : Value) (p1 : List (List Int)) (cb1 : Bx w.heap.size 11 o w1 b1 22 [u1]) (g1 : RdL zt w u1 p1) (b2 : Nat) (u2 : Value) (p2 : (List Int) → Option Bool) (cb2 : Bx w.heap.size 12 o w1 b2 97 [u2]) (g2 : FnV Tryz.prog w u2 p2) (b3 : Nat) (u3 : Value) (p3 : List Int) (cb3 : Bx w.heap.size 14 o w1 b3 41 [u3]) (g3 : Ow w.heap.size 3 13 o w1 u3 p3) (b4 : Nat) (cb4 : Bx w.heap.size 15 o w1 b4 64 [(.func (.func 181) #[] #[(.pointer (some ⟨b1, 0, none⟩)), (.pointer (some ⟨b2, 0, none⟩)), (.pointer (some ⟨b3, 0, none⟩)), (.pointer (some ⟨b4, 0, none⟩))])]) (r : Bool × List Int) (hF : ac_ fuel p0 p1 p2 p3 = some r), Calls Tryz.prog 181 #[.int .i64 p0, .pointer (some ⟨b1, 0, none⟩), .pointer (some ⟨b2, 0, none⟩), .pointer (some ⟨b3, 0, none⟩), .pointer (some ⟨b4, 0, none⟩)] w1 (fE_ oo o w w1 u3 r) := by
 induction fuel with
 | zero =>
  intro w w1 oo o hB p0 b1 u1 p1 cb1 g1 b2 u2 p2 cb2 g2 b3 u3 p3 cb3 g3 b4 cb4 r hF; unfold ac_ at hF; cases hF
 | succ fuel ih =>
  intro w w1 oo o hB p0 b1 u1 p1 cb1 g1 b2 u2 p2 cb2 g2 b3 u3 p3 cb3 g3 b4 cb4 r hF; unfold ac_ at hF; have hS : Stp 13 o w1 o w1 := Stp.refl _ _ _; refine h_ (n := 34) (vs := [(ZI p0), (ZP b1), (ZP b2), (ZP b3), (ZP b4)]) Tryz.func181 rfl rfl ?_; refine Zq (Za rfl (Ze [(0, ZI p0), (1, ZP b1), (2, ZP b2), (3, ZP b3), (4, ZP b4)] (nx (b_ (Zq (Zm rfl (Zv (e_ rfl Tryz.isAgg22 (cb1.cell rfl)) (Zv (F_ rfl g1 Tryz.underlying22) (Zv (ds_ rfl rfl) (Ze [(0, ZI p0), (1, ZP b1), (2, ZP b2), (3, ZP b3), (4, ZP b4), (12, (.bool (p0 == (p1.length : Int))))] (nx ?_))))))))))); refine l_ rfl (fun t1 => ?_) (fun t1 => ?_)
  ·rw [if_pos t1] at hF; refine Zq (Zv (e_ rfl Tryz.isAgg97 (cb2.cell rfl)) (Zv (e_ rfl Tryz.isAgg41 (cb3.cell rfl)) ?_)); obtain ⟨x2, hx2, hF⟩ := bind_some hF; refine Zo ?_; refine fA_ (x := p3) (vs := [u3]) (g2.keep hB.keeps) hx2 ⟨_, rfl, g3.z⟩ rfl ⟨rfl, trivial⟩ ?_; intro w3 k4; have s5 := k4.stp 999 o; replace hS := hS.trans (k4.stp 13 o); replace g3 := g3.stp s5; replace cb1 := cb1.stp s5; replace cb2 := cb2.stp s5; replace cb3 := cb3.stp s5; replace cb4 := cb4.stp s5; replace hB := hB.stp s5; refine Za rfl (Ze [(6, (.bool x2))] (nx (j_ (A_ ?_)))); have e6 := Option.some.inj hF; subst e6; refine Zr Tryz.results181 [(.bool x2)] ?_; exact ⟨o, rfl, g3, hB, hS⟩
  ·rw [if_neg (by rw [t1]; decide)] at hF; refine f_ (nx (b_ (Zq (Zv (e_ rfl Tryz.isAgg22 (cb1.cell rfl)) (Zm rfl ?_))))); obtain ⟨x7, hx7, hF⟩ := bind_some hF; refine Zo ?_; refine wf_atZ g1 hx7 hB rfl rfl Tryz.underlying22 Tryz.sizeOf41 ?_; intro b8 f9 c10 h11 h12; obtain ⟨v13, rfl, h14⟩ := h12; refine Zv (e_ rfl Tryz.isAgg41 (i_ h11)) (Zv (F_ rfl h14 Tryz.underlying41) (Zm rfl (Ze [(0, ZI p0), (3, ZP b3), (4, ZP b4), (19, v13), (20, (ZI (x7.length : Int))), (21, ZI 0)] (nx ?_)))); obtain ⟨q20, hq20, hF⟩ := bind_some hF; refine z_ (fun a w18 => ∃ (y15 : List Int) (o17 : Tg), q20 = .inl y15 ∧ Fr a 34 [] ∧ Bs oo o17 w w18 ∧ Stp 13 o w1 o17 w18 ∧ Bx w.heap.size 15 o17 w18 b4 64 [(.func (.func 181) #[] #[(ZP b1), (ZP b2), (ZP b3), (ZP b4)])] ∧ Bx w.heap.size 14 o17 w18 b3 41 [u3] ∧ Ow w.heap.size 3 13 o17 w18 u3 y15 ∧ Bx w.heap.size 12 o17 w18 b2 97 [u2] ∧ Bx w.heap.size 11 o17 w18 b1 22 [u1]) (fun a w' => ∃ r', q20 = .inr r' ∧ bodyPost Tryz.prog Tryz.f181 (fE_ oo o w w1 u3 r') .ret a w') ?_ ?_ ?_
   ·refine d_ ?_; refine y_ (fun (K : Nat) a w18 => ∃ (i19 : Int) (y15 : List Int) (o17 : Tg), forI (aC_ p0 p1 p2 (ac_ fuel)) (x7.drop i19.toNat) i19 y15 = some q20 ∧ (x7.drop i19.toNat).length = K ∧ 0 ≤ i19 ∧ Fr a 34 [(0, ZI p0), (3, ZP b3), (4, ZP b4), (19, v13), (20, (ZI (x7.length : Int))), (21, ZI i19)] ∧ Bs oo o17 w w18 ∧ Stp 13 o w1 o17 w18 ∧ Bx w.heap.size 15 o17 w18 b4 64 [(.func (.func 181) #[] #[(ZP b1), (ZP b2), (ZP b3), (ZP b4)])] ∧ Bx w.heap.size 14 o17 w18 b3 41 [u3] ∧ Ow w.heap.size 3 13 o17 w18 u3 y15 ∧ Bx w.heap.size 12 o17 w18 b2 97 [u2] ∧ Bx w.heap.size 11 o17 w18 b1 22 [u1]) _ (fun a ha => ⟨0, p3, o, hq20, rfl, Int.le_refl 0, ha.sub (r := [(0, ZI p0), (3, ZP b3), (4, ZP b4), (19, v13), (20, (ZI (x7.length : Int))), (21, ZI 0)]) ⟨rfl, rfl, rfl, rfl, rfl, rfl, trivial⟩, hB, hS, cb4, cb3, g3, cb2, cb1⟩) ?_; rintro K24 a w18 ⟨i19, y15, o17, l21, m23, z22, ha, hB, hS, cb4, cb3, h16, cb2, cb1⟩; by_cases t28 : i19 < (x7.length : Int)
    ·obtain ⟨x29, q25, hx29, b26, n27⟩ := V_ z22 t28 l21; have hle := h14.len_le; dsimp only [aC_] at b26; refine L_ ha ?_; refine Zq (Zv (r_ rfl rfl) (Ze [(0, ZI p0), (3, ZP b3), (4, ZP b4), (19, v13), (20, (ZI (x7.length : Int))), (21, ZI i19), (22, (.bool (decide (i19 < (x7.length : Int)))))] (nx (b_ ?_)))); refine P_ (congrArg (fun b => some (Value.bool b)) (decide_eq_true t28)) ?_; refine f_ (nx (b_ (d_ (Zq (Zo ?_))))); refine wf_atZ h14 hx29 hB rfl rfl Tryz.underlying41 Tryz.sizeOf3 ?_; intro b30 f31 c32 h33 h34; cases h34
     refine Zv (e_ rfl Tryz.isAgg3 (i_ h33)) (Za rfl (Ze [(0, ZI p0), (3, ZP b3), (4, ZP b4), (8, ZI x29), (19, v13), (20, (ZI (x7.length : Int))), (21, ZI i19)] (Zn (Zv (e_ rfl Tryz.isAgg41 (cb3.cell rfl)) (Zm rfl (Zm rfl ?_)))))); obtain ⟨x35, hx35, b26⟩ := bind_some b26; refine Zo ?_; refine ge_ h16 hx35 rfl rfl Tryz.underlying41 Tryz.sizeOf3 ?_; intro b36 c38 h41 h39 h40; cases h40
     obtain ⟨x44, hx44, b26⟩ := bind_some b26; refine ak_ trivial ?_; refine cG_ h16 h41 hx44 rfl (by decide) rfl rfl rfl Tryz.sizeOf3 rfl ?_; intro w42 h45 s43; replace hS := hS.trans s43; replace cb1 := cb1.stp s43; replace cb2 := cb2.stp s43; replace cb3 := cb3.stp s43; replace cb4 := cb4.stp s43; replace hB := hB.stp s43; refine Ze [(0, ZI p0), (3, ZP b3), (4, ZP b4), (19, v13), (20, (ZI (x7.length : Int))), (21, ZI i19)] (Zn (Zv (e_ rfl Tryz.isAgg64 (cb4.cell rfl)) (Zm rfl ?_))); obtain ⟨x46, hx46, b26⟩ := bind_some b26; refine Zv (B_ rfl rfl hx46) ?_; obtain ⟨x47, hx47, b26⟩ := bind_some b26; refine Zo ?_; refine ia_ (vs := [(ZI x46)]) (cap := [(ZP b1), (ZP b2), (ZP b3), (ZP b4)]) (ih w w42 oo o17 hB x46 b1 u1 p1 cb1 g1 b2 u2 p2 cb2 g2 b3 u3 x44 cb3 h45 b4 cb4 x47 hx47) Tryz.call181 rfl ⟨rfl, trivial⟩ ?_; rintro e50 w48 ⟨o49, rfl, h51, -, s52⟩; refine ⟨_, rfl, ?_⟩; replace hS := hS.trans s52; replace cb1 := cb1.stp s52; replace cb2 := cb2.stp s52; replace cb3 := cb3.stp s52; replace cb4 := cb4.stp s52; replace hB := hB.stp s52; refine Ze [(0, ZI p0), (3, ZP b3), (4, ZP b4), (19, v13), (20, (ZI (x7.length : Int))), (21, ZI i19), (32, (.bool x47.1))] (nx ?_); refine l_ rfl (fun t53 => ?_) (fun t53 => ?_)
     ·rw [if_pos t53] at b26; refine Zq (Za rfl (Ze [(6, (.bool true))] (nx (j_ (aa_ (A_ (A_ (aa_ ?_)))))))); refine bu_ ?_; have e54 := Option.some.inj b26; subst e54; refine fun a ha => ⟨_, n27, ?_⟩; refine D_ (P := Tryz.prog) (vs := [(.bool true)]) Tryz.results181 ⟨rfl, trivial⟩ ?_ a ha; exact ⟨o49, rfl, h51, hB, hS⟩
     ·rw [if_neg (by rw [t53]; decide)] at b26; refine f_ (x_ (nx (c_ (Zv (B_ rfl rfl (C_ (by omega) (by omega))) (Zm rfl (Ze [(0, ZI p0), (3, ZP b3), (4, ZP b4), (19, v13), (20, (ZI (x7.length : Int))), (21, (ZI (i19 + 1)))] (v_ ?_))))))); have e55 := Option.some.inj b26; subst e55; refine Zk [(0, ZI p0), (3, ZP b3), (4, ZP b4), (19, v13), (20, (ZI (x7.length : Int))), (21, (ZI (i19 + 1)))] ?_; intro a ha; exact ⟨_, (by rw [← m23]; simp only [List.length_drop]; omega), i19 + 1, x47.2, o49, n27, rfl, (by omega), ha, hB, hS, cb4, cb3, h51, cb2, cb1⟩
    ·have r56 := W_ t28 l21; refine L_ ha ?_; refine Zq (Zv (r_ rfl rfl) (Ze [(0, ZI p0), (3, ZP b3), (4, ZP b4), (19, v13), (20, (ZI (x7.length : Int))), (21, ZI i19), (22, (.bool (decide (i19 < (x7.length : Int)))))] (nx (b_ ?_)))); refine H_ (congrArg (fun b => some (Value.bool b)) (decide_eq_false t28)) ?_; refine u_ ?_; refine m_ (m_ (R_ ?_)); refine p_ ?_; refine Zk [] ?_; intro a ha; exact ⟨y15, o17, r56, ha, hB, hS, cb4, cb3, h16, cb2, cb1⟩
   ·rintro a w18 ⟨y15, o17, rfl, ha, hB, hS, cb4, cb3, h16, cb2, cb1⟩; dsimp only at hF; refine ap_k ha ?_; refine Zn (Za rfl (Ze [(6, (.bool false))] (nx (j_ ?_)))); have e57 := Option.some.inj hF; subst e57; refine Zr Tryz.results181 [(.bool false)] ?_; exact ⟨o17, rfl, h16, hB, hS⟩
   ·rintro a w18 ⟨r', rfl, b58⟩; dsimp only at hF; have e59 := Option.some.inj hF; subst e59; exact b58
def cn_ (fuel : Nat) (p0 : List (List Int)) (p1 : (List Int) → Option Bool) : Option ((List Int) × Bool) :=
  (mk (Rz.z : Int) (p0.length : Int)) >>= fun x11 =>
  (ac_ fuel 0 p0 p1 x11) >>= fun x33 =>
  if !x33.1 then
    some ([], false)
  else
    some (x33.2, true)

def iZ_ (oo : Tg) (t : Nat) (w : World) (r : (List Int) × Bool) : Ending → World → Prop := fun e w' => ∃ (v0 : Value) (o' : Tg), e = .returned (.tuple #[v0, .bool r.2]) ∧ Ow w.heap.size 3 t o' w' v0 r.1 ∧ Keeps w w' ∧ ∀ b, b < w.heap.size → o' b = oo b
theorem gF_ (fuel : Nat) (w : World) (oo : Tg) (t : Nat) (ht : 2 ≤ t) (u0 : Value) (p0 : List (List Int)) (g0 : RdL zt w u0 p0) (u1 : Value) (p1 : (List Int) → Option Bool) (g1 : FnV Tryz.prog w u1 p1) (r : (List Int) × Bool) (hF : cn_ fuel p0 p1 = some r) :
    Calls Tryz.prog 148 #[u0, u1] w (iZ_ oo t w r) := by
 unfold cn_ at hF; have hB : Bs oo (col oo) w w := Bs.start _ _; refine h_ (n := 16) (vs := [u0, u1]) Tryz.func148 rfl rfl ?_; generalize col oo = o at *; refine Zq (Zo ?_); refine aP_ (o := o) w.heap.size 11 hB.keeps.size (cs := [u0]) g0.cells1 rfl ?_; intro o1 w2 b3 h4 s5; replace hB := hB.stp s5; refine Zo ?_; refine aP_ (o := o1) w.heap.size 12 hB.keeps.size (cs := [u1]) g1.cells1 rfl ?_; intro o6 w7 b8 h9 s10; replace h4 := h4.stp s10; replace hB := hB.stp s10; refine Za rfl (Za rfl (Ze [(2, ZP b3), (3, ZP b8)] (Zn (Zv (e_ rfl Tryz.isAgg22 (h4.cell rfl)) (Zv (F_ rfl g0 Tryz.underlying22) ?_))))); obtain ⟨x11, hx11, hF⟩ := bind_some hF; refine Zo ?_; refine hu_ (o := o6) w.heap.size 13 hB.keeps.size hx11 rfl rfl Tryz.underlying41 iG_ rfl (by decide) ?_; intro o12 w13 v14 h15 s16; replace h4 := h4.stp s16; replace h9 := h9.stp s16; replace hB := hB.stp s16; refine Zo ?_; refine aI_ (o := o12) w.heap.size 14 hB.keeps.size (cs := [(.slice none 0 0)]) Tryz.zeroValue41 rfl ?_; intro o17 w18 b19 h20 s21; replace h15 := h15.stp s21; replace h4 := h4.stp s21; replace h9 := h9.stp s21; replace hB := hB.stp s21; refine ak_ trivial ?_; refine bz_ h20 rfl rfl (of_decide_eq_true rfl) Tryz.sizeOf41 h15.cells1 h15.one1 ?_; intro w22 h24 s23; replace h15 := h15.stp s23; replace h4 := h4.stp s23; replace h9 := h9.stp s23; replace hB := hB.stp s23; replace h24 : Bx w.heap.size 14 o17 w22 b19 41 [v14] := h24; refine Ze [(2, ZP b3), (3, ZP b8), (6, ZP b19)] (Zn (Zo ?_)); refine aI_ (o := o17) w.heap.size 15 hB.keeps.size (cs := [.nilFunc]) Tryz.zeroValue64 rfl ?_; intro o25 w26 b27 h28 s29; replace h4 := h4.stp s29; replace h9 := h9.stp s29; replace h24 := h24.stp s29; replace h15 := h15.stp s29; replace hB := hB.stp s29; refine Ze [(2, ZP b3), (3, ZP b8), (6, ZP b19), (7, ZP b27)] (Zn (Zv (ga_ (vs := [(ZP b3), (ZP b8), (ZP b19), (ZP b27)]) ⟨rfl, rfl, rfl, rfl, trivial⟩) ?_)); refine ak_ trivial ?_; refine bz_ h28 rfl rfl (of_decide_eq_true rfl) Tryz.sizeOf64 rfl rfl ?_; intro w30 h32 s31; replace h4 := h4.stp s31; replace h9 := h9.stp s31; replace h24 := h24.stp s31; replace h15 := h15.stp s31; replace hB := hB.stp s31; replace h32 : Bx w.heap.size 15 o25 w30 b27 64 [(.func (.func 181) #[] #[(ZP b3), (ZP b8), (ZP b19), (ZP b27)])] := h32; refine Ze [(6, ZP b19), (7, ZP b27)] (nx (b_ (Zq (Zv (e_ rfl Tryz.isAgg64 (h32.cell rfl)) ?_)))); obtain ⟨x33, hx33, hF⟩ := bind_some hF; refine Zo ?_; refine ia_ (vs := [(ZI 0)]) (cap := [(ZP b3), (ZP b8), (ZP b19), (ZP b27)]) (hT_ fuel w w30 oo o25 hB 0 b3 u0 p0 h4 g0 b8 u1 p1 h9 g1 b19 v14 x11 h24 h15 b27 h32 x33 hx33) Tryz.call181 rfl ⟨rfl, trivial⟩ ?_; rintro e36 w34 ⟨o35, rfl, h37, -, s38⟩; refine ⟨_, rfl, ?_⟩; replace h4 := h4.stp s38; replace h9 := h9.stp s38; replace h24 := h24.stp s38; replace h32 := h32.stp s38; replace hB := hB.stp s38; refine Zv (bg_ rfl) (Ze [(6, ZP b19), (14, (.bool (!x33.1)))] (nx ?_))
 refine l_ rfl (fun t39 => ?_) (fun t39 => ?_)
 ·rw [if_pos t39] at hF; refine Zq (Za rfl (Za rfl (Ze [(4, (.slice none 0 0)), (5, (.bool false))] (nx (j_ (A_ ?_)))))); have e40 := Option.some.inj hF; subst e40; refine Zr Tryz.results148 [(.slice none 0 0), (.bool false)] ?_; exact ⟨_, rt oo o35 w.heap.size 9 t, rfl, (Ow.nil _ _ _ _ _), hB.keeps, an_ _ _ _ _ _⟩
 ·rw [if_neg (by rw [t39]; decide)] at hF; refine f_ (Zn (Zv (e_ rfl Tryz.isAgg41 (h24.cell rfl)) (Za rfl (Za rfl (Ze [(4, v14), (5, (.bool true))] (nx (j_ ?_))))))); have e41 := Option.some.inj hF; subst e41; refine Zr Tryz.results148 [v14, (.bool true)] ?_; exact ⟨_, rt oo o35 w.heap.size 13 t, rfl, h37.rt hB (by decide) t, hB.keeps, an_ _ _ _ _ _⟩
end

section
def chP (lists : List (List Int)) (g : List Int → Bool) (k : Nat) (lab : List Int) : Prop := ∃ m, m.length = lists.length ∧ m.take k = lab.take k ∧ (∀ (i : Nat) L a, k ≤ i → lists[i]? = some L → m[i]? = some a → a ∈ L) ∧ g m = true
theorem qL_ (lists : List (List Int)) (G : List Int → Option Bool) (g : List Int → Bool) (hG : ∀ m, m.length = lists.length → G m = some (g m)) (hl : lists.length ≤ 1000) : ∀ (d k fuel : Nat) (lab : List Int), k + d = lists.length → d < fuel → lab.length = lists.length →
    ∃ b lab', ac_ fuel (k : Int) lists G lab = some (b, lab') ∧ lab'.length = lists.length ∧ lab'.take k = lab.take k ∧ (b = true ↔ chP lists g k lab)
  | 0, k, fuel, lab, hd, hf, hlab => by
    obtain ⟨q, rfl⟩ : ∃ q, fuel = q + 1 := ⟨fuel - 1, by omega⟩
    refine ⟨g lab, lab, ?_, hlab, rfl, ?_⟩
    · unfold ac_
      rw [if_pos (by simp; omega), hG lab hlab, sb]
    · constructor
      · intro h
        exact ⟨lab, hlab, rfl, fun i L a hi hL _ => by have := (List.getElem?_eq_some_iff.1 hL).1; omega, h⟩
      · rintro ⟨m, m1, m2, m3, m4⟩
        rw [List.take_of_length_le (by omega), List.take_of_length_le (by omega)] at m2
        rw [← m2]; exact m4
  | d + 1, k, fuel, lab, hd, hf, hlab => by
    obtain ⟨q, rfl⟩ : ∃ q, fuel = q + 1 := ⟨fuel - 1, by omega⟩
    have hk : k < lists.length := by omega
    obtain ⟨L, hL⟩ : ∃ L, lists[k]? = some L := ⟨_, List.getElem?_eq_getElem hk⟩
    have one : ∀ (a : Int) (s : List Int), s.length = lists.length → s.take k = lab.take k → ∃ b s', aC_ (k : Int) lists G (ac_ q) 0 a s = some (if b then .ret (true, s') else .go s') ∧ s'.length = lists.length ∧ s'.take k = lab.take k ∧ (b = true ↔ chP lists g (k + 1) (s.set k a)) := fun a s hs1 hs2 => by
      obtain ⟨b, s', e1, e2, e3, e4⟩ := qL_ lists G g hG hl d (k + 1) q (s.set k a) (by omega) (by omega) (by simpa using hs1)
      refine ⟨b, s', ?_, e2, ?_, e4⟩
      · unfold aC_
        rw [cv_, List.getElem?_eq_getElem (show k < s.length by omega), sb, jE_ _ _ _ (show k < s.length by omega), sb, C_ (by omega) (by omega), sb, show ((k : Int) + 1) = ((k + 1 : Nat) : Int) by omega, e1, sb]
        cases b <;> rfl
      · have := congrArg (List.take k) e3
        rw [List.take_take, List.take_take, Nat.min_eq_left (by omega), List.take_set_of_le (Nat.le_refl _)] at this
        rw [this, hs2]
    have chs : ∀ (a : Int) (s : List Int), s.length = lists.length → s.take k = lab.take k → (chP lists g (k + 1) (s.set k a) ↔ ∃ m, m.length = lists.length ∧ m.take k = lab.take k ∧ m[k]? = some a ∧ (∀ (i : Nat) L a, k + 1 ≤ i → lists[i]? = some L → m[i]? = some a → a ∈ L) ∧ g m = true) := fun a s hs1 hs2 => by
      have ht : (s.set k a).take (k + 1) = lab.take k ++ [a] := by
        rw [List.take_add_one, List.take_set_of_le (Nat.le_refl _), hs2, List.getElem?_set_self (by omega)]; rfl
      constructor
      · rintro ⟨m, m1, m2, m3, m4⟩
        rw [ht, List.take_add_one] at m2
        have hm : m[k]? = some m[k] := List.getElem?_eq_getElem (by omega)
        rw [hm] at m2
        obtain ⟨u1, u2⟩ := List.append_inj m2 (by rw [List.length_take, List.length_take]; omega)
        exact ⟨m, m1, u1, by rw [hm]; simpa using u2, m3, m4⟩
      · rintro ⟨m, m1, m2, m3, m4, m5⟩
        exact ⟨m, m1, by rw [ht, List.take_add_one, m2, m3]; rfl, m4, m5⟩
    have loop : ∀ (xs pre : List Int) (i : Int) (s : List Int), pre ++ xs = L → s.length = lists.length → s.take k = lab.take k → (¬ ∃ a ∈ pre, chP lists g (k + 1) (lab.set k a)) →
        ∃ z, forI (aC_ (k : Int) lists G (ac_ q)) xs i s = some z ∧ ((∃ s', z = .inl s' ∧ s'.length = lists.length ∧ s'.take k = lab.take k ∧ ¬ ∃ a ∈ L, chP lists g (k + 1) (lab.set k a)) ∨ (∃ s', z = .inr (true, s') ∧ s'.length = lists.length ∧ s'.take k = lab.take k ∧ ∃ a ∈ L, chP lists g (k + 1) (lab.set k a))) := by
      intro xs
      induction xs with
      | nil =>
        intro pre i s hp h1 h2 h3
        rw [List.append_nil] at hp
        subst hp
        exact ⟨_, rfl, .inl ⟨s, rfl, h1, h2, h3⟩⟩
      | cons x xs ih =>
        intro pre i s hp h1 h2 h3
        obtain ⟨b, s', e1, e2, e3, e4⟩ := one x s h1 h2
        have e1' : aC_ (k : Int) lists G (ac_ q) i x s = some (if b then .ret (true, s') else .go s') := e1
        have hxL : x ∈ L := by rw [← hp]; simp
        have e5 : b = true ↔ chP lists g (k + 1) (lab.set k x) := by rw [e4, chs x s h1 h2, chs x lab hlab rfl]
        simp only [forI, e1']
        cases b with
        | true => exact ⟨_, rfl, .inr ⟨s', rfl, e2, e3, x, hxL, e5.1 rfl⟩⟩
        | false =>
          refine ih (pre ++ [x]) (i + 1) s' (by rw [← hp]; simp) e2 e3 ?_
          rintro ⟨a, ha, hca⟩
          rcases List.mem_append.1 ha with ha | ha
          · exact h3 ⟨a, ha, hca⟩
          · rw [List.mem_singleton.1 ha] at hca
            exact absurd (e5.2 hca) (by simp)
    obtain ⟨z, z1, z2⟩ := loop L [] 0 lab (by simp) hlab rfl (by simp)
    have hall : chP lists g k lab ↔ ∃ a ∈ L, chP lists g (k + 1) (lab.set k a) := by
      constructor
      · rintro ⟨m, m1, m2, m3, m4⟩
        have hm : m[k]? = some m[k] := List.getElem?_eq_getElem (by omega)
        exact ⟨m[k], m3 k L _ (Nat.le_refl _) hL hm, (chs _ lab hlab rfl).2 ⟨m, m1, m2, hm, fun i L a hi => m3 i L a (by omega), m4⟩⟩
      · rintro ⟨a, ha, hc⟩
        obtain ⟨m, m1, m2, m3, m4, m5⟩ := (chs a lab hlab rfl).1 hc
        refine ⟨m, m1, m2, fun i L' b hi hL' hb => ?_, m5⟩
        by_cases e : i = k
        · subst e
          rw [hL] at hL'; cases hL'
          rw [m3] at hb; cases hb
          exact ha
        · exact m4 i L' b (by omega) hL' hb
    have hhead : ac_ (q + 1) (k : Int) lists G lab = ((forI (aC_ (k : Int) lists G (ac_ q)) L 0 lab) >>= fun q20 => match q20 with | .inl y15 => some (false, y15) | .inr r' => some r') := by
      conv => lhs; unfold ac_
      rw [if_neg (by simp; omega), cv_, hL, sb]
      all_goals rfl
    rw [hhead, z1, sb, hall]
    rcases z2 with ⟨s', rfl, a1, a2, a3⟩ | ⟨s', rfl, a1, a2, a3⟩
    · exact ⟨false, s', rfl, a1, a2, by simpa using a3⟩
    · exact ⟨true, s', rfl, a1, a2, by simpa using a3⟩
theorem hm_ (fuel : Nat) (lists : List (List Int)) (G : List Int → Option Bool) (g : List Int → Bool) (hG : ∀ m, m.length = lists.length → G m = some (g m)) (hl : lists.length ≤ 1000) (hf : lists.length < fuel) :
    ∃ l b, cn_ fuel lists G = some (l, b) ∧ (b = true ↔ ∃ m, m.length = lists.length ∧ (∀ (i : Nat) L a, lists[i]? = some L → m[i]? = some a → a ∈ L) ∧ g m = true) := by
  obtain ⟨b, lab', e1, e2, e3, e4⟩ := qL_ lists G g hG hl lists.length 0 fuel (List.replicate lists.length 0) (by omega) hf (by simp)
  rw [show ((0 : Nat) : Int) = 0 from rfl] at e1
  have hm : mk (Rz.z : Int) (lists.length : Int) = some (List.replicate lists.length 0) := by
    unfold mk
    rw [if_pos (by omega)]; rfl
  have hc : chP lists g 0 (List.replicate lists.length 0) ↔ ∃ m, m.length = lists.length ∧ (∀ (i : Nat) L a, lists[i]? = some L → m[i]? = some a → a ∈ L) ∧ g m = true :=
    ⟨fun ⟨m, m1, _, m3, m4⟩ => ⟨m, m1, fun i L a => m3 i L a (Nat.zero_le _), m4⟩, fun ⟨m, m1, m3, m4⟩ => ⟨m, m1, by simp, fun i L a _ => m3 i L a, m4⟩⟩
  rw [hc] at e4
  unfold cn_
  rw [hm, sb, e1, sb]
  cases b with
  | true => exact ⟨lab', true, by rfl, e4⟩
  | false => exact ⟨[], false, by rfl, e4⟩
end

section
set_option maxRecDepth 100000
set_option maxHeartbeats 2000000
open Go.RowKit Go.Sort Go.Shelf
def growO (n : Int) : Option (List Int) := if 0 ≤ n ∧ n ≤ 1000000000 then some [] else none
theorem ob_ (w : World) (oo : Tg) (t : Nat) (n : Int) (r : List Int) (hF : growO n = some r) :
    Calls Tryz.prog 173 #[.slice none 0 0, .int .i64 n] w (fun e w' => ∃ v o', e = .returned v ∧ Ow w.heap.size 3 t o' w' v r ∧ Keeps w w' ∧ ∀ b, b < w.heap.size → o' b = oo b) := by
 unfold growO at hF; split at hF; rotate_left
 ·cases hF
 rename_i hl; cases hF
 obtain ⟨n, rfl⟩ : ∃ m : Nat, n = m := ⟨n.toNat, by omega⟩; by_cases h0 : n = 0
 ·subst h0; refine (Any8.slices_Grow_room Tryz.laysGrow none 0 0 0 w (by omega) (by omega) (by omega) (by omega)).mono ?_; rintro e w' ⟨rfl, rfl⟩; exact ⟨_, oo, rfl, ⟨[], rfl, World.ownsRow_nil _ _ _ _, fun g' hg => by simp [Value.ownBlock] at hg, by simp⟩, Keeps.refl _, fun _ _ => rfl⟩
 ·obtain ⟨i0, hi0, hz0, hz1, hz2⟩ := info_parts (show Inf Tryz.prog 3 (ZI 0) 1 8 by unfold Inf; kernel_rfl); have hsz : i0.size = 1 := hz1; have hby : i0.bytes = 8 := hz2; refine (Any8.slices_Grow_grow Tryz.laysGrow i0 (ZI 0) hi0 hz0 (by omega) none 0 0 n [] w (by omega) (by omega) (by rw [hby]; omega) (by omega) (by simp) (fun _ => rfl) (by intro a h; cases h)).mono ?_; rintro e w' ⟨rfl, rfl⟩; have hG := grownCap_ge w (0 + n) 0 3; have hM := grownCap_le_maxLen w (0 + n) 0 3 (by unfold maxLen; omega); have hs : Stp t oo w (ext oo w.heap.size t) (w.drew.alloc (.cells (([] : List Value).toArray ++ Builtin.zeroCells (Value.int .i64 0).cells (0 + n - 0) ++ Builtin.zeroCells (Value.int .i64 0).cells (grownCap w (0 + n) 0 3 - (0 + n))) 3)) := (hZ_ oo w t).trans (gq_ oo w.drew _ _ t); refine ⟨_, ext oo w.heap.size t, rfl, ⟨[], rfl, World.ownsRow_made w.drew _ _ (Nat.le_refl _) hM ?_, fun g' hg => ?_, by simp⟩, ?_, fun b hb => ?_⟩
  ·simp only [Nat.zero_add] at hG; have h1 : (Value.int IntKind.i64 0).cells.size = 1 := rfl; rw [Array.size_append, Array.size_append, size_zeroCells, size_zeroCells, h1]; simp only [Nat.zero_add, List.size_toArray, List.length_nil, Nat.mul_one, Nat.sub_zero, Rp.sz]; exact Nat.add_sub_cancel' hG
  ·simp [Value.ownBlock] at hg; subst hg; exact hw_ _ _ _ _ (Nat.le_refl _)
  ·exact (Keeps.refl w).drew.alloc _
  ·exact iB_ _ _ _ _ hb
end

section
set_option maxRecDepth 100000
set_option maxHeartbeats 2000000
open Go.RowKit
def aA_ (p0 : List (List Int)) (p1 : (List Int) → Option Bool) : Int → Unit → Option (Lp Unit Unit Int) := fun (i3 : Int) (s : Unit) =>
  (ix p0 i3) >>= fun x15 =>
  (p1 x15) >>= fun x23 =>
  if x23 then
    some (.ret i3)
  else
    some (.go ())
def ay_ (p0 : List (List Int)) (p1 : (List Int) → Option Bool) : Option Int :=
  ck (p0.length : Int) >>= fun _ =>
  (forN (aA_ p0 p1) ((p0.length : Int)).toNat 0 ()) >>= fun q4 =>
  match q4 with
  | .inl _ =>
    some (-1)
  | .inr r' => some r'

def cj_ (w : World) (r : Int) : Ending → World → Prop := fun e w' => e = .returned (.int .i64 r) ∧ Keeps w w'
theorem ei_ (w : World) (u0 : Value) (p0 : List (List Int)) (g0 : RdL zt w u0 p0) (u1 : Value) (p1 : (List Int) → Option Bool) (g1 : FnV Tryz.prog w u1 p1) (r : Int) (hF : ay_ p0 p1 = some r) :
    Calls Tryz.prog 180 #[u0, u1] w (cj_ w r) := by
 unfold ay_ at hF; have hB : Bs (fun _ => 1) (col (fun _ => 1)) w w := Bs.start _ _; refine h_ (n := 19) (vs := [u0, u1]) Tryz.func180 rfl rfl ?_; refine Zq (Za rfl (Ze [(0, u0), (1, u1)] (nx (b_ (Zq (Zm rfl (Zv (F_ rfl g0 Tryz.underlying22) (Zm rfl (Ze [(0, u0), (1, u1), (7, (ZI (p0.length : Int))), (8, ZI 0)] (nx ?_)))))))))); obtain ⟨u6, h5, hF⟩ := bind_some hF; obtain ⟨-, h5a, h5b⟩ := cp_ h5; obtain ⟨q4, hq4, hF⟩ := bind_some hF; refine z_ (fun a w2 => ∃ (o1 : Tg), q4 = .inl () ∧ Fr a 19 [] ∧ Bs (fun _ => 1) o1 w w2) (fun a w' => ∃ r', q4 = .inr r' ∧ bodyPost Tryz.prog Tryz.f180 (cj_ w r') .ret a w') ?_ ?_ ?_
 ·refine d_ ?_; refine y_ (fun (K : Nat) a w2 => ∃ (i3 : Int) (o1 : Tg), forN (aA_ p0 p1) ((p0.length : Int) - i3).toNat i3 () = some q4 ∧ ((p0.length : Int) - i3).toNat = K ∧ 0 ≤ i3 ∧ Fr a 19 [(0, u0), (1, u1), (7, (ZI (p0.length : Int))), (8, ZI i3)] ∧ Bs (fun _ => 1) o1 w w2) _ (fun a ha => ⟨0, (col (fun _ => 1)), (by rw [Int.sub_zero]; exact hq4), rfl, Int.le_refl 0, ha.sub (r := [(0, u0), (1, u1), (7, (ZI (p0.length : Int))), (8, ZI 0)]) ⟨rfl, rfl, rfl, rfl, trivial⟩, hB⟩) ?_; rintro K10 a w2 ⟨i3, o1, l7, m9, z8, ha, hB⟩; by_cases t14 : i3 < (p0.length : Int)
  ·obtain ⟨q11, b12, n13⟩ := bF_ t14 l7; dsimp only [aA_] at b12; refine L_ ha ?_; refine Zq (Zv (r_ rfl rfl) (Ze [(0, u0), (1, u1), (7, (ZI (p0.length : Int))), (8, ZI i3), (9, (.bool (decide (i3 < (p0.length : Int)))))] (nx (b_ ?_)))); refine P_ (congrArg (fun b => some (Value.bool b)) (decide_eq_true t14)) ?_; refine f_ (nx (b_ (d_ (Zq (Zm rfl (Za rfl (Ze [(0, u0), (1, u1), (5, ZI i3), (7, (ZI (p0.length : Int))), (8, ZI i3)] (Zn (Zm rfl (Zm rfl (Zm rfl ?_))))))))))); obtain ⟨x15, hx15, b12⟩ := bind_some b12; refine Zo ?_; refine wf_atZ g0 hx15 hB rfl rfl Tryz.underlying22 Tryz.sizeOf41 ?_; intro b16 f17 c18 h19 h20; obtain ⟨v21, rfl, h22⟩ := h20; refine Zv (e_ rfl Tryz.isAgg41 (i_ h19)) ?_; obtain ⟨x23, hx23, b12⟩ := bind_some b12; refine Zo ?_; refine fA_ (x := x15) (vs := [v21]) (g1.keep hB.keeps) hx23 ⟨_, rfl, (h22.keep hB.keeps)⟩ rfl ⟨rfl, trivial⟩ ?_; intro w24 k25; have s26 := k25.stp 999 o1; replace hB := hB.stp s26; refine Ze [(0, u0), (1, u1), (5, ZI i3), (7, (ZI (p0.length : Int))), (8, ZI i3), (16, (.bool x23))] (nx ?_); refine l_ rfl (fun t27 => ?_) (fun t27 => ?_)
   ·rw [if_pos t27] at b12; refine Zq (Zm rfl (Za rfl (Ze [(4, ZI i3)] (nx (j_ (aa_ (A_ (A_ (aa_ ?_))))))))); refine bu_ ?_; have e28 := Option.some.inj b12; subst e28; refine fun a ha => ⟨_, n13, ?_⟩; refine D_ (P := Tryz.prog) (vs := [(ZI i3)]) Tryz.results180 ⟨rfl, trivial⟩ ?_ a ha; exact ⟨rfl, hB.keeps⟩
   ·rw [if_neg (by rw [t27]; decide)] at b12; refine f_ (x_ (nx (c_ (Zv (B_ rfl rfl (C_ (by omega) (by omega))) (Zm rfl (Ze [(0, u0), (1, u1), (7, (ZI (p0.length : Int))), (8, (ZI (i3 + 1)))] (v_ ?_))))))); have e29 := Option.some.inj b12; subst e29; refine Zk [(0, u0), (1, u1), (7, (ZI (p0.length : Int))), (8, (ZI (i3 + 1)))] ?_; intro a ha; exact ⟨_, (by rw [← m9]; omega), i3 + 1, o1, n13, rfl, (by omega), ha, hB⟩
  ·have r30 := bJ_ t14 l7; refine L_ ha ?_; refine Zq (Zv (r_ rfl rfl) (Ze [(0, u0), (1, u1), (7, (ZI (p0.length : Int))), (8, ZI i3), (9, (.bool (decide (i3 < (p0.length : Int)))))] (nx (b_ ?_)))); refine H_ (congrArg (fun b => some (Value.bool b)) (decide_eq_false t14)) ?_; refine u_ ?_; refine m_ (m_ (R_ ?_)); refine p_ ?_; refine Zk [] ?_; intro a ha; exact ⟨o1, r30, ha, hB⟩
 ·rintro a w2 ⟨o1, rfl, ha, hB⟩; dsimp only at hF; refine ap_k ha ?_; refine Zn (Za rfl (Ze [(4, (ZI (-1)))] (nx (j_ ?_)))); have e31 := Option.some.inj hF; subst e31; refine Zr Tryz.results180 [(ZI (-1))] ?_; exact ⟨rfl, hB.keeps⟩
 ·rintro a w2 ⟨r', rfl, b32⟩; dsimp only at hF; have e33 := Option.some.inj hF; subst e33; exact b32
end

section
open Go.RowKit
theorem RdL.mapx {o : Tg} {w : World} {v : Value} {xs : List Pv} (h : RdL o w v xs) : RdL o w v (xs.map fun q => q.x) := by
  obtain ⟨a, c, e, h1, h2, h4⟩ := h
  refine ⟨a, c, by rw [e, List.length_map], by rw [List.length_map]; exact h1, h2, fun i x hi => ?_⟩
  rw [List.getElem?_map] at hi
  obtain ⟨q, hq, rfl⟩ := Option.map_eq_some_iff.1 hi
  obtain ⟨b, off, cs, r1, r2, r3, r4, r5⟩ := h4 i q hq
  obtain ⟨rfl, s1, s2⟩ := r5
  exact ⟨b, off, [q.v], r1, r2, r3, r4, _, rfl, s2⟩
theorem ry_ {B k : Nat} {e : TypeId} {o : Tg} {w : World} {v : Value} {xs : List Pv} (h : Ow B e k o w v xs) : RdL zt w v (xs.map fun q => q.x) := RdL.mapx h.z
end

section
set_option maxRecDepth 100000
set_option maxHeartbeats 2000000
open Go.RowKit
def E_ (p1 : (List Int) → Option Bool) : ((List Pv) × Int × Int) → Option (Lp ((List Pv) × Int × Int) ((List Pv) × Int × Int) (List Pv)) := fun (s : (List Pv) × Int × Int) =>
  if decide (s.2.2 < (s.1.length : Int)) then
    (ix s.1 s.2.2) >>= fun x27 =>
    (p1 x27.x) >>= fun x34 =>
    if !x34 then
      (ix s.1 s.2.1) >>= fun x39 =>
      (st s.1 s.2.1 x27) >>= fun x49 =>
      (ck (s.2.1 + 1)) >>= fun x51 =>
      (ck (s.2.2 + 1)) >>= fun x52 =>
      some (.go (x49, x51, x52))
    else
      (ck (s.2.2 + 1)) >>= fun x54 =>
      some (.go (s.1, s.2.1, x54))
  else
    some (.out (s.1, s.2.1, s.2.2))
def aO_ (fuel : Nat) (p0 : List Pv) (p1 : (List Int) → Option Bool) : Option (List Pv) :=
  (ay_ (p0.map fun q => q.x) p1) >>= fun x1 =>
  if x1 == (-1) then
    some p0
  else
    (ck (x1 + 1)) >>= fun x9 =>
    (loopF (E_ p1) fuel (p0, x1, x9)) >>= fun q16 =>
    match q16 with
    | .inl (y10, y12, y13) =>
      (cut y10 y12 y10.length) >>= fun x57 =>
      (cut y10 y12 y10.length) >>= fun x58 =>
      (cut y10 0 y12) >>= fun x59 =>
      some x59
    | .inr _ => none

def dR_ (oo o : Tg) (w w1 : World) (r : List Pv) : Ending → World → Prop := fun e w' => ∃ (v0 : Value) (o' : Tg), e = .returned v0 ∧ Ow w.heap.size 41 10 o' w' v0 r ∧ Bs oo o' w w' ∧ Stp 10 o w1 o' w'
theorem dS_ (fuel : Nat) (w w1 : World) (oo o : Tg) (hB : Bs oo o w w1) (hO : ∀ b, b < w1.heap.size → o b ≠ 999) (u0 : Value) (p0 : List Pv) (g0 : Ow w.heap.size 41 10 o w1 u0 p0) (u1 : Value) (p1 : (List Int) → Option Bool) (g1 : FnV Tryz.prog w u1 p1) (r : List Pv) (hF : aO_ fuel p0 p1 = some r) :
    Calls Tryz.prog 145 #[u0, u1] w1 (dR_ oo o w w1 r) := by
 unfold aO_ at hF; have hS : Stp 10 o w1 o w1 := Stp.refl _ _ _; refine h_ (n := 42) (vs := [u0, u1]) Tryz.func145 rfl rfl ?_; refine Zq (Za rfl (Ze [(0, u0), (1, u1)] (Zn (Zm rfl (Zm rfl ?_))))); obtain ⟨x1, hx1, hF⟩ := bind_some hF; refine Zo ?_; refine n_ (ei_ w1 _ (p0.map fun q => q.x) (ry_ g0) _ p1 (g1.keep hB.keeps) x1 hx1) Tryz.call180 ⟨rfl, rfl, trivial⟩ ?_; rintro e6 w2 ⟨rfl, k3⟩; have s5 := k3.stp 999 o; refine ⟨_, rfl, ?_⟩; replace hS := hS.tr9 hO s5; replace g0 := g0.stp s5; replace hB := hB.stp s5; refine Za rfl (Ze [(0, u0), (1, u1), (5, ZI x1)] (nx (b_ (Zq (Zm rfl (Zv (ds_ rfl rfl) (Ze [(0, u0), (1, u1), (5, ZI x1), (12, (.bool (x1 == (-1))))] (nx ?_)))))))); refine l_ rfl (fun t7 => ?_) (fun t7 => ?_)
 ·rw [if_pos t7] at hF; refine Zq (Zm rfl (Za rfl (Ze [(4, u0)] (nx (j_ (A_ ?_)))))); have e8 := Option.some.inj hF; subst e8; refine Zr Tryz.results145 [u0] ?_; exact ⟨_, o, rfl, g0, hB, hS⟩
 ·rw [if_neg (by rw [t7]; decide)] at hF; refine f_ (nx (b_ (Zq (Zm rfl ?_)))); obtain ⟨x9, hx9, hF⟩ := bind_some hF; refine Zv (B_ rfl rfl hx9) (Za rfl (Ze [(0, u0), (1, u1), (5, ZI x1), (6, ZI x9)] (nx ?_))); obtain ⟨q16, hq16, hF⟩ := bind_some hF; refine z_ (fun a w15 => ∃ (y10 : List Pv) (y12 : Int) (y13 : Int) (o14 : Tg), q16 = .inl (y10, y12, y13) ∧ Fr a 42 [(0, u0), (5, ZI y12)] ∧ Bs oo o14 w w15 ∧ Stp 10 o w1 o14 w15 ∧ Ow w.heap.size 41 10 o14 w15 u0 y10) (fun _ _ => False) ?_ ?_ ?_
  ·refine d_ ?_; refine y_ (fun (K : Nat) a w15 => ∃ (y10 : List Pv) (y12 : Int) (y13 : Int) (o14 : Tg), loopF (E_ p1) K (y10, y12, y13) = some q16 ∧ Fr a 42 [(0, u0), (1, u1), (5, ZI y12), (6, ZI y13)] ∧ Bs oo o14 w w15 ∧ Stp 10 o w1 o14 w15 ∧ Ow w.heap.size 41 10 o14 w15 u0 y10) fuel (fun a ha => ⟨p0, x1, x9, o, hq16, ha.sub (r := [(0, u0), (1, u1), (5, ZI x1), (6, ZI x9)]) ⟨rfl, rfl, rfl, rfl, trivial⟩, hB, hS, g0⟩) ?_; rintro K20 a w15 ⟨y10, y12, y13, o14, l17, ha, hB, hS, h11⟩; obtain ⟨K24, q21, e25, b22, n23⟩ := X_ l17; dsimp only [E_] at b22; refine L_ ha ?_; refine b_ (Zq (Zm rfl (Zm rfl (Zv (bA_ rfl h11 Tryz.underlying22) (Zv (r_ rfl rfl) (Ze [(0, u0), (1, u1), (5, ZI y12), (6, ZI y13), (19, (.bool (decide (y13 < (y10.length : Int)))))] (nx ?_))))))); refine l_ rfl (fun t26 => ?_) (fun t26 => ?_)
   ·rw [if_pos t26] at b22; refine f_ (nx (b_ (d_ (Zq (Zm rfl (Zm rfl ?_)))))); obtain ⟨x27, hx27, b22⟩ := bind_some b22; refine Zo ?_; refine fo_ h11 hx27 rfl rfl Tryz.underlying22 Tryz.sizeOf41 ?_; intro b28 f29 c30 h31 h32; obtain ⟨rfl, -, h33⟩ := h32; refine Zv (e_ rfl Tryz.isAgg41 (i_ h31)) (Za rfl (Ze [(0, u0), (1, u1), (5, ZI y12), (6, ZI y13), (7, x27.v)] (Zn (Zm rfl (Zm rfl ?_))))); obtain ⟨x34, hx34, b22⟩ := bind_some b22; refine Zo ?_; refine fA_ (x := x27.x) (vs := [x27.v]) (g1.keep hB.keeps) hx34 ⟨_, rfl, h33.z⟩ rfl ⟨rfl, trivial⟩ ?_; intro w35 k36; have s37 := k36.stp 999 o14; replace hS := hS.trans (k36.stp 10 o14); replace h11 := h11.stp s37; replace h33 := h33.stp s37; replace hB := hB.stp s37; refine Zv (bg_ rfl) (Ze [(0, u0), (1, u1), (5, ZI y12), (6, ZI y13), (7, x27.v), (29, (.bool (!x34)))] (nx ?_)); refine l_ rfl (fun t38 => ?_) (fun t38 => ?_)
    ·rw [if_pos t38] at b22; refine Zq (Zm rfl (Zm rfl (Zm rfl ?_))); obtain ⟨x39, hx39, b22⟩ := bind_some b22; refine Zo ?_; refine ge_ h11 hx39 rfl rfl Tryz.underlying22 Tryz.sizeOf41 ?_; intro b40 c42 h45 h43 h44; obtain ⟨rfl, -, h46⟩ := h44; obtain ⟨x49, hx49, b22⟩ := bind_some b22; refine ak_ trivial ?_; refine cG_ h11 h45 hx49 (qc_ h33) (by decide) rfl rfl rfl Tryz.sizeOf41 h33.cells1 ?_; intro w47 h50 s48; replace hS := hS.trans s48; replace h33 := h33.stp s48; replace h46 := h46.stp s48; replace hB := hB.stp s48; refine Ze [(0, u0), (1, u1), (5, ZI y12), (6, ZI y13)] (nx (c_ (Zm rfl ?_))); obtain ⟨x51, hx51, b22⟩ := bind_some b22; refine Zv (B_ rfl rfl hx51) (Za rfl (Ze [(0, u0), (1, u1), (5, ZI x51), (6, ZI y13)] (x_ (nx (c_ (Zm rfl ?_)))))); obtain ⟨x52, hx52, b22⟩ := bind_some b22; refine Zv (B_ rfl rfl hx52) (Za rfl (Ze [(0, u0), (1, u1), (5, ZI x51), (6, ZI x52)] (v_ ?_))); have e53 := Option.some.inj b22; subst e53; refine Zk [(0, u0), (1, u1), (5, ZI x51), (6, ZI x52)] ?_; intro a ha; exact ⟨K24, by omega, x49, x51, x52, o14, n23, ha, hB, hS, h50⟩
    ·rw [if_neg (by rw [t38]; decide)] at b22; refine f_ (x_ (nx (c_ (Zm rfl ?_)))); obtain ⟨x54, hx54, b22⟩ := bind_some b22; refine Zv (B_ rfl rfl hx54) (Za rfl (Ze [(0, u0), (1, u1), (5, ZI y12), (6, ZI x54)] (v_ ?_))); have e55 := Option.some.inj b22; subst e55; refine Zk [(0, u0), (1, u1), (5, ZI y12), (6, ZI x54)] ?_; intro a ha; exact ⟨K24, by omega, y10, y12, x54, o14, n23, ha, hB, hS, h11⟩
   ·rw [if_neg (by rw [t26]; decide)] at b22; refine u_ ?_; refine m_ (m_ (R_ ?_)); refine p_ ?_; have e56 := Option.some.inj b22; subst e56; refine Zk [(0, u0), (5, ZI y12)] ?_; intro a ha; exact ⟨y10, y12, y13, o14, n23, ha, hB, hS, h11⟩
  ·rintro a w15 ⟨y10, y12, y13, o14, rfl, ha, hB, hS, h11⟩; dsimp only at hF; refine ap_k ha ?_; refine Zn (Zm rfl (Zm rfl ?_)); obtain ⟨x57, hx57, hF⟩ := bind_some hF; refine Zo ?_; refine iH_ h11 hx57 rfl rfl Tryz.underlying22 Tryz.sizeOf41 ?_; obtain ⟨x58, hx58, hF⟩ := bind_some hF; obtain ⟨x59, hx59, hF⟩ := bind_some hF; have h64 := nr_ h11 hx59; refine ak_ trivial ?_; refine il_ h11 hx58 hx59 (by decide) rfl Tryz.underlying22 Tryz.zeroValue41 ?_; intro w60 v61 h62 s63; replace hS := hS.trans s63; replace hB := hB.stp s63; refine Ze [(0, u0), (5, ZI y12)] (Zn (Zm rfl (Zm rfl (Zv (kS_ h64 rfl rfl Tryz.underlying22 Tryz.sizeOf41) (Za rfl (Ze [(4, (prev u0 y12.toNat))] (nx (j_ ?_)))))))); have e66 := Option.some.inj hF; subst e66; refine Zr Tryz.results145 [(prev u0 y12.toNat)] ?_; exact ⟨_, o14, rfl, h62, hB, hS⟩
  ·exact fun _ _ h => h.elim
end

section
theorem kQ_ (xs : List (List Int)) (f : List Int → Option Bool) (g : List Int → Bool) (hf : ∀ x, x ∈ xs → f x = some (g x)) (hl : xs.length ≤ 1000000000) :
    ay_ xs f = some ((firstP (fun k x => if g x then some (k : Int) else none) xs 0).getD (-1)) := by
  unfold ay_
  rw [C_ (by omega) (by omega), sb]
  simp only [Int.toNat_natCast]
  rw [fp_ (fun k x => if g x then some (k : Int) else none) xs (fun j x hj _ => by
    unfold aA_
    rw [cv_, hj, sb, hf x (List.mem_of_getElem? hj), sb]
    cases h : g x <;> simp [h, lpP]), sb]
  cases firstP (fun k x => if g x then some (k : Int) else none) xs 0 <;> rfl
end

section
open Go.RowKit
theorem jW_ (ps : List Pv) (G : List Int → Option Bool) (g : List Int → Bool) (hG : ∀ p ∈ ps, G p.x = some (g p.x)) (hl : ps.length ≤ 1000000000) : ∀ (d j i fuel : Nat) (L : List Pv), j + d = ps.length → d < fuel → L.length = ps.length → i ≤ j →
    L.take i = (ps.take j).filter (fun p => !g p.x) → L.drop j = ps.drop j →
    ∃ (L' : List Pv) (i' : Nat), loopF (E_ G) fuel (L, (i : Int), (j : Int)) = some (.inl (L', (i' : Int), (ps.length : Int))) ∧ L'.length = ps.length ∧ i' ≤ ps.length ∧ L'.take i' = ps.filter (fun p => !g p.x)
  | 0, j, i, fuel, L, hj, hf, hL, hi, ht, hd => by
    obtain ⟨fuel, rfl⟩ : ∃ q, fuel = q + 1 := ⟨fuel - 1, by omega⟩
    have e1 : E_ G (L, (i : Int), (j : Int)) = some (.out (L, (i : Int), (j : Int))) := by
      unfold E_
      simp only
      rw [if_neg (by simp; omega)]
    refine ⟨L, i, ?_, hL, by omega, ?_⟩
    · simp only [loopF, e1]
      rw [show j = ps.length by omega]
    · rw [ht, List.take_of_length_le (by omega)]
  | d + 1, j, i, fuel, L, hj, hf, hL, hi, ht, hd => by
    obtain ⟨fuel, rfl⟩ : ∃ q, fuel = q + 1 := ⟨fuel - 1, by omega⟩
    have hjl : j < ps.length := by omega
    have hx : L[j]? = some ps[j] := by
      have h1 := congrArg (fun l => l[0]?) hd
      simp only [List.getElem?_drop, Nat.add_zero] at h1
      rw [h1, List.getElem?_eq_getElem hjl]
    have hdr : L.drop (j + 1) = ps.drop (j + 1) := by
      have h1 := congrArg (List.drop 1) hd
      rw [List.drop_drop, List.drop_drop] at h1
      exact h1
    have htk : (ps.take (j + 1)).filter (fun p => !g p.x) = (ps.take j).filter (fun p => !g p.x) ++ (if g ps[j].x then [] else [ps[j]]) := by
      rw [List.take_add_one, List.filter_append, List.getElem?_eq_getElem hjl]
      cases h : g ps[j].x <;> simp [h]
    have hix : ix L (j : Int) = some ps[j] := by unfold ix; rw [if_pos (by omega), Int.toNat_natCast, hx]
    cases hg : g ps[j].x
    · have e1 : E_ G (L, (i : Int), (j : Int)) = some (.go (L.set i ps[j], ((i + 1 : Nat) : Int), ((j + 1 : Nat) : Int))) := by
        unfold E_
        simp only
        rw [if_pos (by simp; omega), hix, sb, hG _ (List.getElem_mem hjl), sb, hg, if_pos (by simp)]
        have h1 : ix L (i : Int) = some (L[i]'(by omega)) := by unfold ix; rw [if_pos (by omega), Int.toNat_natCast, List.getElem?_eq_getElem]
        have h2 : st L (i : Int) ps[j] = some (L.set i ps[j]) := by unfold st; rw [if_pos (by omega), Int.toNat_natCast]
        rw [h1, sb, h2, sb, C_ (by omega) (by omega), sb, C_ (by omega) (by omega), sb]
        rfl
      have := jW_ ps G g hG hl d (j + 1) (i + 1) fuel (L.set i ps[j]) (by omega) (by omega) (by rw [List.length_set]; exact hL) (by omega) (by
        rw [htk, hg, ← ht, List.take_set, List.take_add_one, List.getElem?_eq_getElem (show i < L.length by omega)]
        refine List.ext_getElem? fun q => ?_
        rw [List.getElem?_set]
        by_cases hq : i = q
        · subst hq
          have : (L.take i).length = i := by rw [List.length_take]; omega
          rw [if_pos rfl, if_pos (by simp; omega), List.getElem?_append_right (by omega), this]; simp
        · rw [if_neg hq]
          by_cases hq2 : q < i
          · rw [List.getElem?_append_left (by rw [List.length_take]; omega), List.getElem?_append_left (by rw [List.length_take]; omega)]
          · rw [List.getElem?_eq_none (by simp; omega), List.getElem?_eq_none (by simp; omega)]) (by
        rw [List.drop_set_of_lt (by omega)]; exact hdr)
      obtain ⟨L', i', g1, g2⟩ := this
      exact ⟨L', i', by simp only [loopF, e1]; exact g1, g2⟩
    · have e1 : E_ G (L, (i : Int), (j : Int)) = some (.go (L, (i : Int), ((j + 1 : Nat) : Int))) := by
        unfold E_
        simp only
        rw [if_pos (by simp; omega), hix, sb, hG _ (List.getElem_mem hjl), sb, hg, if_neg (by simp), C_ (by omega) (by omega), sb]
        rfl
      have := jW_ ps G g hG hl d (j + 1) i fuel L (by omega) (by omega) hL (by omega) (by rw [htk, hg, ht]; simp) hdr
      obtain ⟨L', i', g1, g2⟩ := this
      exact ⟨L', i', by simp only [loopF, e1]; exact g1, g2⟩
theorem rJ_ (fuel : Nat) (ps : List Pv) (G : List Int → Option Bool) (g : List Int → Bool) (hG : ∀ p ∈ ps, G p.x = some (g p.x)) (hl : ps.length ≤ 1000000000) (hf : ps.length < fuel) : aO_ fuel ps G = some (ps.filter fun p => !g p.x) := by
  unfold aO_
  rw [kQ_ (ps.map fun q => q.x) G g (fun x hx => by
    obtain ⟨p, hp, rfl⟩ := List.mem_map.1 hx
    exact hG p hp) (by rw [List.length_map]; exact hl), sb]
  cases hc : firstP (fun k x => if g x then some (k : Int) else none) (ps.map fun q => q.x) 0 with
  | none =>
    have hall := cI_.1 hc
    rw [Option.getD_none, if_pos (by rfl)]
    congr 1
    refine (List.filter_eq_self.2 fun p hp => ?_).symm
    obtain ⟨j, hj⟩ := List.getElem?_of_mem hp
    have := hall j p.x (by rw [List.getElem?_map, hj]; rfl)
    cases h : g p.x
    · rfl
    · rw [h] at this; simp at this
  | some r =>
    have hmin : ∃ k : Nat, r = (k : Int) ∧ k < ps.length ∧ ∀ (i : Nat) p, i < k → ps[i]? = some p → g p.x = false := by
      clear hG hl hf
      have key : ∀ (xs : List Pv) (k : Nat) (r : Int), firstP (fun k x => if g x then some (k : Int) else none) (xs.map fun q => q.x) k = some r → ∃ m : Nat, r = ((k + m : Nat) : Int) ∧ m < xs.length ∧ ∀ (i : Nat) p, i < m → xs[i]? = some p → g p.x = false := by
        intro xs
        induction xs with
        | nil => intro k r h; cases h
        | cons x xs ih =>
          intro k r h
          simp only [List.map_cons, firstP] at h
          cases hg : g x.x
          · rw [hg] at h
            simp only [Bool.false_eq_true, if_false] at h
            obtain ⟨m, h1, h2, h3⟩ := ih (k + 1) r h
            refine ⟨m + 1, by rw [h1]; congr 1; omega, by rw [List.length_cons]; omega, fun i p hi hp => ?_⟩
            cases i with
            | zero => simp at hp; subst hp; exact hg
            | succ i => exact h3 i p (by omega) (by simpa using hp)
          · rw [hg] at h
            simp only [if_true, Option.some.injEq] at h
            exact ⟨0, by rw [← h]; rfl, by simp, fun i p hi => absurd hi (by omega)⟩
      obtain ⟨m, h1, h2, h3⟩ := key ps 0 r hc
      exact ⟨m, by rw [h1, Nat.zero_add], h2, h3⟩
    obtain ⟨k, rfl, hk, hno⟩ := hmin
    have hgk : g ps[k].x = true := by
      obtain ⟨j, x, h1, h2⟩ := db_ hc
      rw [Nat.zero_add] at h2
      split at h2
      · rename_i hg
        cases h2
        rw [List.getElem?_map, List.getElem?_eq_getElem hk] at h1
        cases h1
        exact hg
      · cases h2
    have hpre : (ps.take k).filter (fun p => !g p.x) = ps.take k := List.filter_eq_self.2 fun p hp => by
      obtain ⟨i, hi⟩ := List.getElem?_of_mem hp
      rw [List.getElem?_take] at hi
      split at hi
      · rename_i hik
        rw [hno i p hik hi]; rfl
      · cases hi
    have hpre2 : (ps.take (k + 1)).filter (fun p => !g p.x) = ps.take k := by
      rw [List.take_add_one, List.filter_append, hpre, List.getElem?_eq_getElem hk]
      simp [hgk]
    obtain ⟨L', i', g1, g2, g3, g4⟩ := jW_ ps G g hG hl (ps.length - (k + 1)) (k + 1) k fuel ps (by omega) (by omega) rfl (by omega) hpre2.symm rfl
    rw [Option.getD_some, if_neg (by simp), C_ (by omega) (by omega), sb, show ((k : Int) + 1) = ((k + 1 : Nat) : Int) by omega, g1, sb]
    have c1 : cut L' (i' : Int) L'.length = some (L'.drop i') := by
      unfold cut
      rw [if_pos (by omega)]; simp
    have c2 : cut L' 0 (i' : Int) = some (L'.take i') := by
      unfold cut
      rw [if_pos (by omega)]; simp
    simp only
    rw [c1, sb, sb, c2, sb, g4]
def delL (G : List Int → Option Bool) (xs : List (List Int)) : Option (List (List Int)) := if (decide (xs.length ≤ 1000000000) && xs.all fun x => (G x).isSome) = true then some (xs.filter fun x => (G x).getD true == false) else none
def apD (a b : Pv) : Prop := ∀ g, a.v.ownBlock = some g → b.v.ownBlock ≠ some g
def sl3 (w : World) (G : Nat) : World := { w with heap := w.heap.extract 0 G }
set_option maxRecDepth 100000 in
set_option maxHeartbeats 2000000 in
theorem qa_ {k kr : Nat} {o : Tg} {wB w : World} {v u : Value} {vs : List Hv} {xs ys : List (List Int)} {G : List Int → Option Bool} (h : Ow wB.heap.size 41 k o w v vs) (hr : Rws wB.heap.size 3 kr o w vs xs) (hKp : Keeps wB w) (hfn : FnV Tryz.prog wB u G) (hk : k ≠ 0) (hkr : kr ≠ 0) (hne : kr ≠ k) (hF : delL G xs = some ys) :
    Calls Tryz.prog 145 #[v, u] w fun e w' => ∃ v' vs' o', e = .returned v' ∧ Ow wB.heap.size 41 k o' w' v' vs' ∧ Rws wB.heap.size 3 kr o' w' vs' ys ∧ Stp k o w o' w' := by
  unfold delL at hF
  split at hF
  rotate_left
  · cases hF
  rename_i hcond
  rw [Bool.and_eq_true, decide_eq_true_eq, List.all_eq_true] at hcond
  obtain ⟨hl, hsome⟩ := hcond
  cases hF
  have hB : wB.heap.size ≤ w.heap.size := hKp.size
  -- the rows under their values
  obtain ⟨r1, r2, r3⟩ := hr
  let ps : List Pv := List.zipWith (fun u x => (⟨u.v, x⟩ : Pv)) vs xs
  have hpl : ps.length = xs.length := by show (List.zipWith _ vs xs).length = _; rw [List.length_zipWith, r1, Nat.min_self]
  have hpi : ∀ (i : Nat) (u : Hv) (x : List Int), vs[i]? = some u → xs[i]? = some x → ps[i]? = some (⟨u.v, x⟩ : Pv) := fun i u x a b => by
    show (List.zipWith _ vs xs)[i]? = _
    rw [List.getElem?_zipWith, a, b]
  have hpx : ps.map (·.x) = xs := by
    apply List.ext_getElem?
    intro i
    by_cases hi : i < xs.length
    · rw [List.getElem?_map, hpi i (vs[i]'(by omega)) xs[i] (List.getElem?_eq_getElem (by omega)) (List.getElem?_eq_getElem hi), List.getElem?_eq_getElem hi]; rfl
    · rw [List.getElem?_eq_none (by rw [List.length_map, hpl]; omega), List.getElem?_eq_none (by omega)]
  have hpe : ∀ (i : Nat) (p : Pv), ps[i]? = some p → vs[i]? = some (⟨p.v⟩ : Hv) ∧ xs[i]? = some p.x := fun i p hp => by
    have hi : i < xs.length := by have := (List.getElem?_eq_some_iff.1 hp).1; omega
    have := hpi i (vs[i]'(by omega)) xs[i] (List.getElem?_eq_getElem (by omega)) (List.getElem?_eq_getElem hi)
    rw [hp] at this
    cases this
    exact ⟨List.getElem?_eq_getElem (by omega), List.getElem?_eq_getElem hi⟩
  have hrow : ∀ p ∈ ps, Ow wB.heap.size 3 kr o w p.v p.x := fun p hp => by
    obtain ⟨i, hi⟩ := List.getElem?_of_mem hp
    obtain ⟨a, b⟩ := hpe i p hi
    exact r2 i ⟨p.v⟩ p.x a b
  have hpin : ∀ p ∈ ps, p.x ∈ xs := fun p hp => by rw [← hpx]; exact List.mem_map.2 ⟨p, hp, rfl⟩
  have hG : ∀ p ∈ ps, G p.x = some ((G p.x).getD true) := fun p hp => by
    have := hsome p.x (hpin p hp)
    cases hg : G p.x with
    | none => rw [hg] at this; cases this
    | some b => rfl
  have hap : ps.Pairwise apD := by
    rw [List.pairwise_iff_getElem]
    intro i j hi hj hij g h1 h2
    obtain ⟨a1, b1⟩ := hpe i _ (List.getElem?_eq_getElem hi)
    obtain ⟨a2, b2⟩ := hpe j _ (List.getElem?_eq_getElem hj)
    have := r3 i j _ _ g a1 a2 h1 h2
    omega
  let o2 : Tg := frz kr o
  have ho2 : ∀ b, o b = k → o2 b = k := fun b hb => by show (if o b = kr then 0 else o b) = k; rw [hb, if_neg (Ne.symm hne)]
  have ho2' : ∀ b, o2 b = k → o b = k := fun b hb => by
    have hb : (if o b = kr then 0 else o b) = k := hb
    split at hb
    · exact absurd hb.symm hk
    · exact hb
  have hrd2 : ∀ p ∈ ps, RdL o2 w p.v p.x := fun p hp => (hrow p hp).frz
  have hsp1 : Ow wB.heap.size 41 k o2 w v ps := by
    obtain ⟨css, c1, c2, c3, c4⟩ := h
    refine ⟨css, by rw [c1, r1, hpl], ?_, fun g hg => ho2 g (c3 g hg), fun i cs p hc hp => ?_⟩
    · rw [hpl, ← r1]; exact c2
    · obtain ⟨a, b⟩ := hpe i p hp
      obtain ⟨q1, q2⟩ := c4 i cs _ hc a
      exact ⟨q1, q2, hrd2 p (List.mem_of_getElem? hp)⟩
  clear h r2 r3
  -- as the call sees it
  let Gb : Nat := match v.ownBlock with | some g => g | none => w.heap.size
  let wb : World := sl3 w Gb
  let oo : Tg := fun b => if o2 b = 0 then 0 else 1
  let o10 : Tg := fun b => if v.ownBlock = some b then 10 else if o2 b = 0 then 0 else 1
  have hGw : Gb ≤ w.heap.size := by
    show (match v.ownBlock with | some g => g | none => w.heap.size) ≤ _
    cases hv : v.ownBlock with
    | none => exact Nat.le_refl _
    | some g => exact Nat.le_of_lt (hsp1.ltw g hv).2
  have hBG : wB.heap.size ≤ Gb := by
    show wB.heap.size ≤ (match v.ownBlock with | some g => g | none => w.heap.size)
    cases hv : v.ownBlock with
    | none => exact hB
    | some g => exact (hsp1.ltw g hv).1
  have hwb : wb.heap.size = Gb := by show (w.heap.extract 0 Gb).size = Gb; simp; omega
  have hog : ∀ g, v.ownBlock = some g → o2 g = k := hsp1.tagged
  have hKb : Keeps wB wb := by
    refine ⟨hKp.os, hKp.tape, hKp.output, by rw [hwb]; exact hBG, fun b hb => ?_⟩
    show (w.heap.extract 0 Gb)[b]? = wB.heap[b]?
    rw [Array.getElem?_extract, if_pos (by omega), Nat.zero_add]
    exact hKp.block b hb
  have hBs : Bs oo o10 wb w := by
    refine ⟨⟨rfl, rfl, rfl, by rw [hwb]; exact hGw, fun b hb => ?_⟩, fun b hb => ?_⟩
    · show w.heap[b]? = (w.heap.extract 0 Gb)[b]?
      rw [Array.getElem?_extract]
      rw [hwb] at hb
      rw [if_pos (by omega)]; simp
    · rw [hwb] at hb
      show (if v.ownBlock = some b then 10 else if o2 b = 0 then 0 else 1) = if (if o2 b = 0 then 0 else 1) = 0 then 0 else 1
      rw [if_neg (fun e => by
        have : Gb = b := by show (match v.ownBlock with | some g => g | none => w.heap.size) = b; rw [e]
        omega)]
      split <;> simp
  have hO : ∀ b, b < w.heap.size → o10 b ≠ 999 := fun b _ => by
    show (if v.ownBlock = some b then 10 else if o2 b = 0 then 0 else 1) ≠ 999
    split
    · decide
    · split <;> decide
  have h10 : ∀ b, o2 b = 0 → o10 b = 0 := fun b hb => by
    show (if v.ownBlock = some b then 10 else if o2 b = 0 then 0 else 1) = 0
    rw [if_neg (fun e => by have := hog b e; rw [hb] at this; exact hk this.symm), if_pos hb]
  have hsp2 : Ow wb.heap.size 41 10 o10 w v ps := by
    obtain ⟨css, c1, c2, c3, c4⟩ := hsp1
    refine ⟨css, c1, ⟨c2.1, ?_⟩, fun g hg => if_pos hg, fun i cs p hc hp => ?_⟩
    · rcases c2.2 with q | ⟨g, cap, cur, rfl, q⟩
      · exact .inl q
      · refine .inr ⟨g, cap, cur, rfl, ?_, q.2⟩
        rw [hwb]
        exact Nat.le_refl _
    · obtain ⟨q1, q2, q3⟩ := c4 i cs p hc hp
      exact ⟨q1, q2, q3.mv (Nat.le_refl _) fun b _ hb => ⟨rfl, h10 b hb⟩⟩
  refine (dS_ 1000000001 wb w oo o10 hBs hO v ps hsp2 u G (hfn.keep hKb) _ (rJ_ 1000000001 ps G (fun x => (G x).getD true) hG (by omega) (by omega))).mono ?_
  rintro e2 w2 ⟨v2, o3, rfl, hsp3, hBs3, hst2⟩
  -- what is left
  have hxs : (ps.filter fun p => !(G p.x).getD true).map (·.x) = xs.filter fun x => (G x).getD true == false := by
    rw [← hpx, List.filter_map]
    congr 1
    refine List.filter_congr fun p _ => ?_
    show (!(G p.x).getD true) = ((G p.x).getD true == false)
    cases (G p.x).getD true <;> rfl
  have hsub : (ps.filter fun p => !(G p.x).getD true).Sublist ps := List.filter_sublist
  generalize (ps.filter fun p => !(G p.x).getD true) = r at hsp3 hxs hsub
  have hmem : ∀ p ∈ r, p ∈ ps := fun p hp => hsub.subset hp
  let o' : Tg := fun b => if b < w.heap.size then o b else if o3 b = 10 then k else 0
  have hstep : Stp k o w o' w2 := by
    refine ⟨hst2.os, hst2.tape, hst2.output, hst2.size, fun b hb hnk => ?_, fun b hb => if_pos hb⟩
    exact hst2.block b hb (fun e => by
      have e : (if v.ownBlock = some b then 10 else if o2 b = 0 then 0 else 1) = 10 := e
      split at e
      · rename_i hv
        exact hnk (ho2' b (hog b hv))
      · split at e <;> cases e)
  have hrow2 : ∀ p ∈ r, Ow wB.heap.size 3 kr o' w2 p.v p.x := fun p hp => (hrow p (hmem p hp)).stp hstep hk hne
  have hapr : r.Pairwise apD := hap.sublist hsub
  refine ⟨v2, r.map fun p => ⟨p.v⟩, o', rfl, ?_, ⟨?_, ?_, ?_⟩, hstep⟩
  · obtain ⟨css, c1, c2, c3, c4⟩ := hsp3
    refine ⟨css, by simpa using c1, ?_, fun g hg => ?_, fun i cs u hc hu => ?_⟩
    · rw [List.length_map]
      obtain ⟨q1, q2⟩ := c2
      refine ⟨q1, ?_⟩
      rcases q2 with q2 | ⟨g, cap, cur, e, q3, q4⟩
      · exact .inl q2
      · rw [hwb] at q3
        exact .inr ⟨g, cap, cur, e, Nat.le_trans hBG q3, q4⟩
    · have e3 := c3 g hg
      show (if g < w.heap.size then o g else if o3 g = 10 then k else 0) = k
      split
      · rename_i hgl
        have e4 := hst2.own g hgl
        rw [e3] at e4
        have e5 : (if v.ownBlock = some g then 10 else if o2 g = 0 then 0 else 1) = 10 := e4.symm
        split at e5
        · rename_i hv
          exact ho2' g (hog g hv)
        · split at e5 <;> cases e5
      · simp
    · rw [List.getElem?_map] at hu
      cases hp : r[i]? with
      | none => rw [hp] at hu; cases hu
      | some p =>
        rw [hp] at hu
        cases hu
        obtain ⟨q1, q2, _⟩ := c4 i cs p hc hp
        exact ⟨q1, q2⟩
  · rw [List.length_map, ← hxs, List.length_map]
  · intro i u x hu hx
    rw [List.getElem?_map] at hu
    rw [← hxs, List.getElem?_map] at hx
    cases hp : r[i]? with
    | none => rw [hp] at hu; cases hu
    | some p =>
      rw [hp] at hu hx
      cases hu; cases hx
      exact hrow2 p (List.mem_of_getElem? hp)
  · intro i j u u' g hu hu' h1 h2
    rw [List.getElem?_map] at hu hu'
    cases hp : r[i]? with
    | none => rw [hp] at hu; cases hu
    | some p =>
      cases hq : r[j]? with
      | none => rw [hq] at hu'; cases hu'
      | some q =>
        rw [hp] at hu
        rw [hq] at hu'
        cases hu; cases hu'
        obtain ⟨hi, ei⟩ := List.getElem?_eq_some_iff.1 hp
        obtain ⟨hj, ej⟩ := List.getElem?_eq_some_iff.1 hq
        have hpw := List.pairwise_iff_getElem.1 hapr
        rcases Nat.lt_trichotomy i j with hlt | heq | hgt
        · have := hpw i j hi hj hlt g
          rw [ei, ej] at this
          exact absurd h2 (this h1)
        · exact heq
        · have := hpw j i hj hi hgt g
          rw [ei, ej] at this
          exact absurd h1 (this h2)
end

end Go.Proofs.YtdbbeldgdgonfaaGreat
