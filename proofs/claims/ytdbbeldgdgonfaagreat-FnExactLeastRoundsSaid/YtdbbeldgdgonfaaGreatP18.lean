/- Part 18 of what this claim rests on (GCpf, Sld, Sle), packed by pack.py. -/
import Derived.Test.YtdbbeldgdgonfaaGreatP03
import Derived.Test.YtdbbeldgdgonfaaGreatP09
import Derived.Test.YtdbbeldgdgonfaaGreatP17
namespace Go.Proofs.YtdbbeldgdgonfaaGreat
set_option linter.unusedSimpArgs false
set_option linter.unusedVariables false

section
set_option maxRecDepth 100000
set_option maxHeartbeats 2000000
open Go.RowKit
def T_ (y5 : Int) : ((List Pv) × Int × Int) → Option (Lp ((List Pv) × Int × Int) ((List Pv) × Int × Int) (List Pv)) := fun (s : (List Pv) × Int × Int) =>
  (cut s.1 y5 s.1.length) >>= fun x115 =>
  if decide (s.2.2 < ((s.1.length : Int) - y5)) then
    (ix s.1 (y5 + s.2.2)) >>= fun x117 =>
    (nn s.2.2) >>= fun x118 =>
    (cut s.1 y5 s.1.length) >>= fun x119 =>
    (ck (s.2.2 - 1)) >>= fun x124 =>
    (ix s.1 (y5 + x124)) >>= fun x125 =>
    (nn x124) >>= fun x126 =>
    (cut s.1 y5 s.1.length) >>= fun x127 =>
    (aK_ x117.x x125.x) >>= fun x193 =>
    if !x193 then
      (ix s.1 (y5 + s.2.2)) >>= fun x200 =>
      (nn s.2.2) >>= fun x201 =>
      (cut s.1 y5 s.1.length) >>= fun x202 =>
      (ix s.1 s.2.1) >>= fun x209 =>
      (st s.1 s.2.1 x200) >>= fun x219 =>
      (ck (s.2.1 + 1)) >>= fun x221 =>
      (ck (s.2.2 + 1)) >>= fun x222 =>
      some (.go (x219, x221, x222))
    else
      (ck (s.2.2 + 1)) >>= fun x224 =>
      some (.go (s.1, s.2.1, x224))
  else
    some (.out (s.1, s.2.1, s.2.2))
def N_ (fuel : Nat) : ((List Pv) × Int) → Option (Lp ((List Pv) × Int) ((List Pv) × Int) (List Pv)) := fun (s : (List Pv) × Int) =>
  if decide (s.2 < (s.1.length : Int)) then
    (ix s.1 s.2) >>= fun x19 =>
    (ck (s.2 - 1)) >>= fun x24 =>
    (ix s.1 x24) >>= fun x25 =>
    (aK_ x19.x x25.x) >>= fun x91 =>
    if x91 then
      (cut s.1 s.2 s.1.length) >>= fun x98 =>
      (loopF (T_ s.2) fuel (s.1, s.2, 1)) >>= fun q105 =>
      match q105 with
      | .inl (y99, y101, y102) =>
        (cut y99 y101 y99.length) >>= fun x227 =>
        (cut y99 y101 y99.length) >>= fun x228 =>
        (cut y99 0 y101) >>= fun x229 =>
        some (.ret x229)
      | .inr _ => none
    else
      (ck (s.2 + 1)) >>= fun x237 =>
      some (.go (s.1, x237))
  else
    some (.out (s.1, s.2))
def aL_ (fuel : Nat) (p0 : List Pv) : Option (List Pv) :=
  if decide ((p0.length : Int) < 2) then
    some p0
  else
    (loopF (N_ fuel) fuel (p0, 1)) >>= fun q8 =>
    match q8 with
    | .inl (y3, y5) =>
      some y3
    | .inr r' => some r'

def cf_ (oo o : Tg) (w w1 : World) (r : List Pv) : Ending → World → Prop := fun e w' => ∃ (v0 : Value) (o' : Tg), e = .returned v0 ∧ Ow w.heap.size 41 10 o' w' v0 r ∧ Bs oo o' w w' ∧ Stp 10 o w1 o' w'
theorem dG_ (fuel : Nat) (w w1 : World) (oo o : Tg) (hB : Bs oo o w w1) (hO : ∀ b, b < w1.heap.size → o b ≠ 999) (u0 : Value) (p0 : List Pv) (g0 : Ow w.heap.size 41 10 o w1 u0 p0) (r : List Pv) (hF : aL_ fuel p0 = some r) :
    Calls Tryz.prog 178 #[u0, (.func (.func 179) #[] #[])] w1 (cf_ oo o w w1 r) := by
 unfold aL_ at hF; have hS : Stp 10 o w1 o w1 := Stp.refl _ _ _; refine h_ (n := 66) (vs := [u0, (.func (.func 179) #[] #[])]) Tryz.func178 rfl rfl ?_; refine Zq (Za rfl (Ze [(0, u0), (1, (.func (.func 179) #[] #[]))] (nx (b_ (Zq (Zm rfl (Zv (bA_ rfl g0 Tryz.underlying22) (Zv (r_ rfl rfl) (Ze [(0, u0), (1, (.func (.func 179) #[] #[])), (10, (.bool (decide ((p0.length : Int) < 2))))] (nx ?_)))))))))); refine l_ rfl (fun t1 => ?_) (fun t1 => ?_)
 ·rw [if_pos t1] at hF; refine Zq (Zm rfl (Za rfl (Ze [(4, u0)] (nx (j_ (A_ ?_)))))); have e2 := Option.some.inj hF; subst e2; refine Zr Tryz.results178 [u0] ?_; exact ⟨_, o, rfl, g0, hB, hS⟩
 ·rw [if_neg (by rw [t1]; decide)] at hF; refine f_ (nx (b_ (Zq (Za rfl (Ze [(0, u0), (1, (.func (.func 179) #[] #[])), (5, ZI 1)] (nx ?_)))))); obtain ⟨q8, hq8, hF⟩ := bind_some hF; refine z_ (fun a w7 => ∃ (y3 : List Pv) (y5 : Int) (o6 : Tg), q8 = .inl (y3, y5) ∧ Fr a 66 [(0, u0)] ∧ Bs oo o6 w w7 ∧ Stp 10 o w1 o6 w7 ∧ Ow w.heap.size 41 10 o6 w7 u0 y3) (fun a w' => ∃ r', q8 = .inr r' ∧ bodyPost Tryz.prog Tryz.f178 (cf_ oo o w w1 r') .ret a w') ?_ ?_ ?_
  ·refine d_ ?_; refine y_ (fun (K : Nat) a w7 => ∃ (y3 : List Pv) (y5 : Int) (o6 : Tg), loopF (N_ fuel) K (y3, y5) = some q8 ∧ Fr a 66 [(0, u0), (1, (.func (.func 179) #[] #[])), (5, ZI y5)] ∧ Bs oo o6 w w7 ∧ Stp 10 o w1 o6 w7 ∧ Ow w.heap.size 41 10 o6 w7 u0 y3) fuel (fun a ha => ⟨p0, 1, o, hq8, ha.sub (r := [(0, u0), (1, (.func (.func 179) #[] #[])), (5, ZI 1)]) ⟨rfl, rfl, rfl, trivial⟩, hB, hS, g0⟩) ?_; rintro K12 a w7 ⟨y3, y5, o6, l9, ha, hB, hS, h4⟩; obtain ⟨K16, q13, e17, b14, n15⟩ := X_ l9; dsimp only [N_] at b14; refine L_ ha ?_; refine b_ (Zq (Zm rfl (Zm rfl (Zv (bA_ rfl h4 Tryz.underlying22) (Zv (r_ rfl rfl) (Ze [(0, u0), (1, (.func (.func 179) #[] #[])), (5, ZI y5), (15, (.bool (decide (y5 < (y3.length : Int)))))] (nx ?_))))))); refine l_ rfl (fun t18 => ?_) (fun t18 => ?_)
   ·rw [if_pos t18] at b14; refine f_ (nx (b_ (d_ (b_ ?_)))); obtain ⟨x19, hx19, b14⟩ := bind_some b14; obtain ⟨x24, hx24, b14⟩ := bind_some b14; obtain ⟨x25, hx25, b14⟩ := bind_some b14; refine am_ (o := o6) [(0, u0), (1, (.func (.func 179) #[] #[])), (5, ZI y5)] [0, 1, 5] [18, 19, 20, 21, 22, 23, 24, 25, 26, 27] [[], [], [], [1, 2], [3], [], [], [6], [5, 7], [8]] [none, none, none, none, none, none, none, none, none, none] [999, 999, 999, 999, 999, 999, 999, 999, 999, 999] [0, 0, 0, 10, 0, 0, 0, 0, 10, 0] [999] [fun v _ _ => v = (.func (.func 179) #[] #[]), fun v _ _ => v = u0, fun v _ _ => v = (ZI y5), fun v o w9 => ∃ vl, v = adr vl (y5.toNat * Rp.sz Pv) ∧ Ow w.heap.size 41 10 o w9 vl y3, fun v o w9 => RdL o w9 v (x19.x : List Int), fun v _ _ => v = u0, fun v _ _ => v = (ZI y5), fun v _ _ => v = (ZI x24), fun v o w9 => ∃ vl, v = adr vl (x24.toNat * Rp.sz Pv) ∧ Ow w.heap.size 41 10 o w9 vl y3, fun v o w9 => RdL o w9 v (x25.x : List Int)] (fun o8 w8 => Bs oo o8 w w8 ∧ Stp 10 o w1 o8 w8 ∧ Ow w.heap.size 41 10 o8 w8 u0 y3) G_ (by kernel_rfl) rfl ⟨rfl, rfl, rfl, trivial⟩ ⟨hB, hS, h4⟩ ?_ ⟨w_ _, w_ _, w_ _, fun _ _ _ _ _ _ h0 hb ⟨vl, e, h⟩ hs => ⟨vl, e, h.stp hs h0.1 (Ne.symm hb)⟩, fun _ _ _ _ _ _ h0 hb h hs => h.stp hs h0.1, w_ _, w_ _, w_ _, fun _ _ _ _ _ _ h0 hb ⟨vl, e, h⟩ hs => ⟨vl, e, h.stp hs h0.1 (Ne.symm hb)⟩, fun _ _ _ _ _ _ h0 hb h hs => h.stp hs h0.1, trivial⟩ ?_ ?_
    ·rintro t9 o1 w1 o2 w2 ht9 ⟨hB, hS, h4⟩ hs9; have ht9 : t9 = 999 := by simpa using ht9
     subst ht9; all_goals exact ⟨hB.stp hs9 (by decide), hS.tr9 hO hs9, h4.stp hs9 (by decide) (by decide)⟩
    ·refine ⟨?_, ?_, ?_, ?_, ?_, ?_, ?_, ?_, ?_, ?_, trivial⟩
     ·rintro o30 w31 a32 ha ⟨hB, hS, h4⟩ -; refine Zs ha ?_; refine g_ (k_ rfl) ?_; exact Zx rfl
     ·rintro o33 w34 a35 ha ⟨hB, hS, h4⟩ -; refine Zs ha ?_; refine g_ (k_ rfl) ?_; exact Zx rfl
     ·rintro o36 w37 a38 ha ⟨hB, hS, h4⟩ -; refine Zs ha ?_; refine g_ (k_ rfl) ?_; exact Zx rfl
     ·rintro o39 w40 a41 ha ⟨hB, hS, h4⟩ ⟨r42, r43, -⟩; have ha := Fr.cons (d := 19) ha r42; have ha := Fr.cons (d := 20) ha r43; refine Zs ha ?_; refine fT_ h4 hx19 rfl rfl Tryz.underlying22 Tryz.sizeOf41 ?_; exact ⟨_, Stp.refl _ _ _, ⟨_, rfl, h4⟩⟩
     ·rintro o44 w45 a46 ha ⟨hB, hS, h4⟩ ⟨r47, -⟩; obtain ⟨v48, e49, h50⟩ := r47; have ha := Fr.cons (d := 21) ha e49; refine Zs ha ?_; refine ey_ h50 hx19 rfl rfl Tryz.isAgg41 ?_; intro c51 h52; obtain ⟨e53, -, h54⟩ := h52; cases e53
      exact ⟨_, Stp.refl _ _ _, h54⟩
     ·rintro o55 w56 a57 ha ⟨hB, hS, h4⟩ -; refine Zs ha ?_; refine g_ (k_ rfl) ?_; exact Zx rfl
     ·rintro o58 w59 a60 ha ⟨hB, hS, h4⟩ -; refine Zs ha ?_; refine g_ (k_ rfl) ?_; exact Zx rfl
     ·rintro o61 w62 a63 ha ⟨hB, hS, h4⟩ ⟨r64, -⟩; have ha := Fr.cons (d := 24) ha r64; refine Zs ha ?_; refine g_ (bD_ rfl rfl hx24) ?_; exact Zx rfl
     ·rintro o65 w66 a67 ha ⟨hB, hS, h4⟩ ⟨r68, r69, -⟩; have ha := Fr.cons (d := 23) ha r68; have ha := Fr.cons (d := 25) ha r69; refine Zs ha ?_; refine fT_ h4 hx25 rfl rfl Tryz.underlying22 Tryz.sizeOf41 ?_; exact ⟨_, Stp.refl _ _ _, ⟨_, rfl, h4⟩⟩
     ·rintro o70 w71 a72 ha ⟨hB, hS, h4⟩ ⟨r73, -⟩; obtain ⟨v74, e75, h76⟩ := r73; have ha := Fr.cons (d := 26) ha e75; refine Zs ha ?_; refine ey_ h76 hx25 rfl rfl Tryz.isAgg41 ?_; intro c77 h78; obtain ⟨e79, -, h80⟩ := h78; cases e79
      exact ⟨_, Stp.refl _ _ _, h80⟩
    rintro o81 w82 a83 ha ⟨hB, hS, h4⟩ ⟨r84, -, -, -, r85, -, -, -, -, r86, -⟩; have ha := Fr.cons (d := 18) ha r84; replace r85 : RdL o81 w82 (a83.tmps.getD 22 undef) (x19.x : List Int) := r85; generalize e88 : a83.tmps.getD 22 undef = v87 at r85; have ha := Fr.cons (d := 22) ha e88; replace r86 : RdL o81 w82 (a83.tmps.getD 27 undef) (x25.x : List Int) := r86; generalize e90 : a83.tmps.getD 27 undef = v89 at r86; have ha := Fr.cons (d := 27) ha e90; refine bf_ ha ?_; simp only [List.length_cons, List.length_nil, Nat.zero_add, Nat.reduceAdd, List.drop_succ_cons, List.drop_zero]; obtain ⟨x91, hx91, b14⟩ := bind_some b14; refine Zo ?_; refine nE_ (dr_ w82 _ x19.x r85.z _ x25.x r86.z x91 hx91) Tryz.call179 rfl ⟨rfl, rfl, trivial⟩ ?_; rintro e96 w92 ⟨rfl, k93⟩; have s95 := k93.stp 999 o81; refine ⟨_, rfl, ?_⟩; replace hS := hS.tr9 hO s95; replace h4 := h4.stp s95; replace r85 := r85.stp s95; replace r86 := r86.stp s95; replace hB := hB.stp s95; refine Ze [(0, u0), (1, (.func (.func 179) #[] #[])), (5, ZI y5), (28, (.bool x91))] (nx ?_); refine l_ rfl (fun t97 => ?_) (fun t97 => ?_)
    ·rw [if_pos t97] at b14; refine Zq (Zm rfl (Zm rfl ?_)); obtain ⟨x98, hx98, b14⟩ := bind_some b14; refine Zo ?_; refine iH_ h4 hx98 rfl rfl Tryz.underlying22 Tryz.sizeOf41 ?_; refine Za rfl (Ze [(0, u0), (1, (.func (.func 179) #[] #[])), (5, ZI y5), (6, (subv u0 y5.toNat))] (nx (b_ (Zq (Za rfl (Ze [(0, u0), (1, (.func (.func 179) #[] #[])), (5, ZI y5), (6, (subv u0 y5.toNat)), (7, ZI 1)] (nx ?_))))))); obtain ⟨q105, hq105, b14⟩ := bind_some b14; refine z_ (fun a w104 => ∃ (y99 : List Pv) (y101 : Int) (y102 : Int) (o103 : Tg), q105 = .inl (y99, y101, y102) ∧ Fr a 66 [(0, u0), (5, ZI y101)] ∧ Bs oo o103 w w104 ∧ Stp 10 o w1 o103 w104 ∧ Ow w.heap.size 41 10 o103 w104 u0 y99) (fun _ _ => False) ?_ ?_ ?_
     ·refine d_ ?_; refine y_ (fun (K : Nat) a w104 => ∃ (y99 : List Pv) (y101 : Int) (y102 : Int) (o103 : Tg), loopF (T_ y5) K (y99, y101, y102) = some q105 ∧ Fr a 66 [(0, u0), (1, (.func (.func 179) #[] #[])), (5, ZI y101), (6, (subv u0 y5.toNat)), (7, ZI y102)] ∧ Bs oo o103 w w104 ∧ Stp 10 o w1 o103 w104 ∧ Ow w.heap.size 41 10 o103 w104 u0 y99) fuel (fun a ha => ⟨y3, y5, 1, o81, hq105, ha.sub (r := [(0, u0), (1, (.func (.func 179) #[] #[])), (5, ZI y5), (6, (subv u0 y5.toNat)), (7, ZI 1)]) ⟨rfl, rfl, rfl, rfl, rfl, trivial⟩, hB, hS, h4⟩) ?_; rintro K109 a w104 ⟨y99, y101, y102, o103, l106, ha, hB, hS, h100⟩; obtain ⟨K113, q110, e114, b111, n112⟩ := X_ l106; dsimp only [T_] at b111; refine L_ ha ?_; refine b_ (Zq (Zm rfl (Zm rfl ?_))); obtain ⟨x115, hx115, b111⟩ := bind_some b111; refine Zv (pc_ h100 hx115 rfl Tryz.underlying22) (Zv (r_ rfl rfl) (Ze [(0, u0), (1, (.func (.func 179) #[] #[])), (5, ZI y101), (6, (subv u0 y5.toNat)), (7, ZI y102), (35, (.bool (decide (y102 < ((y99.length : Int) - y5)))))] (nx ?_))); refine l_ rfl (fun t116 => ?_) (fun t116 => ?_)
      ·rw [if_pos t116] at b111; refine f_ (nx (b_ (d_ (b_ ?_)))); obtain ⟨x117, hx117, b111⟩ := bind_some b111; obtain ⟨x118, hx118, b111⟩ := bind_some b111; obtain ⟨x119, hx119, b111⟩ := bind_some b111; obtain ⟨x124, hx124, b111⟩ := bind_some b111; obtain ⟨x125, hx125, b111⟩ := bind_some b111; obtain ⟨x126, hx126, b111⟩ := bind_some b111; obtain ⟨x127, hx127, b111⟩ := bind_some b111; refine am_ (o := o103) [(0, u0), (1, (.func (.func 179) #[] #[])), (5, ZI y101), (6, (subv u0 y5.toNat)), (7, ZI y102)] [0, 1, 5, 6, 7] [38, 39, 40, 41, 42, 43, 44, 45, 46, 47] [[], [], [], [1, 2], [3], [], [], [6], [5, 7], [8]] [none, none, none, none, none, none, none, none, none, none] [999, 999, 999, 999, 999, 999, 999, 999, 999, 999] [0, 0, 0, 10, 0, 0, 0, 0, 10, 0] [999] [fun v _ _ => v = (.func (.func 179) #[] #[]), fun v _ _ => v = (subv u0 y5.toNat), fun v _ _ => v = (ZI y102), fun v o w9 => ∃ vl, v = adr vl ((y5 + y102).toNat * Rp.sz Pv) ∧ Ow w.heap.size 41 10 o w9 vl y99, fun v o w9 => RdL o w9 v (x117.x : List Int), fun v _ _ => v = (subv u0 y5.toNat), fun v _ _ => v = (ZI y102), fun v _ _ => v = (ZI x124), fun v o w9 => ∃ vl, v = adr vl ((y5 + x124).toNat * Rp.sz Pv) ∧ Ow w.heap.size 41 10 o w9 vl y99, fun v o w9 => RdL o w9 v (x125.x : List Int)] (fun o8 w8 => Bs oo o8 w w8 ∧ Stp 10 o w1 o8 w8 ∧ Ow w.heap.size 41 10 o8 w8 u0 y99) G_ (by kernel_rfl) rfl ⟨rfl, rfl, rfl, rfl, rfl, trivial⟩ ⟨hB, hS, h100⟩ ?_ ⟨w_ _, w_ _, w_ _, fun _ _ _ _ _ _ h0 hb ⟨vl, e, h⟩ hs => ⟨vl, e, h.stp hs h0.1 (Ne.symm hb)⟩, fun _ _ _ _ _ _ h0 hb h hs => h.stp hs h0.1, w_ _, w_ _, w_ _, fun _ _ _ _ _ _ h0 hb ⟨vl, e, h⟩ hs => ⟨vl, e, h.stp hs h0.1 (Ne.symm hb)⟩, fun _ _ _ _ _ _ h0 hb h hs => h.stp hs h0.1, trivial⟩ ?_ ?_
       ·rintro t9 o1 w1 o2 w2 ht9 ⟨hB, hS, h100⟩ hs9; have ht9 : t9 = 999 := by simpa using ht9
        subst ht9; all_goals exact ⟨hB.stp hs9 (by decide), hS.tr9 hO hs9, h100.stp hs9 (by decide) (by decide)⟩
       ·refine ⟨?_, ?_, ?_, ?_, ?_, ?_, ?_, ?_, ?_, ?_, trivial⟩
        ·rintro o132 w133 a134 ha ⟨hB, hS, h100⟩ -; refine Zs ha ?_; refine g_ (k_ rfl) ?_; exact Zx rfl
        ·rintro o135 w136 a137 ha ⟨hB, hS, h100⟩ -; refine Zs ha ?_; refine g_ (k_ rfl) ?_; exact Zx rfl
        ·rintro o138 w139 a140 ha ⟨hB, hS, h100⟩ -; refine Zs ha ?_; refine g_ (k_ rfl) ?_; exact Zx rfl
        ·rintro o141 w142 a143 ha ⟨hB, hS, h100⟩ ⟨r144, r145, -⟩; have ha := Fr.cons (d := 39) ha r144; have ha := Fr.cons (d := 40) ha r145; refine Zs ha ?_; refine id_ h100 hx119 hx117 (md_ hx118) rfl rfl Tryz.underlying22 Tryz.sizeOf41 ?_; exact ⟨_, Stp.refl _ _ _, ⟨_, rfl, h100⟩⟩
        ·rintro o146 w147 a148 ha ⟨hB, hS, h100⟩ ⟨r149, -⟩; obtain ⟨v150, e151, h152⟩ := r149; have ha := Fr.cons (d := 41) ha e151; refine Zs ha ?_; refine ey_ h152 hx117 rfl rfl Tryz.isAgg41 ?_; intro c153 h154; obtain ⟨e155, -, h156⟩ := h154; cases e155
         exact ⟨_, Stp.refl _ _ _, h156⟩
        ·rintro o157 w158 a159 ha ⟨hB, hS, h100⟩ -; refine Zs ha ?_; refine g_ (k_ rfl) ?_; exact Zx rfl
        ·rintro o160 w161 a162 ha ⟨hB, hS, h100⟩ -; refine Zs ha ?_; refine g_ (k_ rfl) ?_; exact Zx rfl
        ·rintro o163 w164 a165 ha ⟨hB, hS, h100⟩ ⟨r166, -⟩; have ha := Fr.cons (d := 44) ha r166; refine Zs ha ?_; refine g_ (bD_ rfl rfl hx124) ?_; exact Zx rfl
        ·rintro o167 w168 a169 ha ⟨hB, hS, h100⟩ ⟨r170, r171, -⟩; have ha := Fr.cons (d := 43) ha r170; have ha := Fr.cons (d := 45) ha r171; refine Zs ha ?_; refine id_ h100 hx127 hx125 (md_ hx126) rfl rfl Tryz.underlying22 Tryz.sizeOf41 ?_; exact ⟨_, Stp.refl _ _ _, ⟨_, rfl, h100⟩⟩
        ·rintro o172 w173 a174 ha ⟨hB, hS, h100⟩ ⟨r175, -⟩; obtain ⟨v176, e177, h178⟩ := r175; have ha := Fr.cons (d := 46) ha e177; refine Zs ha ?_; refine ey_ h178 hx125 rfl rfl Tryz.isAgg41 ?_; intro c179 h180; obtain ⟨e181, -, h182⟩ := h180; cases e181
         exact ⟨_, Stp.refl _ _ _, h182⟩
       rintro o183 w184 a185 ha ⟨hB, hS, h100⟩ ⟨r186, -, -, -, r187, -, -, -, -, r188, -⟩; have ha := Fr.cons (d := 38) ha r186; replace r187 : RdL o183 w184 (a185.tmps.getD 42 undef) (x117.x : List Int) := r187; generalize e190 : a185.tmps.getD 42 undef = v189 at r187; have ha := Fr.cons (d := 42) ha e190; replace r188 : RdL o183 w184 (a185.tmps.getD 47 undef) (x125.x : List Int) := r188; generalize e192 : a185.tmps.getD 47 undef = v191 at r188; have ha := Fr.cons (d := 47) ha e192; refine bf_ ha ?_; simp only [List.length_cons, List.length_nil, Nat.zero_add, Nat.reduceAdd, List.drop_succ_cons, List.drop_zero]; obtain ⟨x193, hx193, b111⟩ := bind_some b111; refine Zo ?_; refine nE_ (dr_ w184 _ x117.x r187.z _ x125.x r188.z x193 hx193) Tryz.call179 rfl ⟨rfl, rfl, trivial⟩ ?_; rintro e198 w194 ⟨rfl, k195⟩; have s197 := k195.stp 999 o183; refine ⟨_, rfl, ?_⟩; replace hS := hS.tr9 hO s197; replace h100 := h100.stp s197; replace r187 := r187.stp s197; replace r188 := r188.stp s197; replace hB := hB.stp s197; refine Zv (bg_ rfl) (Ze [(0, u0), (1, (.func (.func 179) #[] #[])), (5, ZI y101), (6, (subv u0 y5.toNat)), (7, ZI y102), (49, (.bool (!x193)))] (nx ?_)); refine l_ rfl (fun t199 => ?_) (fun t199 => ?_)
       ·rw [if_pos t199] at b111; refine Zq (Zm rfl (Zm rfl (Zm rfl (Zm rfl ?_)))); obtain ⟨x200, hx200, b111⟩ := bind_some b111; obtain ⟨x201, hx201, b111⟩ := bind_some b111; obtain ⟨x202, hx202, b111⟩ := bind_some b111; refine Zo ?_; refine qv_ h100 hx202 hx200 (md_ hx201) rfl rfl Tryz.underlying22 Tryz.sizeOf41 ?_; intro b203 f204 c205 h206 h207; obtain ⟨rfl, -, h208⟩ := h207; refine Zv (e_ rfl Tryz.isAgg41 (i_ h206)) ?_; obtain ⟨x209, hx209, b111⟩ := bind_some b111; refine Zo ?_; refine ge_ h100 hx209 rfl rfl Tryz.underlying22 Tryz.sizeOf41 ?_; intro b210 c212 h215 h213 h214; obtain ⟨rfl, -, h216⟩ := h214; obtain ⟨x219, hx219, b111⟩ := bind_some b111; refine ak_ trivial ?_; refine cG_ h100 h215 hx219 (qc_ h208) (by decide) rfl rfl rfl Tryz.sizeOf41 h208.cells1 ?_; intro w217 h220 s218; replace hS := hS.trans s218; replace h208 := h208.stp s218; replace h216 := h216.stp s218; replace hB := hB.stp s218; refine Ze [(0, u0), (1, (.func (.func 179) #[] #[])), (5, ZI y101), (6, (subv u0 y5.toNat)), (7, ZI y102)] (nx (c_ (Zm rfl ?_))); obtain ⟨x221, hx221, b111⟩ := bind_some b111; refine Zv (B_ rfl rfl hx221) (Za rfl (Ze [(0, u0), (1, (.func (.func 179) #[] #[])), (5, ZI x221), (6, (subv u0 y5.toNat)), (7, ZI y102)] (x_ (nx (c_ (Zm rfl ?_)))))); obtain ⟨x222, hx222, b111⟩ := bind_some b111; refine Zv (B_ rfl rfl hx222) (Za rfl (Ze [(0, u0), (1, (.func (.func 179) #[] #[])), (5, ZI x221), (6, (subv u0 y5.toNat)), (7, ZI x222)] (v_ ?_))); have e223 := Option.some.inj b111; subst e223; refine Zk [(0, u0), (1, (.func (.func 179) #[] #[])), (5, ZI x221), (6, (subv u0 y5.toNat)), (7, ZI x222)] ?_; intro a ha; exact ⟨K113, by omega, x219, x221, x222, o183, n112, ha, hB, hS, h220⟩
       ·rw [if_neg (by rw [t199]; decide)] at b111; refine f_ (x_ (nx (c_ (Zm rfl ?_)))); obtain ⟨x224, hx224, b111⟩ := bind_some b111; refine Zv (B_ rfl rfl hx224) (Za rfl (Ze [(0, u0), (1, (.func (.func 179) #[] #[])), (5, ZI y101), (6, (subv u0 y5.toNat)), (7, ZI x224)] (v_ ?_))); have e225 := Option.some.inj b111; subst e225; refine Zk [(0, u0), (1, (.func (.func 179) #[] #[])), (5, ZI y101), (6, (subv u0 y5.toNat)), (7, ZI x224)] ?_; intro a ha; exact ⟨K113, by omega, y99, y101, x224, o183, n112, ha, hB, hS, h100⟩
      ·rw [if_neg (by rw [t116]; decide)] at b111; refine u_ ?_; refine m_ (m_ (R_ ?_)); refine p_ ?_; have e226 := Option.some.inj b111; subst e226; refine Zk [(0, u0), (5, ZI y101)] ?_; intro a ha; exact ⟨y99, y101, y102, o103, n112, ha, hB, hS, h100⟩
     ·rintro a w104 ⟨y99, y101, y102, o103, rfl, ha, hB, hS, h100⟩; dsimp only at b14; refine ap_k ha ?_; refine Zn (Zm rfl (Zm rfl ?_)); obtain ⟨x227, hx227, b14⟩ := bind_some b14; refine Zo ?_; refine iH_ h100 hx227 rfl rfl Tryz.underlying22 Tryz.sizeOf41 ?_; obtain ⟨x228, hx228, b14⟩ := bind_some b14; obtain ⟨x229, hx229, b14⟩ := bind_some b14; have h234 := nr_ h100 hx229; refine ak_ trivial ?_; refine il_ h100 hx228 hx229 (by decide) rfl Tryz.underlying22 Tryz.zeroValue41 ?_; intro w230 v231 h232 s233; replace hS := hS.trans s233; replace hB := hB.stp s233; refine Ze [(0, u0), (5, ZI y101)] (Zn (Zm rfl (Zm rfl (Zv (kS_ h234 rfl rfl Tryz.underlying22 Tryz.sizeOf41) (Za rfl (Ze [(4, (prev u0 y101.toNat))] (nx (j_ (aa_ (A_ (A_ (aa_ ?_)))))))))))); refine bu_ ?_; have e236 := Option.some.inj b14; subst e236; refine fun a ha => ⟨_, n15, ?_⟩; refine D_ (P := Tryz.prog) (vs := [(prev u0 y101.toNat)]) Tryz.results178 ⟨rfl, trivial⟩ ?_ a ha; exact ⟨_, o103, rfl, h232, hB, hS⟩
     ·exact fun _ _ h => h.elim
    ·rw [if_neg (by rw [t97]; decide)] at b14; refine f_ (x_ (nx (c_ (Zm rfl ?_)))); obtain ⟨x237, hx237, b14⟩ := bind_some b14; refine Zv (B_ rfl rfl hx237) (Za rfl (Ze [(0, u0), (1, (.func (.func 179) #[] #[])), (5, ZI x237)] (v_ ?_))); have e238 := Option.some.inj b14; subst e238; refine Zk [(0, u0), (1, (.func (.func 179) #[] #[])), (5, ZI x237)] ?_; intro a ha; exact ⟨K16, by omega, y3, x237, o81, n15, ha, hB, hS, h4⟩
   ·rw [if_neg (by rw [t18]; decide)] at b14; refine u_ ?_; refine m_ (m_ (R_ ?_)); refine p_ ?_; have e239 := Option.some.inj b14; subst e239; refine Zk [(0, u0)] ?_; intro a ha; exact ⟨y3, y5, o6, n15, ha, hB, hS, h4⟩
  ·rintro a w7 ⟨y3, y5, o6, rfl, ha, hB, hS, h4⟩; dsimp only at hF; refine ap_k ha ?_; refine Zn (Zm rfl (Za rfl (Ze [(4, u0)] (nx (j_ ?_))))); have e240 := Option.some.inj hF; subst e240; refine Zr Tryz.results178 [u0] ?_; exact ⟨_, o6, rfl, h4, hB, hS⟩
  ·rintro a w7 ⟨r', rfl, b241⟩; dsimp only at hF; have e242 := Option.some.inj hF; subst e242; exact b241
end

section
open Go.RowKit
theorem goF {σ τ ρ : Type} {f : σ → Option (Lp σ τ ρ)} {s s' : σ} (h : f s = some (.go s')) (fuel : Nat) : loopF f (fuel + 1) s = loopF f fuel s' := by simp only [loopF, h]
theorem outF {σ τ ρ : Type} {f : σ → Option (Lp σ τ ρ)} {s : σ} {t : τ} (h : f s = some (.out t)) (fuel : Nat) : loopF f (fuel + 1) s = some (.inl t) := by simp only [loopF, h]
theorem retF {σ τ ρ : Type} {f : σ → Option (Lp σ τ ρ)} {s : σ} {r : ρ} (h : f s = some (.ret r)) (fuel : Nat) : loopF f (fuel + 1) s = some (.inr r) := by simp only [loopF, h]
theorem qS_ (xs ys : List Int) (hl : xs.length ≤ 1000000000) (hy : ys.length ≤ 1000000000) : aK_ xs ys = some (decide (xs = ys)) := by
  unfold aK_
  by_cases h : xs.length = ys.length
  · rw [if_neg (by simp [h]), C_ (by omega) (by omega), sb]
    simp only [Int.toNat_natCast]
    rw [fp_ (fun k x => if x = ys.getD k 0 then none else some false) xs (fun j x hj _ => by
      have hjl := (List.getElem?_eq_some_iff.1 hj).1
      unfold ba_
      rw [cv_, hj, sb, fH_ _ _ (show j < ys.length by omega), sb]
      have : ys.getD j 0 = ys[j]'(by omega) := by simp [List.getElem?_eq_getElem (show j < ys.length by omega)]
      simp only [this]
      by_cases e : x = ys[j]'(by omega)
      · simp [e, lpP]
      · simp [e, lpP]), sb]
    cases hc : firstP (fun k x => if x = ys.getD k 0 then none else some false) xs 0 with
    | none =>
      have : xs = ys := by
        refine List.ext_getElem h fun j h1 h2 => ?_
        have := cI_.1 hc j _ (List.getElem?_eq_getElem h1)
        rw [Nat.zero_add] at this
        split at this
        · rename_i e
          rw [e]
          simp [List.getElem?_eq_getElem h2]
        · cases this
      simp [outP, this]
    | some r =>
      obtain ⟨j, x, h1, h2⟩ := db_ hc
      rw [Nat.zero_add] at h2
      split at h2
      · cases h2
      · rename_i hne
        cases h2
        have : xs ≠ ys := fun e => hne (by rw [← e]; simp [h1])
        simp [outP, this]
  · rw [if_pos (by simp; omega)]
    have : xs ≠ ys := fun e => h (by rw [e])
    simp [this]
def at' (ps : List Pv) (j : Nat) : Pv := ps.getD j default
def kc (ps : List Pv) (j : Nat) : Bool := decide (j = 0 ∨ (at' ps j).x ≠ (at' ps (j - 1)).x)
def kp (ps : List Pv) (n : Nat) : List Pv := ((List.range n).filter (kc ps)).map (at' ps)
theorem qQ_ {ps : List Pv} {n : Nat} (h : kc ps n = true) : kp ps (n + 1) = kp ps n ++ [at' ps n] := by simp [kp, List.range_succ, h]
theorem rz_ {ps : List Pv} {n : Nat} (h : kc ps n = false) : kp ps (n + 1) = kp ps n := by simp [kp, List.range_succ, h]
theorem rE_ (ps : List Pv) (n : Nat) : (kp ps n).length ≤ n := by
  have := List.length_filter_le (kc ps) (List.range n)
  simpa [kp] using this
theorem gd_ {ps : List Pv} {j : Nat} (h : j < ps.length) : ps[j]? = some (at' ps j) := by
  unfold at'
  rw [List.getD_eq_getElem?_getD, List.getElem?_eq_getElem h]; rfl
theorem ixa {ps : List Pv} {j : Nat} {i : Int} (hi : i = (j : Int)) (h : j < ps.length) : ix ps i = some (at' ps j) := by
  subst hi
  unfold ix
  rw [if_pos (by omega), Int.toNat_natCast]
  exact gd_ h
theorem pd_ (ps : List Pv) : (kp ps ps.length).Sublist ps := by
  have h1 : (kp ps ps.length).Sublist ((List.range ps.length).map (at' ps)) := (List.filter_sublist).map _
  have h2 : (List.range ps.length).map (at' ps) = ps := by
    apply List.ext_getElem?
    intro j
    by_cases hj : j < ps.length
    · rw [List.getElem?_map, List.getElem?_range hj, gd_ hj]; rfl
    · rw [List.getElem?_eq_none (by simp; omega), List.getElem?_eq_none (by omega)]
  rwa [h2] at h1
theorem cutF (ps : List Pv) (lo : Nat) : cut ps (lo : Int) ps.length = if lo ≤ ps.length then some (ps.drop lo) else none := by
  unfold cut
  by_cases h : lo ≤ ps.length
  · rw [if_pos (by omega), if_pos h]; simp
  · rw [if_neg (by omega), if_neg h]
theorem mY_ (ps : List Pv) (hl : ps.length ≤ 1000000000) (hx : ∀ p ∈ ps, p.x.length ≤ 1000000000) (k0 : Nat) (h0 : 1 ≤ k0) : ∀ (d m fuel : Nat) (s : List Pv), m + d = ps.length → d < fuel → k0 + 1 ≤ m → s.length = ps.length →
    (kp ps m).length + 1 ≤ m → s.take (kp ps m).length = kp ps m → s.drop (m - 1) = ps.drop (m - 1) → k0 ≤ (kp ps m).length →
    ∃ s' c, loopF (T_ (k0 : Int)) fuel (s, ((kp ps m).length : Int), ((m - k0 : Nat) : Int)) = some (.inl (s', ((kp ps ps.length).length : Int), c)) ∧ s'.take (kp ps ps.length).length = kp ps ps.length ∧ s'.length = ps.length ∧ k0 ≤ (kp ps ps.length).length
  | 0, m, fuel, s, hd, hf, h1, h2, h3, h4, h5, h6 => by
    obtain ⟨fuel, rfl⟩ : ∃ q, fuel = q + 1 := ⟨fuel - 1, by omega⟩
    have hm : m = ps.length := by omega
    subst hm
    refine ⟨s, ((ps.length - k0 : Nat) : Int), ?_, h4, h2, h6⟩
    refine outF ?_ fuel
    unfold T_
    simp only
    rw [cutF, if_pos (by omega), sb, if_neg (by simp; omega)]
  | d + 1, m, fuel, s, hd, hf, h1, h2, h3, h4, h5, h6 => by
    obtain ⟨fuel, rfl⟩ : ∃ q, fuel = q + 1 := ⟨fuel - 1, by omega⟩
    have hat : ∀ j, m - 1 ≤ j → at' s j = at' ps j := fun j hj => by
      unfold at'
      rw [List.getD_eq_getElem?_getD, List.getD_eq_getElem?_getD]
      have e := congrArg (fun l => l[j - (m - 1)]?) h5
      simp only [List.getElem?_drop] at e
      rw [show m - 1 + (j - (m - 1)) = j by omega] at e
      rw [e]
    have e1 := hat m (by omega)
    have e2 := hat (m - 1) (by omega)
    have hm1 := hx _ (List.mem_of_getElem? (gd_ (ps := ps) (j := m) (by omega)))
    have hm2 := hx _ (List.mem_of_getElem? (gd_ (ps := ps) (j := m - 1) (by omega)))
    have step : ∃ s' , T_ (k0 : Int) (s, ((kp ps m).length : Int), ((m - k0 : Nat) : Int)) = some (.go (s', ((kp ps (m + 1)).length : Int), ((m + 1 - k0 : Nat) : Int))) ∧ s'.length = ps.length ∧ (kp ps (m + 1)).length + 1 ≤ m + 1 ∧
        s'.take (kp ps (m + 1)).length = kp ps (m + 1) ∧ s'.drop m = ps.drop m ∧ k0 ≤ (kp ps (m + 1)).length := by
      unfold T_ nn
      simp only
      rw [cutF, if_pos (by omega), sb, if_pos (by simp; omega), ixa (j := m) (by omega) (by omega), sb, if_pos (by omega), sb, sb, C_ (by omega) (by omega), sb, ixa (j := m - 1) (by omega) (by omega), sb, if_pos (by omega), sb, sb, e1, e2, qS_ _ _ hm1 hm2, sb]
      by_cases hc : (at' ps m).x = (at' ps (m - 1)).x
      · have hk : kc ps m = false := by unfold kc; rw [decide_eq_false_iff_not]; intro h; rcases h with h | h; · omega
                                        · exact h hc
        rw [if_neg (by simp [hc]), C_ (by omega) (by omega), sb, rz_ hk]
        refine ⟨s, ?_, h2, by omega, h4, ?_, h6⟩
        · rw [show ((m - k0 : Nat) : Int) + 1 = ((m + 1 - k0 : Nat) : Int) by omega]
        · have := congrArg (List.drop 1) h5
          rw [List.drop_drop, List.drop_drop, show m - 1 + 1 = m by omega] at this
          exact this
      · have hk : kc ps m = true := by unfold kc; rw [decide_eq_true_eq]; exact .inr hc
        have hlt : (kp ps m).length < s.length := by omega
        rw [if_pos (by simp [hc]), sb, sb, sb, ixa (i := ((kp ps m).length : Int)) (j := (kp ps m).length) rfl hlt, sb]
        unfold Go.Proofs.YtdbbeldgdgonfaaGreat.st
        rw [if_pos (by omega), sb, C_ (by omega) (by omega), sb, C_ (by omega) (by omega), sb, qQ_ hk]
        refine ⟨s.set (kp ps m).length (at' ps m), ?_, by simp [h2], by simp; omega, ?_, ?_, by simp; omega⟩
        · rw [show ((m - k0 : Nat) : Int) + 1 = ((m + 1 - k0 : Nat) : Int) by omega, Int.toNat_natCast]
          simp
        · rw [List.length_append, List.length_cons, List.length_nil, List.take_add_one, List.take_set_of_le (Nat.le_refl _), h4, List.getElem?_set_self hlt]
          rfl
        · rw [List.drop_set_of_lt (by omega)]
          have := congrArg (List.drop 1) h5
          rw [List.drop_drop, List.drop_drop, show m - 1 + 1 = m by omega] at this
          exact this
    obtain ⟨s', g1, g2, g3, g4, g5, g6⟩ := step
    rw [goF g1]
    exact mY_ ps hl hx k0 h0 d (m + 1) fuel s' (by omega) (by omega) (by omega) g2 g3 g4 (by simpa using g5) g6
theorem nd_ (ps : List Pv) (hl : ps.length ≤ 1000000000) (hx : ∀ p ∈ ps, p.x.length ≤ 1000000000) (fuel0 : Nat) (hf0 : ps.length < fuel0) : ∀ (d k fuel : Nat), k + d = ps.length → d < fuel → 1 ≤ k → kp ps k = ps.take k →
    ∃ q, loopF (N_ fuel0) fuel (ps, (k : Int)) = some q ∧ (q = .inr (kp ps ps.length) ∨ ∃ c, q = .inl (kp ps ps.length, c))
  | 0, k, fuel, hd, hf, h1, h2 => by
    obtain ⟨fuel, rfl⟩ : ∃ q, fuel = q + 1 := ⟨fuel - 1, by omega⟩
    have hk : k = ps.length := by omega
    subst hk
    rw [List.take_length] at h2
    refine ⟨_, outF (t := (ps, (ps.length : Int))) ?_ fuel, .inr ⟨_, by rw [h2]⟩⟩
    unfold N_
    simp only
    rw [if_neg (by simp)]
  | d + 1, k, fuel, hd, hf, h1, h2 => by
    obtain ⟨fuel, rfl⟩ : ∃ q, fuel = q + 1 := ⟨fuel - 1, by omega⟩
    have hm1 := hx _ (List.mem_of_getElem? (gd_ (ps := ps) (j := k) (by omega)))
    have hm2 := hx _ (List.mem_of_getElem? (gd_ (ps := ps) (j := k - 1) (by omega)))
    by_cases hc : (at' ps k).x = (at' ps (k - 1)).x
    · have hk : kc ps k = false := by unfold kc; rw [decide_eq_false_iff_not]; intro h; rcases h with h | h; · omega
                                      · exact h hc
      have hkp : kp ps (k + 1) = ps.take k := by rw [rz_ hk, h2]
      have hkl : (kp ps (k + 1)).length = k := by rw [hkp, List.length_take]; omega
      obtain ⟨s', c, g1, g2, g3, g4⟩ := mY_ ps hl hx k h1 d (k + 1) fuel0 ps (by omega) (by omega) (by omega) rfl (by omega) (by rw [hkl, hkp]) rfl (by omega)
      rw [hkl, show ((k + 1 - k : Nat) : Int) = 1 by omega] at g1
      have hkle := rE_ ps ps.length
      refine ⟨_, retF (r := kp ps ps.length) ?_ fuel, .inl rfl⟩
      unfold N_
      simp only
      rw [if_pos (by simp; omega), ixa (j := k) rfl (by omega), sb, C_ (by omega) (by omega), sb, ixa (j := k - 1) (by omega) (by omega), sb, qS_ _ _ hm1 hm2, sb, if_pos (by simp [hc]), cutF, if_pos (by omega), sb, g1, sb]
      simp only
      rw [cutF, if_pos (by omega), sb, sb]
      unfold cut
      rw [if_pos (by omega), sb]
      simp only [Int.toNat_natCast, show (0 : Int).toNat = 0 from rfl, List.drop_zero, g2]
    · have hk : kc ps k = true := by unfold kc; rw [decide_eq_true_eq]; exact .inr hc
      have hkp : kp ps (k + 1) = ps.take (k + 1) := by
        rw [qQ_ hk, h2, List.take_add_one, gd_ (by omega)]; rfl
      have g1 : N_ fuel0 (ps, (k : Int)) = some (.go (ps, ((k + 1 : Nat) : Int))) := by
        unfold N_
        simp only
        rw [if_pos (by simp; omega), ixa (j := k) rfl (by omega), sb, C_ (by omega) (by omega), sb, ixa (j := k - 1) (by omega) (by omega), sb, qS_ _ _ hm1 hm2, sb, if_neg (by simp [hc]), C_ (by omega) (by omega), sb]
        simp
      rw [goF g1]
      exact nd_ ps hl hx fuel0 hf0 d (k + 1) fuel (by omega) (by omega) (by omega) hkp
theorem pC_ (ps : List Pv) (hl : ps.length ≤ 1000000000) (hx : ∀ p ∈ ps, p.x.length ≤ 1000000000) (fuel : Nat) (hf : ps.length < fuel) : aL_ fuel ps = some (kp ps ps.length) := by
  unfold aL_
  by_cases h2 : ps.length < 2
  · rw [if_pos (by simp; omega)]
    match ps, h2 with
    | [], _ => rfl
    | [p], _ => rfl
    | _ :: _ :: _, h => exfalso; simp only [List.length_cons] at h; omega
  · rw [if_neg (by simp; omega)]
    have h1 : kp ps 1 = ps.take 1 := by
      match ps, h2 with
      | p :: _, _ => rfl
      | [], h => simp at h
    obtain ⟨q, e, hq⟩ := nd_ ps hl hx fuel hf (ps.length - 1) 1 fuel (by omega) (by omega) (by omega) h1
    rw [show ((1 : Nat) : Int) = 1 from rfl] at e
    rw [e, sb]
    rcases hq with rfl | ⟨c, rfl⟩ <;> rfl
end

section
open Go.RowKit
theorem rD_ {L : Nat} (ps : List Pv) (hL : ∀ p ∈ ps, p.x.length = L) (hs : ps.Pairwise fun a b => ¬ ordL b.x a.x < 0) : sorS ((kp ps ps.length).map (·.x)) ∧ ∀ z, z ∈ (kp ps ps.length).map (·.x) ↔ z ∈ ps.map (·.x) := by
  have hat : ∀ i, i < ps.length → at' ps i ∈ ps := fun i hi => List.mem_of_getElem? (gd_ hi)
  have hpw : ∀ i j, i < j → j < ps.length → ¬ ordL (at' ps j).x (at' ps i).x < 0 := fun i j hij hj => by
    have := List.pairwise_iff_getElem.1 hs i j (by omega) hj hij
    have e1 : ps[i]'(by omega) = at' ps i := by have := gd_ (ps := ps) (j := i) (by omega); rw [List.getElem?_eq_getElem (by omega)] at this; exact Option.some.inj this
    have e2 : ps[j] = at' ps j := by have := gd_ (ps := ps) (j := j) hj; rw [List.getElem?_eq_getElem hj] at this; exact Option.some.inj this
    rw [e1, e2] at this
    exact this
  have hle : ∀ i j, i ≤ j → j < ps.length → (at' ps i).x = (at' ps j).x ∨ ordL (at' ps i).x (at' ps j).x < 0 := fun i j hij hj => by
    by_cases e : i = j
    · subst e; exact .inl rfl
    · have h1 := hpw i j (by omega) hj
      have h2 := gU_ (at' ps i).x (at' ps j).x
      by_cases h0 : ordL (at' ps i).x (at' ps j).x = 0
      · exact .inl ((gL_ (by rw [hL _ (hat i (by omega)), hL _ (hat j hj)])).1 h0)
      · exact .inr (by omega)
  constructor
  · unfold sorS kp
    rw [List.map_map, List.pairwise_map]
    have hr : (List.range ps.length).Pairwise (· < ·) := List.pairwise_lt_range
    refine List.Pairwise.imp_of_mem (fun {i j} hi hj hij => ?_) (hr.filter (kc ps))
    have hj1 := List.mem_range.1 (List.mem_filter.1 hj).1
    have hj2 := (List.mem_filter.1 hj).2
    unfold kc at hj2
    rw [decide_eq_true_eq] at hj2
    have hne : (at' ps j).x ≠ (at' ps (j - 1)).x := by rcases hj2 with h | h; · omega
                                                       · exact h
    have hlt : ordL (at' ps (j - 1)).x (at' ps j).x < 0 := by
      rcases hle (j - 1) j (by omega) hj1 with h | h
      · exact absurd h.symm hne
      · exact h
    show ordL (at' ps i).x (at' ps j).x < 0
    rcases hle i (j - 1) (by omega) (by omega) with h | h
    · rw [h]; exact hlt
    · exact hb_ (by rw [hL _ (hat i (by omega)), hL _ (hat (j - 1) (by omega))]) (by rw [hL _ (hat j hj1), hL _ (hat (j - 1) (by omega))]) h hlt
  · intro z
    constructor
    · intro hz
      obtain ⟨p, hp, rfl⟩ := List.mem_map.1 hz
      exact List.mem_map.2 ⟨p, (pd_ ps).subset hp, rfl⟩
    · intro hz
      obtain ⟨p, hp, rfl⟩ := List.mem_map.1 hz
      obtain ⟨i, hi⟩ := List.getElem?_of_mem hp
      have hil := (List.getElem?_eq_some_iff.1 hi).1
      have : ∀ i, i < ps.length → (at' ps i).x ∈ (kp ps ps.length).map (·.x) := by
        intro i
        induction i with
        | zero =>
          intro h
          refine List.mem_map.2 ⟨_, List.mem_map.2 ⟨0, List.mem_filter.2 ⟨List.mem_range.2 h, by simp [kc]⟩, rfl⟩, rfl⟩
        | succ i ih =>
          intro h
          by_cases hc : kc ps (i + 1) = true
          · exact List.mem_map.2 ⟨_, List.mem_map.2 ⟨i + 1, List.mem_filter.2 ⟨List.mem_range.2 h, hc⟩, rfl⟩, rfl⟩
          · have : (at' ps (i + 1)).x = (at' ps i).x := by
              unfold kc at hc
              rw [decide_eq_true_eq] at hc
              exact Classical.byContradiction fun h => hc (.inr (by simpa using h))
            rw [this]
            exact ih (by omega)
      have e1 := gd_ hil
      rw [hi] at e1
      cases e1
      exact this i hil
theorem pZ_ (ps ps1 : List Pv) {L : Nat} (hL : ∀ p ∈ ps, p.x.length = L) (hp : ps1.Perm ps) (hs : ps1.Pairwise fun a b => ¬ ordL b.x a.x < 0) : (kp ps1 ps1.length).map (·.x) = sxd (ps.map (·.x)) := by
  have hL1 : ∀ p ∈ ps1, p.x.length = L := fun p hp1 => hL p (hp.subset hp1)
  obtain ⟨h1, h2⟩ := rD_ ps1 hL1 hs
  obtain ⟨h3, h4⟩ := ke_ (L := L) (ps.map (·.x)) [] (fun z hz => by obtain ⟨p, hp, rfl⟩ := List.mem_map.1 hz; exact hL p hp) (by simp) List.Pairwise.nil
  refine mU_ (L := L) (fun z hz => ?_) h1 h3 fun z => ?_
  · obtain ⟨p, hp1, rfl⟩ := List.mem_map.1 hz
    exact hL1 p ((pd_ ps1).subset hp1)
  · unfold sxd
    rw [h2, h4]
    constructor
    · intro h
      obtain ⟨p, hp1, rfl⟩ := List.mem_map.1 h
      exact .inr (List.mem_map.2 ⟨p, hp.subset hp1, rfl⟩)
    · rintro (h | h)
      · cases h
      · obtain ⟨p, hp1, rfl⟩ := List.mem_map.1 h
        exact List.mem_map.2 ⟨p, hp.symm.subset hp1, rfl⟩
def apV (a b : Pv) : Prop := ∀ g, a.v.ownBlock = some g → b.v.ownBlock ≠ some g
def sl2 (w : World) (G : Nat) : World := { w with heap := w.heap.extract 0 G }
set_option maxRecDepth 100000 in
set_option maxHeartbeats 2000000 in
theorem gK_ {B k kr : Nat} {o : Tg} {w : World} {v : Value} {vs : List Hv} {xs ys : List (List Int)} (h : Ow B 41 k o w v vs) (hr : Rws B 3 kr o w vs xs) (hk : k ≠ 0) (hkr : kr ≠ 0) (hne : kr ≠ k) (hB : B ≤ w.heap.size) (hF : srtL xs = some ys) :
    Calls Tryz.prog 144 #[v] w fun e w' => ∃ v' vs' o', e = .returned v' ∧ Ow B 41 k o' w' v' vs' ∧ Rws B 3 kr o' w' vs' ys ∧ Stp k o w o' w' := by
  unfold srtL at hF
  split at hF
  rotate_left
  · cases hF
  rename_i hcond
  obtain ⟨hl, hL1, hL⟩ := hcond
  cases hF
  generalize (xs.headD []).length = L at hL1 hL
  -- the rows under their values
  obtain ⟨r1, r2, r3⟩ := hr
  let ps : List Pv := List.zipWith (fun u x => (⟨u.v, x⟩ : Pv)) vs xs
  have hpl : ps.length = xs.length := by show (List.zipWith _ vs xs).length = _; rw [List.length_zipWith, r1, Nat.min_self]
  have hpi : ∀ (i : Nat) (u : Hv) (x : List Int), vs[i]? = some u → xs[i]? = some x → ps[i]? = some (⟨u.v, x⟩ : Pv) := fun i u x a b => by
    show (List.zipWith _ vs xs)[i]? = _
    rw [List.getElem?_zipWith, a, b]
  have hpx : ps.map (·.x) = xs := by
    apply List.ext_getElem?
    intro i
    by_cases hi : i < xs.length
    · rw [List.getElem?_map, hpi i (vs[i]'(by omega)) xs[i] (List.getElem?_eq_getElem (by omega)) (List.getElem?_eq_getElem hi), List.getElem?_eq_getElem hi]; rfl
    · rw [List.getElem?_eq_none (by rw [List.length_map, hpl]; omega), List.getElem?_eq_none (by omega)]
  have hpe : ∀ (i : Nat) (p : Pv), ps[i]? = some p → vs[i]? = some (⟨p.v⟩ : Hv) ∧ xs[i]? = some p.x := fun i p hp => by
    have hi : i < xs.length := by have := (List.getElem?_eq_some_iff.1 hp).1; omega
    have := hpi i (vs[i]'(by omega)) xs[i] (List.getElem?_eq_getElem (by omega)) (List.getElem?_eq_getElem hi)
    rw [hp] at this
    cases this
    exact ⟨List.getElem?_eq_getElem (by omega), List.getElem?_eq_getElem hi⟩
  have hrow : ∀ p ∈ ps, Ow B 3 kr o w p.v p.x := fun p hp => by
    obtain ⟨i, hi⟩ := List.getElem?_of_mem hp
    obtain ⟨a, b⟩ := hpe i p hi
    exact r2 i ⟨p.v⟩ p.x a b
  have hpL : ∀ p ∈ ps, p.x.length = L := fun p hp => hL p.x (by rw [← hpx]; exact List.mem_map.2 ⟨p, hp, rfl⟩)
  have hap : ps.Pairwise apV := by
    rw [List.pairwise_iff_getElem]
    intro i j hi hj hij g h1 h2
    obtain ⟨a1, b1⟩ := hpe i _ (List.getElem?_eq_getElem hi)
    obtain ⟨a2, b2⟩ := hpe j _ (List.getElem?_eq_getElem hj)
    have := r3 i j _ _ g a1 a2 h1 h2
    omega
  let o2 : Tg := frz kr o
  have ho2 : ∀ b, o b = k → o2 b = k := fun b hb => by show (if o b = kr then 0 else o b) = k; rw [hb, if_neg (Ne.symm hne)]
  have ho2' : ∀ b, o2 b = k → o b = k := fun b hb => by
    have hb : (if o b = kr then 0 else o b) = k := hb
    split at hb
    · exact absurd hb.symm hk
    · exact hb
  have hrd2 : ∀ p ∈ ps, RdL o2 w p.v p.x := fun p hp => (hrow p hp).frz
  have hsp : Ow B 41 k o2 w v ps := by
    obtain ⟨css, c1, c2, c3, c4⟩ := h
    refine ⟨css, by rw [c1, r1, hpl], ?_, fun g hg => ho2 g (c3 g hg), fun i cs p hc hp => ?_⟩
    · rw [hpl, ← r1]; exact c2
    · obtain ⟨a, b⟩ := hpe i p hp
      obtain ⟨q1, q2⟩ := c4 i cs _ hc a
      exact ⟨q1, q2, hrd2 p (List.mem_of_getElem? hp)⟩
  clear h r2 r3
  refine h_ (n := 7) (vs := [v]) Tryz.func144 rfl rfl ?_
  refine b_ ?_
  refine c_ ?_
  refine o_ (aj_ rfl) (by decide) trivial ?_
  refine aB_ (r := [(0, v)]) ⟨rfl, trivial⟩ ?_
  refine nx ?_
  refine b_ ?_
  refine c_ ?_
  refine o_ (k_ rfl) (by decide) trivial ?_
  refine ch_ (by decide) trivial ?_
  refine n_ (mk_ hsp hk hpL (by omega)) Tryz.call177 ⟨rfl, rfl, trivial⟩ ?_
  rintro e1 w1 ⟨rfl, ps1, hperm, hsor, hsp1, hst1⟩
  refine ⟨_, rfl, ?_⟩
  refine aB_ (r := [(0, v)]) ⟨rfl, trivial⟩ ?_
  refine nx ?_
  -- as the second call sees it
  let G : Nat := match v.ownBlock with | some g => g | none => w1.heap.size
  let wb : World := sl2 w1 G
  let oo : Tg := fun b => if o2 b = 0 then 0 else 1
  let o10 : Tg := fun b => if v.ownBlock = some b then 10 else if o2 b = 0 then 0 else 1
  have hGw : G ≤ w1.heap.size := by
    show (match v.ownBlock with | some g => g | none => w1.heap.size) ≤ _
    cases hv : v.ownBlock with
    | none => exact Nat.le_refl _
    | some g => exact Nat.le_of_lt (hsp1.ltw g hv).2
  have hBG : B ≤ G := by
    show B ≤ (match v.ownBlock with | some g => g | none => w1.heap.size)
    cases hv : v.ownBlock with
    | none => exact Nat.le_trans hB hst1.size
    | some g => exact (hsp1.ltw g hv).1
  have hwb : wb.heap.size = G := by show (w1.heap.extract 0 G).size = G; simp; omega
  have hog : ∀ g, v.ownBlock = some g → o2 g = k := hsp1.tagged
  have hBs : Bs oo o10 wb w1 := by
    refine ⟨⟨rfl, rfl, rfl, by rw [hwb]; exact hGw, fun b hb => ?_⟩, fun b hb => ?_⟩
    · show w1.heap[b]? = (w1.heap.extract 0 G)[b]?
      rw [Array.getElem?_extract]
      rw [hwb] at hb
      rw [if_pos (by omega)]; simp
    · rw [hwb] at hb
      show (if v.ownBlock = some b then 10 else if o2 b = 0 then 0 else 1) = if (if o2 b = 0 then 0 else 1) = 0 then 0 else 1
      rw [if_neg (fun e => by
        have : G = b := by show (match v.ownBlock with | some g => g | none => w1.heap.size) = b; rw [e]
        omega)]
      split <;> simp
  have hO : ∀ b, b < w1.heap.size → o10 b ≠ 999 := fun b _ => by
    show (if v.ownBlock = some b then 10 else if o2 b = 0 then 0 else 1) ≠ 999
    split
    · decide
    · split <;> decide
  have h10 : ∀ b, o2 b = 0 → o10 b = 0 := fun b hb => by
    show (if v.ownBlock = some b then 10 else if o2 b = 0 then 0 else 1) = 0
    rw [if_neg (fun e => by have := hog b e; rw [hb] at this; exact hk this.symm), if_pos hb]
  have hsp2 : Ow wb.heap.size 41 10 o10 w1 v ps1 := by
    obtain ⟨css, c1, c2, c3, c4⟩ := hsp1
    refine ⟨css, c1, ⟨c2.1, ?_⟩, fun g hg => if_pos hg, fun i cs p hc hp => ?_⟩
    · rcases c2.2 with q | ⟨g, cap, cur, rfl, q⟩
      · exact .inl q
      · refine .inr ⟨g, cap, cur, rfl, ?_, q.2⟩
        rw [hwb]
        exact Nat.le_refl _
    · obtain ⟨q1, q2, q3⟩ := c4 i cs p hc hp
      exact ⟨q1, q2, q3.mv (Nat.le_refl _) fun b _ hb => ⟨rfl, h10 b hb⟩⟩
  have hl1 : ps1.length ≤ 1000000000 := by rw [hperm.length_eq]; omega
  refine b_ ?_
  refine c_ ?_
  refine o_ (k_ rfl) (by decide) trivial ?_
  refine ch_ (by decide) trivial ?_
  refine n_ (dG_ 1000000001 wb w1 oo o10 hBs hO v ps1 hsp2 _ (pC_ ps1 hl1 (fun p hp => by have := hpL p (hperm.subset hp); omega) 1000000001 (by omega))) Tryz.call178 ⟨rfl, rfl, trivial⟩ ?_
  rintro e2 w2 ⟨v2, o3, rfl, hsp3, hBs3, hst2⟩
  refine ⟨_, rfl, ?_⟩
  refine o_ (aj_ rfl) (by decide) trivial ?_
  refine aB_ (r := [(2, v2)]) ⟨rfl, trivial⟩ ?_
  refine nx ?_
  refine j_ ?_
  refine D_ (P := Tryz.prog) (vs := [v2]) Tryz.results144 ⟨rfl, trivial⟩ ?_
  -- what is left
  have hxs := pZ_ ps ps1 hpL hperm hsor
  rw [hpx] at hxs
  have hsub : (kp ps1 ps1.length).Sublist ps1 := pd_ ps1
  generalize kp ps1 ps1.length = r at hsp3 hxs hsub
  have hmem : ∀ p ∈ r, p ∈ ps := fun p hp => hperm.subset (hsub.subset hp)
  let o' : Tg := fun b => if b < w.heap.size then o b else if o3 b = 10 then k else 0
  have hstep : Stp k o w o' w2 := by
    refine ⟨hst2.os.trans hst1.os, hst2.tape.trans hst1.tape, hst2.output.trans hst1.output, Nat.le_trans hst1.size hst2.size, fun b hb hnk => ?_, fun b hb => if_pos hb⟩
    have e1 := hst1.block b hb (fun e => hnk (ho2' b e))
    have e2 := hst2.block b (Nat.lt_of_lt_of_le hb hst1.size) (fun e => by
      have e : (if v.ownBlock = some b then 10 else if o2 b = 0 then 0 else 1) = 10 := e
      split at e
      · rename_i hv
        exact hnk (ho2' b (hog b hv))
      · split at e <;> cases e)
    exact e2.trans e1
  have hrow2 : ∀ p ∈ r, Ow B 3 kr o' w2 p.v p.x := fun p hp => (hrow p (hmem p hp)).stp hstep hk hne
  have hapr : r.Pairwise apV := (hperm.symm.pairwise hap (fun {a b} hab g h1 h2 => hab g h2 h1)).sublist hsub
  refine ⟨v2, r.map fun p => ⟨p.v⟩, o', rfl, ?_, ⟨?_, ?_, ?_⟩, hstep⟩
  · obtain ⟨css, c1, c2, c3, c4⟩ := hsp3
    refine ⟨css, by simpa using c1, ?_, fun g hg => ?_, fun i cs u hc hu => ?_⟩
    · rw [List.length_map]
      obtain ⟨q1, q2⟩ := c2
      refine ⟨q1, ?_⟩
      rcases q2 with q2 | ⟨g, cap, cur, e, q3, q4⟩
      · exact .inl q2
      · rw [hwb] at q3
        exact .inr ⟨g, cap, cur, e, Nat.le_trans hBG q3, q4⟩
    · have e3 := c3 g hg
      show (if g < w.heap.size then o g else if o3 g = 10 then k else 0) = k
      split
      · rename_i hgl
        have hgl1 : g < w1.heap.size := Nat.lt_of_lt_of_le hgl hst1.size
        have e4 := hst2.own g hgl1
        rw [e3] at e4
        have e5 : (if v.ownBlock = some g then 10 else if o2 g = 0 then 0 else 1) = 10 := e4.symm
        split at e5
        · rename_i hv
          exact ho2' g (hog g hv)
        · split at e5 <;> cases e5
      · simp
    · rw [List.getElem?_map] at hu
      cases hp : r[i]? with
      | none => rw [hp] at hu; cases hu
      | some p =>
        rw [hp] at hu
        cases hu
        obtain ⟨q1, q2, _⟩ := c4 i cs p hc hp
        exact ⟨q1, q2⟩
  · rw [List.length_map, ← hxs, List.length_map]
  · intro i u x hu hx
    rw [List.getElem?_map] at hu
    rw [← hxs, List.getElem?_map] at hx
    cases hp : r[i]? with
    | none => rw [hp] at hu; cases hu
    | some p =>
      rw [hp] at hu hx
      cases hu; cases hx
      exact hrow2 p (List.mem_of_getElem? hp)
  · intro i j u u' g hu hu' h1 h2
    rw [List.getElem?_map] at hu hu'
    cases hp : r[i]? with
    | none => rw [hp] at hu; cases hu
    | some p =>
      cases hq : r[j]? with
      | none => rw [hq] at hu'; cases hu'
      | some q =>
        rw [hp] at hu
        rw [hq] at hu'
        cases hu; cases hu'
        obtain ⟨hi, ei⟩ := List.getElem?_eq_some_iff.1 hp
        obtain ⟨hj, ej⟩ := List.getElem?_eq_some_iff.1 hq
        have hpw := List.pairwise_iff_getElem.1 hapr
        rcases Nat.lt_trichotomy i j with hlt | heq | hgt
        · have := hpw i j hi hj hlt g
          rw [ei, ej] at this
          exact absurd h2 (this h1)
        · exact heq
        · have := hpw j i hj hi hgt g
          rw [ei, ej] at this
          exact absurd h1 (this h2)
end

end Go.Proofs.YtdbbeldgdgonfaaGreat
