/- Part 26 of what this claim rests on (GLr), packed by pack.py. -/
import Derived.Test.YtdbbeldgdgonfaaGreatP03
import Derived.Test.YtdbbeldgdgonfaaGreatP24
import Derived.Test.YtdbbeldgdgonfaaGreatP25
namespace Go.Proofs.YtdbbeldgdgonfaaGreat
set_option linter.unusedSimpArgs false
set_option linter.unusedVariables false

section
set_option maxRecDepth 100000
set_option maxHeartbeats 2000000
open Go.RowKit
theorem iQ_ : Inf Tryz.prog 3 (.int .i64 0) 1 8 := by unfold Inf; kernel_rfl

theorem iM_ : Inf Tryz.prog 41 (.slice none 0 0) 1 24 := by unfold Inf; kernel_rfl

theorem dA_ : (Tryz.prog.info? 28).map (·.size) = some 4 := by kernel_rfl

def fO_ (p0 : List Int) (p1 : Int) : Option Int :=
  (ck (p1 - (p0.length : Int))) >>= fun x1 =>
  if decide (x1 < 0) then
    some (-1)
  else
    some x1

def oY_ (w : World) (r : Int) : Ending → World → Prop := fun e w' => e = .returned (.int .i64 r) ∧ Keeps w w'
theorem or_ (w : World) (u0 : Value) (p0 : List Int) (g0 : RdL zt w u0 p0) (p1 : Int) (r : Int) (hF : fO_ p0 p1 = some r) :
    Calls Tryz.prog 64 #[u0, .int .i64 p1] w (oY_ w r) := by
 unfold fO_ at hF; have hB : Bs (fun _ => 1) (col (fun _ => 1)) w w := Bs.start _ _; refine h_ (n := 12) (vs := [u0, (ZI p1)]) Tryz.func64 rfl rfl ?_; refine Zq (Za rfl (Ze [(0, u0), (1, ZI p1)] (Zn (Zm rfl (Zm rfl (Zv (F_ rfl g0 Tryz.underlying41) ?_)))))); obtain ⟨x1, hx1, hF⟩ := bind_some hF; refine Zv (bD_ rfl rfl hx1) (Za rfl (Ze [(1, ZI x1)] (nx (b_ (Zq (Zm rfl (Zv (r_ rfl rfl) (Ze [(1, ZI x1), (10, (.bool (decide (x1 < 0))))] (nx ?_))))))))); refine l_ rfl (fun t2 => ?_) (fun t2 => ?_)
 ·rw [if_pos t2] at hF; refine Zq (Za rfl (Ze [(4, (ZI (-1)))] (nx (j_ (A_ ?_))))); have e3 := Option.some.inj hF; subst e3; refine Zr Tryz.results64 [(ZI (-1))] ?_; exact ⟨rfl, hB.keeps⟩
 ·rw [if_neg (by rw [t2]; decide)] at hF; refine f_ (Zn (Zm rfl (Za rfl (Ze [(4, ZI x1)] (nx (j_ ?_)))))); have e4 := Option.some.inj hF; subst e4; refine Zr Tryz.results64 [(ZI x1)] ?_; exact ⟨rfl, hB.keeps⟩
def bI_ (p0 : List (List Int)) : (Int × Int) → Option (Lp (Int × Int) (Int × Int) Int) := fun (s : Int × Int) =>
  if decide (s.2 < (p0.length : Int)) then
    (ix p0 s.2) >>= fun x19 =>
    (fO_ x19 s.1) >>= fun x27 =>
    if decide (x27 < 0) then
      some (.ret (-1))
    else
      (ck (s.2 + 1)) >>= fun x35 =>
      some (.go (x27, x35))
  else
    some (.out (s.1, s.2))
def er_ (fuel : Nat) (p0 : List (List Int)) (p1 : Int) : Option Int :=
  (ck (p1 - (p0.length : Int))) >>= fun x1 =>
  if decide (x1 < 0) then
    some (-1)
  else
    (loopF (bI_ p0) fuel (x1, 0)) >>= fun q8 =>
    match q8 with
    | .inl (y4, y5) =>
      some y4
    | .inr r' => some r'

def jF_ (w : World) (r : Int) : Ending → World → Prop := fun e w' => e = .returned (.int .i64 r) ∧ Keeps w w'
theorem js_ (fuel : Nat) (w : World) (u0 : Value) (p0 : List (List Int)) (g0 : RdL zt w u0 p0) (p1 : Int) (r : Int) (hF : er_ fuel p0 p1 = some r) :
    Calls Tryz.prog 39 #[u0, .int .i64 p1] w (jF_ w r) := by
 unfold er_ at hF; have hB : Bs (fun _ => 1) (col (fun _ => 1)) w w := Bs.start _ _; refine h_ (n := 27) (vs := [u0, (ZI p1)]) Tryz.func39 rfl rfl ?_; refine Zq (Za rfl (Ze [(0, u0), (1, ZI p1)] (Zn (Zm rfl (Zm rfl (Zv (F_ rfl g0 Tryz.underlying22) ?_)))))); obtain ⟨x1, hx1, hF⟩ := bind_some hF; refine Zv (bD_ rfl rfl hx1) (Za rfl (Ze [(0, u0), (1, ZI x1)] (nx (b_ (Zq (Zm rfl (Zv (r_ rfl rfl) (Ze [(0, u0), (1, ZI x1), (11, (.bool (decide (x1 < 0))))] (nx ?_))))))))); refine l_ rfl (fun t2 => ?_) (fun t2 => ?_)
 ·rw [if_pos t2] at hF; refine Zq (Za rfl (Ze [(4, (ZI (-1)))] (nx (j_ (A_ ?_))))); have e3 := Option.some.inj hF; subst e3; refine Zr Tryz.results39 [(ZI (-1))] ?_; exact ⟨rfl, hB.keeps⟩
 ·rw [if_neg (by rw [t2]; decide)] at hF; refine f_ (nx (b_ (Zq (Za rfl (Ze [(0, u0), (1, ZI x1), (5, ZI 0)] (nx ?_)))))); obtain ⟨q8, hq8, hF⟩ := bind_some hF; refine z_ (fun a w7 => ∃ (y4 : Int) (y5 : Int) (o6 : Tg), q8 = .inl (y4, y5) ∧ Fr a 27 [(1, ZI y4)] ∧ Bs (fun _ => 1) o6 w w7) (fun a w' => ∃ r', q8 = .inr r' ∧ bodyPost Tryz.prog Tryz.f39 (jF_ w r') .ret a w') ?_ ?_ ?_
  ·refine d_ ?_; refine y_ (fun (K : Nat) a w7 => ∃ (y4 : Int) (y5 : Int) (o6 : Tg), loopF (bI_ p0) K (y4, y5) = some q8 ∧ Fr a 27 [(0, u0), (1, ZI y4), (5, ZI y5)] ∧ Bs (fun _ => 1) o6 w w7) fuel (fun a ha => ⟨x1, 0, (col (fun _ => 1)), hq8, ha.sub (r := [(0, u0), (1, ZI x1), (5, ZI 0)]) ⟨rfl, rfl, rfl, trivial⟩, hB⟩) ?_; rintro K12 a w7 ⟨y4, y5, o6, l9, ha, hB⟩; obtain ⟨K16, q13, e17, b14, n15⟩ := X_ l9; dsimp only [bI_] at b14; refine L_ ha ?_; refine b_ (Zq (Zm rfl (Zm rfl (Zv (F_ rfl g0 Tryz.underlying22) (Zv (r_ rfl rfl) (Ze [(0, u0), (1, ZI y4), (5, ZI y5), (15, (.bool (decide (y5 < (p0.length : Int)))))] (nx ?_))))))); refine l_ rfl (fun t18 => ?_) (fun t18 => ?_)
   ·rw [if_pos t18] at b14; refine f_ (nx (b_ (d_ (Zq (Zm rfl (Zm rfl ?_)))))); obtain ⟨x19, hx19, b14⟩ := bind_some b14; refine Zo ?_; refine wf_atZ g0 hx19 hB rfl rfl Tryz.underlying22 Tryz.sizeOf41 ?_; intro b20 f21 c22 h23 h24; obtain ⟨v25, rfl, h26⟩ := h24; refine Zv (e_ rfl Tryz.isAgg41 (i_ h23)) (Zm rfl ?_); obtain ⟨x27, hx27, b14⟩ := bind_some b14; refine Zo ?_; refine n_ (or_ w7 _ x19 (h26.keep hB.keeps) y4 x27 hx27) Tryz.call64 ⟨rfl, rfl, trivial⟩ ?_; rintro e32 w28 ⟨rfl, k29⟩; have s31 := k29.stp 999 o6; refine ⟨_, rfl, ?_⟩; replace hB := hB.stp s31; refine Za rfl (Ze [(0, u0), (1, ZI x27), (5, ZI y5)] (Zn (Zm rfl (Zv (r_ rfl rfl) (Ze [(0, u0), (1, ZI x27), (5, ZI y5), (25, (.bool (decide (x27 < 0))))] (nx ?_)))))); refine l_ rfl (fun t33 => ?_) (fun t33 => ?_)
    ·rw [if_pos t33] at b14; refine Zq (Za rfl (Ze [(4, (ZI (-1)))] (nx (j_ (aa_ (A_ (A_ (aa_ ?_)))))))); refine bu_ ?_; have e34 := Option.some.inj b14; subst e34; refine fun a ha => ⟨_, n15, ?_⟩; refine D_ (P := Tryz.prog) (vs := [(ZI (-1))]) Tryz.results39 ⟨rfl, trivial⟩ ?_ a ha; exact ⟨rfl, hB.keeps⟩
    ·rw [if_neg (by rw [t33]; decide)] at b14; refine f_ (x_ (nx (c_ (Zm rfl ?_)))); obtain ⟨x35, hx35, b14⟩ := bind_some b14; refine Zv (B_ rfl rfl hx35) (Za rfl (Ze [(0, u0), (1, ZI x27), (5, ZI x35)] (v_ ?_))); have e36 := Option.some.inj b14; subst e36; refine Zk [(0, u0), (1, ZI x27), (5, ZI x35)] ?_; intro a ha; exact ⟨K16, by omega, x27, x35, o6, n15, ha, hB⟩
   ·rw [if_neg (by rw [t18]; decide)] at b14; refine u_ ?_; refine m_ (m_ (R_ ?_)); refine p_ ?_; have e37 := Option.some.inj b14; subst e37; refine Zk [(1, ZI y4)] ?_; intro a ha; exact ⟨y4, y5, o6, n15, ha, hB⟩
  ·rintro a w7 ⟨y4, y5, o6, rfl, ha, hB⟩; dsimp only at hF; refine ap_k ha ?_; refine Zn (Zm rfl (Za rfl (Ze [(4, ZI y4)] (nx (j_ ?_))))); have e38 := Option.some.inj hF; subst e38; refine Zr Tryz.results39 [(ZI y4)] ?_; exact ⟨rfl, hB.keeps⟩
  ·rintro a w7 ⟨r', rfl, b39⟩; dsimp only at hF; have e40 := Option.some.inj hF; subst e40; exact b39
def dj_ (p0 : List Int) : ((List Int) × Int) → Option (Lp ((List Int) × Int) ((List Int) × Int) (List Int)) := fun (s : (List Int) × Int) =>
  if decide (s.2 < (p0.length : Int)) then
    (ix p0 s.2) >>= fun x23 =>
    (ix s.1 s.2) >>= fun x29 =>
    (st s.1 s.2 x23) >>= fun x38 =>
    (ck (s.2 + 1)) >>= fun x40 =>
    some (.go (x38, x40))
  else
    some (.out (s.1, s.2))
def gg_ (fuel : Nat) (p0 : List Int) : Option (List Int) :=
  (mk (Rz.z : Int) (p0.length : Int)) >>= fun x1 =>
  (loopF (dj_ p0) fuel (x1, 0)) >>= fun q12 =>
  match q12 with
  | .inl (y7, y9) =>
    some y7
  | .inr _ => none

def oU_ (oo : Tg) (t : Nat) (w : World) (r : List Int) : Ending → World → Prop := fun e w' => ∃ (v0 : Value) (o' : Tg), e = .returned (v0) ∧ Ow w.heap.size 3 t o' w' v0 r ∧ Keeps w w' ∧ ∀ b, b < w.heap.size → o' b = oo b
theorem pF_ (fuel : Nat) (w : World) (oo : Tg) (t : Nat) (ht : 2 ≤ t) (u0 : Value) (p0 : List Int) (g0 : RdL zt w u0 p0) (r : List Int) (hF : gg_ fuel p0 = some r) :
    Calls Tryz.prog 67 #[u0] w (oU_ oo t w r) := by
 unfold gg_ at hF; have hB : Bs oo (col oo) w w := Bs.start _ _; refine h_ (n := 22) (vs := [u0]) Tryz.func67 rfl rfl ?_; generalize col oo = o at *; refine Zq (Za rfl (Ze [(0, u0)] (Zn (Zm rfl (Zv (F_ rfl g0 Tryz.underlying41) ?_))))); obtain ⟨x1, hx1, hF⟩ := bind_some hF; refine Zo ?_; refine hu_ (o := o) w.heap.size 11 hB.keeps.size hx1 rfl rfl Tryz.underlying41 iQ_ rfl (by decide) ?_; intro o2 w3 v4 h5 s6; replace hB := hB.stp s6; refine Za rfl (Ze [(0, u0), (3, v4)] (nx (b_ (Zq (Za rfl (Ze [(0, u0), (3, v4), (4, ZI 0)] (nx ?_))))))); obtain ⟨q12, hq12, hF⟩ := bind_some hF; refine z_ (fun a w11 => ∃ (y7 : List Int) (y9 : Int) (o10 : Tg), q12 = .inl (y7, y9) ∧ Fr a 22 [(3, v4)] ∧ Bs oo o10 w w11 ∧ Ow w.heap.size 3 11 o10 w11 v4 y7) (fun _ _ => False) ?_ ?_ ?_
 ·refine d_ ?_; refine y_ (fun (K : Nat) a w11 => ∃ (y7 : List Int) (y9 : Int) (o10 : Tg), loopF (dj_ p0) K (y7, y9) = some q12 ∧ Fr a 22 [(0, u0), (3, v4), (4, ZI y9)] ∧ Bs oo o10 w w11 ∧ Ow w.heap.size 3 11 o10 w11 v4 y7) fuel (fun a ha => ⟨x1, 0, o2, hq12, ha.sub (r := [(0, u0), (3, v4), (4, ZI 0)]) ⟨rfl, rfl, rfl, trivial⟩, hB, h5⟩) ?_; rintro K16 a w11 ⟨y7, y9, o10, l13, ha, hB, h8⟩; obtain ⟨K20, q17, e21, b18, n19⟩ := X_ l13; dsimp only [dj_] at b18; refine L_ ha ?_; refine b_ (Zq (Zm rfl (Zm rfl (Zv (F_ rfl g0 Tryz.underlying41) (Zv (r_ rfl rfl) (Ze [(0, u0), (3, v4), (4, ZI y9), (11, (.bool (decide (y9 < (p0.length : Int)))))] (nx ?_))))))); refine l_ rfl (fun t22 => ?_) (fun t22 => ?_)
  ·rw [if_pos t22] at b18; refine f_ (nx (b_ (d_ (c_ (Zm rfl (Zm rfl (Zm rfl (Zm rfl ?_)))))))); obtain ⟨x23, hx23, b18⟩ := bind_some b18; refine Zo ?_; refine wf_atZ g0 hx23 hB rfl rfl Tryz.underlying41 Tryz.sizeOf3 ?_; intro b24 f25 c26 h27 h28; cases h28
   refine Zv (e_ rfl Tryz.isAgg3 (i_ h27)) ?_; obtain ⟨x29, hx29, b18⟩ := bind_some b18; refine Zo ?_; refine ge_ h8 hx29 rfl rfl Tryz.underlying41 Tryz.sizeOf3 ?_; intro b30 c32 h35 h33 h34; cases h34
   obtain ⟨x38, hx38, b18⟩ := bind_some b18; refine ak_ trivial ?_; refine cG_ h8 h35 hx38 rfl (by decide) rfl rfl rfl Tryz.sizeOf3 rfl ?_; intro w36 h39 s37; replace hB := hB.stp s37; refine Ze [(0, u0), (3, v4), (4, ZI y9)] (x_ (nx (c_ (Zm rfl ?_)))); obtain ⟨x40, hx40, b18⟩ := bind_some b18; refine Zv (B_ rfl rfl hx40) (Za rfl (Ze [(0, u0), (3, v4), (4, ZI x40)] (v_ ?_))); have e41 := Option.some.inj b18; subst e41; refine Zk [(0, u0), (3, v4), (4, ZI x40)] ?_; intro a ha; exact ⟨K20, by omega, x38, x40, o10, n19, ha, hB, h39⟩
  ·rw [if_neg (by rw [t22]; decide)] at b18; refine u_ ?_; refine m_ (m_ (R_ ?_)); refine p_ ?_; have e42 := Option.some.inj b18; subst e42; refine Zk [(3, v4)] ?_; intro a ha; exact ⟨y7, y9, o10, n19, ha, hB, h8⟩
 ·rintro a w11 ⟨y7, y9, o10, rfl, ha, hB, h8⟩; dsimp only at hF; refine ap_k ha ?_; refine Zn (Zm rfl (Za rfl (Ze [(2, v4)] (nx (j_ ?_))))); have e43 := Option.some.inj hF; subst e43; refine Zr Tryz.results67 [v4] ?_; exact ⟨_, rt oo o10 w.heap.size 11 t, rfl, h8.rt hB (by decide) t, hB.keeps, an_ _ _ _ _ _⟩
 ·exact fun _ _ h => h.elim
def cL_ (fuel : Nat) (p0 : List (List Int)) : ((List (List Int)) × Int) → Option (Lp ((List (List Int)) × Int) ((List (List Int)) × Int) (List (List Int))) := fun (s : (List (List Int)) × Int) =>
  if decide (s.2 < (p0.length : Int)) then
    (ix p0 s.2) >>= fun x27 =>
    (gg_ fuel x27) >>= fun x35 =>
    (ix s.1 s.2) >>= fun x44 =>
    (st s.1 s.2 x35) >>= fun x57 =>
    (ck (s.2 + 1)) >>= fun x65 =>
    some (.go (x57, x65))
  else
    some (.out (s.1, s.2))
def eo_ (fuel : Nat) (p0 : List (List Int)) : Option (List (List Int)) :=
  (mk ([] : List Int) (p0.length : Int)) >>= fun x1 =>
  (loopF (cL_ fuel p0) fuel (x1, 0)) >>= fun q16 =>
  match q16 with
  | .inl (y9, y13) =>
    some y9
  | .inr _ => none

def oj_ (oo : Tg) (t : Nat) (w : World) (r : List (List Int)) : Ending → World → Prop := fun e w' => ∃ (v0 : Value) (g0 : List Hv) (o' : Tg), e = .returned (v0) ∧ Ow w.heap.size 41 t o' w' v0 g0 ∧ Rws w.heap.size 3 (t + 1) o' w' g0 r ∧ Keeps w w' ∧ ∀ b, b < w.heap.size → o' b = oo b
theorem jw_ (fuel : Nat) (w : World) (oo : Tg) (t : Nat) (ht : 2 ≤ t) (u0 : Value) (p0 : List (List Int)) (g0 : RdL zt w u0 p0) (r : List (List Int)) (hF : eo_ fuel p0 = some r) :
    Calls Tryz.prog 42 #[u0] w (oj_ oo t w r) := by
 unfold eo_ at hF; have hB : Bs oo (col oo) w w := Bs.start _ _; refine h_ (n := 23) (vs := [u0]) Tryz.func42 rfl rfl ?_; generalize col oo = o at *; refine Zq (Za rfl (Ze [(0, u0)] (Zn (Zm rfl (Zv (F_ rfl g0 Tryz.underlying22) ?_))))); obtain ⟨x1, hx1, hF⟩ := bind_some hF; obtain ⟨h8, h7⟩ := rH_ hx1 w.heap.size 3 12 o w; refine Zo ?_; refine hu_ (o := o) w.heap.size 11 hB.keeps.size h8 rfl rfl Tryz.underlying22 iM_ rfl (by decide) ?_; intro o2 w3 v4 h5 s6; replace h7 := h7.stp s6; replace hB := hB.stp s6; refine Za rfl (Ze [(0, u0), (3, v4)] (nx (b_ (Zq (Za rfl (Ze [(0, u0), (3, v4), (4, ZI 0)] (nx ?_))))))); obtain ⟨q16, hq16, hF⟩ := bind_some hF; refine z_ (fun a w15 => ∃ (y9 : List (List Int)) (y13 : Int) (g12 : List Hv) (o14 : Tg), q16 = .inl (y9, y13) ∧ Fr a 23 [(3, v4)] ∧ Bs oo o14 w w15 ∧ Ow w.heap.size 41 11 o14 w15 v4 g12 ∧ Rws w.heap.size 3 12 o14 w15 g12 y9) (fun _ _ => False) ?_ ?_ ?_
 ·refine d_ ?_; refine y_ (fun (K : Nat) a w15 => ∃ (y9 : List (List Int)) (y13 : Int) (g12 : List Hv) (o14 : Tg), loopF (cL_ fuel p0) K (y9, y13) = some q16 ∧ Fr a 23 [(0, u0), (3, v4), (4, ZI y13)] ∧ Bs oo o14 w w15 ∧ Ow w.heap.size 41 11 o14 w15 v4 g12 ∧ Rws w.heap.size 3 12 o14 w15 g12 y9) fuel (fun a ha => ⟨x1, 0, (List.replicate (p0.length : Int).toNat ⟨.slice none 0 0⟩), o2, hq16, ha.sub (r := [(0, u0), (3, v4), (4, ZI 0)]) ⟨rfl, rfl, rfl, trivial⟩, hB, h5, h7⟩) ?_; rintro K20 a w15 ⟨y9, y13, g12, o14, l17, ha, hB, h10, h11⟩; obtain ⟨K24, q21, e25, b22, n23⟩ := X_ l17; dsimp only [cL_] at b22; refine L_ ha ?_; refine b_ (Zq (Zm rfl (Zm rfl (Zv (F_ rfl g0 Tryz.underlying22) (Zv (r_ rfl rfl) (Ze [(0, u0), (3, v4), (4, ZI y13), (11, (.bool (decide (y13 < (p0.length : Int)))))] (nx ?_))))))); refine l_ rfl (fun t26 => ?_) (fun t26 => ?_)
  ·rw [if_pos t26] at b22; refine f_ (nx (b_ (d_ (c_ (Zm rfl (Zm rfl (Zm rfl (Zm rfl ?_)))))))); obtain ⟨x27, hx27, b22⟩ := bind_some b22; refine Zo ?_; refine wf_atZ g0 hx27 hB rfl rfl Tryz.underlying22 Tryz.sizeOf41 ?_; intro b28 f29 c30 h31 h32; obtain ⟨v33, rfl, h34⟩ := h32; refine Zv (e_ rfl Tryz.isAgg41 (i_ h31)) ?_; obtain ⟨x35, hx35, b22⟩ := bind_some b22; refine Zo ?_; refine n_ (pF_ fuel w15 o14 13 (by decide) _ x27 (h34.keep hB.keeps) x35 hx35) Tryz.call67 ⟨rfl, trivial⟩ ?_; rintro e42 w36 ⟨v37, o43, rfl, h38, k39, k40⟩; have s41 := k39.stp' 13 k40; replace h38 := h38.mono hB.keeps.size; refine ⟨_, rfl, ?_⟩; replace h10 := h10.stp s41; replace h11 := h11.stp s41; replace hB := hB.stp s41; obtain ⟨x44, hx44, b22⟩ := bind_some b22; obtain ⟨v45, h46, h47, h48⟩ := h11.ix hx44; refine Zo ?_; refine ge_ h10 h46 rfl rfl Tryz.underlying22 Tryz.sizeOf41 ?_; intro b49 c51 h54 h52 h53; obtain ⟨rfl, -⟩ := h53; obtain ⟨x57, hx57, b22⟩ := bind_some b22; obtain ⟨h58, h59⟩ := h11.stV hx57 v37; refine ak_ trivial ?_; refine cG_ h10 h54 h58 (hR_ h38) (by decide) rfl rfl rfl Tryz.sizeOf41 h38.cells1 ?_; intro w55 h60 s56; replace h11 := h11.stp s56; replace h38 := h38.stp s56; replace hB := hB.stp s56; have h61 := RwH.put (i := y13.toNat) (h11.hole y13.toNat) h38 (by decide) (by decide); rw [← h59] at h61; have r62 := eu_ 13 12 o43; clear h11 h38; replace h60 := h60.rc r62 (by decide) (by decide); replace hB := hB.rc r62 (by decide); generalize mrg 13 12 o43 = o64 at *; refine Ze [(0, u0), (3, v4), (4, ZI y13)] (x_ (nx (c_ (Zm rfl ?_)))); obtain ⟨x65, hx65, b22⟩ := bind_some b22; refine Zv (B_ rfl rfl hx65) (Za rfl (Ze [(0, u0), (3, v4), (4, ZI x65)] (v_ ?_))); have e66 := Option.some.inj b22; subst e66; refine Zk [(0, u0), (3, v4), (4, ZI x65)] ?_; intro a ha; exact ⟨K24, by omega, x57, x65, (g12.set y13.toNat ⟨v37⟩), o64, n23, ha, hB, h60, h61⟩
  ·rw [if_neg (by rw [t26]; decide)] at b22; refine u_ ?_; refine m_ (m_ (R_ ?_)); refine p_ ?_; have e67 := Option.some.inj b22; subst e67; refine Zk [(3, v4)] ?_; intro a ha; exact ⟨y9, y13, g12, o14, n23, ha, hB, h10, h11⟩
 ·rintro a w15 ⟨y9, y13, g12, o14, rfl, ha, hB, h10, h11⟩; dsimp only at hF; refine ap_k ha ?_; refine Zn (Zm rfl (Za rfl (Ze [(2, v4)] (nx (j_ ?_))))); have e68 := Option.some.inj hF; subst e68; refine Zr Tryz.results42 [v4] ?_; exact ⟨_, g12, rt2 oo o14 w.heap.size 11 12 t, rfl, h10.rt2 hB (by decide) (by decide) t, h11.rt2 hB (by decide) (by decide) (by decide) t, hB.keeps, gM_ _ _ _ _ _ _⟩
 ·exact fun _ _ h => h.elim
def dm_ (p0 : List Int) (p1 : List Int) : Int → Option (Lp Int Int Bool) := fun (s : Int) =>
  if decide (s < (p0.length : Int)) then
    (ix p0 s) >>= fun x17 =>
    (ix p1 s) >>= fun x20 =>
    if x17 != x20 then
      some (.ret false)
    else
      (ck (s + 1)) >>= fun x70 =>
      some (.go x70)
  else
    some (.out s)
def gi_ (fuel : Nat) (p0 : List Int) (p1 : List Int) : Option Bool :=
  if (p0.length : Int) != (p1.length : Int) then
    some false
  else
    (loopF (dm_ p0 p1) fuel 0) >>= fun q6 =>
    match q6 with
    | .inl y3 =>
      some true
    | .inr r' => some r'

def kM_ (w : World) (r : Bool) : Ending → World → Prop := fun e w' => e = .returned (.bool r) ∧ Keeps w w'
theorem pz_ (fuel : Nat) (w : World) (u0 : Value) (p0 : List Int) (g0 : RdL zt w u0 p0) (u1 : Value) (p1 : List Int) (g1 : RdL zt w u1 p1) (r : Bool) (hF : gi_ fuel p0 p1 = some r) :
    Calls Tryz.prog 24 #[u0, u1] w (kM_ w r) := by
 unfold gi_ at hF; have hB : Bs (fun _ => 1) (col (fun _ => 1)) w w := Bs.start _ _; refine h_ (n := 26) (vs := [u0, u1]) Tryz.func24 rfl rfl ?_; refine Zq (Za rfl (Ze [(0, u0), (1, u1)] (nx (b_ (Zq (Zm rfl (Zv (F_ rfl g0 Tryz.underlying41) (Zm rfl (Zv (F_ rfl g1 Tryz.underlying41) (Zv (cE_ rfl rfl) (Ze [(0, u0), (1, u1), (10, (.bool ((p0.length : Int) != (p1.length : Int))))] (nx ?_)))))))))))); refine l_ rfl (fun t1 => ?_) (fun t1 => ?_)
 ·rw [if_pos t1] at hF; refine Zq (Za rfl (Ze [(4, (.bool false))] (nx (j_ (A_ ?_))))); have e2 := Option.some.inj hF; subst e2; refine Zr Tryz.results24 [(.bool false)] ?_; exact ⟨rfl, hB.keeps⟩
 ·rw [if_neg (by rw [t1]; decide)] at hF; refine f_ (nx (b_ (Zq (Za rfl (Ze [(0, u0), (1, u1), (5, ZI 0)] (nx ?_)))))); obtain ⟨q6, hq6, hF⟩ := bind_some hF; refine z_ (fun a w5 => ∃ (y3 : Int) (o4 : Tg), q6 = .inl y3 ∧ Fr a 26 [] ∧ Bs (fun _ => 1) o4 w w5) (fun a w' => ∃ r', q6 = .inr r' ∧ bodyPost Tryz.prog Tryz.f24 (kM_ w r') .ret a w') ?_ ?_ ?_
  ·refine d_ ?_; refine y_ (fun (K : Nat) a w5 => ∃ (y3 : Int) (o4 : Tg), loopF (dm_ p0 p1) K y3 = some q6 ∧ Fr a 26 [(0, u0), (1, u1), (5, ZI y3)] ∧ Bs (fun _ => 1) o4 w w5) fuel (fun a ha => ⟨0, (col (fun _ => 1)), hq6, ha.sub (r := [(0, u0), (1, u1), (5, ZI 0)]) ⟨rfl, rfl, rfl, trivial⟩, hB⟩) ?_; rintro K10 a w5 ⟨y3, o4, l7, ha, hB⟩; obtain ⟨K14, q11, e15, b12, n13⟩ := X_ l7; dsimp only [dm_] at b12; refine L_ ha ?_; refine b_ (Zq (Zm rfl (Zm rfl (Zv (F_ rfl g0 Tryz.underlying41) (Zv (r_ rfl rfl) (Ze [(0, u0), (1, u1), (5, ZI y3), (14, (.bool (decide (y3 < (p0.length : Int)))))] (nx ?_))))))); refine l_ rfl (fun t16 => ?_) (fun t16 => ?_)
   ·rw [if_pos t16] at b12; refine f_ (nx (b_ (d_ (b_ ?_)))); obtain ⟨x17, hx17, b12⟩ := bind_some b12; obtain ⟨x20, hx20, b12⟩ := bind_some b12; refine am_ (o := o4) [(0, u0), (1, u1), (5, ZI y3)] [0, 1, 5] [17, 18, 19, 20, 21, 22, 23, 24] [[], [], [0, 1], [2], [], [], [4, 5], [6]] [none, none, none, none, none, none, none, none] [999, 999, 999, 999, 999, 999, 999, 999] [0, 0, 0, 0, 0, 0, 0, 0] [999] [fun v _ _ => v = u0, fun v _ _ => v = (ZI y3), fun v o w9 => ∃ vl, v = adr vl (y3.toNat * Rp.sz Int) ∧ RdL zt w vl p0, fun v _ _ => v = (ZI x17), fun v _ _ => v = u1, fun v _ _ => v = (ZI y3), fun v o w9 => ∃ vl, v = adr vl (y3.toNat * Rp.sz Int) ∧ RdL zt w vl p1, fun v _ _ => v = (ZI x20)] (fun o8 w8 => Bs (fun _ => 1) o8 w w8) G_ (by kernel_rfl) rfl ⟨rfl, rfl, rfl, trivial⟩ hB ?_ ⟨w_ _, w_ _, fun _ _ _ _ _ _ h0 hb ⟨vl, e, h⟩ hs => ⟨vl, e, h⟩, w_ _, w_ _, w_ _, fun _ _ _ _ _ _ h0 hb ⟨vl, e, h⟩ hs => ⟨vl, e, h⟩, w_ _, trivial⟩ ?_ ?_
    ·rintro t9 o1 w1 o2 w2 ht9 hB hs9; have ht9 : t9 = 999 := by simpa using ht9
     subst ht9; all_goals exact hB.stp hs9 (by decide)
    ·refine ⟨?_, ?_, ?_, ?_, ?_, ?_, ?_, ?_, trivial⟩
     ·rintro o23 w24 a25 ha hB -; refine Zs ha ?_; refine g_ (k_ rfl) ?_; exact Zx rfl
     ·rintro o26 w27 a28 ha hB -; refine Zs ha ?_; refine g_ (k_ rfl) ?_; exact Zx rfl
     ·rintro o29 w30 a31 ha hB ⟨r32, r33, -⟩; have ha := Fr.cons (d := 17) ha r32; have ha := Fr.cons (d := 18) ha r33; refine Zs ha ?_; refine bk_ g0 hx17 rfl rfl Tryz.underlying41 Tryz.sizeOf3 ?_; exact ⟨_, Stp.refl _ _ _, ⟨_, rfl, g0⟩⟩
     ·rintro o34 w35 a36 ha hB ⟨r37, -⟩; obtain ⟨v38, e39, h40⟩ := r37; have ha := Fr.cons (d := 19) ha e39; refine Zs ha ?_; refine bp_ h40 hx17 hB rfl rfl Tryz.isAgg3 ?_; intro c41 h42; cases h42
      exact Zx rfl
     ·rintro o43 w44 a45 ha hB -; refine Zs ha ?_; refine g_ (k_ rfl) ?_; exact Zx rfl
     ·rintro o46 w47 a48 ha hB -; refine Zs ha ?_; refine g_ (k_ rfl) ?_; exact Zx rfl
     ·rintro o49 w50 a51 ha hB ⟨r52, r53, -⟩; have ha := Fr.cons (d := 21) ha r52; have ha := Fr.cons (d := 22) ha r53; refine Zs ha ?_; refine bk_ g1 hx20 rfl rfl Tryz.underlying41 Tryz.sizeOf3 ?_; exact ⟨_, Stp.refl _ _ _, ⟨_, rfl, g1⟩⟩
     ·rintro o54 w55 a56 ha hB ⟨r57, -⟩; obtain ⟨v58, e59, h60⟩ := r57; have ha := Fr.cons (d := 23) ha e59; refine Zs ha ?_; refine bp_ h60 hx20 hB rfl rfl Tryz.isAgg3 ?_; intro c61 h62; cases h62
      exact Zx rfl
    rintro o63 w64 a65 ha hB ⟨-, -, -, r66, -, -, -, r67, -⟩; have ha := Fr.cons (d := 20) ha r66; have ha := Fr.cons (d := 24) ha r67; refine bf_ ha ?_; simp only [List.length_cons, List.length_nil, Nat.zero_add, Nat.reduceAdd, List.drop_succ_cons, List.drop_zero]; refine Zv (cE_ rfl rfl) (Ze [(0, u0), (1, u1), (5, ZI y3), (25, (.bool (x17 != x20)))] (nx ?_)); refine l_ rfl (fun t68 => ?_) (fun t68 => ?_)
    ·rw [if_pos t68] at b12; refine Zq (Za rfl (Ze [(4, (.bool false))] (nx (j_ (aa_ (A_ (A_ (aa_ ?_)))))))); refine bu_ ?_; have e69 := Option.some.inj b12; subst e69; refine fun a ha => ⟨_, n13, ?_⟩; refine D_ (P := Tryz.prog) (vs := [(.bool false)]) Tryz.results24 ⟨rfl, trivial⟩ ?_ a ha; exact ⟨rfl, hB.keeps⟩
    ·rw [if_neg (by rw [t68]; decide)] at b12; refine f_ (x_ (nx (c_ (Zm rfl ?_)))); obtain ⟨x70, hx70, b12⟩ := bind_some b12; refine Zv (B_ rfl rfl hx70) (Za rfl (Ze [(0, u0), (1, u1), (5, ZI x70)] (v_ ?_))); have e71 := Option.some.inj b12; subst e71; refine Zk [(0, u0), (1, u1), (5, ZI x70)] ?_; intro a ha; exact ⟨K14, by omega, x70, o63, n13, ha, hB⟩
   ·rw [if_neg (by rw [t16]; decide)] at b12; refine u_ ?_; refine m_ (m_ (R_ ?_)); refine p_ ?_; have e72 := Option.some.inj b12; subst e72; refine Zk [] ?_; intro a ha; exact ⟨y3, o4, n13, ha, hB⟩
  ·rintro a w5 ⟨y3, o4, rfl, ha, hB⟩; dsimp only at hF; refine ap_k ha ?_; refine Zn (Za rfl (Ze [(4, (.bool true))] (nx (j_ ?_)))); have e73 := Option.some.inj hF; subst e73; refine Zr Tryz.results24 [(.bool true)] ?_; exact ⟨rfl, hB.keeps⟩
  ·rintro a w5 ⟨r', rfl, b74⟩; dsimp only at hF; have e75 := Option.some.inj hF; subst e75; exact b74
def cJ_ (fuel : Nat) (p0 : List (List Int)) (p1 : List (List Int)) : Int → Option (Lp Int Int Bool) := fun (s : Int) =>
  if decide (s < (p0.length : Int)) then
    (ix p0 s) >>= fun x17 =>
    (ix p1 s) >>= fun x23 =>
    (gi_ fuel x17 x23) >>= fun x84 =>
    if !x84 then
      some (.ret false)
    else
      (ck (s + 1)) >>= fun x92 =>
      some (.go x92)
  else
    some (.out s)
def eq_ (fuel : Nat) (p0 : List (List Int)) (p1 : List (List Int)) : Option Bool :=
  if (p0.length : Int) != (p1.length : Int) then
    some false
  else
    (loopF (cJ_ fuel p0 p1) fuel 0) >>= fun q6 =>
    match q6 with
    | .inl y3 =>
      some true
    | .inr r' => some r'

def jx_ (w : World) (r : Bool) : Ending → World → Prop := fun e w' => e = .returned (.bool r) ∧ Keeps w w'
theorem jc_ (fuel : Nat) (w : World) (u0 : Value) (p0 : List (List Int)) (g0 : RdL zt w u0 p0) (u1 : Value) (p1 : List (List Int)) (g1 : RdL zt w u1 p1) (r : Bool) (hF : eq_ fuel p0 p1 = some r) :
    Calls Tryz.prog 25 #[u0, u1] w (jx_ w r) := by
 unfold eq_ at hF; have hB : Bs (fun _ => 1) (col (fun _ => 1)) w w := Bs.start _ _; refine h_ (n := 27) (vs := [u0, u1]) Tryz.func25 rfl rfl ?_; refine Zq (Za rfl (Ze [(0, u0), (1, u1)] (nx (b_ (Zq (Zm rfl (Zv (F_ rfl g0 Tryz.underlying22) (Zm rfl (Zv (F_ rfl g1 Tryz.underlying22) (Zv (cE_ rfl rfl) (Ze [(0, u0), (1, u1), (10, (.bool ((p0.length : Int) != (p1.length : Int))))] (nx ?_)))))))))))); refine l_ rfl (fun t1 => ?_) (fun t1 => ?_)
 ·rw [if_pos t1] at hF; refine Zq (Za rfl (Ze [(4, (.bool false))] (nx (j_ (A_ ?_))))); have e2 := Option.some.inj hF; subst e2; refine Zr Tryz.results25 [(.bool false)] ?_; exact ⟨rfl, hB.keeps⟩
 ·rw [if_neg (by rw [t1]; decide)] at hF; refine f_ (nx (b_ (Zq (Za rfl (Ze [(0, u0), (1, u1), (5, ZI 0)] (nx ?_)))))); obtain ⟨q6, hq6, hF⟩ := bind_some hF; refine z_ (fun a w5 => ∃ (y3 : Int) (o4 : Tg), q6 = .inl y3 ∧ Fr a 27 [] ∧ Bs (fun _ => 1) o4 w w5) (fun a w' => ∃ r', q6 = .inr r' ∧ bodyPost Tryz.prog Tryz.f25 (jx_ w r') .ret a w') ?_ ?_ ?_
  ·refine d_ ?_; refine y_ (fun (K : Nat) a w5 => ∃ (y3 : Int) (o4 : Tg), loopF (cJ_ fuel p0 p1) K y3 = some q6 ∧ Fr a 27 [(0, u0), (1, u1), (5, ZI y3)] ∧ Bs (fun _ => 1) o4 w w5) fuel (fun a ha => ⟨0, (col (fun _ => 1)), hq6, ha.sub (r := [(0, u0), (1, u1), (5, ZI 0)]) ⟨rfl, rfl, rfl, trivial⟩, hB⟩) ?_; rintro K10 a w5 ⟨y3, o4, l7, ha, hB⟩; obtain ⟨K14, q11, e15, b12, n13⟩ := X_ l7; dsimp only [cJ_] at b12; refine L_ ha ?_; refine b_ (Zq (Zm rfl (Zm rfl (Zv (F_ rfl g0 Tryz.underlying22) (Zv (r_ rfl rfl) (Ze [(0, u0), (1, u1), (5, ZI y3), (14, (.bool (decide (y3 < (p0.length : Int)))))] (nx ?_))))))); refine l_ rfl (fun t16 => ?_) (fun t16 => ?_)
   ·rw [if_pos t16] at b12; refine f_ (nx (b_ (d_ (b_ ?_)))); obtain ⟨x17, hx17, b12⟩ := bind_some b12; obtain ⟨x23, hx23, b12⟩ := bind_some b12; refine am_ (o := o4) [(0, u0), (1, u1), (5, ZI y3)] [0, 1, 5] [17, 18, 19, 20, 21, 22, 23, 24] [[], [], [0, 1], [2], [], [], [4, 5], [6]] [none, none, none, none, none, none, none, none] [999, 999, 999, 999, 999, 999, 999, 999] [0, 0, 0, 0, 0, 0, 0, 0] [999] [fun v _ _ => v = u0, fun v _ _ => v = (ZI y3), fun v o w9 => ∃ vl, v = adr vl (y3.toNat * Rp.sz (List Int)) ∧ RdL zt w vl p0, fun v o w9 => RdL zt w v x17, fun v _ _ => v = u1, fun v _ _ => v = (ZI y3), fun v o w9 => ∃ vl, v = adr vl (y3.toNat * Rp.sz (List Int)) ∧ RdL zt w vl p1, fun v o w9 => RdL zt w v x23] (fun o8 w8 => Bs (fun _ => 1) o8 w w8) G_ (by kernel_rfl) rfl ⟨rfl, rfl, rfl, trivial⟩ hB ?_ ⟨w_ _, w_ _, fun _ _ _ _ _ _ h0 hb ⟨vl, e, h⟩ hs => ⟨vl, e, h⟩, fun _ _ _ _ _ _ h0 hb h hs => h, w_ _, w_ _, fun _ _ _ _ _ _ h0 hb ⟨vl, e, h⟩ hs => ⟨vl, e, h⟩, fun _ _ _ _ _ _ h0 hb h hs => h, trivial⟩ ?_ ?_
    ·rintro t9 o1 w1 o2 w2 ht9 hB hs9; have ht9 : t9 = 999 := by simpa using ht9
     subst ht9; all_goals exact hB.stp hs9 (by decide)
    ·refine ⟨?_, ?_, ?_, ?_, ?_, ?_, ?_, ?_, trivial⟩
     ·rintro o29 w30 a31 ha hB -; refine Zs ha ?_; refine g_ (k_ rfl) ?_; exact Zx rfl
     ·rintro o32 w33 a34 ha hB -; refine Zs ha ?_; refine g_ (k_ rfl) ?_; exact Zx rfl
     ·rintro o35 w36 a37 ha hB ⟨r38, r39, -⟩; have ha := Fr.cons (d := 17) ha r38; have ha := Fr.cons (d := 18) ha r39; refine Zs ha ?_; refine bk_ g0 hx17 rfl rfl Tryz.underlying22 Tryz.sizeOf41 ?_; exact ⟨_, Stp.refl _ _ _, ⟨_, rfl, g0⟩⟩
     ·rintro o40 w41 a42 ha hB ⟨r43, -⟩; obtain ⟨v44, e45, h46⟩ := r43; have ha := Fr.cons (d := 19) ha e45; refine Zs ha ?_; refine bp_ h46 hx17 hB rfl rfl Tryz.isAgg41 ?_; intro c47 h48; obtain ⟨v49, e51, h50⟩ := h48; cases e51
      exact ⟨_, Stp.refl _ _ _, h50⟩
     ·rintro o52 w53 a54 ha hB -; refine Zs ha ?_; refine g_ (k_ rfl) ?_; exact Zx rfl
     ·rintro o55 w56 a57 ha hB -; refine Zs ha ?_; refine g_ (k_ rfl) ?_; exact Zx rfl
     ·rintro o58 w59 a60 ha hB ⟨r61, r62, -⟩; have ha := Fr.cons (d := 21) ha r61; have ha := Fr.cons (d := 22) ha r62; refine Zs ha ?_; refine bk_ g1 hx23 rfl rfl Tryz.underlying22 Tryz.sizeOf41 ?_; exact ⟨_, Stp.refl _ _ _, ⟨_, rfl, g1⟩⟩
     ·rintro o63 w64 a65 ha hB ⟨r66, -⟩; obtain ⟨v67, e68, h69⟩ := r66; have ha := Fr.cons (d := 23) ha e68; refine Zs ha ?_; refine bp_ h69 hx23 hB rfl rfl Tryz.isAgg41 ?_; intro c70 h71; obtain ⟨v72, e74, h73⟩ := h71; cases e74
      exact ⟨_, Stp.refl _ _ _, h73⟩
    rintro o75 w76 a77 ha hB ⟨-, -, -, r78, -, -, -, r79, -⟩; replace r78 : RdL zt w (a77.tmps.getD 20 undef) x17 := r78; generalize e81 : a77.tmps.getD 20 undef = v80 at r78; have ha := Fr.cons (d := 20) ha e81; replace r79 : RdL zt w (a77.tmps.getD 24 undef) x23 := r79; generalize e83 : a77.tmps.getD 24 undef = v82 at r79; have ha := Fr.cons (d := 24) ha e83; refine bf_ ha ?_; simp only [List.length_cons, List.length_nil, Nat.zero_add, Nat.reduceAdd, List.drop_succ_cons, List.drop_zero]; obtain ⟨x84, hx84, b12⟩ := bind_some b12; refine Zo ?_; refine n_ (pz_ fuel w76 _ x17 (r78.keep hB.keeps) _ x23 (r79.keep hB.keeps) x84 hx84) Tryz.call24 ⟨rfl, rfl, trivial⟩ ?_; rintro e89 w85 ⟨rfl, k86⟩; have s88 := k86.stp 999 o75; refine ⟨_, rfl, ?_⟩; replace hB := hB.stp s88; refine Zv (bg_ rfl) (Ze [(0, u0), (1, u1), (5, ZI y3), (26, (.bool (!x84)))] (nx ?_)); refine l_ rfl (fun t90 => ?_) (fun t90 => ?_)
    ·rw [if_pos t90] at b12; refine Zq (Za rfl (Ze [(4, (.bool false))] (nx (j_ (aa_ (A_ (A_ (aa_ ?_)))))))); refine bu_ ?_; have e91 := Option.some.inj b12; subst e91; refine fun a ha => ⟨_, n13, ?_⟩; refine D_ (P := Tryz.prog) (vs := [(.bool false)]) Tryz.results25 ⟨rfl, trivial⟩ ?_ a ha; exact ⟨rfl, hB.keeps⟩
    ·rw [if_neg (by rw [t90]; decide)] at b12; refine f_ (x_ (nx (c_ (Zm rfl ?_)))); obtain ⟨x92, hx92, b12⟩ := bind_some b12; refine Zv (B_ rfl rfl hx92) (Za rfl (Ze [(0, u0), (1, u1), (5, ZI x92)] (v_ ?_))); have e93 := Option.some.inj b12; subst e93; refine Zk [(0, u0), (1, u1), (5, ZI x92)] ?_; intro a ha; exact ⟨K14, by omega, x92, o75, n13, ha, hB⟩
   ·rw [if_neg (by rw [t16]; decide)] at b12; refine u_ ?_; refine m_ (m_ (R_ ?_)); refine p_ ?_; have e94 := Option.some.inj b12; subst e94; refine Zk [] ?_; intro a ha; exact ⟨y3, o4, n13, ha, hB⟩
  ·rintro a w5 ⟨y3, o4, rfl, ha, hB⟩; dsimp only at hF; refine ap_k ha ?_; refine Zn (Za rfl (Ze [(4, (.bool true))] (nx (j_ ?_)))); have e95 := Option.some.inj hF; subst e95; refine Zr Tryz.results25 [(.bool true)] ?_; exact ⟨rfl, hB.keeps⟩
  ·rintro a w5 ⟨r', rfl, b96⟩; dsimp only at hF; have e97 := Option.some.inj hF; subst e97; exact b96
def ec_ (fuel : Nat) (p0 : a_) (p1 : Int) : Option Int :=
  (er_ fuel p0.Nodes p1) >>= fun x10 =>
  if decide (x10 < 0) then
    some (-1)
  else
    (er_ fuel p0.Edges x10) >>= fun x18 =>
    if decide (x18 < 0) then
      some (-1)
    else
      some x18

def kV_ (w : World) (r : Int) : Ending → World → Prop := fun e w' => e = .returned (.int .i64 r) ∧ Keeps w w'
theorem lx_ (fuel : Nat) (w : World) (u0 : List Value) (p0 : a_) (g0 : Rp.rd zt w u0 p0) (p1 : Int) (r : Int) (hF : ec_ fuel p0 p1 = some r) :
    Calls Tryz.prog 9 #[.agg u0.toArray, .int .i64 p1] w (kV_ w r) := by
 unfold ec_ at hF; obtain ⟨v1, v3, rfl, h2, h4⟩ := g0; have hB : Bs (fun _ => 1) (col (fun _ => 1)) w w := Bs.start _ _; refine h_ (n := 18) (vs := [(.agg #[(ZI p0.Labels), (ZI p0.Degree), v1, v3]), (ZI p1)]) Tryz.func9 rfl rfl ?_; refine Zq (Zo ?_); refine aP_ (o := (col (fun _ => 1))) w.heap.size 11 hB.keeps.size (cs := [(ZI p0.Labels), (ZI p0.Degree), v1, v3]) rfl rfl ?_; intro o5 w6 b7 h8 s9; replace hB := hB.stp s9; refine Za rfl (Ze [(1, ZI p1), (2, ZP b7)] (Zn (Zv (q_ rfl Tryz.underlying24 rfl Tryz.sizeOf22) (Zv (e_ rfl Tryz.isAgg22 (h8.cell rfl)) (Zm rfl ?_))))); obtain ⟨x10, hx10, hF⟩ := bind_some hF; refine Zo ?_; refine n_ (js_ fuel w6 _ p0.Nodes (h2.keep hB.keeps) p1 x10 hx10) Tryz.call39 ⟨rfl, rfl, trivial⟩ ?_; rintro e15 w11 ⟨rfl, k12⟩; have s14 := k12.stp 999 o5; refine ⟨_, rfl, ?_⟩; replace h8 := h8.stp s14; replace hB := hB.stp s14; refine Za rfl (Ze [(1, ZI x10), (2, ZP b7)] (nx (b_ (Zq (Zm rfl (Zv (r_ rfl rfl) (Ze [(1, ZI x10), (2, ZP b7), (10, (.bool (decide (x10 < 0))))] (nx ?_)))))))); refine l_ rfl (fun t16 => ?_) (fun t16 => ?_)
 ·rw [if_pos t16] at hF; refine Zq (Za rfl (Ze [(4, (ZI (-1)))] (nx (j_ (A_ ?_))))); have e17 := Option.some.inj hF; subst e17; refine Zr Tryz.results9 [(ZI (-1))] ?_; exact ⟨rfl, hB.keeps⟩
 ·rw [if_neg (by rw [t16]; decide)] at hF; refine f_ (Zn (Zv (q_ rfl Tryz.underlying24 rfl Tryz.sizeOf22) (Zv (e_ rfl Tryz.isAgg22 (h8.cell rfl)) (Zm rfl ?_)))); obtain ⟨x18, hx18, hF⟩ := bind_some hF; refine Zo ?_; refine n_ (js_ fuel w11 _ p0.Edges (h4.keep hB.keeps) x10 x18 hx18) Tryz.call39 ⟨rfl, rfl, trivial⟩ ?_; rintro e23 w19 ⟨rfl, k20⟩; have s22 := k20.stp 999 o5; refine ⟨_, rfl, ?_⟩; replace h8 := h8.stp s22; replace hB := hB.stp s22; refine Za rfl (Ze [(1, ZI x18)] (nx (b_ (Zq (Zm rfl (Zv (r_ rfl rfl) (Ze [(1, ZI x18), (16, (.bool (decide (x18 < 0))))] (nx ?_)))))))); refine l_ rfl (fun t24 => ?_) (fun t24 => ?_)
  ·rw [if_pos t24] at hF; refine Zq (Za rfl (Ze [(4, (ZI (-1)))] (nx (j_ (A_ ?_))))); have e25 := Option.some.inj hF; subst e25; refine Zr Tryz.results9 [(ZI (-1))] ?_; exact ⟨rfl, hB.keeps⟩
  ·rw [if_neg (by rw [t24]; decide)] at hF; refine f_ (Zn (Zm rfl (Za rfl (Ze [(4, ZI x18)] (nx (j_ ?_)))))); have e26 := Option.some.inj hF; subst e26; refine Zr Tryz.results9 [(ZI x18)] ?_; exact ⟨rfl, hB.keeps⟩
def cD_ (fuel : Nat) (p0 : a_) : Option a_ :=
  (eo_ fuel p0.Nodes) >>= fun x26 =>
  (eo_ fuel p0.Edges) >>= fun x40 =>
  some (⟨p0.Labels, p0.Degree, x26, x40⟩ : a_)

def kw_ (oo : Tg) (t : Nat) (w : World) (r : a_) : Ending → World → Prop := fun e w' => ∃ (v0 : List Value) (o' : Tg), e = .returned (.agg v0.toArray) ∧ Rp.rd o' w' v0 r ∧ Dz 41 3 o' w' (v0.getD 2 undef) r.Nodes ∧ Dz 41 3 o' w' (v0.getD 3 undef) r.Edges ∧ Keeps w w' ∧ ∀ b, b < w.heap.size → o' b = oo b
theorem gk_ (fuel : Nat) (w : World) (oo : Tg) (t : Nat) (ht : 2 ≤ t) (u0 : List Value) (p0 : a_) (g0 : Rp.rd zt w u0 p0) (r : a_) (hF : cD_ fuel p0 = some r) :
    Calls Tryz.prog 11 #[.agg u0.toArray] w (kw_ oo t w r) := by
 unfold cD_ at hF; obtain ⟨v1, v3, rfl, h2, h4⟩ := g0; have hB : Bs oo (col oo) w w := Bs.start _ _; refine h_ (n := 19) (vs := [(.agg #[(ZI p0.Labels), (ZI p0.Degree), v1, v3])]) Tryz.func11 rfl rfl ?_; generalize col oo = o at *; refine Zq (Zo ?_); refine aP_ (o := o) w.heap.size 11 hB.keeps.size (cs := [(ZI p0.Labels), (ZI p0.Degree), v1, v3]) rfl rfl ?_; intro o5 w6 b7 h8 s9; replace hB := hB.stp s9; refine Zo ?_; refine aI_ (o := o5) w.heap.size 12 hB.keeps.size (cs := [(ZI 0), (ZI 0), (.slice none 0 0), (.slice none 0 0)]) Tryz.zeroValue28 rfl ?_; intro o10 w11 b12 h13 s14; replace h8 := h8.stp s14; replace hB := hB.stp s14; refine Ze [(1, ZP b7), (2, ZP b12)] (Zn (Zo ?_)); refine aI_ (o := o10) w.heap.size 13 hB.keeps.size (cs := [(ZI 0), (ZI 0), (.slice none 0 0), (.slice none 0 0)]) Tryz.zeroValue28 rfl ?_; intro o15 w16 b17 h18 s19; replace h8 := h8.stp s19; replace h13 := h13.stp s19; replace hB := hB.stp s19; refine Ze [(1, ZP b7), (2, ZP b12), (3, ZP b17)] (Zn (Zv (q_ rfl Tryz.underlying24 rfl Tryz.sizeOf3) (Zv (e_ rfl Tryz.isAgg3 (h8.cell rfl)) (Zv (q_ rfl Tryz.underlying28 rfl Tryz.sizeOf3) ?_)))); refine ak_ trivial ?_; refine bz_ h18 rfl rfl (of_decide_eq_true rfl) Tryz.sizeOf3 rfl rfl ?_; intro w20 h22 s21; replace h8 := h8.stp s21; replace h13 := h13.stp s21; replace hB := hB.stp s21; replace h22 : Bx w.heap.size 13 o15 w20 b17 28 [(ZI p0.Labels), (ZI 0), (.slice none 0 0), (.slice none 0 0)] := h22; refine Ze [(1, ZP b7), (2, ZP b12), (3, ZP b17)] (Zn (Zv (q_ rfl Tryz.underlying24 rfl Tryz.sizeOf3) (Zv (e_ rfl Tryz.isAgg3 (h8.cell rfl)) (Zv (q_ rfl Tryz.underlying28 rfl Tryz.sizeOf3) ?_)))); refine ak_ trivial ?_; refine bz_ h22 rfl rfl (of_decide_eq_true rfl) Tryz.sizeOf3 rfl rfl ?_; intro w23 h25 s24; replace h8 := h8.stp s24; replace h13 := h13.stp s24; replace hB := hB.stp s24; replace h25 : Bx w.heap.size 13 o15 w23 b17 28 [(ZI p0.Labels), (ZI p0.Degree), (.slice none 0 0), (.slice none 0 0)] := h25; refine Ze [(1, ZP b7), (2, ZP b12), (3, ZP b17)] (Zn (Zv (q_ rfl Tryz.underlying24 rfl Tryz.sizeOf22) (Zv (e_ rfl Tryz.isAgg22 (h8.cell rfl)) ?_))); obtain ⟨x26, hx26, hF⟩ := bind_some hF; refine Zo ?_; refine n_ (jw_ fuel w23 o15 14 (by decide) _ p0.Nodes (h2.keep hB.keeps) x26 hx26) Tryz.call42 ⟨rfl, trivial⟩ ?_; rintro e35 w27 ⟨v28, g30, o36, rfl, h29, h31, k32, k33⟩; have s34 := k32.stp' 14 k33; replace h29 := h29.mono hB.keeps.size; replace h31 := h31.mono hB.keeps.size; refine ⟨_, rfl, ?_⟩; replace h8 := h8.stp s34; replace h13 := h13.stp s34; replace h25 := h25.stp s34; replace hB := hB.stp s34; refine Zv (q_ rfl Tryz.underlying28 rfl Tryz.sizeOf22) ?_; refine ak_ trivial ?_; refine bz_ h25 rfl rfl (of_decide_eq_true rfl) Tryz.sizeOf22 h29.cells1 h29.one1 ?_; intro w37 h39 s38; replace h29 := h29.stp s38; replace h31 := h31.stp s38; replace h8 := h8.stp s38; replace h13 := h13.stp s38; replace hB := hB.stp s38
 replace h39 : Bx w.heap.size 13 o36 w37 b17 28 [(ZI p0.Labels), (ZI p0.Degree), v28, (.slice none 0 0)] := h39; refine Ze [(1, ZP b7), (2, ZP b12), (3, ZP b17)] (Zn (Zv (q_ rfl Tryz.underlying24 rfl Tryz.sizeOf22) (Zv (e_ rfl Tryz.isAgg22 (h8.cell rfl)) ?_))); obtain ⟨x40, hx40, hF⟩ := bind_some hF; refine Zo ?_; refine n_ (jw_ fuel w37 o36 16 (by decide) _ p0.Edges (h4.keep hB.keeps) x40 hx40) Tryz.call42 ⟨rfl, trivial⟩ ?_; rintro e49 w41 ⟨v42, g44, o50, rfl, h43, h45, k46, k47⟩; have s48 := k46.stp' 16 k47; replace h43 := h43.mono hB.keeps.size; replace h45 := h45.mono hB.keeps.size; refine ⟨_, rfl, ?_⟩; replace h8 := h8.stp s48; replace h13 := h13.stp s48; replace h39 := h39.stp s48; replace h29 := h29.stp s48; replace h31 := h31.stp s48; replace hB := hB.stp s48; refine Zv (q_ rfl Tryz.underlying28 rfl Tryz.sizeOf22) ?_; refine ak_ trivial ?_; refine bz_ h39 rfl rfl (of_decide_eq_true rfl) Tryz.sizeOf22 h43.cells1 h43.one1 ?_; intro w51 h53 s52; replace h43 := h43.stp s52; replace h45 := h45.stp s52; replace h8 := h8.stp s52; replace h13 := h13.stp s52; replace h29 := h29.stp s52; replace h31 := h31.stp s52; replace hB := hB.stp s52; replace h53 : Bx w.heap.size 13 o50 w51 b17 28 [(ZI p0.Labels), (ZI p0.Degree), v28, v42] := h53; refine Ze [(2, ZP b12), (3, ZP b17)] (Zn (Zv (K_ rfl Tryz.isAgg28 Tryz.sizeOf28 rfl h53.cells) ?_)); refine ak_ trivial ?_; refine ab_ h13 rfl rfl rfl dA_ (by intro c hc; simp only [List.mem_cons, List.not_mem_nil, or_false] at hc; rcases hc with rfl | rfl | rfl | rfl <;> first | rfl | exact h29.one1 | exact h43.one1) ?_; intro w54 h56 s55; replace h29 := h29.stp s55; replace h31 := h31.stp s55; replace h43 := h43.stp s55; replace h45 := h45.stp s55; replace h8 := h8.stp s55; replace h53 := h53.stp s55; replace hB := hB.stp s55; refine Ze [(2, ZP b12)] (nx (j_ ?_)); have h57 := Dz.of h29 h31 (by decide) (by decide) (by decide); have r58 := dU_ 14 o50; have r59 := dU_ 15 (frz 14 o50); replace h8 := (h8.rc r58 (by decide)).rc r59 (by decide); replace h56 := (h56.rc r58 (by decide)).rc r59 (by decide); replace h43 := (h43.rc r58 (by decide) (by decide)).rc r59 (by decide) (by decide); replace h45 := (h45.rc r58 (by decide) (by decide)).rc r59 (by decide) (by decide); replace h53 := (h53.rc r58 (by decide)).rc r59 (by decide); replace hB := (hB.rc r58 (by decide)).rc r59 (by decide); clear r58 r59; generalize frz 15 (frz 14 o50) = o61 at *; have h60 := h57.rd; have h62 := Dz.of h43 h45 (by decide) (by decide) (by decide); have r63 := dU_ 16 o61; have r64 := dU_ 17 (frz 16 o61); replace h8 := (h8.rc r63 (by decide)).rc r64 (by decide); replace h56 := (h56.rc r63 (by decide)).rc r64 (by decide); replace h60 := (h60.rc r63 (by decide)).rc r64 (by decide); replace h57 := (h57.rc r63 (by decide)).rc r64 (by decide); replace h53 := (h53.rc r63 (by decide)).rc r64 (by decide); replace hB := (hB.rc r63 (by decide)).rc r64 (by decide); clear r63 r64
 generalize frz 17 (frz 16 o61) = o66 at *; have h65 := h62.rd; have e67 := Option.some.inj hF; subst e67; refine D_ (P := Tryz.prog) (vs := [(.agg #[(ZI p0.Labels), (ZI p0.Degree), v28, v42])]) Tryz.results11 ⟨⟨_, rfl, aR_ Tryz.isAgg28 Tryz.sizeOf28 rfl h56.cells⟩, trivial⟩ ?_; exact ⟨[(ZI p0.Labels), (ZI p0.Degree), v28, v42], rt oo o66 w.heap.size 9 t, rfl, ⟨_, _, rfl, h60.rt hB 9 t (by decide), h65.rt hB 9 t (by decide)⟩, h57.rt hB 9 t (by decide), h62.rt hB 9 t (by decide), hB.keeps, an_ _ _ _ _ _⟩
def ee_ (fuel : Nat) (p0 : a_) (p1 : a_) : Option Bool :=
  if p0.Labels != p1.Labels then
    some false
  else
    if p0.Degree != p1.Degree then
      some false
    else
      (eq_ fuel p0.Nodes p1.Nodes) >>= fun x23 =>
      if !x23 then
        some false
      else
        (eq_ fuel p0.Edges p1.Edges) >>= fun x31 =>
        if !x31 then
          some false
        else
          some true

def lr_ (w : World) (r : Bool) : Ending → World → Prop := fun e w' => e = .returned (.bool r) ∧ Keeps w w'
theorem kH_ (fuel : Nat) (w : World) (u0 : List Value) (p0 : a_) (g0 : Rp.rd zt w u0 p0) (u1 : List Value) (p1 : a_) (g1 : Rp.rd zt w u1 p1) (r : Bool) (hF : ee_ fuel p0 p1 = some r) :
    Calls Tryz.prog 13 #[.agg u0.toArray, .agg u1.toArray] w (lr_ w r) := by
 unfold ee_ at hF; obtain ⟨v1, v3, rfl, h2, h4⟩ := g0; obtain ⟨v5, v7, rfl, h6, h8⟩ := g1; have hB : Bs (fun _ => 1) (col (fun _ => 1)) w w := Bs.start _ _; refine h_ (n := 27) (vs := [(.agg #[(ZI p0.Labels), (ZI p0.Degree), v1, v3]), (.agg #[(ZI p1.Labels), (ZI p1.Degree), v5, v7])]) Tryz.func13 rfl rfl ?_; refine Zq (Zo ?_); refine aP_ (o := (col (fun _ => 1))) w.heap.size 11 hB.keeps.size (cs := [(ZI p0.Labels), (ZI p0.Degree), v1, v3]) rfl rfl ?_; intro o9 w10 b11 h12 s13; replace hB := hB.stp s13; refine Zo ?_; refine aP_ (o := o9) w.heap.size 12 hB.keeps.size (cs := [(ZI p1.Labels), (ZI p1.Degree), v5, v7]) rfl rfl ?_; intro o14 w15 b16 h17 s18; replace h12 := h12.stp s18; replace hB := hB.stp s18; refine Za rfl (Ze [(2, ZP b11), (3, ZP b16)] (nx (b_ (Zq (Zv (q_ rfl Tryz.underlying28 rfl Tryz.sizeOf3) (Zv (e_ rfl Tryz.isAgg3 (h12.cell rfl)) (Zv (q_ rfl Tryz.underlying28 rfl Tryz.sizeOf3) (Zv (e_ rfl Tryz.isAgg3 (h17.cell rfl)) (Zv (cE_ rfl rfl) (Ze [(2, ZP b11), (3, ZP b16), (9, (.bool (p0.Labels != p1.Labels)))] (nx ?_))))))))))); refine l_ rfl (fun t19 => ?_) (fun t19 => ?_)
 ·rw [if_pos t19] at hF; refine Zq (Za rfl (Ze [(4, (.bool false))] (nx (j_ (A_ ?_))))); have e20 := Option.some.inj hF; subst e20; refine Zr Tryz.results13 [(.bool false)] ?_; exact ⟨rfl, hB.keeps⟩
 ·rw [if_neg (by rw [t19]; decide)] at hF; refine f_ (nx (b_ (Zq (Zv (q_ rfl Tryz.underlying28 rfl Tryz.sizeOf3) (Zv (e_ rfl Tryz.isAgg3 (h12.cell rfl)) (Zv (q_ rfl Tryz.underlying28 rfl Tryz.sizeOf3) (Zv (e_ rfl Tryz.isAgg3 (h17.cell rfl)) (Zv (cE_ rfl rfl) (Ze [(2, ZP b11), (3, ZP b16), (14, (.bool (p0.Degree != p1.Degree)))] (nx ?_)))))))))); refine l_ rfl (fun t21 => ?_) (fun t21 => ?_)
  ·rw [if_pos t21] at hF; refine Zq (Za rfl (Ze [(4, (.bool false))] (nx (j_ (A_ ?_))))); have e22 := Option.some.inj hF; subst e22; refine Zr Tryz.results13 [(.bool false)] ?_; exact ⟨rfl, hB.keeps⟩
  ·rw [if_neg (by rw [t21]; decide)] at hF; refine f_ (nx (b_ (Zq (Zv (q_ rfl Tryz.underlying28 rfl Tryz.sizeOf22) (Zv (e_ rfl Tryz.isAgg22 (h12.cell rfl)) (Zv (q_ rfl Tryz.underlying28 rfl Tryz.sizeOf22) (Zv (e_ rfl Tryz.isAgg22 (h17.cell rfl)) ?_))))))); obtain ⟨x23, hx23, hF⟩ := bind_some hF; refine Zo ?_; refine n_ (jc_ fuel w15 _ p0.Nodes (h2.keep hB.keeps) _ p1.Nodes (h6.keep hB.keeps) x23 hx23) Tryz.call25 ⟨rfl, rfl, trivial⟩ ?_; rintro e28 w24 ⟨rfl, k25⟩; have s27 := k25.stp 999 o14; refine ⟨_, rfl, ?_⟩; replace h12 := h12.stp s27; replace h17 := h17.stp s27; replace hB := hB.stp s27; refine Zv (bg_ rfl) (Ze [(2, ZP b11), (3, ZP b16), (20, (.bool (!x23)))] (nx ?_)); refine l_ rfl (fun t29 => ?_) (fun t29 => ?_)
   ·rw [if_pos t29] at hF; refine Zq (Za rfl (Ze [(4, (.bool false))] (nx (j_ (A_ ?_))))); have e30 := Option.some.inj hF; subst e30; refine Zr Tryz.results13 [(.bool false)] ?_; exact ⟨rfl, hB.keeps⟩
   ·rw [if_neg (by rw [t29]; decide)] at hF; refine f_ (nx (b_ (Zq (Zv (q_ rfl Tryz.underlying28 rfl Tryz.sizeOf22) (Zv (e_ rfl Tryz.isAgg22 (h12.cell rfl)) (Zv (q_ rfl Tryz.underlying28 rfl Tryz.sizeOf22) (Zv (e_ rfl Tryz.isAgg22 (h17.cell rfl)) ?_))))))); obtain ⟨x31, hx31, hF⟩ := bind_some hF; refine Zo ?_; refine n_ (jc_ fuel w24 _ p0.Edges (h4.keep hB.keeps) _ p1.Edges (h8.keep hB.keeps) x31 hx31) Tryz.call25 ⟨rfl, rfl, trivial⟩ ?_; rintro e36 w32 ⟨rfl, k33⟩; have s35 := k33.stp 999 o14; refine ⟨_, rfl, ?_⟩; replace h12 := h12.stp s35; replace h17 := h17.stp s35; replace hB := hB.stp s35; refine Zv (bg_ rfl) (Ze [(26, (.bool (!x31)))] (nx ?_)); refine l_ rfl (fun t37 => ?_) (fun t37 => ?_)
    ·rw [if_pos t37] at hF; refine Zq (Za rfl (Ze [(4, (.bool false))] (nx (j_ (A_ ?_))))); have e38 := Option.some.inj hF; subst e38; refine Zr Tryz.results13 [(.bool false)] ?_; exact ⟨rfl, hB.keeps⟩
    ·rw [if_neg (by rw [t37]; decide)] at hF; refine f_ (Zn (Za rfl (Ze [(4, (.bool true))] (nx (j_ ?_))))); have e39 := Option.some.inj hF; subst e39; refine Zr Tryz.results13 [(.bool true)] ?_; exact ⟨rfl, hB.keeps⟩
def bH_ (fuel : Nat) (p0 : a_) (p1 : Int) : Option Bool :=
  (ec_ fuel p0 1048576) >>= fun x10 =>
  if decide (x10 < 0) then
    some true
  else
    (cD_ fuel p0) >>= fun x18 =>
    (cW_ fuel x18 p1) >>= fun x33 =>
    (cD_ fuel p0) >>= fun x39 =>
    (cU_ fuel x39 p1) >>= fun x62 =>
    (
      if x62.1 != x33.1 then
        some true
      else
        some (x62.2 != x33.2)) >>= fun q68 =>
    if q68 then
      some false
    else
      (cD_ fuel p0) >>= fun x77 =>
      (ee_ fuel x39 x77) >>= fun x128 =>
      if !x128 then
        some false
      else
        some true

def gb_ (w : World) (r : Bool) : Ending → World → Prop := fun e w' => e = .returned (.bool r) ∧ Keeps w w'
theorem fY_ (fuel : Nat) (w : World) (u0 : List Value) (p0 : a_) (g0 : Rp.rd zt w u0 p0) (p1 : Int) (r : Bool) (hF : bH_ fuel p0 p1 = some r) :
    Calls Tryz.prog 3 #[.agg u0.toArray, .int .i64 p1] w (gb_ w r) := by
 unfold bH_ at hF; obtain ⟨v1, v3, rfl, h2, h4⟩ := g0; have hB : Bs (fun _ => 1) (col (fun _ => 1)) w w := Bs.start _ _; refine h_ (n := 44) (vs := [(.agg #[(ZI p0.Labels), (ZI p0.Degree), v1, v3]), (ZI p1)]) Tryz.func3 rfl rfl ?_; refine Zq (Zo ?_); refine aP_ (o := (col (fun _ => 1))) w.heap.size 11 hB.keeps.size (cs := [(ZI p0.Labels), (ZI p0.Degree), v1, v3]) rfl rfl ?_; intro o5 w6 b7 h8 s9; replace hB := hB.stp s9; refine Za rfl (Ze [(1, ZI p1), (2, ZP b7)] (Zn (Za rfl (Ze [(1, ZI p1), (2, ZP b7), (5, ZI 1048576)] (Zn (Zv (K_ rfl Tryz.isAgg24 Tryz.sizeOf24 rfl h8.cells) (Zm rfl ?_))))))); obtain ⟨x10, hx10, hF⟩ := bind_some hF; refine Zo ?_; refine n_ (lx_ fuel w6 _ p0 (⟨_, _, rfl, (h2.keep hB.keeps), (h4.keep hB.keeps)⟩) 1048576 x10 hx10) Tryz.call9 ⟨rfl, rfl, trivial⟩ ?_; rintro e15 w11 ⟨rfl, k12⟩; have s14 := k12.stp 999 o5; refine ⟨_, rfl, ?_⟩; replace h8 := h8.stp s14; replace hB := hB.stp s14; refine Za rfl (Ze [(1, ZI p1), (2, ZP b7), (5, ZI x10)] (nx (b_ (Zq (Zm rfl (Zv (r_ rfl rfl) (Ze [(1, ZI p1), (2, ZP b7), (15, (.bool (decide (x10 < 0))))] (nx ?_)))))))); refine l_ rfl (fun t16 => ?_) (fun t16 => ?_)
 ·rw [if_pos t16] at hF; refine Zq (Za rfl (Ze [(4, (.bool true))] (nx (j_ (A_ ?_))))); have e17 := Option.some.inj hF; subst e17; refine Zr Tryz.results3 [(.bool true)] ?_; exact ⟨rfl, hB.keeps⟩
 ·rw [if_neg (by rw [t16]; decide)] at hF; refine f_ (Zn (Zv (K_ rfl Tryz.isAgg24 Tryz.sizeOf24 rfl h8.cells) ?_)); obtain ⟨x18, hx18, hF⟩ := bind_some hF; refine Zo ?_; refine n_ (gk_ fuel w11 o5 13 (by decide) _ p0 (⟨_, _, rfl, (h2.keep hB.keeps), (h4.keep hB.keeps)⟩) x18 hx18) Tryz.call11 ⟨rfl, trivial⟩ ?_; rintro e27 w19 ⟨c20, o28, rfl, h21, h22, h23, k24, k25⟩; have s26 := k24.stp' 13 k25; refine ⟨_, rfl, ?_⟩; obtain ⟨v29, v31, rfl, h30, h32⟩ := h21; replace h22 : Dz 41 3 o28 w19 v29 x18.Nodes := h22; replace h23 : Dz 41 3 o28 w19 v31 x18.Edges := h23; replace h8 := h8.stp s26; replace hB := hB.stp s26; refine Zm rfl ?_; obtain ⟨x33, hx33, hF⟩ := bind_some hF; refine Zo ?_; refine n_ (jb_ fuel w19 _ x18 (⟨_, _, rfl, h30.z, h32.z⟩) p1 x33 hx33) Tryz.call10 ⟨rfl, rfl, trivial⟩ ?_; rintro e38 w34 ⟨rfl, k35⟩; have s37 := k35.stp 999 o28; refine ⟨_, rfl, ?_⟩; replace h30 := h30.stp s37; replace h22 := h22.stp s37; replace h32 := h32.stp s37; replace h23 := h23.stp s37; replace h8 := h8.stp s37; replace hB := hB.stp s37; refine Zm rfl (Zv (t_ rfl rfl) (Zv (t_ rfl rfl) (Za rfl (Za rfl (Ze [(1, ZI p1), (2, ZP b7), (6, ZI x33.1), (7, (.bool x33.2))] (Zn (Zv (K_ rfl Tryz.isAgg24 Tryz.sizeOf24 rfl h8.cells) ?_))))))); obtain ⟨x39, hx39, hF⟩ := bind_some hF; refine Zo ?_; refine n_ (gk_ fuel w34 o28 15 (by decide) _ p0 (⟨_, _, rfl, (h2.keep hB.keeps), (h4.keep hB.keeps)⟩) x39 hx39) Tryz.call11 ⟨rfl, trivial⟩ ?_; rintro e48 w40 ⟨c41, o49, rfl, h42, h43, h44, k45, k46⟩; have s47 := k45.stp' 15 k46; refine ⟨_, rfl, ?_⟩; obtain ⟨v50, v52, rfl, h51, h53⟩ := h42; replace h43 : Dz 41 3 o49 w40 v50 x39.Nodes := h43; replace h44 : Dz 41 3 o49 w40 v52 x39.Edges := h44; replace h8 := h8.stp s47; replace hB := hB.stp s47; refine Zo ?_; refine aI_ (o := o49) w.heap.size 16 hB.keeps.size (cs := [(ZI 0), (ZI 0), (.slice none 0 0), (.slice none 0 0)]) Tryz.zeroValue28 rfl ?_; intro o54 w55 b56 h57 s58; replace h51 := h51.stp s58; replace h43 := h43.stp s58; replace h53 := h53.stp s58; replace h44 := h44.stp s58; replace h8 := h8.stp s58; replace hB := hB.stp s58; refine ak_ trivial ?_; refine ab_ h57 rfl rfl rfl dA_ (by intro c hc; simp only [List.mem_cons, List.not_mem_nil, or_false] at hc; rcases hc with rfl | rfl | rfl | rfl <;> first | rfl | exact h51.one1 | exact h53.one1) ?_; intro w59 h61 s60; replace h51 := h51.stp s60; replace h43 := h43.stp s60; replace h53 := h53.stp s60; replace h44 := h44.stp s60; replace h8 := h8.stp s60; replace hB := hB.stp s60; refine Ze [(1, ZI p1), (2, ZP b7), (6, ZI x33.1), (7, (.bool x33.2)), (8, ZP b56)] (Zn (Zv (K_ rfl Tryz.isAgg28 Tryz.sizeOf28 rfl h61.cells) (Zm rfl ?_))); obtain ⟨x62, hx62, hF⟩ := bind_some hF; refine Zo ?_; refine n_ (iS_ fuel w59 zt _ x39 (⟨_, _, rfl, h51.z, h53.z⟩) p1 x62 hx62) Tryz.call12 ⟨rfl, rfl, trivial⟩ ?_; rintro e67 w63 ⟨rfl, k64⟩; have s66 := k64.stp 999 o54; refine ⟨_, rfl, ?_⟩
  replace h51 := h51.stp s66; replace h43 := h43.stp s66; replace h53 := h53.stp s66; replace h44 := h44.stp s66; replace h8 := h8.stp s66; replace h61 := h61.stp s66; replace hB := hB.stp s66; refine Zm rfl (Zv (t_ rfl rfl) (Zv (t_ rfl rfl) (Za rfl (Za rfl (Ze [(2, ZP b7), (6, ZI x33.1), (7, (.bool x33.2)), (8, ZP b56), (9, ZI x62.1), (10, (.bool x62.2))] (nx (b_ (Zq (Zm rfl (Zm rfl (Zv (cE_ rfl rfl) (Zm rfl ?_)))))))))))); obtain ⟨q68, hq68, hF⟩ := bind_some hF; refine az_ 4 (fun a70 w69 => Fr a70 44 [(2, ZP b7), (8, ZP b56), (38, (.bool q68))] ∧ Keeps w63 w69) ?_ ?_; all_goals simp only [List.take_succ_cons, List.take_zero, List.drop_succ_cons, List.drop_zero]
  ·have kp : Keeps w63 w63 := Keeps.refl _; rcases Bool.eq_false_or_eq_true (x62.1 != x33.1) with t71 | t71
   ·rw [if_pos t71] at hq68; refine s_ rfl rfl (by rw [t71]; rfl) (by decide) ?_; refine s_ rfl rfl (by rw [t71]; rfl) (by decide) ?_; refine s_ rfl rfl (by rw [t71]; rfl) (by decide) ?_; refine Zv (O_ (congrArg (fun b => some (Value.bool b)) t71) rfl) ?_; have hq682 := Option.some.inj hq68; refine Ze [(2, ZP b7), (8, ZP b56), (38, (.bool true))] ?_; subst hq682; refine p_ (fun a ha => ⟨ha, kp⟩)
   ·rw [if_neg (by rw [t71]; decide)] at hq68; refine o_ (k_ rfl) (by decide) ⟨_, rfl, (congrArg (fun b => some (Value.bool b)) t71)⟩ (o_ (k_ rfl) (by decide) ⟨_, rfl, (congrArg (fun b => some (Value.bool b)) t71)⟩ (o_ (rd_ rfl rfl Tryz.underlying4) (by decide) ⟨_, rfl, (congrArg (fun b => some (Value.bool b)) t71)⟩ (Zv (J_ (congrArg (fun b => some (Value.bool b)) t71) rfl) ?_))); have hq682 := Option.some.inj hq68; refine Ze [(2, ZP b7), (8, ZP b56), (38, (.bool (x62.2 != x33.2)))] ?_; subst hq682; refine p_ (fun a ha => ⟨ha, kp⟩)
  rintro a74 w69 ⟨ha, k72⟩; have s73 := k72.stp 999 o54; replace h8 := h8.stp s73; replace h61 := h61.stp s73; replace h51 := h51.stp s73; replace h43 := h43.stp s73; replace h53 := h53.stp s73; replace h44 := h44.stp s73; replace hB := hB.stp s73; refine bf_ ha ?_; refine Ze [(2, ZP b7), (8, ZP b56), (38, (.bool q68))] (nx ?_); refine l_ rfl (fun t75 => ?_) (fun t75 => ?_)
  ·rw [if_pos t75] at hF; refine Zq (Za rfl (Ze [(4, (.bool false))] (nx (j_ (A_ ?_))))); have e76 := Option.some.inj hF; subst e76; refine Zr Tryz.results3 [(.bool false)] ?_; exact ⟨rfl, hB.keeps⟩
  ·rw [if_neg (by rw [t75]; decide)] at hF; refine f_ (nx (b_ (b_ ?_))); obtain ⟨x77, hx77, hF⟩ := bind_some hF; refine am_ (o := o54) [(2, ZP b7), (8, ZP b56)] [2, 8] [39, 40, 41] [[], [], [1]] [none, none, none] [999, 999, 999] [0, 0, 0] [999] [fun v _ _ => v = (.agg #[(ZI x39.Labels), (ZI x39.Degree), v50, v52]), fun v _ _ => v = (.agg #[(ZI p0.Labels), (ZI p0.Degree), v1, v3]), fun v o w9 => ∃ (c : List Value), v = .agg c.toArray ∧ Rp.rd o w9 c x77] (fun o8 w8 => Bs (fun _ => 1) o8 w w8 ∧ Bx w.heap.size 11 o8 w8 b7 24 [(ZI p0.Labels), (ZI p0.Degree), v1, v3] ∧ Bx w.heap.size 16 o8 w8 b56 28 [(ZI x39.Labels), (ZI x39.Degree), v50, v52] ∧ RdL o8 w8 v50 (x39.Nodes : List (List Int)) ∧ Dz 41 3 o8 w8 v50 (x39.Nodes : List (List Int)) ∧ RdL o8 w8 v52 (x39.Edges : List (List Int)) ∧ Dz 41 3 o8 w8 v52 (x39.Edges : List (List Int))) G_ (by kernel_rfl) rfl ⟨rfl, rfl, trivial⟩ ⟨hB, h8, h61, h51, h43, h53, h44⟩ ?_ ⟨w_ _, w_ _, fun _ _ _ _ _ _ h0 hb ⟨c, e, h⟩ hs => ⟨c, e, Rp.stp h hs h0.1⟩, trivial⟩ ?_ ?_
   ·rintro t9 o1 w1 o2 w2 ht9 ⟨hB, h8, h61, h51, h43, h53, h44⟩ hs9; have ht9 : t9 = 999 := by simpa using ht9
    subst ht9; all_goals exact ⟨hB.stp hs9 (by decide), h8.stp hs9 (by decide), h61.stp hs9 (by decide), h51.stp hs9 (by decide), h43.stp hs9 (by decide), h53.stp hs9 (by decide), h44.stp hs9 (by decide)⟩
   ·refine ⟨?_, ?_, ?_, trivial⟩
    ·rintro o92 w93 a94 ha ⟨hB, h8, h61, h51, h43, h53, h44⟩ -; refine Zs ha ?_; refine g_ (K_ rfl Tryz.isAgg28 Tryz.sizeOf28 rfl h61.cells) ?_; exact Zx rfl
    ·rintro o95 w96 a97 ha ⟨hB, h8, h61, h51, h43, h53, h44⟩ -; refine Zs ha ?_; refine g_ (K_ rfl Tryz.isAgg24 Tryz.sizeOf24 rfl h8.cells) ?_; exact Zx rfl
    ·rintro o98 w99 a100 ha ⟨hB, h8, h61, h51, h43, h53, h44⟩ ⟨r101, -⟩; have ha := Fr.cons (d := 40) ha r101; refine Zs ha ?_; refine n_ (gk_ fuel w99 o98 19 (by decide) _ p0 (⟨_, _, rfl, (h2.keep hB.keeps), (h4.keep hB.keeps)⟩) x77 hx77) Tryz.call11 ⟨rfl, trivial⟩ ?_; rintro e110 w102 ⟨c103, o111, rfl, h104, h105, h106, k107, k108⟩; have s109 := k107.stp' 999 k108; refine ⟨_, rfl, ?_⟩; obtain ⟨v112, v114, rfl, h113, h115⟩ := h104; replace h105 : Dz 41 3 o111 w102 v112 x77.Nodes := h105; replace h106 : Dz 41 3 o111 w102 v114 x77.Edges := h106; replace h8 := h8.stp s109; replace h61 := h61.stp s109; replace h51 := h51.stp s109; replace h43 := h43.stp s109; replace h53 := h53.stp s109; replace h44 := h44.stp s109; replace hB := hB.stp s109; exact ⟨_, s109, ⟨_, rfl, ⟨_, _, rfl, h113, h115⟩⟩⟩
   rintro o116 w117 a118 ha ⟨hB, h8, h61, h51, h43, h53, h44⟩ ⟨r119, -, r120, -⟩; have ha := Fr.cons (d := 39) ha r119; obtain ⟨c121, e122, h123⟩ := r120; obtain ⟨v124, v126, rfl, h125, h127⟩ := h123; have ha := Fr.cons (d := 41) ha e122; refine bf_ ha ?_; simp only [List.length_cons, List.length_nil, Nat.zero_add, Nat.reduceAdd, List.drop_succ_cons, List.drop_zero]; obtain ⟨x128, hx128, hF⟩ := bind_some hF; refine Zo ?_; refine n_ (kH_ fuel w117 _ x39 (⟨_, _, rfl, h51.z, h53.z⟩) _ x77 (⟨_, _, rfl, h125.z, h127.z⟩) x128 hx128) Tryz.call13 ⟨rfl, rfl, trivial⟩ ?_; rintro e133 w129 ⟨rfl, k130⟩; have s132 := k130.stp 999 o116; refine ⟨_, rfl, ?_⟩; replace h51 := h51.stp s132; replace h43 := h43.stp s132; replace h53 := h53.stp s132; replace h44 := h44.stp s132; replace h125 := h125.stp s132; replace h127 := h127.stp s132; replace h8 := h8.stp s132; replace h61 := h61.stp s132; replace hB := hB.stp s132; refine Zv (bg_ rfl) (Ze [(43, (.bool (!x128)))] (nx ?_)); refine l_ rfl (fun t134 => ?_) (fun t134 => ?_)
   ·rw [if_pos t134] at hF; refine Zq (Za rfl (Ze [(4, (.bool false))] (nx (j_ (A_ ?_))))); have e135 := Option.some.inj hF; subst e135; refine Zr Tryz.results3 [(.bool false)] ?_; exact ⟨rfl, hB.keeps⟩
   ·rw [if_neg (by rw [t134]; decide)] at hF; refine f_ (Zn (Za rfl (Ze [(4, (.bool true))] (nx (j_ ?_))))); have e136 := Option.some.inj hF; subst e136; refine Zr Tryz.results3 [(.bool true)] ?_; exact ⟨rfl, hB.keeps⟩
end

end Go.Proofs.YtdbbeldgdgonfaaGreat
