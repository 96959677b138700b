/- Part 25 of what this claim rests on (GEu), packed by pack.py. -/
import Derived.Test.YtdbbeldgdgonfaaGreatP03
import Derived.Test.YtdbbeldgdgonfaaGreatP20
namespace Go.Proofs.YtdbbeldgdgonfaaGreat
set_option linter.unusedSimpArgs false
set_option linter.unusedVariables false

section
set_option maxRecDepth 100000
set_option maxHeartbeats 2000000
open Go.RowKit
theorem dz_ : (Tryz.prog.info? 28).map (·.size) = some 4 := by kernel_rfl

def aW_ (fuel : Nat) (p0 : a_) : Int → (List Int) → Unit → Option (Lp Unit Unit ((List Int) × Bool)) := fun (i20 : Int) (x30 : List Int) (s : Unit) =>
  (cK_ fuel p0 x30 x30) >>= fun x38 =>
  if x38 then
    (ah_ x30) >>= fun x45 =>
    some (.ret (x45, true))
  else
    some (.go ())
def bq_ (fuel : Nat) (p0 : a_) : Option ((List Int) × Bool) :=
  (dd_ fuel p0) >>= fun x10 =>
  if !x10 then
    some ([], false)
  else
    (forI (aW_ fuel p0) p0.Nodes 0 ()) >>= fun q21 =>
    match q21 with
    | .inl _ =>
      some ([], false)
    | .inr r' => some r'

def ek_ (oo : Tg) (t : Nat) (w : World) (r : (List Int) × Bool) : Ending → World → Prop := fun e w' => ∃ (v0 : Value) (o' : Tg), e = .returned (.tuple #[v0, .bool r.2]) ∧ Ow w.heap.size 3 t o' w' v0 r.1 ∧ Keeps w w' ∧ ∀ b, b < w.heap.size → o' b = oo b
theorem gD_ (fuel : Nat) (w : World) (oo : Tg) (t : Nat) (ht : 2 ≤ t) (u0 : List Value) (p0 : a_) (g0 : Rp.rd zt w u0 p0) (r : (List Int) × Bool) (hF : bq_ fuel p0 = some r) :
    Calls Tryz.prog 45 #[.agg u0.toArray] w (ek_ oo t w r) := by
 unfold bq_ at hF; obtain ⟨v1, v3, rfl, h2, h4⟩ := g0; have hB : Bs oo (col oo) w w := Bs.start _ _; refine h_ (n := 23) (vs := [(.agg #[(ZI p0.Labels), (ZI p0.Degree), v1, v3])]) Tryz.func45 rfl rfl ?_; generalize col oo = o at *; refine Zq (Zo ?_); refine aP_ (o := o) w.heap.size 11 hB.keeps.size (cs := [(ZI p0.Labels), (ZI p0.Degree), v1, v3]) rfl rfl ?_; intro o5 w6 b7 h8 s9; replace hB := hB.stp s9; refine Za rfl (Za rfl (Ze [(1, ZP b7)] (nx (b_ (Zq (Zv (K_ rfl Tryz.isAgg28 Tryz.sizeOf28 rfl h8.cells) ?_)))))); obtain ⟨x10, hx10, hF⟩ := bind_some hF; refine Zo ?_; refine n_ (hP_ fuel w6 _ p0 (⟨_, _, rfl, (h2.keep hB.keeps), (h4.keep hB.keeps)⟩) x10 hx10) Tryz.call43 ⟨rfl, trivial⟩ ?_; rintro e15 w11 ⟨rfl, k12⟩; have s14 := k12.stp 999 o5; refine ⟨_, rfl, ?_⟩; replace h8 := h8.stp s14; replace hB := hB.stp s14; refine Zv (bg_ rfl) (Ze [(1, ZP b7), (8, (.bool (!x10)))] (nx ?_)); refine l_ rfl (fun t16 => ?_) (fun t16 => ?_)
 ·rw [if_pos t16] at hF; refine Zq (Za rfl (Za rfl (Ze [(2, (.slice none 0 0)), (3, (.bool false))] (nx (j_ (A_ ?_)))))); have e17 := Option.some.inj hF; subst e17; refine Zr Tryz.results45 [(.slice none 0 0), (.bool false)] ?_; exact ⟨_, rt oo o5 w.heap.size 9 t, rfl, (Ow.nil _ _ _ _ _), hB.keeps, an_ _ _ _ _ _⟩
 ·rw [if_neg (by rw [t16]; decide)] at hF; refine f_ (nx (b_ (Zq (Zv (q_ rfl Tryz.underlying28 rfl Tryz.sizeOf22) (Zv (e_ rfl Tryz.isAgg22 (h8.cell rfl)) (Zv (F_ rfl h2 Tryz.underlying22) (Zm rfl (Ze [(1, ZP b7), (10, v1), (11, (ZI (p0.Nodes.length : Int))), (12, ZI 0)] (nx ?_))))))))); obtain ⟨q21, hq21, hF⟩ := bind_some hF; refine z_ (fun a w19 => ∃ (o18 : Tg), q21 = .inl () ∧ Fr a 23 [] ∧ Bs oo o18 w w19) (fun a w' => ∃ r', q21 = .inr r' ∧ bodyPost Tryz.prog Tryz.f45 (ek_ oo t w r') .ret a w') ?_ ?_ ?_
  ·refine d_ ?_; refine y_ (fun (K : Nat) a w19 => ∃ (i20 : Int) (o18 : Tg), forI (aW_ fuel p0) (p0.Nodes.drop i20.toNat) i20 () = some q21 ∧ (p0.Nodes.drop i20.toNat).length = K ∧ 0 ≤ i20 ∧ Fr a 23 [(1, ZP b7), (10, v1), (11, (ZI (p0.Nodes.length : Int))), (12, ZI i20)] ∧ Bs oo o18 w w19 ∧ Bx w.heap.size 11 o18 w19 b7 28 [(ZI p0.Labels), (ZI p0.Degree), v1, v3]) _ (fun a ha => ⟨0, o5, hq21, rfl, Int.le_refl 0, ha.sub (r := [(1, ZP b7), (10, v1), (11, (ZI (p0.Nodes.length : Int))), (12, ZI 0)]) ⟨rfl, rfl, rfl, rfl, trivial⟩, hB, h8⟩) ?_; rintro K25 a w19 ⟨i20, o18, l22, m24, z23, ha, hB, h8⟩; by_cases t29 : i20 < (p0.Nodes.length : Int)
   ·obtain ⟨x30, q26, hx30, b27, n28⟩ := V_ z23 t29 l22; have hle := h2.len_le; dsimp only [aW_] at b27; refine L_ ha ?_; refine Zq (Zv (r_ rfl rfl) (Ze [(1, ZP b7), (10, v1), (11, (ZI (p0.Nodes.length : Int))), (12, ZI i20), (13, (.bool (decide (i20 < (p0.Nodes.length : Int)))))] (nx (b_ ?_)))); refine P_ (congrArg (fun b => some (Value.bool b)) (decide_eq_true t29)) ?_; refine f_ (nx (b_ (d_ (Zq (Zo ?_))))); refine wf_atZ h2 hx30 hB rfl rfl Tryz.underlying22 Tryz.sizeOf41 ?_; intro b31 f32 c33 h34 h35; obtain ⟨v36, rfl, h37⟩ := h35; refine Zv (e_ rfl Tryz.isAgg41 (i_ h34)) (Za rfl (Ze [(1, ZP b7), (5, v36), (10, v1), (11, (ZI (p0.Nodes.length : Int))), (12, ZI i20)] (Zn (Zv (K_ rfl Tryz.isAgg28 Tryz.sizeOf28 rfl h8.cells) (Zm rfl (Zm rfl ?_)))))); obtain ⟨x38, hx38, b27⟩ := bind_some b27; refine Zo ?_; refine n_ (hc_ fuel w19 _ p0 (⟨_, _, rfl, (h2.keep hB.keeps), (h4.keep hB.keeps)⟩) _ x30 (h37.keep hB.keeps) _ x30 (h37.keep hB.keeps) x38 hx38) Tryz.call69 ⟨rfl, rfl, rfl, trivial⟩ ?_; rintro e43 w39 ⟨rfl, k40⟩; have s42 := k40.stp 999 o18; refine ⟨_, rfl, ?_⟩; replace h8 := h8.stp s42; replace hB := hB.stp s42; refine Ze [(1, ZP b7), (5, v36), (10, v1), (11, (ZI (p0.Nodes.length : Int))), (12, ZI i20), (19, (.bool x38))] (nx ?_); refine l_ rfl (fun t44 => ?_) (fun t44 => ?_)
    ·rw [if_pos t44] at b27; refine Zq (Zm rfl ?_); obtain ⟨x45, hx45, b27⟩ := bind_some b27; refine Zo ?_; refine n_ (br_ w39 o18 14 (by decide) _ x30 (h37.keep hB.keeps) x45 hx45) Tryz.call70 ⟨rfl, trivial⟩ ?_; rintro e52 w46 ⟨v47, o53, rfl, h48, k49, k50⟩; have s51 := k49.stp' 14 k50; replace h48 := h48.mono hB.keeps.size; refine ⟨_, rfl, ?_⟩; replace h8 := h8.stp s51; replace hB := hB.stp s51; refine Za rfl (Za rfl (Ze [(2, v47), (3, (.bool true))] (nx (j_ (aa_ (A_ (A_ (aa_ ?_)))))))); refine bu_ ?_; have e54 := Option.some.inj b27; subst e54; refine fun a ha => ⟨_, n28, ?_⟩; refine D_ (P := Tryz.prog) (vs := [v47, (.bool true)]) Tryz.results45 ⟨rfl, rfl, trivial⟩ ?_ a ha; exact ⟨_, rt oo o53 w.heap.size 14 t, rfl, h48.rt hB (by decide) t, hB.keeps, an_ _ _ _ _ _⟩
    ·rw [if_neg (by rw [t44]; decide)] at b27; refine f_ (x_ (nx (c_ (Zv (B_ rfl rfl (C_ (by omega) (by omega))) (Zm rfl (Ze [(1, ZP b7), (10, v1), (11, (ZI (p0.Nodes.length : Int))), (12, (ZI (i20 + 1)))] (v_ ?_))))))); have e55 := Option.some.inj b27; subst e55; refine Zk [(1, ZP b7), (10, v1), (11, (ZI (p0.Nodes.length : Int))), (12, (ZI (i20 + 1)))] ?_; intro a ha; exact ⟨_, (by rw [← m24]; simp only [List.length_drop]; omega), i20 + 1, o18, n28, rfl, (by omega), ha, hB, h8⟩
   ·have r56 := W_ t29 l22; refine L_ ha ?_; refine Zq (Zv (r_ rfl rfl) (Ze [(1, ZP b7), (10, v1), (11, (ZI (p0.Nodes.length : Int))), (12, ZI i20), (13, (.bool (decide (i20 < (p0.Nodes.length : Int)))))] (nx (b_ ?_)))); refine H_ (congrArg (fun b => some (Value.bool b)) (decide_eq_false t29)) ?_; refine u_ ?_; refine m_ (m_ (R_ ?_)); refine p_ ?_; refine Zk [] ?_; intro a ha; exact ⟨o18, r56, ha, hB⟩
  ·rintro a w19 ⟨o18, rfl, ha, hB⟩; dsimp only at hF; refine ap_k ha ?_; refine Zn (Za rfl (Za rfl (Ze [(2, (.slice none 0 0)), (3, (.bool false))] (nx (j_ ?_))))); have e57 := Option.some.inj hF; subst e57; refine Zr Tryz.results45 [(.slice none 0 0), (.bool false)] ?_; exact ⟨_, rt oo o18 w.heap.size 9 t, rfl, (Ow.nil _ _ _ _ _), hB.keeps, an_ _ _ _ _ _⟩
  ·rintro a w19 ⟨r', rfl, b58⟩; dsimp only at hF; have e59 := Option.some.inj hF; subst e59; exact b58
def fx_ (p0 : Int) : Option Bool :=
  (cV_ p0 0 5) >>= fun x1 =>
  some x1

def lL_ (w : World) (r : Bool) : Ending → World → Prop := fun e w' => e = .returned (.bool r) ∧ Keeps w w'
theorem lK_ (w : World) (p0 : Int) (r : Bool) (hF : fx_ p0 = some r) :
    Calls Tryz.prog 44 #[.int .i64 p0] w (lL_ w r) := by
 unfold fx_ at hF; have hB : Bs (fun _ => 1) (col (fun _ => 1)) w w := Bs.start _ _; refine h_ (n := 5) (vs := [(ZI p0)]) Tryz.func44 rfl rfl ?_; refine Zq (Za rfl (Ze [(0, ZI p0)] (Zn (Zm rfl ?_)))); obtain ⟨x1, hx1, hF⟩ := bind_some hF; refine Zo ?_; refine n_ (fj_ w p0 0 5 x1 hx1) Tryz.call62 ⟨rfl, rfl, rfl, trivial⟩ ?_; rintro e6 w2 ⟨rfl, k3⟩; have s5 := k3.stp 999 (col (fun _ => 1)); refine ⟨_, rfl, ?_⟩; replace hB := hB.stp s5; refine Za rfl (Ze [(2, (.bool x1))] (nx (j_ ?_))); have e7 := Option.some.inj hF; subst e7; refine Zr Tryz.results44 [(.bool x1)] ?_; exact ⟨rfl, hB.keeps⟩
def ag_ (fuel : Nat) (p1 : Int) : (Int × Int × Int × (List (List Int)) × (List (List Int))) → Option (Lp (Int × Int × Int × (List (List Int)) × (List (List Int))) (Int × Int × Int × (List (List Int)) × (List (List Int))) (Int × Bool)) := fun (s : Int × Int × Int × (List (List Int)) × (List (List Int))) =>
  (bq_ fuel (⟨s.2.1, s.2.2.1, s.2.2.2.1, s.2.2.2.2⟩ : a_)) >>= fun x52 =>
  if x52.2 then
    some (.ret (s.1, true))
  else
    (dW_ fuel (⟨s.2.1, s.2.2.1, s.2.2.2.1, s.2.2.2.2⟩ : a_)) >>= fun x63 =>
    (
      if !x63.2.2.2 then
        some true
      else
        some (s.1 == p1)) >>= fun q91 =>
    if q91 then
      some (.ret (0, false))
    else
      (ck (s.1 + 1)) >>= fun x103 =>
      some (.go (x103, x63.1.Labels, x63.1.Degree, x63.1.Nodes, x63.1.Edges))
def cU_ (fuel : Nat) (p0 : a_) (p1 : Int) : Option (Int × Bool) :=
  (dd_ fuel p0) >>= fun x10 =>
  (
    if !x10 then
      some true
    else
      (fx_ p1) >>= fun x20 =>
      some (!x20)) >>= fun q16 =>
  if q16 then
    some (0, false)
  else
    (loopF (ag_ fuel p1) fuel (0, p0.Labels, p0.Degree, p0.Nodes, p0.Edges)) >>= fun q42 =>
    match q42 with
    | .inl (y31, y32, y33, y34, y37) =>
      none
    | .inr r' => some r'

def gE_ (w : World) (r : Int × Bool) : Ending → World → Prop := fun e w' => e = .returned (.tuple #[.int .i64 r.1, .bool r.2]) ∧ Keeps w w'
theorem iS_ (fuel : Nat) (w : World) (oo : Tg) (u0 : List Value) (p0 : a_) (g0 : Rp.rd oo w u0 p0) (p1 : Int) (r : Int × Bool) (hF : cU_ fuel p0 p1 = some r) :
    Calls Tryz.prog 12 #[.agg u0.toArray, .int .i64 p1] w (gE_ w r) := by
 unfold cU_ at hF; replace g0 := Rp.col g0; obtain ⟨v1, v3, rfl, h2, h4⟩ := g0; have hB : Bs oo (col oo) w w := Bs.start _ _; refine h_ (n := 45) (vs := [(.agg #[(ZI p0.Labels), (ZI p0.Degree), v1, v3]), (ZI p1)]) Tryz.func12 rfl rfl ?_; generalize col oo = o at *; refine Zq (Zo ?_); refine aP_ (o := o) w.heap.size 11 hB.keeps.size (cs := [(ZI p0.Labels), (ZI p0.Degree), v1, v3]) rfl rfl ?_; intro o5 w6 b7 h8 s9; replace h2 := h2.stp s9; replace h4 := h4.stp s9; replace hB := hB.stp s9; refine Za rfl (Za rfl (Ze [(1, ZI p1), (2, ZP b7)] (nx (b_ (Zq (Zv (K_ rfl Tryz.isAgg28 Tryz.sizeOf28 rfl h8.cells) ?_)))))); obtain ⟨x10, hx10, hF⟩ := bind_some hF; refine Zo ?_; refine n_ (hP_ fuel w6 _ p0 (⟨_, _, rfl, h2.z, h4.z⟩) x10 hx10) Tryz.call43 ⟨rfl, trivial⟩ ?_; rintro e15 w11 ⟨rfl, k12⟩; have s14 := k12.stp 999 o5; refine ⟨_, rfl, ?_⟩; replace h2 := h2.stp s14; replace h4 := h4.stp s14; replace h8 := h8.stp s14; replace hB := hB.stp s14; refine Zv (bg_ rfl) (Zm rfl ?_); obtain ⟨q16, hq16, hF⟩ := bind_some hF; refine az_ 4 (fun a18 w17 => Fr a18 45 [(1, ZI p1), (2, ZP b7), (20, (.bool q16))] ∧ Keeps w11 w17) ?_ ?_; all_goals simp only [List.take_succ_cons, List.take_zero, List.drop_succ_cons, List.drop_zero]
 ·have kp : Keeps w11 w11 := Keeps.refl _; rcases Bool.eq_false_or_eq_true (!x10) with t19 | t19
  ·rw [if_pos t19] at hq16; refine s_ rfl rfl (by rw [t19]; rfl) (by decide) ?_; refine s_ rfl rfl (by rw [t19]; rfl) (by decide) ?_; refine s_ rfl rfl (by rw [t19]; rfl) (by decide) ?_; refine Zv (O_ (congrArg (fun b => some (Value.bool b)) t19) rfl) ?_; have hq162 := Option.some.inj hq16; refine Ze [(1, ZI p1), (2, ZP b7), (20, (.bool true))] ?_; subst hq162; refine p_ (fun a ha => ⟨ha, kp⟩)
  ·rw [if_neg (by rw [t19]; decide)] at hq16; refine o_ (k_ rfl) (by decide) ⟨_, rfl, (congrArg (fun b => some (Value.bool b)) t19)⟩ ?_; obtain ⟨x20, hx20, hq16⟩ := bind_some hq16; refine ch_ (by decide) ⟨_, rfl, (congrArg (fun b => some (Value.bool b)) t19)⟩ ?_; refine n_ (lK_ w11 p1 x20 hx20) Tryz.call44 ⟨rfl, trivial⟩ ?_; rintro e25 w21 ⟨rfl, k22⟩; have s24 := k22.stp 999 o5; refine ⟨_, rfl, ?_⟩; replace h2 := h2.stp s24; replace h4 := h4.stp s24; replace h8 := h8.stp s24; replace hB := hB.stp s24; replace kp := Keeps.trans kp k22; refine o_ (bg_ rfl) (by decide) ⟨_, rfl, (congrArg (fun b => some (Value.bool b)) t19)⟩ (Zv (J_ (congrArg (fun b => some (Value.bool b)) t19) rfl) ?_); have hq162 := Option.some.inj hq16; refine Ze [(1, ZI p1), (2, ZP b7), (20, (.bool (!x20)))] ?_; subst hq162; refine p_ (fun a ha => ⟨ha, kp⟩)
 rintro a28 w17 ⟨ha, k26⟩; have s27 := k26.stp 999 o5; replace h8 := h8.stp s27; replace h2 := h2.stp s27; replace h4 := h4.stp s27; replace hB := hB.stp s27; refine bf_ ha ?_; refine Ze [(1, ZI p1), (2, ZP b7), (20, (.bool q16))] (nx ?_); refine l_ rfl (fun t29 => ?_) (fun t29 => ?_)
 ·rw [if_pos t29] at hF; refine Zq (Za rfl (Za rfl (Ze [(4, ZI 0), (5, (.bool false))] (nx (j_ (A_ ?_)))))); have e30 := Option.some.inj hF; subst e30; refine Zr Tryz.results12 [(ZI 0), (.bool false)] ?_; exact ⟨rfl, hB.keeps⟩
 ·rw [if_neg (by rw [t29]; decide)] at hF; refine f_ (Zn (Za rfl (Ze [(1, ZI p1), (2, ZP b7), (6, ZI 0)] (nx ?_)))); obtain ⟨q42, hq42, hF⟩ := bind_some hF; refine z_ (fun a w41 => ∃ (y31 : Int) (y32 : Int) (y33 : Int) (y34 : List (List Int)) (y37 : List (List Int)) (v35 : Value) (v38 : Value) (o40 : Tg), q42 = .inl (y31, y32, y33, y34, y37) ∧ Fr a 45 [] ∧ Bs oo o40 w w41) (fun a w' => ∃ r', q42 = .inr r' ∧ bodyPost Tryz.prog Tryz.f12 (gE_ w r') .ret a w') ?_ ?_ ?_
  ·refine d_ ?_; refine y_ (fun (K : Nat) a w41 => ∃ (y31 : Int) (y32 : Int) (y33 : Int) (y34 : List (List Int)) (y37 : List (List Int)) (v35 : Value) (v38 : Value) (o40 : Tg), loopF (ag_ fuel p1) K (y31, y32, y33, y34, y37) = some q42 ∧ Fr a 45 [(1, ZI p1), (2, ZP b7), (6, ZI y31)] ∧ Bs oo o40 w w41 ∧ Bx w.heap.size 11 o40 w41 b7 28 [(ZI y32), (ZI y33), v35, v38] ∧ RdL o40 w41 v35 y34 ∧ RdL o40 w41 v38 y37) fuel (fun a ha => ⟨0, p0.Labels, p0.Degree, p0.Nodes, p0.Edges, v1, v3, o5, hq42, ha.sub (r := [(1, ZI p1), (2, ZP b7), (6, ZI 0)]) ⟨rfl, rfl, rfl, trivial⟩, hB, h8, h2, h4⟩) ?_; rintro K46 a w41 ⟨y31, y32, y33, y34, y37, v35, v38, o40, l43, ha, hB, h8, h36, h39⟩; obtain ⟨K50, q47, e51, b48, n49⟩ := X_ l43; dsimp only [ag_] at b48; refine L_ ha ?_; refine b_ (d_ (b_ (Zq (Zv (K_ rfl Tryz.isAgg28 Tryz.sizeOf28 rfl h8.cells) ?_)))); obtain ⟨x52, hx52, b48⟩ := bind_some b48; refine Zo ?_; refine n_ (gD_ fuel w41 o40 14 (by decide) _ (⟨y32, y33, y34, y37⟩ : a_) (⟨_, _, rfl, h36.z, h39.z⟩) x52 hx52) Tryz.call45 ⟨rfl, trivial⟩ ?_; rintro e59 w53 ⟨v54, o60, rfl, h55, k56, k57⟩; have s58 := k56.stp' 14 k57; replace h55 := h55.mono hB.keeps.size; refine ⟨_, rfl, ?_⟩; replace h36 := h36.stp s58; replace h39 := h39.stp s58; replace h8 := h8.stp s58; replace hB := hB.stp s58; refine Zm rfl (Zv (t_ rfl rfl) (Zv (t_ rfl rfl) (Za rfl (Za rfl (Ze [(1, ZI p1), (2, ZP b7), (6, ZI y31), (8, (.bool x52.2))] (Zn (Zm rfl (Ze [(1, ZI p1), (2, ZP b7), (6, ZI y31), (28, (.bool x52.2))] (nx ?_))))))))); refine l_ rfl (fun t61 => ?_) (fun t61 => ?_)
   ·rw [if_pos t61] at b48; refine Zq (Zm rfl (Za rfl (Za rfl (Ze [(4, ZI y31), (5, (.bool true))] (nx (j_ (A_ (aa_ (A_ (A_ (aa_ ?_))))))))))); refine bu_ ?_; have e62 := Option.some.inj b48; subst e62; refine fun a ha => ⟨_, n49, ?_⟩; refine D_ (P := Tryz.prog) (vs := [(ZI y31), (.bool true)]) Tryz.results12 ⟨rfl, rfl, trivial⟩ ?_ a ha; exact ⟨rfl, hB.keeps⟩
   ·rw [if_neg (by rw [t61]; decide)] at b48; refine f_ (Zn (Zv (K_ rfl Tryz.isAgg28 Tryz.sizeOf28 rfl h8.cells) ?_)); obtain ⟨x63, hx63, b48⟩ := bind_some b48; refine Zo ?_; refine n_ (lC_ fuel w53 o60 15 (by decide) _ (⟨y32, y33, y34, y37⟩ : a_) (⟨_, _, rfl, h36.z, h39.z⟩) x63 hx63) Tryz.call46 ⟨rfl, trivial⟩ ?_; rintro e77 w64 ⟨c65, v69, v71, o78, rfl, h66, h67, h68, h70, h72, k74, k75⟩; have s76 := k74.stp' 15 k75; replace h70 := h70.mono hB.keeps.size; have h73 := h72.rd; refine ⟨_, rfl, ?_⟩; obtain ⟨v79, v81, rfl, h80, h82⟩ := h66; replace h67 : Dz 41 3 o78 w64 v79 x63.1.Nodes := h67; replace h68 : Dz 41 3 o78 w64 v81 x63.1.Edges := h68; replace h36 := h36.stp s76; replace h39 := h39.stp s76; replace h8 := h8.stp s76; replace hB := hB.stp s76; refine Zm rfl (Zv (t_ rfl rfl) (Zv (t_ rfl rfl) (Zv (t_ rfl rfl) (Zv (t_ rfl rfl) (Zo ?_))))); refine aI_ (o := o78) w.heap.size 16 hB.keeps.size (cs := [(ZI 0), (ZI 0), (.slice none 0 0), (.slice none 0 0)]) Tryz.zeroValue28 rfl ?_; intro o83 w84 b85 h86 s87; replace h36 := h36.stp s87; replace h39 := h39.stp s87; replace h80 := h80.stp s87; replace h67 := h67.stp s87; replace h82 := h82.stp s87; replace h68 := h68.stp s87; replace h70 := h70.stp s87; replace h73 := h73.stp s87; replace h72 := h72.stp s87; replace h8 := h8.stp s87; replace hB := hB.stp s87; refine ak_ trivial ?_; refine ab_ h86 rfl rfl rfl dz_ (by intro c hc; simp only [List.mem_cons, List.not_mem_nil, or_false] at hc; rcases hc with rfl | rfl | rfl | rfl <;> first | rfl | exact h80.one1 | exact h82.one1) ?_; intro w88 h90 s89; replace h36 := h36.stp s89; replace h39 := h39.stp s89; replace h80 := h80.stp s89; replace h67 := h67.stp s89; replace h82 := h82.stp s89; replace h68 := h68.stp s89; replace h70 := h70.stp s89; replace h73 := h73.stp s89; replace h72 := h72.stp s89; replace h8 := h8.stp s89; replace hB := hB.stp s89; refine Za rfl (Za rfl (Za rfl (Ze [(1, ZI p1), (2, ZP b7), (6, ZI y31), (9, ZP b85), (12, (.bool x63.2.2.2))] (nx (b_ (Zq (Zm rfl (Zv (bg_ rfl) (Zm rfl ?_))))))))); obtain ⟨q91, hq91, b48⟩ := bind_some b48; refine az_ 4 (fun a93 w92 => Fr a93 45 [(1, ZI p1), (2, ZP b7), (6, ZI y31), (9, ZP b85), (43, (.bool q91))] ∧ Keeps w88 w92) ?_ ?_; all_goals simp only [List.take_succ_cons, List.take_zero, List.drop_succ_cons, List.drop_zero]
    ·have kp : Keeps w88 w88 := Keeps.refl _; rcases Bool.eq_false_or_eq_true (!x63.2.2.2) with t94 | t94
     ·rw [if_pos t94] at hq91; refine s_ rfl rfl (by rw [t94]; rfl) (by decide) ?_; refine s_ rfl rfl (by rw [t94]; rfl) (by decide) ?_; refine s_ rfl rfl (by rw [t94]; rfl) (by decide) ?_; refine Zv (O_ (congrArg (fun b => some (Value.bool b)) t94) rfl) ?_; have hq912 := Option.some.inj hq91; refine Ze [(1, ZI p1), (2, ZP b7), (6, ZI y31), (9, ZP b85), (43, (.bool true))] ?_; subst hq912; refine p_ (fun a ha => ⟨ha, kp⟩)
     ·rw [if_neg (by rw [t94]; decide)] at hq91; refine o_ (k_ rfl) (by decide) ⟨_, rfl, (congrArg (fun b => some (Value.bool b)) t94)⟩ (o_ (k_ rfl) (by decide) ⟨_, rfl, (congrArg (fun b => some (Value.bool b)) t94)⟩ (o_ (ds_ rfl rfl) (by decide) ⟨_, rfl, (congrArg (fun b => some (Value.bool b)) t94)⟩ (Zv (J_ (congrArg (fun b => some (Value.bool b)) t94) rfl) ?_))); have hq912 := Option.some.inj hq91; refine Ze [(1, ZI p1), (2, ZP b7), (6, ZI y31), (9, ZP b85), (43, (.bool (y31 == p1)))] ?_; subst hq912; refine p_ (fun a ha => ⟨ha, kp⟩)
    rintro a97 w92 ⟨ha, k95⟩; have s96 := k95.stp 999 o83; replace h8 := h8.stp s96; replace h36 := h36.stp s96; replace h39 := h39.stp s96; replace h90 := h90.stp s96; replace h80 := h80.stp s96; replace h67 := h67.stp s96; replace h82 := h82.stp s96; replace h68 := h68.stp s96; replace hB := hB.stp s96; refine bf_ ha ?_; refine Ze [(1, ZI p1), (2, ZP b7), (6, ZI y31), (9, ZP b85), (43, (.bool q91))] (nx ?_); refine l_ rfl (fun t98 => ?_) (fun t98 => ?_)
    ·rw [if_pos t98] at b48; refine Zq (Za rfl (Za rfl (Ze [(4, ZI 0), (5, (.bool false))] (nx (j_ (A_ (aa_ (A_ (A_ (aa_ ?_)))))))))); refine bu_ ?_; have e99 := Option.some.inj b48; subst e99; refine fun a ha => ⟨_, n49, ?_⟩; refine D_ (P := Tryz.prog) (vs := [(ZI 0), (.bool false)]) Tryz.results12 ⟨rfl, rfl, trivial⟩ ?_ a ha; exact ⟨rfl, hB.keeps⟩
    ·rw [if_neg (by rw [t98]; decide)] at b48; refine f_ (nx (c_ (Zv (K_ rfl Tryz.isAgg28 Tryz.sizeOf28 rfl h90.cells) ?_))); refine ak_ trivial ?_; refine ab_ h8 rfl rfl rfl dz_ (by intro c hc; simp only [List.mem_cons, List.not_mem_nil, or_false] at hc; rcases hc with rfl | rfl | rfl | rfl <;> first | rfl | exact h80.one1 | exact h82.one1) ?_; intro w100 h102 s101; replace h80 := h80.stp s101; replace h67 := h67.stp s101; replace h82 := h82.stp s101; replace h68 := h68.stp s101; replace h36 := h36.stp s101; replace h39 := h39.stp s101; replace h90 := h90.stp s101; replace hB := hB.stp s101; refine Ze [(1, ZI p1), (2, ZP b7), (6, ZI y31)] (x_ (nx (c_ (Zm rfl ?_)))); obtain ⟨x103, hx103, b48⟩ := bind_some b48; refine Zv (B_ rfl rfl hx103) (Za rfl (Ze [(1, ZI p1), (2, ZP b7), (6, ZI x103)] (v_ ?_))); have e104 := Option.some.inj b48; subst e104; refine Zk [(1, ZI p1), (2, ZP b7), (6, ZI x103)] ?_; intro a ha; exact ⟨K50, by omega, x103, x63.1.Labels, x63.1.Degree, x63.1.Nodes, x63.1.Edges, v79, v81, o83, n49, ha, hB, h102, h80, h82⟩
  ·rintro a w41 ⟨y31, y32, y33, y34, y37, v35, v38, o40, rfl, ha, hB⟩; dsimp only at hF; cases hF
  ·rintro a w41 ⟨r', rfl, b105⟩; dsimp only at hF; have e106 := Option.some.inj hF; subst e106; exact b105
end

end Go.Proofs.YtdbbeldgdgonfaaGreat
