/- Part 7 of what this claim rests on (GN, Bs, Elc, Pd, Lpp, Pc), packed by pack.py. -/
import Derived.Test.YtdbbeldgdgonfaaGreatP03
import Derived.Test.YtdbbeldgdgonfaaGreatP06
namespace Go.Proofs.YtdbbeldgdgonfaaGreat
set_option linter.unusedSimpArgs false
set_option linter.unusedVariables false

section
set_option maxRecDepth 100000
set_option maxHeartbeats 2000000
open Go.RowKit
theorem kc_ : Inf Tryz.prog 3 (.int .i64 0) 1 8 := by unfold Inf; kernel_rfl

def be_ (p0 : Int) : Option Bool :=
  some (p0 != p0)

def gP_ (w : World) (r : Bool) : Ending → World → Prop := fun e w' => e = .returned (.bool r) ∧ Keeps w w'
theorem eG_ (w : World) (p0 : Int) (r : Bool) (hF : be_ p0 = some r) :
    Calls Tryz.prog 176 #[.int .i64 p0] w (gP_ w r) := by
 unfold be_ at hF; have hB : Bs (fun _ => 1) (col (fun _ => 1)) w w := Bs.start _ _; refine h_ (n := 6) (vs := [(ZI p0)]) Tryz.func176 rfl rfl ?_; refine Zq (Za rfl (Ze [(0, ZI p0)] (Zn (Zm rfl (Zm rfl (Zv (cE_ rfl rfl) (Za rfl (Ze [(2, (.bool (p0 != p0)))] (nx (j_ ?_)))))))))); have e1 := Option.some.inj hF; subst e1; refine Zr Tryz.results176 [(.bool (p0 != p0))] ?_; exact ⟨rfl, hB.keeps⟩
def ah_ (p0 : List Int) : Option (List Int) :=
  (cat ([] : List Int) p0) >>= fun x9 =>
  some x9

def fu_ (oo : Tg) (t : Nat) (w : World) (r : List Int) : Ending → World → Prop := fun e w' => ∃ (v0 : Value) (o' : Tg), e = .returned (v0) ∧ Ow w.heap.size 3 t o' w' v0 r ∧ Keeps w w' ∧ ∀ b, b < w.heap.size → o' b = oo b
theorem br_ (w : World) (oo : Tg) (t : Nat) (ht : 2 ≤ t) (u0 : Value) (p0 : List Int) (g0 : RdL zt w u0 p0) (r : List Int) (hF : ah_ p0 = some r) :
    Calls Tryz.prog 70 #[u0] w (fu_ oo t w r) := by
 unfold ah_ at hF; have hB : Bs oo (col oo) w w := Bs.start _ _; refine h_ (n := 8) (vs := [u0]) Tryz.func70 rfl rfl ?_; generalize col oo = o at *; refine Zq (Za rfl (Ze [(0, u0)] (nx (b_ (Zq (Zm rfl (Zv (pt_ (g0.keep hB.keeps) rfl rfl Tryz.underlying41) (Ze [(0, u0), (4, (.bool (isnil u0)))] (nx ?_))))))))); refine l_ rfl (fun t1 => ?_) (fun t1 => ?_)
 ·have e2 := pi_ (g0.keep hB.keeps) t1; subst e2; replace hF : (some [] : Option (List Int)) = some r := hF; refine Zq (Za rfl (Ze [(2, (.slice none 0 0))] (nx (j_ (A_ ?_))))); have e3 := Option.some.inj hF; subst e3; refine Zr Tryz.results70 [(.slice none 0 0)] ?_; exact ⟨_, rt oo o w.heap.size 9 t, rfl, (Ow.nil _ _ _ _ _), hB.keeps, an_ _ _ _ _ _⟩
 ·refine f_ (Zn (Zo ?_)); refine eT_ w.heap.size 11 hB.keeps.size (o := o) (cs := []) (xs := ([] : List Int)) (vs := []) rfl rfl trivial Tryz.underlying41 Tryz.sizeOf3 Tryz.zeroValue3 (by decide) fill0 (by simp) ?_; intro o4 w5 v6 h7 s8; replace hB := hB.stp s8; refine Zm rfl ?_; obtain ⟨x9, hx9, hF⟩ := bind_some hF; refine Zo ?_; refine jR_ h7 (g0.keep hB.keeps) hx9 (by decide) hB.keeps.size (fun _ _ h => h) rfl rfl Tryz.underlying41 kc_ rfl (by decide) ?_; intro o10 w11 v12 h13 s14; replace hB := hB.stp s14; refine Za rfl (Ze [(2, v12)] (nx (j_ ?_))); have e15 := Option.some.inj hF; subst e15; refine Zr Tryz.results70 [v12] ?_; exact ⟨_, rt oo o10 w.heap.size 11 t, rfl, h13.rt hB (by decide) t, hB.keeps, an_ _ _ _ _ _⟩
def Z_ (p0 : List Int) (p1 : Int) : (Int × Int) → Option (Lp (Int × Int) (Int × Int) (Int × Bool)) := fun (s : Int × Int) =>
  if decide (s.1 < s.2) then
    (ck (s.1 + s.2)) >>= fun x16 =>
    (cvU x16) >>= fun x17 =>
    (shr x17 1) >>= fun x18 =>
    (cvU x18) >>= fun x19 =>
    (ix p0 x19) >>= fun x20 =>
    (cd_ x20 p1) >>= fun x26 =>
    if x26 then
      (ck (x19 + 1)) >>= fun x33 =>
      some (.go (x33, s.2))
    else
      some (.go (s.1, x19))
  else
    some (.out (s.1, s.2))
def au_ (fuel : Nat) (p0 : List Int) (p1 : Int) : Option (Int × Bool) :=
  (loopF (Z_ p0 p1) fuel (0, (p0.length : Int))) >>= fun q5 =>
  match q5 with
  | .inl (y1, y2) =>
    (
      if decide (y1 < (p0.length : Int)) then
        (ix p0 y1) >>= fun x41 =>
        if x41 == p1 then
          some true
        else
          (ix p0 y1) >>= fun x48 =>
          (be_ x48) >>= fun x54 =>
          if x54 then
            (be_ p1) >>= fun x61 =>
            some x61
          else
            some false
      else
        some false) >>= fun q37 =>
    some (y1, q37)
  | .inr _ => none

def dP_ (w : World) (r : Int × Bool) : Ending → World → Prop := fun e w' => e = .returned (.tuple #[.int .i64 r.1, .bool r.2]) ∧ Keeps w w'
theorem dY_ (fuel : Nat) (w : World) (u0 : Value) (p0 : List Int) (g0 : RdL zt w u0 p0) (p1 : Int) (r : Int × Bool) (hF : au_ fuel p0 p1 = some r) :
    Calls Tryz.prog 143 #[u0, .int .i64 p1] w (dP_ w r) := by
 unfold au_ at hF; have hB : Bs (fun _ => 1) (col (fun _ => 1)) w w := Bs.start _ _; refine h_ (n := 54) (vs := [u0, (ZI p1)]) Tryz.func143 rfl rfl ?_; refine Zq (Za rfl (Za rfl (Ze [(0, u0), (1, ZI p1)] (Zn (Zm rfl (Zv (F_ rfl g0 Tryz.underlying41) (Za rfl (Ze [(0, u0), (1, ZI p1), (6, (ZI (p0.length : Int)))] (Zn (Zm rfl (Za rfl (Za rfl ?_)))))))))))); refine Ze [(0, u0), (1, ZI p1), (6, (ZI (p0.length : Int))), (7, ZI 0), (8, (ZI (p0.length : Int)))] (nx ?_); obtain ⟨q5, hq5, hF⟩ := bind_some hF; refine he_ (fun a w4 => ∃ (y1 : Int) (y2 : Int) (o3 : Tg), q5 = .inl (y1, y2) ∧ Fr a 54 [(0, u0), (1, ZI p1), (6, (ZI (p0.length : Int))), (7, ZI y1)] ∧ Bs (fun _ => 1) o3 w w4) (fun _ _ => False) ?_ ?_ ?_
 ·refine d_ ?_; refine y_ (fun (K : Nat) a w4 => ∃ (y1 : Int) (y2 : Int) (o3 : Tg), loopF (Z_ p0 p1) K (y1, y2) = some q5 ∧ Fr a 54 [(0, u0), (1, ZI p1), (6, (ZI (p0.length : Int))), (7, ZI y1), (8, ZI y2)] ∧ Bs (fun _ => 1) o3 w w4) fuel (fun a ha => ⟨0, (p0.length : Int), (col (fun _ => 1)), hq5, ha.sub (r := [(0, u0), (1, ZI p1), (6, (ZI (p0.length : Int))), (7, ZI 0), (8, (ZI (p0.length : Int)))]) ⟨rfl, rfl, rfl, rfl, rfl, trivial⟩, hB⟩) ?_; rintro K9 a w4 ⟨y1, y2, o3, l6, ha, hB⟩; obtain ⟨K13, q10, e14, b11, n12⟩ := X_ l6; dsimp only [Z_] at b11; refine L_ ha ?_; refine b_ (Zq (Zm rfl (Zm rfl (Zv (r_ rfl rfl) (Ze [(0, u0), (1, ZI p1), (6, (ZI (p0.length : Int))), (7, ZI y1), (8, ZI y2), (15, (.bool (decide (y1 < y2))))] (nx ?_)))))); refine l_ rfl (fun t15 => ?_) (fun t15 => ?_)
  ·rw [if_pos t15] at b11; refine f_ (nx (d_ (Zq (Zm rfl (Zm rfl ?_))))); obtain ⟨x16, hx16, b11⟩ := bind_some b11; refine Zv (B_ rfl rfl hx16) ?_; obtain ⟨x17, hx17, b11⟩ := bind_some b11; refine Zv (mL_ hx17 rfl Tryz.underlying3 Tryz.underlying146) ?_; obtain ⟨x18, hx18, b11⟩ := bind_some b11; refine Zv (oP_ rfl rfl hx18) ?_; obtain ⟨x19, hx19, b11⟩ := bind_some b11; refine Zv (nn_ hx19 rfl Tryz.underlying146 Tryz.underlying3) (Za rfl (Ze [(0, u0), (1, ZI p1), (6, (ZI (p0.length : Int))), (7, ZI y1), (8, ZI y2), (9, ZI x19)] (Zn (Zm rfl (Zm rfl ?_))))); obtain ⟨x20, hx20, b11⟩ := bind_some b11; refine Zo ?_; refine wf_atZ g0 hx20 hB rfl rfl Tryz.underlying41 Tryz.sizeOf3 ?_; intro b21 f22 c23 h24 h25; cases h25
   refine Zv (e_ rfl Tryz.isAgg3 (i_ h24)) (Zm rfl ?_); obtain ⟨x26, hx26, b11⟩ := bind_some b11; refine Zo ?_; refine n_ (go_ w4 x20 p1 x26 hx26) Tryz.call135 ⟨rfl, rfl, trivial⟩ ?_; rintro e31 w27 ⟨rfl, k28⟩; have s30 := k28.stp 999 o3; refine ⟨_, rfl, ?_⟩; replace hB := hB.stp s30; refine Ze [(0, u0), (1, ZI p1), (6, (ZI (p0.length : Int))), (7, ZI y1), (8, ZI y2), (9, ZI x19), (27, (.bool x26))] (nx ?_); refine l_ rfl (fun t32 => ?_) (fun t32 => ?_)
   ·rw [if_pos t32] at b11; refine c_ (Zm rfl ?_); obtain ⟨x33, hx33, b11⟩ := bind_some b11; refine Zv (B_ rfl rfl hx33) (Za rfl (Ze [(0, u0), (1, ZI p1), (6, (ZI (p0.length : Int))), (7, ZI x33), (8, ZI y2)] (x_ (v_ ?_)))); have e34 := Option.some.inj b11; subst e34; refine Zk [(0, u0), (1, ZI p1), (6, (ZI (p0.length : Int))), (7, ZI x33), (8, ZI y2)] ?_; intro a ha; exact ⟨K13, by omega, x33, y2, o3, n12, ha, hB⟩
   ·rw [if_neg (by rw [t32]; decide)] at b11; refine c_ (Zm rfl (Za rfl (Ze [(0, u0), (1, ZI p1), (6, (ZI (p0.length : Int))), (7, ZI y1), (8, ZI x19)] (x_ (v_ ?_))))); have e35 := Option.some.inj b11; subst e35; refine Zk [(0, u0), (1, ZI p1), (6, (ZI (p0.length : Int))), (7, ZI y1), (8, ZI x19)] ?_; intro a ha; exact ⟨K13, by omega, y1, x19, o3, n12, ha, hB⟩
  ·rw [if_neg (by rw [t15]; decide)] at b11; refine u_ ?_; refine m_ (m_ (R_ ?_)); refine p_ ?_; have e36 := Option.some.inj b11; subst e36; refine Zk [(0, u0), (1, ZI p1), (6, (ZI (p0.length : Int))), (7, ZI y1)] ?_; intro a ha; exact ⟨y1, y2, o3, n12, ha, hB⟩
 ·rintro a w4 ⟨y1, y2, o3, rfl, ha, hB⟩; dsimp only at hF; refine L_ ha ?_; refine Zq (Zm rfl (Zm rfl (Zm rfl (Zv (r_ rfl rfl) (Zm rfl ?_))))); obtain ⟨q37, hq37, hF⟩ := bind_some hF; refine az_ 18 (fun a39 w38 => Fr a39 54 [(31, ZI y1), (53, (.bool q37))] ∧ Keeps w4 w38) ?_ ?_; all_goals simp only [List.take_succ_cons, List.take_zero, List.drop_succ_cons, List.drop_zero]
  ·have kp : Keeps w4 w4 := Keeps.refl _; rcases Bool.eq_false_or_eq_true (decide (y1 < (p0.length : Int))) with t40 | t40
   ·rw [if_pos t40] at hq37; refine o_ (k_ rfl) (by decide) ⟨_, rfl, (congrArg (fun b => some (Value.bool b)) t40)⟩ (o_ (k_ rfl) (by decide) ⟨_, rfl, (congrArg (fun b => some (Value.bool b)) t40)⟩ ?_); obtain ⟨x41, hx41, hq37⟩ := bind_some hq37; refine ch_ (by decide) ⟨_, rfl, (congrArg (fun b => some (Value.bool b)) t40)⟩ ?_; refine wf_atZ g0 hx41 hB rfl rfl Tryz.underlying41 Tryz.sizeOf3 ?_; intro b42 f43 c44 h45 h46; cases h46
    refine o_ (e_ rfl Tryz.isAgg3 (i_ h45)) (by decide) ⟨_, rfl, (congrArg (fun b => some (Value.bool b)) t40)⟩ (o_ (k_ rfl) (by decide) ⟨_, rfl, (congrArg (fun b => some (Value.bool b)) t40)⟩ (o_ (ds_ rfl rfl) (by decide) ⟨_, rfl, (congrArg (fun b => some (Value.bool b)) t40)⟩ (o_ (k_ rfl) (by decide) ⟨_, rfl, (congrArg (fun b => some (Value.bool b)) t40)⟩ ?_))); rcases Bool.eq_false_or_eq_true (x41 == p1) with t47 | t47
    ·rw [if_pos t47] at hq37; refine s_ rfl rfl (by rw [t47]; rfl) (by decide) ?_; refine s_ rfl rfl (by rw [t47]; rfl) (by decide) ?_; refine s_ rfl rfl (by rw [t47]; rfl) (by decide) ?_; refine s_ rfl rfl (by rw [t47]; rfl) (by decide) ?_; refine s_ rfl rfl (by rw [t47]; rfl) (by decide) ?_; refine s_ rfl rfl (by rw [t47]; rfl) (by decide) ?_; refine ai_ rfl rfl (by decide) ?_; refine ai_ rfl rfl (by decide) ?_; refine s_ rfl rfl (by rw [t47]; rfl) (by decide) ?_; refine o_ (O_ (congrArg (fun b => some (Value.bool b)) t47) rfl) (by decide) ⟨_, rfl, (congrArg (fun b => some (Value.bool b)) t40)⟩ (Zv (O_ (congrArg (fun b => some (Value.bool b)) t40) rfl) ?_); have hq372 := Option.some.inj hq37; refine Ze [(31, ZI y1), (53, (.bool true))] ?_; subst hq372; refine p_ (fun a ha => ⟨ha, kp⟩)
    ·rw [if_neg (by rw [t47]; decide)] at hq37; refine o_ (k_ rfl) (by decide) ⟨_, rfl, (congrArg (fun b => some (Value.bool b)) t47)⟩ (o_ (k_ rfl) (by decide) ⟨_, rfl, (congrArg (fun b => some (Value.bool b)) t47)⟩ ?_); obtain ⟨x48, hx48, hq37⟩ := bind_some hq37; refine ch_ (by decide) ⟨_, rfl, (congrArg (fun b => some (Value.bool b)) t47)⟩ ?_; refine wf_atZ g0 hx48 hB rfl rfl Tryz.underlying41 Tryz.sizeOf3 ?_; intro b49 f50 c51 h52 h53; cases h53
     refine o_ (e_ rfl Tryz.isAgg3 (i_ h52)) (by decide) ⟨_, rfl, (congrArg (fun b => some (Value.bool b)) t47)⟩ ?_; obtain ⟨x54, hx54, hq37⟩ := bind_some hq37; refine ch_ (by decide) ⟨_, rfl, (congrArg (fun b => some (Value.bool b)) t47)⟩ ?_; refine n_ (eG_ w4 x48 x54 hx54) Tryz.call176 ⟨rfl, trivial⟩ ?_; rintro e59 w55 ⟨rfl, k56⟩; have s58 := k56.stp 999 o3; refine ⟨_, rfl, ?_⟩; replace hB := hB.stp s58; replace kp := Keeps.trans kp k56; refine o_ (k_ rfl) (by decide) ⟨_, rfl, (congrArg (fun b => some (Value.bool b)) t47)⟩ ?_; rcases Bool.eq_false_or_eq_true (x54) with t60 | t60
     ·rw [if_pos t60] at hq37; refine o_ (k_ rfl) (by decide) ⟨_, rfl, (congrArg (fun b => some (Value.bool b)) t60)⟩ ?_; obtain ⟨x61, hx61, hq37⟩ := bind_some hq37; refine ch_ (by decide) ⟨_, rfl, (congrArg (fun b => some (Value.bool b)) t60)⟩ ?_; refine n_ (eG_ w55 p1 x61 hx61) Tryz.call176 ⟨rfl, trivial⟩ ?_; rintro e66 w62 ⟨rfl, k63⟩; have s65 := k63.stp 999 o3; refine ⟨_, rfl, ?_⟩; replace hB := hB.stp s65; replace kp := Keeps.trans kp k63; refine o_ (O_ (congrArg (fun b => some (Value.bool b)) t60) rfl) (by decide) ⟨_, rfl, (congrArg (fun b => some (Value.bool b)) t47)⟩ (o_ (J_ (congrArg (fun b => some (Value.bool b)) t47) rfl) (by decide) ⟨_, rfl, (congrArg (fun b => some (Value.bool b)) t40)⟩ (Zv (O_ (congrArg (fun b => some (Value.bool b)) t40) rfl) ?_)); have hq372 := Option.some.inj hq37; refine Ze [(31, ZI y1), (53, (.bool x61))] ?_; subst hq372; refine p_ (fun a ha => ⟨ha, kp⟩)
     ·rw [if_neg (by rw [t60]; decide)] at hq37; refine s_ rfl rfl (by rw [t60]; rfl) (by decide) ?_; refine s_ rfl rfl (by rw [t60]; rfl) (by decide) ?_; refine o_ (J_ (congrArg (fun b => some (Value.bool b)) t60) rfl) (by decide) ⟨_, rfl, (congrArg (fun b => some (Value.bool b)) t47)⟩ (o_ (J_ (congrArg (fun b => some (Value.bool b)) t47) rfl) (by decide) ⟨_, rfl, (congrArg (fun b => some (Value.bool b)) t40)⟩ (Zv (O_ (congrArg (fun b => some (Value.bool b)) t40) rfl) ?_)); have hq372 := Option.some.inj hq37; refine Ze [(31, ZI y1), (53, (.bool false))] ?_; subst hq372; refine p_ (fun a ha => ⟨ha, kp⟩)
   ·rw [if_neg (by rw [t40]; decide)] at hq37; refine s_ rfl rfl (by rw [t40]; rfl) (by decide) ?_; refine s_ rfl rfl (by rw [t40]; rfl) (by decide) ?_; refine s_ rfl rfl (by rw [t40]; rfl) (by decide) ?_; refine s_ rfl rfl (by rw [t40]; rfl) (by decide) ?_; refine s_ rfl rfl (by rw [t40]; rfl) (by decide) ?_; refine s_ rfl rfl (by rw [t40]; rfl) (by decide) ?_; refine s_ rfl rfl (by rw [t40]; rfl) (by decide) ?_; refine ai_ rfl rfl (by decide) ?_; refine ai_ rfl rfl (by decide) ?_; refine ai_ rfl rfl (by decide) ?_; refine ai_ rfl rfl (by decide) ?_; refine ai_ rfl rfl (by decide) ?_; refine ai_ rfl rfl (by decide) ?_; refine ai_ rfl rfl (by decide) ?_; refine ai_ rfl rfl (by decide) ?_; refine ai_ rfl rfl (by decide) ?_; refine s_ rfl rfl (by rw [t40]; rfl) (by decide) ?_; refine Zv (J_ (congrArg (fun b => some (Value.bool b)) t40) rfl) ?_; have hq372 := Option.some.inj hq37; refine Ze [(31, ZI y1), (53, (.bool false))] ?_; subst hq372; refine p_ (fun a ha => ⟨ha, kp⟩)
  rintro a69 w38 ⟨ha, k67⟩; have s68 := k67.stp 999 o3; replace hB := hB.stp s68; refine bf_ ha ?_; refine Za rfl (Za rfl (Ze [(4, ZI y1), (5, (.bool q37))] (nx (j_ ?_)))); have e70 := Option.some.inj hF; subst e70; refine Zr Tryz.results143 [(ZI y1), (.bool q37)] ?_; exact ⟨rfl, hB.keeps⟩
 ·exact fun _ _ h => h.elim
def M_ (p0 : List (List Int)) (p1 : List Int) (p2 : ((List Int) × (List Int)) → Option Int) : (Int × Int) → Option (Lp (Int × Int) (Int × Int) (Int × Bool)) := fun (s : Int × Int) =>
  if decide (s.1 < s.2) then
    (ck (s.1 + s.2)) >>= fun x16 =>
    (cvU x16) >>= fun x17 =>
    (shr x17 1) >>= fun x18 =>
    (cvU x18) >>= fun x19 =>
    (ix p0 x19) >>= fun x20 =>
    (p2 (x20, p1)) >>= fun x28 =>
    if decide (x28 < 0) then
      (ck (x19 + 1)) >>= fun x33 =>
      some (.go (x33, s.2))
    else
      some (.go (s.1, x19))
  else
    some (.out (s.1, s.2))
def ae_ (fuel : Nat) (p0 : List (List Int)) (p1 : List Int) (p2 : ((List Int) × (List Int)) → Option Int) : Option (Int × Bool) :=
  (loopF (M_ p0 p1 p2) fuel (0, (p0.length : Int))) >>= fun q5 =>
  match q5 with
  | .inl (y1, y2) =>
    (
      if decide (y1 < (p0.length : Int)) then
        (ix p0 y1) >>= fun x41 =>
        (p2 (x41, p1)) >>= fun x49 =>
        some (x49 == 0)
      else
        some false) >>= fun q37 =>
    some (y1, q37)
  | .inr _ => none

def cr_ (w : World) (r : Int × Bool) : Ending → World → Prop := fun e w' => e = .returned (.tuple #[.int .i64 r.1, .bool r.2]) ∧ Keeps w w'
theorem cq_ (fuel : Nat) (w : World) (u0 : Value) (p0 : List (List Int)) (g0 : RdL zt w u0 p0) (u1 : Value) (p1 : List Int) (g1 : RdL zt w u1 p1) (u2 : Value) (p2 : ((List Int) × (List Int)) → Option Int) (g2 : FnV Tryz.prog w u2 p2) (r : Int × Bool) (hF : ae_ fuel p0 p1 p2 = some r) :
    Calls Tryz.prog 184 #[u0, u1, u2] w (cr_ w r) := by
 unfold ae_ at hF; have hB : Bs (fun _ => 1) (col (fun _ => 1)) w w := Bs.start _ _; refine h_ (n := 49) (vs := [u0, u1, u2]) Tryz.func184 rfl rfl ?_; refine Zq (Za rfl (Za rfl (Ze [(0, u0), (1, u1), (2, u2)] (Zn (Zm rfl (Zv (F_ rfl g0 Tryz.underlying22) (Za rfl (Ze [(0, u0), (1, u1), (2, u2), (8, (ZI (p0.length : Int)))] (Zn (Zm rfl (Za rfl (Za rfl ?_)))))))))))); refine Ze [(0, u0), (1, u1), (2, u2), (8, (ZI (p0.length : Int))), (9, ZI 0), (10, (ZI (p0.length : Int)))] (nx ?_); obtain ⟨q5, hq5, hF⟩ := bind_some hF; refine he_ (fun a w4 => ∃ (y1 : Int) (y2 : Int) (o3 : Tg), q5 = .inl (y1, y2) ∧ Fr a 49 [(0, u0), (1, u1), (2, u2), (8, (ZI (p0.length : Int))), (9, ZI y1)] ∧ Bs (fun _ => 1) o3 w w4) (fun _ _ => False) ?_ ?_ ?_
 ·refine d_ ?_; refine y_ (fun (K : Nat) a w4 => ∃ (y1 : Int) (y2 : Int) (o3 : Tg), loopF (M_ p0 p1 p2) K (y1, y2) = some q5 ∧ Fr a 49 [(0, u0), (1, u1), (2, u2), (8, (ZI (p0.length : Int))), (9, ZI y1), (10, ZI y2)] ∧ Bs (fun _ => 1) o3 w w4) fuel (fun a ha => ⟨0, (p0.length : Int), (col (fun _ => 1)), hq5, ha.sub (r := [(0, u0), (1, u1), (2, u2), (8, (ZI (p0.length : Int))), (9, ZI 0), (10, (ZI (p0.length : Int)))]) ⟨rfl, rfl, rfl, rfl, rfl, rfl, trivial⟩, hB⟩) ?_; rintro K9 a w4 ⟨y1, y2, o3, l6, ha, hB⟩; obtain ⟨K13, q10, e14, b11, n12⟩ := X_ l6; dsimp only [M_] at b11; refine L_ ha ?_; refine b_ (Zq (Zm rfl (Zm rfl (Zv (r_ rfl rfl) (Ze [(0, u0), (1, u1), (2, u2), (8, (ZI (p0.length : Int))), (9, ZI y1), (10, ZI y2), (17, (.bool (decide (y1 < y2))))] (nx ?_)))))); refine l_ rfl (fun t15 => ?_) (fun t15 => ?_)
  ·rw [if_pos t15] at b11; refine f_ (nx (d_ (Zq (Zm rfl (Zm rfl ?_))))); obtain ⟨x16, hx16, b11⟩ := bind_some b11; refine Zv (B_ rfl rfl hx16) ?_; obtain ⟨x17, hx17, b11⟩ := bind_some b11; refine Zv (mL_ hx17 rfl Tryz.underlying3 Tryz.underlying146) ?_; obtain ⟨x18, hx18, b11⟩ := bind_some b11; refine Zv (oP_ rfl rfl hx18) ?_; obtain ⟨x19, hx19, b11⟩ := bind_some b11; refine Zv (nn_ hx19 rfl Tryz.underlying146 Tryz.underlying3) (Za rfl (Ze [(0, u0), (1, u1), (2, u2), (8, (ZI (p0.length : Int))), (9, ZI y1), (10, ZI y2), (11, ZI x19)] (Zn (Zm rfl (Zm rfl (Zm rfl ?_)))))); obtain ⟨x20, hx20, b11⟩ := bind_some b11; refine Zo ?_; refine wf_atZ g0 hx20 hB rfl rfl Tryz.underlying22 Tryz.sizeOf41 ?_; intro b21 f22 c23 h24 h25; obtain ⟨v26, rfl, h27⟩ := h25; refine Zv (e_ rfl Tryz.isAgg41 (i_ h24)) (Zm rfl ?_); obtain ⟨x28, hx28, b11⟩ := bind_some b11; refine Zo ?_; refine fA_ (x := (x20, p1)) (vs := [v26, u1]) (g2.keep hB.keeps) hx28 ⟨[v26], [u1], rfl, ⟨_, rfl, (h27.keep hB.keeps)⟩, ⟨_, rfl, (g1.keep hB.keeps)⟩⟩ rfl ⟨rfl, rfl, trivial⟩ ?_; intro w29 k30; have s31 := k30.stp 999 o3; replace hB := hB.stp s31; refine Zv (r_ rfl rfl) (Ze [(0, u0), (1, u1), (2, u2), (8, (ZI (p0.length : Int))), (9, ZI y1), (10, ZI y2), (11, ZI x19), (31, (.bool (decide (x28 < 0))))] (nx ?_)); refine l_ rfl (fun t32 => ?_) (fun t32 => ?_)
   ·rw [if_pos t32] at b11; refine c_ (Zm rfl ?_); obtain ⟨x33, hx33, b11⟩ := bind_some b11; refine Zv (B_ rfl rfl hx33) (Za rfl (Ze [(0, u0), (1, u1), (2, u2), (8, (ZI (p0.length : Int))), (9, ZI x33), (10, ZI y2)] (x_ (v_ ?_)))); have e34 := Option.some.inj b11; subst e34; refine Zk [(0, u0), (1, u1), (2, u2), (8, (ZI (p0.length : Int))), (9, ZI x33), (10, ZI y2)] ?_; intro a ha; exact ⟨K13, by omega, x33, y2, o3, n12, ha, hB⟩
   ·rw [if_neg (by rw [t32]; decide)] at b11; refine c_ (Zm rfl (Za rfl (Ze [(0, u0), (1, u1), (2, u2), (8, (ZI (p0.length : Int))), (9, ZI y1), (10, ZI x19)] (x_ (v_ ?_))))); have e35 := Option.some.inj b11; subst e35; refine Zk [(0, u0), (1, u1), (2, u2), (8, (ZI (p0.length : Int))), (9, ZI y1), (10, ZI x19)] ?_; intro a ha; exact ⟨K13, by omega, y1, x19, o3, n12, ha, hB⟩
  ·rw [if_neg (by rw [t15]; decide)] at b11; refine u_ ?_; refine m_ (m_ (R_ ?_)); refine p_ ?_; have e36 := Option.some.inj b11; subst e36; refine Zk [(0, u0), (1, u1), (2, u2), (8, (ZI (p0.length : Int))), (9, ZI y1)] ?_; intro a ha; exact ⟨y1, y2, o3, n12, ha, hB⟩
 ·rintro a w4 ⟨y1, y2, o3, rfl, ha, hB⟩; dsimp only at hF; refine L_ ha ?_; refine Zq (Zm rfl (Zm rfl (Zm rfl (Zv (r_ rfl rfl) (Zm rfl ?_))))); obtain ⟨q37, hq37, hF⟩ := bind_some hF; refine az_ 9 (fun a39 w38 => Fr a39 49 [(35, ZI y1), (48, (.bool q37))] ∧ Keeps w4 w38) ?_ ?_; all_goals simp only [List.take_succ_cons, List.take_zero, List.drop_succ_cons, List.drop_zero]
  ·have kp : Keeps w4 w4 := Keeps.refl _; rcases Bool.eq_false_or_eq_true (decide (y1 < (p0.length : Int))) with t40 | t40
   ·rw [if_pos t40] at hq37; refine o_ (k_ rfl) (by decide) ⟨_, rfl, (congrArg (fun b => some (Value.bool b)) t40)⟩ (o_ (k_ rfl) (by decide) ⟨_, rfl, (congrArg (fun b => some (Value.bool b)) t40)⟩ (o_ (k_ rfl) (by decide) ⟨_, rfl, (congrArg (fun b => some (Value.bool b)) t40)⟩ ?_)); obtain ⟨x41, hx41, hq37⟩ := bind_some hq37; refine ch_ (by decide) ⟨_, rfl, (congrArg (fun b => some (Value.bool b)) t40)⟩ ?_; refine wf_atZ g0 hx41 hB rfl rfl Tryz.underlying22 Tryz.sizeOf41 ?_; intro b42 f43 c44 h45 h46; obtain ⟨v47, rfl, h48⟩ := h46; refine o_ (e_ rfl Tryz.isAgg41 (i_ h45)) (by decide) ⟨_, rfl, (congrArg (fun b => some (Value.bool b)) t40)⟩ (o_ (k_ rfl) (by decide) ⟨_, rfl, (congrArg (fun b => some (Value.bool b)) t40)⟩ ?_); obtain ⟨x49, hx49, hq37⟩ := bind_some hq37; refine ch_ (by decide) ⟨_, rfl, (congrArg (fun b => some (Value.bool b)) t40)⟩ ?_; refine fA_ (x := (x41, p1)) (vs := [v47, u1]) (g2.keep hB.keeps) hx49 ⟨[v47], [u1], rfl, ⟨_, rfl, (h48.keep hB.keeps)⟩, ⟨_, rfl, (g1.keep hB.keeps)⟩⟩ rfl ⟨rfl, rfl, trivial⟩ ?_; intro w50 k51; have s52 := k51.stp 999 o3; replace hB := hB.stp s52; replace kp := Keeps.trans kp k51; refine o_ (ds_ rfl rfl) (by decide) ⟨_, rfl, (congrArg (fun b => some (Value.bool b)) t40)⟩ (Zv (O_ (congrArg (fun b => some (Value.bool b)) t40) rfl) ?_); have hq372 := Option.some.inj hq37; refine Ze [(35, ZI y1), (48, (.bool (x49 == 0)))] ?_; subst hq372; refine p_ (fun a ha => ⟨ha, kp⟩)
   ·rw [if_neg (by rw [t40]; decide)] at hq37; refine s_ rfl rfl (by rw [t40]; rfl) (by decide) ?_; refine s_ rfl rfl (by rw [t40]; rfl) (by decide) ?_; refine s_ rfl rfl (by rw [t40]; rfl) (by decide) ?_; refine s_ rfl rfl (by rw [t40]; rfl) (by decide) ?_; refine s_ rfl rfl (by rw [t40]; rfl) (by decide) ?_; refine s_ rfl rfl (by rw [t40]; rfl) (by decide) ?_; refine s_ rfl rfl (by rw [t40]; rfl) (by decide) ?_; refine s_ rfl rfl (by rw [t40]; rfl) (by decide) ?_; refine Zv (J_ (congrArg (fun b => some (Value.bool b)) t40) rfl) ?_; have hq372 := Option.some.inj hq37; refine Ze [(35, ZI y1), (48, (.bool false))] ?_; subst hq372; refine p_ (fun a ha => ⟨ha, kp⟩)
  rintro a55 w38 ⟨ha, k53⟩; have s54 := k53.stp 999 o3; replace hB := hB.stp s54; refine bf_ ha ?_; refine Za rfl (Za rfl (Ze [(6, ZI y1), (7, (.bool q37))] (nx (j_ ?_)))); have e56 := Option.some.inj hF; subst e56; refine Zr Tryz.results184 [(ZI y1), (.bool q37)] ?_; exact ⟨rfl, hB.keeps⟩
 ·exact fun _ _ h => h.elim
def bc_ (fuel : Nat) (p0 : List (List Int)) (p1 : List Int) : Option Bool :=
  (srtO p1) >>= fun x15 =>
  (ae_ fuel p0 x15 (fun (z18 : (List Int) × (List Int)) => I_ z18.1 z18.2)) >>= fun x27 =>
  some x27.2

def gQ_ (w : World) (r : Bool) : Ending → World → Prop := fun e w' => e = .returned (.bool r) ∧ Keeps w w'
theorem eF_ (fuel : Nat) (w : World) (u0 : Value) (p0 : List (List Int)) (g0 : RdL zt w u0 p0) (u1 : Value) (p1 : List Int) (g1 : RdL zt w u1 p1) (r : Bool) (hF : bc_ fuel p0 p1 = some r) :
    Calls Tryz.prog 162 #[u0, u1] w (gQ_ w r) := by
 unfold bc_ at hF; have hB : Bs (fun _ => 1) (col (fun _ => 1)) w w := Bs.start _ _; refine h_ (n := 16) (vs := [u0, u1]) Tryz.func162 rfl rfl ?_; refine Zq (Za rfl (Ze [(0, u0), (1, u1)] (Zn (Zm rfl (Zm rfl (Zo ?_)))))); refine n_ (pL_ w (col (fun _ => 1)) u1 p1 (g1.keep hB.keeps)) Tryz.call186 ⟨rfl, trivial⟩ ?_; rintro e2 w1 ⟨v7, o6, rfl, h8, k3, k4⟩; have s5 := k3.stp' 999 k4; refine ⟨_, rfl, ?_⟩; replace hB := hB.stp s5; obtain ⟨x15, hx15, hF⟩ := bind_some hF; refine Zo ?_; refine n_ (oA_ w1 o6 11 v7 u1 _ h8 p1 (g1.keep hB.keeps) x15 hx15) Tryz.call185 ⟨rfl, trivial⟩ ?_; rintro e10 w9 ⟨v16, o14, rfl, h17, k11, k12⟩; have s13 := k11.stp' 11 k12; replace h17 := h17.mono hB.keeps.size; refine ⟨_, rfl, ?_⟩; replace h8 := h8.stp s13; replace hB := hB.stp s13; obtain ⟨x27, hx27, hF⟩ := bind_some hF; refine Zo ?_; refine n_ (cq_ fuel w9 _ p0 (g0.keep hB.keeps) _ x15 h17.z _ (fun (z18 : (List Int) × (List Int)) => I_ z18.1 z18.2) (show FnV Tryz.prog w9 (.func (.func 95) #[] #[]) (fun (z18 : (List Int) × (List Int)) => I_ z18.1 z18.2) from ⟨_, _, rfl, Tryz.call95, fun ww vs xx rr kk hok hG => by (obtain ⟨a19, b20, rfl, h21, h22⟩ := hok; obtain ⟨v23, rfl, h24⟩ := h21; obtain ⟨v25, rfl, h26⟩ := h22; exact cX_slices_Compare_int_int ww _ xx.1 h24 _ xx.2 h26 rr hG)⟩) x27 hx27) Tryz.call184 ⟨rfl, rfl, rfl, trivial⟩ ?_; rintro e32 w28 ⟨rfl, k29⟩; have s31 := k29.stp 999 o14; refine ⟨_, rfl, ?_⟩; replace h8 := h8.stp s31; replace h17 := h17.stp s31; replace hB := hB.stp s31; refine Zm rfl (Zv (t_ rfl rfl) (Zv (t_ rfl rfl) (Za rfl (Za rfl (Ze [(6, (.bool x27.2))] (Zn (Zm rfl (Za rfl (Ze [(4, (.bool x27.2))] (nx (j_ ?_))))))))))); have e33 := Option.some.inj hF; subst e33; refine Zr Tryz.results162 [(.bool x27.2)] ?_; exact ⟨rfl, hB.keeps⟩
end

section
theorem kY_ {σ τ ρ : Type} {f : σ → Option (Lp σ τ ρ)} {s s' : σ} (h : f s = some (.go s')) (fuel : Nat) : loopF f (fuel + 1) s = loopF f fuel s' := by simp only [loopF, h]
theorem hv_ {σ τ ρ : Type} {f : σ → Option (Lp σ τ ρ)} {s : σ} {t : τ} (h : f s = some (.out t)) (fuel : Nat) : loopF f (fuel + 1) s = some (.inl t) := by simp only [loopF, h]
theorem cs_ {σ ρ : Type} {f : σ → Option (Lp σ σ ρ)} (R : Nat → σ) (n : Nat) (hgo : ∀ j, j < n → f (R j) = some (.go (R (j + 1)))) (hout : f (R n) = some (.out (R n))) : ∀ (fuel j : Nat), j ≤ n → n < fuel + j → loopF f fuel (R j) = some (.inl (R n)) := by
  intro fuel
  induction fuel with
  | zero => intro j h1 h2; omega
  | succ fuel ih =>
    intro j h1 h2
    by_cases e : j = n
    · subst e; exact hv_ hout fuel
    · rw [kY_ (hgo j (by omega)) fuel]; exact ih (j + 1) (by omega) (by omega)
theorem oy_ {ρ : Type} {f : Int × Int → Option (Lp (Int × Int) (Int × Int) ρ)} (P : Nat → Bool) (n c : Nat) (hc : c ≤ n)
    (hf : ∀ lo hi : Nat, lo < hi → hi ≤ n → f ((lo : Int), (hi : Int)) = some (.go (if P ((lo + hi) / 2) then ((((lo + hi) / 2 + 1 : Nat) : Int), (hi : Int)) else ((lo : Int), (((lo + hi) / 2 : Nat) : Int)))))
    (ho : ∀ lo : Nat, lo ≤ n → f ((lo : Int), (lo : Int)) = some (.out ((lo : Int), (lo : Int)))) (h1 : ∀ j, j < c → P j = true) (h2 : ∀ j, c ≤ j → j < n → P j = false) :
    ∀ (fuel lo hi : Nat), lo ≤ c → c ≤ hi → hi ≤ n → hi < fuel + lo → loopF f fuel ((lo : Int), (hi : Int)) = some (.inl ((c : Int), (c : Int))) := by
  intro fuel
  induction fuel with
  | zero => intro lo hi a b d e; omega
  | succ fuel ih =>
    intro lo hi a b d e
    by_cases hlt : lo < hi
    · rw [kY_ (hf lo hi hlt d) fuel]
      by_cases hm : (lo + hi) / 2 < c
      · rw [if_pos (h1 _ hm)]
        exact ih _ _ (by omega) b d (by omega)
      · rw [if_neg (by rw [h2 _ (by omega) (by omega)]; simp)]
        exact ih _ _ a (by omega) (by omega) (by omega)
    · have : lo = c := by omega
      have : hi = c := by omega
      subst_vars
      exact hv_ (ho _ hc) fuel
theorem qJ_ {lo hi : Nat} (h : lo + hi ≤ 4000000000) : (ck ((lo : Int) + hi) >>= fun x => cvU x >>= fun y => shr y 1 >>= fun z => cvU z) = some ((((lo + hi) / 2 : Nat)) : Int) := by
  rw [C_ (by omega) (by omega), sb]
  unfold cvU shr
  rw [if_pos (by omega), sb, if_neg (by omega), sb]
  have : ((lo : Int) + (hi : Int)).fdiv (2 ^ min (Int.toNat 1) 64) = (((lo + hi) / 2 : Nat) : Int) := by
    rw [show min (Int.toNat 1) 64 = 1 from rfl, Int.fdiv_eq_ediv_of_nonneg _ (by decide)]
    omega
  rw [this, if_pos (by omega)]
theorem fZ_ {α : Type} (p : α → Bool) : ∀ (l : List α), l.Pairwise (fun a b => p b = true → p a = true) → (∀ (j : Nat) x, l[j]? = some x → j < l.countP p → p x = true) ∧ ∀ (j : Nat) x, l[j]? = some x → l.countP p ≤ j → p x = false
  | [], _ => ⟨fun j x h => by simp at h, fun j x h => by simp at h⟩
  | a :: l, h => by
    rw [List.pairwise_cons] at h
    obtain ⟨h1, h2⟩ := fZ_ p l h.2
    cases hp : p a with
    | true =>
      rw [List.countP_cons_of_pos hp]
      refine ⟨fun j x hj hlt => ?_, fun j x hj hle => ?_⟩
      · cases j with
        | zero => simp at hj; subst hj; exact hp
        | succ j => exact h1 j x (by simpa using hj) (by omega)
      · cases j with
        | zero => omega
        | succ j => exact h2 j x (by simpa using hj) (by omega)
    | false =>
      have hall : ∀ x, x ∈ l → p x = false := fun x hx => by
        cases hx2 : p x with
        | false => rfl
        | true => rw [h.1 x hx hx2] at hp; cases hp
      have hz : l.countP p = 0 := List.countP_eq_zero.2 fun x hx => by rw [hall x hx]; simp
      rw [List.countP_cons_of_neg (by rw [hp]; simp), hz]
      refine ⟨fun j x hj hlt => by omega, fun j x hj hle => ?_⟩
      cases j with
      | zero => simp at hj; subst hj; exact hp
      | succ j => exact hall x (List.mem_of_getElem? (by simpa using hj))
theorem rf_ (a : Int) : be_ a = some false := by unfold be_; simp
theorem iY_ (fuel : Nat) (xs : List Int) (t : Int) (hs : xs.Pairwise (· ≤ ·)) (hl : xs.length ≤ 1000000000) (hf : xs.length < fuel) :
    au_ fuel xs t = some (((xs.countP fun x => decide (x < t) : Nat) : Int), decide (t ∈ xs)) := by
  obtain ⟨c1, c2⟩ := fZ_ (fun x => decide (x < t)) xs (hs.imp fun h hb => by simp only [decide_eq_true_eq] at hb ⊢; omega)
  have hc : xs.countP (fun x => decide (x < t)) ≤ xs.length := List.countP_le_length
  unfold au_
  have := oy_ (f := Z_ xs t) (fun j => decide (xs.getD j 0 < t)) xs.length (xs.countP fun x => decide (x < t)) hc (fun lo hi h1 h2 => by
      have hm : (lo + hi) / 2 < xs.length := by omega
      unfold Z_
      simp only
      rw [if_pos (by simpa using h1)]
      have e := qJ_ (lo := lo) (hi := hi) (by omega)
      rw [C_ (by omega) (by omega), sb] at e ⊢
      unfold cvU at e ⊢
      rw [if_pos (by omega), sb] at e ⊢
      cases hsh : shr ((lo : Int) + hi) 1 with
      | none => rw [hsh] at e; cases e
      | some z =>
        rw [hsh, sb] at e
        rw [sb]
        rw [e, sb, fH_ _ _ hm, sb, qH_, sb]
        rw [show xs.getD ((lo + hi) / 2) 0 = xs[(lo + hi) / 2] by simp [List.getElem?_eq_getElem hm]]
        by_cases hlt : xs[(lo + hi) / 2] < t
        · simp only [decide_eq_true hlt, if_true]
          rw [C_ (by omega) (by omega), sb]; rfl
        · simp only [decide_eq_false hlt]; rfl)
    (fun lo h => by
      unfold Z_
      simp only
      rw [if_neg (by simp)]) (fun j hj => by
      have hjl : j < xs.length := by omega
      have := c1 j _ (List.getElem?_eq_getElem hjl) hj
      simpa [List.getElem?_eq_getElem hjl] using this) (fun j hj hjl => by
      have := c2 j _ (List.getElem?_eq_getElem hjl) hj
      simpa [List.getElem?_eq_getElem hjl] using this) fuel 0 xs.length (Nat.zero_le _) hc (Nat.le_refl _) (by omega)
  rw [show ((0 : Nat) : Int) = 0 from rfl] at this
  rw [this, sb]
  simp only
  generalize hcc : xs.countP (fun x => decide (x < t)) = c at c1 c2 hc
  by_cases hlt : c < xs.length
  · rw [if_pos (by simpa using hlt), fH_ _ _ hlt, sb]
    have hle : t ≤ xs[c] := by
      have := c2 c _ (List.getElem?_eq_getElem hlt) (Nat.le_refl _)
      simpa using this
    by_cases e : xs[c] = t
    · rw [if_pos (by simpa using e), sb]
      have : t ∈ xs := by rw [← e]; exact List.getElem_mem hlt
      simp [this]
    · rw [if_neg (by simpa using e), sb, rf_, sb]
      have : t ∉ xs := by
        intro hm
        obtain ⟨j, hj, hj2⟩ := List.mem_iff_getElem.1 hm
        have h3 := c1 j _ (List.getElem?_eq_getElem hj)
        by_cases hjc : j < c
        · have := h3 hjc; rw [hj2] at this; simp at this
        · rw [List.pairwise_iff_getElem] at hs
          by_cases hjc2 : j = c
          · subst hjc2; exact e hj2
          · have := hs c j hlt hj (by omega)
            omega
      simp [this, sb]
  · rw [if_neg (by simpa using hlt), sb]
    have : t ∉ xs := by
      intro hm
      obtain ⟨j, hj, hj2⟩ := List.mem_iff_getElem.1 hm
      have := c1 j _ (List.getElem?_eq_getElem hj) (by omega)
      rw [hj2] at this; simp at this
    simp [this]
theorem jH_ (xs : List Int) : (srt xs).Pairwise (· ≤ ·) := by
  have := List.pairwise_mergeSort (le := fun x y : Int => decide (x ≤ y)) (fun a b c h1 h2 => by simp only [decide_eq_true_eq] at *; omega) (fun a b => by simp only [Bool.or_eq_true, decide_eq_true_eq]; omega) xs
  exact this.imp fun h => by simpa using h
theorem nz_ (xs : List Int) : (srt xs).Perm xs := List.mergeSort_perm xs _
theorem fJ_ (xs : List Int) : srt xs = ssort xs :=
  List.Perm.eq_of_pairwise (le := fun a b => a ≤ b) (fun a b _ _ h1 h2 => Int.le_antisymm h1 h2) (jH_ xs) (ld_ xs) ((nz_ xs).trans (nX_ xs).symm)
end

section
theorem ev_ {α β ρ : Type} {body : Int → α → List β → Option (Lp (List β) (List β) ρ)} (g : α → List β) (N : Nat) : ∀ (xs : List α) (k : Int) (acc : List β),
    acc.length + (xs.flatMap g).length ≤ N → (∀ x ∈ xs, ∀ (j : Int) (ac : List β), ac.length + (g x).length ≤ N → body j x ac = some (.go (ac ++ g x))) →
    forI body xs k acc = some (.inl (acc ++ xs.flatMap g))
  | [], k, acc, _, _ => by simp [forI]
  | x :: xs, k, acc, h, hb => by
    rw [List.flatMap_cons, List.length_append] at h
    have h0 := hb x (by simp) k acc (by omega)
    simp only [forI, h0]
    rw [ev_ g N xs (k + 1) (acc ++ g x) (by rw [List.length_append]; omega) (fun y hy => hb y (by simp [hy])), List.flatMap_cons, List.append_assoc]
theorem cB_ {α ρ : Type} {body : Int → α → Unit → Option (Lp Unit Unit ρ)} (Q : α → Prop) (R : ρ → Prop) : ∀ (xs : List α) (k : Int),
    (∀ x ∈ xs, ∀ j : Int, ∃ z, body j x () = some z ∧ ((z = .go () ∧ ¬ Q x) ∨ ∃ r, z = .ret r ∧ R r ∧ Q x)) →
    ∃ z, forI body xs k () = some z ∧ ((z = .inl () ∧ ∀ x ∈ xs, ¬ Q x) ∨ ∃ r, z = .inr r ∧ R r ∧ ∃ x ∈ xs, Q x)
  | [], k, _ => ⟨_, rfl, .inl ⟨rfl, by simp⟩⟩
  | x :: xs, k, h => by
    obtain ⟨z, h1, h2⟩ := h x (by simp) k
    rcases h2 with ⟨rfl, hn⟩ | ⟨r, rfl, hr, hq⟩
    · obtain ⟨z, g1, g2⟩ := cB_ Q R xs (k + 1) (fun y hy => h y (by simp [hy]))
      refine ⟨z, by simp only [forI, h1]; exact g1, ?_⟩
      rcases g2 with ⟨rfl, g2⟩ | ⟨r, rfl, hr, y, hy, hq⟩
      · refine .inl ⟨rfl, fun y hy => ?_⟩
        rcases List.mem_cons.1 hy with rfl | hy
        · exact hn
        · exact g2 y hy
      · exact .inr ⟨r, rfl, hr, y, by simp [hy], hq⟩
    · exact ⟨.inr r, by simp only [forI, h1], .inr ⟨r, rfl, hr, x, by simp, hq⟩⟩
theorem gS_ {α : Type} (p : α → Bool) : ∀ xs : List α, (xs.flatMap fun x => if p x then [x] else []) = xs.filter p
  | [] => rfl
  | x :: xs => by
    rw [List.flatMap_cons, gS_ p xs, List.filter_cons]
    split <;> simp

def extD (n : Nat) (x : List Int) : List (List Int) := (List.range' (x.getLastD 0).toNat (n - (x.getLastD 0).toNat)).map fun a : Nat => x ++ [(a : Int)]
def msD (n : Nat) : Nat → List (List Int)
  | 0 => [[]]
  | d + 1 => (msD n d).flatMap (extD n)
theorem qE_ (n : Nat) (x : List Int) : (extD n x).length ≤ n := by
  unfold extD
  rw [List.length_map, List.length_range']
  omega
theorem gt_ {α β : Type} {g : α → List β} {m : Nat} : ∀ xs : List α, (∀ x ∈ xs, (g x).length ≤ m) → (xs.flatMap g).length ≤ xs.length * m
  | [], _ => by simp
  | x :: xs, h => by
    have h1 := h x (by simp)
    have h2 := gt_ xs (fun y hy => h y (by simp [hy]))
    rw [List.flatMap_cons, List.length_append, List.length_cons, Nat.succ_mul]
    omega
theorem fy_ (n : Nat) : ∀ d, (msD n d).length ≤ n ^ d
  | 0 => by simp [msD]
  | d + 1 => by
    have h1 := fy_ n d
    have h2 := gt_ (g := extD n) (m := n) (msD n d) fun x _ => qE_ n x
    have h3 : (msD n d).length * n ≤ n ^ d * n := Nat.mul_le_mul_right n h1
    rw [Nat.pow_succ]
    unfold msD
    omega
theorem pk_ {x : List Int} (hs : x.Pairwise (· ≤ ·)) : ∀ y ∈ x, y ≤ x.getLastD 0 := by
  intro y hy
  rcases List.eq_nil_or_concat x with rfl | ⟨u, a, rfl⟩
  · simp at hy
  · rw [List.concat_eq_append] at hs hy ⊢
    rw [List.getLastD_concat]
    rcases List.mem_append.1 hy with hy | hy
    · exact (List.pairwise_append.1 hs).2.2 y hy a (by simp)
    · rw [List.mem_singleton.1 hy]; exact Int.le_refl _
def ndP (n d : Nat) (x : List Int) : Prop := x.length = d ∧ x.Pairwise (· ≤ ·) ∧ ∀ y ∈ x, 0 ≤ y ∧ y < (n : Int)
theorem pD_ {n d : Nat} {x : List Int} (h : ndP n d x) : 0 ≤ x.getLastD 0 := by
  rcases List.eq_nil_or_concat x with rfl | ⟨u, a, rfl⟩
  · simp
  · have := h.2.2 a (by simp)
    rw [List.concat_eq_append, List.getLastD_concat]
    exact this.1
theorem hX_ {n : Nat} {x z : List Int} : z ∈ extD n x ↔ ∃ a : Nat, z = x ++ [(a : Int)] ∧ (x.getLastD 0).toNat ≤ a ∧ a < n := by
  unfold extD
  rw [List.mem_map]
  constructor
  · rintro ⟨a, h1, rfl⟩
    rw [List.mem_range'_1] at h1
    exact ⟨a, rfl, h1.1, by omega⟩
  · rintro ⟨a, rfl, h1, h2⟩
    exact ⟨a, by rw [List.mem_range'_1]; omega, rfl⟩
theorem dI_ (n : Nat) : ∀ (d : Nat) (z : List Int), z ∈ msD n d ↔ ndP n d z
  | 0, z => by
    unfold msD ndP
    rw [List.mem_singleton, List.length_eq_zero_iff]
    constructor
    · rintro rfl; simp
    · exact fun h => h.1
  | d + 1, z => by
    unfold msD
    rw [List.mem_flatMap]
    constructor
    · rintro ⟨x, hx, hz⟩
      have h := (dI_ n d x).1 hx
      obtain ⟨a, rfl, h1, h2⟩ := hX_.1 hz
      refine ⟨by rw [List.length_append, h.1]; rfl, ?_, fun y hy => ?_⟩
      · rw [List.pairwise_append]
        refine ⟨h.2.1, by simp, fun y hy b hb => ?_⟩
        rw [List.mem_singleton.1 hb]
        have := pk_ h.2.1 y hy
        omega
      · rcases List.mem_append.1 hy with hy | hy
        · exact h.2.2 y hy
        · rw [List.mem_singleton.1 hy]; omega
    · rintro ⟨h1, h2, h3⟩
      rcases List.eq_nil_or_concat z with rfl | ⟨u, a, rfl⟩
      · simp at h1
      · rw [List.concat_eq_append] at h1 h2 h3 ⊢
        rw [List.pairwise_append] at h2
        have ha := h3 a (by simp)
        have hu : ndP n d u := ⟨by rw [List.length_append] at h1; simp at h1; exact h1, h2.1, fun y hy => h3 y (by simp [hy])⟩
        refine ⟨u, (dI_ n d u).2 hu, hX_.2 ⟨a.toNat, by rw [Int.toNat_of_nonneg ha.1], ?_, by omega⟩⟩
        rcases List.eq_nil_or_concat u with rfl | ⟨t, b, rfl⟩
        · simp
        · rw [List.concat_eq_append, List.getLastD_concat]
          have := h2.2.2 b (by simp) a (by simp)
          omega
theorem kx_ : ∀ (x : List Int) (a b : Int), a < b → ordL (x ++ [a]) (x ++ [b]) < 0
  | [], a, b, h => by simp [ordL, h]
  | y :: x, a, b, h => by
    have := kx_ x a b h
    simp only [List.cons_append, ordL]
    rw [if_neg (by omega), if_neg (by omega)]
    exact this
theorem mQ_ : ∀ {x y : List Int} (s t : List Int), x.length = y.length → ordL x y < 0 → ordL (x ++ s) (y ++ t) < 0
  | [], [], s, t, _, h => by simp [ordL] at h
  | [], _ :: _, s, t, h, _ => by simp at h
  | _ :: _, [], s, t, h, _ => by simp at h
  | a :: x, b :: y, s, t, hl, h => by
    have ih := mQ_ (x := x) (y := y) s t (by simpa using hl)
    simp only [List.cons_append, ordL] at h ⊢
    by_cases e : a < b
    · rw [if_pos e]; omega
    · rw [if_neg e] at h ⊢
      by_cases e2 : a > b
      · rw [if_pos e2] at h; omega
      · rw [if_neg e2] at h ⊢
        exact ih h
theorem oR_ (n : Nat) : ∀ d, sorS (msD n d)
  | 0 => by simp [msD, sorS]
  | d + 1 => by
    unfold msD sorS
    rw [List.pairwise_flatMap]
    constructor
    · intro x _
      unfold extD
      rw [List.pairwise_map]
      exact List.Pairwise.imp (fun {a b : Nat} (h : a < b) => kx_ x (a : Int) (b : Int) (by omega)) (List.pairwise_lt_range' (step := 1) (by decide))
    · have ih := oR_ n d
      unfold sorS at ih
      refine (List.Pairwise.and_mem.1 ih).imp fun {x y} h u hu v hv => ?_
      obtain ⟨a, rfl, -, -⟩ := hX_.1 hu
      obtain ⟨b, rfl, -, -⟩ := hX_.1 hv
      exact mQ_ _ _ (by rw [((dI_ n d x).1 h.1).1, ((dI_ n d y).1 h.2.1).1]) h.2.2
theorem jP_ {ρ : Type} {f : List (List Int) × Int → Option (Lp (List (List Int) × Int) (List (List Int) × Int) ρ)} {n : Nat} {x : List Int}
    (hgo : ∀ (acc : List (List Int)) (k : Nat), k < n → acc.length < 1000000000 → f (acc, (k : Int)) = some (.go (acc ++ [x ++ [(k : Int)]], ((k + 1 : Nat) : Int))))
    (hout : ∀ acc : List (List Int), f (acc, (n : Int)) = some (.out (acc, (n : Int)))) : ∀ (d k fuel : Nat) (acc : List (List Int)), k + d = n → d < fuel → acc.length + d ≤ 1000000000 →
    loopF f fuel (acc, (k : Int)) = some (.inl (acc ++ (List.range' k d).map (fun a : Nat => x ++ [(a : Int)]), (n : Int)))
  | 0, k, fuel, acc, hk, hf, _ => by
    obtain ⟨fuel, rfl⟩ : ∃ m, fuel = m + 1 := ⟨fuel - 1, by omega⟩
    have : k = n := by omega
    subst this
    rw [hv_ (hout acc)]
    simp
  | d + 1, k, fuel, acc, hk, hf, hl => by
    obtain ⟨fuel, rfl⟩ : ∃ m, fuel = m + 1 := ⟨fuel - 1, by omega⟩
    rw [kY_ (hgo acc k (by omega) (by omega)), jP_ hgo hout d (k + 1) fuel _ (by omega) (by omega) (by simp; omega), List.range'_succ]
    simp
theorem lM_ {x : List Int} {d : Nat} (h : x.length = d + 1) : ix x (d : Int) = some (x.getLastD 0) := by
  rcases List.eq_nil_or_concat x with rfl | ⟨u, a, rfl⟩
  · simp at h
  · rw [List.concat_eq_append] at h ⊢
    rw [List.getLastD_concat]
    have : u.length = d := by simpa using h
    subst this
    exact jI_ u a []
end

section
theorem dH_ {a b c : Int} : inB b c a = true ↔ b ≤ a ∧ a ≤ c := by simp [inB]
theorem ht_ (n : Int) (h₀ : 0 ≤ n) (h₁ : n < 2 ^ 63) : IntKind.i64.wrap n = n := by rw [IntKind.wrap_i64]; omega
theorem nq_ {a : Nat} (ha : a < 2 ^ 62) : (BitVec.ofInt 64 (a : Int)).toNat = a := by
  rw [BitVec.ofInt_natCast, BitVec.toNat_ofNat, Nat.mod_eq_of_lt (by omega)]
theorem oS_ {a b : Nat} (ha : a < 2 ^ 62) (hb : b < 2 ^ 62) : bor a b = ((a ||| b : Nat) : Int) := by
  unfold bor
  rw [BitVec.toNat_or, nq_ ha, nq_ hb]
  have := Nat.or_lt_two_pow ha hb
  exact ht_ _ (by omega) (by omega)
theorem kg_ {a b : Nat} (ha : a < 2 ^ 62) (hb : b < 2 ^ 62) : band a b = ((a &&& b : Nat) : Int) := by
  unfold band
  rw [BitVec.toNat_and, nq_ ha, nq_ hb]
  have : a &&& b < 2 ^ 62 := Nat.and_lt_two_pow a hb
  exact ht_ _ (by omega) (by omega)
theorem km_ {S a : Nat} (h : a ≤ 62) : shr S a = some ((S / 2 ^ a : Nat) : Int) := by
  unfold shr
  rw [if_neg (by omega), Int.toNat_natCast, Nat.min_eq_left (by omega), Int.fdiv_eq_ediv_of_nonneg _ (Int.le_of_lt (Int.pow_pos (by decide)))]
  simp
theorem eS_ {a : Nat} (h : a ≤ 61) : shl 1 a = some ((2 ^ a : Nat) : Int) := by
  unfold shl
  rw [if_neg (by omega), Int.toNat_natCast, Nat.min_eq_left (by omega), Int.one_mul]
  have h1 : (2 : Int) ^ a = ((2 ^ a : Nat) : Int) := by simp
  have h2 : 2 ^ a ≤ 2 ^ 61 := Nat.pow_le_pow_right (by decide) h
  rw [h1]
  generalize 2 ^ a = P at h2 ⊢
  rw [ht_ _ (by omega) (by omega)]
theorem nC_ {S a : Nat} (hS : S < 2 ^ 62) : (band ((S / 2 ^ a : Nat) : Int) 1 == 1) = S.testBit a := by
  have h1 : S / 2 ^ a < 2 ^ 62 := Nat.lt_of_le_of_lt (Nat.div_le_self _ _) hS
  rw [show (1 : Int) = ((1 : Nat) : Int) from rfl, kg_ h1 (by decide), Nat.and_one_is_mod, Nat.testBit_eq_decide_div_mod_eq]
  rw [Bool.eq_iff_iff, beq_iff_eq, decide_eq_true_eq]
  omega
def lbs (n S : Nat) : List Int := ((List.range n).filter fun i => S.testBit i).map fun i : Nat => (i : Int)
theorem mq_ {n S : Nat} {y : Int} : y ∈ lbs n S ↔ ∃ i : Nat, y = i ∧ i < n ∧ S.testBit i = true := by
  simp only [lbs, List.mem_map, List.mem_filter, List.mem_range]
  constructor
  · rintro ⟨i, ⟨h1, h2⟩, rfl⟩; exact ⟨i, rfl, h1, h2⟩
  · rintro ⟨i, rfl, h1, h2⟩; exact ⟨i, ⟨h1, h2⟩, rfl⟩
theorem kk_ (n S : Nat) : lbs (n + 1) S = if S.testBit n then lbs n S ++ [(n : Int)] else lbs n S := by
  simp only [lbs, List.range_succ, List.filter_append, List.map_append]
  cases h : S.testBit n <;> simp [List.filter, h]
theorem jk_ (n S : Nat) : (lbs n S).length ≤ n := by
  simp only [lbs, List.length_map]
  exact Nat.le_trans (List.length_filter_le _ _) (by simp)
theorem oQ_ {a S : Nat} (h : S < 2 ^ a) : ∀ d, lbs (a + d) S = lbs a S
  | 0 => rfl
  | d + 1 => by
    rw [show a + (d + 1) = (a + d) + 1 by omega, kk_, oQ_ h d]
    rw [Nat.testBit_lt_two_pow (Nat.lt_of_lt_of_le h (Nat.pow_le_pow_right (by decide) (by omega)))]
    simp
theorem mR_ {xs ys : List Int} (hx : xs.Pairwise (· < ·)) (hy : ys.Pairwise (· < ·)) (h : ∀ a, a ∈ xs ↔ a ∈ ys) : xs = ys := by
  have nx : xs.Nodup := hx.imp fun h => by omega
  have ny : ys.Nodup := hy.imp fun h => by omega
  exact List.Perm.eq_of_pairwise (le := fun a b => a ≤ b) (fun a b _ _ h1 h2 => Int.le_antisymm h1 h2) (hx.imp fun h => by omega) (hy.imp fun h => by omega) ((List.perm_ext_iff_of_nodup nx ny).2 h)
theorem kr_ (S k : Nat) (hk : k ≤ 61) (hz : S / 2 ^ k = 0) (xs : List Int) : bt_ (S : Int) (xs, (k : Int)) = some (.out (xs, (k : Int))) := by
  unfold bt_
  simp only
  rw [km_ (by omega), sb, hz, if_neg (by simp)]
theorem mB_ (S k : Nat) (hS : S < 2 ^ 62) (hk : k < 61) (hz : S / 2 ^ k ≠ 0) (xs : List Int) (hx : xs.length ≤ 61) :
    bt_ (S : Int) (xs, (k : Int)) = some (.go (if S.testBit k then xs ++ [(k : Int)] else xs, ((k + 1 : Nat) : Int))) := by
  unfold bt_
  simp only
  rw [km_ (by omega), sb, sb, nC_ hS]
  generalize S / 2 ^ k = Q at hz
  rw [if_pos (by simp only [bne_iff_ne, ne_eq]; omega)]
  cases ht : S.testBit k
  · rw [if_neg (by simp), C_ (by omega) (by omega), sb]; simp
  · rw [if_pos rfl]
    unfold push
    rw [if_pos (by omega), sb, C_ (by omega) (by omega), sb]; simp
theorem jV_ (n S : Nat) (hS : S < 2 ^ n) (hn : n ≤ 61) : ∀ (fuel k : Nat), k ≤ n → n - k < fuel →
    ∃ j, loopF (bt_ (S : Int)) fuel (lbs k S, (k : Int)) = some (.inl (lbs n S, j)) := by
  have hS2 : S < 2 ^ 62 := Nat.lt_of_lt_of_le hS (Nat.pow_le_pow_right (by decide) (by omega))
  intro fuel
  induction fuel with
  | zero => intro k _ hf; omega
  | succ fuel ih =>
    intro k hk hf
    have hl := jk_ k S
    by_cases hz : S / 2 ^ k = 0
    · have hlt : S < 2 ^ k := by
        rcases Nat.div_eq_zero_iff.1 hz with h | h
        · have := Nat.two_pow_pos k; omega
        · exact h
      have e : lbs n S = lbs k S := by
        have := oQ_ hlt (n - k)
        rwa [show k + (n - k) = n by omega] at this
      exact ⟨k, by simp only [loopF, kr_ S k (by omega) hz, e]⟩
    · have hkn : k < n := by
        rcases Nat.lt_or_ge k n with h | h
        · exact h
        · exact absurd (Nat.div_eq_of_lt (Nat.lt_of_lt_of_le hS (Nat.pow_le_pow_right (by decide) h))) hz
      obtain ⟨j, hj⟩ := ih (k + 1) (by omega) (by omega)
      refine ⟨j, ?_⟩
      simp only [loopF, mB_ S k hS2 (by omega) hz (lbs k S) (by omega)]
      rw [← kk_]
      exact hj
theorem jA_ (n S fuel : Nat) (hS : S < 2 ^ n) (hn : n ≤ 61) (hf : n < fuel) : da_ fuel (S : Int) = some (lbs n S) := by
  unfold da_
  obtain ⟨j, hj⟩ := jV_ n S hS hn fuel 0 (by omega) (by omega)
  have h0 : lbs 0 S = [] := rfl
  rw [h0] at hj
  rw [show ((0 : Nat) : Int) = 0 from rfl] at hj
  rw [hj, sb]
def posL (xs : List Int) (a : Int) : Nat := (xs.takeWhile fun x => decide (x < a)).length
theorem jv_ (a : Int) : ∀ (ys pre : List Int) (fuel : Nat), ys.length < fuel → pre.length + ys.length ≤ 1000000000 →
    loopF (cy_ (pre ++ ys) a) fuel (pre.length : Int) = some (.inl ((pre.length + posL ys a : Nat) : Int))
  | [], pre, fuel, hf, hl => by
    cases fuel with
    | zero => simp at hf
    | succ fuel =>
      have hs : cy_ (pre ++ []) a (pre.length : Int) = some (.out (pre.length : Int)) := by
        unfold cy_
        rw [if_neg (by simp), sb, if_neg (by simp)]
      rw [List.append_nil] at hs ⊢
      simp [loopF, hs, posL]
  | y :: ys, pre, fuel, hf, hl => by
    cases fuel with
    | zero => simp at hf
    | succ fuel =>
      simp only [List.length_cons] at hf hl
      have hs : cy_ (pre ++ y :: ys) a (pre.length : Int) = some (if y < a then .go ((pre.length + 1 : Nat) : Int) else .out (pre.length : Int)) := by
        unfold cy_
        rw [if_pos (by simp; omega), jI_, sb, sb]
        by_cases h : y < a
        · simp only [h, decide_true, if_true]
          rw [C_ (by omega) (by omega), sb]; simp
        · simp only [h, decide_false, if_false, Bool.false_eq_true]
      by_cases h : y < a
      · simp only [loopF, hs, h, if_true]
        have := jv_ a ys (pre ++ [y]) fuel (by omega) (by simp; omega)
        rw [List.append_assoc] at this
        simp only [List.length_append, List.length_cons, List.length_nil, List.cons_append, List.nil_append, Nat.zero_add] at this
        rw [this]
        simp [posL, List.takeWhile_cons, h]; omega
      · simp only [loopF, hs, h, if_false]
        simp [posL, List.takeWhile_cons, h]
theorem rh_ (xs : List Int) (a : Int) : posL xs a ≤ xs.length := by
  unfold posL
  exact (List.takeWhile_sublist _).length_le
theorem oN_ (xs : List Int) (a : Int) : xs.take (posL xs a) = xs.takeWhile fun x => decide (x < a) := by
  induction xs with
  | nil => rfl
  | cons x xs ih =>
    unfold posL at ih ⊢
    rw [List.takeWhile_cons]
    split
    · rw [List.length_cons, List.take_succ_cons, ih]
    · rfl
theorem iu_ (xs : List Int) (a : Int) : xs.drop (posL xs a) = xs.dropWhile fun x => decide (x < a) := by
  induction xs with
  | nil => rfl
  | cons x xs ih =>
    unfold posL at ih ⊢
    rw [List.takeWhile_cons, List.dropWhile_cons]
    split
    · rw [List.length_cons, List.drop_succ_cons, ih]
    · rfl
theorem lU_ {xs : List Int} {a : Int} (hx : xs.Pairwise (· < ·)) : ∀ y, y ∈ xs.dropWhile (fun x => decide (x < a)) → a ≤ y := by
  induction xs with
  | nil => simp
  | cons x xs ih =>
    rw [List.pairwise_cons] at hx
    intro y hy
    rw [List.dropWhile_cons] at hy
    split at hy
    · exact ih hx.2 y hy
    · rename_i h
      simp at h
      rcases List.mem_cons.1 hy with rfl | hy
      · exact h
      · have := hx.1 y hy; omega
theorem rr_ (xs : List Int) (a : Int) (fuel : Nat) (hf : xs.length < fuel) (hl : xs.length ≤ 1000000) (hx : xs.Pairwise (· < ·)) :
    ∃ ys, gx_ fuel xs a = some ys ∧ ys.Pairwise (· < ·) ∧ ∀ b, b ∈ ys ↔ b ∈ xs ∨ b = a := by
  unfold gx_
  have h0 := jv_ a xs [] fuel hf (by simp; omega)
  simp only [List.nil_append, List.length_nil, Nat.zero_add] at h0
  rw [show ((0 : Nat) : Int) = 0 from rfl] at h0
  rw [h0, sb]
  have hp := rh_ xs a
  have hsplit : xs.takeWhile (fun x => decide (x < a)) ++ xs.dropWhile (fun x => decide (x < a)) = xs := List.takeWhile_append_dropWhile
  have htk : ∀ y, y ∈ xs.takeWhile (fun x => decide (x < a)) → y < a := fun y hy => by
    have := List.all_eq_true.1 List.all_takeWhile y hy
    simpa using this
  by_cases hlt : posL xs a < xs.length
  · simp only
    rw [if_pos (by simp; omega), fH_ _ _ hlt, sb, sb]
    by_cases he : xs[posL xs a] = a
    · rw [if_pos (by simp [he])]
      exact ⟨xs, rfl, hx, fun b => ⟨.inl, fun h => by
        rcases h with h | h
        · exact h
        · rw [h, ← he]; exact List.getElem_mem hlt⟩⟩
    · rw [if_neg (by simp [he])]
      have hd : xs.dropWhile (fun x => decide (x < a)) = xs[posL xs a] :: xs.drop (posL xs a + 1) := by
        rw [← iu_, List.drop_eq_getElem_cons hlt]
      have hge : ∀ y, y ∈ xs.dropWhile (fun x => decide (x < a)) → a < y := fun y hy => by
        rw [hd] at hy
        have h1 := lU_ hx xs[posL xs a] (by rw [hd]; exact List.mem_cons_self)
        have h2 : (xs.drop (posL xs a)).Pairwise (· < ·) := hx.sublist (List.drop_sublist _ _)
        rw [List.drop_eq_getElem_cons hlt, List.pairwise_cons] at h2
        rcases List.mem_cons.1 hy with rfl | hy
        · omega
        · have := h2.1 y hy; omega
      have hc1 : cut xs 0 ((posL xs a : Nat) : Int) = some (xs.takeWhile fun x => decide (x < a)) := by
        unfold cut
        rw [if_pos ⟨by omega, by omega, by omega⟩]
        simp [oN_]
      have hc2 : cut xs ((posL xs a : Nat) : Int) xs.length = some (xs.dropWhile fun x => decide (x < a)) := by
        unfold cut
        rw [if_pos ⟨by omega, by omega, by omega⟩]
        simp [iu_]
      have hlen := congrArg List.length hsplit
      rw [List.length_append] at hlen
      refine ⟨xs.takeWhile (fun x => decide (x < a)) ++ [a] ++ xs.dropWhile (fun x => decide (x < a)), ?_, ?_, ?_⟩
      · rw [hc1, sb, iy_ _ (by omega), sb]
        unfold push
        rw [if_pos (by omega), sb, hc2, sb]
        unfold cat
        rw [if_pos (by simp; omega), sb]
      · rw [← hsplit] at hx
        rw [List.pairwise_append] at hx
        rw [List.append_assoc, List.singleton_append, List.pairwise_append, List.pairwise_cons]
        refine ⟨hx.1, ⟨hge, hx.2.1⟩, fun u hu v hv => ?_⟩
        rcases List.mem_cons.1 hv with rfl | hv
        · exact htk u hu
        · exact hx.2.2 u hu v hv
      · intro b
        conv => rhs; rw [← hsplit]
        simp only [List.mem_append, List.mem_cons, List.not_mem_nil, or_false]
        constructor
        · rintro ((h | h) | h)
          · exact .inl (.inl h)
          · exact .inr h
          · exact .inl (.inr h)
        · rintro ((h | h) | h)
          · exact .inl (.inl h)
          · exact .inr h
          · exact .inl (.inr h)
  · have hd : xs.dropWhile (fun x => decide (x < a)) = [] := by rw [← iu_, List.drop_eq_nil_of_le (by omega)]
    have htw : xs.takeWhile (fun x => decide (x < a)) = xs := by rw [hd, List.append_nil] at hsplit; exact hsplit
    simp only
    rw [if_neg (by simp; omega), sb, if_neg (by simp)]
    have hp2 : posL xs a = xs.length := by omega
    rw [hp2, qW_, sb, iy_ _ (by omega), sb]
    unfold push
    rw [if_pos (by omega), sb]
    have hc2 : cut xs ((xs.length : Nat) : Int) xs.length = some [] := by
      unfold cut
      rw [if_pos ⟨by omega, by omega, by omega⟩]
      simp
    rw [hc2, sb]
    unfold cat
    refine ⟨xs ++ [a], ?_, ?_, ?_⟩
    · rw [if_pos (by simp; omega), sb]; simp
    · rw [List.pairwise_append]
      refine ⟨hx, by simp, fun u hu v hv => ?_⟩
      simp at hv; subst hv
      rw [← htw] at hu
      exact htk u hu
    · intro b; simp
end

section
theorem no_ {σ ρ : Type} {body : Int → σ → Option (Lp σ σ ρ)} (R : Nat → σ) : ∀ (n k : Nat), (∀ (j : Nat), j < n → body ((k + j : Nat) : Int) (R (k + j)) = some (.go (R (k + j + 1)))) →
    forN body n (k : Int) (R k) = some (.inl (R (k + n)))
  | 0, k, h => rfl
  | n + 1, k, h => by
    have h0 := h 0 (by omega)
    simp only [Nat.add_zero] at h0
    simp only [forN, h0]
    rw [show ((k : Int) + 1) = ((k + 1 : Nat) : Int) by omega]
    rw [no_ R n (k + 1) (fun j hj => by have := h (j + 1) (by omega); rw [show k + (j + 1) = k + 1 + j by omega] at this; exact this)]
    rw [show k + 1 + n = k + (n + 1) by omega]
theorem dX_ {σ ρ : Type} {body : Int → σ → Option (Lp σ σ ρ)} (R : Nat → σ) (n : Nat) (h : ∀ (j : Nat), j < n → body (j : Int) (R j) = some (.go (R (j + 1)))) :
    forN body n 0 (R 0) = some (.inl (R n)) := by
  have := no_ R n 0 (fun j hj => by rw [Nat.zero_add]; exact h j hj)
  rw [Nat.zero_add] at this; exact this
end

end Go.Proofs.YtdbbeldgdgonfaaGreat
