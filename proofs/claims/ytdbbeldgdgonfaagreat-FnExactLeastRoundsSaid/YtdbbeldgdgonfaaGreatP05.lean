/- Part 5 of what this claim rests on (GA), packed by pack.py. -/
import Derived.Test.YtdbbeldgdgonfaaGreatP03
import Derived.Test.YtdbbeldgdgonfaaGreatP04
namespace Go.Proofs.YtdbbeldgdgonfaaGreat
set_option linter.unusedSimpArgs false
set_option linter.unusedVariables false

section
set_option maxRecDepth 100000
set_option maxHeartbeats 2000000
open Go.RowKit
theorem cO_ : Inf Tryz.prog 3 (.int .i64 0) 1 8 := by unfold Inf; kernel_rfl

def eR_ (p0 : Int) (p1 : Int) (p2 : Int) : Option Bool :=
  (
    if decide (p0 ≥ p1) then
      some (decide (p0 ≤ p2))
    else
      some false) >>= fun q1 =>
  some q1

def ra_ (w : World) (r : Bool) : Ending → World → Prop := fun e w' => e = .returned (.bool r) ∧ Keeps w w'
theorem hF_ (w : World) (p0 : Int) (p1 : Int) (p2 : Int) (r : Bool) (hF : eR_ p0 p1 p2 = some r) :
    Calls Tryz.prog 40 #[.int .i64 p0, .int .i64 p1, .int .i64 p2] w (ra_ w r) := by
 unfold eR_ at hF; have hB : Bs (fun _ => 1) (col (fun _ => 1)) w w := Bs.start _ _; refine h_ (n := 15) (vs := [(ZI p0), (ZI p1), (ZI p2)]) Tryz.func40 rfl rfl ?_; refine Zq (Za rfl (Ze [(0, ZI p0), (1, ZI p1), (2, ZI p2)] (Zn (Zm rfl (Zm rfl (Zv (jd_ rfl rfl) (Zm rfl ?_))))))); obtain ⟨q1, hq1, hF⟩ := bind_some hF; refine az_ 4 (fun a3 w2 => Fr a3 15 [(14, (.bool q1))] ∧ Keeps w w2) ?_ ?_; all_goals simp only [List.take_succ_cons, List.take_zero, List.drop_succ_cons, List.drop_zero]
 ·have kp : Keeps w w := Keeps.refl _; rcases Bool.eq_false_or_eq_true (decide (p0 ≥ p1)) with t4 | t4
  ·rw [if_pos t4] at hq1; refine o_ (k_ rfl) (by decide) ⟨_, rfl, (congrArg (fun b => some (Value.bool b)) t4)⟩ (o_ (k_ rfl) (by decide) ⟨_, rfl, (congrArg (fun b => some (Value.bool b)) t4)⟩ (o_ (lB_ rfl rfl) (by decide) ⟨_, rfl, (congrArg (fun b => some (Value.bool b)) t4)⟩ (Zv (O_ (congrArg (fun b => some (Value.bool b)) t4) rfl) ?_))); have hq12 := Option.some.inj hq1; refine Ze [(14, (.bool (decide (p0 ≤ p2))))] ?_; subst hq12; refine p_ (fun a ha => ⟨ha, kp⟩)
  ·rw [if_neg (by rw [t4]; decide)] at hq1; refine s_ rfl rfl (by rw [t4]; rfl) (by decide) ?_; refine s_ rfl rfl (by rw [t4]; rfl) (by decide) ?_; refine s_ rfl rfl (by rw [t4]; rfl) (by decide) ?_; refine Zv (J_ (congrArg (fun b => some (Value.bool b)) t4) rfl) ?_; have hq12 := Option.some.inj hq1; refine Ze [(14, (.bool false))] ?_; subst hq12; refine p_ (fun a ha => ⟨ha, kp⟩)
 rintro a7 w2 ⟨ha, k5⟩; have s6 := k5.stp 999 (col (fun _ => 1)); replace hB := hB.stp s6; refine bf_ ha ?_; refine Za rfl (Ze [(6, (.bool q1))] (nx (j_ ?_))); have e8 := Option.some.inj hF; subst e8; refine Zr Tryz.results40 [(.bool q1)] ?_; exact ⟨rfl, hB.keeps⟩
def gA_ (p0 : Int) (p1 : Int) : Option Int :=
  if decide (p0 < p1) then
    some p0
  else
    some p1

def ok_ (w : World) (r : Int) : Ending → World → Prop := fun e w' => e = .returned (.int .i64 r) ∧ Keeps w w'
theorem nM_ (w : World) (p0 : Int) (p1 : Int) (r : Int) (hF : gA_ p0 p1 = some r) :
    Calls Tryz.prog 164 #[.int .i64 p0, .int .i64 p1] w (ok_ w r) := by
 unfold gA_ at hF; have hB : Bs (fun _ => 1) (col (fun _ => 1)) w w := Bs.start _ _; refine h_ (n := 10) (vs := [(ZI p0), (ZI p1)]) Tryz.func164 rfl rfl ?_; refine Zq (Za rfl (Ze [(0, ZI p0), (1, ZI p1)] (nx (b_ (Zq (Zm rfl (Zm rfl (Zv (r_ rfl rfl) (Ze [(0, ZI p0), (1, ZI p1), (7, (.bool (decide (p0 < p1))))] (nx ?_)))))))))); refine l_ rfl (fun t1 => ?_) (fun t1 => ?_)
 ·rw [if_pos t1] at hF; refine Zq (Zm rfl (Za rfl (Ze [(4, ZI p0)] (nx (j_ (A_ ?_)))))); have e2 := Option.some.inj hF; subst e2; refine Zr Tryz.results164 [(ZI p0)] ?_; exact ⟨rfl, hB.keeps⟩
 ·rw [if_neg (by rw [t1]; decide)] at hF; refine f_ (Zn (Zm rfl (Za rfl (Ze [(4, ZI p1)] (nx (j_ ?_)))))); have e3 := Option.some.inj hF; subst e3; refine Zr Tryz.results164 [(ZI p1)] ?_; exact ⟨rfl, hB.keeps⟩
def fq_ (p1 : Int) (p2 : Int) : Int → Int → Unit → Option (Lp Unit Unit Bool) := fun (i3 : Int) (x13 : Int) (s : Unit) =>
  (eR_ x13 p1 p2) >>= fun x19 =>
  if !x19 then
    some (.ret false)
  else
    some (.go ())
def gW_ (p0 : List Int) (p1 : Int) (p2 : Int) : Option Bool :=
  (forI (fq_ p1 p2) p0 0 ()) >>= fun q4 =>
  match q4 with
  | .inl _ =>
    some true
  | .inr r' => some r'

def mO_ (w : World) (r : Bool) : Ending → World → Prop := fun e w' => e = .returned (.bool r) ∧ Keeps w w'
theorem pY_ (w : World) (u0 : Value) (p0 : List Int) (g0 : RdL zt w u0 p0) (p1 : Int) (p2 : Int) (r : Bool) (hF : gW_ p0 p1 p2 = some r) :
    Calls Tryz.prog 106 #[u0, .int .i64 p1, .int .i64 p2] w (mO_ w r) := by
 unfold gW_ at hF; have hB : Bs (fun _ => 1) (col (fun _ => 1)) w w := Bs.start _ _; refine h_ (n := 21) (vs := [u0, (ZI p1), (ZI p2)]) Tryz.func106 rfl rfl ?_; refine Zq (Za rfl (Ze [(0, u0), (1, ZI p1), (2, ZI p2)] (nx (b_ (Zq (Zm rfl (Zv (F_ rfl g0 Tryz.underlying41) (Zm rfl (Ze [(1, ZI p1), (2, ZI p2), (9, u0), (10, (ZI (p0.length : Int))), (11, ZI 0)] (nx ?_)))))))))); obtain ⟨q4, hq4, hF⟩ := bind_some hF; refine z_ (fun a w2 => ∃ (o1 : Tg), q4 = .inl () ∧ Fr a 21 [] ∧ Bs (fun _ => 1) o1 w w2) (fun a w' => ∃ r', q4 = .inr r' ∧ bodyPost Tryz.prog Tryz.f106 (mO_ w r') .ret a w') ?_ ?_ ?_
 ·refine d_ ?_; refine y_ (fun (K : Nat) a w2 => ∃ (i3 : Int) (o1 : Tg), forI (fq_ p1 p2) (p0.drop i3.toNat) i3 () = some q4 ∧ (p0.drop i3.toNat).length = K ∧ 0 ≤ i3 ∧ Fr a 21 [(1, ZI p1), (2, ZI p2), (9, u0), (10, (ZI (p0.length : Int))), (11, ZI i3)] ∧ Bs (fun _ => 1) o1 w w2) _ (fun a ha => ⟨0, (col (fun _ => 1)), hq4, rfl, Int.le_refl 0, ha.sub (r := [(1, ZI p1), (2, ZI p2), (9, u0), (10, (ZI (p0.length : Int))), (11, ZI 0)]) ⟨rfl, rfl, rfl, rfl, rfl, trivial⟩, hB⟩) ?_; rintro K8 a w2 ⟨i3, o1, l5, m7, z6, ha, hB⟩; by_cases t12 : i3 < (p0.length : Int)
  ·obtain ⟨x13, q9, hx13, b10, n11⟩ := V_ z6 t12 l5; have hle := g0.len_le; dsimp only [fq_] at b10; refine L_ ha ?_; refine Zq (Zv (r_ rfl rfl) (Ze [(1, ZI p1), (2, ZI p2), (9, u0), (10, (ZI (p0.length : Int))), (11, ZI i3), (12, (.bool (decide (i3 < (p0.length : Int)))))] (nx (b_ ?_)))); refine P_ (congrArg (fun b => some (Value.bool b)) (decide_eq_true t12)) ?_; refine f_ (nx (b_ (d_ (Zq (Zo ?_))))); refine wf_atZ g0 hx13 hB rfl rfl Tryz.underlying41 Tryz.sizeOf3 ?_; intro b14 f15 c16 h17 h18; cases h18
   refine Zv (e_ rfl Tryz.isAgg3 (i_ h17)) (Za rfl (Ze [(1, ZI p1), (2, ZI p2), (8, ZI x13), (9, u0), (10, (ZI (p0.length : Int))), (11, ZI i3)] (Zn (Zm rfl (Zm rfl (Zm rfl ?_)))))); obtain ⟨x19, hx19, b10⟩ := bind_some b10; refine Zo ?_; refine n_ (hF_ w2 x13 p1 p2 x19 hx19) Tryz.call40 ⟨rfl, rfl, rfl, trivial⟩ ?_; rintro e24 w20 ⟨rfl, k21⟩; have s23 := k21.stp 999 o1; refine ⟨_, rfl, ?_⟩; replace hB := hB.stp s23; refine Zv (bg_ rfl) (Ze [(1, ZI p1), (2, ZI p2), (9, u0), (10, (ZI (p0.length : Int))), (11, ZI i3), (19, (.bool (!x19)))] (nx ?_)); refine l_ rfl (fun t25 => ?_) (fun t25 => ?_)
   ·rw [if_pos t25] at b10; refine Zq (Za rfl (Ze [(6, (.bool false))] (nx (j_ (aa_ (A_ (A_ (aa_ ?_)))))))); refine bu_ ?_; have e26 := Option.some.inj b10; subst e26; refine fun a ha => ⟨_, n11, ?_⟩; refine D_ (P := Tryz.prog) (vs := [(.bool false)]) Tryz.results106 ⟨rfl, trivial⟩ ?_ a ha; exact ⟨rfl, hB.keeps⟩
   ·rw [if_neg (by rw [t25]; decide)] at b10; refine f_ (x_ (nx (c_ (Zv (B_ rfl rfl (C_ (by omega) (by omega))) (Zm rfl (Ze [(1, ZI p1), (2, ZI p2), (9, u0), (10, (ZI (p0.length : Int))), (11, (ZI (i3 + 1)))] (v_ ?_))))))); have e27 := Option.some.inj b10; subst e27; refine Zk [(1, ZI p1), (2, ZI p2), (9, u0), (10, (ZI (p0.length : Int))), (11, (ZI (i3 + 1)))] ?_; intro a ha; exact ⟨_, (by rw [← m7]; simp only [List.length_drop]; omega), i3 + 1, o1, n11, rfl, (by omega), ha, hB⟩
  ·have r28 := W_ t12 l5; refine L_ ha ?_; refine Zq (Zv (r_ rfl rfl) (Ze [(1, ZI p1), (2, ZI p2), (9, u0), (10, (ZI (p0.length : Int))), (11, ZI i3), (12, (.bool (decide (i3 < (p0.length : Int)))))] (nx (b_ ?_)))); refine H_ (congrArg (fun b => some (Value.bool b)) (decide_eq_false t12)) ?_; refine u_ ?_; refine m_ (m_ (R_ ?_)); refine p_ ?_; refine Zk [] ?_; intro a ha; exact ⟨o1, r28, ha, hB⟩
 ·rintro a w2 ⟨o1, rfl, ha, hB⟩; dsimp only at hF; refine ap_k ha ?_; refine Zn (Za rfl (Ze [(6, (.bool true))] (nx (j_ ?_)))); have e29 := Option.some.inj hF; subst e29; refine Zr Tryz.results106 [(.bool true)] ?_; exact ⟨rfl, hB.keeps⟩
 ·rintro a w2 ⟨r', rfl, b30⟩; dsimp only at hF; have e31 := Option.some.inj hF; subst e31; exact b30
def cy_ (p0 : List Int) (p1 : Int) : Int → Option (Lp Int Int (List Int)) := fun (s : Int) =>
  (
    if decide (s < (p0.length : Int)) then
      (ix p0 s) >>= fun x18 =>
      some (decide (x18 < p1))
    else
      some false) >>= fun q14 =>
  if q14 then
    (ck (s + 1)) >>= fun x28 =>
    some (.go x28)
  else
    some (.out s)
def gx_ (fuel : Nat) (p0 : List Int) (p1 : Int) : Option (List Int) :=
  (loopF (cy_ p0 p1) fuel 0) >>= fun q4 =>
  match q4 with
  | .inl y1 =>
    (
      if decide (y1 < (p0.length : Int)) then
        (ix p0 y1) >>= fun x35 =>
        some (x35 == p1)
      else
        some false) >>= fun q31 =>
    if q31 then
      some p0
    else
      (cut p0 0 y1) >>= fun x51 =>
      (cat ([] : List Int) x51) >>= fun x54 =>
      (push x54 p1) >>= fun x66 =>
      (cut p0 y1 p0.length) >>= fun x72 =>
      (cat x66 x72) >>= fun x75 =>
      some x75
  | .inr _ => none

def qy_ (oo : Tg) (t : Nat) (w : World) (r : List Int) : Ending → World → Prop := fun e w' => ∃ (v0 : Value) (o' : Tg), e = .returned (v0) ∧ Of 3 o' w' v0 r ∧ Keeps w w' ∧ ∀ b, b < w.heap.size → o' b = oo b
theorem pW_ (fuel : Nat) (w : World) (oo : Tg) (t : Nat) (ht : 2 ≤ t) (u0 : Value) (p0 : List Int) (g0 : Of 3 oo w u0 p0) (p1 : Int) (r : List Int) (hF : gx_ fuel p0 p1 = some r) :
    Calls Tryz.prog 157 #[u0, .int .i64 p1] w (qy_ oo t w r) := by
 unfold gx_ at hF; replace g0 := g0.col; have g0r := g0.rd; have hB : Bs oo (col oo) w w := Bs.start _ _; refine h_ (n := 48) (vs := [u0, (ZI p1)]) Tryz.func157 rfl rfl ?_; generalize col oo = o at *; refine Zq (Za rfl (Ze [(0, u0), (1, ZI p1)] (Zn (Za rfl (Ze [(0, u0), (1, ZI p1), (5, ZI 0)] (nx ?_)))))); obtain ⟨q4, hq4, hF⟩ := bind_some hF; refine he_ (fun a w3 => ∃ (y1 : Int) (o2 : Tg), q4 = .inl y1 ∧ Fr a 48 [(0, u0), (1, ZI p1), (5, ZI y1)] ∧ Bs oo o2 w w3 ∧ RdL o2 w3 u0 p0 ∧ Of 3 o2 w3 u0 p0) (fun _ _ => False) ?_ ?_ ?_
 ·refine d_ ?_; refine y_ (fun (K : Nat) a w3 => ∃ (y1 : Int) (o2 : Tg), loopF (cy_ p0 p1) K y1 = some q4 ∧ Fr a 48 [(0, u0), (1, ZI p1), (5, ZI y1)] ∧ Bs oo o2 w w3 ∧ RdL o2 w3 u0 p0 ∧ Of 3 o2 w3 u0 p0) fuel (fun a ha => ⟨0, o, hq4, ha.sub (r := [(0, u0), (1, ZI p1), (5, ZI 0)]) ⟨rfl, rfl, rfl, trivial⟩, hB, g0r, g0⟩) ?_; rintro K8 a w3 ⟨y1, o2, l5, ha, hB, g0r, g0⟩; obtain ⟨K12, q9, e13, b10, n11⟩ := X_ l5; dsimp only [cy_] at b10; refine L_ ha ?_; refine b_ (Zq (Zm rfl (Zm rfl (Zv (F_ rfl g0r Tryz.underlying41) (Zv (r_ rfl rfl) (Zm rfl ?_)))))); obtain ⟨q14, hq14, b10⟩ := bind_some b10; refine az_ 7 (fun a16 w15 => Fr a16 48 [(0, u0), (1, ZI p1), (5, ZI y1), (18, (.bool q14))] ∧ Keeps w3 w15) ?_ ?_; all_goals simp only [List.take_succ_cons, List.take_zero, List.drop_succ_cons, List.drop_zero]
  ·have kp : Keeps w3 w3 := Keeps.refl _; rcases Bool.eq_false_or_eq_true (decide (y1 < (p0.length : Int))) with t17 | t17
   ·rw [if_pos t17] at hq14; refine o_ (k_ rfl) (by decide) ⟨_, rfl, (congrArg (fun b => some (Value.bool b)) t17)⟩ (o_ (k_ rfl) (by decide) ⟨_, rfl, (congrArg (fun b => some (Value.bool b)) t17)⟩ ?_); obtain ⟨x18, hx18, hq14⟩ := bind_some hq14; refine ch_ (by decide) ⟨_, rfl, (congrArg (fun b => some (Value.bool b)) t17)⟩ ?_; refine hf_ g0r hx18 rfl rfl Tryz.underlying41 Tryz.sizeOf3 ?_; intro b19 f20 c21 h22 h23; cases h23
    refine o_ (e_ rfl Tryz.isAgg3 (i_ h22)) (by decide) ⟨_, rfl, (congrArg (fun b => some (Value.bool b)) t17)⟩ (o_ (k_ rfl) (by decide) ⟨_, rfl, (congrArg (fun b => some (Value.bool b)) t17)⟩ (o_ (r_ rfl rfl) (by decide) ⟨_, rfl, (congrArg (fun b => some (Value.bool b)) t17)⟩ (Zv (O_ (congrArg (fun b => some (Value.bool b)) t17) rfl) ?_))); have hq142 := Option.some.inj hq14; refine Ze [(0, u0), (1, ZI p1), (5, ZI y1), (18, (.bool (decide (x18 < p1))))] ?_; subst hq142; refine p_ (fun a ha => ⟨ha, kp⟩)
   ·rw [if_neg (by rw [t17]; decide)] at hq14; refine s_ rfl rfl (by rw [t17]; rfl) (by decide) ?_; refine s_ rfl rfl (by rw [t17]; rfl) (by decide) ?_; refine s_ rfl rfl (by rw [t17]; rfl) (by decide) ?_; refine s_ rfl rfl (by rw [t17]; rfl) (by decide) ?_; refine s_ rfl rfl (by rw [t17]; rfl) (by decide) ?_; refine s_ rfl rfl (by rw [t17]; rfl) (by decide) ?_; refine Zv (J_ (congrArg (fun b => some (Value.bool b)) t17) rfl) ?_; have hq142 := Option.some.inj hq14; refine Ze [(0, u0), (1, ZI p1), (5, ZI y1), (18, (.bool false))] ?_; subst hq142; refine p_ (fun a ha => ⟨ha, kp⟩)
  rintro a26 w15 ⟨ha, k24⟩; have s25 := k24.stp 999 o2; replace g0r := g0r.stp s25; replace g0 := g0.stp s25; replace hB := hB.stp s25; refine bf_ ha ?_; refine Ze [(0, u0), (1, ZI p1), (5, ZI y1), (18, (.bool q14))] (nx ?_); refine l_ rfl (fun t27 => ?_) (fun t27 => ?_)
  ·rw [if_pos t27] at b10; refine f_ (nx (d_ (c_ (Zm rfl ?_)))); obtain ⟨x28, hx28, b10⟩ := bind_some b10; refine Zv (B_ rfl rfl hx28) (Za rfl (Ze [(0, u0), (1, ZI p1), (5, ZI x28)] (x_ (v_ ?_)))); have e29 := Option.some.inj b10; subst e29; refine Zk [(0, u0), (1, ZI p1), (5, ZI x28)] ?_; intro a ha; exact ⟨K12, by omega, x28, o2, n11, ha, hB, g0r, g0⟩
  ·rw [if_neg (by rw [t27]; decide)] at b10; refine u_ ?_; refine m_ (m_ (R_ ?_)); refine p_ ?_; have e30 := Option.some.inj b10; subst e30; refine Zk [(0, u0), (1, ZI p1), (5, ZI y1)] ?_; intro a ha; exact ⟨y1, o2, n11, ha, hB, g0r, g0⟩
 ·rintro a w3 ⟨y1, o2, rfl, ha, hB, g0r, g0⟩; dsimp only at hF; refine L_ ha ?_; refine b_ (Zq (Zm rfl (Zm rfl (Zv (F_ rfl g0r Tryz.underlying41) (Zv (r_ rfl rfl) (Zm rfl ?_)))))); obtain ⟨q31, hq31, hF⟩ := bind_some hF; refine az_ 7 (fun a33 w32 => Fr a33 48 [(0, u0), (1, ZI p1), (5, ZI y1), (32, (.bool q31))] ∧ Keeps w3 w32) ?_ ?_; all_goals simp only [List.take_succ_cons, List.take_zero, List.drop_succ_cons, List.drop_zero]
  ·have kp : Keeps w3 w3 := Keeps.refl _; rcases Bool.eq_false_or_eq_true (decide (y1 < (p0.length : Int))) with t34 | t34
   ·rw [if_pos t34] at hq31; refine o_ (k_ rfl) (by decide) ⟨_, rfl, (congrArg (fun b => some (Value.bool b)) t34)⟩ (o_ (k_ rfl) (by decide) ⟨_, rfl, (congrArg (fun b => some (Value.bool b)) t34)⟩ ?_); obtain ⟨x35, hx35, hq31⟩ := bind_some hq31; refine ch_ (by decide) ⟨_, rfl, (congrArg (fun b => some (Value.bool b)) t34)⟩ ?_; refine hf_ g0r hx35 rfl rfl Tryz.underlying41 Tryz.sizeOf3 ?_; intro b36 f37 c38 h39 h40; cases h40
    refine o_ (e_ rfl Tryz.isAgg3 (i_ h39)) (by decide) ⟨_, rfl, (congrArg (fun b => some (Value.bool b)) t34)⟩ (o_ (k_ rfl) (by decide) ⟨_, rfl, (congrArg (fun b => some (Value.bool b)) t34)⟩ (o_ (ds_ rfl rfl) (by decide) ⟨_, rfl, (congrArg (fun b => some (Value.bool b)) t34)⟩ (Zv (O_ (congrArg (fun b => some (Value.bool b)) t34) rfl) ?_))); have hq312 := Option.some.inj hq31; refine Ze [(0, u0), (1, ZI p1), (5, ZI y1), (32, (.bool (x35 == p1)))] ?_; subst hq312; refine p_ (fun a ha => ⟨ha, kp⟩)
   ·rw [if_neg (by rw [t34]; decide)] at hq31; refine s_ rfl rfl (by rw [t34]; rfl) (by decide) ?_; refine s_ rfl rfl (by rw [t34]; rfl) (by decide) ?_; refine s_ rfl rfl (by rw [t34]; rfl) (by decide) ?_; refine s_ rfl rfl (by rw [t34]; rfl) (by decide) ?_; refine s_ rfl rfl (by rw [t34]; rfl) (by decide) ?_; refine s_ rfl rfl (by rw [t34]; rfl) (by decide) ?_; refine Zv (J_ (congrArg (fun b => some (Value.bool b)) t34) rfl) ?_; have hq312 := Option.some.inj hq31; refine Ze [(0, u0), (1, ZI p1), (5, ZI y1), (32, (.bool false))] ?_; subst hq312; refine p_ (fun a ha => ⟨ha, kp⟩)
  rintro a43 w32 ⟨ha, k41⟩; have s42 := k41.stp 999 o2; replace g0r := g0r.stp s42; replace g0 := g0.stp s42; replace hB := hB.stp s42; refine bf_ ha ?_; refine Ze [(0, u0), (1, ZI p1), (5, ZI y1), (32, (.bool q31))] (nx ?_); refine l_ rfl (fun t44 => ?_) (fun t44 => ?_)
  ·rw [if_pos t44] at hF; refine Zq (Zm rfl (Za rfl (Ze [(4, u0)] (nx (j_ (A_ ?_)))))); have e45 := Option.some.inj hF; subst e45; refine Zr Tryz.results157 [u0] ?_; exact ⟨_, rt oo o2 w.heap.size 9 t, rfl, g0.rt hB 9 t (by decide), hB.keeps, an_ _ _ _ _ _⟩
  ·rw [if_neg (by rw [t44]; decide)] at hF; refine f_ (Zn (Zo ?_)); refine eT_ w.heap.size 11 hB.keeps.size (o := o2) (cs := []) (xs := ([] : List Int)) (vs := []) rfl rfl trivial Tryz.underlying41 Tryz.sizeOf3 Tryz.zeroValue3 (by decide) fill0 (by simp) ?_; intro o46 w47 v48 h49 s50; replace g0r := g0r.stp s50; replace g0 := g0.stp s50; replace hB := hB.stp s50; refine Zm rfl (Zm rfl ?_); obtain ⟨x51, hx51, hF⟩ := bind_some hF; refine Zo ?_; refine kf_ g0r hx51 rfl rfl rfl Tryz.underlying41 Tryz.sizeOf3 ?_; intro v52 h53; obtain ⟨x54, hx54, hF⟩ := bind_some hF; refine Zo ?_; refine bi_ h49 h53 hx54 (by decide) hB.keeps.size rfl rfl Tryz.underlying41 cO_ rfl (by decide) ?_; intro o55 w56 v57 h58 s59; replace g0r := g0r.stp s59; replace g0 := g0.stp s59; replace h53 := h53.stp s59; replace hB := hB.stp s59; refine Za rfl (Ze [(0, u0), (1, ZI p1), (5, ZI y1), (6, v57)] (Zn (Zm rfl (Zm rfl (Zo ?_))))); refine aH_ (o := o55) (cs := [(ZI p1)]) (xs := ([p1] : List Int)) (vs := [(0, ZI p1)]) ⟨_, _, rfl, rfl, rfl⟩ rfl ⟨rfl, rfl, trivial⟩ Tryz.underlying41 Tryz.sizeOf3 Tryz.zeroValue3 (by decide) (fill1 rfl) (by simp) ?_; intro o60 w61 v62 h63 s64 k65; replace g0r := g0r.stp s64; replace g0 := g0.stp s64; replace h58 := h58.stp s64; replace hB := hB.stp s64; obtain ⟨x66, hx66, hF⟩ := bind_some hF; refine Zo ?_; refine bi_ h58 h63 (ax_ hx66) (by decide) hB.keeps.size rfl rfl Tryz.underlying41 cO_ rfl (by decide) ?_; intro o67 w68 v69 h70 s71; replace g0r := g0r.stp s71; replace g0 := g0.stp s71; replace h63 := h63.stp s71; replace hB := hB.stp s71; refine Za rfl (Ze [(0, u0), (5, ZI y1), (6, v69)] (Zn (Zm rfl (Zm rfl (Zm rfl ?_))))); obtain ⟨x72, hx72, hF⟩ := bind_some hF; refine Zo ?_; refine kf_ g0r hx72 rfl rfl rfl Tryz.underlying41 Tryz.sizeOf3 ?_; intro v73 h74; obtain ⟨x75, hx75, hF⟩ := bind_some hF; refine Zo ?_; refine bi_ h70 h74 hx75 (by decide) hB.keeps.size rfl rfl Tryz.underlying41 cO_ rfl (by decide) ?_; intro o76 w77 v78 h79 s80; replace g0r := g0r.stp s80; replace g0 := g0.stp s80; replace h74 := h74.stp s80; replace hB := hB.stp s80; refine Za rfl (Ze [(4, v78)] (nx (j_ ?_))); have h81 := h79.frzF; replace h79 := h79.frz; replace hB := hB.frz 11 (by decide); generalize (frz 11 o76) = o82 at *; have e83 := Option.some.inj hF; subst e83; refine Zr Tryz.results157 [v78] ?_; exact ⟨_, rt oo o82 w.heap.size 9 t, rfl, h81.rt hB 9 t (by decide), hB.keeps, an_ _ _ _ _ _⟩
 ·exact fun _ _ h => h.elim
def dK_ (p0 : List Int) : Option (List Int) :=
  (cat ([] : List Int) p0) >>= fun x6 =>
  some x6

def pV_ (oo : Tg) (t : Nat) (w : World) (r : List Int) : Ending → World → Prop := fun e w' => ∃ (v0 : Value) (o' : Tg), e = .returned (v0) ∧ Ow w.heap.size 3 t o' w' v0 r ∧ Keeps w w' ∧ ∀ b, b < w.heap.size → o' b = oo b
theorem gy_ (w : World) (oo : Tg) (t : Nat) (ht : 2 ≤ t) (u0 : Value) (p0 : List Int) (g0 : RdL zt w u0 p0) (r : List Int) (hF : dK_ p0 = some r) :
    Calls Tryz.prog 66 #[u0] w (pV_ oo t w r) := by
 unfold dK_ at hF; have hB : Bs oo (col oo) w w := Bs.start _ _; refine h_ (n := 6) (vs := [u0]) Tryz.func66 rfl rfl ?_; generalize col oo = o at *; refine Zq (Za rfl (Ze [(0, u0)] (Zn (Zo ?_)))); refine eT_ w.heap.size 11 hB.keeps.size (o := o) (cs := []) (xs := ([] : List Int)) (vs := []) rfl rfl trivial Tryz.underlying41 Tryz.sizeOf3 Tryz.zeroValue3 (by decide) fill0 (by simp) ?_; intro o1 w2 v3 h4 s5; replace hB := hB.stp s5; refine Zm rfl ?_; obtain ⟨x6, hx6, hF⟩ := bind_some hF; refine Zo ?_; refine jR_ h4 (g0.keep hB.keeps) hx6 (by decide) hB.keeps.size (fun _ _ h => h) rfl rfl Tryz.underlying41 cO_ rfl (by decide) ?_; intro o7 w8 v9 h10 s11; replace hB := hB.stp s11; refine Za rfl (Ze [(2, v9)] (nx (j_ ?_))); have e12 := Option.some.inj hF; subst e12; refine Zr Tryz.results66 [v9] ?_; exact ⟨_, rt oo o7 w.heap.size 11 t, rfl, h10.rt hB (by decide) t, hB.keeps, an_ _ _ _ _ _⟩
def fW_ (p0 : Int) : Option Int :=
  if decide (p0 > 0) then
    some 1
  else
    if decide (p0 < 0) then
      some (-1)
    else
      some 0

def pK_ (w : World) (r : Int) : Ending → World → Prop := fun e w' => e = .returned (.int .i64 r) ∧ Keeps w w'
theorem pA_ (w : World) (p0 : Int) (r : Int) (hF : fW_ p0 = some r) :
    Calls Tryz.prog 154 #[.int .i64 p0] w (pK_ w r) := by
 unfold fW_ at hF; have hB : Bs (fun _ => 1) (col (fun _ => 1)) w w := Bs.start _ _; refine h_ (n := 9) (vs := [(ZI p0)]) Tryz.func154 rfl rfl ?_; refine Zq (Za rfl (Ze [(0, ZI p0)] (nx (b_ (d_ (Zq (Zm rfl (Zv (dB_ rfl rfl) (Za rfl (Ze [(0, ZI p0), (3, (.bool (decide (p0 > 0))))] (nx ?_))))))))))); refine l_ rfl (fun t1 => ?_) (fun t1 => ?_)
 ·rw [if_pos t1] at hF; refine Zq (Za rfl (Ze [(2, ZI 1)] (nx (j_ (aa_ (A_ ?_)))))); have e2 := Option.some.inj hF; subst e2; refine Zr Tryz.results154 [(ZI 1)] ?_; exact ⟨rfl, hB.keeps⟩
 ·rw [if_neg (by rw [t1]; decide)] at hF; refine Zq (Zm rfl (Zv (r_ rfl rfl) (Za rfl (Ze [(6, (.bool (decide (p0 < 0))))] (nx ?_))))); refine l_ rfl (fun t3 => ?_) (fun t3 => ?_)
  ·rw [if_pos t3] at hF; refine Zq (Za rfl (Ze [(2, (ZI (-1)))] (nx (j_ (aa_ (A_ ?_)))))); have e4 := Option.some.inj hF; subst e4; refine Zr Tryz.results154 [(ZI (-1))] ?_; exact ⟨rfl, hB.keeps⟩
  ·rw [if_neg (by rw [t3]; decide)] at hF; refine f_ (x_ (Zn (Za rfl (Ze [(2, ZI 0)] (nx (j_ ?_)))))); have e5 := Option.some.inj hF; subst e5; refine Zr Tryz.results154 [(ZI 0)] ?_; exact ⟨rfl, hB.keeps⟩
def eK_ (p0 : List Int) (p1 : List Int) : Int → Unit → Option (Lp Unit Unit Bool) := fun (i5 : Int) (s : Unit) =>
  (ix p0 i5) >>= fun x17 =>
  (ix p1 i5) >>= fun x20 =>
  if x17 != x20 then
    some (.ret false)
  else
    some (.go ())
def fl_ (p0 : List Int) (p1 : List Int) : Option Bool :=
  if (p0.length : Int) != (p1.length : Int) then
    some false
  else
    ck (p0.length : Int) >>= fun _ =>
    (forN (eK_ p0 p1) ((p0.length : Int)).toNat 0 ()) >>= fun q6 =>
    match q6 with
    | .inl _ =>
      some true
    | .inr r' => some r'

def kt_ (w : World) (r : Bool) : Ending → World → Prop := fun e w' => e = .returned (.bool r) ∧ Keeps w w'
theorem lu_ (w : World) (u0 : Value) (p0 : List Int) (g0 : RdL zt w u0 p0) (u1 : Value) (p1 : List Int) (g1 : RdL zt w u1 p1) (r : Bool) (hF : fl_ p0 p1 = some r) :
    Calls Tryz.prog 115 #[u0, u1] w (kt_ w r) := by
 unfold fl_ at hF; have hB : Bs (fun _ => 1) (col (fun _ => 1)) w w := Bs.start _ _; refine h_ (n := 26) (vs := [u0, u1]) Tryz.func115 rfl rfl ?_; refine Zq (Za rfl (Ze [(0, u0), (1, u1)] (nx (b_ (Zq (Zm rfl (Zv (F_ rfl g0 Tryz.underlying41) (Zm rfl (Zv (F_ rfl g1 Tryz.underlying41) (Zv (cE_ rfl rfl) (Ze [(0, u0), (1, u1), (10, (.bool ((p0.length : Int) != (p1.length : Int))))] (nx ?_)))))))))))); refine l_ rfl (fun t1 => ?_) (fun t1 => ?_)
 ·rw [if_pos t1] at hF; refine Zq (Za rfl (Ze [(4, (.bool false))] (nx (j_ (A_ ?_))))); have e2 := Option.some.inj hF; subst e2; refine Zr Tryz.results115 [(.bool false)] ?_; exact ⟨rfl, hB.keeps⟩
 ·rw [if_neg (by rw [t1]; decide)] at hF; refine f_ (nx (b_ (Zq (Zm rfl (Zv (F_ rfl g0 Tryz.underlying41) (Zm rfl (Ze [(0, u0), (1, u1), (12, (ZI (p0.length : Int))), (13, ZI 0)] (nx ?_)))))))); obtain ⟨u8, h7, hF⟩ := bind_some hF; obtain ⟨-, h7a, h7b⟩ := cp_ h7; obtain ⟨q6, hq6, hF⟩ := bind_some hF; refine z_ (fun a w4 => ∃ (o3 : Tg), q6 = .inl () ∧ Fr a 26 [] ∧ Bs (fun _ => 1) o3 w w4) (fun a w' => ∃ r', q6 = .inr r' ∧ bodyPost Tryz.prog Tryz.f115 (kt_ w r') .ret a w') ?_ ?_ ?_
  ·refine d_ ?_; refine y_ (fun (K : Nat) a w4 => ∃ (i5 : Int) (o3 : Tg), forN (eK_ p0 p1) ((p0.length : Int) - i5).toNat i5 () = some q6 ∧ ((p0.length : Int) - i5).toNat = K ∧ 0 ≤ i5 ∧ Fr a 26 [(0, u0), (1, u1), (12, (ZI (p0.length : Int))), (13, ZI i5)] ∧ Bs (fun _ => 1) o3 w w4) _ (fun a ha => ⟨0, (col (fun _ => 1)), hq6, rfl, Int.le_refl 0, ha.sub (r := [(0, u0), (1, u1), (12, (ZI (p0.length : Int))), (13, ZI 0)]) ⟨rfl, rfl, rfl, rfl, trivial⟩, hB⟩) ?_; rintro K12 a w4 ⟨i5, o3, l9, m11, z10, ha, hB⟩; by_cases t16 : i5 < (p0.length : Int)
   ·obtain ⟨q13, b14, n15⟩ := bF_ t16 l9; dsimp only [eK_] at b14; refine L_ ha ?_; refine Zq (Zv (r_ rfl rfl) (Ze [(0, u0), (1, u1), (12, (ZI (p0.length : Int))), (13, ZI i5), (14, (.bool (decide (i5 < (p0.length : Int)))))] (nx (b_ ?_)))); refine P_ (congrArg (fun b => some (Value.bool b)) (decide_eq_true t16)) ?_; refine f_ (nx (b_ (d_ (Zq (Zm rfl (Za rfl (Ze [(0, u0), (1, u1), (5, ZI i5), (12, (ZI (p0.length : Int))), (13, ZI i5)] (nx (b_ ?_))))))))); obtain ⟨x17, hx17, b14⟩ := bind_some b14; obtain ⟨x20, hx20, b14⟩ := bind_some b14; refine am_ (o := o3) [(0, u0), (1, u1), (5, ZI i5), (12, (ZI (p0.length : Int))), (13, ZI i5)] [0, 1, 5, 12, 13] [16, 17, 18, 19, 20, 21, 22, 23] [[], [], [0, 1], [2], [], [], [4, 5], [6]] [none, none, none, none, none, none, none, none] [999, 999, 999, 999, 999, 999, 999, 999] [0, 0, 0, 0, 0, 0, 0, 0] [999] [fun v _ _ => v = u0, fun v _ _ => v = (ZI i5), fun v o w9 => ∃ vl, v = adr vl (i5.toNat * Rp.sz Int) ∧ RdL zt w vl p0, fun v _ _ => v = (ZI x17), fun v _ _ => v = u1, fun v _ _ => v = (ZI i5), fun v o w9 => ∃ vl, v = adr vl (i5.toNat * Rp.sz Int) ∧ RdL zt w vl p1, fun v _ _ => v = (ZI x20)] (fun o8 w8 => Bs (fun _ => 1) o8 w w8) G_ (by kernel_rfl) rfl ⟨rfl, rfl, rfl, rfl, rfl, trivial⟩ hB ?_ ⟨w_ _, w_ _, fun _ _ _ _ _ _ h0 hb ⟨vl, e, h⟩ hs => ⟨vl, e, h⟩, w_ _, w_ _, w_ _, fun _ _ _ _ _ _ h0 hb ⟨vl, e, h⟩ hs => ⟨vl, e, h⟩, w_ _, trivial⟩ ?_ ?_
    ·rintro t9 o1 w1 o2 w2 ht9 hB hs9; have ht9 : t9 = 999 := by simpa using ht9
     subst ht9; all_goals exact hB.stp hs9 (by decide)
    ·refine ⟨?_, ?_, ?_, ?_, ?_, ?_, ?_, ?_, trivial⟩
     ·rintro o23 w24 a25 ha hB -; refine Zs ha ?_; refine g_ (k_ rfl) ?_; exact Zx rfl
     ·rintro o26 w27 a28 ha hB -; refine Zs ha ?_; refine g_ (k_ rfl) ?_; exact Zx rfl
     ·rintro o29 w30 a31 ha hB ⟨r32, r33, -⟩; have ha := Fr.cons (d := 16) ha r32; have ha := Fr.cons (d := 17) ha r33; refine Zs ha ?_; refine bk_ g0 hx17 rfl rfl Tryz.underlying41 Tryz.sizeOf3 ?_; exact ⟨_, Stp.refl _ _ _, ⟨_, rfl, g0⟩⟩
     ·rintro o34 w35 a36 ha hB ⟨r37, -⟩; obtain ⟨v38, e39, h40⟩ := r37; have ha := Fr.cons (d := 18) ha e39; refine Zs ha ?_; refine bp_ h40 hx17 hB rfl rfl Tryz.isAgg3 ?_; intro c41 h42; cases h42
      exact Zx rfl
     ·rintro o43 w44 a45 ha hB -; refine Zs ha ?_; refine g_ (k_ rfl) ?_; exact Zx rfl
     ·rintro o46 w47 a48 ha hB -; refine Zs ha ?_; refine g_ (k_ rfl) ?_; exact Zx rfl
     ·rintro o49 w50 a51 ha hB ⟨r52, r53, -⟩; have ha := Fr.cons (d := 20) ha r52; have ha := Fr.cons (d := 21) ha r53; refine Zs ha ?_; refine bk_ g1 hx20 rfl rfl Tryz.underlying41 Tryz.sizeOf3 ?_; exact ⟨_, Stp.refl _ _ _, ⟨_, rfl, g1⟩⟩
     ·rintro o54 w55 a56 ha hB ⟨r57, -⟩; obtain ⟨v58, e59, h60⟩ := r57; have ha := Fr.cons (d := 22) ha e59; refine Zs ha ?_; refine bp_ h60 hx20 hB rfl rfl Tryz.isAgg3 ?_; intro c61 h62; cases h62
      exact Zx rfl
    rintro o63 w64 a65 ha hB ⟨-, -, -, r66, -, -, -, r67, -⟩; have ha := Fr.cons (d := 19) ha r66; have ha := Fr.cons (d := 23) ha r67; refine bf_ ha ?_; simp only [List.length_cons, List.length_nil, Nat.zero_add, Nat.reduceAdd, List.drop_succ_cons, List.drop_zero]; refine Zv (cE_ rfl rfl) (Ze [(0, u0), (1, u1), (12, (ZI (p0.length : Int))), (13, ZI i5), (24, (.bool (x17 != x20)))] (nx ?_)); refine l_ rfl (fun t68 => ?_) (fun t68 => ?_)
    ·rw [if_pos t68] at b14; refine Zq (Za rfl (Ze [(4, (.bool false))] (nx (j_ (aa_ (A_ (A_ (aa_ ?_)))))))); refine bu_ ?_; have e69 := Option.some.inj b14; subst e69; refine fun a ha => ⟨_, n15, ?_⟩; refine D_ (P := Tryz.prog) (vs := [(.bool false)]) Tryz.results115 ⟨rfl, trivial⟩ ?_ a ha; exact ⟨rfl, hB.keeps⟩
    ·rw [if_neg (by rw [t68]; decide)] at b14; refine f_ (x_ (nx (c_ (Zv (B_ rfl rfl (C_ (by omega) (by omega))) (Zm rfl (Ze [(0, u0), (1, u1), (12, (ZI (p0.length : Int))), (13, (ZI (i5 + 1)))] (v_ ?_))))))); have e70 := Option.some.inj b14; subst e70; refine Zk [(0, u0), (1, u1), (12, (ZI (p0.length : Int))), (13, (ZI (i5 + 1)))] ?_; intro a ha; exact ⟨_, (by rw [← m11]; omega), i5 + 1, o63, n15, rfl, (by omega), ha, hB⟩
   ·have r71 := bJ_ t16 l9; refine L_ ha ?_; refine Zq (Zv (r_ rfl rfl) (Ze [(0, u0), (1, u1), (12, (ZI (p0.length : Int))), (13, ZI i5), (14, (.bool (decide (i5 < (p0.length : Int)))))] (nx (b_ ?_)))); refine H_ (congrArg (fun b => some (Value.bool b)) (decide_eq_false t16)) ?_; refine u_ ?_; refine m_ (m_ (R_ ?_)); refine p_ ?_; refine Zk [] ?_; intro a ha; exact ⟨o3, r71, ha, hB⟩
  ·rintro a w4 ⟨o3, rfl, ha, hB⟩; dsimp only at hF; refine ap_k ha ?_; refine Zn (Za rfl (Ze [(4, (.bool true))] (nx (j_ ?_)))); have e72 := Option.some.inj hF; subst e72; refine Zr Tryz.results115 [(.bool true)] ?_; exact ⟨rfl, hB.keeps⟩
  ·rintro a w4 ⟨r', rfl, b73⟩; dsimp only at hF; have e74 := Option.some.inj hF; subst e74; exact b73
def ct_ (p0 : List Int) : Int → Int → (List Int) → Option (Lp (List Int) (List Int) (List Int)) := fun (i7 : Int) (x17 : Int) (s : List Int) =>
  (ix p0 x17) >>= fun x23 =>
  (push s x23) >>= fun x35 =>
  some (.go x35)
def dT_ (p0 : List Int) (p1 : List Int) : Option (List Int) :=
  (forI (ct_ p0) p1 0 []) >>= fun q8 =>
  match q8 with
  | .inl y2 =>
    some y2
  | .inr _ => none

def la_ (oo : Tg) (t : Nat) (w : World) (r : List Int) : Ending → World → Prop := fun e w' => ∃ (v0 : Value) (o' : Tg), e = .returned (v0) ∧ Ow w.heap.size 3 t o' w' v0 r ∧ Keeps w w' ∧ ∀ b, b < w.heap.size → o' b = oo b
theorem kF_ (w : World) (oo : Tg) (t : Nat) (ht : 2 ≤ t) (u0 : Value) (p0 : List Int) (g0 : RdL zt w u0 p0) (u1 : Value) (p1 : List Int) (g1 : RdL zt w u1 p1) (r : List Int) (hF : dT_ p0 p1 = some r) :
    Calls Tryz.prog 130 #[u0, u1] w (la_ oo t w r) := by
 unfold dT_ at hF; have hB : Bs oo (col oo) w w := Bs.start _ _; refine h_ (n := 23) (vs := [u0, u1]) Tryz.func130 rfl rfl ?_; generalize col oo = o at *; refine Zq (Za rfl (Ze [(0, u0), (1, u1)] (Zn (Za rfl (Ze [(0, u0), (1, u1), (5, (.slice none 0 0))] (nx (b_ (Zq (Zm rfl (Zv (F_ rfl g1 Tryz.underlying41) (Zm rfl (Ze [(0, u0), (5, (.slice none 0 0)), (8, u1), (9, (ZI (p1.length : Int))), (10, ZI 0)] ?_)))))))))))); refine nx ?_; have h1 : Ow w.heap.size 3 11 o w (.slice none 0 0) ([] : List Int) := Ow.nil _ _ _ _ _; obtain ⟨q8, hq8, hF⟩ := bind_some hF; refine z_ (fun a w6 => ∃ (y2 : List Int) (v3 : Value) (o5 : Tg), q8 = .inl y2 ∧ Fr a 23 [(5, v3)] ∧ Bs oo o5 w w6 ∧ Ow w.heap.size 3 11 o5 w6 v3 y2) (fun _ _ => False) ?_ ?_ ?_
 ·refine d_ ?_; refine y_ (fun (K : Nat) a w6 => ∃ (i7 : Int) (y2 : List Int) (v3 : Value) (o5 : Tg), forI (ct_ p0) (p1.drop i7.toNat) i7 y2 = some q8 ∧ (p1.drop i7.toNat).length = K ∧ 0 ≤ i7 ∧ Fr a 23 [(0, u0), (5, v3), (8, u1), (9, (ZI (p1.length : Int))), (10, ZI i7)] ∧ Bs oo o5 w w6 ∧ Ow w.heap.size 3 11 o5 w6 v3 y2) _ (fun a ha => ⟨0, [], (.slice none 0 0), o, hq8, rfl, Int.le_refl 0, ha.sub (r := [(0, u0), (5, (.slice none 0 0)), (8, u1), (9, (ZI (p1.length : Int))), (10, ZI 0)]) ⟨rfl, rfl, rfl, rfl, rfl, trivial⟩, hB, h1⟩) ?_; rintro K12 a w6 ⟨i7, y2, v3, o5, l9, m11, z10, ha, hB, h4⟩; by_cases t16 : i7 < (p1.length : Int)
  ·obtain ⟨x17, q13, hx17, b14, n15⟩ := V_ z10 t16 l9; have hle := g1.len_le; dsimp only [ct_] at b14; refine L_ ha ?_; refine Zq (Zv (r_ rfl rfl) (Ze [(0, u0), (5, v3), (8, u1), (9, (ZI (p1.length : Int))), (10, ZI i7), (11, (.bool (decide (i7 < (p1.length : Int)))))] (nx (b_ ?_)))); refine P_ (congrArg (fun b => some (Value.bool b)) (decide_eq_true t16)) ?_; refine f_ (nx (b_ (d_ (Zq (Zo ?_))))); refine wf_atZ g1 hx17 hB rfl rfl Tryz.underlying41 Tryz.sizeOf3 ?_; intro b18 f19 c20 h21 h22; cases h22
   refine Zv (e_ rfl Tryz.isAgg3 (i_ h21)) (Za rfl (Ze [(0, u0), (5, v3), (7, ZI x17), (8, u1), (9, (ZI (p1.length : Int))), (10, ZI i7)] (nx (c_ (Zm rfl (Zm rfl (Zm rfl ?_))))))); obtain ⟨x23, hx23, b14⟩ := bind_some b14; refine Zo ?_; refine wf_atZ g0 hx23 hB rfl rfl Tryz.underlying41 Tryz.sizeOf3 ?_; intro b24 f25 c26 h27 h28; cases h28
   refine Zv (e_ rfl Tryz.isAgg3 (i_ h27)) (Zo ?_); refine aH_ (o := o5) (cs := [(ZI x23)]) (xs := ([x23] : List Int)) (vs := [(0, ZI x23)]) ⟨_, _, rfl, rfl, rfl⟩ rfl ⟨rfl, rfl, trivial⟩ Tryz.underlying41 Tryz.sizeOf3 Tryz.zeroValue3 (by decide) (fill1 rfl) (by simp) ?_; intro o29 w30 v31 h32 s33 k34; replace h4 := h4.stp s33; replace hB := hB.stp s33; obtain ⟨x35, hx35, b14⟩ := bind_some b14; refine Zo ?_; refine bi_ h4 h32 (ax_ hx35) (by decide) hB.keeps.size rfl rfl Tryz.underlying41 cO_ rfl (by decide) ?_; intro o36 w37 v38 h39 s40; replace h32 := h32.stp s40; replace hB := hB.stp s40; refine Za rfl (Ze [(0, u0), (5, v38), (8, u1), (9, (ZI (p1.length : Int))), (10, ZI i7)] (x_ (nx (c_ (Zv (B_ rfl rfl (C_ (by omega) (by omega))) (Zm rfl (Ze [(0, u0), (5, v38), (8, u1), (9, (ZI (p1.length : Int))), (10, (ZI (i7 + 1)))] (v_ ?_)))))))); have e41 := Option.some.inj b14; subst e41; refine Zk [(0, u0), (5, v38), (8, u1), (9, (ZI (p1.length : Int))), (10, (ZI (i7 + 1)))] ?_; intro a ha; exact ⟨_, (by rw [← m11]; simp only [List.length_drop]; omega), i7 + 1, x35, v38, o36, n15, rfl, (by omega), ha, hB, h39⟩
  ·have r42 := W_ t16 l9; refine L_ ha ?_; refine Zq (Zv (r_ rfl rfl) (Ze [(0, u0), (5, v3), (8, u1), (9, (ZI (p1.length : Int))), (10, ZI i7), (11, (.bool (decide (i7 < (p1.length : Int)))))] (nx (b_ ?_)))); refine H_ (congrArg (fun b => some (Value.bool b)) (decide_eq_false t16)) ?_; refine u_ ?_; refine m_ (m_ (R_ ?_)); refine p_ ?_; refine Zk [(5, v3)] ?_; intro a ha; exact ⟨y2, v3, o5, r42, ha, hB, h4⟩
 ·rintro a w6 ⟨y2, v3, o5, rfl, ha, hB, h4⟩; dsimp only at hF; refine ap_k ha ?_; refine Zn (Zm rfl (Za rfl (Ze [(4, v3)] (nx (j_ ?_))))); have e43 := Option.some.inj hF; subst e43; refine Zr Tryz.results130 [v3] ?_; exact ⟨_, rt oo o5 w.heap.size 11 t, rfl, h4.rt hB (by decide) t, hB.keeps, an_ _ _ _ _ _⟩
 ·exact fun _ _ h => h.elim
def em_ (p1 : List Int) : Int → Int → Unit → Option (Lp Unit Unit Int) := fun (i3 : Int) (x13 : Int) (s : Unit) =>
  (ix p1 i3) >>= fun x19 =>
  if x13 != x19 then
    (ix p1 i3) >>= fun x26 =>
    (ck (x13 - x26)) >>= fun x32 =>
    (fW_ x32) >>= fun x33 =>
    some (.ret x33)
  else
    some (.go ())
def dF_ (p0 : List Int) (p1 : List Int) : Option Int :=
  (forI (em_ p1) p0 0 ()) >>= fun q4 =>
  match q4 with
  | .inl _ =>
    some 0
  | .inr r' => some r'

def jJ_ (w : World) (r : Int) : Ending → World → Prop := fun e w' => e = .returned (.int .i64 r) ∧ Keeps w w'
theorem jC_ (w : World) (u0 : Value) (p0 : List Int) (g0 : RdL zt w u0 p0) (u1 : Value) (p1 : List Int) (g1 : RdL zt w u1 p1) (r : Int) (hF : dF_ p0 p1 = some r) :
    Calls Tryz.prog 107 #[u0, u1] w (jJ_ w r) := by
 unfold dF_ at hF; have hB : Bs (fun _ => 1) (col (fun _ => 1)) w w := Bs.start _ _; refine h_ (n := 28) (vs := [u0, u1]) Tryz.func107 rfl rfl ?_; refine Zq (Za rfl (Ze [(0, u0), (1, u1)] (nx (b_ (Zq (Zm rfl (Zv (F_ rfl g0 Tryz.underlying41) (Zm rfl (Ze [(1, u1), (7, u0), (8, (ZI (p0.length : Int))), (9, ZI 0)] (nx ?_)))))))))); obtain ⟨q4, hq4, hF⟩ := bind_some hF; refine z_ (fun a w2 => ∃ (o1 : Tg), q4 = .inl () ∧ Fr a 28 [] ∧ Bs (fun _ => 1) o1 w w2) (fun a w' => ∃ r', q4 = .inr r' ∧ bodyPost Tryz.prog Tryz.f107 (jJ_ w r') .ret a w') ?_ ?_ ?_
 ·refine d_ ?_; refine y_ (fun (K : Nat) a w2 => ∃ (i3 : Int) (o1 : Tg), forI (em_ p1) (p0.drop i3.toNat) i3 () = some q4 ∧ (p0.drop i3.toNat).length = K ∧ 0 ≤ i3 ∧ Fr a 28 [(1, u1), (7, u0), (8, (ZI (p0.length : Int))), (9, ZI i3)] ∧ Bs (fun _ => 1) o1 w w2) _ (fun a ha => ⟨0, (col (fun _ => 1)), hq4, rfl, Int.le_refl 0, ha.sub (r := [(1, u1), (7, u0), (8, (ZI (p0.length : Int))), (9, ZI 0)]) ⟨rfl, rfl, rfl, rfl, trivial⟩, hB⟩) ?_; rintro K8 a w2 ⟨i3, o1, l5, m7, z6, ha, hB⟩; by_cases t12 : i3 < (p0.length : Int)
  ·obtain ⟨x13, q9, hx13, b10, n11⟩ := V_ z6 t12 l5; have hle := g0.len_le; dsimp only [em_] at b10; refine L_ ha ?_; refine Zq (Zv (r_ rfl rfl) (Ze [(1, u1), (7, u0), (8, (ZI (p0.length : Int))), (9, ZI i3), (10, (.bool (decide (i3 < (p0.length : Int)))))] (nx (b_ ?_)))); refine P_ (congrArg (fun b => some (Value.bool b)) (decide_eq_true t12)) ?_; refine f_ (nx (b_ (d_ (Zq (Zm rfl (Zo ?_)))))); refine wf_atZ g0 hx13 hB rfl rfl Tryz.underlying41 Tryz.sizeOf3 ?_; intro b14 f15 c16 h17 h18; cases h18
   refine Zv (e_ rfl Tryz.isAgg3 (i_ h17)) (Za rfl (Za rfl (Ze [(1, u1), (5, ZI i3), (6, ZI x13), (7, u0), (8, (ZI (p0.length : Int))), (9, ZI i3)] (Zn (Zm rfl (Zm rfl (Zm rfl ?_))))))); obtain ⟨x19, hx19, b10⟩ := bind_some b10; refine Zo ?_; refine wf_atZ g1 hx19 hB rfl rfl Tryz.underlying41 Tryz.sizeOf3 ?_; intro b20 f21 c22 h23 h24; cases h24
   refine Zv (e_ rfl Tryz.isAgg3 (i_ h23)) (Zv (cE_ rfl rfl) (Ze [(1, u1), (5, ZI i3), (6, ZI x13), (7, u0), (8, (ZI (p0.length : Int))), (9, ZI i3), (19, (.bool (x13 != x19)))] (nx ?_))); refine l_ rfl (fun t25 => ?_) (fun t25 => ?_)
   ·rw [if_pos t25] at b10; refine Zq (Zm rfl (Zm rfl (Zm rfl ?_))); obtain ⟨x26, hx26, b10⟩ := bind_some b10; refine Zo ?_; refine wf_atZ g1 hx26 hB rfl rfl Tryz.underlying41 Tryz.sizeOf3 ?_; intro b27 f28 c29 h30 h31; cases h31
    refine Zv (e_ rfl Tryz.isAgg3 (i_ h30)) ?_; obtain ⟨x32, hx32, b10⟩ := bind_some b10; refine Zv (bD_ rfl rfl hx32) ?_; obtain ⟨x33, hx33, b10⟩ := bind_some b10; refine Zo ?_; refine n_ (pA_ w2 x32 x33 hx33) Tryz.call154 ⟨rfl, trivial⟩ ?_; rintro e38 w34 ⟨rfl, k35⟩; have s37 := k35.stp 999 o1; refine ⟨_, rfl, ?_⟩; replace hB := hB.stp s37; refine Za rfl (Ze [(4, ZI x33)] (nx (j_ (aa_ (A_ (A_ (aa_ ?_))))))); refine bu_ ?_; have e39 := Option.some.inj b10; subst e39; refine fun a ha => ⟨_, n11, ?_⟩; refine D_ (P := Tryz.prog) (vs := [(ZI x33)]) Tryz.results107 ⟨rfl, trivial⟩ ?_ a ha; exact ⟨rfl, hB.keeps⟩
   ·rw [if_neg (by rw [t25]; decide)] at b10; refine f_ (x_ (nx (c_ (Zv (B_ rfl rfl (C_ (by omega) (by omega))) (Zm rfl (Ze [(1, u1), (7, u0), (8, (ZI (p0.length : Int))), (9, (ZI (i3 + 1)))] (v_ ?_))))))); have e40 := Option.some.inj b10; subst e40; refine Zk [(1, u1), (7, u0), (8, (ZI (p0.length : Int))), (9, (ZI (i3 + 1)))] ?_; intro a ha; exact ⟨_, (by rw [← m7]; simp only [List.length_drop]; omega), i3 + 1, o1, n11, rfl, (by omega), ha, hB⟩
  ·have r41 := W_ t12 l5; refine L_ ha ?_; refine Zq (Zv (r_ rfl rfl) (Ze [(1, u1), (7, u0), (8, (ZI (p0.length : Int))), (9, ZI i3), (10, (.bool (decide (i3 < (p0.length : Int)))))] (nx (b_ ?_)))); refine H_ (congrArg (fun b => some (Value.bool b)) (decide_eq_false t12)) ?_; refine u_ ?_; refine m_ (m_ (R_ ?_)); refine p_ ?_; refine Zk [] ?_; intro a ha; exact ⟨o1, r41, ha, hB⟩
 ·rintro a w2 ⟨o1, rfl, ha, hB⟩; dsimp only at hF; refine ap_k ha ?_; refine Zn (Za rfl (Ze [(4, ZI 0)] (nx (j_ ?_)))); have e42 := Option.some.inj hF; subst e42; refine Zr Tryz.results107 [(ZI 0)] ?_; exact ⟨rfl, hB.keeps⟩
 ·rintro a w2 ⟨r', rfl, b43⟩; dsimp only at hF; have e44 := Option.some.inj hF; subst e44; exact b43
def bP_ : ((List Int) × Int) → Option (Lp ((List Int) × Int) ((List Int) × Int) (List Int)) := fun (s : (List Int) × Int) =>
  (
    if decide (s.2 > 0) then
      (ck (s.2 - 1)) >>= fun x46 =>
      (ix s.1 x46) >>= fun x47 =>
      (ix s.1 s.2) >>= fun x50 =>
      some (decide (x47 > x50))
    else
      some false) >>= fun q41 =>
  if q41 then
    (ix s.1 s.2) >>= fun x180 =>
    (ck (s.2 - 1)) >>= fun x186 =>
    (ix s.1 x186) >>= fun x187 =>
    (ix s.1 s.2) >>= fun x193 =>
    (st s.1 s.2 x187) >>= fun x202 =>
    (ck (s.2 - 1)) >>= fun x204 =>
    (ix x202 x204) >>= fun x205 =>
    (st x202 x204 x180) >>= fun x214 =>
    (ck (s.2 - 1)) >>= fun x216 =>
    some (.go (x214, x216))
  else
    some (.out (s.1, s.2))
def bN_ (fuel : Nat) : Int → (List Int) → Option (Lp (List Int) (List Int) (List Int)) := fun (i14 : Int) (s : List Int) =>
  (loopF (bP_) fuel (s, i14)) >>= fun q31 =>
  match q31 with
  | .inl (y26, y28) =>
    some (.go y26)
  | .inr _ => none
def cZ_ (fuel : Nat) (p0 : List Int) : Option (List Int) :=
  (dK_ p0) >>= fun x1 =>
  ck (x1.length : Int) >>= fun _ =>
  (forN (bN_ fuel) ((x1.length : Int)).toNat 0 x1) >>= fun q15 =>
  match q15 with
  | .inl y10 =>
    some y10
  | .inr _ => none

def lQ_ (oo : Tg) (t : Nat) (w : World) (r : List Int) : Ending → World → Prop := fun e w' => ∃ (v0 : Value) (o' : Tg), e = .returned (v0) ∧ Ow w.heap.size 3 t o' w' v0 r ∧ Keeps w w' ∧ ∀ b, b < w.heap.size → o' b = oo b
theorem gR_ (fuel : Nat) (w : World) (oo : Tg) (t : Nat) (ht : 2 ≤ t) (u0 : Value) (p0 : List Int) (g0 : RdL zt w u0 p0) (r : List Int) (hF : cZ_ fuel p0 = some r) :
    Calls Tryz.prog 121 #[u0] w (lQ_ oo t w r) := by
 unfold cZ_ at hF; have hB : Bs oo (col oo) w w := Bs.start _ _; refine h_ (n := 50) (vs := [u0]) Tryz.func121 rfl rfl ?_; generalize col oo = o at *; refine Zq (Za rfl (Ze [(0, u0)] (Zn (Zm rfl ?_)))); obtain ⟨x1, hx1, hF⟩ := bind_some hF; refine Zo ?_; refine n_ (gy_ w o 11 (by decide) _ p0 (g0.keep hB.keeps) x1 hx1) Tryz.call66 ⟨rfl, trivial⟩ ?_; rintro e8 w2 ⟨v3, o9, rfl, h4, k5, k6⟩; have s7 := k5.stp' 11 k6; replace h4 := h4.mono hB.keeps.size; refine ⟨_, rfl, ?_⟩; replace hB := hB.stp s7; refine Za rfl (Ze [(3, v3)] (nx (b_ (Zq (Zm rfl (Zv (bA_ rfl h4 Tryz.underlying41) (Zm rfl (Ze [(3, v3), (10, (ZI (x1.length : Int))), (11, ZI 0)] (nx ?_))))))))); obtain ⟨u17, h16, hF⟩ := bind_some hF; obtain ⟨-, h16a, h16b⟩ := cp_ h16; obtain ⟨q15, hq15, hF⟩ := bind_some hF; refine z_ (fun a w13 => ∃ (y10 : List Int) (o12 : Tg), q15 = .inl y10 ∧ Fr a 50 [(3, v3)] ∧ Bs oo o12 w w13 ∧ Ow w.heap.size 3 11 o12 w13 v3 y10) (fun _ _ => False) ?_ ?_ ?_
 ·refine d_ ?_; refine y_ (fun (K : Nat) a w13 => ∃ (i14 : Int) (y10 : List Int) (o12 : Tg), forN (bN_ fuel) ((x1.length : Int) - i14).toNat i14 y10 = some q15 ∧ ((x1.length : Int) - i14).toNat = K ∧ 0 ≤ i14 ∧ Fr a 50 [(3, v3), (10, (ZI (x1.length : Int))), (11, ZI i14)] ∧ Bs oo o12 w w13 ∧ Ow w.heap.size 3 11 o12 w13 v3 y10) _ (fun a ha => ⟨0, x1, o9, hq15, rfl, Int.le_refl 0, ha.sub (r := [(3, v3), (10, (ZI (x1.length : Int))), (11, ZI 0)]) ⟨rfl, rfl, rfl, trivial⟩, hB, h4⟩) ?_; rintro K21 a w13 ⟨i14, y10, o12, l18, m20, z19, ha, hB, h11⟩; by_cases t25 : i14 < (x1.length : Int)
  ·obtain ⟨q22, b23, n24⟩ := bF_ t25 l18; dsimp only [bN_] at b23; refine L_ ha ?_; refine Zq (Zv (r_ rfl rfl) (Ze [(3, v3), (10, (ZI (x1.length : Int))), (11, ZI i14), (12, (.bool (decide (i14 < (x1.length : Int)))))] (nx (b_ ?_)))); refine P_ (congrArg (fun b => some (Value.bool b)) (decide_eq_true t25)) ?_; refine f_ (nx (b_ (d_ (Zq (Zm rfl (Za rfl (Ze [(3, v3), (4, ZI i14), (10, (ZI (x1.length : Int))), (11, ZI i14)] (Zn (Zm rfl (Za rfl (Ze [(3, v3), (5, ZI i14), (10, (ZI (x1.length : Int))), (11, ZI i14)] (nx ?_)))))))))))); obtain ⟨q31, hq31, b23⟩ := bind_some b23; refine z_ (fun a w30 => ∃ (y26 : List Int) (y28 : Int) (o29 : Tg), q31 = .inl (y26, y28) ∧ Fr a 50 [(3, v3), (10, (ZI (x1.length : Int))), (11, ZI i14)] ∧ Bs oo o29 w w30 ∧ Ow w.heap.size 3 11 o29 w30 v3 y26) (fun _ _ => False) ?_ ?_ ?_
   ·refine d_ ?_; refine y_ (fun (K : Nat) a w30 => ∃ (y26 : List Int) (y28 : Int) (o29 : Tg), loopF (bP_) K (y26, y28) = some q31 ∧ Fr a 50 [(3, v3), (5, ZI y28), (10, (ZI (x1.length : Int))), (11, ZI i14)] ∧ Bs oo o29 w w30 ∧ Ow w.heap.size 3 11 o29 w30 v3 y26) fuel (fun a ha => ⟨y10, i14, o12, hq31, ha.sub (r := [(3, v3), (5, ZI i14), (10, (ZI (x1.length : Int))), (11, ZI i14)]) ⟨rfl, rfl, rfl, rfl, trivial⟩, hB, h11⟩) ?_; rintro K35 a w30 ⟨y26, y28, o29, l32, ha, hB, h27⟩; obtain ⟨K39, q36, e40, b37, n38⟩ := X_ l32; dsimp only [bP_] at b37; refine L_ ha ?_; refine b_ (b_ ?_); obtain ⟨q41, hq41, b37⟩ := bind_some b37; refine z_ (fun a44 w43 => ∃ o42 : Tg, Fr a44 50 [(3, v3), (5, ZI y28), (10, (ZI (x1.length : Int))), (11, ZI i14), (28, (.bool q41))] ∧ Bs oo o42 w w43 ∧ Ow w.heap.size 3 11 o42 w43 v3 y26) (fun _ _ => False) ?_ ?_ (fun _ _ h => h.elim)
    ·rcases Bool.eq_false_or_eq_true (decide (y28 > 0)) with t45 | t45
     ·rw [if_pos t45] at hq41; obtain ⟨x46, hx46, hq41⟩ := bind_some hq41; obtain ⟨x47, hx47, hq41⟩ := bind_some hq41; obtain ⟨x50, hx50, hq41⟩ := bind_some hq41; refine am_ (o := o29) [(3, v3), (5, ZI y28), (10, (ZI (x1.length : Int))), (11, ZI i14)] [3, 5, 10, 11] [15, 16, 17, 18, 19, 20, 21, 22, 23, 24, 25, 26] [[], [0], [1], [2], [2], [2, 4], [2, 3, 5], [2, 6], [2], [2], [2, 8, 9], [2, 10]] [none, none, none, none, none, none, none, none, none, none, none, none] [999, 999, 999, 999, 999, 999, 999, 999, 999, 999, 999, 999] [0, 0, 0, 0, 0, 0, 11, 0, 0, 0, 11, 0] [999] [fun v _ _ => v = (ZI y28), fun v _ _ => v = (.bool (decide (y28 > 0))), fun v _ _ => v = (.bool (decide (y28 > 0))), fun v _ _ => v = v3, fun v _ _ => v = (ZI y28), fun v _ _ => v = (ZI x46), fun v o w9 => ∃ vl, v = adr vl (x46.toNat * Rp.sz Int) ∧ Ow w.heap.size 3 11 o w9 vl y26, fun v _ _ => v = (ZI x47), fun v _ _ => v = v3, fun v _ _ => v = (ZI y28), fun v o w9 => ∃ vl, v = adr vl (y28.toNat * Rp.sz Int) ∧ Ow w.heap.size 3 11 o w9 vl y26, fun v _ _ => v = (ZI x50)] (fun o8 w8 => Bs oo o8 w w8 ∧ Ow w.heap.size 3 11 o8 w8 v3 y26) G_ (by kernel_rfl) rfl ⟨rfl, rfl, rfl, rfl, trivial⟩ ⟨hB, h27⟩ ?_ ⟨w_ _, w_ _, w_ _, w_ _, w_ _, w_ _, fun _ _ _ _ _ _ h0 hb ⟨vl, e, h⟩ hs => ⟨vl, e, h.stp hs h0.1 (Ne.symm hb)⟩, w_ _, w_ _, w_ _, fun _ _ _ _ _ _ h0 hb ⟨vl, e, h⟩ hs => ⟨vl, e, h.stp hs h0.1 (Ne.symm hb)⟩, w_ _, trivial⟩ ?_ ?_
      ·rintro t9 o1 w1 o2 w2 ht9 ⟨hB, h27⟩ hs9; have ht9 : t9 = 999 := by simpa using ht9
       subst ht9; all_goals exact ⟨hB.stp hs9 (by decide), h27.stp hs9 (by decide) (by decide)⟩
      ·refine ⟨?_, ?_, ?_, ?_, ?_, ?_, ?_, ?_, ?_, ?_, ?_, ?_, trivial⟩
       ·rintro o53 w54 a55 ha ⟨hB, h27⟩ -; refine Zs ha ?_; refine g_ (k_ rfl) ?_; exact Zx rfl
       ·rintro o56 w57 a58 ha ⟨hB, h27⟩ ⟨r59, -⟩; have ha := Fr.cons (d := 15) ha r59; refine Zs ha ?_; refine g_ (dB_ rfl rfl) ?_; exact Zx rfl
       ·rintro o60 w61 a62 ha ⟨hB, h27⟩ ⟨r63, -⟩; have ha := Fr.cons (d := 16) ha r63; refine Zs ha ?_; refine g_ (k_ rfl) ?_; exact Zx rfl
       ·rintro o64 w65 a66 ha ⟨hB, h27⟩ ⟨r67, -⟩; have ha := Fr.cons (d := 17) ha r67; refine gH_ ha (⟨_, rfl, (congrArg (fun b => some (Value.bool b)) t45)⟩) ?_; refine g_ (k_ rfl) ?_; exact Zx rfl
       ·rintro o68 w69 a70 ha ⟨hB, h27⟩ ⟨r71, -⟩; have ha := Fr.cons (d := 17) ha r71; refine gH_ ha (⟨_, rfl, (congrArg (fun b => some (Value.bool b)) t45)⟩) ?_; refine g_ (k_ rfl) ?_; exact Zx rfl
       ·rintro o72 w73 a74 ha ⟨hB, h27⟩ ⟨r75, r76, -⟩; have ha := Fr.cons (d := 17) ha r75; have ha := Fr.cons (d := 19) ha r76; refine gH_ ha (⟨_, rfl, (congrArg (fun b => some (Value.bool b)) t45)⟩) ?_; refine g_ (bD_ rfl rfl hx46) ?_; exact Zx rfl
       ·rintro o77 w78 a79 ha ⟨hB, h27⟩ ⟨r80, r81, r82, -⟩; have ha := Fr.cons (d := 17) ha r80; have ha := Fr.cons (d := 18) ha r81; have ha := Fr.cons (d := 20) ha r82; refine gH_ ha (⟨_, rfl, (congrArg (fun b => some (Value.bool b)) t45)⟩) ?_; refine fT_ h27 hx47 rfl rfl Tryz.underlying41 Tryz.sizeOf3 ?_; exact ⟨_, Stp.refl _ _ _, ⟨_, rfl, h27⟩⟩
       ·rintro o83 w84 a85 ha ⟨hB, h27⟩ ⟨r86, r87, -⟩; have ha := Fr.cons (d := 17) ha r86; obtain ⟨v88, e89, h90⟩ := r87; have ha := Fr.cons (d := 21) ha e89; refine gH_ ha (⟨_, rfl, (congrArg (fun b => some (Value.bool b)) t45)⟩) ?_; refine ey_ h90 hx47 rfl rfl Tryz.isAgg3 ?_; intro c91 h92; cases h92
        exact Zx rfl
       ·rintro o93 w94 a95 ha ⟨hB, h27⟩ ⟨r96, -⟩; have ha := Fr.cons (d := 17) ha r96; refine gH_ ha (⟨_, rfl, (congrArg (fun b => some (Value.bool b)) t45)⟩) ?_; refine g_ (k_ rfl) ?_; exact Zx rfl
       ·rintro o97 w98 a99 ha ⟨hB, h27⟩ ⟨r100, -⟩; have ha := Fr.cons (d := 17) ha r100; refine gH_ ha (⟨_, rfl, (congrArg (fun b => some (Value.bool b)) t45)⟩) ?_; refine g_ (k_ rfl) ?_; exact Zx rfl
       ·rintro o101 w102 a103 ha ⟨hB, h27⟩ ⟨r104, r105, r106, -⟩; have ha := Fr.cons (d := 17) ha r104; have ha := Fr.cons (d := 23) ha r105; have ha := Fr.cons (d := 24) ha r106; refine gH_ ha (⟨_, rfl, (congrArg (fun b => some (Value.bool b)) t45)⟩) ?_; refine fT_ h27 hx50 rfl rfl Tryz.underlying41 Tryz.sizeOf3 ?_; exact ⟨_, Stp.refl _ _ _, ⟨_, rfl, h27⟩⟩
       ·rintro o107 w108 a109 ha ⟨hB, h27⟩ ⟨r110, r111, -⟩; have ha := Fr.cons (d := 17) ha r110; obtain ⟨v112, e113, h114⟩ := r111; have ha := Fr.cons (d := 25) ha e113; refine gH_ ha (⟨_, rfl, (congrArg (fun b => some (Value.bool b)) t45)⟩) ?_; refine ey_ h114 hx50 rfl rfl Tryz.isAgg3 ?_; intro c115 h116; cases h116
        exact Zx rfl
      rintro o117 w118 a119 ha ⟨hB, h27⟩ ⟨-, -, r120, -, -, -, -, r121, -, -, -, r122, -⟩; have ha := Fr.cons (d := 17) ha r120; have ha := Fr.cons (d := 22) ha r121; have ha := Fr.cons (d := 26) ha r122; refine bf_ ha ?_; simp only [List.length_cons, List.length_nil, Nat.zero_add, Nat.reduceAdd, List.drop_succ_cons, List.drop_zero]; refine o_ (dB_ rfl rfl) (by decide) ⟨_, rfl, (congrArg (fun b => some (Value.bool b)) t45)⟩ (Zv (O_ (congrArg (fun b => some (Value.bool b)) t45) rfl) ?_); have e123 := Option.some.inj hq41; subst e123; refine Ze [(3, v3), (5, ZI y28), (10, (ZI (x1.length : Int))), (11, ZI i14), (28, (.bool (decide (x47 > x50))))] ?_; refine p_ (fun a ha => ⟨o117, ha, hB, h27⟩)
     ·rw [if_neg (by rw [t45]; decide)] at hq41; refine am_ (o := o29) [(3, v3), (5, ZI y28), (10, (ZI (x1.length : Int))), (11, ZI i14)] [3, 5, 10, 11] [15, 16, 17, 18, 19, 20, 21, 22, 23, 24, 25, 26] [[], [0], [1], [2], [2], [2], [2], [2], [2], [2], [2], [2]] [none, none, none, none, none, none, none, none, none, none, none, none] [999, 999, 999, 999, 999, 999, 999, 999, 999, 999, 999, 999] [0, 0, 0, 0, 0, 0, 0, 0, 0, 0, 0, 0] [999] [fun v _ _ => v = (ZI y28), fun v _ _ => v = (.bool (decide (y28 > 0))), fun v _ _ => v = (.bool (decide (y28 > 0))), fun v _ _ => v = undef, fun v _ _ => v = undef, fun v _ _ => v = undef, fun v _ _ => v = undef, fun v _ _ => v = undef, fun v _ _ => v = undef, fun v _ _ => v = undef, fun v _ _ => v = undef, fun v _ _ => v = undef] (fun o8 w8 => Bs oo o8 w w8 ∧ Ow w.heap.size 3 11 o8 w8 v3 y26) G_ (by kernel_rfl) rfl ⟨rfl, rfl, rfl, rfl, trivial⟩ ⟨hB, h27⟩ ?_ ⟨w_ _, w_ _, w_ _, w_ _, w_ _, w_ _, w_ _, w_ _, w_ _, w_ _, w_ _, w_ _, trivial⟩ ?_ ?_
      ·rintro t9 o1 w1 o2 w2 ht9 ⟨hB, h27⟩ hs9; have ht9 : t9 = 999 := by simpa using ht9
       subst ht9; all_goals exact ⟨hB.stp hs9 (by decide), h27.stp hs9 (by decide) (by decide)⟩
      ·refine ⟨?_, ?_, ?_, ?_, ?_, ?_, ?_, ?_, ?_, ?_, ?_, ?_, trivial⟩
       ·rintro o124 w125 a126 ha ⟨hB, h27⟩ -; refine Zs ha ?_; refine g_ (k_ rfl) ?_; exact Zx rfl
       ·rintro o127 w128 a129 ha ⟨hB, h27⟩ ⟨r130, -⟩; have ha := Fr.cons (d := 15) ha r130; refine Zs ha ?_; refine g_ (dB_ rfl rfl) ?_; exact Zx rfl
       ·rintro o131 w132 a133 ha ⟨hB, h27⟩ ⟨r134, -⟩; have ha := Fr.cons (d := 16) ha r134; refine Zs ha ?_; refine g_ (k_ rfl) ?_; exact Zx rfl
       ·rintro o135 w136 a137 ha ⟨hB, h27⟩ ⟨r138, -⟩; have ha := Fr.cons (d := 17) ha r138; exact hj_ ha rfl rfl rfl (by rw [t45]; rfl) ⟨_, Stp.refl _ _ _, rfl⟩
       ·rintro o139 w140 a141 ha ⟨hB, h27⟩ ⟨r142, -⟩; have ha := Fr.cons (d := 17) ha r142; exact hj_ ha rfl rfl rfl (by rw [t45]; rfl) ⟨_, Stp.refl _ _ _, rfl⟩
       ·rintro o143 w144 a145 ha ⟨hB, h27⟩ ⟨r146, -⟩; have ha := Fr.cons (d := 17) ha r146; exact hj_ ha rfl rfl rfl (by rw [t45]; rfl) ⟨_, Stp.refl _ _ _, rfl⟩
       ·rintro o147 w148 a149 ha ⟨hB, h27⟩ ⟨r150, -⟩; have ha := Fr.cons (d := 17) ha r150; exact hj_ ha rfl rfl rfl (by rw [t45]; rfl) ⟨_, Stp.refl _ _ _, rfl⟩
       ·rintro o151 w152 a153 ha ⟨hB, h27⟩ ⟨r154, -⟩; have ha := Fr.cons (d := 17) ha r154; exact hj_ ha rfl rfl rfl (by rw [t45]; rfl) ⟨_, Stp.refl _ _ _, rfl⟩
       ·rintro o155 w156 a157 ha ⟨hB, h27⟩ ⟨r158, -⟩; have ha := Fr.cons (d := 17) ha r158; exact hj_ ha rfl rfl rfl (by rw [t45]; rfl) ⟨_, Stp.refl _ _ _, rfl⟩
       ·rintro o159 w160 a161 ha ⟨hB, h27⟩ ⟨r162, -⟩; have ha := Fr.cons (d := 17) ha r162; exact hj_ ha rfl rfl rfl (by rw [t45]; rfl) ⟨_, Stp.refl _ _ _, rfl⟩
       ·rintro o163 w164 a165 ha ⟨hB, h27⟩ ⟨r166, -⟩; have ha := Fr.cons (d := 17) ha r166; exact hj_ ha rfl rfl rfl (by rw [t45]; rfl) ⟨_, Stp.refl _ _ _, rfl⟩
       ·rintro o167 w168 a169 ha ⟨hB, h27⟩ ⟨r170, -⟩; have ha := Fr.cons (d := 17) ha r170; exact hj_ ha rfl rfl rfl (by rw [t45]; rfl) ⟨_, Stp.refl _ _ _, rfl⟩
      rintro o171 w172 a173 ha ⟨hB, h27⟩ ⟨-, -, r174, -, -, -, -, r175, -, -, -, r176, -⟩; have ha := Fr.cons (d := 17) ha r174; have ha := Fr.cons (d := 22) ha r175; have ha := Fr.cons (d := 26) ha r176; refine bf_ ha ?_; simp only [List.length_cons, List.length_nil, Nat.zero_add, Nat.reduceAdd, List.drop_succ_cons, List.drop_zero]; refine s_ rfl rfl (by rw [t45]; rfl) (by decide) ?_; refine Zv (J_ (congrArg (fun b => some (Value.bool b)) t45) rfl) ?_; have e177 := Option.some.inj hq41; subst e177; refine Ze [(3, v3), (5, ZI y28), (10, (ZI (x1.length : Int))), (11, ZI i14), (28, (.bool false))] ?_; refine p_ (fun a ha => ⟨o171, ha, hB, h27⟩)
    rintro a178 w43 ⟨o42, ha, hB, h27⟩; refine ap_k ha ?_; refine nx ?_; refine l_ rfl (fun t179 => ?_) (fun t179 => ?_)
    ·rw [if_pos t179] at b37; refine f_ (nx (b_ (d_ (Zq (Zm rfl (Zm rfl ?_)))))); obtain ⟨x180, hx180, b37⟩ := bind_some b37; refine Zo ?_; refine fo_ h27 hx180 rfl rfl Tryz.underlying41 Tryz.sizeOf3 ?_; intro b181 f182 c183 h184 h185; cases h185
     refine Zv (e_ rfl Tryz.isAgg3 (i_ h184)) (Za rfl (Ze [(3, v3), (5, ZI y28), (6, ZI x180), (10, (ZI (x1.length : Int))), (11, ZI i14)] (Zn (Zm rfl (Zm rfl (Zm rfl (Zm rfl ?_))))))); obtain ⟨x186, hx186, b37⟩ := bind_some b37; refine Zv (bD_ rfl rfl hx186) ?_; obtain ⟨x187, hx187, b37⟩ := bind_some b37; refine Zo ?_; refine fo_ h27 hx187 rfl rfl Tryz.underlying41 Tryz.sizeOf3 ?_; intro b188 f189 c190 h191 h192; cases h192
     refine Zv (e_ rfl Tryz.isAgg3 (i_ h191)) ?_; obtain ⟨x193, hx193, b37⟩ := bind_some b37; refine Zo ?_; refine ge_ h27 hx193 rfl rfl Tryz.underlying41 Tryz.sizeOf3 ?_; intro b194 c196 h199 h197 h198; cases h198
     obtain ⟨x202, hx202, b37⟩ := bind_some b37; refine ak_ trivial ?_; refine cG_ h27 h199 hx202 rfl (by decide) rfl rfl rfl Tryz.sizeOf3 rfl ?_; intro w200 h203 s201; replace hB := hB.stp s201; refine Ze [(3, v3), (5, ZI y28), (6, ZI x180), (10, (ZI (x1.length : Int))), (11, ZI i14)] (nx (c_ (Zm rfl (Zm rfl ?_)))); obtain ⟨x204, hx204, b37⟩ := bind_some b37; refine Zv (bD_ rfl rfl hx204) (Zm rfl ?_); obtain ⟨x205, hx205, b37⟩ := bind_some b37; refine Zo ?_; refine ge_ h203 hx205 rfl rfl Tryz.underlying41 Tryz.sizeOf3 ?_; intro b206 c208 h211 h209 h210; cases h210
     obtain ⟨x214, hx214, b37⟩ := bind_some b37; refine ak_ trivial ?_; refine cG_ h203 h211 hx214 rfl (by decide) rfl rfl rfl Tryz.sizeOf3 rfl ?_; intro w212 h215 s213; replace hB := hB.stp s213; refine Ze [(3, v3), (5, ZI y28), (10, (ZI (x1.length : Int))), (11, ZI i14)] (x_ (nx (c_ (Zm rfl ?_)))); obtain ⟨x216, hx216, b37⟩ := bind_some b37; refine Zv (bD_ rfl rfl hx216) (Za rfl (Ze [(3, v3), (5, ZI x216), (10, (ZI (x1.length : Int))), (11, ZI i14)] (v_ ?_))); have e217 := Option.some.inj b37; subst e217; refine Zk [(3, v3), (5, ZI x216), (10, (ZI (x1.length : Int))), (11, ZI i14)] ?_; intro a ha; exact ⟨K39, by omega, x214, x216, o42, n38, ha, hB, h215⟩
    ·rw [if_neg (by rw [t179]; decide)] at b37; refine u_ ?_; refine m_ (m_ (R_ ?_)); refine p_ ?_; have e218 := Option.some.inj b37; subst e218; refine Zk [(3, v3), (10, (ZI (x1.length : Int))), (11, ZI i14)] ?_; intro a ha; exact ⟨y26, y28, o42, n38, ha, hB, h27⟩
   ·rintro a w30 ⟨y26, y28, o29, rfl, ha, hB, h27⟩; dsimp only at b23; refine ap_k ha ?_; refine x_ (nx (c_ (Zv (B_ rfl rfl (C_ (by omega) (by omega))) (Zm rfl (Ze [(3, v3), (10, (ZI (x1.length : Int))), (11, (ZI (i14 + 1)))] (v_ ?_)))))); have e219 := Option.some.inj b23; subst e219; refine Zk [(3, v3), (10, (ZI (x1.length : Int))), (11, (ZI (i14 + 1)))] ?_; intro a ha; exact ⟨_, (by rw [← m20]; omega), i14 + 1, y26, o29, n24, rfl, (by omega), ha, hB, h27⟩
   ·exact fun _ _ h => h.elim
  ·have r220 := bJ_ t25 l18; refine L_ ha ?_; refine Zq (Zv (r_ rfl rfl) (Ze [(3, v3), (10, (ZI (x1.length : Int))), (11, ZI i14), (12, (.bool (decide (i14 < (x1.length : Int)))))] (nx (b_ ?_)))); refine H_ (congrArg (fun b => some (Value.bool b)) (decide_eq_false t25)) ?_; refine u_ ?_; refine m_ (m_ (R_ ?_)); refine p_ ?_; refine Zk [(3, v3)] ?_; intro a ha; exact ⟨y10, o12, r220, ha, hB, h11⟩
 ·rintro a w13 ⟨y10, o12, rfl, ha, hB, h11⟩; dsimp only at hF; refine ap_k ha ?_; refine Zn (Zm rfl (Za rfl (Ze [(2, v3)] (nx (j_ ?_))))); have e221 := Option.some.inj hF; subst e221; refine Zr Tryz.results121 [v3] ?_; exact ⟨_, rt oo o12 w.heap.size 11 t, rfl, h11.rt hB (by decide) t, hB.keeps, an_ _ _ _ _ _⟩
 ·exact fun _ _ h => h.elim
def cV_ (p0 : Int) (p1 : Int) (p2 : Int) : Option Bool :=
  (
    if decide (p1 ≤ p0) then
      some (decide (p0 ≤ p2))
    else
      some false) >>= fun q1 =>
  some q1

def pm_ (w : World) (r : Bool) : Ending → World → Prop := fun e w' => e = .returned (.bool r) ∧ Keeps w w'
theorem fj_ (w : World) (p0 : Int) (p1 : Int) (p2 : Int) (r : Bool) (hF : cV_ p0 p1 p2 = some r) :
    Calls Tryz.prog 62 #[.int .i64 p0, .int .i64 p1, .int .i64 p2] w (pm_ w r) := by
 unfold cV_ at hF; have hB : Bs (fun _ => 1) (col (fun _ => 1)) w w := Bs.start _ _; refine h_ (n := 15) (vs := [(ZI p0), (ZI p1), (ZI p2)]) Tryz.func62 rfl rfl ?_; refine Zq (Za rfl (Ze [(0, ZI p0), (1, ZI p1), (2, ZI p2)] (Zn (Zm rfl (Zm rfl (Zv (lB_ rfl rfl) (Zm rfl ?_))))))); obtain ⟨q1, hq1, hF⟩ := bind_some hF; refine az_ 4 (fun a3 w2 => Fr a3 15 [(14, (.bool q1))] ∧ Keeps w w2) ?_ ?_; all_goals simp only [List.take_succ_cons, List.take_zero, List.drop_succ_cons, List.drop_zero]
 ·have kp : Keeps w w := Keeps.refl _; rcases Bool.eq_false_or_eq_true (decide (p1 ≤ p0)) with t4 | t4
  ·rw [if_pos t4] at hq1; refine o_ (k_ rfl) (by decide) ⟨_, rfl, (congrArg (fun b => some (Value.bool b)) t4)⟩ (o_ (k_ rfl) (by decide) ⟨_, rfl, (congrArg (fun b => some (Value.bool b)) t4)⟩ (o_ (lB_ rfl rfl) (by decide) ⟨_, rfl, (congrArg (fun b => some (Value.bool b)) t4)⟩ (Zv (O_ (congrArg (fun b => some (Value.bool b)) t4) rfl) ?_))); have hq12 := Option.some.inj hq1; refine Ze [(14, (.bool (decide (p0 ≤ p2))))] ?_; subst hq12; refine p_ (fun a ha => ⟨ha, kp⟩)
  ·rw [if_neg (by rw [t4]; decide)] at hq1; refine s_ rfl rfl (by rw [t4]; rfl) (by decide) ?_; refine s_ rfl rfl (by rw [t4]; rfl) (by decide) ?_; refine s_ rfl rfl (by rw [t4]; rfl) (by decide) ?_; refine Zv (J_ (congrArg (fun b => some (Value.bool b)) t4) rfl) ?_; have hq12 := Option.some.inj hq1; refine Ze [(14, (.bool false))] ?_; subst hq12; refine p_ (fun a ha => ⟨ha, kp⟩)
 rintro a7 w2 ⟨ha, k5⟩; have s6 := k5.stp 999 (col (fun _ => 1)); replace hB := hB.stp s6; refine bf_ ha ?_; refine Za rfl (Ze [(6, (.bool q1))] (nx (j_ ?_))); have e8 := Option.some.inj hF; subst e8; refine Zr Tryz.results62 [(.bool q1)] ?_; exact ⟨rfl, hB.keeps⟩
def bt_ (p0 : Int) : ((List Int) × Int) → Option (Lp ((List Int) × Int) ((List Int) × Int) (List Int)) := fun (s : (List Int) × Int) =>
  (shr p0 s.2) >>= fun x18 =>
  if x18 != 0 then
    (shr p0 s.2) >>= fun x20 =>
    if (band x20 1) == 1 then
      (push s.1 s.2) >>= fun x28 =>
      (ck (s.2 + 1)) >>= fun x34 =>
      some (.go (x28, x34))
    else
      (ck (s.2 + 1)) >>= fun x36 =>
      some (.go (s.1, x36))
  else
    some (.out (s.1, s.2))
def da_ (fuel : Nat) (p0 : Int) : Option (List Int) :=
  (loopF (bt_ p0) fuel ([], 0)) >>= fun q8 =>
  match q8 with
  | .inl (y2, y5) =>
    some y2
  | .inr _ => none

def ma_ (oo : Tg) (t : Nat) (w : World) (r : List Int) : Ending → World → Prop := fun e w' => ∃ (v0 : Value) (o' : Tg), e = .returned (v0) ∧ Ow w.heap.size 3 t o' w' v0 r ∧ Keeps w w' ∧ ∀ b, b < w.heap.size → o' b = oo b
theorem iw_ (fuel : Nat) (w : World) (oo : Tg) (t : Nat) (ht : 2 ≤ t) (p0 : Int) (r : List Int) (hF : da_ fuel p0 = some r) :
    Calls Tryz.prog 139 #[.int .i64 p0] w (ma_ oo t w r) := by
 unfold da_ at hF; have hB : Bs oo (col oo) w w := Bs.start _ _; refine h_ (n := 21) (vs := [(ZI p0)]) Tryz.func139 rfl rfl ?_; generalize col oo = o at *; refine Zq (Za rfl (Ze [(0, ZI p0)] (Zn (Za rfl (Ze [(0, ZI p0), (3, (.slice none 0 0))] (nx (b_ (Zq (Za rfl (Ze [(0, ZI p0), (3, (.slice none 0 0)), (4, ZI 0)] (nx ?_))))))))))); have h1 : Ow w.heap.size 3 11 o w (.slice none 0 0) ([] : List Int) := Ow.nil _ _ _ _ _; obtain ⟨q8, hq8, hF⟩ := bind_some hF; refine z_ (fun a w7 => ∃ (y2 : List Int) (y5 : Int) (v3 : Value) (o6 : Tg), q8 = .inl (y2, y5) ∧ Fr a 21 [(3, v3)] ∧ Bs oo o6 w w7 ∧ Ow w.heap.size 3 11 o6 w7 v3 y2) (fun _ _ => False) ?_ ?_ ?_
 ·refine d_ ?_; refine y_ (fun (K : Nat) a w7 => ∃ (y2 : List Int) (y5 : Int) (v3 : Value) (o6 : Tg), loopF (bt_ p0) K (y2, y5) = some q8 ∧ Fr a 21 [(0, ZI p0), (3, v3), (4, ZI y5)] ∧ Bs oo o6 w w7 ∧ Ow w.heap.size 3 11 o6 w7 v3 y2) fuel (fun a ha => ⟨[], 0, (.slice none 0 0), o, hq8, ha.sub (r := [(0, ZI p0), (3, (.slice none 0 0)), (4, ZI 0)]) ⟨rfl, rfl, rfl, trivial⟩, hB, h1⟩) ?_; rintro K12 a w7 ⟨y2, y5, v3, o6, l9, ha, hB, h4⟩; obtain ⟨K16, q13, e17, b14, n15⟩ := X_ l9; dsimp only [bt_] at b14; refine L_ ha ?_; refine b_ (Zq (Zm rfl (Zm rfl ?_))); obtain ⟨x18, hx18, b14⟩ := bind_some b14; refine Zv (nx_ rfl rfl hx18) (Zv (cE_ rfl rfl) (Ze [(0, ZI p0), (3, v3), (4, ZI y5), (8, (.bool (x18 != 0)))] (nx ?_))); refine l_ rfl (fun t19 => ?_) (fun t19 => ?_)
  ·rw [if_pos t19] at b14; refine f_ (nx (b_ (d_ (Zq (Zm rfl (Zm rfl ?_)))))); obtain ⟨x20, hx20, b14⟩ := bind_some b14; refine Zv (nx_ rfl rfl hx20) (Zv (mX_ rfl rfl) (Zv (ds_ rfl rfl) (Ze [(0, ZI p0), (3, v3), (4, ZI y5), (15, (.bool ((band x20 1) == 1)))] (nx ?_)))); refine l_ rfl (fun t21 => ?_) (fun t21 => ?_)
   ·rw [if_pos t21] at b14; refine c_ (Zm rfl (Zm rfl (Zo ?_))); refine aH_ (o := o6) (cs := [(ZI y5)]) (xs := ([y5] : List Int)) (vs := [(0, ZI y5)]) ⟨_, _, rfl, rfl, rfl⟩ rfl ⟨rfl, rfl, trivial⟩ Tryz.underlying41 Tryz.sizeOf3 Tryz.zeroValue3 (by decide) (fill1 rfl) (by simp) ?_; intro o22 w23 v24 h25 s26 k27; replace h4 := h4.stp s26; replace hB := hB.stp s26; obtain ⟨x28, hx28, b14⟩ := bind_some b14; refine Zo ?_; refine bi_ h4 h25 (ax_ hx28) (by decide) hB.keeps.size rfl rfl Tryz.underlying41 cO_ rfl (by decide) ?_; intro o29 w30 v31 h32 s33; replace h25 := h25.stp s33; replace hB := hB.stp s33; refine Za rfl (Ze [(0, ZI p0), (3, v31), (4, ZI y5)] (x_ (nx (c_ (Zm rfl ?_))))); obtain ⟨x34, hx34, b14⟩ := bind_some b14; refine Zv (B_ rfl rfl hx34) (Za rfl (Ze [(0, ZI p0), (3, v31), (4, ZI x34)] (v_ ?_))); have e35 := Option.some.inj b14; subst e35; refine Zk [(0, ZI p0), (3, v31), (4, ZI x34)] ?_; intro a ha; exact ⟨K16, by omega, x28, x34, v31, o29, n15, ha, hB, h32⟩
   ·rw [if_neg (by rw [t21]; decide)] at b14; refine f_ (x_ (nx (c_ (Zm rfl ?_)))); obtain ⟨x36, hx36, b14⟩ := bind_some b14; refine Zv (B_ rfl rfl hx36) (Za rfl (Ze [(0, ZI p0), (3, v3), (4, ZI x36)] (v_ ?_))); have e37 := Option.some.inj b14; subst e37; refine Zk [(0, ZI p0), (3, v3), (4, ZI x36)] ?_; intro a ha; exact ⟨K16, by omega, y2, x36, v3, o6, n15, ha, hB, h4⟩
  ·rw [if_neg (by rw [t19]; decide)] at b14; refine u_ ?_; refine m_ (m_ (R_ ?_)); refine p_ ?_; have e38 := Option.some.inj b14; subst e38; refine Zk [(3, v3)] ?_; intro a ha; exact ⟨y2, y5, v3, o6, n15, ha, hB, h4⟩
 ·rintro a w7 ⟨y2, y5, v3, o6, rfl, ha, hB, h4⟩; dsimp only at hF; refine ap_k ha ?_; refine Zn (Zm rfl (Za rfl (Ze [(2, v3)] (nx (j_ ?_))))); have e39 := Option.some.inj hF; subst e39; refine Zr Tryz.results139 [v3] ?_; exact ⟨_, rt oo o6 w.heap.size 11 t, rfl, h4.rt hB (by decide) t, hB.keeps, an_ _ _ _ _ _⟩
 ·exact fun _ _ h => h.elim
def aG_ (p0 : Int) : Option Bool :=
  some (p0 != p0)

def ej_ (w : World) (r : Bool) : Ending → World → Prop := fun e w' => e = .returned (.bool r) ∧ Keeps w w'
theorem bo_ (w : World) (p0 : Int) (r : Bool) (hF : aG_ p0 = some r) :
    Calls Tryz.prog 171 #[.int .i64 p0] w (ej_ w r) := by
 unfold aG_ at hF; have hB : Bs (fun _ => 1) (col (fun _ => 1)) w w := Bs.start _ _; refine h_ (n := 6) (vs := [(ZI p0)]) Tryz.func171 rfl rfl ?_; refine Zq (Za rfl (Ze [(0, ZI p0)] (Zn (Zm rfl (Zm rfl (Zv (cE_ rfl rfl) (Za rfl (Ze [(2, (.bool (p0 != p0)))] (nx (j_ ?_)))))))))); have e1 := Option.some.inj hF; subst e1; refine Zr Tryz.results171 [(.bool (p0 != p0))] ?_; exact ⟨rfl, hB.keeps⟩
def aZ_ (p0 : Int) (p1 : Int) : Option Int :=
  (aG_ p0) >>= fun x1 =>
  (aG_ p1) >>= fun x7 =>
  if x1 then
    if x7 then
      some 0
    else
      some (-1)
  else
    if x7 then
      some 1
    else
      if decide (p0 < p1) then
        some (-1)
      else
        if decide (p0 > p1) then
          some 1
        else
          some 0

def dy_ (w : World) (r : Int) : Ending → World → Prop := fun e w' => e = .returned (.int .i64 r) ∧ Keeps w w'
theorem du_ (w : World) (p0 : Int) (p1 : Int) (r : Int) (hF : aZ_ p0 p1 = some r) :
    Calls Tryz.prog 138 #[.int .i64 p0, .int .i64 p1] w (dy_ w r) := by
 unfold aZ_ at hF; have hB : Bs (fun _ => 1) (col (fun _ => 1)) w w := Bs.start _ _; refine h_ (n := 20) (vs := [(ZI p0), (ZI p1)]) Tryz.func138 rfl rfl ?_; refine Zq (Za rfl (Ze [(0, ZI p0), (1, ZI p1)] (Zn (Zm rfl ?_)))); obtain ⟨x1, hx1, hF⟩ := bind_some hF; refine Zo ?_; refine n_ (bo_ w p0 x1 hx1) Tryz.call171 ⟨rfl, trivial⟩ ?_; rintro e6 w2 ⟨rfl, k3⟩; have s5 := k3.stp 999 (col (fun _ => 1)); refine ⟨_, rfl, ?_⟩; replace hB := hB.stp s5; refine Za rfl (Ze [(0, ZI p0), (1, ZI p1), (5, (.bool x1))] (Zn (Zm rfl ?_))); obtain ⟨x7, hx7, hF⟩ := bind_some hF; refine Zo ?_; refine n_ (bo_ w2 p1 x7 hx7) Tryz.call171 ⟨rfl, trivial⟩ ?_; rintro e12 w8 ⟨rfl, k9⟩; have s11 := k9.stp 999 (col (fun _ => 1)); refine ⟨_, rfl, ?_⟩; replace hB := hB.stp s11; refine Za rfl (Ze [(0, ZI p0), (1, ZI p1), (5, (.bool x1)), (6, (.bool x7))] (nx (b_ (Zq (Zm rfl (Ze [(0, ZI p0), (1, ZI p1), (6, (.bool x7)), (11, (.bool x1))] (nx ?_))))))); refine l_ rfl (fun t13 => ?_) (fun t13 => ?_)
 ·rw [if_pos t13] at hF; refine b_ (Zq (Zm rfl (Ze [(12, (.bool x7))] (nx ?_)))); refine l_ rfl (fun t14 => ?_) (fun t14 => ?_)
  ·rw [if_pos t14] at hF; refine Zq (Za rfl (Ze [(4, ZI 0)] (nx (j_ (A_ (A_ ?_)))))); have e15 := Option.some.inj hF; subst e15; refine Zr Tryz.results138 [(ZI 0)] ?_; exact ⟨rfl, hB.keeps⟩
  ·rw [if_neg (by rw [t14]; decide)] at hF; refine f_ (Zn (Za rfl (Ze [(4, (ZI (-1)))] (nx (j_ (A_ ?_)))))); have e16 := Option.some.inj hF; subst e16; refine Zr Tryz.results138 [(ZI (-1))] ?_; exact ⟨rfl, hB.keeps⟩
 ·rw [if_neg (by rw [t13]; decide)] at hF; refine f_ (nx (b_ (Zq (Zm rfl (Ze [(0, ZI p0), (1, ZI p1), (13, (.bool x7))] (nx ?_)))))); refine l_ rfl (fun t17 => ?_) (fun t17 => ?_)
  ·rw [if_pos t17] at hF; refine Zq (Za rfl (Ze [(4, ZI 1)] (nx (j_ (A_ ?_))))); have e18 := Option.some.inj hF; subst e18; refine Zr Tryz.results138 [(ZI 1)] ?_; exact ⟨rfl, hB.keeps⟩
  ·rw [if_neg (by rw [t17]; decide)] at hF; refine f_ (nx (b_ (Zq (Zm rfl (Zm rfl (Zv (r_ rfl rfl) (Ze [(0, ZI p0), (1, ZI p1), (16, (.bool (decide (p0 < p1))))] (nx ?_)))))))); refine l_ rfl (fun t19 => ?_) (fun t19 => ?_)
   ·rw [if_pos t19] at hF; refine Zq (Za rfl (Ze [(4, (ZI (-1)))] (nx (j_ (A_ ?_))))); have e20 := Option.some.inj hF; subst e20; refine Zr Tryz.results138 [(ZI (-1))] ?_; exact ⟨rfl, hB.keeps⟩
   ·rw [if_neg (by rw [t19]; decide)] at hF; refine f_ (nx (b_ (Zq (Zm rfl (Zm rfl (Zv (dB_ rfl rfl) (Ze [(19, (.bool (decide (p0 > p1))))] (nx ?_)))))))); refine l_ rfl (fun t21 => ?_) (fun t21 => ?_)
    ·rw [if_pos t21] at hF; refine Zq (Za rfl (Ze [(4, ZI 1)] (nx (j_ (A_ ?_))))); have e22 := Option.some.inj hF; subst e22; refine Zr Tryz.results138 [(ZI 1)] ?_; exact ⟨rfl, hB.keeps⟩
    ·rw [if_neg (by rw [t21]; decide)] at hF; refine f_ (Zn (Za rfl (Ze [(4, ZI 0)] (nx (j_ ?_))))); have e23 := Option.some.inj hF; subst e23; refine Zr Tryz.results138 [(ZI 0)] ?_; exact ⟨rfl, hB.keeps⟩
def cd_ (p0 : Int) (p1 : Int) : Option Bool :=
  (aG_ p0) >>= fun x1 =>
  (
    if x1 then
      (aG_ p1) >>= fun x11 =>
      if !x11 then
        some true
      else
        some (decide (p0 < p1))
    else
      some (decide (p0 < p1))) >>= fun q7 =>
  some q7

def iz_ (w : World) (r : Bool) : Ending → World → Prop := fun e w' => e = .returned (.bool r) ∧ Keeps w w'
theorem go_ (w : World) (p0 : Int) (p1 : Int) (r : Bool) (hF : cd_ p0 p1 = some r) :
    Calls Tryz.prog 135 #[.int .i64 p0, .int .i64 p1] w (iz_ w r) := by
 unfold cd_ at hF; have hB : Bs (fun _ => 1) (col (fun _ => 1)) w w := Bs.start _ _; refine h_ (n := 17) (vs := [(ZI p0), (ZI p1)]) Tryz.func135 rfl rfl ?_; refine Zq (Za rfl (Ze [(0, ZI p0), (1, ZI p1)] (Zn (Zm rfl ?_)))); obtain ⟨x1, hx1, hF⟩ := bind_some hF; refine Zo ?_; refine n_ (bo_ w p0 x1 hx1) Tryz.call171 ⟨rfl, trivial⟩ ?_; rintro e6 w2 ⟨rfl, k3⟩; have s5 := k3.stp 999 (col (fun _ => 1)); refine ⟨_, rfl, ?_⟩; replace hB := hB.stp s5; refine Zm rfl ?_; obtain ⟨q7, hq7, hF⟩ := bind_some hF; refine az_ 9 (fun a9 w8 => Fr a9 17 [(16, (.bool q7))] ∧ Keeps w2 w8) ?_ ?_; all_goals simp only [List.take_succ_cons, List.take_zero, List.drop_succ_cons, List.drop_zero]
 ·have kp : Keeps w2 w2 := Keeps.refl _; rcases Bool.eq_false_or_eq_true (x1) with t10 | t10
  ·rw [if_pos t10] at hq7; refine o_ (k_ rfl) (by decide) ⟨_, rfl, (congrArg (fun b => some (Value.bool b)) t10)⟩ ?_; obtain ⟨x11, hx11, hq7⟩ := bind_some hq7; refine ch_ (by decide) ⟨_, rfl, (congrArg (fun b => some (Value.bool b)) t10)⟩ ?_; refine n_ (bo_ w2 p1 x11 hx11) Tryz.call171 ⟨rfl, trivial⟩ ?_; rintro e16 w12 ⟨rfl, k13⟩; have s15 := k13.stp 999 (col (fun _ => 1)); refine ⟨_, rfl, ?_⟩; replace hB := hB.stp s15; replace kp := Keeps.trans kp k13; refine o_ (bg_ rfl) (by decide) ⟨_, rfl, (congrArg (fun b => some (Value.bool b)) t10)⟩ (Zv (O_ (congrArg (fun b => some (Value.bool b)) t10) rfl) (Zm rfl ?_)); rcases Bool.eq_false_or_eq_true (!x11) with t17 | t17
   ·rw [if_pos t17] at hq7; refine s_ rfl rfl (by rw [t17]; rfl) (by decide) ?_; refine s_ rfl rfl (by rw [t17]; rfl) (by decide) ?_; refine s_ rfl rfl (by rw [t17]; rfl) (by decide) ?_; refine Zv (O_ (congrArg (fun b => some (Value.bool b)) t17) rfl) ?_; have hq72 := Option.some.inj hq7; refine Ze [(16, (.bool true))] ?_; subst hq72; refine p_ (fun a ha => ⟨ha, kp⟩)
   ·rw [if_neg (by rw [t17]; decide)] at hq7; refine o_ (k_ rfl) (by decide) ⟨_, rfl, (congrArg (fun b => some (Value.bool b)) t17)⟩ (o_ (k_ rfl) (by decide) ⟨_, rfl, (congrArg (fun b => some (Value.bool b)) t17)⟩ (o_ (r_ rfl rfl) (by decide) ⟨_, rfl, (congrArg (fun b => some (Value.bool b)) t17)⟩ (Zv (J_ (congrArg (fun b => some (Value.bool b)) t17) rfl) ?_))); have hq72 := Option.some.inj hq7; refine Ze [(16, (.bool (decide (p0 < p1))))] ?_; subst hq72; refine p_ (fun a ha => ⟨ha, kp⟩)
  ·rw [if_neg (by rw [t10]; decide)] at hq7; refine s_ rfl rfl (by rw [t10]; rfl) (by decide) ?_; refine s_ rfl rfl (by rw [t10]; rfl) (by decide) ?_; refine s_ rfl rfl (by rw [t10]; rfl) (by decide) ?_; refine Zv (J_ (congrArg (fun b => some (Value.bool b)) t10) rfl) (Zm rfl (o_ (k_ rfl) (by decide) ⟨_, rfl, rfl⟩ (o_ (k_ rfl) (by decide) ⟨_, rfl, rfl⟩ (o_ (r_ rfl rfl) (by decide) ⟨_, rfl, rfl⟩ (Zv (J_ rfl rfl) ?_))))); have hq72 := Option.some.inj hq7; refine Ze [(16, (.bool (decide (p0 < p1))))] ?_; subst hq72; refine p_ (fun a ha => ⟨ha, kp⟩)
 rintro a20 w8 ⟨ha, k18⟩; have s19 := k18.stp 999 (col (fun _ => 1)); replace hB := hB.stp s19; refine bf_ ha ?_; refine Za rfl (Ze [(4, (.bool q7))] (nx (j_ ?_))); have e21 := Option.some.inj hF; subst e21; refine Zr Tryz.results135 [(.bool q7)] ?_; exact ⟨rfl, hB.keeps⟩
def aN_ (p0 : List Int) (p1 : Int → Option Bool) : Int → Unit → Option (Lp Unit Unit Int) := fun (i3 : Int) (s : Unit) =>
  (ix p0 i3) >>= fun x15 =>
  (p1 x15) >>= fun x21 =>
  if x21 then
    some (.ret i3)
  else
    some (.go ())
def aD_ (p0 : List Int) (p1 : Int → Option Bool) : Option Int :=
  ck (p0.length : Int) >>= fun _ =>
  (forN (aN_ p0 p1) ((p0.length : Int)).toNat 0 ()) >>= fun q4 =>
  match q4 with
  | .inl _ =>
    some (-1)
  | .inr r' => some r'

def cC_ (w : World) (r : Int) : Ending → World → Prop := fun e w' => e = .returned (.int .i64 r) ∧ Keeps w w'
theorem eA_ (w : World) (u0 : Value) (p0 : List Int) (g0 : RdL zt w u0 p0) (u1 : Value) (p1 : Int → Option Bool) (g1 : FnV Tryz.prog w u1 p1) (r : Int) (hF : aD_ p0 p1 = some r) :
    Calls Tryz.prog 172 #[u0, u1] w (cC_ w r) := by
 unfold aD_ at hF; have hB : Bs (fun _ => 1) (col (fun _ => 1)) w w := Bs.start _ _; refine h_ (n := 19) (vs := [u0, u1]) Tryz.func172 rfl rfl ?_; refine Zq (Za rfl (Ze [(0, u0), (1, u1)] (nx (b_ (Zq (Zm rfl (Zv (F_ rfl g0 Tryz.underlying41) (Zm rfl (Ze [(0, u0), (1, u1), (7, (ZI (p0.length : Int))), (8, ZI 0)] (nx ?_)))))))))); obtain ⟨u6, h5, hF⟩ := bind_some hF; obtain ⟨-, h5a, h5b⟩ := cp_ h5; obtain ⟨q4, hq4, hF⟩ := bind_some hF; refine z_ (fun a w2 => ∃ (o1 : Tg), q4 = .inl () ∧ Fr a 19 [] ∧ Bs (fun _ => 1) o1 w w2) (fun a w' => ∃ r', q4 = .inr r' ∧ bodyPost Tryz.prog Tryz.f172 (cC_ w r') .ret a w') ?_ ?_ ?_
 ·refine d_ ?_; refine y_ (fun (K : Nat) a w2 => ∃ (i3 : Int) (o1 : Tg), forN (aN_ p0 p1) ((p0.length : Int) - i3).toNat i3 () = some q4 ∧ ((p0.length : Int) - i3).toNat = K ∧ 0 ≤ i3 ∧ Fr a 19 [(0, u0), (1, u1), (7, (ZI (p0.length : Int))), (8, ZI i3)] ∧ Bs (fun _ => 1) o1 w w2) _ (fun a ha => ⟨0, (col (fun _ => 1)), hq4, rfl, Int.le_refl 0, ha.sub (r := [(0, u0), (1, u1), (7, (ZI (p0.length : Int))), (8, ZI 0)]) ⟨rfl, rfl, rfl, rfl, trivial⟩, hB⟩) ?_; rintro K10 a w2 ⟨i3, o1, l7, m9, z8, ha, hB⟩; by_cases t14 : i3 < (p0.length : Int)
  ·obtain ⟨q11, b12, n13⟩ := bF_ t14 l7; dsimp only [aN_] at b12; refine L_ ha ?_; refine Zq (Zv (r_ rfl rfl) (Ze [(0, u0), (1, u1), (7, (ZI (p0.length : Int))), (8, ZI i3), (9, (.bool (decide (i3 < (p0.length : Int)))))] (nx (b_ ?_)))); refine P_ (congrArg (fun b => some (Value.bool b)) (decide_eq_true t14)) ?_; refine f_ (nx (b_ (d_ (Zq (Zm rfl (Za rfl (Ze [(0, u0), (1, u1), (5, ZI i3), (7, (ZI (p0.length : Int))), (8, ZI i3)] (Zn (Zm rfl (Zm rfl (Zm rfl ?_))))))))))); obtain ⟨x15, hx15, b12⟩ := bind_some b12; refine Zo ?_; refine wf_atZ g0 hx15 hB rfl rfl Tryz.underlying41 Tryz.sizeOf3 ?_; intro b16 f17 c18 h19 h20; cases h20
   refine Zv (e_ rfl Tryz.isAgg3 (i_ h19)) ?_; obtain ⟨x21, hx21, b12⟩ := bind_some b12; refine Zo ?_; refine fA_ (x := x15) (vs := [(ZI x15)]) (g1.keep hB.keeps) hx21 rfl rfl ⟨rfl, trivial⟩ ?_; intro w22 k23; have s24 := k23.stp 999 o1; replace hB := hB.stp s24; refine Ze [(0, u0), (1, u1), (5, ZI i3), (7, (ZI (p0.length : Int))), (8, ZI i3), (16, (.bool x21))] (nx ?_); refine l_ rfl (fun t25 => ?_) (fun t25 => ?_)
   ·rw [if_pos t25] at b12; refine Zq (Zm rfl (Za rfl (Ze [(4, ZI i3)] (nx (j_ (aa_ (A_ (A_ (aa_ ?_))))))))); refine bu_ ?_; have e26 := Option.some.inj b12; subst e26; refine fun a ha => ⟨_, n13, ?_⟩; refine D_ (P := Tryz.prog) (vs := [(ZI i3)]) Tryz.results172 ⟨rfl, trivial⟩ ?_ a ha; exact ⟨rfl, hB.keeps⟩
   ·rw [if_neg (by rw [t25]; decide)] at b12; refine f_ (x_ (nx (c_ (Zv (B_ rfl rfl (C_ (by omega) (by omega))) (Zm rfl (Ze [(0, u0), (1, u1), (7, (ZI (p0.length : Int))), (8, (ZI (i3 + 1)))] (v_ ?_))))))); have e27 := Option.some.inj b12; subst e27; refine Zk [(0, u0), (1, u1), (7, (ZI (p0.length : Int))), (8, (ZI (i3 + 1)))] ?_; intro a ha; exact ⟨_, (by rw [← m9]; omega), i3 + 1, o1, n13, rfl, (by omega), ha, hB⟩
  ·have r28 := bJ_ t14 l7; refine L_ ha ?_; refine Zq (Zv (r_ rfl rfl) (Ze [(0, u0), (1, u1), (7, (ZI (p0.length : Int))), (8, ZI i3), (9, (.bool (decide (i3 < (p0.length : Int)))))] (nx (b_ ?_)))); refine H_ (congrArg (fun b => some (Value.bool b)) (decide_eq_false t14)) ?_; refine u_ ?_; refine m_ (m_ (R_ ?_)); refine p_ ?_; refine Zk [] ?_; intro a ha; exact ⟨o1, r28, ha, hB⟩
 ·rintro a w2 ⟨o1, rfl, ha, hB⟩; dsimp only at hF; refine ap_k ha ?_; refine Zn (Za rfl (Ze [(4, (ZI (-1)))] (nx (j_ ?_)))); have e29 := Option.some.inj hF; subst e29; refine Zr Tryz.results172 [(ZI (-1))] ?_; exact ⟨rfl, hB.keeps⟩
 ·rintro a w2 ⟨r', rfl, b30⟩; dsimp only at hF; have e31 := Option.some.inj hF; subst e31; exact b30
def at_ (p0 : List Int) (p1 : Int → Option Bool) : Option Bool :=
  (aD_ p0 p1) >>= fun x1 =>
  some (decide (x1 ≥ 0))

def dZ_ (w : World) (r : Bool) : Ending → World → Prop := fun e w' => e = .returned (.bool r) ∧ Keeps w w'
theorem eb_ (w : World) (u0 : Value) (p0 : List Int) (g0 : RdL zt w u0 p0) (u1 : Value) (p1 : Int → Option Bool) (g1 : FnV Tryz.prog w u1 p1) (r : Bool) (hF : at_ p0 p1 = some r) :
    Calls Tryz.prog 136 #[u0, u1] w (dZ_ w r) := by
 unfold at_ at hF; have hB : Bs (fun _ => 1) (col (fun _ => 1)) w w := Bs.start _ _; refine h_ (n := 9) (vs := [u0, u1]) Tryz.func136 rfl rfl ?_; refine Zq (Za rfl (Ze [(0, u0), (1, u1)] (Zn (Zm rfl (Zm rfl ?_))))); obtain ⟨x1, hx1, hF⟩ := bind_some hF; refine Zo ?_; refine n_ (eA_ w _ p0 (g0.keep hB.keeps) _ p1 (g1.keep hB.keeps) x1 hx1) Tryz.call172 ⟨rfl, rfl, trivial⟩ ?_; rintro e6 w2 ⟨rfl, k3⟩; have s5 := k3.stp 999 (col (fun _ => 1)); refine ⟨_, rfl, ?_⟩; replace hB := hB.stp s5; refine Zv (jd_ rfl rfl) (Za rfl (Ze [(4, (.bool (decide (x1 ≥ 0))))] (nx (j_ ?_)))); have e7 := Option.some.inj hF; subst e7; refine Zr Tryz.results136 [(.bool (decide (x1 ≥ 0)))] ?_; exact ⟨rfl, hB.keeps⟩
def ck_ (p0 : Int) (p1 : Int) (p2 : Int) : Option Bool :=
  (cV_ p0 p1 p2) >>= fun x1 =>
  some (!x1)

def iV_ (w : World) (r : Bool) : Ending → World → Prop := fun e w' => e = .returned (.bool r) ∧ Keeps w w'
theorem iO_ (w : World) (p0 : Int) (b1 : Nat) (u1 : List Value) (p1 : Int) (k1 : Cells w b1 0 u1) (g1 : Rp.rd zt w u1 p1) (b2 : Nat) (u2 : List Value) (p2 : Int) (k2 : Cells w b2 0 u2) (g2 : Rp.rd zt w u2 p2) (r : Bool) (hF : ck_ p0 p1 p2 = some r) :
    Calls Tryz.prog 137 #[.int .i64 p0, .pointer (some ⟨b1, 0, none⟩), .pointer (some ⟨b2, 0, none⟩)] w (iV_ w r) := by
 unfold ck_ at hF; have g1k := g1; cases g1
 have g2k := g2; cases g2
 have hB : Bs (fun _ => 1) (col (fun _ => 1)) w w := Bs.start _ _; refine h_ (n := 10) (vs := [(ZI p0), (ZP b1), (ZP b2)]) Tryz.func137 rfl rfl ?_; refine Zq (Za rfl (Ze [(0, ZI p0), (1, ZP b1), (2, ZP b2)] (Zn (Zm rfl (Zv (e_ rfl Tryz.isAgg3 (i_ (k1.keep hB.keeps))) (Zv (e_ rfl Tryz.isAgg3 (i_ (k2.keep hB.keeps))) ?_)))))); obtain ⟨x1, hx1, hF⟩ := bind_some hF; refine Zo ?_; refine n_ (fj_ w p0 p1 p2 x1 hx1) Tryz.call62 ⟨rfl, rfl, rfl, trivial⟩ ?_; rintro e6 w2 ⟨rfl, k3⟩; have s5 := k3.stp 999 (col (fun _ => 1)); refine ⟨_, rfl, ?_⟩; replace hB := hB.stp s5; refine Zv (bg_ rfl) (Za rfl (Ze [(4, (.bool (!x1)))] (nx (j_ ?_)))); have e7 := Option.some.inj hF; subst e7; refine Zr Tryz.results137 [(.bool (!x1))] ?_; exact ⟨rfl, hB.keeps⟩
def dV_ (p0 : List Int) (p1 : Int) (p2 : Int) : Option Bool :=
  (at_ p0 (fun z11 => ck_ z11 p1 p2)) >>= fun x12 =>
  some (!x12)

def kX_ (w : World) (r : Bool) : Ending → World → Prop := fun e w' => e = .returned (.bool r) ∧ Keeps w w'
theorem lv_ (w : World) (u0 : Value) (p0 : List Int) (g0 : RdL zt w u0 p0) (p1 : Int) (p2 : Int) (r : Bool) (hF : dV_ p0 p1 p2 = some r) :
    Calls Tryz.prog 94 #[u0, .int .i64 p1, .int .i64 p2] w (kX_ w r) := by
 unfold dV_ at hF; have hB : Bs (fun _ => 1) (col (fun _ => 1)) w w := Bs.start _ _; refine h_ (n := 11) (vs := [u0, (ZI p1), (ZI p2)]) Tryz.func94 rfl rfl ?_; refine Zq (Zo ?_); refine aP_ (o := (col (fun _ => 1))) w.heap.size 11 hB.keeps.size (cs := [(ZI p1)]) rfl rfl ?_; intro o1 w2 b3 h4 s5; replace hB := hB.stp s5; refine Zo ?_; refine aP_ (o := o1) w.heap.size 12 hB.keeps.size (cs := [(ZI p2)]) rfl rfl ?_; intro o6 w7 b8 h9 s10; replace h4 := h4.stp s10; replace hB := hB.stp s10; refine Za rfl (Ze [(0, u0), (4, ZP b3), (5, ZP b8)] (Zn (Zm rfl (Zv (ga_ (vs := [(ZP b3), (ZP b8)]) ⟨rfl, rfl, trivial⟩) ?_)))); obtain ⟨x12, hx12, hF⟩ := bind_some hF; refine Zo ?_; refine n_ (eb_ w7 _ p0 (g0.keep hB.keeps) _ (fun z11 => ck_ z11 p1 p2) (show FnV Tryz.prog w7 (.func (.func 137) #[] #[(ZP b3), (ZP b8)]) (fun z11 => ck_ z11 p1 p2) from ⟨_, _, rfl, Tryz.call137, fun ww vs xx rr kk hok hG => by (cases hok; exact iO_ ww xx b3 _ p1 ((h4.cells).keep kk) (Rp.keep ((show Rp.rd zt w7 [(ZI p1)] (p1 : Int) from rfl)) kk) b8 _ p2 ((h9.cells).keep kk) (Rp.keep ((show Rp.rd zt w7 [(ZI p2)] (p2 : Int) from rfl)) kk) rr hG)⟩) x12 hx12) Tryz.call136 ⟨rfl, rfl, trivial⟩ ?_; rintro e17 w13 ⟨rfl, k14⟩; have s16 := k14.stp 999 o6; refine ⟨_, rfl, ?_⟩; replace h4 := h4.stp s16; replace h9 := h9.stp s16; replace hB := hB.stp s16; refine Zv (bg_ rfl) (Za rfl (Ze [(6, (.bool (!x12)))] (nx (j_ ?_)))); have e18 := Option.some.inj hF; subst e18; refine Zr Tryz.results94 [(.bool (!x12))] ?_; exact ⟨rfl, hB.keeps⟩
def al_ (p1 : List Int) : Int → Int → Unit → Option (Lp Unit Unit Int) := fun (i3 : Int) (x13 : Int) (s : Unit) =>
  if decide (i3 ≥ (p1.length : Int)) then
    some (.ret 1)
  else
    (ix p1 i3) >>= fun x21 =>
    (aZ_ x13 x21) >>= fun x27 =>
    if x27 != 0 then
      some (.ret x27)
    else
      some (.go ())
def I_ (p0 : List Int) (p1 : List Int) : Option Int :=
  (forI (al_ p1) p0 0 ()) >>= fun q4 =>
  match q4 with
  | .inl _ =>
    if decide ((p0.length : Int) < (p1.length : Int)) then
      some (-1)
    else
      some 0
  | .inr r' => some r'

def aS_ (w : World) (r : Int) : Ending → World → Prop := fun e w' => e = .returned (.int .i64 r) ∧ Keeps w w'
theorem cX_slices_Compare_int_int (w : World) (u0 : Value) (p0 : List Int) (g0 : RdL zt w u0 p0) (u1 : Value) (p1 : List Int) (g1 : RdL zt w u1 p1) (r : Int) (hF : I_ p0 p1 = some r) :
    Calls Tryz.prog 95 #[u0, u1] w (aS_ w r) := by
 unfold I_ at hF; have hB : Bs (fun _ => 1) (col (fun _ => 1)) w w := Bs.start _ _; refine h_ (n := 36) (vs := [u0, u1]) Tryz.func95 rfl rfl ?_; refine Zq (Za rfl (Ze [(0, u0), (1, u1)] (nx (b_ (Zq (Zm rfl (Zv (F_ rfl g0 Tryz.underlying41) (Zm rfl (Ze [(0, u0), (1, u1), (9, u0), (10, (ZI (p0.length : Int))), (11, ZI 0)] (nx ?_)))))))))); obtain ⟨q4, hq4, hF⟩ := bind_some hF; refine z_ (fun a w2 => ∃ (o1 : Tg), q4 = .inl () ∧ Fr a 36 [(0, u0), (1, u1)] ∧ Bs (fun _ => 1) o1 w w2) (fun a w' => ∃ r', q4 = .inr r' ∧ bodyPost Tryz.prog Tryz.f95 (aS_ w r') .ret a w') ?_ ?_ ?_
 ·refine d_ ?_; refine y_ (fun (K : Nat) a w2 => ∃ (i3 : Int) (o1 : Tg), forI (al_ p1) (p0.drop i3.toNat) i3 () = some q4 ∧ (p0.drop i3.toNat).length = K ∧ 0 ≤ i3 ∧ Fr a 36 [(0, u0), (1, u1), (9, u0), (10, (ZI (p0.length : Int))), (11, ZI i3)] ∧ Bs (fun _ => 1) o1 w w2) _ (fun a ha => ⟨0, (col (fun _ => 1)), hq4, rfl, Int.le_refl 0, ha.sub (r := [(0, u0), (1, u1), (9, u0), (10, (ZI (p0.length : Int))), (11, ZI 0)]) ⟨rfl, rfl, rfl, rfl, rfl, trivial⟩, hB⟩) ?_; rintro K8 a w2 ⟨i3, o1, l5, m7, z6, ha, hB⟩; by_cases t12 : i3 < (p0.length : Int)
  ·obtain ⟨x13, q9, hx13, b10, n11⟩ := V_ z6 t12 l5; have hle := g0.len_le; dsimp only [al_] at b10; refine L_ ha ?_; refine Zq (Zv (r_ rfl rfl) (Ze [(0, u0), (1, u1), (9, u0), (10, (ZI (p0.length : Int))), (11, ZI i3), (12, (.bool (decide (i3 < (p0.length : Int)))))] (nx (b_ ?_)))); refine P_ (congrArg (fun b => some (Value.bool b)) (decide_eq_true t12)) ?_; refine f_ (nx (b_ (d_ (Zq (Zm rfl (Zo ?_)))))); refine wf_atZ g0 hx13 hB rfl rfl Tryz.underlying41 Tryz.sizeOf3 ?_; intro b14 f15 c16 h17 h18; cases h18
   refine Zv (e_ rfl Tryz.isAgg3 (i_ h17)) (Za rfl (Za rfl (Ze [(0, u0), (1, u1), (5, ZI i3), (6, ZI x13), (9, u0), (10, (ZI (p0.length : Int))), (11, ZI i3)] (nx (b_ (Zq (Zm rfl (Zm rfl (Zv (F_ rfl g1 Tryz.underlying41) (Zv (jd_ rfl rfl) (Ze [(0, u0), (1, u1), (5, ZI i3), (6, ZI x13), (9, u0), (10, (ZI (p0.length : Int))), (11, ZI i3), (19, (.bool (decide (i3 ≥ (p1.length : Int)))))] (nx ?_)))))))))))); refine l_ rfl (fun t19 => ?_) (fun t19 => ?_)
   ·rw [if_pos t19] at b10; refine Zq (Za rfl (Ze [(4, ZI 1)] (nx (j_ (A_ (aa_ (A_ (A_ (aa_ ?_))))))))); refine bu_ ?_; have e20 := Option.some.inj b10; subst e20; refine fun a ha => ⟨_, n11, ?_⟩; refine D_ (P := Tryz.prog) (vs := [(ZI 1)]) Tryz.results95 ⟨rfl, trivial⟩ ?_ a ha; exact ⟨rfl, hB.keeps⟩
   ·rw [if_neg (by rw [t19]; decide)] at b10; refine f_ (Zn (Zm rfl (Zm rfl ?_))); obtain ⟨x21, hx21, b10⟩ := bind_some b10; refine Zo ?_; refine wf_atZ g1 hx21 hB rfl rfl Tryz.underlying41 Tryz.sizeOf3 ?_; intro b22 f23 c24 h25 h26; cases h26
    refine Zv (e_ rfl Tryz.isAgg3 (i_ h25)) (Za rfl (Ze [(0, u0), (1, u1), (6, ZI x13), (7, ZI x21), (9, u0), (10, (ZI (p0.length : Int))), (11, ZI i3)] (Zn (Zm rfl (Zm rfl ?_))))); obtain ⟨x27, hx27, b10⟩ := bind_some b10; refine Zo ?_; refine n_ (du_ w2 x13 x21 x27 hx27) Tryz.call138 ⟨rfl, rfl, trivial⟩ ?_; rintro e32 w28 ⟨rfl, k29⟩; have s31 := k29.stp 999 o1; refine ⟨_, rfl, ?_⟩; replace hB := hB.stp s31; refine Za rfl (Ze [(0, u0), (1, u1), (8, ZI x27), (9, u0), (10, (ZI (p0.length : Int))), (11, ZI i3)] (Zn (Zm rfl (Zv (cE_ rfl rfl) (Ze [(0, u0), (1, u1), (8, ZI x27), (9, u0), (10, (ZI (p0.length : Int))), (11, ZI i3), (28, (.bool (x27 != 0)))] (nx ?_)))))); refine l_ rfl (fun t33 => ?_) (fun t33 => ?_)
    ·rw [if_pos t33] at b10; refine Zq (Zm rfl (Za rfl (Ze [(4, ZI x27)] (nx (j_ (aa_ (A_ (A_ (aa_ ?_))))))))); refine bu_ ?_; have e34 := Option.some.inj b10; subst e34; refine fun a ha => ⟨_, n11, ?_⟩; refine D_ (P := Tryz.prog) (vs := [(ZI x27)]) Tryz.results95 ⟨rfl, trivial⟩ ?_ a ha; exact ⟨rfl, hB.keeps⟩
    ·rw [if_neg (by rw [t33]; decide)] at b10; refine f_ (x_ (nx (c_ (Zv (B_ rfl rfl (C_ (by omega) (by omega))) (Zm rfl (Ze [(0, u0), (1, u1), (9, u0), (10, (ZI (p0.length : Int))), (11, (ZI (i3 + 1)))] (v_ ?_))))))); have e35 := Option.some.inj b10; subst e35; refine Zk [(0, u0), (1, u1), (9, u0), (10, (ZI (p0.length : Int))), (11, (ZI (i3 + 1)))] ?_; intro a ha; exact ⟨_, (by rw [← m7]; simp only [List.length_drop]; omega), i3 + 1, o1, n11, rfl, (by omega), ha, hB⟩
  ·have r36 := W_ t12 l5; refine L_ ha ?_; refine Zq (Zv (r_ rfl rfl) (Ze [(0, u0), (1, u1), (9, u0), (10, (ZI (p0.length : Int))), (11, ZI i3), (12, (.bool (decide (i3 < (p0.length : Int)))))] (nx (b_ ?_)))); refine H_ (congrArg (fun b => some (Value.bool b)) (decide_eq_false t12)) ?_; refine u_ ?_; refine m_ (m_ (R_ ?_)); refine p_ ?_; refine Zk [(0, u0), (1, u1)] ?_; intro a ha; exact ⟨o1, r36, ha, hB⟩
 ·rintro a w2 ⟨o1, rfl, ha, hB⟩; dsimp only at hF; refine ap_k ha ?_; refine nx (b_ (Zq (Zm rfl (Zv (F_ rfl g0 Tryz.underlying41) (Zm rfl (Zv (F_ rfl g1 Tryz.underlying41) (Zv (r_ rfl rfl) (Ze [(35, (.bool (decide ((p0.length : Int) < (p1.length : Int)))))] (nx ?_))))))))); refine l_ rfl (fun t37 => ?_) (fun t37 => ?_)
  ·rw [if_pos t37] at hF; refine Zq (Za rfl (Ze [(4, (ZI (-1)))] (nx (j_ (A_ ?_))))); have e38 := Option.some.inj hF; subst e38; refine Zr Tryz.results95 [(ZI (-1))] ?_; exact ⟨rfl, hB.keeps⟩
  ·rw [if_neg (by rw [t37]; decide)] at hF; refine f_ (Zn (Za rfl (Ze [(4, ZI 0)] (nx (j_ ?_))))); have e39 := Option.some.inj hF; subst e39; refine Zr Tryz.results95 [(ZI 0)] ?_; exact ⟨rfl, hB.keeps⟩
 ·rintro a w2 ⟨r', rfl, b40⟩; dsimp only at hF; have e41 := Option.some.inj hF; subst e41; exact b40
def Q_ (p0 : List Int) : Int → Option (Lp Int Int Bool) := fun (s : Int) =>
  if decide (s > 0) then
    (ix p0 s) >>= fun x16 =>
    (ck (s - 1)) >>= fun x19 =>
    (ix p0 x19) >>= fun x20 =>
    (cd_ x16 x20) >>= fun x72 =>
    if x72 then
      some (.ret false)
    else
      (ck (s - 1)) >>= fun x80 =>
      some (.go x80)
  else
    some (.out s)
def aM_ (fuel : Nat) (p0 : List Int) : Option Bool :=
  (ck ((p0.length : Int) - 1)) >>= fun x1 =>
  (loopF (Q_ p0) fuel x1) >>= fun q5 =>
  match q5 with
  | .inl y2 =>
    some true
  | .inr r' => some r'

def cP_ (w : World) (r : Bool) : Ending → World → Prop := fun e w' => e = .returned (.bool r) ∧ Keeps w w'
theorem eJ_ (fuel : Nat) (w : World) (u0 : Value) (p0 : List Int) (g0 : RdL zt w u0 p0) (r : Bool) (hF : aM_ fuel p0 = some r) :
    Calls Tryz.prog 93 #[u0] w (cP_ w r) := by
 unfold aM_ at hF; have hB : Bs (fun _ => 1) (col (fun _ => 1)) w w := Bs.start _ _; refine h_ (n := 21) (vs := [u0]) Tryz.func93 rfl rfl ?_; refine Zq (Za rfl (Ze [(0, u0)] (nx (b_ (Zq (Zm rfl (Zv (F_ rfl g0 Tryz.underlying41) ?_))))))); obtain ⟨x1, hx1, hF⟩ := bind_some hF; refine Zv (bD_ rfl rfl hx1) (Za rfl (Ze [(0, u0), (3, ZI x1)] (nx ?_))); obtain ⟨q5, hq5, hF⟩ := bind_some hF; refine z_ (fun a w4 => ∃ (y2 : Int) (o3 : Tg), q5 = .inl y2 ∧ Fr a 21 [] ∧ Bs (fun _ => 1) o3 w w4) (fun a w' => ∃ r', q5 = .inr r' ∧ bodyPost Tryz.prog Tryz.f93 (cP_ w r') .ret a w') ?_ ?_ ?_
 ·refine d_ ?_; refine y_ (fun (K : Nat) a w4 => ∃ (y2 : Int) (o3 : Tg), loopF (Q_ p0) K y2 = some q5 ∧ Fr a 21 [(0, u0), (3, ZI y2)] ∧ Bs (fun _ => 1) o3 w w4) fuel (fun a ha => ⟨x1, (col (fun _ => 1)), hq5, ha.sub (r := [(0, u0), (3, ZI x1)]) ⟨rfl, rfl, trivial⟩, hB⟩) ?_; rintro K9 a w4 ⟨y2, o3, l6, ha, hB⟩; obtain ⟨K13, q10, e14, b11, n12⟩ := X_ l6; dsimp only [Q_] at b11; refine L_ ha ?_; refine b_ (Zq (Zm rfl (Zv (dB_ rfl rfl) (Ze [(0, u0), (3, ZI y2), (8, (.bool (decide (y2 > 0))))] (nx ?_))))); refine l_ rfl (fun t15 => ?_) (fun t15 => ?_)
  ·rw [if_pos t15] at b11; refine f_ (nx (b_ (d_ (b_ ?_)))); obtain ⟨x16, hx16, b11⟩ := bind_some b11; obtain ⟨x19, hx19, b11⟩ := bind_some b11; obtain ⟨x20, hx20, b11⟩ := bind_some b11; refine am_ (o := o3) [(0, u0), (3, ZI y2)] [0, 3] [11, 12, 13, 14, 15, 16, 17, 18, 19] [[], [], [0, 1], [2], [], [], [5], [4, 6], [7]] [none, none, none, none, none, none, none, none, none] [999, 999, 999, 999, 999, 999, 999, 999, 999] [0, 0, 0, 0, 0, 0, 0, 0, 0] [999] [fun v _ _ => v = u0, fun v _ _ => v = (ZI y2), fun v o w9 => ∃ vl, v = adr vl (y2.toNat * Rp.sz Int) ∧ RdL zt w vl p0, fun v _ _ => v = (ZI x16), fun v _ _ => v = u0, fun v _ _ => v = (ZI y2), fun v _ _ => v = (ZI x19), fun v o w9 => ∃ vl, v = adr vl (x19.toNat * Rp.sz Int) ∧ RdL zt w vl p0, fun v _ _ => v = (ZI x20)] (fun o8 w8 => Bs (fun _ => 1) o8 w w8) G_ (by kernel_rfl) rfl ⟨rfl, rfl, trivial⟩ hB ?_ ⟨w_ _, w_ _, fun _ _ _ _ _ _ h0 hb ⟨vl, e, h⟩ hs => ⟨vl, e, h⟩, w_ _, w_ _, w_ _, w_ _, fun _ _ _ _ _ _ h0 hb ⟨vl, e, h⟩ hs => ⟨vl, e, h⟩, w_ _, trivial⟩ ?_ ?_
   ·rintro t9 o1 w1 o2 w2 ht9 hB hs9; have ht9 : t9 = 999 := by simpa using ht9
    subst ht9; all_goals exact hB.stp hs9 (by decide)
   ·refine ⟨?_, ?_, ?_, ?_, ?_, ?_, ?_, ?_, ?_, trivial⟩
    ·rintro o23 w24 a25 ha hB -; refine Zs ha ?_; refine g_ (k_ rfl) ?_; exact Zx rfl
    ·rintro o26 w27 a28 ha hB -; refine Zs ha ?_; refine g_ (k_ rfl) ?_; exact Zx rfl
    ·rintro o29 w30 a31 ha hB ⟨r32, r33, -⟩; have ha := Fr.cons (d := 11) ha r32; have ha := Fr.cons (d := 12) ha r33; refine Zs ha ?_; refine bk_ g0 hx16 rfl rfl Tryz.underlying41 Tryz.sizeOf3 ?_; exact ⟨_, Stp.refl _ _ _, ⟨_, rfl, g0⟩⟩
    ·rintro o34 w35 a36 ha hB ⟨r37, -⟩; obtain ⟨v38, e39, h40⟩ := r37; have ha := Fr.cons (d := 13) ha e39; refine Zs ha ?_; refine bp_ h40 hx16 hB rfl rfl Tryz.isAgg3 ?_; intro c41 h42; cases h42
     exact Zx rfl
    ·rintro o43 w44 a45 ha hB -; refine Zs ha ?_; refine g_ (k_ rfl) ?_; exact Zx rfl
    ·rintro o46 w47 a48 ha hB -; refine Zs ha ?_; refine g_ (k_ rfl) ?_; exact Zx rfl
    ·rintro o49 w50 a51 ha hB ⟨r52, -⟩; have ha := Fr.cons (d := 16) ha r52; refine Zs ha ?_; refine g_ (bD_ rfl rfl hx19) ?_; exact Zx rfl
    ·rintro o53 w54 a55 ha hB ⟨r56, r57, -⟩; have ha := Fr.cons (d := 15) ha r56; have ha := Fr.cons (d := 17) ha r57; refine Zs ha ?_; refine bk_ g0 hx20 rfl rfl Tryz.underlying41 Tryz.sizeOf3 ?_; exact ⟨_, Stp.refl _ _ _, ⟨_, rfl, g0⟩⟩
    ·rintro o58 w59 a60 ha hB ⟨r61, -⟩; obtain ⟨v62, e63, h64⟩ := r61; have ha := Fr.cons (d := 18) ha e63; refine Zs ha ?_; refine bp_ h64 hx20 hB rfl rfl Tryz.isAgg3 ?_; intro c65 h66; cases h66
     exact Zx rfl
   rintro o67 w68 a69 ha hB ⟨-, -, -, r70, -, -, -, -, r71, -⟩; have ha := Fr.cons (d := 14) ha r70; have ha := Fr.cons (d := 19) ha r71; refine bf_ ha ?_; simp only [List.length_cons, List.length_nil, Nat.zero_add, Nat.reduceAdd, List.drop_succ_cons, List.drop_zero]; obtain ⟨x72, hx72, b11⟩ := bind_some b11; refine Zo ?_; refine n_ (go_ w68 x16 x20 x72 hx72) Tryz.call135 ⟨rfl, rfl, trivial⟩ ?_; rintro e77 w73 ⟨rfl, k74⟩; have s76 := k74.stp 999 o67; refine ⟨_, rfl, ?_⟩; replace hB := hB.stp s76; refine Ze [(0, u0), (3, ZI y2), (20, (.bool x72))] (nx ?_); refine l_ rfl (fun t78 => ?_) (fun t78 => ?_)
   ·rw [if_pos t78] at b11; refine Zq (Za rfl (Ze [(2, (.bool false))] (nx (j_ (aa_ (A_ (A_ (aa_ ?_)))))))); refine bu_ ?_; have e79 := Option.some.inj b11; subst e79; refine fun a ha => ⟨_, n12, ?_⟩; refine D_ (P := Tryz.prog) (vs := [(.bool false)]) Tryz.results93 ⟨rfl, trivial⟩ ?_ a ha; exact ⟨rfl, hB.keeps⟩
   ·rw [if_neg (by rw [t78]; decide)] at b11; refine f_ (x_ (nx (c_ (Zm rfl ?_)))); obtain ⟨x80, hx80, b11⟩ := bind_some b11; refine Zv (bD_ rfl rfl hx80) (Za rfl (Ze [(0, u0), (3, ZI x80)] (v_ ?_))); have e81 := Option.some.inj b11; subst e81; refine Zk [(0, u0), (3, ZI x80)] ?_; intro a ha; exact ⟨K13, by omega, x80, o67, n12, ha, hB⟩
  ·rw [if_neg (by rw [t15]; decide)] at b11; refine u_ ?_; refine m_ (m_ (R_ ?_)); refine p_ ?_; have e82 := Option.some.inj b11; subst e82; refine Zk [] ?_; intro a ha; exact ⟨y2, o3, n12, ha, hB⟩
 ·rintro a w4 ⟨y2, o3, rfl, ha, hB⟩; dsimp only at hF; refine ap_k ha ?_; refine Zn (Za rfl (Ze [(2, (.bool true))] (nx (j_ ?_)))); have e83 := Option.some.inj hF; subst e83; refine Zr Tryz.results93 [(.bool true)] ?_; exact ⟨rfl, hB.keeps⟩
 ·rintro a w4 ⟨r', rfl, b84⟩; dsimp only at hF; have e85 := Option.some.inj hF; subst e85; exact b84
end

end Go.Proofs.YtdbbeldgdgonfaaGreat
