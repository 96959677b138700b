/- Part 25 of what this claim rests on (GRq, Rnb, Rnc), packed by pack.py. -/
import Derived.Test.YtdbbeldgdgonfaaGreatP03
import Derived.Test.YtdbbeldgdgonfaaGreatP06
import Derived.Test.YtdbbeldgdgonfaaGreatP19
import Derived.Test.YtdbbeldgdgonfaaGreatP20
import Derived.Test.YtdbbeldgdgonfaaGreatP22
import Derived.Test.YtdbbeldgdgonfaaGreatP23
import Derived.Test.YtdbbeldgdgonfaaGreatP24
namespace Go.Proofs.YtdbbeldgdgonfaaGreat
set_option linter.unusedSimpArgs false
set_option linter.unusedVariables false

section
set_option maxRecDepth 100000
set_option maxHeartbeats 2000000
open Go.RowKit
theorem fM_ : (Tryz.prog.info? 28).map (·.size) = some 4 := by kernel_rfl

def bT_ (fuel : Nat) (a : b_) (b : b_) : Option ((List Int) × Bool) :=
  (cW_ fuel a) >>= fun d =>
  (
    if !d then
      some true
    else
      (cW_ fuel b) >>= fun f =>
      if !f then
        some true
      else
        if a.Labels != b.Labels then
          some true
        else
          some (a.Degree != b.Degree)) >>= fun g =>
  if g then
    some ([], false)
  else
    (
      if (a.Nodes.length : Int) != (b.Nodes.length : Int) then
        some true
      else
        some ((a.Edges.length : Int) != (b.Edges.length : Int))) >>= fun i =>
    if i then
      some ([], false)
    else
      (ay_ fuel a b []) >>= fun c =>
      if !c.1 then
        some ([], false)
      else
        some (c.2, true)

def hy_ (oo : Tg) (t : Nat) (w : World) (r : Yl × Bool) : Ending → World → Prop := fun e w' => ∃ (a : Value) (o' : Tg), e = .returned (.tuple #[a, .bool r.2]) ∧ Ow w.heap.size 3 t o' w' a r.1 ∧ Keeps w w' ∧ ∀ b, b < w.heap.size → o' b = oo b
theorem hq_ (fuel : Nat) (w : World) (oo : Tg) (t : Nat) (ht : 2 ≤ t) (c1 : List Value) (s : b_) (c3 : Rp.rd zt w c1 s) (c2 : List Value) (u : b_) (c4 : Rp.rd zt w c2 u) (r : Yl × Bool) (hF : bT_ fuel s u = some r) :
    Calls Tryz.prog 53 #[.agg c1.toArray, .agg c2.toArray] w (hy_ oo t w r) := by
 unfold bT_ at hF; obtain ⟨I, J, rfl, a0, a1⟩ := c3; obtain ⟨K, L, rfl, a2, a3⟩ := c4; have hB : Bs oo (col oo) w w := Bs.start _ _; refine i_ (n := 56) (vs := [(.agg #[(ZI s.Labels), (ZI s.Degree), I, J]), (.agg #[(ZI u.Labels), (ZI u.Degree), K, L])]) Tryz.func53 rfl rfl ?_; generalize col oo = o at *; refine Zq (Zo ?_); refine aK_ (o := o) w.heap.size 11 hB.keeps.size (cs := [(ZI s.Labels), (ZI s.Degree), I, J]) rfl rfl ?_; intro c5 c6 k d a4; replace hB := hB.stp a4; refine Zo ?_; refine aK_ (o := c5) w.heap.size 12 hB.keeps.size (cs := [(ZI u.Labels), (ZI u.Degree), K, L]) rfl rfl ?_; intro v a5 m j M; replace d := d.stp M; replace hB := hB.stp M; refine Za rfl (Za rfl (Ze [(2, ZP k), (3, ZP m)] (nx (a_ (Zq (Zv (L_ rfl Tryz.isAgg28 Tryz.sizeOf28 rfl d.cells) ?_)))))); obtain ⟨N, O, hF⟩ := bind_some hF; refine Zo ?_; refine p_ (gq_ fuel a5 _ s (⟨_, _, rfl, (a0.keep hB.keeps), (a1.keep hB.keeps)⟩) N O) Tryz.call43 ⟨rfl, trivial⟩ ?_; rintro c7 A ⟨rfl, a6⟩; have B := a6.stp 999 v; refine ⟨_, rfl, ?_⟩; replace d := d.stp B; replace j := j.stp B; replace hB := hB.stp B; refine Zv (ba_ rfl) (Zm rfl ?_); obtain ⟨P, c, hF⟩ := bind_some hF; refine as_ 18 (fun a7 z => Fr a7 56 [(2, ZP k), (3, ZP m), (28, (.bool P))] ∧ Keeps A z) ?_ ?_; all_goals simp only [List.take_succ_cons, List.take_zero, List.drop_succ_cons, List.drop_zero]
 ·have kp : Keeps A A := Keeps.refl _; rcases Bool.eq_false_or_eq_true (!N) with q | q
  ·rw [if_pos q] at c; refine n_ rfl rfl (by rw [q]; rfl) (by decide) ?_; refine n_ rfl rfl (by rw [q]; rfl) (by decide) ?_; refine n_ rfl rfl (by rw [q]; rfl) (by decide) ?_; refine Zv (x_ (Zb q) rfl) (Zm rfl ?_); refine n_ rfl rfl rfl (by decide) ?_; refine n_ rfl rfl rfl (by decide) ?_; refine n_ rfl rfl rfl (by decide) ?_; refine n_ rfl rfl rfl (by decide) ?_; refine n_ rfl rfl rfl (by decide) ?_; refine Zv (x_ rfl rfl) (Zm rfl ?_); refine n_ rfl rfl rfl (by decide) ?_; refine n_ rfl rfl rfl (by decide) ?_; refine n_ rfl rfl rfl (by decide) ?_; refine n_ rfl rfl rfl (by decide) ?_; refine n_ rfl rfl rfl (by decide) ?_; refine Zv (x_ rfl rfl) ?_; have f := Zj c; refine Ze [(2, ZP k), (3, ZP m), (28, (.bool true))] ?_; subst f; refine s_ (fun a ha => ⟨ha, kp⟩)
  ·rw [if_neg (by rw [q]; decide)] at c; refine k_ (L_ rfl Tryz.isAgg28 Tryz.sizeOf28 rfl j.cells) (by decide) ⟨_, rfl, (Zb q)⟩ ?_; obtain ⟨Q, R, c⟩ := bind_some c; refine bI_ (by decide) ⟨_, rfl, (Zb q)⟩ ?_; refine p_ (gq_ fuel A _ u (⟨_, _, rfl, (a2.keep hB.keeps), (a3.keep hB.keeps)⟩) Q R) Tryz.call43 ⟨rfl, trivial⟩ ?_; rintro c8 c9 ⟨rfl, S⟩; have T := S.stp 999 v; refine ⟨_, rfl, ?_⟩; replace d := d.stp T; replace j := j.stp T; replace kp := Keeps.trans kp S; refine k_ (ba_ rfl) (by decide) ⟨_, rfl, (Zb q)⟩ (Zv (B_ (Zb q) rfl) (Zm rfl ?_)); rcases Bool.eq_false_or_eq_true (!Q) with g | g
   ·rw [if_pos g] at c; refine n_ rfl rfl (by rw [g]; rfl) (by decide) ?_; refine n_ rfl rfl (by rw [g]; rfl) (by decide) ?_; refine n_ rfl rfl (by rw [g]; rfl) (by decide) ?_; refine n_ rfl rfl (by rw [g]; rfl) (by decide) ?_; refine n_ rfl rfl (by rw [g]; rfl) (by decide) ?_; refine Zv (x_ (Zb g) rfl) (Zm rfl ?_); refine n_ rfl rfl rfl (by decide) ?_; refine n_ rfl rfl rfl (by decide) ?_; refine n_ rfl rfl rfl (by decide) ?_; refine n_ rfl rfl rfl (by decide) ?_; refine n_ rfl rfl rfl (by decide) ?_; refine Zv (x_ rfl rfl) ?_; have f := Zj c; refine Ze [(2, ZP k), (3, ZP m), (28, (.bool true))] ?_; subst f; refine s_ (fun a ha => ⟨ha, kp⟩)
   ·rw [if_neg (by rw [g]; decide)] at c; refine k_ (l_ rfl Tryz.underlying28 rfl Tryz.sizeOf3) (by decide) ⟨_, rfl, (Zb g)⟩ (k_ (e_ rfl Tryz.isAgg3 (d.cell rfl)) (by decide) ⟨_, rfl, (Zb g)⟩ (k_ (l_ rfl Tryz.underlying28 rfl Tryz.sizeOf3) (by decide) ⟨_, rfl, (Zb g)⟩ (k_ (e_ rfl Tryz.isAgg3 (j.cell rfl)) (by decide) ⟨_, rfl, (Zb g)⟩ (k_ (bK_ rfl rfl) (by decide) ⟨_, rfl, (Zb g)⟩ (Zv (B_ (Zb g) rfl) (Zm rfl ?_)))))); rcases Bool.eq_false_or_eq_true (s.Labels != u.Labels) with i | i
    ·rw [if_pos i] at c; refine n_ rfl rfl (by rw [i]; rfl) (by decide) ?_; refine n_ rfl rfl (by rw [i]; rfl) (by decide) ?_; refine n_ rfl rfl (by rw [i]; rfl) (by decide) ?_; refine n_ rfl rfl (by rw [i]; rfl) (by decide) ?_; refine n_ rfl rfl (by rw [i]; rfl) (by decide) ?_; refine Zv (x_ (Zb i) rfl) ?_; have f := Zj c; refine Ze [(2, ZP k), (3, ZP m), (28, (.bool true))] ?_; subst f; refine s_ (fun a ha => ⟨ha, kp⟩)
    ·rw [if_neg (by rw [i]; decide)] at c; refine k_ (l_ rfl Tryz.underlying28 rfl Tryz.sizeOf3) (by decide) ⟨_, rfl, (Zb i)⟩ (k_ (e_ rfl Tryz.isAgg3 (d.cell rfl)) (by decide) ⟨_, rfl, (Zb i)⟩ (k_ (l_ rfl Tryz.underlying28 rfl Tryz.sizeOf3) (by decide) ⟨_, rfl, (Zb i)⟩ (k_ (e_ rfl Tryz.isAgg3 (j.cell rfl)) (by decide) ⟨_, rfl, (Zb i)⟩ (k_ (bK_ rfl rfl) (by decide) ⟨_, rfl, (Zb i)⟩ (Zv (B_ (Zb i) rfl) ?_))))); have f := Zj c; refine Ze [(2, ZP k), (3, ZP m), (28, (.bool (s.Degree != u.Degree)))] ?_; subst f; refine s_ (fun a ha => ⟨ha, kp⟩)
 rintro d0 z ⟨ha, a8⟩; have C := a8.stp 999 v; replace d := d.stp C; replace j := j.stp C; replace hB := hB.stp C; refine aV_ ha ?_; refine Ze [(2, ZP k), (3, ZP m), (28, (.bool P))] (nx ?_); refine o_ rfl (fun D => ?_) (fun D => ?_)
 ·rw [if_pos D] at hF; refine Zq (Za rfl (Za rfl (Ze [(4, (.slice none 0 0)), (5, (.bool false))] (nx (m_ (D_ ?_)))))); have a9 := Zj hF; subst a9; refine Zr Tryz.results53 [(.slice none 0 0), (.bool false)] ?_; exact ⟨_, rt oo v w.heap.size 9 t, rfl, (Ow.nil _ _ _ _ _), hB.keeps, af_ _ _ _ _ _⟩
 ·rw [if_neg (by rw [D]; decide)] at hF; refine g_ (nx (a_ (Zq (Zv (l_ rfl Tryz.underlying28 rfl Tryz.sizeOf22) (Zv (e_ rfl Tryz.isAgg22 (d.cell rfl)) (Zv (C_ rfl a0 Tryz.underlying22) (Zv (l_ rfl Tryz.underlying28 rfl Tryz.sizeOf22) (Zv (e_ rfl Tryz.isAgg22 (j.cell rfl)) (Zv (C_ rfl a2 Tryz.underlying22) (Zv (bK_ rfl rfl) (Zm rfl ?_))))))))))); obtain ⟨U, y, hF⟩ := bind_some hF; refine as_ 8 (fun b0 V => Fr b0 56 [(2, ZP k), (3, ZP m), (44, (.bool U))] ∧ Keeps z V) ?_ ?_; all_goals simp only [List.take_succ_cons, List.take_zero, List.drop_succ_cons, List.drop_zero]
  ·have kp : Keeps z z := Keeps.refl _; rcases Bool.eq_false_or_eq_true ((s.Nodes.length : Int) != (u.Nodes.length : Int)) with b | b
   ·rw [if_pos b] at y; refine n_ rfl rfl (by rw [b]; rfl) (by decide) ?_; refine n_ rfl rfl (by rw [b]; rfl) (by decide) ?_; refine n_ rfl rfl (by rw [b]; rfl) (by decide) ?_; refine n_ rfl rfl (by rw [b]; rfl) (by decide) ?_; refine n_ rfl rfl (by rw [b]; rfl) (by decide) ?_; refine n_ rfl rfl (by rw [b]; rfl) (by decide) ?_; refine n_ rfl rfl (by rw [b]; rfl) (by decide) ?_; refine Zv (x_ (Zb b) rfl) ?_; have x := Zj y; refine Ze [(2, ZP k), (3, ZP m), (44, (.bool true))] ?_; subst x; refine s_ (fun a ha => ⟨ha, kp⟩)
   ·rw [if_neg (by rw [b]; decide)] at y; refine k_ (l_ rfl Tryz.underlying28 rfl Tryz.sizeOf22) (by decide) ⟨_, rfl, (Zb b)⟩ (k_ (e_ rfl Tryz.isAgg22 (d.cell rfl)) (by decide) ⟨_, rfl, (Zb b)⟩ (k_ (C_ rfl a1 Tryz.underlying22) (by decide) ⟨_, rfl, (Zb b)⟩ (k_ (l_ rfl Tryz.underlying28 rfl Tryz.sizeOf22) (by decide) ⟨_, rfl, (Zb b)⟩ (k_ (e_ rfl Tryz.isAgg22 (j.cell rfl)) (by decide) ⟨_, rfl, (Zb b)⟩ (k_ (C_ rfl a3 Tryz.underlying22) (by decide) ⟨_, rfl, (Zb b)⟩ (k_ (bK_ rfl rfl) (by decide) ⟨_, rfl, (Zb b)⟩ (Zv (B_ (Zb b) rfl) ?_))))))); have x := Zj y; refine Ze [(2, ZP k), (3, ZP m), (44, (.bool ((s.Edges.length : Int) != (u.Edges.length : Int))))] ?_; subst x; refine s_ (fun a ha => ⟨ha, kp⟩)
  rintro d1 V ⟨ha, b1⟩; have E := b1.stp 999 v; replace d := d.stp E; replace j := j.stp E; replace hB := hB.stp E; refine aV_ ha ?_; refine Ze [(2, ZP k), (3, ZP m), (44, (.bool U))] (nx ?_); refine o_ rfl (fun F => ?_) (fun F => ?_)
  ·rw [if_pos F] at hF; refine Zq (Za rfl (Za rfl (Ze [(4, (.slice none 0 0)), (5, (.bool false))] (nx (m_ (D_ ?_)))))); have b2 := Zj hF; subst b2; refine Zr Tryz.results53 [(.slice none 0 0), (.bool false)] ?_; exact ⟨_, rt oo v w.heap.size 9 t, rfl, (Ow.nil _ _ _ _ _), hB.keeps, af_ _ _ _ _ _⟩
  ·rw [if_neg (by rw [F]; decide)] at hF; refine g_ (Zn (Zv (L_ rfl Tryz.isAgg28 Tryz.sizeOf28 rfl d.cells) (Zv (L_ rfl Tryz.isAgg28 Tryz.sizeOf28 rfl j.cells) (Zv (bP_ (vs := [(0, (.agg #[(ZI s.Labels), (ZI s.Degree), I, J])), (1, (.agg #[(ZI u.Labels), (ZI u.Degree), K, L]))]) (cs := [(ZI s.Labels), (ZI s.Degree), I, J, (ZI u.Labels), (ZI u.Degree), K, L, (.slice none 0 0)]) ⟨rfl, rfl, rfl, rfl, trivial⟩ (by kernel_rfl)) (Zo ?_))))); refine aK_ (o := v) w.heap.size 15 hB.keeps.size (cs := [(ZI s.Labels), (ZI s.Degree), I, J, (ZI u.Labels), (ZI u.Degree), K, L, (.slice none 0 0)]) rfl rfl ?_; intro b3 b4 G b5 b6; replace hB := hB.stp b6; refine Za rfl (Ze [(6, ZP G)] (nx (a_ (Zq (Zm rfl ?_))))); obtain ⟨W, X, hF⟩ := bind_some hF; refine Zo ?_; refine p_ (hH_ fuel w b4 oo b3 hB s u I a0 J a1 K a2 L a3 G _ [] b5 (Ow.nil _ _ _ _ _) W X) Tryz.call79 ⟨rfl, trivial⟩ ?_; rintro d2 d3 ⟨Y, Z, rfl, b7, b8, hB⟩; refine ⟨_, rfl, ?_⟩; refine Zv (ba_ rfl) (Ze [(6, ZP G), (51, (.bool (!W.1)))] (nx ?_)); refine o_ rfl (fun H => ?_) (fun H => ?_)
   ·rw [if_pos H] at hF; refine Zq (Za rfl (Za rfl (Ze [(4, (.slice none 0 0)), (5, (.bool false))] (nx (m_ (D_ ?_)))))); have b9 := Zj hF; subst b9; refine Zr Tryz.results53 [(.slice none 0 0), (.bool false)] ?_; exact ⟨_, rt oo Y w.heap.size 9 t, rfl, (Ow.nil _ _ _ _ _), hB.keeps, af_ _ _ _ _ _⟩
   ·rw [if_neg (by rw [H]; decide)] at hF; refine g_ (Zn (Zm rfl (Zv (bh_ rfl) (Zv (l_ rfl Tryz.underlying85 rfl Tryz.sizeOf41) (Zv (e_ rfl Tryz.isAgg41 (b7.cell rfl)) (Za rfl (Za rfl (Ze [(4, Z), (5, (.bool true))] (nx (m_ ?_)))))))))); have c0 := Zj hF; subst c0; refine Zr Tryz.results53 [Z, (.bool true)] ?_; exact ⟨_, rt oo Y w.heap.size 13 t, rfl, b8.rt hB (by decide) t, hB.keeps, af_ _ _ _ _ _⟩
def cH_ (fuel : Nat) (c : b_) : Option (Bool × Bool) :=
  (dd_ fuel c) >>= fun a =>
  if !a.2.2.2 then
    some (false, false)
  else
    (bT_ fuel c a.1) >>= fun b =>
    some (b.2, true)

def jm_ (w : World) (r : Bool × Bool) : Ending → World → Prop := fun e w' => e = .returned (.tuple #[.bool r.1, .bool r.2]) ∧ Keeps w w'
theorem jg_ (fuel : Nat) (w : World) (S : List Value) (j : b_) (X : Rp.rd zt w S j) (r : Bool × Bool) (hF : cH_ fuel j = some r) :
    Calls Tryz.prog 21 #[.agg S.toArray] w (jm_ w r) := by
 unfold cH_ at hF; obtain ⟨T, U, rfl, V, W⟩ := X; have hB : Bs (fun _ => 1) (col (fun _ => 1)) w w := Bs.start _ _; refine i_ (n := 26) (vs := [(.agg #[(ZI j.Labels), (ZI j.Degree), T, U])]) Tryz.func21 rfl rfl ?_; refine Zq (Zo ?_); refine aK_ (o := (col (fun _ => 1))) w.heap.size 11 hB.keeps.size (cs := [(ZI j.Labels), (ZI j.Degree), T, U]) rfl rfl ?_; intro Y Z C k a0; replace hB := hB.stp a0; refine Za rfl (Za rfl (Ze [(1, ZP C)] (Zn (Zv (L_ rfl Tryz.isAgg28 Tryz.sizeOf28 rfl k.cells) ?_)))); obtain ⟨a, s, hF⟩ := bind_some hF; refine Zo ?_; refine p_ (ia_ fuel Z Y 12 (by decide) _ j (⟨_, _, rfl, (V.keep hB.keeps), (W.keep hB.keeps)⟩) a s) Tryz.call52 ⟨rfl, trivial⟩ ?_; rintro a1 u ⟨a2, a3, a4, m, rfl, D, v, x, a5, E, F, G⟩; have y := F.stp' 12 G; have a6 := E.rd; refine ⟨_, rfl, ?_⟩; obtain ⟨H, I, rfl, b, d⟩ := D; replace v : Dz 41 3 m u H a.1.Nodes := v; replace x : Dz 41 3 m u I a.1.Edges := x; replace k := k.stp y; replace hB := hB.stp y; refine Zm rfl (Zv (u_ rfl rfl) (Zv (u_ rfl rfl) (Zv (u_ rfl rfl) (Zv (u_ rfl rfl) (Zo ?_))))); refine aB_ (o := m) w.heap.size 13 hB.keeps.size (cs := [(ZI 0), (ZI 0), (.slice none 0 0), (.slice none 0 0)]) Tryz.zeroValue28 rfl ?_; intro J a7 A K f; replace b := b.stp f; replace d := d.stp f; replace k := k.stp f; replace hB := hB.stp f; refine ad_ trivial ?_; refine aa_ K rfl rfl rfl fM_ (by intro c hc; simp only [List.mem_cons, List.not_mem_nil, or_false] at hc; rcases hc with rfl | rfl | rfl | rfl <;> first | rfl | exact b.one1 | exact d.one1) ?_; intro L M g; replace b := b.stp g; replace d := d.stp g; replace k := k.stp g; replace hB := hB.stp g; refine Za rfl (Za rfl (Za rfl (Ze [(1, ZP C), (4, ZP A), (7, (.bool a.2.2.2))] (nx (a_ (Zq (Zm rfl (Zv (ba_ rfl) (Ze [(1, ZP C), (4, ZP A), (18, (.bool (!a.2.2.2)))] (nx ?_)))))))))); refine o_ rfl (fun q => ?_) (fun q => ?_)
 ·rw [if_pos q] at hF; refine Zq (Za rfl (Za rfl (Ze [(2, (.bool false)), (3, (.bool false))] (nx (m_ (D_ ?_)))))); have N := Zj hF; subst N; refine Zr Tryz.results21 [(.bool false), (.bool false)] ?_; exact ⟨rfl, hB.keeps⟩
 ·rw [if_neg (by rw [q]; decide)] at hF; refine g_ (Zn (Zv (L_ rfl Tryz.isAgg28 Tryz.sizeOf28 rfl k.cells) (Zv (L_ rfl Tryz.isAgg28 Tryz.sizeOf28 rfl M.cells) ?_))); obtain ⟨i, B, hF⟩ := bind_some hF; refine Zo ?_; refine p_ (hq_ fuel L J 14 (by decide) _ j (⟨_, _, rfl, (V.keep hB.keeps), (W.keep hB.keeps)⟩) _ a.1 (⟨_, _, rfl, b.z, d.z⟩) i B) Tryz.call53 ⟨rfl, rfl, trivial⟩ ?_; rintro a8 a9 ⟨b0, b1, rfl, b2, O, P⟩; have Q := O.stp' 14 P; refine ⟨_, rfl, ?_⟩; replace hB := hB.stp Q; refine Zm rfl (Zv (u_ rfl rfl) (Zv (u_ rfl rfl) (Za rfl (Za rfl (Ze [(9, (.bool i.2))] (Zn (Zm rfl (Za rfl (Za rfl (Ze [(2, (.bool i.2)), (3, (.bool true))] (nx (m_ ?_)))))))))))); have R := Zj hF; subst R; refine Zr Tryz.results21 [(.bool i.2), (.bool true)] ?_; exact ⟨rfl, hB.keeps⟩
end

section
theorem if_ {ρ : Type} {f : Int → Option (Lp Int Int ρ)} (P : Nat → Prop) (R : ρ → Prop) (n : Nat) (h : ∀ j : Nat, j < n → ∃ z, f (j : Int) = some z ∧ ((z = .go ((j + 1 : Nat) : Int) ∧ ¬ P j) ∨ ∃ r, z = .ret r ∧ R r ∧ P j)) (hout : f (n : Int) = some (.out (n : Int))) :
  ∀ (d j fuel : Nat), j + d = n → d < fuel → ∃ z, loopF f fuel (j : Int) = some z ∧ ((z = .inl (n : Int) ∧ ∀ i, j ≤ i → i < n → ¬ P i) ∨ ∃ r, z = .inr r ∧ R r ∧ ∃ i, i < n ∧ P i)
 | 0, j, fuel, hj, hf => by
  obtain ⟨m, rfl⟩ : ∃ m, fuel = m + 1 := ⟨fuel - 1, by omega⟩
  have : j = n := by omega
  subst this
  exact ⟨_, by simp only [loopF, hout], .inl ⟨rfl, fun i h1 h2 => by omega⟩⟩
 | d + 1, j, fuel, hj, hf => by
  obtain ⟨m, rfl⟩ : ∃ m, fuel = m + 1 := ⟨fuel - 1, by omega⟩
  obtain ⟨z, h1, h2⟩ := h j (by omega)
  rcases h2 with ⟨rfl, hn⟩ | ⟨r, rfl, hr, hp⟩
  ·obtain ⟨z, g1, g2⟩ := if_ P R n h hout d (j + 1) m (by omega) (by omega)
   refine ⟨z, by simp only [loopF, h1]; exact g1, ?_⟩
   rcases g2 with ⟨e, g⟩ | g
   ·refine .inl ⟨e, fun i i1 i2 => ?_⟩
    by_cases q : i = j
    ·subst q; exact hn
    ·exact g i (by omega) i2
   ·exact .inr g
  ·exact ⟨_, by simp only [loopF, h1], .inr ⟨r, rfl, hr, j, by omega, hp⟩⟩
theorem jh_ {σ ρ : Type} {body : Int → σ → Option (Lp σ σ ρ)} (s : σ) (P : Nat → Prop) (R : ρ → Prop) (n : Nat) (h : ∀ j : Nat, j < n → ∃ z, body (j : Int) s = some z ∧ ((z = .go s ∧ ¬ P j) ∨ ∃ r, z = .ret r ∧ R r ∧ P j)) :
  ∀ (d j : Nat), j + d = n → ∃ z, forN body d (j : Int) s = some z ∧ ((z = .inl s ∧ ∀ i, j ≤ i → i < n → ¬ P i) ∨ ∃ r, z = .inr r ∧ R r ∧ ∃ i, i < n ∧ P i)
 | 0, j, hj => ⟨_, rfl, .inl ⟨rfl, fun i h1 h2 => by omega⟩⟩
 | d + 1, j, hj => by
  obtain ⟨z, h1, h2⟩ := h j (by omega)
  rcases h2 with ⟨rfl, hn⟩ | ⟨r, rfl, hr, hp⟩
  ·obtain ⟨z, g1, g2⟩ := jh_ s P R n h d (j + 1) (by omega)
   refine ⟨z, by simp only [forN, h1]; exact g1, ?_⟩
   rcases g2 with ⟨e, g⟩ | g
   ·refine .inl ⟨e, fun i i1 i2 => ?_⟩
    by_cases q : i = j
    ·subst q; exact hn
    ·exact g i (by omega) i2
   ·exact .inr g
  ·exact ⟨_, by simp only [forN, h1], .inr ⟨r, rfl, hr, j, by omega, hp⟩⟩
def cvec (a : Int) (l : List (List Int)) : List Int := (List.range 5).map fun m => ((occ a m l : Nat) : Int)
theorem kF_ (a : Int) : ∀ (x : List Int) (k s : Int), 0 ≤ s → s + x.length ≤ 1000000 → forI (bW_ a) x k s = some (.inl (s + (x.count a : Nat)))
 | [], k, s, _, _ => by simp [forI]
 | y :: x, k, s, h0, h1 => by
  simp only [List.length_cons] at h1
  by_cases e : a = y
  ·have hb : bW_ a k y s = some (.go (s + 1)) := by
    unfold bW_
    rw [if_pos (by simpa using e), G_ (by omega) (by omega), sb]
   simp only [forI, hb]
   rw [kF_ a x (k + 1) (s + 1) (by omega) (by omega), List.count_cons, if_pos (by simpa using e.symm)]
   congr 2; omega
  ·have hb : bW_ a k y s = some (.go s) := by
    unfold bW_
    rw [if_neg (by simpa using e)]
   simp only [forI, hb]
   rw [kF_ a x (k + 1) s h0 (by omega), List.count_cons, if_neg (by simpa using fun h => e h.symm), Nat.add_zero]
theorem qL_ {a : Int} {m : Nat} {l : List (List Int)} {j : Nat} {x : List Int} (hx : l[j]? = some x) : occ a m (l.take (j + 1)) = occ a m (l.take j) + if x.count a = m then 1 else 0 := by
 unfold occ
 rw [List.take_add_one, hx, Option.toList_some, List.filter_append, List.length_append]
 congr 1
 by_cases e : x.count a = m
 ·rw [if_pos e]; simp [e]
 ·rw [if_neg e]; simp [e]
theorem py_ (a : Int) (m : Nat) (l : List (List Int)) : occ a m l ≤ l.length := List.length_filter_le _ _
theorem hh_ (a : Int) (l : List (List Int)) (hl : ∀ x ∈ l, x.length ≤ 4) (h : l.length ≤ 1000000000) : dp_ l a = some (cvec a l) := by
 have := lz_ (ρ := List Int) (body := dL_ a) (fun j => cvec a (l.take j)) l (fun j x hj => by
  have hx := hl x (List.mem_of_getElem? hj)
  have hc : x.count a ≤ 4 := Nat.le_trans List.count_le_length hx
  have hle := py_ a (x.count a) (l.take j)
  rw [List.length_take] at hle
  have hat : ix (cvec a (l.take j)) (0 + ((x.count a : Nat) : Int)) = some ((occ a (x.count a) (l.take j) : Nat) : Int) := by
   rw [Int.zero_add, ct_]
   unfold cvec
   rw [List.getElem?_map, List.getElem?_range (by omega)]
   rfl
  unfold dL_
  rw [kF_ a x 0 0 (by omega) (by omega), sb]
  simp only
  rw [hat, sb, G_ (by omega) (by omega), sb, sb, Int.zero_add, iO_ _ _ _ (by simp [cvec]; omega), sb]
  congr 2
  unfold cvec
  refine List.ext_getElem (by simp) fun i h1 h2 => ?_
  rw [List.getElem_set]
  simp only [List.getElem_map, List.getElem_range]
  rw [qL_ hj]
  by_cases e : x.count a = i
  ·rw [if_pos e, if_pos e, ← e]; omega
  ·rw [if_neg e, if_neg e, Nat.add_zero])
 rw [List.take_length] at this
 unfold dp_ mk
 rw [if_pos (by decide), sb, show (List.replicate (5 : Int).toNat (Rz.z : Int)) = cvec a (l.take 0) from rfl, this, sb]
def rowP (x : List Int) : Prop := x ≠ [] ∧ x.Pairwise (· ≤ ·) ∧ (∀ y ∈ x, 0 ≤ y) ∧ x.length ≤ 4
theorem pV_ {x : List Int} (h : x ≠ []) (h4 : x.length ≤ 4) : (ck ((x.length : Int) - 1)) = some ((x.length : Int) - 1) ∧ ix x ((x.length : Int) - 1) = some (x.getD (x.length - 1) 0) := by
 have hp : 0 < x.length := List.length_pos_iff.2 h
 refine ⟨G_ (by omega) (by omega), ?_⟩
 rw [show (x.length : Int) - 1 = ((x.length - 1 : Nat) : Int) by omega, ct_, List.getD_eq_getElem?_getD, List.getElem?_eq_getElem (by omega)]
 rfl
theorem rm_ {x f : List Int} (hx : rowP x) (e : x.getD (x.length - 1) 0 = (f.length : Int) - 1) : ∀ y ∈ x, 0 ≤ y ∧ y < f.length := fun y hy => by
 have := ns_ hx.2.1 y hy
 have := hx.2.2.1 y hy
 omega
theorem ni_ (fuel : Nat) (hfu : 1000 < fuel) (l m : List (List Int)) (f : List Int) (hl : ∀ x ∈ l, rowP x) (hf : f.length ≤ 1000) : ∃ b, fj_ fuel l m f = some b ∧ (b = true ↔ keptP l m f) := by
 obtain ⟨z, h1, h2⟩ := dT_ (body := er_ fuel m f ((f.length : Int) - 1)) (fun x => x.getD (x.length - 1) 0 = (f.length : Int) - 1 ∧ srt (imgL f x) ∉ m) (fun r : Bool => r = false) l 0 (fun x hx j => by
  have hr := hl x hx
  obtain ⟨i1, i2⟩ := pV_ hr.1 hr.2.2.2
  unfold er_
  rw [i1, sb, i2, sb]
  by_cases e : x.getD (x.length - 1) 0 = (f.length : Int) - 1
  ·have hlen := gR_ f x
   have h4 := hr.2.2.2
   rw [if_pos (by simpa using e), (iZ_ f x (by omega) (rm_ hr e) (by omega)).1, sb, gM_ _ fuel (by omega) (by omega), sb, ← eZ_, hP_ _ _ (by rw [dq_]; omega), sb, sb]
   by_cases hm : srt (imgL f x) ∈ m
   ·exact ⟨_, by rw [decide_eq_true hm, if_neg (by simp)], .inl ⟨rfl, fun h => h.2 hm⟩⟩
   ·exact ⟨_, by rw [decide_eq_false hm, if_pos (by simp)], .inr ⟨_, rfl, rfl, e, hm⟩⟩
  ·exact ⟨_, by rw [if_neg (by simpa using e), sb, if_neg (by simp)], .inl ⟨rfl, fun h => e h.1⟩⟩)
 unfold fj_
 rw [G_ (by omega) (by omega), sb, h1, sb]
 rcases h2 with ⟨rfl, hn⟩ | ⟨r, rfl, rfl, x, hx, e, hm⟩
 ·exact ⟨_, rfl, fun _ x hx e => Classical.byContradiction fun hm => hn x hx ⟨e, hm⟩, fun _ => rfl⟩
 ·exact ⟨_, rfl, by simp, fun hk => absurd (hk x hx e) hm⟩
theorem np_ (fuel : Nat) (l m : List (List Int)) (r : bX_) (mm nn : Int) (hm : confsB m mm nn = true) (hJ : m.length ≤ 1000000000) (hfu : m.length < fuel) (hl : ∀ x ∈ l, rowP x ∧ (x.length : Int) = mm) (hf : r.perm.length ≤ 1000) :
  ∃ b, bF_ fuel r l m = some b ∧ (b = true ↔ keptP l m r.perm) := by
 obtain ⟨z, h1, h2⟩ := dT_ (body := bB_ fuel r m ((r.perm.length : Int) - 1)) (fun x => x.getD (x.length - 1) 0 = (r.perm.length : Int) - 1 ∧ srt (imgL r.perm x) ∉ m) (fun b : Bool => b = false) l 0 (fun x hx j => by
  obtain ⟨hr, hxm⟩ := hl x hx
  obtain ⟨i1, i2⟩ := pV_ hr.1 hr.2.2.2
  unfold bB_
  rw [i1, sb, i2, sb]
  by_cases e : x.getD (x.length - 1) 0 = (r.perm.length : Int) - 1
  ·have hlen := gR_ r.perm x
   have h4 := hr.2.2.2
   have hrg := rm_ hr e
   have hin := lz_ (ρ := Bool) (body := by_ r) (fun j => imgL r.perm (x.take j)) x (fun j y hj => by
    have hy := hrg y (List.mem_of_getElem? hj)
    have hi : ix r.perm y = some (r.perm.getD y.toNat 0) := by
     unfold ix
     rw [if_pos hy.1, List.getD_eq_getElem?_getD, List.getElem?_eq_getElem (by omega)]
     rfl
    unfold by_
    rw [hi, sb]
    unfold push
    rw [if_pos (by rw [gR_, List.length_take]; omega), sb, List.take_add_one, hj]
    simp [imgL])
   rw [List.take_length] at hin
   rw [if_neg (by simpa using e)]
   rw [show imgL r.perm (x.take 0) = ([] : List Int) from rfl] at hin
   rw [hin, sb]
   simp only
   rw [jf_ fuel m mm nn hm _ (by rw [hlen]; exact hxm) hJ (by omega) hfu, sb]
   by_cases hh : srt (imgL r.perm x) ∈ m
   ·exact ⟨_, by rw [decide_eq_true hh, if_neg (by simp)], .inl ⟨rfl, fun h => h.2 hh⟩⟩
   ·exact ⟨_, by rw [decide_eq_false hh, if_pos (by simp)], .inr ⟨_, rfl, rfl, e, hh⟩⟩
  ·exact ⟨_, by rw [if_pos (by simpa using e)], .inl ⟨rfl, fun h => e h.1⟩⟩)
 unfold bF_
 rw [G_ (by omega) (by omega), sb, h1, sb]
 rcases h2 with ⟨rfl, hn⟩ | ⟨b, rfl, rfl, x, hx, e, hh⟩
 ·exact ⟨_, rfl, fun _ x hx e => Classical.byContradiction fun hh => hn x hx ⟨e, hh⟩, fun _ => rfl⟩
 ·exact ⟨_, rfl, by simp, fun hk => absurd (hk x hx e) hh⟩
end

section
theorem oy_ (xs : List Int) (a : Int) (hl : xs.length ≤ 1000000) : aO_ xs a = some (decide (a ∈ xs)) := by
 have hI : ∃ r, bb_ xs a = some r ∧ (0 ≤ r ↔ a ∈ xs) := by
  unfold bb_
  rw [G_ (by omega) (by omega), sb, Int.toNat_natCast]
  rw [eI_ (fun k x => if a = x then some (k : Int) else none) xs (fun j x hj _ => by
   unfold bg_
   rw [ct_, hj, sb]
   by_cases e : a = x
   ·rw [if_pos (by simp [e]), if_pos e]; rfl
   ·rw [if_neg (by simpa using e), if_neg e]; rfl), sb]
  cases h : firstP (fun k x => if a = x then some (k : Int) else none) xs 0 with
  | none =>
   refine ⟨-1, rfl, ⟨fun h => by omega, fun hm => ?_⟩⟩
   obtain ⟨j, hj⟩ := List.mem_iff_getElem?.1 hm
   have := cc_.1 h j a hj
   simp at this
  | some r =>
   obtain ⟨j, x, h1, h2⟩ := cw_ h
   split at h2
   ·rename_i e
    cases h2
    subst e
    exact ⟨_, rfl, ⟨fun _ => List.mem_of_getElem? h1, fun _ => by omega⟩⟩
   ·cases h2
 obtain ⟨r, h1, h2⟩ := hI
 unfold aO_
 rw [h1, sb]
 congr 1
 rw [decide_eq_decide]
 exact h2
structure Two (p q : b_) : Prop where
  pG : probB p = true
  qG : probB q = true
  pN : p.Nodes.length ≤ 100000000
  pE : p.Edges.length ≤ 100000000
  qN : q.Nodes.length ≤ 100000000
  qE : q.Edges.length ≤ 100000000
  L : p.Labels = q.Labels
  D : p.Degree = q.Degree
theorem fm_ {X : List (List Int)} {m n : Int} (h : confsB X m n = true) (h1 : 1 ≤ m) (hm : m ≤ 4) : ∀ x ∈ X, rowP x ∧ (x.length : Int) = m := fun x hx => by
 obtain ⟨a, b, c⟩ := (gJ_ h).1 x hx
 exact ⟨⟨fun e => by subst e; simp at a; omega, gP_.1 b, fun y hy => (c y hy).1, by omega⟩, a⟩
theorem io_ {X : List (List Int)} {m n : Int} (h : confsB X m n = true) (h1 : 1 ≤ m) (hn : 0 ≤ n) : ∀ x ∈ X, x ≠ [] ∧ x.Pairwise (· ≤ ·) ∧ ∀ y ∈ x, 0 ≤ y ∧ y < (n.toNat : Int) := fun x hx => by
 obtain ⟨a, b, c⟩ := (gJ_ h).1 x hx
 exact ⟨fun e => by subst e; simp at a; omega, gP_.1 b, fun y hy => by have := c y hy; omega⟩
theorem jU_ {X : List (List Int)} {m n : Int} (h : confsB X m n = true) : X.Nodup :=
 List.Pairwise.imp (fun {a b} hab e => by
  subst e
  have := (hz_ (a := a) (b := a) rfl).2 rfl
  omega) (gJ_ h).2
def okI (p q : b_) (f : List Int) : Prop := keptP p.Nodes q.Nodes f ∧ keptP p.Edges q.Edges f
def okS (p q : b_) (f : List Int) : Prop := okI p q f ∧ cvec ((f.length : Int) - 1) p.Nodes = cvec (f.getD (f.length - 1) 0) q.Nodes ∧ cvec ((f.length : Int) - 1) p.Edges = cvec (f.getD (f.length - 1) 0) q.Edges
theorem kj_ {p q : b_} {f : List Int} {b : Int} : okS p q (f ++ [b]) ↔ okI p q (f ++ [b]) ∧ cvec (f.length : Int) p.Nodes = cvec b q.Nodes ∧ cvec (f.length : Int) p.Edges = cvec b q.Edges := by
 have e1 : (((f ++ [b]).length : Nat) : Int) - 1 = (f.length : Int) := by simp
 have e2 : (f ++ [b]).getD ((f ++ [b]).length - 1) 0 = b := by
  rw [List.getD_eq_getElem?_getD, List.getElem?_append_right (by simp)]
  simp
 unfold okS
 rw [e1, e2]
theorem rL_ {p q : b_} (h : Two p q) (hN : p.Nodes.length = q.Nodes.length) (hE : p.Edges.length = q.Edges.length) : Cpl (okS p q) p.Labels.toNat p.Labels.toNat [] ↔ Cpl (okI p q) p.Labels.toNat p.Labels.toNat [] := by
 constructor
 ·exact Cpl.mono fun f hf => hf.1
 ·intro hc
  obtain ⟨g1, g2, g3, g4, g5, g6⟩ := aU_ h.pG
  obtain ⟨g, hl, hnd, hr, hk⟩ := hc.full List.nodup_nil (by simp)
  simp only [List.nil_append] at hnd hr hk
  have mN := po_ hl (io_ g5 g3 (by omega)) (fun k hk' => (hk k hk').1)
  have mE := po_ hl (io_ g6 (by omega) (by omega)) (fun k hk' => (hk k hk').2)
  have := Cpl.of_full (ok := okS p q) (n := p.Labels.toNat) (g := g) (f := []) hr (by simpa using hnd) (fun k hk' => by
   have hkl : k < p.Labels.toNat := by omega
   have hlen : (g.take (k + 1)).length = k + 1 := by rw [List.length_take]; omega
   have e1 : (((([] : List Int) ++ g.take (k + 1)).length : Nat) : Int) - 1 = (k : Int) := by rw [List.nil_append, hlen]; omega
   have e2 : (([] : List Int) ++ g.take (k + 1)).getD ((([] : List Int) ++ g.take (k + 1)).length - 1) 0 = g.getD k 0 := by
    rw [List.nil_append, hlen, List.getD_eq_getElem?_getD, List.getElem?_take, if_pos (by omega), List.getD_eq_getElem?_getD]
    rfl
   refine ⟨by rw [List.nil_append]; exact hk k hkl, ?_, ?_⟩
   ·rw [e1, e2]
    unfold cvec
    refine List.map_congr_left fun m _ => ?_
    rw [nO_ hl hnd (io_ g5 g3 (by omega)) (jU_ g5) hN mN hkl m]
   ·rw [e1, e2]
    unfold cvec
    refine List.map_congr_left fun m _ => ?_
    rw [nO_ hl hnd (io_ g6 (by omega) (by omega)) (jU_ g6) hE mE hkl m])
  rw [hl] at this
  exact this
theorem oa_ (a : Int) (l : List (List Int)) : (cvec a l).length = 5 := by simp [cvec]
theorem oP_ {α : Type} {xs : List α} {x : α} (h : xs.length < 1000000000) : push xs x = some (xs ++ [x]) := by unfold push; rw [if_pos h]
theorem re_ (p q : b_) (h : Two p q) : ∀ (d : Nat) (f : List Int) (fuel : Nat), (f.length : Int) + d = p.Labels → 2000 + d < fuel →
  ∃ l b, aI_ fuel ⟨p, q⟩ f = some (l, b) ∧ (b = true ↔ Cpl (okS p q) p.Labels.toNat d f)
 | 0, f, fuel, hd, hf => by
  obtain ⟨m, rfl⟩ : ∃ m, fuel = m + 1 := ⟨fuel - 1, by omega⟩
  unfold aI_
  exact ⟨_, _, by rw [if_pos (by simp; omega)], fun _ => trivial, fun _ => rfl⟩
 | d + 1, f, fuel, hd, hf => by
  obtain ⟨m, rfl⟩ : ∃ m, fuel = m + 1 := ⟨fuel - 1, by omega⟩
  obtain ⟨g1, g2, g3, g4, g5, g6⟩ := aU_ h.pG
  obtain ⟨k1, k2, k3, k4, k5, k6⟩ := aU_ h.qG
  have bpN := h.pN
  have bpE := h.pE
  have bqN := h.qN
  have bqE := h.qE
  have hL := h.L
  have rN := fm_ g5 g3 g4
  have rE := fm_ g6 (by omega) (by omega)
  have sN := fm_ k5 k3 k4
  have sE := fm_ k6 (by omega) (by omega)
  obtain ⟨z, h1, h2⟩ := if_ (f := bi_ m ⟨p, q⟩ f (aI_ m)) (fun b => (b : Int) ∉ f ∧ okS p q (f ++ [(b : Int)]) ∧ Cpl (okS p q) p.Labels.toNat d (f ++ [(b : Int)])) (fun r : List Int × Bool => r.2 = true) p.Labels.toNat (fun j hj => by
   unfold bi_
   simp only
   rw [if_pos (by simp; omega), rH_, sb]
   by_cases hin : (j : Int) ∈ f
   ·exact ⟨_, by rw [decide_eq_true hin, if_pos rfl, sb, if_pos rfl, G_ (by omega) (by omega), sb]; rfl, .inl ⟨rfl, fun hh => hh.1 hin⟩⟩
   ·rw [decide_eq_false hin, if_neg (by simp), hh_ _ _ (fun x hx => (rN x hx).1.2.2.2) (by omega), sb, hh_ _ _ (fun x hx => (sN x hx).1.2.2.2) (by omega), sb, iv_ _ _ (by rw [oa_]; omega), sb]
    by_cases hc : cvec (f.length : Int) p.Nodes = cvec (j : Int) q.Nodes
    ·rw [decide_eq_true hc, if_neg (by simp), hh_ _ _ (fun x hx => (rE x hx).1.2.2.2) (by omega), sb, hh_ _ _ (fun x hx => (sE x hx).1.2.2.2) (by omega), sb, iv_ _ _ (by rw [oa_]; omega), sb, sb]
     by_cases hc2 : cvec (f.length : Int) p.Edges = cvec (j : Int) q.Edges
     ·rw [decide_eq_true hc2, if_neg (by simp), jc_ _ (by omega), sb, oP_ (by omega), sb]
      have hlen : (f ++ [(j : Int)]).length ≤ 1000 := by simp; omega
      obtain ⟨b1, a1, a2⟩ := ni_ m (by omega) p.Edges q.Edges (f ++ [(j : Int)]) (fun x hx => (rE x hx).1) hlen
      rw [a1, sb]
      cases b1
      ·have hno : ¬ keptP p.Edges q.Edges (f ++ [(j : Int)]) := fun hh => by simpa using a2.2 hh
       exact ⟨_, by rw [if_pos (by rfl), sb, if_pos rfl, G_ (by omega) (by omega), sb]; rfl, .inl ⟨rfl, fun hh => hno hh.2.1.1.2⟩⟩
      ·obtain ⟨b2, a3, a4⟩ := ni_ m (by omega) p.Nodes q.Nodes (f ++ [(j : Int)]) (fun x hx => (rN x hx).1) hlen
       rw [if_neg (by simp), a3, sb, sb]
       cases b2
       ·have hno : ¬ keptP p.Nodes q.Nodes (f ++ [(j : Int)]) := fun hh => by simpa using a4.2 hh
        exact ⟨_, by rw [if_pos (by rfl), G_ (by omega) (by omega), sb]; rfl, .inl ⟨rfl, fun hh => hno hh.2.1.1.1⟩⟩
       ·obtain ⟨l, b, c1, c2⟩ := re_ p q h d (f ++ [(j : Int)]) m (by simp; omega) (by omega)
        have hok : okS p q (f ++ [(j : Int)]) := kj_.2 ⟨⟨a4.1 rfl, a2.1 rfl⟩, hc, hc2⟩
        rw [if_neg (by simp), c1, sb]
        cases b
        ·exact ⟨_, by rw [if_neg (by simp), G_ (by omega) (by omega), sb]; rfl, .inl ⟨rfl, fun hh => by simpa using c2.2 hh.2.2⟩⟩
        ·exact ⟨_, by rw [if_pos (by rfl)], .inr ⟨_, rfl, rfl, hin, hok, c2.1 rfl⟩⟩
     ·exact ⟨_, by rw [decide_eq_false hc2, if_pos (by simp), G_ (by omega) (by omega), sb]; rfl, .inl ⟨rfl, fun hh => hc2 (kj_.1 hh.2.1).2.2⟩⟩
    ·exact ⟨_, by rw [decide_eq_false hc, if_pos (by simp), sb, if_pos rfl, G_ (by omega) (by omega), sb]; rfl, .inl ⟨rfl, fun hh => hc (kj_.1 hh.2.1).2.1⟩⟩)
   (by
    unfold bi_
    rw [if_neg (by simp; omega)]) p.Labels.toNat 0 m (by omega) (by omega)
  unfold aI_
  rw [if_neg (by simp; omega)]
  rw [show ((0 : Nat) : Int) = 0 from rfl] at h1
  rw [h1, sb]
  rcases h2 with ⟨rfl, hn⟩ | ⟨r, rfl, hr, b, hb, hp⟩
  ·exact ⟨_, _, rfl, by simp, fun ⟨b, hb, hp⟩ => absurd hp (hn b (Nat.zero_le _) hb)⟩
  ·obtain ⟨l, b'⟩ := r
   exact ⟨_, _, rfl, fun _ => ⟨b, hb, hp⟩, fun _ => hr⟩
theorem nF_ (p q : b_) (h : Two p q) : ∀ (d : Nat) (f : List Int) (fuel : Nat), (f.length : Int) + d = p.Labels → 200000000 + d < fuel →
  ∃ r, ay_ fuel p q f = some r ∧ ((r.1 = true ∧ Cpl (okI p q) p.Labels.toNat d f) ∨ (r.1 = false ∧ r.2 = f ∧ ¬ Cpl (okI p q) p.Labels.toNat d f))
 | 0, f, fuel, hd, hf => by
  obtain ⟨m, rfl⟩ : ∃ m, fuel = m + 1 := ⟨fuel - 1, by omega⟩
  unfold ay_
  exact ⟨_, by rw [if_pos (by simp; omega)], .inl ⟨rfl, trivial⟩⟩
 | d + 1, f, fuel, hd, hf => by
  obtain ⟨m, rfl⟩ : ∃ m, fuel = m + 1 := ⟨fuel - 1, by omega⟩
  obtain ⟨g1, g2, g3, g4, g5, g6⟩ := aU_ h.pG
  obtain ⟨k1, k2, k3, k4, k5, k6⟩ := aU_ h.qG
  have bqN := h.qN
  have bqE := h.qE
  have hD := h.D
  have rN := fm_ g5 g3 g4
  have rE := fm_ g6 (by omega) (by omega)
  obtain ⟨z, h1, h2⟩ := jh_ (body := bz_ m p q (ay_ m)) f (fun b => (b : Int) ∉ f ∧ okI p q (f ++ [(b : Int)]) ∧ Cpl (okI p q) p.Labels.toNat d (f ++ [(b : Int)])) (fun r : Bool × List Int => r.1 = true) p.Labels.toNat (fun j hj => by
   have hcut : (ck (((f ++ [(j : Int)]).length : Int) - 1)) = some (f.length : Int) ∧ cut (f ++ [(j : Int)]) 0 (f.length : Int) = some f := by
    refine ⟨by rw [G_ (by simp <;> omega) (by simp <;> omega), List.length_append, List.length_singleton]; (try (congr 1; omega)), ?_⟩
    unfold cut
    rw [if_pos ⟨Int.le_refl 0, by omega, by simp; omega⟩]
    simp
   unfold bz_
   rw [oy_ _ _ (by omega), sb]
   by_cases hin : (j : Int) ∈ f
   ·exact ⟨_, by rw [decide_eq_true hin, if_pos rfl], .inl ⟨rfl, fun hh => hh.1 hin⟩⟩
   ·rw [decide_eq_false hin, if_neg (by simp), oP_ (by omega), sb]
    have hlen : (f ++ [(j : Int)]).length ≤ 1000 := by simp; omega
    obtain ⟨b1, a1, a2⟩ := np_ m p.Nodes q.Nodes (⟨⟨p.Labels, p.Degree, p.Nodes, p.Edges⟩, ⟨q.Labels, q.Degree, q.Nodes, q.Edges⟩, f ++ [(j : Int)]⟩ : bX_) q.Degree q.Labels k5 (by omega) (by omega) (fun x hx => ⟨(rN x hx).1, by rw [(rN x hx).2, hD]⟩) hlen
    rw [a1, sb]
    cases b1
    ·have hno : ¬ keptP p.Nodes q.Nodes (f ++ [(j : Int)]) := fun hh => by simpa using a2.2 hh
     exact ⟨_, by rw [if_neg (by simp), sb, if_neg (by simp), hcut.1, sb, hcut.2, sb], .inl ⟨rfl, fun hh => hno hh.2.1.1⟩⟩
    ·obtain ⟨b2, a3, a4⟩ := np_ m p.Edges q.Edges (⟨⟨p.Labels, p.Degree, p.Nodes, p.Edges⟩, ⟨q.Labels, q.Degree, q.Nodes, q.Edges⟩, f ++ [(j : Int)]⟩ : bX_) 2 q.Labels k6 (by omega) (by omega) (fun x hx => rE x hx) hlen
     rw [if_pos rfl, a3, sb]
     cases b2
     ·have hno : ¬ keptP p.Edges q.Edges (f ++ [(j : Int)]) := fun hh => by simpa using a4.2 hh
      exact ⟨_, by rw [if_neg (by simp), sb, if_neg (by simp), hcut.1, sb, hcut.2, sb], .inl ⟨rfl, fun hh => hno hh.2.1.2⟩⟩
     ·obtain ⟨r, c1, c2⟩ := nF_ p q h d (f ++ [(j : Int)]) m (by simp; omega) (by omega)
      rw [if_pos rfl, c1, sb, sb]
      rcases c2 with ⟨c2, c3⟩ | ⟨c2, c3, c4⟩
      ·exact ⟨_, by rw [if_pos c2], .inr ⟨_, rfl, rfl, hin, ⟨a2.1 rfl, a4.1 rfl⟩, c3⟩⟩
      ·exact ⟨_, by rw [if_neg (by rw [c2]; simp), c3, hcut.1, sb, hcut.2, sb], .inl ⟨rfl, fun hh => c4 hh.2.2⟩⟩) p.Labels.toNat 0 (by omega)
  unfold ay_
  rw [if_neg (by simp; omega), G_ (by omega) (by omega), sb]
  rw [show ((0 : Nat) : Int) = 0 from rfl] at h1
  rw [h1, sb]
  rcases h2 with ⟨rfl, hn⟩ | ⟨r, rfl, hr, b, hb, hp⟩
  ·exact ⟨_, rfl, .inr ⟨rfl, rfl, fun ⟨b, hb, hp⟩ => hn b (Nat.zero_le _) hb hp⟩⟩
  ·exact ⟨_, rfl, .inl ⟨hr, b, hb, hp⟩⟩
theorem hZ_ (fuel : Nat) (hf : 1000000000 ≤ fuel) (p q : b_) (hp : probB p = true) (hq : probB q = true) (pN : p.Nodes.length ≤ 100000000) (pE : p.Edges.length ≤ 100000000) (qN : q.Nodes.length ≤ 100000000) (qE : q.Edges.length ≤ 100000000) :
  ∃ l l' b, bV_ fuel p q = some (l, b) ∧ bT_ fuel p q = some (l', b) := by
 unfold bV_ bT_
 simp only [iq_ fuel (by omega) p (by omega) (by omega), iq_ fuel (by omega) q (by omega) (by omega), hc_ fuel (by omega) p (by omega) (by omega), hc_ fuel (by omega) q (by omega) (by omega), hp, hq, sb, Bool.not_true, Bool.false_eq_true, if_false]
 by_cases c1 : p.Labels = q.Labels
 ·by_cases c2 : p.Degree = q.Degree
  ·by_cases c3 : p.Nodes.length = q.Nodes.length
   ·by_cases c4 : p.Edges.length = q.Edges.length
    ·have h : Two p q := ⟨hp, hq, pN, pE, qN, qE, c1, c2⟩
     obtain ⟨g1, g2, g3, g4, g5, g6⟩ := aU_ hp
     obtain ⟨l, b, h1, h2⟩ := re_ p q h p.Labels.toNat [] fuel (by simp; omega) (by omega)
     obtain ⟨r, h3, h4⟩ := nF_ p q h p.Labels.toNat [] fuel (by simp; omega) (by omega)
     have hi := rL_ h c3 c4
     have e1 : (p.Labels != q.Labels) = false := by simp [c1]
     have e2 : (p.Degree != q.Degree) = false := by simp [c2]
     have e3 : ((p.Nodes.length : Int) != (q.Nodes.length : Int)) = false := by simp [c3]
     have e4 : ((p.Edges.length : Int) != (q.Edges.length : Int)) = false := by simp [c4]
     rw [e1, e2, e3, e4]
     simp only [Bool.false_eq_true, if_false, sb, h1, h3]
     rcases h4 with ⟨h4, h5⟩ | ⟨h4, h5, h6⟩
     ·have : b = true := h2.2 (hi.2 h5)
      subst this
      exact ⟨_, _, _, rfl, by rw [if_neg (by rw [h4]; simp)]⟩
     ·have : b = false := by
       cases b
       ·rfl
       ·exact absurd (hi.1 (h2.1 rfl)) h6
      subst this
      exact ⟨_, _, _, rfl, by rw [if_pos (by rw [h4]; rfl)]⟩
    ·have e4 : ((p.Edges.length : Int) != (q.Edges.length : Int)) = true := by simp; omega
     have e1 : (p.Labels != q.Labels) = false := by simp [c1]
     have e2 : (p.Degree != q.Degree) = false := by simp [c2]
     have e3 : ((p.Nodes.length : Int) != (q.Nodes.length : Int)) = false := by simp [c3]
     exact ⟨_, _, _, by rw [e1, e2, e3, e4]; rfl, by rw [e1, e2, e3, e4]; rfl⟩
   ·have e3 : ((p.Nodes.length : Int) != (q.Nodes.length : Int)) = true := by simp; omega
    have e1 : (p.Labels != q.Labels) = false := by simp [c1]
    have e2 : (p.Degree != q.Degree) = false := by simp [c2]
    exact ⟨_, _, _, by rw [e1, e2, e3]; rfl, by rw [e1, e2, e3]; rfl⟩
  ·have e2 : (p.Degree != q.Degree) = true := by simpa using c2
   have e1 : (p.Labels != q.Labels) = false := by simp [c1]
   exact ⟨_, _, _, by rw [e1, e2]; rfl, by rw [e1, e2]; rfl⟩
 ·have e1 : (p.Labels != q.Labels) = true := by simpa using c1
  exact ⟨_, _, _, by rw [e1]; rfl, by rw [e1]; rfl⟩
theorem jt_ (fuel : Nat) (hf : 1000000000 ≤ fuel) (p : b_) (pN : p.Nodes.length ≤ 100000000) (pE : p.Edges.length ≤ 100000000) : ∃ v, cL_ fuel p = some v ∧ cH_ fuel p = some v := by
 unfold cL_ cH_ dd_
 rw [hc_ fuel (by omega) p (by omega) (by omega), sb]
 cases hp : probB p
 ·have hS : bl_ fuel p = some ((⟨0, 0, [], []⟩ : b_), [], [], false) := by
   unfold bl_ dZ_
   rw [iq_ fuel (by omega) p (by omega) (by omega), sb, hp, if_pos (by rfl), sb]
   rfl
  exact ⟨_, by rw [hS, sb]; rfl, by rw [if_pos (by rfl), sb]; rfl⟩
 ·simp only [ik_ fuel hf p hp pN pE, mA_ fuel hf p hp pN pE, sb, Bool.not_true, Bool.false_eq_true, if_false]
  cases hv : (roundV p).2.2.2
  ·exact ⟨_, by rw [if_pos (by rfl)], by rw [if_pos (by rfl)]⟩
  ·obtain ⟨a1, a2, a3, -⟩ := mB_ p hp hv
   obtain ⟨l, l', b, h1, h2⟩ := hZ_ fuel hf p (roundV p).1 hp a1 pN pE a2 a3
   exact ⟨_, by rw [if_neg (by simp), h1, sb], by rw [if_neg (by simp), h2, sb]⟩
end

end Go.Proofs.YtdbbeldgdgonfaaGreat
