/- Part 17 of what this claim rests on (Cmx, Srf, GEq), packed by pack.py. -/
import Derived.Sort.Grow
import Derived.Test.YtdbbeldgdgonfaaGreatLayF
import Derived.Sort.OwnSorted
import Derived.Test.YtdbbeldgdgonfaaGreatP03
import Derived.Test.YtdbbeldgdgonfaaGreatP05
import Derived.Test.YtdbbeldgdgonfaaGreatP06
import Derived.Test.YtdbbeldgdgonfaaGreatP09
namespace Go.Proofs.YtdbbeldgdgonfaaGreat
set_option linter.unusedSimpArgs false
set_option linter.unusedVariables false

section
namespace Ex
open Go.RowKit
structure Keeps (w w' : World) : Prop where
  k : Go.Proofs.YtdbbeldgdgonfaaGreat.Keeps w w'
  d : w.drawn ≤ w'.drawn
structure Stp (t : Nat) (o : Tg) (w : World) (o' : Tg) (w' : World) : Prop where
  s : Go.Proofs.YtdbbeldgdgonfaaGreat.Stp t o w o' w'
  d : w.drawn ≤ w'.drawn
structure Bs (oo o : Tg) (w w' : World) : Prop where
  b : Go.Proofs.YtdbbeldgdgonfaaGreat.Bs oo o w w'
  d : w.drawn ≤ w'.drawn
theorem Bs.start (oo : Tg) (w : World) : Bs oo (col oo) w w := ⟨Go.Proofs.YtdbbeldgdgonfaaGreat.Bs.start _ _, Nat.le_refl _⟩
theorem Bs.keeps {oo o : Tg} {w w' : World} (h : Bs oo o w w') : Keeps w w' := ⟨h.b.keeps, h.d⟩
theorem Keeps.stp {w w' : World} (h : Keeps w w') (t : Nat) (o : Tg) : Stp t o w o w' := ⟨h.k.stp t o, h.d⟩
theorem Bs.stp {oo o o' : Tg} {w0 w w' : World} {t : Nat} (h : Bs oo o w0 w) (s : Stp t o w o' w') (ht : 2 ≤ t := by decide) : Bs oo o' w0 w' := ⟨h.b.stp s.s ht, Nat.le_trans h.d s.d⟩
theorem wf_atZ {P : Program} {n : Nat} {l : List (Nat × Value)} {w w0 : World} {o oo : Tg} {α : Type} [Rp α] {d : Nat} {ty : TypeId} {ps : String} {af : Array Edge} {g : Option (Nat × Bool)} {R : Value → World → Prop} {x y : Operand} {t e : TypeId} {v : Value} {xs : List α} {i : Int} {u : α} (h : RdL zt w0 v xs) (hi : ix xs i = some u) (hB : Bs oo o w0 w) (hx : ev l x = some v) (hy : ev l y = some (.int .i64 i))
    (ht : P.underlying t = some (.slice e)) (hs : ∀ w, (sizeOf e).run P w = .ok (Rp.sz α) w)
    (h : ∀ b off cs, Cells w b off cs → Rp.rd zt w0 cs u → R (.pointer (some ⟨b, off, none⟩)) w) : op1 P ⟨some d, .indexAddr t x y, ty, ps, af, g⟩ n l w R := Go.Proofs.YtdbbeldgdgonfaaGreat.wf_atZ (by assumption) hi hB.b hx hy ht hs h
theorem Keeps.grown {w w' : World} (h : Keeps w w') : ∃ q os, w' = Go.Sort.grow (w.drewN q) os := by
  refine ⟨w'.drawn - w.drawn, w'.heap.extract w.heap.size w'.heap.size, ?_⟩
  obtain ⟨⟨h1, h2, h3, h4, h5⟩, h6⟩ := h
  unfold Go.Sort.grow World.drewN
  cases w' with
  | mk heap tape drawn os output =>
    cases w with
    | mk heap0 tape0 drawn0 os0 output0 =>
      simp only at h1 h2 h3 h4 h5 h6
      subst h1; subst h2; subst h3
      have e1 : drawn0 + (drawn - drawn0) = drawn := by omega
      have e2 : heap0 ++ heap.extract heap0.size heap.size = heap := by
        apply Array.ext_getElem?
        intro i
        rw [Array.getElem?_append]
        split
        · rename_i hi; exact (h5 i hi).symm
        · rename_i hi
          rw [Array.getElem?_extract]
          split
          · congr 1; omega
          · rw [Array.getElem?_eq_none (by omega)]
      simp only [e1, e2]

def ej_ (w : World) (r : Bool) : Ending → World → Prop := fun e w' => e = .returned (.bool r) ∧ Keeps w w'
set_option maxRecDepth 100000 in
set_option maxHeartbeats 2000000 in
theorem bo_ (w : World) (p0 : Int) (r : Bool) (hF : aG_ p0 = some r) :
    Calls Tryz.prog 171 #[.int .i64 p0] w (ej_ w r) := by
  unfold aG_ at hF
  have hB : Bs (fun _ => 1) (col (fun _ => 1)) w w := Bs.start _ _
  refine h_ (n := 6) (vs := [(.int .i64 p0)]) Tryz.func171 rfl rfl ?_
  refine b_ ?_
  refine c_ ?_
  refine o_ (aj_ rfl) (by decide) trivial ?_
  refine aB_ (r := [(0, (.int .i64 p0))]) ⟨rfl, trivial⟩ ?_
  refine nx ?_
  refine b_ ?_
  refine c_ ?_
  refine o_ (k_ rfl) (by decide) trivial ?_
  refine o_ (k_ rfl) (by decide) trivial ?_
  refine o_ (cE_ rfl rfl) (by decide) trivial ?_
  refine o_ (aj_ rfl) (by decide) trivial ?_
  refine aB_ (r := [(2, (.bool (p0 != p0)))]) ⟨rfl, trivial⟩ ?_
  refine nx ?_
  refine j_ ?_
  have e1 := Option.some.inj hF
  subst e1
  refine D_ (P := Tryz.prog) (vs := [(.bool (p0 != p0))]) Tryz.results171 ⟨rfl, trivial⟩ ?_
  exact ⟨rfl, hB.keeps⟩

def dy_ (w : World) (r : Int) : Ending → World → Prop := fun e w' => e = .returned (.int .i64 r) ∧ Keeps w w'
set_option maxRecDepth 100000 in
set_option maxHeartbeats 2000000 in
theorem du_ (w : World) (p0 : Int) (p1 : Int) (r : Int) (hF : aZ_ p0 p1 = some r) :
    Calls Tryz.prog 138 #[.int .i64 p0, .int .i64 p1] w (dy_ w r) := by
  unfold aZ_ at hF
  have hB : Bs (fun _ => 1) (col (fun _ => 1)) w w := Bs.start _ _
  refine h_ (n := 20) (vs := [(.int .i64 p0), (.int .i64 p1)]) Tryz.func138 rfl rfl ?_
  refine b_ ?_
  refine c_ ?_
  refine o_ (aj_ rfl) (by decide) trivial ?_
  refine aB_ (r := [(0, (.int .i64 p0)), (1, (.int .i64 p1))]) ⟨rfl, rfl, trivial⟩ ?_
  refine nx ?_
  refine b_ ?_
  refine c_ ?_
  refine o_ (k_ rfl) (by decide) trivial ?_
  obtain ⟨x1, hx1, hF⟩ := bind_some hF
  refine ch_ (by decide) trivial ?_
  refine n_ (bo_ w p0 x1 hx1) Tryz.call171 ⟨rfl, trivial⟩ ?_
  rintro e6 w2 ⟨rfl, k3⟩
  have s5 := k3.stp 999 (col (fun _ => 1))
  refine ⟨_, rfl, ?_⟩
  replace hB := hB.stp s5 (by decide)
  refine o_ (aj_ rfl) (by decide) trivial ?_
  refine aB_ (r := [(0, (.int .i64 p0)), (1, (.int .i64 p1)), (5, (.bool x1))]) ⟨rfl, rfl, rfl, trivial⟩ ?_
  refine nx ?_
  refine b_ ?_
  refine c_ ?_
  refine o_ (k_ rfl) (by decide) trivial ?_
  obtain ⟨x7, hx7, hF⟩ := bind_some hF
  refine ch_ (by decide) trivial ?_
  refine n_ (bo_ w2 p1 x7 hx7) Tryz.call171 ⟨rfl, trivial⟩ ?_
  rintro e12 w8 ⟨rfl, k9⟩
  have s11 := k9.stp 999 (col (fun _ => 1))
  refine ⟨_, rfl, ?_⟩
  replace hB := hB.stp s11 (by decide)
  refine o_ (aj_ rfl) (by decide) trivial ?_
  refine aB_ (r := [(0, (.int .i64 p0)), (1, (.int .i64 p1)), (5, (.bool x1)), (6, (.bool x7))]) ⟨rfl, rfl, rfl, rfl, trivial⟩ ?_
  refine nx ?_
  refine b_ ?_
  refine b_ ?_
  refine c_ ?_
  refine o_ (k_ rfl) (by decide) trivial ?_
  refine aB_ (r := [(0, (.int .i64 p0)), (1, (.int .i64 p1)), (6, (.bool x7)), (11, (.bool x1))]) ⟨rfl, rfl, rfl, rfl, trivial⟩ ?_
  refine nx ?_
  refine l_ rfl (fun t13 => ?_) (fun t13 => ?_)
  · rw [if_pos t13] at hF
    refine b_ ?_
    refine b_ ?_
    refine c_ ?_
    refine o_ (k_ rfl) (by decide) trivial ?_
    refine aB_ (r := [(12, (.bool x7))]) ⟨rfl, trivial⟩ ?_
    refine nx ?_
    refine l_ rfl (fun t14 => ?_) (fun t14 => ?_)
    · rw [if_pos t14] at hF
      refine b_ ?_
      refine c_ ?_
      refine o_ (aj_ rfl) (by decide) trivial ?_
      refine aB_ (r := [(4, (.int .i64 0))]) ⟨rfl, trivial⟩ ?_
      refine nx ?_
      refine j_ ?_
      refine A_ ?_
      refine A_ ?_
      have e15 := Option.some.inj hF
      subst e15
      refine D_ (P := Tryz.prog) (vs := [(.int .i64 0)]) Tryz.results138 ⟨rfl, trivial⟩ ?_
      exact ⟨rfl, hB.keeps⟩
    · rw [if_neg (by rw [t14]; decide)] at hF
      refine f_ ?_
      refine nx ?_
      refine b_ ?_
      refine c_ ?_
      refine o_ (aj_ rfl) (by decide) trivial ?_
      refine aB_ (r := [(4, (.int .i64 (-1)))]) ⟨rfl, trivial⟩ ?_
      refine nx ?_
      refine j_ ?_
      refine A_ ?_
      have e16 := Option.some.inj hF
      subst e16
      refine D_ (P := Tryz.prog) (vs := [(.int .i64 (-1))]) Tryz.results138 ⟨rfl, trivial⟩ ?_
      exact ⟨rfl, hB.keeps⟩
  · rw [if_neg (by rw [t13]; decide)] at hF
    refine f_ ?_
    refine nx ?_
    refine b_ ?_
    refine b_ ?_
    refine c_ ?_
    refine o_ (k_ rfl) (by decide) trivial ?_
    refine aB_ (r := [(0, (.int .i64 p0)), (1, (.int .i64 p1)), (13, (.bool x7))]) ⟨rfl, rfl, rfl, trivial⟩ ?_
    refine nx ?_
    refine l_ rfl (fun t17 => ?_) (fun t17 => ?_)
    · rw [if_pos t17] at hF
      refine b_ ?_
      refine c_ ?_
      refine o_ (aj_ rfl) (by decide) trivial ?_
      refine aB_ (r := [(4, (.int .i64 1))]) ⟨rfl, trivial⟩ ?_
      refine nx ?_
      refine j_ ?_
      refine A_ ?_
      have e18 := Option.some.inj hF
      subst e18
      refine D_ (P := Tryz.prog) (vs := [(.int .i64 1)]) Tryz.results138 ⟨rfl, trivial⟩ ?_
      exact ⟨rfl, hB.keeps⟩
    · rw [if_neg (by rw [t17]; decide)] at hF
      refine f_ ?_
      refine nx ?_
      refine b_ ?_
      refine b_ ?_
      refine c_ ?_
      refine o_ (k_ rfl) (by decide) trivial ?_
      refine o_ (k_ rfl) (by decide) trivial ?_
      refine o_ (r_ rfl rfl) (by decide) trivial ?_
      refine aB_ (r := [(0, (.int .i64 p0)), (1, (.int .i64 p1)), (16, (.bool (decide (p0 < p1))))]) ⟨rfl, rfl, rfl, trivial⟩ ?_
      refine nx ?_
      refine l_ rfl (fun t19 => ?_) (fun t19 => ?_)
      · rw [if_pos t19] at hF
        refine b_ ?_
        refine c_ ?_
        refine o_ (aj_ rfl) (by decide) trivial ?_
        refine aB_ (r := [(4, (.int .i64 (-1)))]) ⟨rfl, trivial⟩ ?_
        refine nx ?_
        refine j_ ?_
        refine A_ ?_
        have e20 := Option.some.inj hF
        subst e20
        refine D_ (P := Tryz.prog) (vs := [(.int .i64 (-1))]) Tryz.results138 ⟨rfl, trivial⟩ ?_
        exact ⟨rfl, hB.keeps⟩
      · rw [if_neg (by rw [t19]; decide)] at hF
        refine f_ ?_
        refine nx ?_
        refine b_ ?_
        refine b_ ?_
        refine c_ ?_
        refine o_ (k_ rfl) (by decide) trivial ?_
        refine o_ (k_ rfl) (by decide) trivial ?_
        refine o_ (dB_ rfl rfl) (by decide) trivial ?_
        refine aB_ (r := [(19, (.bool (decide (p0 > p1))))]) ⟨rfl, trivial⟩ ?_
        refine nx ?_
        refine l_ rfl (fun t21 => ?_) (fun t21 => ?_)
        · rw [if_pos t21] at hF
          refine b_ ?_
          refine c_ ?_
          refine o_ (aj_ rfl) (by decide) trivial ?_
          refine aB_ (r := [(4, (.int .i64 1))]) ⟨rfl, trivial⟩ ?_
          refine nx ?_
          refine j_ ?_
          refine A_ ?_
          have e22 := Option.some.inj hF
          subst e22
          refine D_ (P := Tryz.prog) (vs := [(.int .i64 1)]) Tryz.results138 ⟨rfl, trivial⟩ ?_
          exact ⟨rfl, hB.keeps⟩
        · rw [if_neg (by rw [t21]; decide)] at hF
          refine f_ ?_
          refine nx ?_
          refine b_ ?_
          refine c_ ?_
          refine o_ (aj_ rfl) (by decide) trivial ?_
          refine aB_ (r := [(4, (.int .i64 0))]) ⟨rfl, trivial⟩ ?_
          refine nx ?_
          refine j_ ?_
          have e23 := Option.some.inj hF
          subst e23
          refine D_ (P := Tryz.prog) (vs := [(.int .i64 0)]) Tryz.results138 ⟨rfl, trivial⟩ ?_
          exact ⟨rfl, hB.keeps⟩

def aS_ (w : World) (r : Int) : Ending → World → Prop := fun e w' => e = .returned (.int .i64 r) ∧ Keeps w w'
set_option maxRecDepth 100000 in
set_option maxHeartbeats 2000000 in
theorem cX_slices_Compare_int_int (w : World) (u0 : Value) (p0 : List Int) (g0 : RdL zt w u0 p0) (u1 : Value) (p1 : List Int) (g1 : RdL zt w u1 p1) (r : Int) (hF : I_ p0 p1 = some r) :
    Calls Tryz.prog 95 #[u0, u1] w (aS_ w r) := by
  unfold I_ at hF
  have hB : Bs (fun _ => 1) (col (fun _ => 1)) w w := Bs.start _ _
  refine h_ (n := 36) (vs := [u0, u1]) Tryz.func95 rfl rfl ?_
  refine b_ ?_
  refine c_ ?_
  refine o_ (aj_ rfl) (by decide) trivial ?_
  refine aB_ (r := [(0, u0), (1, u1)]) ⟨rfl, rfl, trivial⟩ ?_
  refine nx ?_
  refine b_ ?_
  refine b_ ?_
  refine c_ ?_
  refine o_ (k_ rfl) (by decide) trivial ?_
  refine o_ (F_ rfl g0 Tryz.underlying41) (by decide) trivial ?_
  refine o_ (k_ rfl) (by decide) trivial ?_
  refine aB_ (r := [(0, u0), (1, u1), (9, u0), (10, (.int .i64 (p0.length : Int))), (11, (.int .i64 0))]) ⟨rfl, rfl, rfl, rfl, rfl, trivial⟩ ?_
  refine nx ?_
  obtain ⟨q4, hq4, hF⟩ := bind_some hF
  refine z_ (fun a w2 => ∃ (o1 : Tg), q4 = .inl () ∧ Fr a 36 [(0, u0), (1, u1)] ∧ Bs (fun _ => 1) o1 w w2) (fun a w' => ∃ r', q4 = .inr r' ∧ bodyPost Tryz.prog Tryz.f95 (aS_ w r') .ret a w') ?_ ?_ ?_
  · refine d_ ?_
    refine y_ (fun (K : Nat) a w2 => ∃ (i3 : Int) (o1 : Tg), forI (al_ p1) (p0.drop i3.toNat) i3 () = some q4 ∧ (p0.drop i3.toNat).length = K ∧ 0 ≤ i3 ∧ Fr a 36 [(0, u0), (1, u1), (9, u0), (10, (.int .i64 (p0.length : Int))), (11, (.int .i64 i3))] ∧ Bs (fun _ => 1) o1 w w2) _ (fun a ha => ⟨0, (col (fun _ => 1)), hq4, rfl, Int.le_refl 0, ha.sub (r := [(0, u0), (1, u1), (9, u0), (10, (.int .i64 (p0.length : Int))), (11, (.int .i64 0))]) ⟨rfl, rfl, rfl, rfl, rfl, trivial⟩, hB⟩) ?_
    rintro K8 a w2 ⟨i3, o1, l5, m7, z6, ha, hB⟩
    by_cases t12 : i3 < (p0.length : Int)
    · obtain ⟨x13, q9, hx13, b10, n11⟩ := V_ z6 t12 l5
      have hle := g0.len_le
      dsimp only [al_] at b10
      refine L_ ha ?_
      refine b_ ?_
      refine c_ ?_
      refine o_ (r_ rfl rfl) (by decide) trivial ?_
      refine aB_ (r := [(0, u0), (1, u1), (9, u0), (10, (.int .i64 (p0.length : Int))), (11, (.int .i64 i3)), (12, (.bool (decide (i3 < (p0.length : Int)))))]) ⟨rfl, rfl, rfl, rfl, rfl, rfl, trivial⟩ ?_
      refine nx ?_
      refine b_ ?_
      refine P_ (congrArg (fun b => some (Value.bool b)) (decide_eq_true t12)) ?_
      refine f_ ?_
      refine nx ?_
      refine b_ ?_
      refine d_ ?_
      refine b_ ?_
      refine c_ ?_
      refine o_ (k_ rfl) (by decide) trivial ?_
      refine ch_ (by decide) trivial ?_
      refine wf_atZ g0 hx13 hB rfl rfl Tryz.underlying41 Tryz.sizeOf3 ?_
      intro b14 f15 c16 h17 h18
      cases h18
      refine o_ (e_ rfl Tryz.isAgg3 (i_ h17)) (by decide) trivial ?_
      refine o_ (aj_ rfl) (by decide) trivial ?_
      refine o_ (aj_ rfl) (by decide) trivial ?_
      refine aB_ (r := [(0, u0), (1, u1), (5, (.int .i64 i3)), (6, (.int .i64 x13)), (9, u0), (10, (.int .i64 (p0.length : Int))), (11, (.int .i64 i3))]) ⟨rfl, rfl, rfl, rfl, rfl, rfl, rfl, trivial⟩ ?_
      refine nx ?_
      refine b_ ?_
      refine b_ ?_
      refine c_ ?_
      refine o_ (k_ rfl) (by decide) trivial ?_
      refine o_ (k_ rfl) (by decide) trivial ?_
      refine o_ (F_ rfl g1 Tryz.underlying41) (by decide) trivial ?_
      refine o_ (jd_ rfl rfl) (by decide) trivial ?_
      refine aB_ (r := [(0, u0), (1, u1), (5, (.int .i64 i3)), (6, (.int .i64 x13)), (9, u0), (10, (.int .i64 (p0.length : Int))), (11, (.int .i64 i3)), (19, (.bool (decide (i3 ≥ (p1.length : Int)))))]) ⟨rfl, rfl, rfl, rfl, rfl, rfl, rfl, rfl, trivial⟩ ?_
      refine nx ?_
      refine l_ rfl (fun t19 => ?_) (fun t19 => ?_)
      · rw [if_pos t19] at b10
        refine b_ ?_
        refine c_ ?_
        refine o_ (aj_ rfl) (by decide) trivial ?_
        refine aB_ (r := [(4, (.int .i64 1))]) ⟨rfl, trivial⟩ ?_
        refine nx ?_
        refine j_ ?_
        refine A_ ?_
        refine aa_ ?_
        refine A_ ?_
        refine A_ ?_
        refine aa_ ?_
        refine bu_ ?_
        have e20 := Option.some.inj b10
        subst e20
        refine fun a ha => ⟨_, n11, ?_⟩
        refine D_ (P := Tryz.prog) (vs := [(.int .i64 1)]) Tryz.results95 ⟨rfl, trivial⟩ ?_ a ha
        exact ⟨rfl, hB.keeps⟩
      · rw [if_neg (by rw [t19]; decide)] at b10
        refine f_ ?_
        refine nx ?_
        refine b_ ?_
        refine c_ ?_
        refine o_ (k_ rfl) (by decide) trivial ?_
        refine o_ (k_ rfl) (by decide) trivial ?_
        obtain ⟨x21, hx21, b10⟩ := bind_some b10
        refine ch_ (by decide) trivial ?_
        refine wf_atZ g1 hx21 hB rfl rfl Tryz.underlying41 Tryz.sizeOf3 ?_
        intro b22 f23 c24 h25 h26
        cases h26
        refine o_ (e_ rfl Tryz.isAgg3 (i_ h25)) (by decide) trivial ?_
        refine o_ (aj_ rfl) (by decide) trivial ?_
        refine aB_ (r := [(0, u0), (1, u1), (6, (.int .i64 x13)), (7, (.int .i64 x21)), (9, u0), (10, (.int .i64 (p0.length : Int))), (11, (.int .i64 i3))]) ⟨rfl, rfl, rfl, rfl, rfl, rfl, rfl, trivial⟩ ?_
        refine nx ?_
        refine b_ ?_
        refine c_ ?_
        refine o_ (k_ rfl) (by decide) trivial ?_
        refine o_ (k_ rfl) (by decide) trivial ?_
        obtain ⟨x27, hx27, b10⟩ := bind_some b10
        refine ch_ (by decide) trivial ?_
        refine n_ (du_ w2 x13 x21 x27 hx27) Tryz.call138 ⟨rfl, rfl, trivial⟩ ?_
        rintro e32 w28 ⟨rfl, k29⟩
        have s31 := k29.stp 999 o1
        refine ⟨_, rfl, ?_⟩
        replace hB := hB.stp s31 (by decide)
        refine o_ (aj_ rfl) (by decide) trivial ?_
        refine aB_ (r := [(0, u0), (1, u1), (8, (.int .i64 x27)), (9, u0), (10, (.int .i64 (p0.length : Int))), (11, (.int .i64 i3))]) ⟨rfl, rfl, rfl, rfl, rfl, rfl, trivial⟩ ?_
        refine nx ?_
        refine b_ ?_
        refine c_ ?_
        refine o_ (k_ rfl) (by decide) trivial ?_
        refine o_ (cE_ rfl rfl) (by decide) trivial ?_
        refine aB_ (r := [(0, u0), (1, u1), (8, (.int .i64 x27)), (9, u0), (10, (.int .i64 (p0.length : Int))), (11, (.int .i64 i3)), (28, (.bool (x27 != 0)))]) ⟨rfl, rfl, rfl, rfl, rfl, rfl, rfl, trivial⟩ ?_
        refine nx ?_
        refine l_ rfl (fun t33 => ?_) (fun t33 => ?_)
        · rw [if_pos t33] at b10
          refine b_ ?_
          refine c_ ?_
          refine o_ (k_ rfl) (by decide) trivial ?_
          refine o_ (aj_ rfl) (by decide) trivial ?_
          refine aB_ (r := [(4, (.int .i64 x27))]) ⟨rfl, trivial⟩ ?_
          refine nx ?_
          refine j_ ?_
          refine aa_ ?_
          refine A_ ?_
          refine A_ ?_
          refine aa_ ?_
          refine bu_ ?_
          have e34 := Option.some.inj b10
          subst e34
          refine fun a ha => ⟨_, n11, ?_⟩
          refine D_ (P := Tryz.prog) (vs := [(.int .i64 x27)]) Tryz.results95 ⟨rfl, trivial⟩ ?_ a ha
          exact ⟨rfl, hB.keeps⟩
        · rw [if_neg (by rw [t33]; decide)] at b10
          refine f_ ?_
          refine x_ ?_
          refine nx ?_
          refine c_ ?_
          refine o_ (B_ rfl rfl (C_ (by omega) (by omega))) (by decide) trivial ?_
          refine o_ (k_ rfl) (by decide) trivial ?_
          refine aB_ (r := [(0, u0), (1, u1), (9, u0), (10, (.int .i64 (p0.length : Int))), (11, (.int .i64 (i3 + 1)))]) ⟨rfl, rfl, rfl, rfl, rfl, trivial⟩ ?_
          refine v_ ?_
          have e35 := Option.some.inj b10
          subst e35
          refine to_k (r := [(0, u0), (1, u1), (9, u0), (10, (.int .i64 (p0.length : Int))), (11, (.int .i64 (i3 + 1)))]) ⟨rfl, rfl, rfl, rfl, rfl, trivial⟩ ?_
          intro a ha
          exact ⟨_, (by rw [← m7]; simp only [List.length_drop]; omega), i3 + 1, o1, n11, rfl, (by omega), ha, hB⟩
    · have r36 := W_ t12 l5
      refine L_ ha ?_
      refine b_ ?_
      refine c_ ?_
      refine o_ (r_ rfl rfl) (by decide) trivial ?_
      refine aB_ (r := [(0, u0), (1, u1), (9, u0), (10, (.int .i64 (p0.length : Int))), (11, (.int .i64 i3)), (12, (.bool (decide (i3 < (p0.length : Int)))))]) ⟨rfl, rfl, rfl, rfl, rfl, rfl, trivial⟩ ?_
      refine nx ?_
      refine b_ ?_
      refine H_ (congrArg (fun b => some (Value.bool b)) (decide_eq_false t12)) ?_
      refine u_ ?_
      refine m_ ?_
      refine m_ ?_
      refine R_ ?_
      refine p_ ?_
      refine to_k (r := [(0, u0), (1, u1)]) ⟨rfl, rfl, trivial⟩ ?_
      intro a ha
      exact ⟨o1, r36, ha, hB⟩
  · rintro a w2 ⟨o1, rfl, ha, hB⟩
    dsimp only at hF
    refine ap_k ha ?_
    refine nx ?_
    refine b_ ?_
    refine b_ ?_
    refine c_ ?_
    refine o_ (k_ rfl) (by decide) trivial ?_
    refine o_ (F_ rfl g0 Tryz.underlying41) (by decide) trivial ?_
    refine o_ (k_ rfl) (by decide) trivial ?_
    refine o_ (F_ rfl g1 Tryz.underlying41) (by decide) trivial ?_
    refine o_ (r_ rfl rfl) (by decide) trivial ?_
    refine aB_ (r := [(35, (.bool (decide ((p0.length : Int) < (p1.length : Int)))))]) ⟨rfl, trivial⟩ ?_
    refine nx ?_
    refine l_ rfl (fun t37 => ?_) (fun t37 => ?_)
    · rw [if_pos t37] at hF
      refine b_ ?_
      refine c_ ?_
      refine o_ (aj_ rfl) (by decide) trivial ?_
      refine aB_ (r := [(4, (.int .i64 (-1)))]) ⟨rfl, trivial⟩ ?_
      refine nx ?_
      refine j_ ?_
      refine A_ ?_
      have e38 := Option.some.inj hF
      subst e38
      refine D_ (P := Tryz.prog) (vs := [(.int .i64 (-1))]) Tryz.results95 ⟨rfl, trivial⟩ ?_
      exact ⟨rfl, hB.keeps⟩
    · rw [if_neg (by rw [t37]; decide)] at hF
      refine f_ ?_
      refine nx ?_
      refine b_ ?_
      refine c_ ?_
      refine o_ (aj_ rfl) (by decide) trivial ?_
      refine aB_ (r := [(4, (.int .i64 0))]) ⟨rfl, trivial⟩ ?_
      refine nx ?_
      refine j_ ?_
      have e39 := Option.some.inj hF
      subst e39
      refine D_ (P := Tryz.prog) (vs := [(.int .i64 0)]) Tryz.results95 ⟨rfl, trivial⟩ ?_
      exact ⟨rfl, hB.keeps⟩
  · rintro a w2 ⟨r', rfl, b40⟩
    dsimp only at hF
    have e41 := Option.some.inj hF
    subst e41
    exact b40

end Ex
end

section
open Go.RowKit Go.Sort Go.Shelf
def ngT (g : Nat) : Tg := fun b => if b = g then 1 else 0
def PvS (g : Nat) (w : World) (L : Nat) : Type := {p : Pv // RdL (ngT g) w p.v p.x ∧ p.x.length = L}
theorem gh_ {α : Type} [Inhabited α] (enc : α → Value) (w : World) (g m : Nat) (dk : Array α) (os : Array Obj) : w.heap.size ≤ (sortWorld enc w g 0 m dk os).heap.size ∧ ∀ b, b < w.heap.size → b ≠ g → (sortWorld enc w g 0 m dk os).heap[b]? = w.heap[b]? := by
  unfold sortWorld
  refine ⟨by simp, fun b hb hne => ?_⟩
  rw [heap_grow_old _ _ (by simpa using hb)]
  have : g ≠ b := fun e => hne e.symm
  simp [putRow, mapBlock, Sort.ahead, Array.getElem?_modify, this]
set_option maxHeartbeats 1000000 in
theorem mk_ {B k : Nat} {o : Tg} {w : World} {v : Value} {ps : List Pv} {L : Nat} (h : Ow B 41 k o w v ps) (hk : k ≠ 0) (hL : ∀ p ∈ ps, p.x.length = L) (hl : ps.length ≤ 1000000000) :
    Calls Tryz.prog 177 #[v, .func (.func 95) #[] #[]] w fun e w' => e = .returned (.tuple #[]) ∧ ∃ ps', ps'.Perm ps ∧ ps'.Pairwise (fun a b => ¬ ordL b.x a.x < 0) ∧ Ow B 41 k o w' v ps' ∧ Stp k o w o w' := by
  by_cases hps : ps = []
  · subst hps
    obtain ⟨a, c, rfl⟩ := h.form
    have hc := AnyF.slices_SortFunc_none (P := Tryz.prog) (ρ := Tryz.laysSortF_ren) { Tryz.laysSortF with } a c (.func (.func 95) #[] #[]) w
    refine Calls.mono hc ?_
    rintro e w' ⟨rfl, rfl⟩
    exact ⟨rfl, [], List.Perm.refl _, List.Pairwise.nil, h, Stp.refl _ _ _⟩
  · obtain ⟨css, h1, h2, h3, h4⟩ := id h
    have hlz := Ow.lens (e := 41) (B := B) h1 h4
    rcases h2.2 with ⟨_, h0⟩ | ⟨g, cap, cur, rfl, hbase, hb, hn, hcap, hsz, htk⟩
    · exact absurd (List.eq_nil_of_length_eq_zero h0) hps
    · have hog : o g = k := h3 g rfl
      have hgl : g < w.heap.size := (Array.getElem?_eq_some_iff.1 hb).1
      have hrd : ∀ p ∈ ps, RdL o w p.v p.x := fun p hp => by
        obtain ⟨i, hi⟩ := List.getElem?_of_mem hp
        have hil := (List.getElem?_eq_some_iff.1 hi).1
        exact (h4 i (css[i]'(by omega)) p (List.getElem?_eq_getElem (by omega)) hi).2.2
      have hfl : css.flatten = ps.map (·.v) := by
        have : ∀ (css : List (List Value)) (ps : List Pv), css.length = ps.length → (∀ (i : Nat) cs x, css[i]? = some cs → ps[i]? = some x → Rp.rd o w cs x) → css.flatten = ps.map (·.v) := by
          intro css
          induction css with
          | nil => intro ps hl _; cases ps with
            | nil => rfl
            | cons a l => simp at hl
          | cons c css ih => intro ps hl hh; cases ps with
            | nil => simp at hl
            | cons a l =>
              obtain ⟨e0, _⟩ := hh 0 c a rfl rfl
              rw [List.flatten_cons, ih l (by simpa using hl) fun i cs x a b => hh (i + 1) cs x (by simpa using a) (by simpa using b), e0]
              rfl
        exact this css ps h1 h4
      rw [hfl] at htk
      have htk' : cur.toList.take ps.length = ps.map (·.v) := by
        have : ps.length * Rp.sz Pv = ps.length := Nat.mul_one _
        rw [this] at htk; exact htk
      have hng : ∀ p ∈ ps, RdL (ngT g) w p.v p.x ∧ p.x.length = L := fun p hp => ⟨(hrd p hp).mv (Nat.le_refl _) fun b _ hb0 => ⟨rfl, by
        unfold ngT
        rw [if_neg]
        intro e
        rw [e, hog] at hb0
        exact hk hb0⟩, hL p hp⟩
      let α := PvS g w L
      let d0 : List α := ps.pmap (fun p hp => (⟨p, hp⟩ : α)) hng
      have hd0 : d0.map (fun a => a.1) = ps := by
        show (ps.pmap (fun p hp => (⟨p, hp⟩ : PvS g w L)) hng).map (fun a => a.1) = ps
        rw [List.map_pmap]
        simp
      have hd0l : d0.length = ps.length := by rw [← hd0, List.length_map]
      obtain ⟨a0, ha0⟩ : ∃ a : α, a ∈ d0 := by
        cases hq : d0 with
        | nil => rw [hq] at hd0l; exact absurd (List.eq_nil_of_length_eq_zero hd0l.symm) hps
        | cons a l => exact ⟨a, by simp⟩
      haveI : Inhabited α := ⟨a0⟩
      let enc : α → Value := fun a => a.1.v
      let cf : α → α → Int := fun a b => ordL a.1.x b.1.x
      have hone : OneCell enc := fun a => a.2.1.one1
      have hO : SWO (ltOf cf) := by
        constructor
        · intro x
          show decide (ordL x.1.x x.1.x < 0) = false
          rw [(gL_ rfl).2 rfl]; rfl
        · intro x y z h1 h2
          have h1 : ordL x.1.x y.1.x < 0 := of_decide_eq_true h1
          have h2 : ordL y.1.x z.1.x < 0 := of_decide_eq_true h2
          exact decide_eq_true (hb_ (by rw [x.2.2, y.2.2]) (by rw [y.2.2, z.2.2]) h1 h2)
        · intro x y z h1 h2
          have h1 : ¬ ordL x.1.x y.1.x < 0 := of_decide_eq_false h1
          have h2 : ¬ ordL y.1.x z.1.x < 0 := of_decide_eq_false h2
          exact decide_eq_false (pg_ (by rw [x.2.2, y.2.2]) (by rw [y.2.2, z.2.2]) h1 h2)
      have hdsz : d0.toArray.size = ps.length := by simp [hd0l]
      have hcmp : CmpLays1 Tryz.prog 95 #[] enc cf g 0 d0.toArray.size w := by
        intro m os dk _ x y
        obtain ⟨q1, q2⟩ := gh_ enc w g m dk os
        have rz : ∀ z : α, RdL zt (sortWorld enc w g 0 m dk os) z.1.v z.1.x := fun z => z.2.1.mv q1 fun b hb0 hz0 => ⟨q2 b hb0 fun e => by subst e; simp [ngT] at hz0, rfl⟩
        have := Ex.cX_slices_Compare_int_int (sortWorld enc w g 0 m dk os) (enc x) x.1.x (rz x) (enc y) y.1.x (rz y) (cf x y) (is_ _ _ (by rw [x.2.2, y.2.2]))
        refine Calls.mono this ?_
        rintro e w' ⟨rfl, hk⟩
        exact ⟨rfl, hk.grown⟩
      have hH : Holds enc w g 0 d0.toArray := by
        intro j hj
        rw [hdsz] at hj
        refine ⟨?_, by simp [World.frozen?, hb]⟩
        have e1 : (cur.toList.take ps.length)[j]? = (ps.map (·.v))[j]? := by rw [htk']
        rw [List.getElem?_take_of_lt hj] at e1
        simp only [World.cell?, hb, Nat.zero_add]
        simp only [Option.isSome_none, Bool.false_eq_true, if_false]
        rw [← Array.getElem?_toList, e1]
        have e2 : (d0.map fun a => a.1)[j]? = ps[j]? := by rw [hd0]
        rw [List.getElem?_map] at e2 ⊢
        rw [← e2]
        rw [getElem!_pos _ j (by rw [hdsz]; exact hj)]
        rw [List.getElem?_eq_getElem (by omega)]
        simp [enc]
      have hS := Any.slices_SortFunc Tryz.laysSortF enc hone cf hO 95 #[] g 0 cap d0.toArray w Tryz.call95 hcmp hH hgl (by rw [hdsz]; omega)
      rw [hdsz] at hS
      refine Calls.mono hS ?_
      rintro e w' ⟨rfl, d', n, os, hP, hSo, rfl⟩
      obtain ⟨p1, -, p3⟩ := hP
      have hd'sz : d'.size = ps.length := by rw [p1, hdsz]
      have hperm : (d'.toList.map fun a => a.1).Perm ps := by
        have e1 : (d'.extract 0 ps.length).toList = d'.toList := by rw [← hd'sz]; simp
        have e2 : (d0.toArray.extract 0 ps.length).toList = d0 := by rw [← hdsz]; simp
        rw [e1, e2] at p3
        have := p3.map fun a => a.1
        rw [hd0] at this
        exact this
      obtain ⟨q1, q2⟩ := gh_ enc w g n d' os
      have hst : Stp k o w o (sortWorld enc w g 0 n d' os) := ⟨rfl, rfl, rfl, q1, fun b hb0 hne => q2 b hb0 fun e => hne (by rw [e, hog]), fun _ _ => rfl⟩
      refine ⟨rfl, d'.toList.map fun a => a.1, hperm, ?_, ?_, hst⟩
      · rw [List.pairwise_map, List.pairwise_iff_getElem]
        intro i j hi hj hij
        have hj' : j < d'.size := by simpa using hj
        have := hSo i j (Nat.zero_le _) hij (by omega)
        rw [getElem!_pos _ i (by omega), getElem!_pos _ j hj'] at this
        exact of_decide_eq_false this
      · have hlen : (d'.toList.map fun a => a.1).length = ps.length := hperm.length_eq
        have hheap : (sortWorld enc w g 0 n d' os).heap[g]? = some (.cells (putCells enc 0 d' cur) 41 (0, 0)) := by
          unfold sortWorld
          rw [heap_grow_old _ _ (by simpa using hgl)]
          simp [putRow, mapBlock, Sort.ahead, Array.getElem?_modify, hb, onCells]
        have hcsz : cur.size = cap := by rw [hsz]; exact Nat.mul_one _
        refine ⟨(d'.toList.map fun a => a.1).map fun p => [p.v], by simp, ?_, h3, fun i cs p hc hp => ?_⟩
        · have hf2 : ∀ l : List Pv, (l.map fun p => [p.v]).flatten = l.map (·.v) := by
            intro l
            induction l with
            | nil => rfl
            | cons a l ih => simp [List.flatten_cons, ih]
          rw [hf2, hlen]
          refine ⟨by rw [List.length_map, hlen]; exact (Nat.mul_one _).symm, .inr ⟨g, cap, _, rfl, hbase, hheap, hn, hcap, by simp [putCells]; rw [hcsz]; exact (Nat.mul_one _).symm, ?_⟩⟩
          show (putCells enc 0 d' cur).toList.take (ps.length * 1) = _
          rw [Nat.mul_one, ← hd'sz]
          apply List.ext_getElem?
          intro j
          by_cases hj : j < d'.size
          · rw [List.getElem?_take_of_lt hj, Array.getElem?_toList]
            simp [putCells, hj, show j < cur.size by omega, enc]
          · rw [List.getElem?_take_eq_none (by omega), List.getElem?_eq_none (by simp; omega)]
        · rw [List.getElem?_map, hp] at hc
          cases hc
          have hm : p ∈ ps := hperm.subset (List.mem_of_getElem? hp)
          exact qc_ ((hrd p hm).stp hst hk)
end

section
set_option maxRecDepth 100000
set_option maxHeartbeats 2000000
open Go.RowKit
def ba_ (p0 : List Int) (p1 : List Int) : Int → Unit → Option (Lp Unit Unit Bool) := fun (i5 : Int) (s : Unit) =>
  (ix p0 i5) >>= fun x17 =>
  (ix p1 i5) >>= fun x20 =>
  if x17 != x20 then
    some (.ret false)
  else
    some (.go ())
def aK_ (p0 : List Int) (p1 : List Int) : Option Bool :=
  if (p0.length : Int) != (p1.length : Int) then
    some false
  else
    ck (p0.length : Int) >>= fun _ =>
    (forN (ba_ p0 p1) ((p0.length : Int)).toNat 0 ()) >>= fun q6 =>
    match q6 with
    | .inl _ =>
      some true
    | .inr r' => some r'

def dw_ (w : World) (r : Bool) : Ending → World → Prop := fun e w' => e = .returned (.bool r) ∧ Keeps w w'
theorem dr_ (w : World) (u0 : Value) (p0 : List Int) (g0 : RdL zt w u0 p0) (u1 : Value) (p1 : List Int) (g1 : RdL zt w u1 p1) (r : Bool) (hF : aK_ p0 p1 = some r) :
    Calls Tryz.prog 179 #[u0, u1] w (dw_ w r) := by
 unfold aK_ at hF; have hB : Bs (fun _ => 1) (col (fun _ => 1)) w w := Bs.start _ _; refine h_ (n := 26) (vs := [u0, u1]) Tryz.func179 rfl rfl ?_; refine Zq (Za rfl (Ze [(0, u0), (1, u1)] (nx (b_ (Zq (Zm rfl (Zv (F_ rfl g0 Tryz.underlying41) (Zm rfl (Zv (F_ rfl g1 Tryz.underlying41) (Zv (cE_ rfl rfl) (Ze [(0, u0), (1, u1), (10, (.bool ((p0.length : Int) != (p1.length : Int))))] (nx ?_)))))))))))); refine l_ rfl (fun t1 => ?_) (fun t1 => ?_)
 ·rw [if_pos t1] at hF; refine Zq (Za rfl (Ze [(4, (.bool false))] (nx (j_ (A_ ?_))))); have e2 := Option.some.inj hF; subst e2; refine Zr Tryz.results179 [(.bool false)] ?_; exact ⟨rfl, hB.keeps⟩
 ·rw [if_neg (by rw [t1]; decide)] at hF; refine f_ (nx (b_ (Zq (Zm rfl (Zv (F_ rfl g0 Tryz.underlying41) (Zm rfl (Ze [(0, u0), (1, u1), (12, (ZI (p0.length : Int))), (13, ZI 0)] (nx ?_)))))))); obtain ⟨u8, h7, hF⟩ := bind_some hF; obtain ⟨-, h7a, h7b⟩ := cp_ h7; obtain ⟨q6, hq6, hF⟩ := bind_some hF; refine z_ (fun a w4 => ∃ (o3 : Tg), q6 = .inl () ∧ Fr a 26 [] ∧ Bs (fun _ => 1) o3 w w4) (fun a w' => ∃ r', q6 = .inr r' ∧ bodyPost Tryz.prog Tryz.f179 (dw_ w r') .ret a w') ?_ ?_ ?_
  ·refine d_ ?_; refine y_ (fun (K : Nat) a w4 => ∃ (i5 : Int) (o3 : Tg), forN (ba_ p0 p1) ((p0.length : Int) - i5).toNat i5 () = some q6 ∧ ((p0.length : Int) - i5).toNat = K ∧ 0 ≤ i5 ∧ Fr a 26 [(0, u0), (1, u1), (12, (ZI (p0.length : Int))), (13, ZI i5)] ∧ Bs (fun _ => 1) o3 w w4) _ (fun a ha => ⟨0, (col (fun _ => 1)), (by rw [Int.sub_zero]; exact hq6), rfl, Int.le_refl 0, ha.sub (r := [(0, u0), (1, u1), (12, (ZI (p0.length : Int))), (13, ZI 0)]) ⟨rfl, rfl, rfl, rfl, trivial⟩, hB⟩) ?_; rintro K12 a w4 ⟨i5, o3, l9, m11, z10, ha, hB⟩; by_cases t16 : i5 < (p0.length : Int)
   ·obtain ⟨q13, b14, n15⟩ := bF_ t16 l9; dsimp only [ba_] at b14; refine L_ ha ?_; refine Zq (Zv (r_ rfl rfl) (Ze [(0, u0), (1, u1), (12, (ZI (p0.length : Int))), (13, ZI i5), (14, (.bool (decide (i5 < (p0.length : Int)))))] (nx (b_ ?_)))); refine P_ (congrArg (fun b => some (Value.bool b)) (decide_eq_true t16)) ?_; refine f_ (nx (b_ (d_ (Zq (Zm rfl (Za rfl (Ze [(0, u0), (1, u1), (5, ZI i5), (12, (ZI (p0.length : Int))), (13, ZI i5)] (nx (b_ ?_))))))))); obtain ⟨x17, hx17, b14⟩ := bind_some b14; obtain ⟨x20, hx20, b14⟩ := bind_some b14; refine am_ (o := o3) [(0, u0), (1, u1), (5, ZI i5), (12, (ZI (p0.length : Int))), (13, ZI i5)] [0, 1, 5, 12, 13] [16, 17, 18, 19, 20, 21, 22, 23] [[], [], [0, 1], [2], [], [], [4, 5], [6]] [none, none, none, none, none, none, none, none] [999, 999, 999, 999, 999, 999, 999, 999] [0, 0, 0, 0, 0, 0, 0, 0] [999] [fun v _ _ => v = u0, fun v _ _ => v = (ZI i5), fun v o w9 => ∃ vl, v = adr vl (i5.toNat * Rp.sz Int) ∧ RdL zt w vl p0, fun v _ _ => v = (ZI x17), fun v _ _ => v = u1, fun v _ _ => v = (ZI i5), fun v o w9 => ∃ vl, v = adr vl (i5.toNat * Rp.sz Int) ∧ RdL zt w vl p1, fun v _ _ => v = (ZI x20)] (fun o8 w8 => Bs (fun _ => 1) o8 w w8) G_ (by kernel_rfl) rfl ⟨rfl, rfl, rfl, rfl, rfl, trivial⟩ hB ?_ ⟨w_ _, w_ _, fun _ _ _ _ _ _ h0 hb ⟨vl, e, h⟩ hs => ⟨vl, e, h⟩, w_ _, w_ _, w_ _, fun _ _ _ _ _ _ h0 hb ⟨vl, e, h⟩ hs => ⟨vl, e, h⟩, w_ _, trivial⟩ ?_ ?_
    ·rintro t9 o1 w1 o2 w2 ht9 hB hs9; have ht9 : t9 = 999 := by simpa using ht9
     subst ht9; all_goals exact hB.stp hs9 (by decide)
    ·refine ⟨?_, ?_, ?_, ?_, ?_, ?_, ?_, ?_, trivial⟩
     ·rintro o23 w24 a25 ha hB -; refine Zs ha ?_; refine g_ (k_ rfl) ?_; exact Zx rfl
     ·rintro o26 w27 a28 ha hB -; refine Zs ha ?_; refine g_ (k_ rfl) ?_; exact Zx rfl
     ·rintro o29 w30 a31 ha hB ⟨r32, r33, -⟩; have ha := Fr.cons (d := 16) ha r32; have ha := Fr.cons (d := 17) ha r33; refine Zs ha ?_; refine bk_ g0 hx17 rfl rfl Tryz.underlying41 Tryz.sizeOf3 ?_; exact ⟨_, Stp.refl _ _ _, ⟨_, rfl, g0⟩⟩
     ·rintro o34 w35 a36 ha hB ⟨r37, -⟩; obtain ⟨v38, e39, h40⟩ := r37; have ha := Fr.cons (d := 18) ha e39; refine Zs ha ?_; refine bp_ h40 hx17 hB rfl rfl Tryz.isAgg3 ?_; intro c41 h42; cases h42
      exact Zx rfl
     ·rintro o43 w44 a45 ha hB -; refine Zs ha ?_; refine g_ (k_ rfl) ?_; exact Zx rfl
     ·rintro o46 w47 a48 ha hB -; refine Zs ha ?_; refine g_ (k_ rfl) ?_; exact Zx rfl
     ·rintro o49 w50 a51 ha hB ⟨r52, r53, -⟩; have ha := Fr.cons (d := 20) ha r52; have ha := Fr.cons (d := 21) ha r53; refine Zs ha ?_; refine bk_ g1 hx20 rfl rfl Tryz.underlying41 Tryz.sizeOf3 ?_; exact ⟨_, Stp.refl _ _ _, ⟨_, rfl, g1⟩⟩
     ·rintro o54 w55 a56 ha hB ⟨r57, -⟩; obtain ⟨v58, e59, h60⟩ := r57; have ha := Fr.cons (d := 22) ha e59; refine Zs ha ?_; refine bp_ h60 hx20 hB rfl rfl Tryz.isAgg3 ?_; intro c61 h62; cases h62
      exact Zx rfl
    rintro o63 w64 a65 ha hB ⟨-, -, -, r66, -, -, -, r67, -⟩; have ha := Fr.cons (d := 19) ha r66; have ha := Fr.cons (d := 23) ha r67; refine bf_ ha ?_; simp only [List.length_cons, List.length_nil, Nat.zero_add, Nat.reduceAdd, List.drop_succ_cons, List.drop_zero]; refine Zv (cE_ rfl rfl) (Ze [(0, u0), (1, u1), (12, (ZI (p0.length : Int))), (13, ZI i5), (24, (.bool (x17 != x20)))] (nx ?_)); refine l_ rfl (fun t68 => ?_) (fun t68 => ?_)
    ·rw [if_pos t68] at b14; refine Zq (Za rfl (Ze [(4, (.bool false))] (nx (j_ (aa_ (A_ (A_ (aa_ ?_)))))))); refine bu_ ?_; have e69 := Option.some.inj b14; subst e69; refine fun a ha => ⟨_, n15, ?_⟩; refine D_ (P := Tryz.prog) (vs := [(.bool false)]) Tryz.results179 ⟨rfl, trivial⟩ ?_ a ha; exact ⟨rfl, hB.keeps⟩
    ·rw [if_neg (by rw [t68]; decide)] at b14; refine f_ (x_ (nx (c_ (Zv (B_ rfl rfl (C_ (by omega) (by omega))) (Zm rfl (Ze [(0, u0), (1, u1), (12, (ZI (p0.length : Int))), (13, (ZI (i5 + 1)))] (v_ ?_))))))); have e70 := Option.some.inj b14; subst e70; refine Zk [(0, u0), (1, u1), (12, (ZI (p0.length : Int))), (13, (ZI (i5 + 1)))] ?_; intro a ha; exact ⟨_, (by rw [← m11]; omega), i5 + 1, o63, n15, rfl, (by omega), ha, hB⟩
   ·have r71 := bJ_ t16 l9; refine L_ ha ?_; refine Zq (Zv (r_ rfl rfl) (Ze [(0, u0), (1, u1), (12, (ZI (p0.length : Int))), (13, ZI i5), (14, (.bool (decide (i5 < (p0.length : Int)))))] (nx (b_ ?_)))); refine H_ (congrArg (fun b => some (Value.bool b)) (decide_eq_false t16)) ?_; refine u_ ?_; refine m_ (m_ (R_ ?_)); refine p_ ?_; refine Zk [] ?_; intro a ha; exact ⟨o3, r71, ha, hB⟩
  ·rintro a w4 ⟨o3, rfl, ha, hB⟩; dsimp only at hF; refine ap_k ha ?_; refine Zn (Za rfl (Ze [(4, (.bool true))] (nx (j_ ?_)))); have e72 := Option.some.inj hF; subst e72; refine Zr Tryz.results179 [(.bool true)] ?_; exact ⟨rfl, hB.keeps⟩
  ·rintro a w4 ⟨r', rfl, b73⟩; dsimp only at hF; have e74 := Option.some.inj hF; subst e74; exact b73
end

end Go.Proofs.YtdbbeldgdgonfaaGreat
