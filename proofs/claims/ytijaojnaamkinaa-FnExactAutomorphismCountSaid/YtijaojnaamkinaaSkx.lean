/- slices.SortFunc on a list of components that is one's own. -/
import Derived.Test.YtijaojnaamkinaaGA
import Derived.Sort.Grow
import Derived.Test.YtijaojnaamkinaaKd
import Derived.Test.YtijaojnaamkinaaKr
import Derived.Test.YtijaojnaamkinaaTyc
import Derived.Test.YtijaojnaamkinaaKh
import Derived.Test.YtijaojnaamkinaaKn
import Derived.Test.YtijaojnaamkinaaPb
import Derived.Test.YtijaojnaamkinaaKg
import Derived.Test.YtijaojnaamkinaaLayK
import Derived.Sort.OwnSorted
namespace Go.Proofs.Ytijaojnaamkinaa
set_option linter.unusedSimpArgs false
set_option linter.unusedVariables false

namespace Ex
open Go.RowKit
set_option linter.unusedSimpArgs false
set_option linter.unusedVariables false

structure Keeps (w w' : World) : Prop where
  k : Go.Proofs.Ytijaojnaamkinaa.Keeps w w'
  d : w.drawn ≤ w'.drawn
structure Stp (t : Nat) (o : Tg) (w : World) (o' : Tg) (w' : World) : Prop where
  s : Go.Proofs.Ytijaojnaamkinaa.Stp t o w o' w'
  d : w.drawn ≤ w'.drawn
structure Bs (oo o : Tg) (w w' : World) : Prop where
  b : Go.Proofs.Ytijaojnaamkinaa.Bs oo o w w'
  d : w.drawn ≤ w'.drawn
theorem Bs.start (oo : Tg) (w : World) : Bs oo (col oo) w w := ⟨Go.Proofs.Ytijaojnaamkinaa.Bs.start _ _, Nat.le_refl _⟩
theorem Bs.keeps {oo o : Tg} {w w' : World} (h : Bs oo o w w') : Keeps w w' := ⟨h.b.keeps, h.d⟩
theorem Keeps.stp {w w' : World} (h : Keeps w w') (t : Nat) (o : Tg) : Stp t o w o w' := ⟨h.k.stp t o, h.d⟩
theorem Bs.stp {oo o o' : Tg} {w0 w w' : World} {t : Nat} (h : Bs oo o w0 w) (s : Stp t o w o' w') (ht : 2 ≤ t) : Bs oo o' w0 w' := ⟨h.b.stp s.s ht, Nat.le_trans h.d s.d⟩
theorem wf_atZ {P : Program} {n : Nat} {l : List (Nat × Value)} {w w0 : World} {o oo : Tg} {α : Type} [Rp α] {d : Nat} {ty : TypeId} {ps : String} {af : Array Edge} {g : Option (Nat × Bool)} {R : Value → World → Prop} {x y : Operand} {t e : TypeId} {v : Value} {xs : List α} {i : Int} {u : α} (h : RdL zt w0 v xs) (hi : ix xs i = some u) (hB : Bs oo o w0 w) (hx : ev l x = some v) (hy : ev l y = some (.int .i64 i))
    (ht : P.underlying t = some (.slice e)) (hs : ∀ w, (sizeOf e).run P w = .ok (Rp.sz α) w)
    (h : ∀ b off cs, Cells w b off cs → Rp.rd zt w0 cs u → R (.pointer (some ⟨b, off, none⟩)) w) : op1 P ⟨some d, .indexAddr t x y, ty, ps, af, g⟩ n l w R := Go.Proofs.Ytijaojnaamkinaa.wf_atZ (by assumption) hi hB.b hx hy ht hs h
theorem Keeps.grown {w w' : World} (h : Keeps w w') : ∃ q os, w' = Go.Sort.grow (w.drewN q) os := by
  refine ⟨w'.drawn - w.drawn, w'.heap.extract w.heap.size w'.heap.size, ?_⟩
  obtain ⟨⟨h1, h2, h3, h4, h5⟩, h6⟩ := h
  unfold Go.Sort.grow World.drewN
  cases w' with
  | mk heap tape drawn os output =>
    cases w with
    | mk heap0 tape0 drawn0 os0 output0 =>
      simp only at h1 h2 h3 h4 h5 h6
      subst h1; subst h2; subst h3
      have e1 : drawn0 + (drawn - drawn0) = drawn := by omega
      have e2 : heap0 ++ heap.extract heap0.size heap.size = heap := by
        apply Array.ext_getElem?
        intro i
        rw [Array.getElem?_append]
        split
        · rename_i hi; exact (h5 i hi).symm
        · rename_i hi
          rw [Array.getElem?_extract]
          split
          · congr 1; omega
          · rw [Array.getElem?_eq_none (by omega)]
      simp only [e1, e2]

def pX_cmp_isNaN_int (w : World) (r : Bool) : Ending → World → Prop := fun e w' => e = .returned (.bool r) ∧ Keeps w w'
set_option maxRecDepth 100000 in
set_option maxHeartbeats 2000000 in
theorem cX_cmp_isNaN_int (w : World) (p0 : Int) (r : Bool) (hF : fX_cmp_isNaN_int p0 = some r) :
    Calls Try.prog 143 #[.int .i64 p0] w (pX_cmp_isNaN_int w r) := by
  unfold fX_cmp_isNaN_int at hF
  have hB : Bs (fun _ => 1) (col (fun _ => 1)) w w := Bs.start _ _
  refine calls_start (n := 6) (vs := [(.int .i64 p0)]) Try.func143 rfl rfl ?_
  refine wpC_seq ?_
  refine wpC_region ?_
  refine st_val (ex_assign rfl) (by decide) trivial ?_
  refine wpF_end (r := [(0, (.int .i64 p0))]) ⟨rfl, trivial⟩ ?_
  refine nx ?_
  refine wpC_seq ?_
  refine wpC_region ?_
  refine st_val (ex_move rfl) (by decide) trivial ?_
  refine st_val (ex_move rfl) (by decide) trivial ?_
  refine st_val (ex_neq rfl rfl) (by decide) trivial ?_
  refine st_val (ex_assign rfl) (by decide) trivial ?_
  refine wpF_end (r := [(2, (.bool (p0 != p0)))]) ⟨rfl, trivial⟩ ?_
  refine nx ?_
  refine wpC_ret ?_
  have e1 := Option.some.inj hF
  subst e1
  refine ret_post (P := Try.prog) (vs := [(.bool (p0 != p0))]) Try.results143 ⟨rfl, trivial⟩ ?_
  exact ⟨rfl, hB.keeps⟩

def pX_cmp_Compare_int (w : World) (r : Int) : Ending → World → Prop := fun e w' => e = .returned (.int .i64 r) ∧ Keeps w w'
set_option maxRecDepth 100000 in
set_option maxHeartbeats 2000000 in
theorem cX_cmp_Compare_int (w : World) (p0 : Int) (p1 : Int) (r : Int) (hF : fX_cmp_Compare_int p0 p1 = some r) :
    Calls Try.prog 126 #[.int .i64 p0, .int .i64 p1] w (pX_cmp_Compare_int w r) := by
  unfold fX_cmp_Compare_int at hF
  have hB : Bs (fun _ => 1) (col (fun _ => 1)) w w := Bs.start _ _
  refine calls_start (n := 20) (vs := [(.int .i64 p0), (.int .i64 p1)]) Try.func126 rfl rfl ?_
  refine wpC_seq ?_
  refine wpC_region ?_
  refine st_val (ex_assign rfl) (by decide) trivial ?_
  refine wpF_end (r := [(0, (.int .i64 p0)), (1, (.int .i64 p1))]) ⟨rfl, rfl, trivial⟩ ?_
  refine nx ?_
  refine wpC_seq ?_
  refine wpC_region ?_
  refine st_val (ex_move rfl) (by decide) trivial ?_
  obtain ⟨x1, hx1, hF⟩ := bind_some hF
  refine st_op (by decide) trivial ?_
  refine wf_call (cX_cmp_isNaN_int w p0 x1 hx1) Try.call143 ⟨rfl, trivial⟩ ?_
  rintro e6 w2 ⟨rfl, k3⟩
  have s5 := k3.stp 999 (col (fun _ => 1))
  refine ⟨_, rfl, ?_⟩
  replace hB := hB.stp s5 (by decide)
  refine st_val (ex_assign rfl) (by decide) trivial ?_
  refine wpF_end (r := [(0, (.int .i64 p0)), (1, (.int .i64 p1)), (5, (.bool x1))]) ⟨rfl, rfl, rfl, trivial⟩ ?_
  refine nx ?_
  refine wpC_seq ?_
  refine wpC_region ?_
  refine st_val (ex_move rfl) (by decide) trivial ?_
  obtain ⟨x7, hx7, hF⟩ := bind_some hF
  refine st_op (by decide) trivial ?_
  refine wf_call (cX_cmp_isNaN_int w2 p1 x7 hx7) Try.call143 ⟨rfl, trivial⟩ ?_
  rintro e12 w8 ⟨rfl, k9⟩
  have s11 := k9.stp 999 (col (fun _ => 1))
  refine ⟨_, rfl, ?_⟩
  replace hB := hB.stp s11 (by decide)
  refine st_val (ex_assign rfl) (by decide) trivial ?_
  refine wpF_end (r := [(0, (.int .i64 p0)), (1, (.int .i64 p1)), (5, (.bool x1)), (6, (.bool x7))]) ⟨rfl, rfl, rfl, rfl, trivial⟩ ?_
  refine nx ?_
  refine wpC_seq ?_
  refine wpC_seq ?_
  refine wpC_region ?_
  refine st_val (ex_move rfl) (by decide) trivial ?_
  refine wpF_end (r := [(0, (.int .i64 p0)), (1, (.int .i64 p1)), (6, (.bool x7)), (11, (.bool x1))]) ⟨rfl, rfl, rfl, rfl, trivial⟩ ?_
  refine nx ?_
  refine wpC_cond rfl (fun t13 => ?_) (fun t13 => ?_)
  · rw [if_pos t13] at hF
    refine wpC_seq ?_
    refine wpC_seq ?_
    refine wpC_region ?_
    refine st_val (ex_move rfl) (by decide) trivial ?_
    refine wpF_end (r := [(12, (.bool x7))]) ⟨rfl, trivial⟩ ?_
    refine nx ?_
    refine wpC_cond rfl (fun t14 => ?_) (fun t14 => ?_)
    · rw [if_pos t14] at hF
      refine wpC_seq ?_
      refine wpC_region ?_
      refine st_val (ex_assign rfl) (by decide) trivial ?_
      refine wpF_end (r := [(4, (.int .i64 0))]) ⟨rfl, trivial⟩ ?_
      refine nx ?_
      refine wpC_ret ?_
      refine nt_ret ?_
      refine nt_ret ?_
      have e15 := Option.some.inj hF
      subst e15
      refine ret_post (P := Try.prog) (vs := [(.int .i64 0)]) Try.results126 ⟨rfl, trivial⟩ ?_
      exact ⟨rfl, hB.keeps⟩
    · rw [if_neg (by rw [t14]; decide)] at hF
      refine wpC_skip ?_
      refine nx ?_
      refine wpC_seq ?_
      refine wpC_region ?_
      refine st_val (ex_assign rfl) (by decide) trivial ?_
      refine wpF_end (r := [(4, (.int .i64 (-1)))]) ⟨rfl, trivial⟩ ?_
      refine nx ?_
      refine wpC_ret ?_
      refine nt_ret ?_
      have e16 := Option.some.inj hF
      subst e16
      refine ret_post (P := Try.prog) (vs := [(.int .i64 (-1))]) Try.results126 ⟨rfl, trivial⟩ ?_
      exact ⟨rfl, hB.keeps⟩
  · rw [if_neg (by rw [t13]; decide)] at hF
    refine wpC_skip ?_
    refine nx ?_
    refine wpC_seq ?_
    refine wpC_seq ?_
    refine wpC_region ?_
    refine st_val (ex_move rfl) (by decide) trivial ?_
    refine wpF_end (r := [(0, (.int .i64 p0)), (1, (.int .i64 p1)), (13, (.bool x7))]) ⟨rfl, rfl, rfl, trivial⟩ ?_
    refine nx ?_
    refine wpC_cond rfl (fun t17 => ?_) (fun t17 => ?_)
    · rw [if_pos t17] at hF
      refine wpC_seq ?_
      refine wpC_region ?_
      refine st_val (ex_assign rfl) (by decide) trivial ?_
      refine wpF_end (r := [(4, (.int .i64 1))]) ⟨rfl, trivial⟩ ?_
      refine nx ?_
      refine wpC_ret ?_
      refine nt_ret ?_
      have e18 := Option.some.inj hF
      subst e18
      refine ret_post (P := Try.prog) (vs := [(.int .i64 1)]) Try.results126 ⟨rfl, trivial⟩ ?_
      exact ⟨rfl, hB.keeps⟩
    · rw [if_neg (by rw [t17]; decide)] at hF
      refine wpC_skip ?_
      refine nx ?_
      refine wpC_seq ?_
      refine wpC_seq ?_
      refine wpC_region ?_
      refine st_val (ex_move rfl) (by decide) trivial ?_
      refine st_val (ex_move rfl) (by decide) trivial ?_
      refine st_val (ex_lss rfl rfl) (by decide) trivial ?_
      refine wpF_end (r := [(0, (.int .i64 p0)), (1, (.int .i64 p1)), (16, (.bool (decide (p0 < p1))))]) ⟨rfl, rfl, rfl, trivial⟩ ?_
      refine nx ?_
      refine wpC_cond rfl (fun t19 => ?_) (fun t19 => ?_)
      · rw [if_pos t19] at hF
        refine wpC_seq ?_
        refine wpC_region ?_
        refine st_val (ex_assign rfl) (by decide) trivial ?_
        refine wpF_end (r := [(4, (.int .i64 (-1)))]) ⟨rfl, trivial⟩ ?_
        refine nx ?_
        refine wpC_ret ?_
        refine nt_ret ?_
        have e20 := Option.some.inj hF
        subst e20
        refine ret_post (P := Try.prog) (vs := [(.int .i64 (-1))]) Try.results126 ⟨rfl, trivial⟩ ?_
        exact ⟨rfl, hB.keeps⟩
      · rw [if_neg (by rw [t19]; decide)] at hF
        refine wpC_skip ?_
        refine nx ?_
        refine wpC_seq ?_
        refine wpC_seq ?_
        refine wpC_region ?_
        refine st_val (ex_move rfl) (by decide) trivial ?_
        refine st_val (ex_move rfl) (by decide) trivial ?_
        refine st_val (ex_gtr rfl rfl) (by decide) trivial ?_
        refine wpF_end (r := [(19, (.bool (decide (p0 > p1))))]) ⟨rfl, trivial⟩ ?_
        refine nx ?_
        refine wpC_cond rfl (fun t21 => ?_) (fun t21 => ?_)
        · rw [if_pos t21] at hF
          refine wpC_seq ?_
          refine wpC_region ?_
          refine st_val (ex_assign rfl) (by decide) trivial ?_
          refine wpF_end (r := [(4, (.int .i64 1))]) ⟨rfl, trivial⟩ ?_
          refine nx ?_
          refine wpC_ret ?_
          refine nt_ret ?_
          have e22 := Option.some.inj hF
          subst e22
          refine ret_post (P := Try.prog) (vs := [(.int .i64 1)]) Try.results126 ⟨rfl, trivial⟩ ?_
          exact ⟨rfl, hB.keeps⟩
        · rw [if_neg (by rw [t21]; decide)] at hF
          refine wpC_skip ?_
          refine nx ?_
          refine wpC_seq ?_
          refine wpC_region ?_
          refine st_val (ex_assign rfl) (by decide) trivial ?_
          refine wpF_end (r := [(4, (.int .i64 0))]) ⟨rfl, trivial⟩ ?_
          refine nx ?_
          refine wpC_ret ?_
          have e23 := Option.some.inj hF
          subst e23
          refine ret_post (P := Try.prog) (vs := [(.int .i64 0)]) Try.results126 ⟨rfl, trivial⟩ ?_
          exact ⟨rfl, hB.keeps⟩

def pX_slices_Compare_int_int (w : World) (r : Int) : Ending → World → Prop := fun e w' => e = .returned (.int .i64 r) ∧ Keeps w w'
set_option maxRecDepth 100000 in
set_option maxHeartbeats 2000000 in
theorem cX_slices_Compare_int_int (w : World) (u0 : Value) (p0 : List Int) (g0 : RdL zt w u0 p0) (u1 : Value) (p1 : List Int) (g1 : RdL zt w u1 p1) (r : Int) (hF : fX_slices_Compare_int_int p0 p1 = some r) :
    Calls Try.prog 107 #[u0, u1] w (pX_slices_Compare_int_int w r) := by
  unfold fX_slices_Compare_int_int at hF
  have hB : Bs (fun _ => 1) (col (fun _ => 1)) w w := Bs.start _ _
  refine calls_start (n := 36) (vs := [u0, u1]) Try.func107 rfl rfl ?_
  refine wpC_seq ?_
  refine wpC_region ?_
  refine st_val (ex_assign rfl) (by decide) trivial ?_
  refine wpF_end (r := [(0, u0), (1, u1)]) ⟨rfl, rfl, trivial⟩ ?_
  refine nx ?_
  refine wpC_seq ?_
  refine wpC_seq ?_
  refine wpC_region ?_
  refine st_val (ex_move rfl) (by decide) trivial ?_
  refine st_val (ex_lenR rfl g0 Try.underlying23) (by decide) trivial ?_
  refine st_val (ex_move rfl) (by decide) trivial ?_
  refine wpF_end (r := [(0, u0), (1, u1), (9, u0), (10, (.int .i64 (p0.length : Int))), (11, (.int .i64 0))]) ⟨rfl, rfl, rfl, rfl, rfl, trivial⟩ ?_
  refine nx ?_
  obtain ⟨q4, hq4, hF⟩ := bind_some hF
  refine wpC_cutN (fun a w2 => ∃ (o1 : Tg), q4 = .inl () ∧ Fr a 36 [(0, u0), (1, u1)] ∧ Bs (fun _ => 1) o1 w w2) (fun a w' => ∃ r', q4 = .inr r' ∧ bodyPost Try.prog Try.f107 (pX_slices_Compare_int_int w r') .ret a w') ?_ ?_ ?_
  · refine wpC_block ?_
    refine wpC_loop (fun (K : Nat) a w2 => ∃ (i3 : Int) (o1 : Tg), forI (fX_slices_Compare_int_int_s1 p1) (p0.drop i3.toNat) i3 () = some q4 ∧ (p0.drop i3.toNat).length = K ∧ 0 ≤ i3 ∧ Fr a 36 [(0, u0), (1, u1), (9, u0), (10, (.int .i64 (p0.length : Int))), (11, (.int .i64 i3))] ∧ Bs (fun _ => 1) o1 w w2) _ (fun a ha => ⟨0, (col (fun _ => 1)), hq4, rfl, Int.le_refl 0, ha.sub (r := [(0, u0), (1, u1), (9, u0), (10, (.int .i64 (p0.length : Int))), (11, (.int .i64 0))]) ⟨rfl, rfl, rfl, rfl, rfl, trivial⟩, hB⟩) ?_
    rintro K8 a w2 ⟨i3, o1, l5, m7, z6, ha, hB⟩
    by_cases t12 : i3 < (p0.length : Int)
    · obtain ⟨x13, q9, hx13, b10, n11⟩ := forI_cons z6 t12 l5
      have hle := g0.len_le
      dsimp only [fX_slices_Compare_int_int_s1] at b10
      refine wp_of ha ?_
      refine wpC_seq ?_
      refine wpC_region ?_
      refine st_val (ex_lss rfl rfl) (by decide) trivial ?_
      refine wpF_end (r := [(0, u0), (1, u1), (9, u0), (10, (.int .i64 (p0.length : Int))), (11, (.int .i64 i3)), (12, (.bool (decide (i3 < (p0.length : Int)))))]) ⟨rfl, rfl, rfl, rfl, rfl, rfl, trivial⟩ ?_
      refine nx ?_
      refine wpC_seq ?_
      refine wpC_true (congrArg (fun b => some (Value.bool b)) (decide_eq_true t12)) ?_
      refine wpC_skip ?_
      refine nx ?_
      refine wpC_seq ?_
      refine wpC_block ?_
      refine wpC_seq ?_
      refine wpC_region ?_
      refine st_val (ex_move rfl) (by decide) trivial ?_
      refine st_op (by decide) trivial ?_
      refine wf_atZ g0 hx13 hB rfl rfl Try.underlying23 Try.sizeOf3 ?_
      intro b14 f15 c16 h17 h18
      cases h18
      refine st_val (ex_load1 rfl Try.isAgg3 (cell_of_cells h17)) (by decide) trivial ?_
      refine st_val (ex_assign rfl) (by decide) trivial ?_
      refine st_val (ex_assign rfl) (by decide) trivial ?_
      refine wpF_end (r := [(0, u0), (1, u1), (5, (.int .i64 i3)), (6, (.int .i64 x13)), (9, u0), (10, (.int .i64 (p0.length : Int))), (11, (.int .i64 i3))]) ⟨rfl, rfl, rfl, rfl, rfl, rfl, rfl, trivial⟩ ?_
      refine nx ?_
      refine wpC_seq ?_
      refine wpC_seq ?_
      refine wpC_region ?_
      refine st_val (ex_move rfl) (by decide) trivial ?_
      refine st_val (ex_move rfl) (by decide) trivial ?_
      refine st_val (ex_lenR rfl g1 Try.underlying23) (by decide) trivial ?_
      refine st_val (ex_geq rfl rfl) (by decide) trivial ?_
      refine wpF_end (r := [(0, u0), (1, u1), (5, (.int .i64 i3)), (6, (.int .i64 x13)), (9, u0), (10, (.int .i64 (p0.length : Int))), (11, (.int .i64 i3)), (19, (.bool (decide (i3 ≥ (p1.length : Int)))))]) ⟨rfl, rfl, rfl, rfl, rfl, rfl, rfl, rfl, trivial⟩ ?_
      refine nx ?_
      refine wpC_cond rfl (fun t19 => ?_) (fun t19 => ?_)
      · rw [if_pos t19] at b10
        refine wpC_seq ?_
        refine wpC_region ?_
        refine st_val (ex_assign rfl) (by decide) trivial ?_
        refine wpF_end (r := [(4, (.int .i64 1))]) ⟨rfl, trivial⟩ ?_
        refine nx ?_
        refine wpC_ret ?_
        refine nt_ret ?_
        refine nb_ret ?_
        refine nt_ret ?_
        refine nt_ret ?_
        refine nb_ret ?_
        refine np_ret ?_
        have e20 := Option.some.inj b10
        subst e20
        refine fun a ha => ⟨_, n11, ?_⟩
        refine ret_post (P := Try.prog) (vs := [(.int .i64 1)]) Try.results107 ⟨rfl, trivial⟩ ?_ a ha
        exact ⟨rfl, hB.keeps⟩
      · rw [if_neg (by rw [t19]; decide)] at b10
        refine wpC_skip ?_
        refine nx ?_
        refine wpC_seq ?_
        refine wpC_region ?_
        refine st_val (ex_move rfl) (by decide) trivial ?_
        refine st_val (ex_move rfl) (by decide) trivial ?_
        obtain ⟨x21, hx21, b10⟩ := bind_some b10
        refine st_op (by decide) trivial ?_
        refine wf_atZ g1 hx21 hB rfl rfl Try.underlying23 Try.sizeOf3 ?_
        intro b22 f23 c24 h25 h26
        cases h26
        refine st_val (ex_load1 rfl Try.isAgg3 (cell_of_cells h25)) (by decide) trivial ?_
        refine st_val (ex_assign rfl) (by decide) trivial ?_
        refine wpF_end (r := [(0, u0), (1, u1), (6, (.int .i64 x13)), (7, (.int .i64 x21)), (9, u0), (10, (.int .i64 (p0.length : Int))), (11, (.int .i64 i3))]) ⟨rfl, rfl, rfl, rfl, rfl, rfl, rfl, trivial⟩ ?_
        refine nx ?_
        refine wpC_seq ?_
        refine wpC_region ?_
        refine st_val (ex_move rfl) (by decide) trivial ?_
        refine st_val (ex_move rfl) (by decide) trivial ?_
        obtain ⟨x27, hx27, b10⟩ := bind_some b10
        refine st_op (by decide) trivial ?_
        refine wf_call (cX_cmp_Compare_int w2 x13 x21 x27 hx27) Try.call126 ⟨rfl, rfl, trivial⟩ ?_
        rintro e32 w28 ⟨rfl, k29⟩
        have s31 := k29.stp 999 o1
        refine ⟨_, rfl, ?_⟩
        replace hB := hB.stp s31 (by decide)
        refine st_val (ex_assign rfl) (by decide) trivial ?_
        refine wpF_end (r := [(0, u0), (1, u1), (8, (.int .i64 x27)), (9, u0), (10, (.int .i64 (p0.length : Int))), (11, (.int .i64 i3))]) ⟨rfl, rfl, rfl, rfl, rfl, rfl, trivial⟩ ?_
        refine nx ?_
        refine wpC_seq ?_
        refine wpC_region ?_
        refine st_val (ex_move rfl) (by decide) trivial ?_
        refine st_val (ex_neq rfl rfl) (by decide) trivial ?_
        refine wpF_end (r := [(0, u0), (1, u1), (8, (.int .i64 x27)), (9, u0), (10, (.int .i64 (p0.length : Int))), (11, (.int .i64 i3)), (28, (.bool (x27 != 0)))]) ⟨rfl, rfl, rfl, rfl, rfl, rfl, rfl, trivial⟩ ?_
        refine nx ?_
        refine wpC_cond rfl (fun t33 => ?_) (fun t33 => ?_)
        · rw [if_pos t33] at b10
          refine wpC_seq ?_
          refine wpC_region ?_
          refine st_val (ex_move rfl) (by decide) trivial ?_
          refine st_val (ex_assign rfl) (by decide) trivial ?_
          refine wpF_end (r := [(4, (.int .i64 x27))]) ⟨rfl, trivial⟩ ?_
          refine nx ?_
          refine wpC_ret ?_
          refine nb_ret ?_
          refine nt_ret ?_
          refine nt_ret ?_
          refine nb_ret ?_
          refine np_ret ?_
          have e34 := Option.some.inj b10
          subst e34
          refine fun a ha => ⟨_, n11, ?_⟩
          refine ret_post (P := Try.prog) (vs := [(.int .i64 x27)]) Try.results107 ⟨rfl, trivial⟩ ?_ a ha
          exact ⟨rfl, hB.keeps⟩
        · rw [if_neg (by rw [t33]; decide)] at b10
          refine wpC_skip ?_
          refine nb_norm ?_
          refine nx ?_
          refine wpC_region ?_
          refine st_val (ex_add rfl rfl (ck_in (by omega) (by omega))) (by decide) trivial ?_
          refine st_val (ex_move rfl) (by decide) trivial ?_
          refine wpF_end (r := [(0, u0), (1, u1), (9, u0), (10, (.int .i64 (p0.length : Int))), (11, (.int .i64 (i3 + 1)))]) ⟨rfl, rfl, rfl, rfl, rfl, trivial⟩ ?_
          refine nt_norm ?_
          have e35 := Option.some.inj b10
          subst e35
          refine to_k (r := [(0, u0), (1, u1), (9, u0), (10, (.int .i64 (p0.length : Int))), (11, (.int .i64 (i3 + 1)))]) ⟨rfl, rfl, rfl, rfl, rfl, trivial⟩ ?_
          intro a ha
          exact ⟨_, (by rw [← m7]; simp only [List.length_drop]; omega), i3 + 1, o1, n11, rfl, (by omega), ha, hB⟩
    · have r36 := forI_done t12 l5
      refine wp_of ha ?_
      refine wpC_seq ?_
      refine wpC_region ?_
      refine st_val (ex_lss rfl rfl) (by decide) trivial ?_
      refine wpF_end (r := [(0, u0), (1, u1), (9, u0), (10, (.int .i64 (p0.length : Int))), (11, (.int .i64 i3)), (12, (.bool (decide (i3 < (p0.length : Int)))))]) ⟨rfl, rfl, rfl, rfl, rfl, rfl, trivial⟩ ?_
      refine nx ?_
      refine wpC_seq ?_
      refine wpC_false (congrArg (fun b => some (Value.bool b)) (decide_eq_false t12)) ?_
      refine wpC_exit ?_
      refine nt_exit ?_
      refine nt_exit ?_
      refine nb_hit ?_
      refine np_norm ?_
      refine to_k (r := [(0, u0), (1, u1)]) ⟨rfl, rfl, trivial⟩ ?_
      intro a ha
      exact ⟨o1, r36, ha, hB⟩
  · rintro a w2 ⟨o1, rfl, ha, hB⟩
    dsimp only at hF
    refine ap_k ha ?_
    refine nx ?_
    refine wpC_seq ?_
    refine wpC_seq ?_
    refine wpC_region ?_
    refine st_val (ex_move rfl) (by decide) trivial ?_
    refine st_val (ex_lenR rfl g0 Try.underlying23) (by decide) trivial ?_
    refine st_val (ex_move rfl) (by decide) trivial ?_
    refine st_val (ex_lenR rfl g1 Try.underlying23) (by decide) trivial ?_
    refine st_val (ex_lss rfl rfl) (by decide) trivial ?_
    refine wpF_end (r := [(35, (.bool (decide ((p0.length : Int) < (p1.length : Int)))))]) ⟨rfl, trivial⟩ ?_
    refine nx ?_
    refine wpC_cond rfl (fun t37 => ?_) (fun t37 => ?_)
    · rw [if_pos t37] at hF
      refine wpC_seq ?_
      refine wpC_region ?_
      refine st_val (ex_assign rfl) (by decide) trivial ?_
      refine wpF_end (r := [(4, (.int .i64 (-1)))]) ⟨rfl, trivial⟩ ?_
      refine nx ?_
      refine wpC_ret ?_
      refine nt_ret ?_
      have e38 := Option.some.inj hF
      subst e38
      refine ret_post (P := Try.prog) (vs := [(.int .i64 (-1))]) Try.results107 ⟨rfl, trivial⟩ ?_
      exact ⟨rfl, hB.keeps⟩
    · rw [if_neg (by rw [t37]; decide)] at hF
      refine wpC_skip ?_
      refine nx ?_
      refine wpC_seq ?_
      refine wpC_region ?_
      refine st_val (ex_assign rfl) (by decide) trivial ?_
      refine wpF_end (r := [(4, (.int .i64 0))]) ⟨rfl, trivial⟩ ?_
      refine nx ?_
      refine wpC_ret ?_
      have e39 := Option.some.inj hF
      subst e39
      refine ret_post (P := Try.prog) (vs := [(.int .i64 0)]) Try.results107 ⟨rfl, trivial⟩ ?_
      exact ⟨rfl, hB.keeps⟩
  · rintro a w2 ⟨r', rfl, b40⟩
    dsimp only at hF
    have e41 := Option.some.inj hF
    subst e41
    exact b40

end Ex
namespace Ex
open Go.RowKit
set_option linter.unusedSimpArgs false
set_option linter.unusedVariables false

theorem Stp.refl (t : Nat) (o : Tg) (w : World) : Stp t o w o w := ⟨Go.Proofs.Ytijaojnaamkinaa.Stp.refl _ _ _, Nat.le_refl _⟩
theorem stp_drew (o : Tg) (w : World) (t : Nat) : Stp t o w o w.drew := ⟨Go.Proofs.Ytijaojnaamkinaa.stp_drew _ _ _, Nat.le_succ _⟩
theorem stp_new (o : Tg) (w : World) (ob : Obj) (k t : Nat) : Stp t o w (ext o w.heap.size k) (w.alloc ob) := ⟨Go.Proofs.Ytijaojnaamkinaa.stp_new _ _ _ _ _, Nat.le_refl _⟩
section
variable {P : Program} {Q : Exit → Act → World → Prop} {n h : Nat} {l0 : List (Nat × Value)} {ops : List Oper} {D : Nat → Nat} {ds : Nat → List Nat} {cs : Nat → Option Nat}
  {R : Nat → Value → Tg → World → Prop} {Bf : Tg → World → Prop} {tg : Nat → Nat}

theorem drawn_any (hds : ∀ i, i < h → ∀ o w a, Fr a n l0 → Bf o w → (∀ j, j ∈ ds i → R j (a.tmps.getD (D j) undef) o w) → ∀ op, ops[i]? = some op → opS P ops.toArray op a w fun v w' => ∃ o', Stp (tg i) o w o' w' ∧ R i v o' w')
    (hsB : ∀ k o w o' w', k < h → Bf o w → Stp (tg k) o w o' w' → Bf o' w')
    (hsR : ∀ i k v o w o' w', i < h → k < h → i ≠ k → cs i ≠ some k → R i v o w → Stp (tg k) o w o' w' → R i v o' w')
    (hD : ∀ i, i < h → ∃ op, ops[i]? = some op ∧ op.dst = some (D i) ∧ D i < n ∧ (l0.map (·.1)).contains (D i) = false ∧ (∀ j, j < h → j ≠ i → D j ≠ D i) ∧
      (∀ j, j ∈ ds i → j < h ∧ (∃ e ∈ op.after, Region.binds .any e = true ∧ e.on = j) ∧ (cs j = none ∨ cs j = some i)))
    (hlow : ∀ i op, ops[i]? = some op → ∀ e ∈ op.after, Region.binds .any e = true → e.on < i)
    (hh : h ≤ ops.length)
    (htl : ∀ listed, HeadInv .any ops.toArray h listed → ∀ i, i < h → listed.getD i true = false → ∀ t, h ≤ t → t ∉ Region.ready .any ops.toArray listed)
    (hsq : Region.seqB .any ops.toArray (ops.length - h) h ((Array.range ops.length).map fun i => decide (i < h)) = true)
    (hfin : ∀ a o w, Fr a n l0 → Bf o w → (∀ i, i < h → cs i = none → R i (a.tmps.getD (D i) undef) o w) → wpList P ops.toArray Q (ops.drop h) a w) :
    ∀ (fuel : Nat) (listed : Array Bool) (a : Act) (w : World) (o : Tg), DrawnI n h l0 D cs R Bf listed a w o → HeadInv .any ops.toArray h listed →
      ((List.range h).filter fun i => !listed.getD i true).length + (ops.length - h) ≤ fuel → ((List.range h).filter fun i => !listed.getD i true).length + (ops.length - h) = fuel → wpAny P .any ops.toArray Q fuel listed a w := by
  intro fuel
  induction fuel with
  | zero =>
    intro listed a w o hJ hI hle heq
    have h0 : (List.range h).filter (fun i => !listed.getD i true) = [] := List.eq_nil_of_length_eq_zero (by omega)
    have hall : ∀ i, i < h → listed.getD i true = true := by
      intro i hi
      have := List.filter_eq_nil_iff.1 h0 i (List.mem_range.2 hi)
      simpa using this
    have hlist : listed = (Array.range ops.length).map fun i => decide (i < h) := by
      apply Array.ext (by simp [hI.size])
      intro i h1 h2
      have h3 : i < ops.length := by simpa [hI.size] using h1
      simp only [Array.getElem_map, Array.getElem_range]
      by_cases hi : i < h
      · have := hall i hi
        simp [h1] at this
        simp [this, hi]
      · have := hI.tail i (by omega) (by simpa using h3)
        simp [h1] at this
        simp [this, hi]
    have := wpAny_of_seq (P := P) (md := .any) (ops := ops.toArray) (Q' := Q) (ops.drop h) h listed a w (fun j => by simp [List.getElem?_drop]) (by rw [hlist]; simpa using hsq)
      (hfin a o w hJ.fr hJ.base fun i hi hc => hJ.done i hi (by
        have h1 := hall i hi
        have h2 : i < listed.size := by rw [hI.size]; simp; omega
        simp [h2] at h1 ⊢; exact h1) (fun k hk => by rw [hc] at hk; cases hk))
    have hl : (ops.drop h).length = 0 := by simp; omega
    rw [hl] at this
    exact this
  | succ fuel ih =>
    intro listed a w o hJ hI hle heq
    by_cases h0 : (List.range h).filter (fun i => !listed.getD i true) = []
    · -- the head is done
      have hall : ∀ i, i < h → listed.getD i true = true := by
        intro i hi
        have := List.filter_eq_nil_iff.1 h0 i (List.mem_range.2 hi)
        simpa using this
      have hlist : listed = (Array.range ops.length).map fun i => decide (i < h) := by
        apply Array.ext (by simp [hI.size])
        intro i h1 h2
        have h3 : i < ops.length := by simpa [hI.size] using h1
        simp only [Array.getElem_map, Array.getElem_range]
        by_cases hi : i < h
        · have := hall i hi
          simp [h1] at this
          simp [this, hi]
        · have := hI.tail i (by omega) (by simpa using h3)
          simp [h1] at this
          simp [this, hi]
      have := wpAny_of_seq (P := P) (md := .any) (ops := ops.toArray) (Q' := Q) (ops.drop h) h listed a w (fun j => by simp [List.getElem?_drop]) (by rw [hlist]; simpa using hsq)
        (hfin a o w hJ.fr hJ.base fun i hi hc => hJ.done i hi (by
          have h1 := hall i hi
          have h2 : i < listed.size := by rw [hI.size]; simp; omega
          simp [h2] at h1 ⊢; exact h1) (fun k hk => by rw [hc] at hk; cases hk))
      have hl : (ops.drop h).length = fuel + 1 := by rw [h0] at heq; simp at heq ⊢; omega
      rw [hl] at this
      exact this
    · obtain ⟨i0, hi0⟩ := List.exists_mem_of_ne_nil _ h0
      have hi0h := List.mem_range.1 (List.mem_filter.1 hi0).1
      have hi0l : listed.getD i0 true = false := by simpa using (List.mem_filter.1 hi0).2
      have hready : ∀ i, i ∈ Region.ready .any ops.toArray listed → i < h := by
        intro i hi
        apply Nat.lt_of_not_le
        intro hle
        exact htl listed hI i0 hi0h hi0l i hle hi
      have hcount : ∀ i, i < h → listed.getD i true = false →
          ((List.range h).filter fun j => !(listed.setIfInBounds i true).getD j true).length + 1 = ((List.range h).filter fun j => !listed.getD j true).length := by
        intro i hi hil
        have hsz : i < listed.size := by rw [hI.size]; simp; omega
        have e1 : ∀ (m : Nat), i < m → ((List.range m).filter fun j => !(listed.setIfInBounds i true).getD j true).length + 1 = ((List.range m).filter fun j => !listed.getD j true).length := by
          intro m
          induction m with
          | zero => intro h; omega
          | succ m ihm =>
            intro him
            rw [List.range_succ, List.filter_append, List.filter_append, List.length_append, List.length_append]
            by_cases e : i = m
            · subst e
              have e2 : ((List.range i).filter fun j => !(listed.setIfInBounds i true).getD j true) = (List.range i).filter fun j => !listed.getD j true := by
                apply List.filter_congr
                intro j hj
                have := List.mem_range.1 hj
                rw [getD_set_ne true (by omega)]
              rw [e2]
              have e3 : (listed.setIfInBounds i true).getD i true = true := by simp
              simp only [List.filter_cons, List.filter_nil, e3, hil]; simp
            · have := ihm (by omega)
              have e4 : (listed.setIfInBounds i true).getD m true = listed.getD m true := getD_set_ne true (by omega)
              simp only [List.filter_cons, List.filter_nil, e4]
              omega
        exact e1 h hi
      refine ⟨fun hr => ?_, fun i hi => ?_⟩
      · -- something is always ready: not needed, what follows is asked of nothing
        exfalso
        have key : ∀ (d i : Nat), i = d → i < h → listed.getD i true = false → ∃ j, j ∈ Region.ready .any ops.toArray listed := by
          intro d
          induction d using Nat.strongRecOn with
          | _ d ihd =>
            intro i hid hih hil
            obtain ⟨op, hop, _⟩ := hD i hih
            by_cases hall : ∀ e ∈ op.after, Region.binds .any e = true → listed.getD e.on false = true
            · exact ⟨i, mem_ready.2 ⟨hil, op, by simpa using hop, hall⟩⟩
            · have : ∃ e, e ∈ op.after ∧ Region.binds .any e = true ∧ listed.getD e.on false = false := by
                apply Classical.byContradiction
                intro hno
                apply hall
                intro e he hb
                cases hc : listed.getD e.on false with
                | true => rfl
                | false => exact absurd ⟨e, he, hb, hc⟩ hno
              obtain ⟨e, he, hb, hc⟩ := this
              have hlt := hlow i op hop e he hb
              have hsz : e.on < listed.size := by rw [hI.size]; simp; omega
              exact ihd e.on (by omega) e.on rfl (by omega) (getD_in hsz hc)
        obtain ⟨j, hj⟩ := key i0 i0 rfl hi0h hi0l
        rw [hr] at hj
        cases hj
      · have hih := hready i hi
        obtain ⟨op, hop, hdst, hDn, hbase, hdist, hdeps⟩ := hD i hih
        obtain ⟨hil, op', hop', hafter⟩ := mem_ready.1 hi
        have e : op' = op := by
          have : ops.toArray[i]? = ops[i]? := by simp
          rw [this, hop] at hop'
          exact (Option.some.inj hop').symm
        subst e
        unfold wpOp
        rw [hop']
        have hob := hds i hih o w a hJ.fr hJ.base (fun j hj => by
          obtain ⟨hjh, ⟨ed, hed1, hed2, hed3⟩, hc⟩ := hdeps j hj
          refine hJ.done j hjh (by rw [← hed3]; exact hafter ed hed1 hed2) (fun k hk => ?_)
          rcases hc with hc | hc
          · rw [hc] at hk; cases hk
          · rw [hc] at hk
            cases hk
            exact getD_both hil) op' hop
        have hnext : ∀ (v : Value) (w' : World) (o' : Tg), Stp (tg i) o w o' w' → R i v o' w' → wpAny P .any ops.toArray Q fuel (listed.setIfInBounds i true) (a.put op'.dst v) w' := by
          intro v w' o' hst hR
          rw [hdst]
          have hc := hcount i hih hil
          refine ih _ _ _ o' ⟨hJ.fr.put_ne hbase v, hsB i o w o' w' hih hJ.base hst, fun j hj hlj hcj => ?_⟩ (hI.set hi hih) (by omega) (by omega)
          by_cases hji : j = i
          · subst hji
            have : ((a.put (some (D j)) v).tmps.getD (D j) undef) = v := by
              have hlt : D j < a.tmps.size := by rw [hJ.fr.size]; exact hDn
              simp [Act.put, Array.getD_eq_getD_getElem?, hlt]
            rw [this]; exact hR
          · have hne := hdist j hj hji
            have : ((a.put (some (D i)) v).tmps.getD (D j) undef) = a.tmps.getD (D j) undef := by
              simp only [Act.put, Array.getD_eq_getD_getElem?]
              rw [Array.getElem?_setIfInBounds_ne (Ne.symm hne)]
            rw [this]
            rw [getD_set_ne false (fun e => hji e.symm)] at hlj
            have hcs : cs j ≠ some i := by
              intro e
              have := hcj i e
              have hsz : i < listed.size := by rw [hI.size]; simp; omega
              simp [hsz] at this
            refine hsR j i _ o w o' w' hj hih hji hcs (hJ.done j hj hlj fun k hk => ?_) hst
            have := hcj k hk
            by_cases hki : k = i
            · subst hki; exact absurd hk hcs
            · rw [getD_set_ne false (fun e => hki e.symm)] at this; exact this
        unfold opS at hob
        simp only [hop', ]
        by_cases hw : Region.wanted op' (yielded ops.toArray a.tmps) = true
        · rw [if_pos hw] at hob ⊢
          refine .inl (oper_wp_mono ?_ ?_ hob)
          · rintro a' w' ⟨v, rfl, o', hst, hR⟩
            exact hnext v w' o' hst hR
          · intro _ _ _ h; exact h.elim
        · rw [if_neg hw] at hob ⊢
          obtain ⟨o', hst, hR⟩ := hob
          exact hnext undef w o' hst hR
end

/-- A fact on a value that outlasts every step but those for the tag b. -/
def St (b : Nat) (p : Pr) : Prop := ∀ t v o w o' w', t ≠ 0 ∧ t ≤ 999 → t ≠ b → p v o w → Stp t o w o' w' → p v o' w'
theorem st_eq (c : Value) : St 0 (fun v _ _ => v = c) := fun _ _ _ _ _ _ _ _ h _ => h
def AllSt : List Nat → List Pr → Prop
  | b :: bs, p :: ps => St b p ∧ AllSt bs ps
  | [], [] => True
  | _, _ => False
theorem AllSt.get : ∀ {bs : List Nat} {ps : List Pr}, AllSt bs ps → ∀ i, St (bs.getD i 0) (ps.getD i prT)
  | [], [], _, i => fun _ _ _ _ _ _ _ _ _ _ => trivial
  | b :: bs, p :: ps, h, 0 => h.1
  | b :: bs, p :: ps, h, i + 1 => by simpa using AllSt.get h.2 i
  | [], _ :: _, h, _ => h.elim
  | _ :: _, [], h, _ => h.elim
def Obs (P : Program) (all : List Oper) (n : Nat) (l0 : List (Nat × Value)) (Bf : Tg → World → Prop) (Dl : List Nat) (Rl : List Pr) (tgl : List Nat) (dsl : List (List Nat)) : Nat → List Oper → Prop
  | _, [] => True
  | i, op :: ops => (∀ o w a, Fr a n l0 → Bf o w → Deps Dl Rl a o w (dsl.getD i []) → opS P all.toArray op a w fun v w' => ∃ o', Stp (tgl.getD i 999) o w o' w' ∧ (Rl.getD i prT) v o' w') ∧ Obs P all n l0 Bf Dl Rl tgl dsl (i + 1) ops
theorem Obs.get {P : Program} {all : List Oper} {n : Nat} {l0 : List (Nat × Value)} {Bf : Tg → World → Prop} {Dl : List Nat} {Rl : List Pr} {tgl : List Nat} {dsl : List (List Nat)} :
    ∀ {ops : List Oper} {k : Nat}, Obs P all n l0 Bf Dl Rl tgl dsl k ops → ∀ i op, ops[i]? = some op → ∀ o w a, Fr a n l0 → Bf o w → Deps Dl Rl a o w (dsl.getD (k + i) []) →
      opS P all.toArray op a w fun v w' => ∃ o', Stp (tgl.getD (k + i) 999) o w o' w' ∧ (Rl.getD (k + i) prT) v o' w'
  | [], k, _, i, op, h => by simp at h
  | o :: ops, k, hO, 0, op, h => by simp at h; subst h; exact hO.1
  | o :: ops, k, hO, i + 1, op, h => by
    have := Obs.get hO.2 i op (by simpa using h)
    rw [show k + 1 + i = k + (i + 1) by omega] at this
    exact this
theorem wpC_drawn {P : Program} {Q : Exit → Act → World → Prop} {n id : Nat} {l : List (Nat × Value)} {ops : List Oper} {w : World} {o : Tg}
    (l0 : List (Nat × Value)) (base Dl : List Nat) (dsl : List (List Nat)) (csl : List (Option Nat)) (tgl bdl tags : List Nat) (Rl : List Pr) (Bf : Tg → World → Prop)
    (hm : P.follows .mixedOrders = true) (hchk : drawnB ops.toArray n base Dl dsl csl tgl bdl tags = true) (hbase : l0.map (·.1) = base) (hsub : Sub l0 l) (hB0 : Bf o w)
    (hSB : ∀ t o w o' w', t ∈ tags → Bf o w → Stp t o w o' w' → Bf o' w') (hSR : AllSt bdl Rl) (hob : Obs P ops n l0 Bf Dl Rl tgl dsl 0 (ops.take Dl.length))
    (hfin : ∀ o w a, Fr a n l0 → Bf o w → Fin a o w Dl csl Rl → wpList P ops.toArray Q (ops.drop Dl.length) a w) : wpC P (.region id ops.toArray true) Q n l w := by
  intro a ha
  simp only [drawnB, Bool.and_eq_true] at hchk
  obtain ⟨⟨⟨⟨⟨⟨c1, c2⟩, c3⟩, c4⟩, c5⟩, c6⟩, c7⟩ := hchk
  have hh : Dl.length ≤ ops.length := by simpa using c1
  have h999 : 999 ∈ tags := by simpa using c2
  have htags : ∀ t, t ∈ tags → t ≠ 0 ∧ t ≤ 999 := fun t ht => by simpa using List.all_eq_true.1 c3 t ht
  have c4' : ∀ i, i < Dl.length → _ := fun i hi => List.all_eq_true.1 c4 i (List.mem_range.2 hi)
  simp only [Bool.and_eq_true] at c4'
  refine wp_region_any hm ?_
  have hinv : HeadInv .any ops.toArray Dl.length (Array.replicate ops.toArray.size false) :=
    ⟨by simp, fun j oj _ hl => (by rw [getD_replicate_false] at hl; cases hl), fun t _ ht => getD_in (by simpa using ht) (getD_replicate_false _ _)⟩
  have hcnt : ((List.range Dl.length).filter fun i => !(Array.replicate ops.toArray.size false).getD i true).length = Dl.length := by
    rw [List.filter_eq_self.2]
    · simp
    · intro i hi
      have hi' := List.mem_range.1 hi
      have : (Array.replicate ops.toArray.size false).getD i true = false := getD_in (by simp; omega) (getD_replicate_false _ _)
      rw [this]; rfl
  have := drawn_any (P := P) (Q := Q) (n := n) (h := Dl.length) (l0 := l0) (ops := ops) (D := fun i => Dl.getD i 0) (ds := fun i => dsl.getD i []) (cs := fun i => csl.getD i none)
    (R := fun i => Rl.getD i prT) (Bf := Bf) (tg := fun i => tgl.getD i 999)
    (fun i hi o w a hf hb hd op hop => by
      have := Obs.get hob i op (by rw [List.getElem?_take, if_pos hi]; exact hop) o w a hf hb (by rw [Nat.zero_add]; exact Deps.of hd)
      rw [Nat.zero_add] at this; exact this)
    (fun k o w o' w' hk hb hs => hSB _ o w o' w' (by have := (c4' k hk).2; simpa using this) hb hs)
    (fun i k v o w o' w' hi hk hik hcs hR hs => by
      have h1 := (c4' k hk).2
      have h2 := List.all_eq_true.1 (c4' i hi).1.1.2 k (List.mem_range.2 hk)
      simp only [Bool.or_eq_true, Bool.and_eq_true, decide_eq_true_eq, beq_iff_eq] at h2
      rcases h2 with h2 | ⟨_, h2⟩
      · exact absurd h2.symm hik
      · rcases h2 with h2 | h2
        · exact absurd h2 hcs
        · exact hSR.get i _ v o w o' w' (htags _ (by simpa using h1)) h2 hR hs)
    (fun i hi => by
      obtain ⟨⟨⟨⟨⟨g1, g2⟩, g3⟩, g4⟩, g5⟩, g6⟩ := c4' i hi
      have hlt : i < ops.length := by omega
      have hop : ops[i]? = some (ops[i]'hlt) := List.getElem?_eq_getElem hlt
      refine ⟨_, hop, ?_, by simpa using g2, by rw [hbase]; simpa using g3, fun j hj hji => ?_, fun j hj => ?_⟩
      · simp only [List.getElem?_toArray, hop] at g1
        simpa using g1
      · have := List.all_eq_true.1 g4 j (List.mem_range.2 hj)
        simp only [Bool.or_eq_true, Bool.and_eq_true, decide_eq_true_eq] at this
        rcases this with h | h
        · exact absurd h hji
        · exact h.1
      · have := List.all_eq_true.1 g5 j hj
        simp only [Bool.and_eq_true, decide_eq_true_eq, Bool.or_eq_true, beq_iff_eq] at this
        obtain ⟨⟨k1, k2⟩, k3⟩ := this
        obtain ⟨oj, hoj, e, he, hb, hon⟩ := Region.waitsFor_spec k2
        have : oj = ops[i]'hlt := by
          simp only [List.getElem?_toArray, hop] at hoj
          exact (Option.some.inj hoj).symm
        subst this
        exact ⟨k1, ⟨e, he, hb, hon⟩, k3⟩)
    (fun i op hop e he hb => by
      have hlt : i < ops.length := (List.getElem?_eq_some_iff.1 hop).1
      have := List.all_eq_true.1 c5 i (List.mem_range.2 (by simpa using hlt))
      simp only [List.getElem?_toArray, hop] at this
      have h2 := Array.all_eq_true_iff_forall_mem.1 this e he
      simp only [Bool.or_eq_true, Bool.not_eq_true', decide_eq_true_eq] at h2
      rcases h2 with h2 | h2
      · rw [hb] at h2; cases h2
      · exact h2)
    hh
    (fun listed hI i hi hil t ht hr => by
      simp only [Bool.or_eq_true, Bool.and_eq_true, decide_eq_true_eq] at c6
      rcases c6 with c6 | ⟨c6, c6'⟩
      · obtain ⟨_, ot, hot, _⟩ := mem_ready.1 hr
        have := (Array.getElem?_eq_some_iff.1 hot).1
        omega
      · by_cases hn : Dl.length < ops.toArray.size
        · exact tail_waits c6 c6' hn hI _ i rfl hi hil t ht hr
        · obtain ⟨_, ot, hot, _⟩ := mem_ready.1 hr
          have := (Array.getElem?_eq_some_iff.1 hot).1
          omega)
    (by simpa using c7)
    (fun a o w hf hb hd => hfin o w a hf hb (Fin.of hd))
    ops.toArray.size (Array.replicate ops.toArray.size false) a { w with drawn := w.drawn + 1 } o
    ⟨ha.sub hsub, hSB 999 o w o _ h999 hB0 (stp_drew o w 999), fun i hi hl => (by rw [getD_replicate_false] at hl; cases hl)⟩ hinv (by rw [hcnt]; simp; omega) (by rw [hcnt]; simp; omega)
  exact this
section
variable {P : Program} {n : Nat} {l : List (Nat × Value)} {w w0 : World} {o oo : Tg} {α : Type} [Rp α] {d : Nat} {ty : TypeId} {ps : String} {af : Array Edge} {g : Option (Nat × Bool)} {R : Value → World → Prop}
theorem wf_box {x : Operand} {t : TypeId} {v : Value} {cs : List Value} (B k : Nat) (hB : B ≤ w.heap.size) (hc : v.cells = cs.toArray) (hx : ev l x = some v)
    (h : ∀ o' w' b, Bx B k o' w' b t cs → Stp k o w o' w' → R (.pointer (some ⟨b, 0, none⟩)) w') : op1 P ⟨some d, .box t x, ty, ps, af, g⟩ n l w R :=
  op1_val (ex_box hx) (h (ext o w.heap.size k) _ _ (by rw [hc]; exact ⟨heap_alloc_new w _, ext_new _ _ _ _ (Nat.le_refl _), hB⟩) (stp_new _ _ _ _ _))
theorem wf_litR {t e : TypeId} {m sz : Nat} {z : Value} {parts : List (Nat × Operand)} {vs : List (Nat × Value)} {cs : List Value} {xs : List α} (hrd : RdC o w cs xs) (hm : m = xs.length) (hv : EvP l parts vs)
    (ht : P.underlying t = some (.slice e)) (hs : ∀ w, (sizeOf e).run P w = .ok sz w) (hz : ∀ w, (zeroValue e).run P w = .ok z w) (hsm : m * sz ≤ 16777216)
    (hf : Instr.fill (fun i => some (i * sz, sz)) ((Array.range (m * sz)).map ((if m * sz = 0 then #[] else z.cells)[· % (if m * sz = 0 then #[] else z.cells).size]!)) vs = some cs.toArray) (hl : xs.length ≤ 1000000)
    (h : ∀ o' w' v', RdL o' w' v' xs → Stp 999 o w o' w' → Keeps w w' → R v' w') : op1 P ⟨some d, .buildSlice t m parts.toArray, ty, ps, af, g⟩ n l w R := by
  subst hm
  exact op1_val (ex_lit ht hs hz hsm hv hf) (h _ _ _ (lit_rd (e := e) hrd (by simp only [maxLen]; omega)) (stp_new _ _ _ _ _) ⟨(Go.Proofs.Ytijaojnaamkinaa.Keeps.refl _).alloc _, Nat.le_refl _⟩)
end
end Ex
open Go.RowKit
def fX_cmp_Or_int_s1 : Int → Int → Unit → Option (Lp Unit Unit Int) := fun (i3 : Int) (x13 : Int) (s : Unit) =>
  if x13 != 0 then
    some (.ret x13)
  else
    some (.go ())
def fX_cmp_Or_int (p0 : List Int) : Option Int :=
  (forI (fX_cmp_Or_int_s1) p0 0 ()) >>= fun q4 =>
  match q4 with
  | .inl _ =>
    some 0
  | .inr r' => some r'
def fI_componentsOf_1 (p0 : T_component) (p1 : T_component) : Option Int :=
  (fX_slices_Compare_int_int p0.code p1.code) >>= fun x19 =>
  (fX_cmp_Compare_int p0.least p1.least) >>= fun x69 =>
  (fX_cmp_Or_int ([x19, x69] : List Int)) >>= fun x81 =>
  some x81

namespace Ex
def pX_cmp_Or_int (w : World) (r : Int) : Ending → World → Prop := fun e w' => e = .returned (.int .i64 r) ∧ Keeps w w'
set_option maxRecDepth 100000 in
set_option maxHeartbeats 2000000 in
theorem cX_cmp_Or_int (w : World) (u0 : Value) (p0 : List Int) (g0 : RdL zt w u0 p0) (r : Int) (hF : fX_cmp_Or_int p0 = some r) :
    Calls Try.prog 125 #[u0] w (pX_cmp_Or_int w r) := by
  unfold fX_cmp_Or_int at hF
  have hB : Bs (fun _ => 1) (col (fun _ => 1)) w w := Bs.start _ _
  refine calls_start (n := 18) (vs := [u0]) Try.func125 rfl rfl ?_
  refine wpC_seq ?_
  refine wpC_region ?_
  refine st_val (ex_assign rfl) (by decide) trivial ?_
  refine wpF_end (r := [(0, u0)]) ⟨rfl, trivial⟩ ?_
  refine nx ?_
  refine wpC_seq ?_
  refine wpC_region ?_
  refine st_val (ex_assign rfl) (by decide) trivial ?_
  refine wpF_end (r := [(0, u0), (3, (.int .i64 0))]) ⟨rfl, rfl, trivial⟩ ?_
  refine nx ?_
  refine wpC_seq ?_
  refine wpC_seq ?_
  refine wpC_region ?_
  refine st_val (ex_move rfl) (by decide) trivial ?_
  refine st_val (ex_lenR rfl g0 Try.underlying23) (by decide) trivial ?_
  refine st_val (ex_move rfl) (by decide) trivial ?_
  refine wpF_end (r := [(3, (.int .i64 0)), (6, u0), (7, (.int .i64 (p0.length : Int))), (8, (.int .i64 0))]) ⟨rfl, rfl, rfl, rfl, trivial⟩ ?_
  refine nx ?_
  obtain ⟨q4, hq4, hF⟩ := bind_some hF
  refine wpC_cutN (fun a w2 => ∃ (o1 : Tg), q4 = .inl () ∧ Fr a 18 [(3, (.int .i64 0))] ∧ Bs (fun _ => 1) o1 w w2) (fun a w' => ∃ r', q4 = .inr r' ∧ bodyPost Try.prog Try.f125 (pX_cmp_Or_int w r') .ret a w') ?_ ?_ ?_
  · refine wpC_block ?_
    refine wpC_loop (fun (K : Nat) a w2 => ∃ (i3 : Int) (o1 : Tg), forI (fX_cmp_Or_int_s1) (p0.drop i3.toNat) i3 () = some q4 ∧ (p0.drop i3.toNat).length = K ∧ 0 ≤ i3 ∧ Fr a 18 [(3, (.int .i64 0)), (6, u0), (7, (.int .i64 (p0.length : Int))), (8, (.int .i64 i3))] ∧ Bs (fun _ => 1) o1 w w2) _ (fun a ha => ⟨0, (col (fun _ => 1)), hq4, rfl, Int.le_refl 0, ha.sub (r := [(3, (.int .i64 0)), (6, u0), (7, (.int .i64 (p0.length : Int))), (8, (.int .i64 0))]) ⟨rfl, rfl, rfl, rfl, trivial⟩, hB⟩) ?_
    rintro K8 a w2 ⟨i3, o1, l5, m7, z6, ha, hB⟩
    by_cases t12 : i3 < (p0.length : Int)
    · obtain ⟨x13, q9, hx13, b10, n11⟩ := forI_cons z6 t12 l5
      have hle := g0.len_le
      dsimp only [fX_cmp_Or_int_s1] at b10
      refine wp_of ha ?_
      refine wpC_seq ?_
      refine wpC_region ?_
      refine st_val (ex_lss rfl rfl) (by decide) trivial ?_
      refine wpF_end (r := [(3, (.int .i64 0)), (6, u0), (7, (.int .i64 (p0.length : Int))), (8, (.int .i64 i3)), (9, (.bool (decide (i3 < (p0.length : Int)))))]) ⟨rfl, rfl, rfl, rfl, rfl, trivial⟩ ?_
      refine nx ?_
      refine wpC_seq ?_
      refine wpC_true (congrArg (fun b => some (Value.bool b)) (decide_eq_true t12)) ?_
      refine wpC_skip ?_
      refine nx ?_
      refine wpC_seq ?_
      refine wpC_block ?_
      refine wpC_seq ?_
      refine wpC_region ?_
      refine st_op (by decide) trivial ?_
      refine wf_atZ g0 hx13 hB rfl rfl Try.underlying23 Try.sizeOf3 ?_
      intro b14 f15 c16 h17 h18
      cases h18
      refine st_val (ex_load1 rfl Try.isAgg3 (cell_of_cells h17)) (by decide) trivial ?_
      refine st_val (ex_assign rfl) (by decide) trivial ?_
      refine wpF_end (r := [(3, (.int .i64 0)), (5, (.int .i64 x13)), (6, u0), (7, (.int .i64 (p0.length : Int))), (8, (.int .i64 i3))]) ⟨rfl, rfl, rfl, rfl, rfl, trivial⟩ ?_
      refine nx ?_
      refine wpC_seq ?_
      refine wpC_region ?_
      refine st_val (ex_move rfl) (by decide) trivial ?_
      refine st_val (ex_move rfl) (by decide) trivial ?_
      refine st_val (ex_neq rfl rfl) (by decide) trivial ?_
      refine wpF_end (r := [(3, (.int .i64 0)), (5, (.int .i64 x13)), (6, u0), (7, (.int .i64 (p0.length : Int))), (8, (.int .i64 i3)), (14, (.bool (x13 != 0)))]) ⟨rfl, rfl, rfl, rfl, rfl, rfl, trivial⟩ ?_
      refine nx ?_
      refine wpC_cond rfl (fun t19 => ?_) (fun t19 => ?_)
      · rw [if_pos t19] at b10
        refine wpC_seq ?_
        refine wpC_region ?_
        refine st_val (ex_move rfl) (by decide) trivial ?_
        refine st_val (ex_assign rfl) (by decide) trivial ?_
        refine wpF_end (r := [(2, (.int .i64 x13))]) ⟨rfl, trivial⟩ ?_
        refine nx ?_
        refine wpC_ret ?_
        refine nb_ret ?_
        refine nt_ret ?_
        refine nt_ret ?_
        refine nb_ret ?_
        refine np_ret ?_
        have e20 := Option.some.inj b10
        subst e20
        refine fun a ha => ⟨_, n11, ?_⟩
        refine ret_post (P := Try.prog) (vs := [(.int .i64 x13)]) Try.results125 ⟨rfl, trivial⟩ ?_ a ha
        exact ⟨rfl, hB.keeps⟩
      · rw [if_neg (by rw [t19]; decide)] at b10
        refine wpC_skip ?_
        refine nb_norm ?_
        refine nx ?_
        refine wpC_region ?_
        refine st_val (ex_add rfl rfl (ck_in (by omega) (by omega))) (by decide) trivial ?_
        refine st_val (ex_move rfl) (by decide) trivial ?_
        refine wpF_end (r := [(3, (.int .i64 0)), (6, u0), (7, (.int .i64 (p0.length : Int))), (8, (.int .i64 (i3 + 1)))]) ⟨rfl, rfl, rfl, rfl, trivial⟩ ?_
        refine nt_norm ?_
        have e21 := Option.some.inj b10
        subst e21
        refine to_k (r := [(3, (.int .i64 0)), (6, u0), (7, (.int .i64 (p0.length : Int))), (8, (.int .i64 (i3 + 1)))]) ⟨rfl, rfl, rfl, rfl, trivial⟩ ?_
        intro a ha
        exact ⟨_, (by rw [← m7]; simp only [List.length_drop]; omega), i3 + 1, o1, n11, rfl, (by omega), ha, hB⟩
    · have r22 := forI_done t12 l5
      refine wp_of ha ?_
      refine wpC_seq ?_
      refine wpC_region ?_
      refine st_val (ex_lss rfl rfl) (by decide) trivial ?_
      refine wpF_end (r := [(3, (.int .i64 0)), (6, u0), (7, (.int .i64 (p0.length : Int))), (8, (.int .i64 i3)), (9, (.bool (decide (i3 < (p0.length : Int)))))]) ⟨rfl, rfl, rfl, rfl, rfl, trivial⟩ ?_
      refine nx ?_
      refine wpC_seq ?_
      refine wpC_false (congrArg (fun b => some (Value.bool b)) (decide_eq_false t12)) ?_
      refine wpC_exit ?_
      refine nt_exit ?_
      refine nt_exit ?_
      refine nb_hit ?_
      refine np_norm ?_
      refine to_k (r := [(3, (.int .i64 0))]) ⟨rfl, trivial⟩ ?_
      intro a ha
      exact ⟨o1, r22, ha, hB⟩
  · rintro a w2 ⟨o1, rfl, ha, hB⟩
    dsimp only at hF
    refine ap_k ha ?_
    refine nx ?_
    refine wpC_seq ?_
    refine wpC_region ?_
    refine st_val (ex_move rfl) (by decide) trivial ?_
    refine st_val (ex_assign rfl) (by decide) trivial ?_
    refine wpF_end (r := [(2, (.int .i64 0))]) ⟨rfl, trivial⟩ ?_
    refine nx ?_
    refine wpC_ret ?_
    have e23 := Option.some.inj hF
    subst e23
    refine ret_post (P := Try.prog) (vs := [(.int .i64 0)]) Try.results125 ⟨rfl, trivial⟩ ?_
    exact ⟨rfl, hB.keeps⟩
  · rintro a w2 ⟨r', rfl, b24⟩
    dsimp only at hF
    have e25 := Option.some.inj hF
    subst e25
    exact b24



def pI_componentsOf_1 (w : World) (r : Int) : Ending → World → Prop := fun e w' => e = .returned (.int .i64 r) ∧ Keeps w w'
set_option maxRecDepth 100000 in
set_option maxHeartbeats 2000000 in
theorem cI_componentsOf_1 (w : World) (u0 : List Value) (p0 : T_component) (g0 : Rp.rd zt w u0 p0) (u1 : List Value) (p1 : T_component) (g1 : Rp.rd zt w u1 p1) (r : Int) (hF : fI_componentsOf_1 p0 p1 = some r) :
    Calls Try.prog 124 #[.agg u0.toArray, .agg u1.toArray] w (pI_componentsOf_1 w r) := by
  unfold fI_componentsOf_1 at hF
  obtain ⟨v1, v3, rfl, h2, h4⟩ := g0
  obtain ⟨v5, v7, rfl, h6, h8⟩ := g1
  have hB : Bs (fun _ => 1) (col (fun _ => 1)) w w := Bs.start _ _
  refine calls_start (n := 17) (vs := [(.agg #[v1, v3, (.int .i64 p0.least), (.int .i64 p0.roots)]), (.agg #[v5, v7, (.int .i64 p1.least), (.int .i64 p1.roots)])]) Try.func124 rfl rfl ?_
  refine wpC_seq ?_
  refine wpC_region ?_
  refine st_op (by decide) trivial ?_
  refine wf_box (o := (col (fun _ => 1))) w.heap.size 11 hB.keeps.k.size (cs := [v1, v3, (.int .i64 p0.least), (.int .i64 p0.roots)]) rfl rfl ?_
  intro o9 w10 b11 h12 s13
  replace hB := hB.stp s13 (by decide)
  refine st_op (by decide) trivial ?_
  refine wf_box (o := o9) w.heap.size 12 hB.keeps.k.size (cs := [v5, v7, (.int .i64 p1.least), (.int .i64 p1.roots)]) rfl rfl ?_
  intro o14 w15 b16 h17 s18
  replace h12 := h12.stp s18.s (by decide)
  replace hB := hB.stp s18 (by decide)
  refine st_val (ex_assign rfl) (by decide) trivial ?_
  refine wpF_end (r := [(2, (.pointer (some ⟨b11, 0, none⟩))), (3, (.pointer (some ⟨b16, 0, none⟩)))]) ⟨rfl, rfl, trivial⟩ ?_
  refine nx ?_
  refine wpC_seq ?_
  obtain ⟨x19, hx19, hF⟩ := bind_some hF
  refine wpC_drawn (o := o14) [(2, (.pointer (some ⟨b11, 0, none⟩))), (3, (.pointer (some ⟨b16, 0, none⟩)))] [2, 3] [5, 6, 7, 8, 9, 10, 11, 12, 13] [[], [0], [], [2], [1, 3], [], [5], [], [7]] [none, none, none, none, none, none, none, none, none] [999, 999, 999, 999, 999, 999, 999, 999, 999] [0, 0, 0, 0, 0, 0, 0, 0, 0] [999] [fun v _ _ => v = (.pointer (some ⟨b11, 0 + 0, none⟩)), fun v _ _ => v = v1, fun v _ _ => v = (.pointer (some ⟨b16, 0 + 0, none⟩)), fun v _ _ => v = v5, fun v _ _ => v = (.int .i64 x19), fun v _ _ => v = (.pointer (some ⟨b11, 0 + 2, none⟩)), fun v _ _ => v = (.int .i64 p0.least), fun v _ _ => v = (.pointer (some ⟨b16, 0 + 2, none⟩)), fun v _ _ => v = (.int .i64 p1.least)] (fun o8 w8 => Bs (fun _ => 1) o8 w w8 ∧ Bx w.heap.size 11 o8 w8 b11 106 [v1, v3, (.int .i64 p0.least), (.int .i64 p0.roots)] ∧ Bx w.heap.size 12 o8 w8 b16 106 [v5, v7, (.int .i64 p1.least), (.int .i64 p1.roots)]) follows_mixed (by kernel_rfl) rfl ⟨rfl, rfl, trivial⟩ ⟨hB, h12, h17⟩ ?_ ⟨st_eq _, st_eq _, st_eq _, st_eq _, st_eq _, st_eq _, st_eq _, st_eq _, st_eq _, trivial⟩ ?_ ?_
  · rintro t9 o1 w1 o2 w2 ht9 ⟨hB, h12, h17⟩ hs9
    have ht9 : t9 = 999 := by simpa using ht9
    subst ht9
    all_goals exact ⟨hB.stp hs9 (by decide), h12.stp hs9.s (by decide), h17.stp hs9.s (by decide)⟩
  · refine ⟨?_, ?_, ?_, ?_, ?_, ?_, ?_, ?_, ?_, trivial⟩
    · rintro o25 w26 a27 ha ⟨hB, h12, h17⟩ -
      refine opS_of ha (trivial) ?_
      refine op1_val (ex_field rfl Try.underlying106 rfl Try.sizeOf23) ?_
      exact ⟨_, Stp.refl _ _ _, rfl⟩
    · rintro o28 w29 a30 ha ⟨hB, h12, h17⟩ ⟨r31, -⟩
      have ha := Fr.cons (d := 5) ha r31
      refine opS_of ha (trivial) ?_
      refine op1_val (ex_load1 rfl Try.isAgg23 (h12.cell rfl)) ?_
      exact ⟨_, Stp.refl _ _ _, rfl⟩
    · rintro o32 w33 a34 ha ⟨hB, h12, h17⟩ -
      refine opS_of ha (trivial) ?_
      refine op1_val (ex_field rfl Try.underlying106 rfl Try.sizeOf23) ?_
      exact ⟨_, Stp.refl _ _ _, rfl⟩
    · rintro o35 w36 a37 ha ⟨hB, h12, h17⟩ ⟨r38, -⟩
      have ha := Fr.cons (d := 7) ha r38
      refine opS_of ha (trivial) ?_
      refine op1_val (ex_load1 rfl Try.isAgg23 (h17.cell rfl)) ?_
      exact ⟨_, Stp.refl _ _ _, rfl⟩
    · rintro o39 w40 a41 ha ⟨hB, h12, h17⟩ ⟨r42, r43, -⟩
      have ha := Fr.cons (d := 6) ha r42
      have ha := Fr.cons (d := 8) ha r43
      refine opS_of ha (trivial) ?_
      refine wf_call (cX_slices_Compare_int_int w40 _ p0.code (h2.keep hB.keeps.k) _ p1.code (h6.keep hB.keeps.k) x19 hx19) Try.call107 ⟨rfl, rfl, trivial⟩ ?_
      rintro e48 w44 ⟨rfl, k45⟩
      have s47 := k45.stp 999 o39
      refine ⟨_, rfl, ?_⟩
      replace h12 := h12.stp s47.s (by decide)
      replace h17 := h17.stp s47.s (by decide)
      replace hB := hB.stp s47 (by decide)
      exact ⟨_, s47, rfl⟩
    · rintro o49 w50 a51 ha ⟨hB, h12, h17⟩ -
      refine opS_of ha (trivial) ?_
      refine op1_val (ex_field rfl Try.underlying106 rfl Try.sizeOf3) ?_
      exact ⟨_, Stp.refl _ _ _, rfl⟩
    · rintro o52 w53 a54 ha ⟨hB, h12, h17⟩ ⟨r55, -⟩
      have ha := Fr.cons (d := 10) ha r55
      refine opS_of ha (trivial) ?_
      refine op1_val (ex_load1 rfl Try.isAgg3 (h12.cell rfl)) ?_
      exact ⟨_, Stp.refl _ _ _, rfl⟩
    · rintro o56 w57 a58 ha ⟨hB, h12, h17⟩ -
      refine opS_of ha (trivial) ?_
      refine op1_val (ex_field rfl Try.underlying106 rfl Try.sizeOf3) ?_
      exact ⟨_, Stp.refl _ _ _, rfl⟩
    · rintro o59 w60 a61 ha ⟨hB, h12, h17⟩ ⟨r62, -⟩
      have ha := Fr.cons (d := 12) ha r62
      refine opS_of ha (trivial) ?_
      refine op1_val (ex_load1 rfl Try.isAgg3 (h17.cell rfl)) ?_
      exact ⟨_, Stp.refl _ _ _, rfl⟩
  rintro o63 w64 a65 ha ⟨hB, h12, h17⟩ ⟨-, -, -, -, r66, -, r67, -, r68, -⟩
  have ha := Fr.cons (d := 9) ha r66
  have ha := Fr.cons (d := 11) ha r67
  have ha := Fr.cons (d := 13) ha r68
  refine wl_of ha ?_
  simp only [List.length_cons, List.length_nil, Nat.zero_add, Nat.reduceAdd, List.drop_succ_cons, List.drop_zero]
  obtain ⟨x69, hx69, hF⟩ := bind_some hF
  refine st_op (by decide) trivial ?_
  refine wf_call (cX_cmp_Compare_int w64 p0.least p1.least x69 hx69) Try.call126 ⟨rfl, rfl, trivial⟩ ?_
  rintro e74 w70 ⟨rfl, k71⟩
  have s73 := k71.stp 999 o63
  refine ⟨_, rfl, ?_⟩
  replace h12 := h12.stp s73.s (by decide)
  replace h17 := h17.stp s73.s (by decide)
  replace hB := hB.stp s73 (by decide)
  refine st_op (by decide) trivial ?_
  refine wf_litR (o := o63) (cs := [(.int .i64 x19), (.int .i64 x69)]) (xs := ([x19, x69] : List Int)) (vs := [(0, (.int .i64 x19)), (1, (.int .i64 x69))]) ⟨_, _, rfl, rfl, ⟨_, _, rfl, rfl, rfl⟩⟩ rfl ⟨rfl, rfl, rfl, rfl, trivial⟩ Try.underlying23 Try.sizeOf3 Try.zeroValue3 (by decide) (fill2 rfl rfl) (by simp) ?_
  intro o75 w76 v77 h78 s79 k80
  replace h12 := h12.stp s79.s (by decide)
  replace h17 := h17.stp s79.s (by decide)
  replace hB := hB.stp s79 (by decide)
  obtain ⟨x81, hx81, hF⟩ := bind_some hF
  refine st_op (by decide) trivial ?_
  refine wf_call (cX_cmp_Or_int w76 _ ([x19, x69] : List Int) h78.z x81 hx81) Try.call125 ⟨rfl, trivial⟩ ?_
  rintro e86 w82 ⟨rfl, k83⟩
  have s85 := k83.stp 999 o75
  refine ⟨_, rfl, ?_⟩
  replace h78 := h78.stp s85.s (by decide)
  replace h12 := h12.stp s85.s (by decide)
  replace h17 := h17.stp s85.s (by decide)
  replace hB := hB.stp s85 (by decide)
  refine st_val (ex_assign rfl) (by decide) trivial ?_
  refine wpF_end (r := [(4, (.int .i64 x81))]) ⟨rfl, trivial⟩ ?_
  refine nx ?_
  refine wpC_ret ?_
  have e87 := Option.some.inj hF
  subst e87
  refine ret_post (P := Try.prog) (vs := [(.int .i64 x81)]) Try.results124 ⟨rfl, trivial⟩ ?_
  exact ⟨rfl, hB.keeps⟩
end Ex
/-! ### Lists in the order of words -/
def lexO : List Int → List Int → Int
  | [], [] => 0
  | [], _ :: _ => -1
  | _ :: _, [] => 1
  | x :: a, y :: b => if x < y then -1 else if x > y then 1 else lexO a b
theorem lexO_zero : ∀ {a b : List Int}, lexO a b = 0 ↔ a = b
  | [], [] => by simp [lexO]
  | [], _ :: _ => by simp [lexO]
  | _ :: _, [] => by simp [lexO]
  | x :: a, y :: b => by
    have ih := lexO_zero (a := a) (b := b)
    unfold lexO
    by_cases h1 : x < y
    · rw [if_pos h1]; constructor
      · intro h; omega
      · intro h; cases h; omega
    · rw [if_neg h1]
      by_cases h2 : x > y
      · rw [if_pos h2]; constructor
        · intro h; omega
        · intro h; cases h; omega
      · rw [if_neg h2, ih]
        have : x = y := by omega
        subst this; simp
theorem lexO_anti : ∀ (a b : List Int), lexO b a = - lexO a b
  | [], [] => by simp [lexO]
  | [], _ :: _ => by simp [lexO]
  | _ :: _, [] => by simp [lexO]
  | x :: a, y :: b => by
    have ih := lexO_anti a b
    simp only [lexO]
    by_cases h1 : x < y
    · have h2 : ¬ y < x := by omega
      simp [h1, h2]
    · by_cases h2 : y < x
      · simp [h1, h2]
      · simp [h1, h2, ih]
theorem lexO_trans : ∀ {a b c : List Int}, lexO a b < 0 → lexO b c < 0 → lexO a c < 0
  | [], [], c, h, _ => by simp [lexO] at h
  | [], _ :: _, [], _, h => by simp [lexO] at h
  | [], _ :: _, _ :: _, _, _ => by simp [lexO]
  | _ :: _, [], _, h, _ => by simp [lexO] at h
  | _ :: _, _ :: _, [], _, h => by simp [lexO] at h
  | x :: a, y :: b, z :: c, h3, h4 => by
    have ih := lexO_trans (a := a) (b := b) (c := c)
    simp only [lexO] at h3 h4 ⊢
    by_cases e1 : x < y
    · by_cases e2 : y < z
      · rw [if_pos (by omega)]; decide
      · rw [if_neg e2] at h4
        by_cases e3 : y > z
        · rw [if_pos e3] at h4; omega
        · rw [if_pos (by omega)]; decide
    · rw [if_neg e1] at h3
      by_cases e2 : x > y
      · rw [if_pos e2] at h3; omega
      · rw [if_neg e2] at h3
        by_cases e3 : y < z
        · rw [if_pos (by omega)]; decide
        · rw [if_neg e3] at h4
          by_cases e4 : y > z
          · rw [if_pos e4] at h4; omega
          · rw [if_neg e4] at h4
            rw [if_neg (by omega), if_neg (by omega)]
            exact ih h3 h4
/-! ### What the program computes -/
def cmpP (ys : List Int) (k : Nat) (x : Int) : Option Int := match ys[k]? with
  | some y => if x < y then some (-1) else if x > y then some 1 else none
  | none => some 1
theorem firstP_lex (Y : List Int) : ∀ (xs ys : List Int) (k : Nat), ys = Y.drop k → (match firstP (cmpP Y) xs k with | some r => r | none => if xs.length < ys.length then -1 else 0) = lexO xs ys
  | [], ys, k, h => by
    cases ys with
    | nil => rfl
    | cons y ys => simp [firstP, lexO]
  | x :: xs, [], k, hy => by
    have h1 : Y[k]? = none := by
      have h1 : (Y.drop k)[0]? = none := by rw [← hy]; rfl
      rw [List.getElem?_drop] at h1
      simpa using h1
    simp [firstP, cmpP, h1, lexO]
  | x :: xs, y :: ys, k, hy => by
    have h1 : Y[k]? = some y := by
      have h1 : (Y.drop k)[0]? = some y := by rw [← hy]; rfl
      rw [List.getElem?_drop] at h1
      simpa using h1
    have h2 : ys = Y.drop (k + 1) := by rw [← List.drop_drop, ← hy]; rfl
    simp only [firstP, lexO, cmpP, h1]
    by_cases e : x < y
    · simp [e]
    · by_cases e2 : x > y
      · simp [e, e2]
      · simp only [e, e2, if_false]
        have := firstP_lex Y xs ys (k + 1) h2
        simp only [List.length_cons, Nat.add_lt_add_iff_right]
        exact this
theorem e_CompareG (xs ys : List Int) : fX_slices_Compare_int_int xs ys = some (lexO xs ys) := by
  unfold fX_slices_Compare_int_int
  rw [forI_first0 (cmpP ys) xs (fun j x hj _ => by
    unfold fX_slices_Compare_int_int_s1
    by_cases hjl : j < ys.length
    · rw [if_neg (by rw [decide_eq_true_eq]; omega), ix_lt _ _ hjl, sb, e_cmp, sb]
      simp only [cmpP, List.getElem?_eq_getElem hjl]
      by_cases e : x < ys[j]
      · simp [e, lpP]
      · by_cases e2 : x > ys[j] <;> simp [e, e2, lpP]
    · rw [if_pos (by rw [decide_eq_true_eq]; omega)]
      simp [cmpP, List.getElem?_eq_none (show ys.length ≤ j by omega), lpP]), sb]
  have := firstP_lex ys xs ys 0 (by simp)
  cases hc : firstP (cmpP ys) xs 0 with
  | some r => rw [hc] at this; simp only [outP]; rw [← this]
  | none =>
    rw [hc] at this
    simp only [outP]
    simp only at this
    rw [← this]
    by_cases hl : xs.length < ys.length
    · rw [if_pos (by simpa using hl), if_pos hl]
    · rw [if_neg (by simpa using hl), if_neg hl]
def cmpC (p q : T_component) : Int := if lexO p.code q.code ≠ 0 then lexO p.code q.code else if p.least < q.least then -1 else if p.least > q.least then 1 else 0
theorem e_cmpC (p q : T_component) : fI_componentsOf_1 p q = some (cmpC p q) := by
  unfold fI_componentsOf_1 fX_cmp_Or_int cmpC
  rw [e_CompareG, sb, e_cmp, sb]
  generalize lexO p.code q.code = a
  generalize (if p.least < q.least then (-1 : Int) else if p.least > q.least then 1 else 0) = b
  simp only [forI, fX_cmp_Or_int_s1]
  by_cases ha : a = 0
  · subst ha
    by_cases hb : b = 0
    · subst hb; simp [sb]
    · simp [hb, sb]
  · simp [ha, sb]
/-! ### Laws -/
theorem cmpC_anti (p q : T_component) : cmpC q p = - cmpC p q := by
  have h := lexO_anti p.code q.code
  unfold cmpC
  by_cases h0 : lexO p.code q.code = 0
  · rw [if_neg (show ¬ lexO q.code p.code ≠ 0 by omega), if_neg (show ¬ lexO p.code q.code ≠ 0 by omega)]
    by_cases h1 : p.least < q.least
    · simp [h1, show ¬ q.least < p.least by omega]
    · by_cases h2 : q.least < p.least
      · simp [h1, h2]
      · simp [h1, h2]
  · rw [if_pos (show lexO q.code p.code ≠ 0 by omega), if_pos (show lexO p.code q.code ≠ 0 by omega), h]
theorem cmpC_zero {p q : T_component} (h : cmpC p q = 0) : p.code = q.code ∧ p.least = q.least := by
  unfold cmpC at h
  by_cases h0 : lexO p.code q.code = 0
  · rw [if_neg (by omega)] at h
    refine ⟨lexO_zero.1 h0, ?_⟩
    split at h
    · omega
    · split at h <;> omega
  · rw [if_pos (by omega)] at h; exact absurd h h0
theorem cmpC_of {p q : T_component} (h1 : p.code = q.code) (h2 : p.least = q.least) : cmpC p q = 0 := by
  unfold cmpC
  rw [if_neg (by simp [lexO_zero.2 h1]), if_neg (by omega), if_neg (by omega)]
theorem cmpC_trans {p q r : T_component} (h1 : cmpC p q < 0) (h2 : cmpC q r < 0) : cmpC p r < 0 := by
  have key : ∀ {a b : T_component}, cmpC a b < 0 ↔ lexO a.code b.code < 0 ∨ (a.code = b.code ∧ a.least < b.least) := by
    intro a b
    unfold cmpC
    by_cases h0 : lexO a.code b.code = 0
    · rw [if_neg (by omega)]
      have he := lexO_zero.1 h0
      constructor
      · intro h
        refine .inr ⟨he, ?_⟩
        split at h
        · assumption
        · split at h <;> omega
      · rintro (h | ⟨_, h⟩)
        · omega
        · rw [if_pos h]; decide
    · rw [if_pos (by omega)]
      constructor
      · intro h; exact .inl h
      · rintro (h | ⟨h, _⟩)
        · exact h
        · exact absurd (lexO_zero.2 h) h0
  rw [key] at h1 h2 ⊢
  rcases h1 with h1 | ⟨e1, h1⟩
  · rcases h2 with h2 | ⟨e2, h2⟩
    · exact .inl (lexO_trans h1 h2)
    · exact .inl (by rw [← e2]; exact h1)
  · rcases h2 with h2 | ⟨e2, h2⟩
    · exact .inl (by rw [e1]; exact h2)
    · exact .inr ⟨e1.trans e2, by omega⟩
theorem cmpC_lt {a b : T_component} : cmpC a b < 0 ↔ lexO a.code b.code < 0 ∨ (a.code = b.code ∧ a.least < b.least) := by
  unfold cmpC
  by_cases h0 : lexO a.code b.code = 0
  · rw [if_neg (by omega)]
    have he := lexO_zero.1 h0
    constructor
    · intro h
      refine .inr ⟨he, ?_⟩
      split at h
      · assumption
      · split at h <;> omega
    · rintro (h | ⟨_, h⟩)
      · omega
      · rw [if_pos h]; decide
  · rw [if_pos (by omega)]
    constructor
    · intro h; exact .inl h
    · rintro (h | ⟨h, _⟩)
      · exact h
      · exact absurd (lexO_zero.2 h) h0
theorem cmpC_eqv {p q r : T_component} (h : cmpC p q = 0) : cmpC p r = cmpC q r ∧ cmpC r p = cmpC r q := by
  obtain ⟨h1, h2⟩ := cmpC_zero h
  unfold cmpC
  rw [h1, h2]; exact ⟨rfl, rfl⟩
theorem cmpC_ntrans {p q r : T_component} (h1 : ¬ cmpC p q < 0) (h2 : ¬ cmpC q r < 0) : ¬ cmpC p r < 0 := fun h => by
  have e1 := cmpC_anti p q
  have e2 := cmpC_anti q r
  have e3 := cmpC_anti p r
  by_cases q1 : cmpC p q = 0
  · exact h2 (by rw [← (cmpC_eqv (r := r) q1).1]; exact h)
  · by_cases q2 : cmpC q r = 0
    · rw [← (cmpC_eqv (r := p) q2).2] at h; exact h1 h
    · have := cmpC_trans (p := r) (q := q) (r := p) (by omega) (by omega)
      omega
/-! ### Components in order, as a function -/
def insC : List T_component → T_component → List T_component
  | [], x => [x]
  | y :: l, x => if cmpC y x < 0 then y :: insC l x else x :: y :: l
def sorC (xs : List T_component) : List T_component := xs.foldl insC []
theorem insC_perm (x : T_component) : ∀ (l : List T_component), (insC l x).Perm (x :: l)
  | [] => List.Perm.refl _
  | y :: l => by
    unfold insC
    split
    · exact ((insC_perm x l).cons y).trans (List.Perm.swap x y l)
    · exact List.Perm.refl _
theorem foldC_perm : ∀ (xs l : List T_component), (xs.foldl insC l).Perm (l ++ xs)
  | [], l => by simp
  | x :: xs, l => by
    rw [List.foldl_cons]
    refine (foldC_perm xs (insC l x)).trans ?_
    refine ((insC_perm x l).append_right xs).trans ?_
    simpa using (List.perm_middle (a := x) (l₁ := l) (l₂ := xs)).symm
theorem sorC_perm (xs : List T_component) : (sorC xs).Perm xs := by simpa [sorC] using foldC_perm xs []
def strC (l : List T_component) : Prop := l.Pairwise fun a b => cmpC a b < 0
theorem insC_str {x : T_component} : ∀ {l : List T_component}, strC l → (∀ y ∈ l, y.least ≠ x.least) → strC (insC l x)
  | [], _, _ => by simp [insC, strC]
  | y :: l, h, hne => by
    obtain ⟨h1, h2⟩ := List.pairwise_cons.1 h
    unfold insC
    split
    · rename_i hlt
      refine List.pairwise_cons.2 ⟨fun z hz => ?_, insC_str h2 fun z hz => hne z (by simp [hz])⟩
      rcases List.mem_cons.1 ((insC_perm x l).subset hz) with rfl | hz
      · exact hlt
      · exact h1 z hz
    · rename_i hge
      have hxy : cmpC x y < 0 := by
        have e1 := cmpC_anti y x
        have : cmpC y x ≠ 0 := fun e => hne y (by simp) (cmpC_zero e).2
        omega
      refine List.pairwise_cons.2 ⟨fun z hz => ?_, h⟩
      rcases List.mem_cons.1 hz with rfl | hz
      · exact hxy
      · exact cmpC_trans hxy (h1 z hz)
theorem foldC_str : ∀ (xs l : List T_component), strC l → (l ++ xs).Pairwise (fun a b => a.least ≠ b.least) → strC (xs.foldl insC l)
  | [], l, h, _ => h
  | x :: xs, l, h, hn => by
    rw [List.foldl_cons]
    have h1 : ∀ y ∈ l, y.least ≠ x.least := fun y hy => (List.pairwise_append.1 hn).2.2 y hy x (by simp)
    refine foldC_str xs (insC l x) (insC_str h h1) ?_
    have hp : (insC l x ++ xs).Perm (l ++ x :: xs) := by
      refine ((insC_perm x l).append_right xs).trans ?_
      simpa using (List.perm_middle (a := x) (l₁ := l) (l₂ := xs)).symm
    exact hp.symm.pairwise hn fun {a b} h => Ne.symm h
def distC (xs : List T_component) : Prop := xs.Pairwise fun a b => a.least ≠ b.least
instance (xs : List T_component) : Decidable (distC xs) := by unfold distC; infer_instance
theorem sorC_uniq {xs ys : List T_component} (hd : distC xs) (hp : ys.Perm xs) (hs : ys.Pairwise fun a b => ¬ cmpC b a < 0) : ys = sorC xs := by
  have h1 : strC (sorC xs) := foldC_str xs [] List.Pairwise.nil (by rw [List.nil_append]; exact hd)
  have hdy : distC ys := hp.symm.pairwise hd fun {a b} h => Ne.symm h
  have h2 : strC ys := (hs.and hdy).imp fun {a b} ⟨q1, q2⟩ => by
    have e := cmpC_anti a b
    have : cmpC a b ≠ 0 := fun e => q2 (cmpC_zero e).2
    omega
  refine (hp.trans (sorC_perm xs).symm).eq_of_pairwise (le := fun a b => cmpC a b < 0) (fun a b _ _ q1 q2 => ?_) h2 h1
  have := cmpC_anti a b
  omega
def srtC (xs : List T_component) : Option (List T_component) := if distC xs ∧ xs.length ≤ 1000000000 then some (sorC xs) else none
open Go.RowKit Go.Sort Go.Shelf
/-- Whatever may be read without the block g. -/
def ngC (g : Nat) : Tg := fun b => if b = g then 1 else 0
def CmS (g : Nat) (w : World) : Type := {q : List Value × T_component // Rp.rd (ngC g) w q.1 q.2}
theorem flat_get {k : Nat} (hk : 0 < k) : ∀ (css : List (List Value)), (∀ cs ∈ css, cs.length = k) → ∀ t, t < css.length * k → css.flatten[t]? = ((css[t / k]?.getD [])[t % k]?)
  | [], _, t, h => by simp at h
  | c :: css, h, t, ht => by
    have hc := h c (by simp)
    rw [List.flatten_cons]
    by_cases h1 : t < k
    · rw [List.getElem?_append_left (by omega), Nat.div_eq_of_lt h1, Nat.mod_eq_of_lt h1]; rfl
    · have h2 : t / k = (t - k) / k + 1 := by
        rw [← Nat.add_div_right (t - k) hk]; congr 1; omega
      have h3 : t % k = (t - k) % k := by
        rw [← Nat.add_mod_right (t - k) k]; congr 1; omega
      rw [List.getElem?_append_right (by omega), hc, h2, h3, List.getElem?_cons_succ]
      refine flat_get hk css (fun cs hcs => h cs (by simp [hcs])) (t - k) ?_
      rw [List.length_cons, Nat.succ_mul] at ht
      omega
theorem sortWorldK_block {α : Type} [Inhabited α] (enc : α → List Value) (k : Nat) (w : World) (g m : Nat) (dk : Array α) (os : Array Obj) : w.heap.size ≤ (sortWorldK enc k w g 0 m dk os).heap.size ∧ ∀ b, b < w.heap.size → b ≠ g → (sortWorldK enc k w g 0 m dk os).heap[b]? = w.heap[b]? := by
  unfold sortWorldK putRowK
  refine ⟨by simp, fun b hb hne => ?_⟩
  rw [heap_grow_old _ _ (by simpa using hb)]
  have : g ≠ b := fun e => hne e.symm
  simp [putRow, mapBlock, Sort.ahead, Array.getElem?_modify, this]
set_option maxHeartbeats 1000000 in
theorem cX_SortFuncC {B k : Nat} {o : Tg} {w : World} {v : Value} {xs ys : List T_component} (h : Ow B 106 k o w v xs) (hk : k ≠ 0) (hF : srtC xs = some ys) :
    Calls Try.prog 123 #[v, .func (.func 124) #[] #[]] w fun e w' => e = .returned (.tuple #[]) ∧ Ow B 106 k o w' v ys ∧ Stp k o w o w' := by
  unfold srtC at hF
  split at hF
  rotate_left
  · cases hF
  rename_i hcond
  obtain ⟨hdist, hl⟩ := hcond
  cases hF
  by_cases hps : xs = []
  · subst hps
    obtain ⟨a, c, rfl⟩ := h.form
    have hc := AnyF.slices_SortFunc_none (P := Try.prog) (ρ := Try.laysSortK_ren) Try.laysSortK a c (.func (.func 124) #[] #[]) w
    refine Calls.mono hc ?_
    rintro e w' ⟨rfl, rfl⟩
    exact ⟨rfl, h, Stp.refl _ _ _⟩
  · obtain ⟨css, h1, h2, h3, h4⟩ := id h
    have hlz := Ow.lens (e := 106) (B := B) h1 h4
    rcases h2.2 with ⟨_, h0⟩ | ⟨g, cap, cur, rfl, hbase, hb, hn, hcap, hsz, htk⟩
    · exact absurd (List.eq_nil_of_length_eq_zero h0) hps
    · have hog : o g = k := h3 g rfl
      have hgl : g < w.heap.size := (Array.getElem?_eq_some_iff.1 hb).1
      have hlz4 : ∀ cs ∈ css, cs.length = 4 := hlz
      have hrd : ∀ q ∈ css.zip xs, Rp.rd (ngC g) w q.1 q.2 := fun q hq => by
        obtain ⟨i, hi⟩ := List.getElem?_of_mem hq
        rw [List.getElem?_zip_eq_some] at hi
        refine Rp.mv (h4 i q.1 q.2 hi.1 hi.2) (Nat.le_refl _) fun b _ hb0 => ⟨rfl, ?_⟩
        unfold ngC
        rw [if_neg]
        intro e
        rw [e, hog] at hb0
        exact hk hb0
      let α := CmS g w
      let d0 : List α := (css.zip xs).pmap (fun q hq => (⟨q, hq⟩ : α)) hrd
      have hd0 : d0.map (fun a => a.1) = css.zip xs := by
        show ((css.zip xs).pmap (fun q hq => (⟨q, hq⟩ : CmS g w)) hrd).map (fun a => a.1) = css.zip xs
        rw [List.map_pmap]
        simp
      have hzl : (css.zip xs).length = xs.length := by rw [List.length_zip, h1, Nat.min_self]
      have hd0l : d0.length = xs.length := by rw [← hzl, ← hd0, List.length_map]
      have hd0c : d0.map (fun a => a.1.1) = css := by
        have : d0.map (fun a => a.1.1) = (d0.map (fun a => a.1)).map Prod.fst := by rw [List.map_map]; rfl
        rw [this, hd0, List.map_fst_zip]; omega
      have hd0x : d0.map (fun a => a.1.2) = xs := by
        have : d0.map (fun a => a.1.2) = (d0.map (fun a => a.1)).map Prod.snd := by rw [List.map_map]; rfl
        rw [this, hd0, List.map_snd_zip]; omega
      obtain ⟨a0, ha0⟩ : ∃ a : α, a ∈ d0 := by
        cases hq : d0 with
        | nil => rw [hq] at hd0l; exact absurd (List.eq_nil_of_length_eq_zero hd0l.symm) hps
        | cons a l => exact ⟨a, by simp⟩
      haveI : Inhabited α := ⟨a0⟩
      let enc : α → List Value := fun a => a.1.1
      let cf : α → α → Int := fun a b => cmpC a.1.2 b.1.2
      have henk : ∀ x : α, (enc x).length = 4 := fun x => Rp.len x.2
      have hone : ∀ x : α, ∀ v ∈ enc x, v.oneCell' = true := fun x => Rp.one x.2
      have hO : SWO (ltOf cf) := by
        constructor
        · intro x
          show decide (cmpC x.1.2 x.1.2 < 0) = false
          rw [cmpC_of rfl rfl]; rfl
        · intro x y z h1 h2
          have h1 : cmpC x.1.2 y.1.2 < 0 := of_decide_eq_true h1
          have h2 : cmpC y.1.2 z.1.2 < 0 := of_decide_eq_true h2
          exact decide_eq_true (cmpC_trans h1 h2)
        · intro x y z h1 h2
          have h1 : ¬ cmpC x.1.2 y.1.2 < 0 := of_decide_eq_false h1
          have h2 : ¬ cmpC y.1.2 z.1.2 < 0 := of_decide_eq_false h2
          exact decide_eq_false (cmpC_ntrans h1 h2)
      have hdsz : d0.toArray.size = xs.length := by simp [hd0l]
      have hcmp : CmpLays Try.prog 124 #[] enc 4 cf g 0 d0.toArray.size w := by
        intro m os dk _ x y
        obtain ⟨q1, q2⟩ := sortWorldK_block enc 4 w g m dk os
        have rz : ∀ z : α, Rp.rd zt (sortWorldK enc 4 w g 0 m dk os) z.1.1 z.1.2 := fun z => Rp.mv z.2 q1 fun b hb0 hz0 => ⟨q2 b hb0 fun e => by subst e; simp [ngC] at hz0, rfl⟩
        have := Ex.cI_componentsOf_1 (sortWorldK enc 4 w g 0 m dk os) (enc x) x.1.2 (rz x) (enc y) y.1.2 (rz y) (cf x y) (e_cmpC _ _)
        refine Calls.mono this ?_
        rintro e w' ⟨rfl, hk⟩
        exact ⟨rfl, hk.grown⟩
      have hflen : css.flatten.length = xs.length * 4 := h2.1
      have hcurlen : xs.length * 4 ≤ cur.size := by rw [hsz]; exact Nat.mul_le_mul_right 4 hn
      have hH : HoldsK enc 4 w g 0 d0.toArray := by
        intro j hj
        rw [size_flatK, hdsz] at hj
        refine ⟨?_, by simp [World.frozen?, hb]⟩
        have e1 : (cur.toList.take (xs.length * 4))[j]? = css.flatten[j]? := by rw [← htk]; rfl
        rw [List.getElem?_take_of_lt hj, flat_get (by decide) css hlz4 j (by rw [h1]; exact hj)] at e1
        simp only [World.cell?, hb, Nat.zero_add]
        simp only [Option.isSome_none, Bool.false_eq_true, if_false]
        rw [← Array.getElem?_toList, e1]
        have hjd : j / 4 < d0.length := by rw [hd0l]; omega
        have e2 : css[j / 4]? = some (enc (d0.toArray[j / 4]!)) := by
          rw [← hd0c, List.getElem?_map, List.getElem?_eq_getElem hjd]
          rw [getElem!_pos _ (j / 4) (by simpa using hjd)]
          simp [enc]
        rw [get_flatK enc 4 d0.toArray j (by rw [hdsz]; exact hj), e2, Option.getD_some]
        have hm : j % 4 < (enc d0.toArray[j / 4]!).length := by rw [henk]; omega
        rw [List.getElem?_eq_getElem hm, getElem!_pos (enc d0.toArray[j / 4]!) (j % 4) hm]
        rfl
      have hS := AnyQ.slices_SortFunc Try.laysSortK 4 Try.isAgg106 Try.sizeOf106 enc henk hone cf hO 124 #[] g 0 cap d0.toArray w Try.call124 hcmp hH hgl (by rw [hdsz]; omega)
      rw [hdsz] at hS
      refine Calls.mono hS ?_
      rintro e w' ⟨rfl, d', n, os, hP, hSo, rfl⟩
      obtain ⟨p1, -, p3⟩ := hP
      have hd'sz : d'.size = xs.length := by rw [p1, hdsz]
      have hperm0 : d'.toList.Perm d0 := by
        have e1 : (d'.extract 0 xs.length).toList = d'.toList := by rw [← hd'sz]; simp
        have e2 : (d0.toArray.extract 0 xs.length).toList = d0 := by rw [← hdsz]; simp
        rw [e1, e2] at p3
        exact p3
      have hperm : (d'.toList.map fun a => a.1.2).Perm xs := by
        have := hperm0.map fun a => a.1.2
        rw [hd0x] at this
        exact this
      obtain ⟨q1, q2⟩ := sortWorldK_block enc 4 w g n d' os
      have hst : Stp k o w o (sortWorldK enc 4 w g 0 n d' os) := ⟨rfl, rfl, rfl, q1, fun b hb0 hne => q2 b hb0 fun e => hne (by rw [e, hog]), fun _ _ => rfl⟩
      have hpw : (d'.toList.map fun a => a.1.2).Pairwise fun a b => ¬ cmpC b a < 0 := by
        rw [List.pairwise_map, List.pairwise_iff_getElem]
        intro i j hi hj hij
        have hj' : j < d'.size := by simpa using hj
        have := hSo i j (Nat.zero_le _) hij (by omega)
        rw [getElem!_pos _ i (by omega), getElem!_pos _ j hj'] at this
        exact of_decide_eq_false this
      rw [← sorC_uniq hdist hperm hpw]
      refine ⟨rfl, ?_, hst⟩
      have hlen : (d'.toList.map fun a => a.1.2).length = xs.length := hperm.length_eq
      have hheap : (sortWorldK enc 4 w g 0 n d' os).heap[g]? = some (.cells (putCells id 0 (flatK enc 4 d') cur) 106 (0, 0)) := by
        unfold sortWorldK putRowK
        rw [heap_grow_old _ _ (by simpa using hgl)]
        simp [putRow, mapBlock, Sort.ahead, Array.getElem?_modify, hb, onCells]
      have hcss' : ∀ cs ∈ d'.toList.map (fun a => a.1.1), cs.length = 4 := fun cs hcs => by
        obtain ⟨a, _, rfl⟩ := List.mem_map.1 hcs
        exact henk a
      have hfl' : (d'.toList.map fun a => a.1.1).flatten.length = xs.length * 4 := by
        have : ∀ l : List (List Value), (∀ cs ∈ l, cs.length = 4) → l.flatten.length = l.length * 4 := by
          intro l
          induction l with
          | nil => intro _; rfl
          | cons a l ih =>
            intro hh
            rw [List.flatten_cons, List.length_append, ih fun x hx => hh x (by simp [hx]), hh a (by simp), List.length_cons]
            omega
        rw [this _ hcss', List.length_map, Array.length_toList, hd'sz]
      refine ⟨d'.toList.map fun a => a.1.1, by simp, ?_, h3, fun i cs p hc hp => ?_⟩
      · rw [hlen]
        refine ⟨hfl', .inr ⟨g, cap, _, rfl, hbase, hheap, hn, hcap, by simp [putCells]; exact hsz, ?_⟩⟩
        show (putCells id 0 (flatK enc 4 d') cur).toList.take (xs.length * 4) = _
        apply List.ext_getElem?
        intro j
        by_cases hj : j < xs.length * 4
        · rw [List.getElem?_take_of_lt hj, flat_get (by decide) _ hcss' j (by rw [List.length_map, Array.length_toList, hd'sz]; exact hj), Array.getElem?_toList]
          have hjd : j / 4 < d'.size := by rw [hd'sz]; omega
          have e2 : (d'.toList.map fun a => a.1.1)[j / 4]? = some (enc (d'[j / 4]!)) := by
            rw [List.getElem?_map, List.getElem?_eq_getElem (by simpa using hjd), getElem!_pos _ (j / 4) hjd]
            simp [enc]
          rw [e2, Option.getD_some]
          have hm : j % 4 < (enc d'[j / 4]!).length := by rw [henk]; omega
          rw [List.getElem?_eq_getElem hm]
          have e3 := get_flatK enc 4 d' j (by rw [hd'sz]; exact hj)
          rw [getElem!_pos (enc d'[j / 4]!) (j % 4) hm] at e3
          rw [← e3]
          have hf : j < (flatK enc 4 d').size := by rw [size_flatK, hd'sz]; exact hj
          simp [putCells, hf, show j < cur.size by omega]
          intro hc
          rw [hd'sz] at hc
          omega
        · rw [List.getElem?_take_eq_none (by omega), List.getElem?_eq_none (by rw [hfl']; omega)]
      · rw [List.getElem?_map] at hc hp
        cases hq : d'.toList[i]? with
        | none => rw [hq] at hc; cases hc
        | some a =>
          rw [hq] at hc hp
          cases hc; cases hp
          have hm : a ∈ d0 := hperm0.subset (List.mem_of_getElem? hq)
          have hm2 : a.1 ∈ css.zip xs := by rw [← hd0]; exact List.mem_map.2 ⟨a, hm, rfl⟩
          obtain ⟨i', hi'⟩ := List.getElem?_of_mem hm2
          rw [List.getElem?_zip_eq_some] at hi'
          exact Rp.stp (h4 i' a.1.1 a.1.2 hi'.1 hi'.2) hst hk
end Go.Proofs.Ytijaojnaamkinaa
