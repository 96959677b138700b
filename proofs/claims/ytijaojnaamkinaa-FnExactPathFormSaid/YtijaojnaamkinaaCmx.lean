/- slices.Compare, with the world to the letter: nothing changes but the draws and what is new. -/
import Derived.Test.YtijaojnaamkinaaGA
import Derived.Sort.Grow
namespace Go.Proofs.Ytijaojnaamkinaa
namespace Ex
open Go.RowKit
set_option linter.unusedSimpArgs false
set_option linter.unusedVariables false

structure Keeps (w w' : World) : Prop where
  k : Go.Proofs.Ytijaojnaamkinaa.Keeps w w'
  d : w.drawn ≤ w'.drawn
structure Stp (t : Nat) (o : Tg) (w : World) (o' : Tg) (w' : World) : Prop where
  s : Go.Proofs.Ytijaojnaamkinaa.Stp t o w o' w'
  d : w.drawn ≤ w'.drawn
structure Bs (oo o : Tg) (w w' : World) : Prop where
  b : Go.Proofs.Ytijaojnaamkinaa.Bs oo o w w'
  d : w.drawn ≤ w'.drawn
theorem Bs.start (oo : Tg) (w : World) : Bs oo (col oo) w w := ⟨Go.Proofs.Ytijaojnaamkinaa.Bs.start _ _, Nat.le_refl _⟩
theorem Bs.keeps {oo o : Tg} {w w' : World} (h : Bs oo o w w') : Keeps w w' := ⟨h.b.keeps, h.d⟩
theorem Keeps.stp {w w' : World} (h : Keeps w w') (t : Nat) (o : Tg) : Stp t o w o w' := ⟨h.k.stp t o, h.d⟩
theorem Bs.stp {oo o o' : Tg} {w0 w w' : World} {t : Nat} (h : Bs oo o w0 w) (s : Stp t o w o' w') (ht : 2 ≤ t) : Bs oo o' w0 w' := ⟨h.b.stp s.s ht, Nat.le_trans h.d s.d⟩
theorem wf_atZ {P : Program} {n : Nat} {l : List (Nat × Value)} {w w0 : World} {o oo : Tg} {α : Type} [Rp α] {d : Nat} {ty : TypeId} {ps : String} {af : Array Edge} {g : Option (Nat × Bool)} {R : Value → World → Prop} {x y : Operand} {t e : TypeId} {v : Value} {xs : List α} {i : Int} {u : α} (h : RdL zt w0 v xs) (hi : ix xs i = some u) (hB : Bs oo o w0 w) (hx : ev l x = some v) (hy : ev l y = some (.int .i64 i))
    (ht : P.underlying t = some (.slice e)) (hs : ∀ w, (sizeOf e).run P w = .ok (Rp.sz α) w)
    (h : ∀ b off cs, Cells w b off cs → Rp.rd zt w0 cs u → R (.pointer (some ⟨b, off, none⟩)) w) : op1 P ⟨some d, .indexAddr t x y, ty, ps, af, g⟩ n l w R := Go.Proofs.Ytijaojnaamkinaa.wf_atZ (by assumption) hi hB.b hx hy ht hs h
theorem Keeps.grown {w w' : World} (h : Keeps w w') : ∃ q os, w' = Go.Sort.grow (w.drewN q) os := by
  refine ⟨w'.drawn - w.drawn, w'.heap.extract w.heap.size w'.heap.size, ?_⟩
  obtain ⟨⟨h1, h2, h3, h4, h5⟩, h6⟩ := h
  unfold Go.Sort.grow World.drewN
  cases w' with
  | mk heap tape drawn os output =>
    cases w with
    | mk heap0 tape0 drawn0 os0 output0 =>
      simp only at h1 h2 h3 h4 h5 h6
      subst h1; subst h2; subst h3
      have e1 : drawn0 + (drawn - drawn0) = drawn := by omega
      have e2 : heap0 ++ heap.extract heap0.size heap.size = heap := by
        apply Array.ext_getElem?
        intro i
        rw [Array.getElem?_append]
        split
        · rename_i hi; exact (h5 i hi).symm
        · rename_i hi
          rw [Array.getElem?_extract]
          split
          · congr 1; omega
          · rw [Array.getElem?_eq_none (by omega)]
      simp only [e1, e2]

def pX_cmp_isNaN_int (w : World) (r : Bool) : Ending → World → Prop := fun e w' => e = .returned (.bool r) ∧ Keeps w w'
set_option maxRecDepth 100000 in
set_option maxHeartbeats 2000000 in
theorem cX_cmp_isNaN_int (w : World) (p0 : Int) (r : Bool) (hF : fX_cmp_isNaN_int p0 = some r) :
    Calls Try.prog 143 #[.int .i64 p0] w (pX_cmp_isNaN_int w r) := by
  unfold fX_cmp_isNaN_int at hF
  have hB : Bs (fun _ => 1) (col (fun _ => 1)) w w := Bs.start _ _
  refine calls_start (n := 6) (vs := [(.int .i64 p0)]) Try.func143 rfl rfl ?_
  refine wpC_seq ?_
  refine wpC_region ?_
  refine st_val (ex_assign rfl) (by decide) trivial ?_
  refine wpF_end (r := [(0, (.int .i64 p0))]) ⟨rfl, trivial⟩ ?_
  refine nx ?_
  refine wpC_seq ?_
  refine wpC_region ?_
  refine st_val (ex_move rfl) (by decide) trivial ?_
  refine st_val (ex_move rfl) (by decide) trivial ?_
  refine st_val (ex_neq rfl rfl) (by decide) trivial ?_
  refine st_val (ex_assign rfl) (by decide) trivial ?_
  refine wpF_end (r := [(2, (.bool (p0 != p0)))]) ⟨rfl, trivial⟩ ?_
  refine nx ?_
  refine wpC_ret ?_
  have e1 := Option.some.inj hF
  subst e1
  refine ret_post (P := Try.prog) (vs := [(.bool (p0 != p0))]) Try.results143 ⟨rfl, trivial⟩ ?_
  exact ⟨rfl, hB.keeps⟩

def pX_cmp_Compare_int (w : World) (r : Int) : Ending → World → Prop := fun e w' => e = .returned (.int .i64 r) ∧ Keeps w w'
set_option maxRecDepth 100000 in
set_option maxHeartbeats 2000000 in
theorem cX_cmp_Compare_int (w : World) (p0 : Int) (p1 : Int) (r : Int) (hF : fX_cmp_Compare_int p0 p1 = some r) :
    Calls Try.prog 126 #[.int .i64 p0, .int .i64 p1] w (pX_cmp_Compare_int w r) := by
  unfold fX_cmp_Compare_int at hF
  have hB : Bs (fun _ => 1) (col (fun _ => 1)) w w := Bs.start _ _
  refine calls_start (n := 20) (vs := [(.int .i64 p0), (.int .i64 p1)]) Try.func126 rfl rfl ?_
  refine wpC_seq ?_
  refine wpC_region ?_
  refine st_val (ex_assign rfl) (by decide) trivial ?_
  refine wpF_end (r := [(0, (.int .i64 p0)), (1, (.int .i64 p1))]) ⟨rfl, rfl, trivial⟩ ?_
  refine nx ?_
  refine wpC_seq ?_
  refine wpC_region ?_
  refine st_val (ex_move rfl) (by decide) trivial ?_
  obtain ⟨x1, hx1, hF⟩ := bind_some hF
  refine st_op (by decide) trivial ?_
  refine wf_call (cX_cmp_isNaN_int w p0 x1 hx1) Try.call143 ⟨rfl, trivial⟩ ?_
  rintro e6 w2 ⟨rfl, k3⟩
  have s5 := k3.stp 999 (col (fun _ => 1))
  refine ⟨_, rfl, ?_⟩
  replace hB := hB.stp s5 (by decide)
  refine st_val (ex_assign rfl) (by decide) trivial ?_
  refine wpF_end (r := [(0, (.int .i64 p0)), (1, (.int .i64 p1)), (5, (.bool x1))]) ⟨rfl, rfl, rfl, trivial⟩ ?_
  refine nx ?_
  refine wpC_seq ?_
  refine wpC_region ?_
  refine st_val (ex_move rfl) (by decide) trivial ?_
  obtain ⟨x7, hx7, hF⟩ := bind_some hF
  refine st_op (by decide) trivial ?_
  refine wf_call (cX_cmp_isNaN_int w2 p1 x7 hx7) Try.call143 ⟨rfl, trivial⟩ ?_
  rintro e12 w8 ⟨rfl, k9⟩
  have s11 := k9.stp 999 (col (fun _ => 1))
  refine ⟨_, rfl, ?_⟩
  replace hB := hB.stp s11 (by decide)
  refine st_val (ex_assign rfl) (by decide) trivial ?_
  refine wpF_end (r := [(0, (.int .i64 p0)), (1, (.int .i64 p1)), (5, (.bool x1)), (6, (.bool x7))]) ⟨rfl, rfl, rfl, rfl, trivial⟩ ?_
  refine nx ?_
  refine wpC_seq ?_
  refine wpC_seq ?_
  refine wpC_region ?_
  refine st_val (ex_move rfl) (by decide) trivial ?_
  refine wpF_end (r := [(0, (.int .i64 p0)), (1, (.int .i64 p1)), (6, (.bool x7)), (11, (.bool x1))]) ⟨rfl, rfl, rfl, rfl, trivial⟩ ?_
  refine nx ?_
  refine wpC_cond rfl (fun t13 => ?_) (fun t13 => ?_)
  · rw [if_pos t13] at hF
    refine wpC_seq ?_
    refine wpC_seq ?_
    refine wpC_region ?_
    refine st_val (ex_move rfl) (by decide) trivial ?_
    refine wpF_end (r := [(12, (.bool x7))]) ⟨rfl, trivial⟩ ?_
    refine nx ?_
    refine wpC_cond rfl (fun t14 => ?_) (fun t14 => ?_)
    · rw [if_pos t14] at hF
      refine wpC_seq ?_
      refine wpC_region ?_
      refine st_val (ex_assign rfl) (by decide) trivial ?_
      refine wpF_end (r := [(4, (.int .i64 0))]) ⟨rfl, trivial⟩ ?_
      refine nx ?_
      refine wpC_ret ?_
      refine nt_ret ?_
      refine nt_ret ?_
      have e15 := Option.some.inj hF
      subst e15
      refine ret_post (P := Try.prog) (vs := [(.int .i64 0)]) Try.results126 ⟨rfl, trivial⟩ ?_
      exact ⟨rfl, hB.keeps⟩
    · rw [if_neg (by rw [t14]; decide)] at hF
      refine wpC_skip ?_
      refine nx ?_
      refine wpC_seq ?_
      refine wpC_region ?_
      refine st_val (ex_assign rfl) (by decide) trivial ?_
      refine wpF_end (r := [(4, (.int .i64 (-1)))]) ⟨rfl, trivial⟩ ?_
      refine nx ?_
      refine wpC_ret ?_
      refine nt_ret ?_
      have e16 := Option.some.inj hF
      subst e16
      refine ret_post (P := Try.prog) (vs := [(.int .i64 (-1))]) Try.results126 ⟨rfl, trivial⟩ ?_
      exact ⟨rfl, hB.keeps⟩
  · rw [if_neg (by rw [t13]; decide)] at hF
    refine wpC_skip ?_
    refine nx ?_
    refine wpC_seq ?_
    refine wpC_seq ?_
    refine wpC_region ?_
    refine st_val (ex_move rfl) (by decide) trivial ?_
    refine wpF_end (r := [(0, (.int .i64 p0)), (1, (.int .i64 p1)), (13, (.bool x7))]) ⟨rfl, rfl, rfl, trivial⟩ ?_
    refine nx ?_
    refine wpC_cond rfl (fun t17 => ?_) (fun t17 => ?_)
    · rw [if_pos t17] at hF
      refine wpC_seq ?_
      refine wpC_region ?_
      refine st_val (ex_assign rfl) (by decide) trivial ?_
      refine wpF_end (r := [(4, (.int .i64 1))]) ⟨rfl, trivial⟩ ?_
      refine nx ?_
      refine wpC_ret ?_
      refine nt_ret ?_
      have e18 := Option.some.inj hF
      subst e18
      refine ret_post (P := Try.prog) (vs := [(.int .i64 1)]) Try.results126 ⟨rfl, trivial⟩ ?_
      exact ⟨rfl, hB.keeps⟩
    · rw [if_neg (by rw [t17]; decide)] at hF
      refine wpC_skip ?_
      refine nx ?_
      refine wpC_seq ?_
      refine wpC_seq ?_
      refine wpC_region ?_
      refine st_val (ex_move rfl) (by decide) trivial ?_
      refine st_val (ex_move rfl) (by decide) trivial ?_
      refine st_val (ex_lss rfl rfl) (by decide) trivial ?_
      refine wpF_end (r := [(0, (.int .i64 p0)), (1, (.int .i64 p1)), (16, (.bool (decide (p0 < p1))))]) ⟨rfl, rfl, rfl, trivial⟩ ?_
      refine nx ?_
      refine wpC_cond rfl (fun t19 => ?_) (fun t19 => ?_)
      · rw [if_pos t19] at hF
        refine wpC_seq ?_
        refine wpC_region ?_
        refine st_val (ex_assign rfl) (by decide) trivial ?_
        refine wpF_end (r := [(4, (.int .i64 (-1)))]) ⟨rfl, trivial⟩ ?_
        refine nx ?_
        refine wpC_ret ?_
        refine nt_ret ?_
        have e20 := Option.some.inj hF
        subst e20
        refine ret_post (P := Try.prog) (vs := [(.int .i64 (-1))]) Try.results126 ⟨rfl, trivial⟩ ?_
        exact ⟨rfl, hB.keeps⟩
      · rw [if_neg (by rw [t19]; decide)] at hF
        refine wpC_skip ?_
        refine nx ?_
        refine wpC_seq ?_
        refine wpC_seq ?_
        refine wpC_region ?_
        refine st_val (ex_move rfl) (by decide) trivial ?_
        refine st_val (ex_move rfl) (by decide) trivial ?_
        refine st_val (ex_gtr rfl rfl) (by decide) trivial ?_
        refine wpF_end (r := [(19, (.bool (decide (p0 > p1))))]) ⟨rfl, trivial⟩ ?_
        refine nx ?_
        refine wpC_cond rfl (fun t21 => ?_) (fun t21 => ?_)
        · rw [if_pos t21] at hF
          refine wpC_seq ?_
          refine wpC_region ?_
          refine st_val (ex_assign rfl) (by decide) trivial ?_
          refine wpF_end (r := [(4, (.int .i64 1))]) ⟨rfl, trivial⟩ ?_
          refine nx ?_
          refine wpC_ret ?_
          refine nt_ret ?_
          have e22 := Option.some.inj hF
          subst e22
          refine ret_post (P := Try.prog) (vs := [(.int .i64 1)]) Try.results126 ⟨rfl, trivial⟩ ?_
          exact ⟨rfl, hB.keeps⟩
        · rw [if_neg (by rw [t21]; decide)] at hF
          refine wpC_skip ?_
          refine nx ?_
          refine wpC_seq ?_
          refine wpC_region ?_
          refine st_val (ex_assign rfl) (by decide) trivial ?_
          refine wpF_end (r := [(4, (.int .i64 0))]) ⟨rfl, trivial⟩ ?_
          refine nx ?_
          refine wpC_ret ?_
          have e23 := Option.some.inj hF
          subst e23
          refine ret_post (P := Try.prog) (vs := [(.int .i64 0)]) Try.results126 ⟨rfl, trivial⟩ ?_
          exact ⟨rfl, hB.keeps⟩

def pX_slices_Compare_int_int (w : World) (r : Int) : Ending → World → Prop := fun e w' => e = .returned (.int .i64 r) ∧ Keeps w w'
set_option maxRecDepth 100000 in
set_option maxHeartbeats 2000000 in
theorem cX_slices_Compare_int_int (w : World) (u0 : Value) (p0 : List Int) (g0 : RdL zt w u0 p0) (u1 : Value) (p1 : List Int) (g1 : RdL zt w u1 p1) (r : Int) (hF : fX_slices_Compare_int_int p0 p1 = some r) :
    Calls Try.prog 107 #[u0, u1] w (pX_slices_Compare_int_int w r) := by
  unfold fX_slices_Compare_int_int at hF
  have hB : Bs (fun _ => 1) (col (fun _ => 1)) w w := Bs.start _ _
  refine calls_start (n := 36) (vs := [u0, u1]) Try.func107 rfl rfl ?_
  refine wpC_seq ?_
  refine wpC_region ?_
  refine st_val (ex_assign rfl) (by decide) trivial ?_
  refine wpF_end (r := [(0, u0), (1, u1)]) ⟨rfl, rfl, trivial⟩ ?_
  refine nx ?_
  refine wpC_seq ?_
  refine wpC_seq ?_
  refine wpC_region ?_
  refine st_val (ex_move rfl) (by decide) trivial ?_
  refine st_val (ex_lenR rfl g0 Try.underlying23) (by decide) trivial ?_
  refine st_val (ex_move rfl) (by decide) trivial ?_
  refine wpF_end (r := [(0, u0), (1, u1), (9, u0), (10, (.int .i64 (p0.length : Int))), (11, (.int .i64 0))]) ⟨rfl, rfl, rfl, rfl, rfl, trivial⟩ ?_
  refine nx ?_
  obtain ⟨q4, hq4, hF⟩ := bind_some hF
  refine wpC_cutN (fun a w2 => ∃ (o1 : Tg), q4 = .inl () ∧ Fr a 36 [(0, u0), (1, u1)] ∧ Bs (fun _ => 1) o1 w w2) (fun a w' => ∃ r', q4 = .inr r' ∧ bodyPost Try.prog Try.f107 (pX_slices_Compare_int_int w r') .ret a w') ?_ ?_ ?_
  · refine wpC_block ?_
    refine wpC_loop (fun (K : Nat) a w2 => ∃ (i3 : Int) (o1 : Tg), forI (fX_slices_Compare_int_int_s1 p1) (p0.drop i3.toNat) i3 () = some q4 ∧ (p0.drop i3.toNat).length = K ∧ 0 ≤ i3 ∧ Fr a 36 [(0, u0), (1, u1), (9, u0), (10, (.int .i64 (p0.length : Int))), (11, (.int .i64 i3))] ∧ Bs (fun _ => 1) o1 w w2) _ (fun a ha => ⟨0, (col (fun _ => 1)), hq4, rfl, Int.le_refl 0, ha.sub (r := [(0, u0), (1, u1), (9, u0), (10, (.int .i64 (p0.length : Int))), (11, (.int .i64 0))]) ⟨rfl, rfl, rfl, rfl, rfl, trivial⟩, hB⟩) ?_
    rintro K8 a w2 ⟨i3, o1, l5, m7, z6, ha, hB⟩
    by_cases t12 : i3 < (p0.length : Int)
    · obtain ⟨x13, q9, hx13, b10, n11⟩ := forI_cons z6 t12 l5
      have hle := g0.len_le
      dsimp only [fX_slices_Compare_int_int_s1] at b10
      refine wp_of ha ?_
      refine wpC_seq ?_
      refine wpC_region ?_
      refine st_val (ex_lss rfl rfl) (by decide) trivial ?_
      refine wpF_end (r := [(0, u0), (1, u1), (9, u0), (10, (.int .i64 (p0.length : Int))), (11, (.int .i64 i3)), (12, (.bool (decide (i3 < (p0.length : Int)))))]) ⟨rfl, rfl, rfl, rfl, rfl, rfl, trivial⟩ ?_
      refine nx ?_
      refine wpC_seq ?_
      refine wpC_true (congrArg (fun b => some (Value.bool b)) (decide_eq_true t12)) ?_
      refine wpC_skip ?_
      refine nx ?_
      refine wpC_seq ?_
      refine wpC_block ?_
      refine wpC_seq ?_
      refine wpC_region ?_
      refine st_val (ex_move rfl) (by decide) trivial ?_
      refine st_op (by decide) trivial ?_
      refine wf_atZ g0 hx13 hB rfl rfl Try.underlying23 Try.sizeOf3 ?_
      intro b14 f15 c16 h17 h18
      cases h18
      refine st_val (ex_load1 rfl Try.isAgg3 (cell_of_cells h17)) (by decide) trivial ?_
      refine st_val (ex_assign rfl) (by decide) trivial ?_
      refine st_val (ex_assign rfl) (by decide) trivial ?_
      refine wpF_end (r := [(0, u0), (1, u1), (5, (.int .i64 i3)), (6, (.int .i64 x13)), (9, u0), (10, (.int .i64 (p0.length : Int))), (11, (.int .i64 i3))]) ⟨rfl, rfl, rfl, rfl, rfl, rfl, rfl, trivial⟩ ?_
      refine nx ?_
      refine wpC_seq ?_
      refine wpC_seq ?_
      refine wpC_region ?_
      refine st_val (ex_move rfl) (by decide) trivial ?_
      refine st_val (ex_move rfl) (by decide) trivial ?_
      refine st_val (ex_lenR rfl g1 Try.underlying23) (by decide) trivial ?_
      refine st_val (ex_geq rfl rfl) (by decide) trivial ?_
      refine wpF_end (r := [(0, u0), (1, u1), (5, (.int .i64 i3)), (6, (.int .i64 x13)), (9, u0), (10, (.int .i64 (p0.length : Int))), (11, (.int .i64 i3)), (19, (.bool (decide (i3 ≥ (p1.length : Int)))))]) ⟨rfl, rfl, rfl, rfl, rfl, rfl, rfl, rfl, trivial⟩ ?_
      refine nx ?_
      refine wpC_cond rfl (fun t19 => ?_) (fun t19 => ?_)
      · rw [if_pos t19] at b10
        refine wpC_seq ?_
        refine wpC_region ?_
        refine st_val (ex_assign rfl) (by decide) trivial ?_
        refine wpF_end (r := [(4, (.int .i64 1))]) ⟨rfl, trivial⟩ ?_
        refine nx ?_
        refine wpC_ret ?_
        refine nt_ret ?_
        refine nb_ret ?_
        refine nt_ret ?_
        refine nt_ret ?_
        refine nb_ret ?_
        refine np_ret ?_
        have e20 := Option.some.inj b10
        subst e20
        refine fun a ha => ⟨_, n11, ?_⟩
        refine ret_post (P := Try.prog) (vs := [(.int .i64 1)]) Try.results107 ⟨rfl, trivial⟩ ?_ a ha
        exact ⟨rfl, hB.keeps⟩
      · rw [if_neg (by rw [t19]; decide)] at b10
        refine wpC_skip ?_
        refine nx ?_
        refine wpC_seq ?_
        refine wpC_region ?_
        refine st_val (ex_move rfl) (by decide) trivial ?_
        refine st_val (ex_move rfl) (by decide) trivial ?_
        obtain ⟨x21, hx21, b10⟩ := bind_some b10
        refine st_op (by decide) trivial ?_
        refine wf_atZ g1 hx21 hB rfl rfl Try.underlying23 Try.sizeOf3 ?_
        intro b22 f23 c24 h25 h26
        cases h26
        refine st_val (ex_load1 rfl Try.isAgg3 (cell_of_cells h25)) (by decide) trivial ?_
        refine st_val (ex_assign rfl) (by decide) trivial ?_
        refine wpF_end (r := [(0, u0), (1, u1), (6, (.int .i64 x13)), (7, (.int .i64 x21)), (9, u0), (10, (.int .i64 (p0.length : Int))), (11, (.int .i64 i3))]) ⟨rfl, rfl, rfl, rfl, rfl, rfl, rfl, trivial⟩ ?_
        refine nx ?_
        refine wpC_seq ?_
        refine wpC_region ?_
        refine st_val (ex_move rfl) (by decide) trivial ?_
        refine st_val (ex_move rfl) (by decide) trivial ?_
        obtain ⟨x27, hx27, b10⟩ := bind_some b10
        refine st_op (by decide) trivial ?_
        refine wf_call (cX_cmp_Compare_int w2 x13 x21 x27 hx27) Try.call126 ⟨rfl, rfl, trivial⟩ ?_
        rintro e32 w28 ⟨rfl, k29⟩
        have s31 := k29.stp 999 o1
        refine ⟨_, rfl, ?_⟩
        replace hB := hB.stp s31 (by decide)
        refine st_val (ex_assign rfl) (by decide) trivial ?_
        refine wpF_end (r := [(0, u0), (1, u1), (8, (.int .i64 x27)), (9, u0), (10, (.int .i64 (p0.length : Int))), (11, (.int .i64 i3))]) ⟨rfl, rfl, rfl, rfl, rfl, rfl, trivial⟩ ?_
        refine nx ?_
        refine wpC_seq ?_
        refine wpC_region ?_
        refine st_val (ex_move rfl) (by decide) trivial ?_
        refine st_val (ex_neq rfl rfl) (by decide) trivial ?_
        refine wpF_end (r := [(0, u0), (1, u1), (8, (.int .i64 x27)), (9, u0), (10, (.int .i64 (p0.length : Int))), (11, (.int .i64 i3)), (28, (.bool (x27 != 0)))]) ⟨rfl, rfl, rfl, rfl, rfl, rfl, rfl, trivial⟩ ?_
        refine nx ?_
        refine wpC_cond rfl (fun t33 => ?_) (fun t33 => ?_)
        · rw [if_pos t33] at b10
          refine wpC_seq ?_
          refine wpC_region ?_
          refine st_val (ex_move rfl) (by decide) trivial ?_
          refine st_val (ex_assign rfl) (by decide) trivial ?_
          refine wpF_end (r := [(4, (.int .i64 x27))]) ⟨rfl, trivial⟩ ?_
          refine nx ?_
          refine wpC_ret ?_
          refine nb_ret ?_
          refine nt_ret ?_
          refine nt_ret ?_
          refine nb_ret ?_
          refine np_ret ?_
          have e34 := Option.some.inj b10
          subst e34
          refine fun a ha => ⟨_, n11, ?_⟩
          refine ret_post (P := Try.prog) (vs := [(.int .i64 x27)]) Try.results107 ⟨rfl, trivial⟩ ?_ a ha
          exact ⟨rfl, hB.keeps⟩
        · rw [if_neg (by rw [t33]; decide)] at b10
          refine wpC_skip ?_
          refine nb_norm ?_
          refine nx ?_
          refine wpC_region ?_
          refine st_val (ex_add rfl rfl (ck_in (by omega) (by omega))) (by decide) trivial ?_
          refine st_val (ex_move rfl) (by decide) trivial ?_
          refine wpF_end (r := [(0, u0), (1, u1), (9, u0), (10, (.int .i64 (p0.length : Int))), (11, (.int .i64 (i3 + 1)))]) ⟨rfl, rfl, rfl, rfl, rfl, trivial⟩ ?_
          refine nt_norm ?_
          have e35 := Option.some.inj b10
          subst e35
          refine to_k (r := [(0, u0), (1, u1), (9, u0), (10, (.int .i64 (p0.length : Int))), (11, (.int .i64 (i3 + 1)))]) ⟨rfl, rfl, rfl, rfl, rfl, trivial⟩ ?_
          intro a ha
          exact ⟨_, (by rw [← m7]; simp only [List.length_drop]; omega), i3 + 1, o1, n11, rfl, (by omega), ha, hB⟩
    · have r36 := forI_done t12 l5
      refine wp_of ha ?_
      refine wpC_seq ?_
      refine wpC_region ?_
      refine st_val (ex_lss rfl rfl) (by decide) trivial ?_
      refine wpF_end (r := [(0, u0), (1, u1), (9, u0), (10, (.int .i64 (p0.length : Int))), (11, (.int .i64 i3)), (12, (.bool (decide (i3 < (p0.length : Int)))))]) ⟨rfl, rfl, rfl, rfl, rfl, rfl, trivial⟩ ?_
      refine nx ?_
      refine wpC_seq ?_
      refine wpC_false (congrArg (fun b => some (Value.bool b)) (decide_eq_false t12)) ?_
      refine wpC_exit ?_
      refine nt_exit ?_
      refine nt_exit ?_
      refine nb_hit ?_
      refine np_norm ?_
      refine to_k (r := [(0, u0), (1, u1)]) ⟨rfl, rfl, trivial⟩ ?_
      intro a ha
      exact ⟨o1, r36, ha, hB⟩
  · rintro a w2 ⟨o1, rfl, ha, hB⟩
    dsimp only at hF
    refine ap_k ha ?_
    refine nx ?_
    refine wpC_seq ?_
    refine wpC_seq ?_
    refine wpC_region ?_
    refine st_val (ex_move rfl) (by decide) trivial ?_
    refine st_val (ex_lenR rfl g0 Try.underlying23) (by decide) trivial ?_
    refine st_val (ex_move rfl) (by decide) trivial ?_
    refine st_val (ex_lenR rfl g1 Try.underlying23) (by decide) trivial ?_
    refine st_val (ex_lss rfl rfl) (by decide) trivial ?_
    refine wpF_end (r := [(35, (.bool (decide ((p0.length : Int) < (p1.length : Int)))))]) ⟨rfl, trivial⟩ ?_
    refine nx ?_
    refine wpC_cond rfl (fun t37 => ?_) (fun t37 => ?_)
    · rw [if_pos t37] at hF
      refine wpC_seq ?_
      refine wpC_region ?_
      refine st_val (ex_assign rfl) (by decide) trivial ?_
      refine wpF_end (r := [(4, (.int .i64 (-1)))]) ⟨rfl, trivial⟩ ?_
      refine nx ?_
      refine wpC_ret ?_
      refine nt_ret ?_
      have e38 := Option.some.inj hF
      subst e38
      refine ret_post (P := Try.prog) (vs := [(.int .i64 (-1))]) Try.results107 ⟨rfl, trivial⟩ ?_
      exact ⟨rfl, hB.keeps⟩
    · rw [if_neg (by rw [t37]; decide)] at hF
      refine wpC_skip ?_
      refine nx ?_
      refine wpC_seq ?_
      refine wpC_region ?_
      refine st_val (ex_assign rfl) (by decide) trivial ?_
      refine wpF_end (r := [(4, (.int .i64 0))]) ⟨rfl, trivial⟩ ?_
      refine nx ?_
      refine wpC_ret ?_
      have e39 := Option.some.inj hF
      subst e39
      refine ret_post (P := Try.prog) (vs := [(.int .i64 0)]) Try.results107 ⟨rfl, trivial⟩ ?_
      exact ⟨rfl, hB.keeps⟩
  · rintro a w2 ⟨r', rfl, b40⟩
    dsimp only at hF
    have e41 := Option.some.inj hF
    subst e41
    exact b40

end Ex
end Go.Proofs.Ytijaojnaamkinaa
