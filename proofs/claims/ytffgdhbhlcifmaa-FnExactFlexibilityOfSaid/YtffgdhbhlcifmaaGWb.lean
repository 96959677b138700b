/- impl.setOf, slices.Index[[]int,int], slices.Contains[[]int,int], (impl.WalkProblem).closure, (impl.WalkProblem).distancesIn, (impl.WalkProblem).periodOf, (impl.WalkProblem).walkComponents: plain functions, and the walks that show that the program computes them (printed by gen.py). -/
import Derived.Test.YtffgdhbhlcifmaaGI
import Derived.Test.YtffgdhbhlcifmaaGcd
import Derived.Test.YtffgdhbhlcifmaaKh
import Derived.Test.YtffgdhbhlcifmaaRpt
import Derived.Test.YtffgdhbhlcifmaaKds
namespace Go.Proofs.Ytffgdhbhlcifmaa
open Go.RowKit
set_option linter.unusedSimpArgs false
set_option linter.unusedVariables false

theorem info2_t_int_Wb : Inf Try.prog 3 (.int .i64 0) 1 8 := by unfold Inf; kernel_rfl

theorem info2_t_Lint_Wb : Inf Try.prog 26 (.slice none 0 0) 1 24 := by unfold Inf; kernel_rfl

def fI_setOf_s1 : Int → Int → Int → Option (Lp Int Int Int) := fun (i4 : Int) (x14 : Int) (s : Int) =>
  (shl 1 x14) >>= fun x20 =>
  some (.go (bor s x20))
def fI_setOf (p0 : List Int) : Option Int :=
  (forI (fI_setOf_s1) p0 0 0) >>= fun q5 =>
  match q5 with
  | .inl y1 =>
    some y1
  | .inr _ => none

def pI_setOf (w : World) (r : Int) : Ending → World → Prop := fun e w' => e = .returned (.int .i64 r) ∧ Keeps w w'
set_option maxRecDepth 100000 in
set_option maxHeartbeats 2000000 in
theorem cI_setOf (w : World) (u0 : Value) (p0 : List Int) (g0 : RdL zt w u0 p0) (r : Int) (hF : fI_setOf p0 = some r) :
    Calls Try.prog 81 #[u0] w (pI_setOf w r) := by
  unfold fI_setOf at hF
  have hB : Bs (fun _ => 1) (col (fun _ => 1)) w w := Bs.start _ _
  refine calls_start (n := 18) (vs := [u0]) Try.func81 rfl rfl ?_
  refine wpC_seq ?_
  refine wpC_region ?_
  refine st_val (ex_assign rfl) (by decide) trivial ?_
  refine wpF_end (r := [(0, u0)]) ⟨rfl, trivial⟩ ?_
  refine nx ?_
  refine wpC_seq ?_
  refine wpC_region ?_
  refine st_val (ex_assign rfl) (by decide) trivial ?_
  refine wpF_end (r := [(0, u0), (3, (.int .i64 0))]) ⟨rfl, rfl, trivial⟩ ?_
  refine nx ?_
  refine wpC_seq ?_
  refine wpC_seq ?_
  refine wpC_region ?_
  refine st_val (ex_move rfl) (by decide) trivial ?_
  refine st_val (ex_lenR rfl g0 Try.underlying26) (by decide) trivial ?_
  refine st_val (ex_move rfl) (by decide) trivial ?_
  refine wpF_end (r := [(3, (.int .i64 0)), (6, u0), (7, (.int .i64 (p0.length : Int))), (8, (.int .i64 0))]) ⟨rfl, rfl, rfl, rfl, trivial⟩ ?_
  refine nx ?_
  obtain ⟨q5, hq5, hF⟩ := bind_some hF
  refine wpC_cutN (fun a w3 => ∃ (y1 : Int) (o2 : Tg), q5 = .inl y1 ∧ Fr a 18 [(3, (.int .i64 y1))] ∧ Bs (fun _ => 1) o2 w w3) (fun _ _ => False) ?_ ?_ ?_
  · refine wpC_block ?_
    refine wpC_loop (fun (K : Nat) a w3 => ∃ (i4 : Int) (y1 : Int) (o2 : Tg), forI (fI_setOf_s1) (p0.drop i4.toNat) i4 y1 = some q5 ∧ (p0.drop i4.toNat).length = K ∧ 0 ≤ i4 ∧ Fr a 18 [(3, (.int .i64 y1)), (6, u0), (7, (.int .i64 (p0.length : Int))), (8, (.int .i64 i4))] ∧ Bs (fun _ => 1) o2 w w3) _ (fun a ha => ⟨0, 0, (col (fun _ => 1)), hq5, rfl, Int.le_refl 0, ha.sub (r := [(3, (.int .i64 0)), (6, u0), (7, (.int .i64 (p0.length : Int))), (8, (.int .i64 0))]) ⟨rfl, rfl, rfl, rfl, trivial⟩, hB⟩) ?_
    rintro K9 a w3 ⟨i4, y1, o2, l6, m8, z7, ha, hB⟩
    by_cases t13 : i4 < (p0.length : Int)
    · obtain ⟨x14, q10, hx14, b11, n12⟩ := forI_cons z7 t13 l6
      have hle := g0.len_le
      dsimp only [fI_setOf_s1] at b11
      refine wp_of ha ?_
      refine wpC_seq ?_
      refine wpC_region ?_
      refine st_val (ex_lss rfl rfl) (by decide) trivial ?_
      refine wpF_end (r := [(3, (.int .i64 y1)), (6, u0), (7, (.int .i64 (p0.length : Int))), (8, (.int .i64 i4)), (9, (.bool (decide (i4 < (p0.length : Int)))))]) ⟨rfl, rfl, rfl, rfl, rfl, trivial⟩ ?_
      refine nx ?_
      refine wpC_seq ?_
      refine wpC_true (congrArg (fun b => some (Value.bool b)) (decide_eq_true t13)) ?_
      refine wpC_skip ?_
      refine nx ?_
      refine wpC_seq ?_
      refine wpC_block ?_
      refine wpC_seq ?_
      refine wpC_region ?_
      refine st_op (by decide) trivial ?_
      refine wf_atZ g0 hx14 hB rfl rfl Try.underlying26 Try.sizeOf3 ?_
      intro b15 f16 c17 h18 h19
      cases h19
      refine st_val (ex_load1 rfl Try.isAgg3 (cell_of_cells h18)) (by decide) trivial ?_
      refine st_val (ex_assign rfl) (by decide) trivial ?_
      refine wpF_end (r := [(3, (.int .i64 y1)), (5, (.int .i64 x14)), (6, u0), (7, (.int .i64 (p0.length : Int))), (8, (.int .i64 i4))]) ⟨rfl, rfl, rfl, rfl, rfl, trivial⟩ ?_
      refine nx ?_
      refine wpC_region ?_
      refine st_val (ex_move rfl) (by decide) trivial ?_
      refine st_val (ex_move rfl) (by decide) trivial ?_
      obtain ⟨x20, hx20, b11⟩ := bind_some b11
      refine st_val (ex_shl rfl rfl hx20) (by decide) trivial ?_
      refine st_val (ex_or rfl rfl) (by decide) trivial ?_
      refine st_val (ex_assign rfl) (by decide) trivial ?_
      refine wpF_end (r := [(3, (.int .i64 (bor y1 x20))), (6, u0), (7, (.int .i64 (p0.length : Int))), (8, (.int .i64 i4))]) ⟨rfl, rfl, rfl, rfl, trivial⟩ ?_
      refine nb_norm ?_
      refine nx ?_
      refine wpC_region ?_
      refine st_val (ex_add rfl rfl (ck_in (by omega) (by omega))) (by decide) trivial ?_
      refine st_val (ex_move rfl) (by decide) trivial ?_
      refine wpF_end (r := [(3, (.int .i64 (bor y1 x20))), (6, u0), (7, (.int .i64 (p0.length : Int))), (8, (.int .i64 (i4 + 1)))]) ⟨rfl, rfl, rfl, rfl, trivial⟩ ?_
      refine nt_norm ?_
      have e21 := Option.some.inj b11
      subst e21
      refine to_k (r := [(3, (.int .i64 (bor y1 x20))), (6, u0), (7, (.int .i64 (p0.length : Int))), (8, (.int .i64 (i4 + 1)))]) ⟨rfl, rfl, rfl, rfl, trivial⟩ ?_
      intro a ha
      exact ⟨_, (by rw [← m8]; simp only [List.length_drop]; omega), i4 + 1, bor y1 x20, o2, n12, rfl, (by omega), ha, hB⟩
    · have r22 := forI_done t13 l6
      refine wp_of ha ?_
      refine wpC_seq ?_
      refine wpC_region ?_
      refine st_val (ex_lss rfl rfl) (by decide) trivial ?_
      refine wpF_end (r := [(3, (.int .i64 y1)), (6, u0), (7, (.int .i64 (p0.length : Int))), (8, (.int .i64 i4)), (9, (.bool (decide (i4 < (p0.length : Int)))))]) ⟨rfl, rfl, rfl, rfl, rfl, trivial⟩ ?_
      refine nx ?_
      refine wpC_seq ?_
      refine wpC_false (congrArg (fun b => some (Value.bool b)) (decide_eq_false t13)) ?_
      refine wpC_exit ?_
      refine nt_exit ?_
      refine nt_exit ?_
      refine nb_hit ?_
      refine np_norm ?_
      refine to_k (r := [(3, (.int .i64 y1))]) ⟨rfl, trivial⟩ ?_
      intro a ha
      exact ⟨y1, o2, r22, ha, hB⟩
  · rintro a w3 ⟨y1, o2, rfl, ha, hB⟩
    dsimp only at hF
    refine ap_k ha ?_
    refine nx ?_
    refine wpC_seq ?_
    refine wpC_region ?_
    refine st_val (ex_move rfl) (by decide) trivial ?_
    refine st_val (ex_assign rfl) (by decide) trivial ?_
    refine wpF_end (r := [(2, (.int .i64 y1))]) ⟨rfl, trivial⟩ ?_
    refine nx ?_
    refine wpC_ret ?_
    have e23 := Option.some.inj hF
    subst e23
    refine ret_post (P := Try.prog) (vs := [(.int .i64 y1)]) Try.results81 ⟨rfl, trivial⟩ ?_
    exact ⟨rfl, hB.keeps⟩
  · exact fun _ _ h => h.elim

def fX_slices_Index_int_int_s1 (p0 : List Int) (p1 : Int) : Int → Unit → Option (Lp Unit Unit Int) := fun (i3 : Int) (s : Unit) =>
  (ix p0 i3) >>= fun x15 =>
  if p1 == x15 then
    some (.ret i3)
  else
    some (.go ())
def fX_slices_Index_int_int (p0 : List Int) (p1 : Int) : Option Int :=
  ck (p0.length : Int) >>= fun _ =>
  (forN (fX_slices_Index_int_int_s1 p0 p1) ((p0.length : Int)).toNat 0 ()) >>= fun q4 =>
  match q4 with
  | .inl _ =>
    some (-1)
  | .inr r' => some r'

def pX_slices_Index_int_int (w : World) (r : Int) : Ending → World → Prop := fun e w' => e = .returned (.int .i64 r) ∧ Keeps w w'
set_option maxRecDepth 100000 in
set_option maxHeartbeats 2000000 in
theorem cX_slices_Index_int_int (w : World) (u0 : Value) (p0 : List Int) (g0 : RdL zt w u0 p0) (p1 : Int) (r : Int) (hF : fX_slices_Index_int_int p0 p1 = some r) :
    Calls Try.prog 99 #[u0, .int .i64 p1] w (pX_slices_Index_int_int w r) := by
  unfold fX_slices_Index_int_int at hF
  have hB : Bs (fun _ => 1) (col (fun _ => 1)) w w := Bs.start _ _
  refine calls_start (n := 19) (vs := [u0, (.int .i64 p1)]) Try.func99 rfl rfl ?_
  refine wpC_seq ?_
  refine wpC_region ?_
  refine st_val (ex_assign rfl) (by decide) trivial ?_
  refine wpF_end (r := [(0, u0), (1, (.int .i64 p1))]) ⟨rfl, rfl, trivial⟩ ?_
  refine nx ?_
  refine wpC_seq ?_
  refine wpC_seq ?_
  refine wpC_region ?_
  refine st_val (ex_move rfl) (by decide) trivial ?_
  refine st_val (ex_lenR rfl g0 Try.underlying26) (by decide) trivial ?_
  refine st_val (ex_move rfl) (by decide) trivial ?_
  refine wpF_end (r := [(0, u0), (1, (.int .i64 p1)), (7, (.int .i64 (p0.length : Int))), (8, (.int .i64 0))]) ⟨rfl, rfl, rfl, rfl, trivial⟩ ?_
  refine nx ?_
  obtain ⟨u6, h5, hF⟩ := bind_some hF
  obtain ⟨-, h5a, h5b⟩ := ck_some h5
  obtain ⟨q4, hq4, hF⟩ := bind_some hF
  refine wpC_cutN (fun a w2 => ∃ (o1 : Tg), q4 = .inl () ∧ Fr a 19 [] ∧ Bs (fun _ => 1) o1 w w2) (fun a w' => ∃ r', q4 = .inr r' ∧ bodyPost Try.prog Try.f99 (pX_slices_Index_int_int w r') .ret a w') ?_ ?_ ?_
  · refine wpC_block ?_
    refine wpC_loop (fun (K : Nat) a w2 => ∃ (i3 : Int) (o1 : Tg), forN (fX_slices_Index_int_int_s1 p0 p1) ((p0.length : Int) - i3).toNat i3 () = some q4 ∧ ((p0.length : Int) - i3).toNat = K ∧ 0 ≤ i3 ∧ Fr a 19 [(0, u0), (1, (.int .i64 p1)), (7, (.int .i64 (p0.length : Int))), (8, (.int .i64 i3))] ∧ Bs (fun _ => 1) o1 w w2) _ (fun a ha => ⟨0, (col (fun _ => 1)), (by rw [Int.sub_zero]; exact hq4), rfl, Int.le_refl 0, ha.sub (r := [(0, u0), (1, (.int .i64 p1)), (7, (.int .i64 (p0.length : Int))), (8, (.int .i64 0))]) ⟨rfl, rfl, rfl, rfl, trivial⟩, hB⟩) ?_
    rintro K10 a w2 ⟨i3, o1, l7, m9, z8, ha, hB⟩
    by_cases t14 : i3 < (p0.length : Int)
    · obtain ⟨q11, b12, n13⟩ := forN_cons t14 l7
      dsimp only [fX_slices_Index_int_int_s1] at b12
      refine wp_of ha ?_
      refine wpC_seq ?_
      refine wpC_region ?_
      refine st_val (ex_lss rfl rfl) (by decide) trivial ?_
      refine wpF_end (r := [(0, u0), (1, (.int .i64 p1)), (7, (.int .i64 (p0.length : Int))), (8, (.int .i64 i3)), (9, (.bool (decide (i3 < (p0.length : Int)))))]) ⟨rfl, rfl, rfl, rfl, rfl, trivial⟩ ?_
      refine nx ?_
      refine wpC_seq ?_
      refine wpC_true (congrArg (fun b => some (Value.bool b)) (decide_eq_true t14)) ?_
      refine wpC_skip ?_
      refine nx ?_
      refine wpC_seq ?_
      refine wpC_block ?_
      refine wpC_seq ?_
      refine wpC_region ?_
      refine st_val (ex_move rfl) (by decide) trivial ?_
      refine st_val (ex_assign rfl) (by decide) trivial ?_
      refine wpF_end (r := [(0, u0), (1, (.int .i64 p1)), (5, (.int .i64 i3)), (7, (.int .i64 (p0.length : Int))), (8, (.int .i64 i3))]) ⟨rfl, rfl, rfl, rfl, rfl, trivial⟩ ?_
      refine nx ?_
      refine wpC_seq ?_
      refine wpC_region ?_
      refine st_val (ex_move rfl) (by decide) trivial ?_
      refine st_val (ex_move rfl) (by decide) trivial ?_
      refine st_val (ex_move rfl) (by decide) trivial ?_
      obtain ⟨x15, hx15, b12⟩ := bind_some b12
      refine st_op (by decide) trivial ?_
      refine wf_atZ g0 hx15 hB rfl rfl Try.underlying26 Try.sizeOf3 ?_
      intro b16 f17 c18 h19 h20
      cases h20
      refine st_val (ex_load1 rfl Try.isAgg3 (cell_of_cells h19)) (by decide) trivial ?_
      refine st_val (ex_eql rfl rfl) (by decide) trivial ?_
      refine wpF_end (r := [(0, u0), (1, (.int .i64 p1)), (5, (.int .i64 i3)), (7, (.int .i64 (p0.length : Int))), (8, (.int .i64 i3)), (16, (.bool (p1 == x15)))]) ⟨rfl, rfl, rfl, rfl, rfl, rfl, trivial⟩ ?_
      refine nx ?_
      refine wpC_cond rfl (fun t21 => ?_) (fun t21 => ?_)
      · rw [if_pos t21] at b12
        refine wpC_seq ?_
        refine wpC_region ?_
        refine st_val (ex_move rfl) (by decide) trivial ?_
        refine st_val (ex_assign rfl) (by decide) trivial ?_
        refine wpF_end (r := [(4, (.int .i64 i3))]) ⟨rfl, trivial⟩ ?_
        refine nx ?_
        refine wpC_ret ?_
        refine nb_ret ?_
        refine nt_ret ?_
        refine nt_ret ?_
        refine nb_ret ?_
        refine np_ret ?_
        have e22 := Option.some.inj b12
        subst e22
        refine fun a ha => ⟨_, n13, ?_⟩
        refine ret_post (P := Try.prog) (vs := [(.int .i64 i3)]) Try.results99 ⟨rfl, trivial⟩ ?_ a ha
        exact ⟨rfl, hB.keeps⟩
      · rw [if_neg (by rw [t21]; decide)] at b12
        refine wpC_skip ?_
        refine nb_norm ?_
        refine nx ?_
        refine wpC_region ?_
        refine st_val (ex_add rfl rfl (ck_in (by omega) (by omega))) (by decide) trivial ?_
        refine st_val (ex_move rfl) (by decide) trivial ?_
        refine wpF_end (r := [(0, u0), (1, (.int .i64 p1)), (7, (.int .i64 (p0.length : Int))), (8, (.int .i64 (i3 + 1)))]) ⟨rfl, rfl, rfl, rfl, trivial⟩ ?_
        refine nt_norm ?_
        have e23 := Option.some.inj b12
        subst e23
        refine to_k (r := [(0, u0), (1, (.int .i64 p1)), (7, (.int .i64 (p0.length : Int))), (8, (.int .i64 (i3 + 1)))]) ⟨rfl, rfl, rfl, rfl, trivial⟩ ?_
        intro a ha
        exact ⟨_, (by rw [← m9]; omega), i3 + 1, o1, n13, rfl, (by omega), ha, hB⟩
    · have r24 := forN_done t14 l7
      refine wp_of ha ?_
      refine wpC_seq ?_
      refine wpC_region ?_
      refine st_val (ex_lss rfl rfl) (by decide) trivial ?_
      refine wpF_end (r := [(0, u0), (1, (.int .i64 p1)), (7, (.int .i64 (p0.length : Int))), (8, (.int .i64 i3)), (9, (.bool (decide (i3 < (p0.length : Int)))))]) ⟨rfl, rfl, rfl, rfl, rfl, trivial⟩ ?_
      refine nx ?_
      refine wpC_seq ?_
      refine wpC_false (congrArg (fun b => some (Value.bool b)) (decide_eq_false t14)) ?_
      refine wpC_exit ?_
      refine nt_exit ?_
      refine nt_exit ?_
      refine nb_hit ?_
      refine np_norm ?_
      refine to_k (r := []) trivial ?_
      intro a ha
      exact ⟨o1, r24, ha, hB⟩
  · rintro a w2 ⟨o1, rfl, ha, hB⟩
    dsimp only at hF
    refine ap_k ha ?_
    refine nx ?_
    refine wpC_seq ?_
    refine wpC_region ?_
    refine st_val (ex_assign rfl) (by decide) trivial ?_
    refine wpF_end (r := [(4, (.int .i64 (-1)))]) ⟨rfl, trivial⟩ ?_
    refine nx ?_
    refine wpC_ret ?_
    have e25 := Option.some.inj hF
    subst e25
    refine ret_post (P := Try.prog) (vs := [(.int .i64 (-1))]) Try.results99 ⟨rfl, trivial⟩ ?_
    exact ⟨rfl, hB.keeps⟩
  · rintro a w2 ⟨r', rfl, b26⟩
    dsimp only at hF
    have e27 := Option.some.inj hF
    subst e27
    exact b26

def fX_slices_Contains_int_int (p0 : List Int) (p1 : Int) : Option Bool :=
  (fX_slices_Index_int_int p0 p1) >>= fun x1 =>
  some (decide (x1 ≥ 0))

def pX_slices_Contains_int_int (w : World) (r : Bool) : Ending → World → Prop := fun e w' => e = .returned (.bool r) ∧ Keeps w w'
set_option maxRecDepth 100000 in
set_option maxHeartbeats 2000000 in
theorem cX_slices_Contains_int_int (w : World) (u0 : Value) (p0 : List Int) (g0 : RdL zt w u0 p0) (p1 : Int) (r : Bool) (hF : fX_slices_Contains_int_int p0 p1 = some r) :
    Calls Try.prog 64 #[u0, .int .i64 p1] w (pX_slices_Contains_int_int w r) := by
  unfold fX_slices_Contains_int_int at hF
  have hB : Bs (fun _ => 1) (col (fun _ => 1)) w w := Bs.start _ _
  refine calls_start (n := 9) (vs := [u0, (.int .i64 p1)]) Try.func64 rfl rfl ?_
  refine wpC_seq ?_
  refine wpC_region ?_
  refine st_val (ex_assign rfl) (by decide) trivial ?_
  refine wpF_end (r := [(0, u0), (1, (.int .i64 p1))]) ⟨rfl, rfl, trivial⟩ ?_
  refine nx ?_
  refine wpC_seq ?_
  refine wpC_region ?_
  refine st_val (ex_move rfl) (by decide) trivial ?_
  refine st_val (ex_move rfl) (by decide) trivial ?_
  obtain ⟨x1, hx1, hF⟩ := bind_some hF
  refine st_op (by decide) trivial ?_
  refine wf_call (cX_slices_Index_int_int w _ p0 (g0.keep hB.keeps) p1 x1 hx1) Try.call99 ⟨rfl, rfl, trivial⟩ ?_
  rintro e6 w2 ⟨rfl, k3⟩
  have s5 := k3.stp 999 (col (fun _ => 1))
  refine ⟨_, rfl, ?_⟩
  replace hB := hB.stp s5 (by decide)
  refine st_val (ex_geq rfl rfl) (by decide) trivial ?_
  refine st_val (ex_assign rfl) (by decide) trivial ?_
  refine wpF_end (r := [(4, (.bool (decide (x1 ≥ 0))))]) ⟨rfl, trivial⟩ ?_
  refine nx ?_
  refine wpC_ret ?_
  have e7 := Option.some.inj hF
  subst e7
  refine ret_post (P := Try.prog) (vs := [(.bool (decide (x1 ≥ 0)))]) Try.results64 ⟨rfl, trivial⟩ ?_
  exact ⟨rfl, hB.keeps⟩

def fI_WalkProblem_closure_s2 (i18 : Int) : Int → Int → (List Int) → Option (Lp (List Int) (List Int) (List Int)) := fun (i43 : Int) (x53 : Int) (s : List Int) =>
  (ix s i18) >>= fun x59 =>
  (ix s i18) >>= fun x65 =>
  (st s i18 (bor x59 x53)) >>= fun x74 =>
  some (.go x74)
def fI_WalkProblem_closure_s1 (fuel : Nat) (p0 : T_WalkProblem) : Int → (List Int) → Option (Lp (List Int) (List Int) (List Int)) := fun (i18 : Int) (s : List Int) =>
  (fI_WalkProblem_reached fuel p0 i18 p0.Labels) >>= fun x30 =>
  (forI (fI_WalkProblem_closure_s2 i18) x30 0 s) >>= fun q44 =>
  match q44 with
  | .inl y39 =>
    some (.go y39)
  | .inr _ => none
def fI_WalkProblem_closure (fuel : Nat) (p0 : T_WalkProblem) : Option (List Int) :=
  (mk (Rz.z : Int) p0.Labels) >>= fun x8 =>
  ck (x8.length : Int) >>= fun _ =>
  (forN (fI_WalkProblem_closure_s1 fuel p0) ((x8.length : Int)).toNat 0 x8) >>= fun q19 =>
  match q19 with
  | .inl y14 =>
    some y14
  | .inr _ => none

def pI_WalkProblem_closure (oo : Tg) (t : Nat) (w : World) (r : List Int) : Ending → World → Prop := fun e w' => ∃ (v0 : Value) (o' : Tg), e = .returned (v0) ∧ Ow w.heap.size 3 t o' w' v0 r ∧ Keeps w w' ∧ ∀ b, b < w.heap.size → o' b = oo b
set_option maxRecDepth 100000 in
set_option maxHeartbeats 2000000 in
theorem cI_WalkProblem_closure (fuel : Nat) (w : World) (oo : Tg) (t : Nat) (ht : 2 ≤ t) (u0 : List Value) (p0 : T_WalkProblem) (g0 : Rp.rd zt w u0 p0) (r : List Int) (hF : fI_WalkProblem_closure fuel p0 = some r) :
    Calls Try.prog 79 #[.agg u0.toArray] w (pI_WalkProblem_closure oo t w r) := by
  unfold fI_WalkProblem_closure at hF
  obtain ⟨v1, rfl, h2⟩ := g0
  have hB : Bs oo (col oo) w w := Bs.start _ _
  refine calls_start (n := 35) (vs := [(.agg #[(.int .i64 p0.Labels), v1])]) Try.func79 rfl rfl ?_
  generalize col oo = o at *
  refine wpC_seq ?_
  refine wpC_region ?_
  refine st_op (by decide) trivial ?_
  refine wf_box (o := o) w.heap.size 11 hB.keeps.size (cs := [(.int .i64 p0.Labels), v1]) rfl rfl ?_
  intro o3 w4 b5 h6 s7
  replace hB := hB.stp s7 (by decide)
  refine st_val (ex_assign rfl) (by decide) trivial ?_
  refine wpF_end (r := [(1, (.pointer (some ⟨b5, 0, none⟩)))]) ⟨rfl, trivial⟩ ?_
  refine nx ?_
  refine wpC_seq ?_
  refine wpC_region ?_
  refine st_val (ex_field rfl Try.underlying29 rfl Try.sizeOf3) (by decide) trivial ?_
  refine st_val (ex_load1 rfl Try.isAgg3 (h6.cell rfl)) (by decide) trivial ?_
  obtain ⟨x8, hx8, hF⟩ := bind_some hF
  refine st_op (by decide) trivial ?_
  refine wf_make (o := o3) w.heap.size 12 hB.keeps.size hx8 rfl rfl Try.underlying26 info2_t_int_Wb rfl (by decide) ?_
  intro o9 w10 v11 h12 s13
  replace h6 := h6.stp s13 (by decide)
  replace hB := hB.stp s13 (by decide)
  refine st_val (ex_assign rfl) (by decide) trivial ?_
  refine wpF_end (r := [(1, (.pointer (some ⟨b5, 0, none⟩))), (3, v11)]) ⟨rfl, rfl, trivial⟩ ?_
  refine nx ?_
  refine wpC_seq ?_
  refine wpC_seq ?_
  refine wpC_region ?_
  refine st_val (ex_move rfl) (by decide) trivial ?_
  refine st_val (ex_lenO rfl h12 Try.underlying26) (by decide) trivial ?_
  refine st_val (ex_move rfl) (by decide) trivial ?_
  refine wpF_end (r := [(1, (.pointer (some ⟨b5, 0, none⟩))), (3, v11), (11, (.int .i64 (x8.length : Int))), (12, (.int .i64 0))]) ⟨rfl, rfl, rfl, rfl, trivial⟩ ?_
  refine nx ?_
  obtain ⟨u21, h20, hF⟩ := bind_some hF
  obtain ⟨-, h20a, h20b⟩ := ck_some h20
  obtain ⟨q19, hq19, hF⟩ := bind_some hF
  refine wpC_cutN (fun a w17 => ∃ (y14 : List Int) (o16 : Tg), q19 = .inl y14 ∧ Fr a 35 [(3, v11)] ∧ Bs oo o16 w w17 ∧ Ow w.heap.size 3 12 o16 w17 v11 y14) (fun _ _ => False) ?_ ?_ ?_
  · refine wpC_block ?_
    refine wpC_loop (fun (K : Nat) a w17 => ∃ (i18 : Int) (y14 : List Int) (o16 : Tg), forN (fI_WalkProblem_closure_s1 fuel p0) ((x8.length : Int) - i18).toNat i18 y14 = some q19 ∧ ((x8.length : Int) - i18).toNat = K ∧ 0 ≤ i18 ∧ Fr a 35 [(1, (.pointer (some ⟨b5, 0, none⟩))), (3, v11), (11, (.int .i64 (x8.length : Int))), (12, (.int .i64 i18))] ∧ Bs oo o16 w w17 ∧ Ow w.heap.size 3 12 o16 w17 v11 y14 ∧ Bx w.heap.size 11 o16 w17 b5 29 [(.int .i64 p0.Labels), v1]) _ (fun a ha => ⟨0, x8, o9, (by rw [Int.sub_zero]; exact hq19), rfl, Int.le_refl 0, ha.sub (r := [(1, (.pointer (some ⟨b5, 0, none⟩))), (3, v11), (11, (.int .i64 (x8.length : Int))), (12, (.int .i64 0))]) ⟨rfl, rfl, rfl, rfl, trivial⟩, hB, h12, h6⟩) ?_
    rintro K25 a w17 ⟨i18, y14, o16, l22, m24, z23, ha, hB, h15, h6⟩
    by_cases t29 : i18 < (x8.length : Int)
    · obtain ⟨q26, b27, n28⟩ := forN_cons t29 l22
      dsimp only [fI_WalkProblem_closure_s1] at b27
      refine wp_of ha ?_
      refine wpC_seq ?_
      refine wpC_region ?_
      refine st_val (ex_lss rfl rfl) (by decide) trivial ?_
      refine wpF_end (r := [(1, (.pointer (some ⟨b5, 0, none⟩))), (3, v11), (11, (.int .i64 (x8.length : Int))), (12, (.int .i64 i18)), (13, (.bool (decide (i18 < (x8.length : Int)))))]) ⟨rfl, rfl, rfl, rfl, rfl, trivial⟩ ?_
      refine nx ?_
      refine wpC_seq ?_
      refine wpC_true (congrArg (fun b => some (Value.bool b)) (decide_eq_true t29)) ?_
      refine wpC_skip ?_
      refine nx ?_
      refine wpC_seq ?_
      refine wpC_block ?_
      refine wpC_seq ?_
      refine wpC_region ?_
      refine st_val (ex_move rfl) (by decide) trivial ?_
      refine st_val (ex_assign rfl) (by decide) trivial ?_
      refine wpF_end (r := [(1, (.pointer (some ⟨b5, 0, none⟩))), (3, v11), (4, (.int .i64 i18)), (11, (.int .i64 (x8.length : Int))), (12, (.int .i64 i18))]) ⟨rfl, rfl, rfl, rfl, rfl, trivial⟩ ?_
      refine nx ?_
      refine wpC_seq ?_
      refine wpC_region ?_
      refine st_val (ex_loadA rfl Try.isAgg29 Try.sizeOf29 rfl h6.cells) (by decide) trivial ?_
      refine st_val (ex_move rfl) (by decide) trivial ?_
      refine st_val (ex_field rfl Try.underlying29 rfl Try.sizeOf3) (by decide) trivial ?_
      refine st_val (ex_load1 rfl Try.isAgg3 (h6.cell rfl)) (by decide) trivial ?_
      obtain ⟨x30, hx30, b27⟩ := bind_some b27
      refine st_op (by decide) trivial ?_
      refine wf_call (cI_WalkProblem_reached fuel w17 o16 13 (by decide) _ p0 (⟨_, rfl, (h2.keep hB.keeps)⟩) i18 p0.Labels x30 hx30) Try.call101 ⟨rfl, rfl, rfl, trivial⟩ ?_
      rintro e37 w31 ⟨v32, o38, rfl, h33, k34, k35⟩
      have s36 := k34.stp' 13 k35
      replace h33 := h33.mono hB.keeps.size
      refine ⟨_, rfl, ?_⟩
      replace h15 := h15.stp s36 (by decide) (by decide)
      replace h6 := h6.stp s36 (by decide)
      replace hB := hB.stp s36 (by decide)
      refine st_val (ex_lenO rfl h33 Try.underlying26) (by decide) trivial ?_
      refine st_val (ex_move rfl) (by decide) trivial ?_
      refine wpF_end (r := [(1, (.pointer (some ⟨b5, 0, none⟩))), (3, v11), (4, (.int .i64 i18)), (11, (.int .i64 (x8.length : Int))), (12, (.int .i64 i18)), (19, v32), (20, (.int .i64 (x30.length : Int))), (21, (.int .i64 0))]) ⟨rfl, rfl, rfl, rfl, rfl, rfl, rfl, rfl, trivial⟩ ?_
      refine nx ?_
      obtain ⟨q44, hq44, b27⟩ := bind_some b27
      refine wpC_cutN (fun a w42 => ∃ (y39 : List Int) (o41 : Tg), q44 = .inl y39 ∧ Fr a 35 [(1, (.pointer (some ⟨b5, 0, none⟩))), (3, v11), (11, (.int .i64 (x8.length : Int))), (12, (.int .i64 i18))] ∧ Bs oo o41 w w42 ∧ Ow w.heap.size 3 12 o41 w42 v11 y39 ∧ Bx w.heap.size 11 o41 w42 b5 29 [(.int .i64 p0.Labels), v1]) (fun _ _ => False) ?_ ?_ ?_
      · refine wpC_block ?_
        refine wpC_loop (fun (K : Nat) a w42 => ∃ (i43 : Int) (y39 : List Int) (o41 : Tg), forI (fI_WalkProblem_closure_s2 i18) (x30.drop i43.toNat) i43 y39 = some q44 ∧ (x30.drop i43.toNat).length = K ∧ 0 ≤ i43 ∧ Fr a 35 [(1, (.pointer (some ⟨b5, 0, none⟩))), (3, v11), (4, (.int .i64 i18)), (11, (.int .i64 (x8.length : Int))), (12, (.int .i64 i18)), (19, v32), (20, (.int .i64 (x30.length : Int))), (21, (.int .i64 i43))] ∧ Bs oo o41 w w42 ∧ Ow w.heap.size 3 12 o41 w42 v11 y39 ∧ Ow w.heap.size 3 13 o41 w42 v32 x30 ∧ Bx w.heap.size 11 o41 w42 b5 29 [(.int .i64 p0.Labels), v1]) _ (fun a ha => ⟨0, y14, o38, hq44, rfl, Int.le_refl 0, ha.sub (r := [(1, (.pointer (some ⟨b5, 0, none⟩))), (3, v11), (4, (.int .i64 i18)), (11, (.int .i64 (x8.length : Int))), (12, (.int .i64 i18)), (19, v32), (20, (.int .i64 (x30.length : Int))), (21, (.int .i64 0))]) ⟨rfl, rfl, rfl, rfl, rfl, rfl, rfl, rfl, trivial⟩, hB, h15, h33, h6⟩) ?_
        rintro K48 a w42 ⟨i43, y39, o41, l45, m47, z46, ha, hB, h40, h33, h6⟩
        by_cases t52 : i43 < (x30.length : Int)
        · obtain ⟨x53, q49, hx53, b50, n51⟩ := forI_cons z46 t52 l45
          have hle := h33.len_le
          dsimp only [fI_WalkProblem_closure_s2] at b50
          refine wp_of ha ?_
          refine wpC_seq ?_
          refine wpC_region ?_
          refine st_val (ex_lss rfl rfl) (by decide) trivial ?_
          refine wpF_end (r := [(1, (.pointer (some ⟨b5, 0, none⟩))), (3, v11), (4, (.int .i64 i18)), (11, (.int .i64 (x8.length : Int))), (12, (.int .i64 i18)), (19, v32), (20, (.int .i64 (x30.length : Int))), (21, (.int .i64 i43)), (22, (.bool (decide (i43 < (x30.length : Int)))))]) ⟨rfl, rfl, rfl, rfl, rfl, rfl, rfl, rfl, rfl, trivial⟩ ?_
          refine nx ?_
          refine wpC_seq ?_
          refine wpC_true (congrArg (fun b => some (Value.bool b)) (decide_eq_true t52)) ?_
          refine wpC_skip ?_
          refine nx ?_
          refine wpC_seq ?_
          refine wpC_block ?_
          refine wpC_seq ?_
          refine wpC_region ?_
          refine st_op (by decide) trivial ?_
          refine wf_atW h33 hx53 rfl rfl Try.underlying26 Try.sizeOf3 ?_
          intro b54 f55 c56 h57 h58
          cases h58
          refine st_val (ex_load1 rfl Try.isAgg3 (cell_of_cells h57)) (by decide) trivial ?_
          refine st_val (ex_assign rfl) (by decide) trivial ?_
          refine wpF_end (r := [(1, (.pointer (some ⟨b5, 0, none⟩))), (3, v11), (4, (.int .i64 i18)), (6, (.int .i64 x53)), (11, (.int .i64 (x8.length : Int))), (12, (.int .i64 i18)), (19, v32), (20, (.int .i64 (x30.length : Int))), (21, (.int .i64 i43))]) ⟨rfl, rfl, rfl, rfl, rfl, rfl, rfl, rfl, rfl, trivial⟩ ?_
          refine nx ?_
          refine wpC_region ?_
          refine st_val (ex_move rfl) (by decide) trivial ?_
          refine st_val (ex_move rfl) (by decide) trivial ?_
          obtain ⟨x59, hx59, b50⟩ := bind_some b50
          refine st_op (by decide) trivial ?_
          refine wf_atW h40 hx59 rfl rfl Try.underlying26 Try.sizeOf3 ?_
          intro b60 f61 c62 h63 h64
          cases h64
          refine st_val (ex_load1 rfl Try.isAgg3 (cell_of_cells h63)) (by decide) trivial ?_
          refine st_val (ex_move rfl) (by decide) trivial ?_
          refine st_val (ex_or rfl rfl) (by decide) trivial ?_
          obtain ⟨x65, hx65, b50⟩ := bind_some b50
          refine st_op (by decide) trivial ?_
          refine wf_atP h40 hx65 rfl rfl Try.underlying26 Try.sizeOf3 ?_
          intro b66 c68 h71 h69 h70
          cases h70
          obtain ⟨x74, hx74, b50⟩ := bind_some b50
          refine st_op0 trivial ?_
          refine wf_storeW h40 h71 hx74 rfl (by decide) rfl rfl rfl Try.sizeOf3 rfl ?_
          intro w72 h75 s73
          replace h33 := h33.stp s73 (by decide) (by decide)
          replace h6 := h6.stp s73 (by decide)
          replace hB := hB.stp s73 (by decide)
          refine wpF_end (r := [(1, (.pointer (some ⟨b5, 0, none⟩))), (3, v11), (4, (.int .i64 i18)), (11, (.int .i64 (x8.length : Int))), (12, (.int .i64 i18)), (19, v32), (20, (.int .i64 (x30.length : Int))), (21, (.int .i64 i43))]) ⟨rfl, rfl, rfl, rfl, rfl, rfl, rfl, rfl, trivial⟩ ?_
          refine nb_norm ?_
          refine nx ?_
          refine wpC_region ?_
          refine st_val (ex_add rfl rfl (ck_in (by omega) (by omega))) (by decide) trivial ?_
          refine st_val (ex_move rfl) (by decide) trivial ?_
          refine wpF_end (r := [(1, (.pointer (some ⟨b5, 0, none⟩))), (3, v11), (4, (.int .i64 i18)), (11, (.int .i64 (x8.length : Int))), (12, (.int .i64 i18)), (19, v32), (20, (.int .i64 (x30.length : Int))), (21, (.int .i64 (i43 + 1)))]) ⟨rfl, rfl, rfl, rfl, rfl, rfl, rfl, rfl, trivial⟩ ?_
          refine nt_norm ?_
          have e76 := Option.some.inj b50
          subst e76
          refine to_k (r := [(1, (.pointer (some ⟨b5, 0, none⟩))), (3, v11), (4, (.int .i64 i18)), (11, (.int .i64 (x8.length : Int))), (12, (.int .i64 i18)), (19, v32), (20, (.int .i64 (x30.length : Int))), (21, (.int .i64 (i43 + 1)))]) ⟨rfl, rfl, rfl, rfl, rfl, rfl, rfl, rfl, trivial⟩ ?_
          intro a ha
          exact ⟨_, (by rw [← m47]; simp only [List.length_drop]; omega), i43 + 1, x74, o41, n51, rfl, (by omega), ha, hB, h75, h33, h6⟩
        · have r77 := forI_done t52 l45
          refine wp_of ha ?_
          refine wpC_seq ?_
          refine wpC_region ?_
          refine st_val (ex_lss rfl rfl) (by decide) trivial ?_
          refine wpF_end (r := [(1, (.pointer (some ⟨b5, 0, none⟩))), (3, v11), (4, (.int .i64 i18)), (11, (.int .i64 (x8.length : Int))), (12, (.int .i64 i18)), (19, v32), (20, (.int .i64 (x30.length : Int))), (21, (.int .i64 i43)), (22, (.bool (decide (i43 < (x30.length : Int)))))]) ⟨rfl, rfl, rfl, rfl, rfl, rfl, rfl, rfl, rfl, trivial⟩ ?_
          refine nx ?_
          refine wpC_seq ?_
          refine wpC_false (congrArg (fun b => some (Value.bool b)) (decide_eq_false t52)) ?_
          refine wpC_exit ?_
          refine nt_exit ?_
          refine nt_exit ?_
          refine nb_hit ?_
          refine np_norm ?_
          refine to_k (r := [(1, (.pointer (some ⟨b5, 0, none⟩))), (3, v11), (11, (.int .i64 (x8.length : Int))), (12, (.int .i64 i18))]) ⟨rfl, rfl, rfl, rfl, trivial⟩ ?_
          intro a ha
          exact ⟨y39, o41, r77, ha, hB, h40, h6⟩
      · rintro a w42 ⟨y39, o41, rfl, ha, hB, h40, h6⟩
        dsimp only at b27
        refine ap_k ha ?_
        refine nb_norm ?_
        refine nx ?_
        refine wpC_region ?_
        refine st_val (ex_add rfl rfl (ck_in (by omega) (by omega))) (by decide) trivial ?_
        refine st_val (ex_move rfl) (by decide) trivial ?_
        refine wpF_end (r := [(1, (.pointer (some ⟨b5, 0, none⟩))), (3, v11), (11, (.int .i64 (x8.length : Int))), (12, (.int .i64 (i18 + 1)))]) ⟨rfl, rfl, rfl, rfl, trivial⟩ ?_
        refine nt_norm ?_
        have e78 := Option.some.inj b27
        subst e78
        refine to_k (r := [(1, (.pointer (some ⟨b5, 0, none⟩))), (3, v11), (11, (.int .i64 (x8.length : Int))), (12, (.int .i64 (i18 + 1)))]) ⟨rfl, rfl, rfl, rfl, trivial⟩ ?_
        intro a ha
        exact ⟨_, (by rw [← m24]; omega), i18 + 1, y39, o41, n28, rfl, (by omega), ha, hB, h40, h6⟩
      · exact fun _ _ h => h.elim
    · have r79 := forN_done t29 l22
      refine wp_of ha ?_
      refine wpC_seq ?_
      refine wpC_region ?_
      refine st_val (ex_lss rfl rfl) (by decide) trivial ?_
      refine wpF_end (r := [(1, (.pointer (some ⟨b5, 0, none⟩))), (3, v11), (11, (.int .i64 (x8.length : Int))), (12, (.int .i64 i18)), (13, (.bool (decide (i18 < (x8.length : Int)))))]) ⟨rfl, rfl, rfl, rfl, rfl, trivial⟩ ?_
      refine nx ?_
      refine wpC_seq ?_
      refine wpC_false (congrArg (fun b => some (Value.bool b)) (decide_eq_false t29)) ?_
      refine wpC_exit ?_
      refine nt_exit ?_
      refine nt_exit ?_
      refine nb_hit ?_
      refine np_norm ?_
      refine to_k (r := [(3, v11)]) ⟨rfl, trivial⟩ ?_
      intro a ha
      exact ⟨y14, o16, r79, ha, hB, h15⟩
  · rintro a w17 ⟨y14, o16, rfl, ha, hB, h15⟩
    dsimp only at hF
    refine ap_k ha ?_
    refine nx ?_
    refine wpC_seq ?_
    refine wpC_region ?_
    refine st_val (ex_move rfl) (by decide) trivial ?_
    refine st_val (ex_assign rfl) (by decide) trivial ?_
    refine wpF_end (r := [(2, v11)]) ⟨rfl, trivial⟩ ?_
    refine nx ?_
    refine wpC_ret ?_
    have e80 := Option.some.inj hF
    subst e80
    refine ret_post (P := Try.prog) (vs := [v11]) Try.results79 ⟨rfl, trivial⟩ ?_
    exact ⟨_, rt oo o16 w.heap.size 12 t, rfl, h15.rt hB (by decide) t, hB.keeps, rt_old _ _ _ _ _⟩
  · exact fun _ _ h => h.elim

def fI_WalkProblem_distancesIn_s2 (i36 : Int) : Int → Int → (List Int) → Option (Lp (List Int) (List Int) (List Int)) := fun (i65 : Int) (x75 : Int) (s : List Int) =>
  (ix s x75) >>= fun x81 =>
  if decide (x81 < 0) then
    (ix s x75) >>= fun x88 =>
    (st s x75 i36) >>= fun x97 =>
    some (.go x97)
  else
    some (.go s)
def fI_WalkProblem_distancesIn_s1 (fuel : Nat) : Int → Int → (List Int) → Option (Lp (List Int) (List Int) (List Int)) := fun (i36 : Int) (x46 : Int) (s : List Int) =>
  (fI_labelsIn fuel x46) >>= fun x52 =>
  (forI (fI_WalkProblem_distancesIn_s2 i36) x52 0 s) >>= fun q66 =>
  match q66 with
  | .inl y61 =>
    some (.go y61)
  | .inr _ => none
def fI_WalkProblem_distancesIn (fuel : Nat) (p0 : T_WalkProblem) (p1 : Int) : Option (List Int) :=
  (repO ([(-1)] : List Int) p0.Labels) >>= fun x20 =>
  (fI_WalkProblem_reached fuel p0 p1 p0.Labels) >>= fun x23 =>
  (forI (fI_WalkProblem_distancesIn_s1 fuel) x23 0 x20) >>= fun q37 =>
  match q37 with
  | .inl y32 =>
    some y32
  | .inr _ => none

def pI_WalkProblem_distancesIn (oo : Tg) (t : Nat) (w : World) (r : List Int) : Ending → World → Prop := fun e w' => ∃ (v0 : Value) (o' : Tg), e = .returned (v0) ∧ Ow w.heap.size 3 t o' w' v0 r ∧ Keeps w w' ∧ ∀ b, b < w.heap.size → o' b = oo b
set_option maxRecDepth 100000 in
set_option maxHeartbeats 2000000 in
theorem cI_WalkProblem_distancesIn (fuel : Nat) (w : World) (oo : Tg) (t : Nat) (ht : 2 ≤ t) (u0 : List Value) (p0 : T_WalkProblem) (g0 : Rp.rd zt w u0 p0) (p1 : Int) (r : List Int) (hF : fI_WalkProblem_distancesIn fuel p0 p1 = some r) :
    Calls Try.prog 108 #[.agg u0.toArray, .int .i64 p1] w (pI_WalkProblem_distancesIn oo t w r) := by
  unfold fI_WalkProblem_distancesIn at hF
  obtain ⟨v1, rfl, h2⟩ := g0
  have hB : Bs oo (col oo) w w := Bs.start _ _
  refine calls_start (n := 44) (vs := [(.agg #[(.int .i64 p0.Labels), v1]), (.int .i64 p1)]) Try.func108 rfl rfl ?_
  generalize col oo = o at *
  refine wpC_seq ?_
  refine wpC_region ?_
  refine st_op (by decide) trivial ?_
  refine wf_box (o := o) w.heap.size 11 hB.keeps.size (cs := [(.int .i64 p0.Labels), v1]) rfl rfl ?_
  intro o3 w4 b5 h6 s7
  replace hB := hB.stp s7 (by decide)
  refine st_val (ex_assign rfl) (by decide) trivial ?_
  refine wpF_end (r := [(1, (.int .i64 p1)), (2, (.pointer (some ⟨b5, 0, none⟩)))]) ⟨rfl, rfl, trivial⟩ ?_
  refine nx ?_
  refine wpC_seq ?_
  refine wpC_region ?_
  refine st_op (by decide) trivial ?_
  refine wf_litR (o := o3) (cs := [(.int .i64 (-1))]) (xs := ([(-1)] : List Int)) (vs := [(0, (.int .i64 (-1)))]) ⟨_, _, rfl, rfl, rfl⟩ rfl ⟨rfl, rfl, trivial⟩ Try.underlying26 Try.sizeOf3 Try.zeroValue3 (by decide) (fill1 rfl) (by simp) ?_
  intro o8 w9 v10 h11 s12 k13
  replace h6 := h6.stp s12 (by decide)
  replace hB := hB.stp s12 (by decide)
  refine st_val (ex_field rfl Try.underlying29 rfl Try.sizeOf3) (by decide) trivial ?_
  refine st_val (ex_load1 rfl Try.isAgg3 (h6.cell rfl)) (by decide) trivial ?_
  obtain ⟨x20, hx20, hF⟩ := bind_some hF
  refine st_op (by decide) trivial ?_
  refine wf_call (cX_Repeat w9 o8 12 v10 ([(-1)] : List Int) h11.z p0.Labels x20 hx20) Try.call48 ⟨rfl, rfl, trivial⟩ ?_
  rintro e15 w14 ⟨v21, o19, rfl, h22, k16, k17⟩
  have s18 := k16.stp' 12 k17
  replace h22 := h22.mono hB.keeps.size
  refine ⟨_, rfl, ?_⟩
  replace h11 := h11.stp s18 (by decide)
  replace h6 := h6.stp s18 (by decide)
  replace hB := hB.stp s18 (by decide)
  refine st_val (ex_assign rfl) (by decide) trivial ?_
  refine wpF_end (r := [(1, (.int .i64 p1)), (2, (.pointer (some ⟨b5, 0, none⟩))), (5, v21)]) ⟨rfl, rfl, rfl, trivial⟩ ?_
  refine nx ?_
  refine wpC_seq ?_
  refine wpC_seq ?_
  refine wpC_region ?_
  refine st_val (ex_loadA rfl Try.isAgg29 Try.sizeOf29 rfl h6.cells) (by decide) trivial ?_
  refine st_val (ex_move rfl) (by decide) trivial ?_
  refine st_val (ex_field rfl Try.underlying29 rfl Try.sizeOf3) (by decide) trivial ?_
  refine st_val (ex_load1 rfl Try.isAgg3 (h6.cell rfl)) (by decide) trivial ?_
  obtain ⟨x23, hx23, hF⟩ := bind_some hF
  refine st_op (by decide) trivial ?_
  refine wf_call (cI_WalkProblem_reached fuel w14 o19 13 (by decide) _ p0 (⟨_, rfl, (h2.keep hB.keeps)⟩) p1 p0.Labels x23 hx23) Try.call101 ⟨rfl, rfl, rfl, trivial⟩ ?_
  rintro e30 w24 ⟨v25, o31, rfl, h26, k27, k28⟩
  have s29 := k27.stp' 13 k28
  replace h26 := h26.mono hB.keeps.size
  refine ⟨_, rfl, ?_⟩
  replace h22 := h22.stp s29 (by decide) (by decide)
  replace h6 := h6.stp s29 (by decide)
  replace hB := hB.stp s29 (by decide)
  refine st_val (ex_lenO rfl h26 Try.underlying26) (by decide) trivial ?_
  refine st_val (ex_move rfl) (by decide) trivial ?_
  refine wpF_end (r := [(5, v21), (18, v25), (19, (.int .i64 (x23.length : Int))), (20, (.int .i64 0))]) ⟨rfl, rfl, rfl, rfl, trivial⟩ ?_
  refine nx ?_
  obtain ⟨q37, hq37, hF⟩ := bind_some hF
  refine wpC_cutN (fun a w35 => ∃ (y32 : List Int) (o34 : Tg), q37 = .inl y32 ∧ Fr a 44 [(5, v21)] ∧ Bs oo o34 w w35 ∧ Ow w.heap.size 3 12 o34 w35 v21 y32) (fun _ _ => False) ?_ ?_ ?_
  · refine wpC_block ?_
    refine wpC_loop (fun (K : Nat) a w35 => ∃ (i36 : Int) (y32 : List Int) (o34 : Tg), forI (fI_WalkProblem_distancesIn_s1 fuel) (x23.drop i36.toNat) i36 y32 = some q37 ∧ (x23.drop i36.toNat).length = K ∧ 0 ≤ i36 ∧ Fr a 44 [(5, v21), (18, v25), (19, (.int .i64 (x23.length : Int))), (20, (.int .i64 i36))] ∧ Bs oo o34 w w35 ∧ Ow w.heap.size 3 12 o34 w35 v21 y32 ∧ Ow w.heap.size 3 13 o34 w35 v25 x23) _ (fun a ha => ⟨0, x20, o31, hq37, rfl, Int.le_refl 0, ha.sub (r := [(5, v21), (18, v25), (19, (.int .i64 (x23.length : Int))), (20, (.int .i64 0))]) ⟨rfl, rfl, rfl, rfl, trivial⟩, hB, h22, h26⟩) ?_
    rintro K41 a w35 ⟨i36, y32, o34, l38, m40, z39, ha, hB, h33, h26⟩
    by_cases t45 : i36 < (x23.length : Int)
    · obtain ⟨x46, q42, hx46, b43, n44⟩ := forI_cons z39 t45 l38
      have hle := h26.len_le
      dsimp only [fI_WalkProblem_distancesIn_s1] at b43
      refine wp_of ha ?_
      refine wpC_seq ?_
      refine wpC_region ?_
      refine st_val (ex_lss rfl rfl) (by decide) trivial ?_
      refine wpF_end (r := [(5, v21), (18, v25), (19, (.int .i64 (x23.length : Int))), (20, (.int .i64 i36)), (21, (.bool (decide (i36 < (x23.length : Int)))))]) ⟨rfl, rfl, rfl, rfl, rfl, trivial⟩ ?_
      refine nx ?_
      refine wpC_seq ?_
      refine wpC_true (congrArg (fun b => some (Value.bool b)) (decide_eq_true t45)) ?_
      refine wpC_skip ?_
      refine nx ?_
      refine wpC_seq ?_
      refine wpC_block ?_
      refine wpC_seq ?_
      refine wpC_region ?_
      refine st_val (ex_move rfl) (by decide) trivial ?_
      refine st_op (by decide) trivial ?_
      refine wf_atW h26 hx46 rfl rfl Try.underlying26 Try.sizeOf3 ?_
      intro b47 f48 c49 h50 h51
      cases h51
      refine st_val (ex_load1 rfl Try.isAgg3 (cell_of_cells h50)) (by decide) trivial ?_
      refine st_val (ex_assign rfl) (by decide) trivial ?_
      refine st_val (ex_assign rfl) (by decide) trivial ?_
      refine wpF_end (r := [(5, v21), (6, (.int .i64 i36)), (7, (.int .i64 x46)), (18, v25), (19, (.int .i64 (x23.length : Int))), (20, (.int .i64 i36))]) ⟨rfl, rfl, rfl, rfl, rfl, rfl, trivial⟩ ?_
      refine nx ?_
      refine wpC_seq ?_
      refine wpC_region ?_
      refine st_val (ex_move rfl) (by decide) trivial ?_
      obtain ⟨x52, hx52, b43⟩ := bind_some b43
      refine st_op (by decide) trivial ?_
      refine wf_call (cI_labelsIn fuel w35 o34 14 (by decide) x46 x52 hx52) Try.call60 ⟨rfl, trivial⟩ ?_
      rintro e59 w53 ⟨v54, o60, rfl, h55, k56, k57⟩
      have s58 := k56.stp' 14 k57
      replace h55 := h55.mono hB.keeps.size
      refine ⟨_, rfl, ?_⟩
      replace h33 := h33.stp s58 (by decide) (by decide)
      replace h26 := h26.stp s58 (by decide) (by decide)
      replace hB := hB.stp s58 (by decide)
      refine st_val (ex_lenO rfl h55 Try.underlying26) (by decide) trivial ?_
      refine st_val (ex_move rfl) (by decide) trivial ?_
      refine wpF_end (r := [(5, v21), (6, (.int .i64 i36)), (18, v25), (19, (.int .i64 (x23.length : Int))), (20, (.int .i64 i36)), (26, v54), (27, (.int .i64 (x52.length : Int))), (28, (.int .i64 0))]) ⟨rfl, rfl, rfl, rfl, rfl, rfl, rfl, rfl, trivial⟩ ?_
      refine nx ?_
      obtain ⟨q66, hq66, b43⟩ := bind_some b43
      refine wpC_cutN (fun a w64 => ∃ (y61 : List Int) (o63 : Tg), q66 = .inl y61 ∧ Fr a 44 [(5, v21), (18, v25), (19, (.int .i64 (x23.length : Int))), (20, (.int .i64 i36))] ∧ Bs oo o63 w w64 ∧ Ow w.heap.size 3 12 o63 w64 v21 y61 ∧ Ow w.heap.size 3 13 o63 w64 v25 x23) (fun _ _ => False) ?_ ?_ ?_
      · refine wpC_block ?_
        refine wpC_loop (fun (K : Nat) a w64 => ∃ (i65 : Int) (y61 : List Int) (o63 : Tg), forI (fI_WalkProblem_distancesIn_s2 i36) (x52.drop i65.toNat) i65 y61 = some q66 ∧ (x52.drop i65.toNat).length = K ∧ 0 ≤ i65 ∧ Fr a 44 [(5, v21), (6, (.int .i64 i36)), (18, v25), (19, (.int .i64 (x23.length : Int))), (20, (.int .i64 i36)), (26, v54), (27, (.int .i64 (x52.length : Int))), (28, (.int .i64 i65))] ∧ Bs oo o63 w w64 ∧ Ow w.heap.size 3 12 o63 w64 v21 y61 ∧ Ow w.heap.size 3 13 o63 w64 v25 x23 ∧ Ow w.heap.size 3 14 o63 w64 v54 x52) _ (fun a ha => ⟨0, y32, o60, hq66, rfl, Int.le_refl 0, ha.sub (r := [(5, v21), (6, (.int .i64 i36)), (18, v25), (19, (.int .i64 (x23.length : Int))), (20, (.int .i64 i36)), (26, v54), (27, (.int .i64 (x52.length : Int))), (28, (.int .i64 0))]) ⟨rfl, rfl, rfl, rfl, rfl, rfl, rfl, rfl, trivial⟩, hB, h33, h26, h55⟩) ?_
        rintro K70 a w64 ⟨i65, y61, o63, l67, m69, z68, ha, hB, h62, h26, h55⟩
        by_cases t74 : i65 < (x52.length : Int)
        · obtain ⟨x75, q71, hx75, b72, n73⟩ := forI_cons z68 t74 l67
          have hle := h55.len_le
          dsimp only [fI_WalkProblem_distancesIn_s2] at b72
          refine wp_of ha ?_
          refine wpC_seq ?_
          refine wpC_region ?_
          refine st_val (ex_lss rfl rfl) (by decide) trivial ?_
          refine wpF_end (r := [(5, v21), (6, (.int .i64 i36)), (18, v25), (19, (.int .i64 (x23.length : Int))), (20, (.int .i64 i36)), (26, v54), (27, (.int .i64 (x52.length : Int))), (28, (.int .i64 i65)), (29, (.bool (decide (i65 < (x52.length : Int)))))]) ⟨rfl, rfl, rfl, rfl, rfl, rfl, rfl, rfl, rfl, trivial⟩ ?_
          refine nx ?_
          refine wpC_seq ?_
          refine wpC_true (congrArg (fun b => some (Value.bool b)) (decide_eq_true t74)) ?_
          refine wpC_skip ?_
          refine nx ?_
          refine wpC_seq ?_
          refine wpC_block ?_
          refine wpC_seq ?_
          refine wpC_region ?_
          refine st_op (by decide) trivial ?_
          refine wf_atW h55 hx75 rfl rfl Try.underlying26 Try.sizeOf3 ?_
          intro b76 f77 c78 h79 h80
          cases h80
          refine st_val (ex_load1 rfl Try.isAgg3 (cell_of_cells h79)) (by decide) trivial ?_
          refine st_val (ex_assign rfl) (by decide) trivial ?_
          refine wpF_end (r := [(5, v21), (6, (.int .i64 i36)), (9, (.int .i64 x75)), (18, v25), (19, (.int .i64 (x23.length : Int))), (20, (.int .i64 i36)), (26, v54), (27, (.int .i64 (x52.length : Int))), (28, (.int .i64 i65))]) ⟨rfl, rfl, rfl, rfl, rfl, rfl, rfl, rfl, rfl, trivial⟩ ?_
          refine nx ?_
          refine wpC_seq ?_
          refine wpC_region ?_
          refine st_val (ex_move rfl) (by decide) trivial ?_
          refine st_val (ex_move rfl) (by decide) trivial ?_
          obtain ⟨x81, hx81, b72⟩ := bind_some b72
          refine st_op (by decide) trivial ?_
          refine wf_atW h62 hx81 rfl rfl Try.underlying26 Try.sizeOf3 ?_
          intro b82 f83 c84 h85 h86
          cases h86
          refine st_val (ex_load1 rfl Try.isAgg3 (cell_of_cells h85)) (by decide) trivial ?_
          refine st_val (ex_lss rfl rfl) (by decide) trivial ?_
          refine wpF_end (r := [(5, v21), (6, (.int .i64 i36)), (9, (.int .i64 x75)), (18, v25), (19, (.int .i64 (x23.length : Int))), (20, (.int .i64 i36)), (26, v54), (27, (.int .i64 (x52.length : Int))), (28, (.int .i64 i65)), (36, (.bool (decide (x81 < 0))))]) ⟨rfl, rfl, rfl, rfl, rfl, rfl, rfl, rfl, rfl, rfl, trivial⟩ ?_
          refine nx ?_
          refine wpC_cond rfl (fun t87 => ?_) (fun t87 => ?_)
          · rw [if_pos t87] at b72
            refine wpC_region ?_
            refine st_val (ex_move rfl) (by decide) trivial ?_
            refine st_val (ex_move rfl) (by decide) trivial ?_
            refine st_val (ex_move rfl) (by decide) trivial ?_
            obtain ⟨x88, hx88, b72⟩ := bind_some b72
            refine st_op (by decide) trivial ?_
            refine wf_atP h62 hx88 rfl rfl Try.underlying26 Try.sizeOf3 ?_
            intro b89 c91 h94 h92 h93
            cases h93
            obtain ⟨x97, hx97, b72⟩ := bind_some b72
            refine st_op0 trivial ?_
            refine wf_storeW h62 h94 hx97 rfl (by decide) rfl rfl rfl Try.sizeOf3 rfl ?_
            intro w95 h98 s96
            replace h26 := h26.stp s96 (by decide) (by decide)
            replace h55 := h55.stp s96 (by decide) (by decide)
            replace hB := hB.stp s96 (by decide)
            refine wpF_end (r := [(5, v21), (6, (.int .i64 i36)), (18, v25), (19, (.int .i64 (x23.length : Int))), (20, (.int .i64 i36)), (26, v54), (27, (.int .i64 (x52.length : Int))), (28, (.int .i64 i65))]) ⟨rfl, rfl, rfl, rfl, rfl, rfl, rfl, rfl, trivial⟩ ?_
            refine nb_norm ?_
            refine nx ?_
            refine wpC_region ?_
            refine st_val (ex_add rfl rfl (ck_in (by omega) (by omega))) (by decide) trivial ?_
            refine st_val (ex_move rfl) (by decide) trivial ?_
            refine wpF_end (r := [(5, v21), (6, (.int .i64 i36)), (18, v25), (19, (.int .i64 (x23.length : Int))), (20, (.int .i64 i36)), (26, v54), (27, (.int .i64 (x52.length : Int))), (28, (.int .i64 (i65 + 1)))]) ⟨rfl, rfl, rfl, rfl, rfl, rfl, rfl, rfl, trivial⟩ ?_
            refine nt_norm ?_
            have e99 := Option.some.inj b72
            subst e99
            refine to_k (r := [(5, v21), (6, (.int .i64 i36)), (18, v25), (19, (.int .i64 (x23.length : Int))), (20, (.int .i64 i36)), (26, v54), (27, (.int .i64 (x52.length : Int))), (28, (.int .i64 (i65 + 1)))]) ⟨rfl, rfl, rfl, rfl, rfl, rfl, rfl, rfl, trivial⟩ ?_
            intro a ha
            exact ⟨_, (by rw [← m69]; simp only [List.length_drop]; omega), i65 + 1, x97, o63, n73, rfl, (by omega), ha, hB, h98, h26, h55⟩
          · rw [if_neg (by rw [t87]; decide)] at b72
            refine wpC_skip ?_
            refine nb_norm ?_
            refine nx ?_
            refine wpC_region ?_
            refine st_val (ex_add rfl rfl (ck_in (by omega) (by omega))) (by decide) trivial ?_
            refine st_val (ex_move rfl) (by decide) trivial ?_
            refine wpF_end (r := [(5, v21), (6, (.int .i64 i36)), (18, v25), (19, (.int .i64 (x23.length : Int))), (20, (.int .i64 i36)), (26, v54), (27, (.int .i64 (x52.length : Int))), (28, (.int .i64 (i65 + 1)))]) ⟨rfl, rfl, rfl, rfl, rfl, rfl, rfl, rfl, trivial⟩ ?_
            refine nt_norm ?_
            have e100 := Option.some.inj b72
            subst e100
            refine to_k (r := [(5, v21), (6, (.int .i64 i36)), (18, v25), (19, (.int .i64 (x23.length : Int))), (20, (.int .i64 i36)), (26, v54), (27, (.int .i64 (x52.length : Int))), (28, (.int .i64 (i65 + 1)))]) ⟨rfl, rfl, rfl, rfl, rfl, rfl, rfl, rfl, trivial⟩ ?_
            intro a ha
            exact ⟨_, (by rw [← m69]; simp only [List.length_drop]; omega), i65 + 1, y61, o63, n73, rfl, (by omega), ha, hB, h62, h26, h55⟩
        · have r101 := forI_done t74 l67
          refine wp_of ha ?_
          refine wpC_seq ?_
          refine wpC_region ?_
          refine st_val (ex_lss rfl rfl) (by decide) trivial ?_
          refine wpF_end (r := [(5, v21), (6, (.int .i64 i36)), (18, v25), (19, (.int .i64 (x23.length : Int))), (20, (.int .i64 i36)), (26, v54), (27, (.int .i64 (x52.length : Int))), (28, (.int .i64 i65)), (29, (.bool (decide (i65 < (x52.length : Int)))))]) ⟨rfl, rfl, rfl, rfl, rfl, rfl, rfl, rfl, rfl, trivial⟩ ?_
          refine nx ?_
          refine wpC_seq ?_
          refine wpC_false (congrArg (fun b => some (Value.bool b)) (decide_eq_false t74)) ?_
          refine wpC_exit ?_
          refine nt_exit ?_
          refine nt_exit ?_
          refine nb_hit ?_
          refine np_norm ?_
          refine to_k (r := [(5, v21), (18, v25), (19, (.int .i64 (x23.length : Int))), (20, (.int .i64 i36))]) ⟨rfl, rfl, rfl, rfl, trivial⟩ ?_
          intro a ha
          exact ⟨y61, o63, r101, ha, hB, h62, h26⟩
      · rintro a w64 ⟨y61, o63, rfl, ha, hB, h62, h26⟩
        dsimp only at b43
        refine ap_k ha ?_
        refine nb_norm ?_
        refine nx ?_
        refine wpC_region ?_
        refine st_val (ex_add rfl rfl (ck_in (by omega) (by omega))) (by decide) trivial ?_
        refine st_val (ex_move rfl) (by decide) trivial ?_
        refine wpF_end (r := [(5, v21), (18, v25), (19, (.int .i64 (x23.length : Int))), (20, (.int .i64 (i36 + 1)))]) ⟨rfl, rfl, rfl, rfl, trivial⟩ ?_
        refine nt_norm ?_
        have e102 := Option.some.inj b43
        subst e102
        refine to_k (r := [(5, v21), (18, v25), (19, (.int .i64 (x23.length : Int))), (20, (.int .i64 (i36 + 1)))]) ⟨rfl, rfl, rfl, rfl, trivial⟩ ?_
        intro a ha
        exact ⟨_, (by rw [← m40]; simp only [List.length_drop]; omega), i36 + 1, y61, o63, n44, rfl, (by omega), ha, hB, h62, h26⟩
      · exact fun _ _ h => h.elim
    · have r103 := forI_done t45 l38
      refine wp_of ha ?_
      refine wpC_seq ?_
      refine wpC_region ?_
      refine st_val (ex_lss rfl rfl) (by decide) trivial ?_
      refine wpF_end (r := [(5, v21), (18, v25), (19, (.int .i64 (x23.length : Int))), (20, (.int .i64 i36)), (21, (.bool (decide (i36 < (x23.length : Int)))))]) ⟨rfl, rfl, rfl, rfl, rfl, trivial⟩ ?_
      refine nx ?_
      refine wpC_seq ?_
      refine wpC_false (congrArg (fun b => some (Value.bool b)) (decide_eq_false t45)) ?_
      refine wpC_exit ?_
      refine nt_exit ?_
      refine nt_exit ?_
      refine nb_hit ?_
      refine np_norm ?_
      refine to_k (r := [(5, v21)]) ⟨rfl, trivial⟩ ?_
      intro a ha
      exact ⟨y32, o34, r103, ha, hB, h33⟩
  · rintro a w35 ⟨y32, o34, rfl, ha, hB, h33⟩
    dsimp only at hF
    refine ap_k ha ?_
    refine nx ?_
    refine wpC_seq ?_
    refine wpC_region ?_
    refine st_val (ex_move rfl) (by decide) trivial ?_
    refine st_val (ex_assign rfl) (by decide) trivial ?_
    refine wpF_end (r := [(4, v21)]) ⟨rfl, trivial⟩ ?_
    refine nx ?_
    refine wpC_ret ?_
    have e104 := Option.some.inj hF
    subst e104
    refine ret_post (P := Try.prog) (vs := [v21]) Try.results108 ⟨rfl, trivial⟩ ?_
    exact ⟨_, rt oo o34 w.heap.size 12 t, rfl, h33.rt hB (by decide) t, hB.keeps, rt_old _ _ _ _ _⟩
  · exact fun _ _ h => h.elim

def fI_WalkProblem_periodOf_s1 (p1 : List Int) (x35 : List Int) : Int → (List Int) → Int → Option (Lp Int Int Int) := fun (i47 : Int) (x57 : List Int) (s : Int) =>
  (ix x57 0) >>= fun x65 =>
  (fX_slices_Contains_int_int p1 x65) >>= fun x71 =>
  (
    if x71 then
      (ix x57 1) >>= fun x81 =>
      (fX_slices_Contains_int_int p1 x81) >>= fun x87 =>
      some x87
    else
      some false) >>= fun q77 =>
  if q77 then
    (ix x57 0) >>= fun x97 =>
    (ix x35 x97) >>= fun x100 =>
    (ck (x100 + 1)) >>= fun x103 =>
    (ix x57 1) >>= fun x104 =>
    (ix x35 x104) >>= fun x107 =>
    (ck (x103 - x107)) >>= fun x185 =>
    (ck (-x185)) >>= fun x186 =>
    (fI_gcd ([s, max x185 (-x185)] : List Int)) >>= fun x193 =>
    some (.go x193)
  else
    some (.go s)
def fI_WalkProblem_periodOf (fuel : Nat) (p0 : T_WalkProblem) (p1 : List Int) : Option Int :=
  (ix p1 0) >>= fun x8 =>
  (fI_WalkProblem_distancesIn fuel p0 x8) >>= fun x35 =>
  (forI (fI_WalkProblem_periodOf_s1 p1 x35) p0.Arcs 0 0) >>= fun q48 =>
  match q48 with
  | .inl y44 =>
    some y44
  | .inr _ => none

def pI_WalkProblem_periodOf (w : World) (r : Int) : Ending → World → Prop := fun e w' => e = .returned (.int .i64 r) ∧ Keeps w w'
set_option maxRecDepth 100000 in
set_option maxHeartbeats 2000000 in
theorem cI_WalkProblem_periodOf (fuel : Nat) (w : World) (u0 : List Value) (p0 : T_WalkProblem) (g0 : Rp.rd zt w u0 p0) (u1 : Value) (p1 : List Int) (g1 : RdL zt w u1 p1) (r : Int) (hF : fI_WalkProblem_periodOf fuel p0 p1 = some r) :
    Calls Try.prog 82 #[.agg u0.toArray, u1] w (pI_WalkProblem_periodOf w r) := by
  unfold fI_WalkProblem_periodOf at hF
  obtain ⟨v1, rfl, h2⟩ := g0
  have hB : Bs (fun _ => 1) (col (fun _ => 1)) w w := Bs.start _ _
  refine calls_start (n := 57) (vs := [(.agg #[(.int .i64 p0.Labels), v1]), u1]) Try.func82 rfl rfl ?_
  refine wpC_seq ?_
  refine wpC_region ?_
  refine st_op (by decide) trivial ?_
  refine wf_box (o := (col (fun _ => 1))) w.heap.size 11 hB.keeps.size (cs := [(.int .i64 p0.Labels), v1]) rfl rfl ?_
  intro o3 w4 b5 h6 s7
  replace hB := hB.stp s7 (by decide)
  refine st_val (ex_assign rfl) (by decide) trivial ?_
  refine wpF_end (r := [(1, u1), (2, (.pointer (some ⟨b5, 0, none⟩)))]) ⟨rfl, rfl, trivial⟩ ?_
  refine nx ?_
  refine wpC_seq ?_
  obtain ⟨x8, hx8, hF⟩ := bind_some hF
  refine wpC_drawn (o := o3) [(1, u1), (2, (.pointer (some ⟨b5, 0, none⟩)))] [1, 2] [10, 11, 12, 13] [[], [], [1], [2]] [none, none, none, none] [999, 999, 999, 999] [0, 0, 0, 0] [999] [fun v _ _ => v = (.agg #[(.int .i64 p0.Labels), v1]), fun v _ _ => v = u1, fun v o w9 => ∃ vl, v = adr vl ((0 : Int).toNat * Rp.sz Int) ∧ RdL zt w vl p1, fun v _ _ => v = (.int .i64 x8)] (fun o8 w8 => Bs (fun _ => 1) o8 w w8 ∧ Bx w.heap.size 11 o8 w8 b5 29 [(.int .i64 p0.Labels), v1]) follows_mixed (by kernel_rfl) rfl ⟨rfl, rfl, trivial⟩ ⟨hB, h6⟩ ?_ ⟨st_eq _, st_eq _, fun _ _ _ _ _ _ h0 hb ⟨vl, e, h⟩ hs => ⟨vl, e, h⟩, st_eq _, trivial⟩ ?_ ?_
  · rintro t9 o1 w1 o2 w2 ht9 ⟨hB, h6⟩ hs9
    have ht9 : t9 = 999 := by simpa using ht9
    subst ht9
    all_goals exact ⟨hB.stp hs9 (by decide), h6.stp hs9 (by decide)⟩
  · refine ⟨?_, ?_, ?_, ?_, trivial⟩
    · rintro o11 w12 a13 ha ⟨hB, h6⟩ -
      refine opS_of ha (trivial) ?_
      refine op1_val (ex_loadA rfl Try.isAgg29 Try.sizeOf29 rfl h6.cells) ?_
      exact ⟨_, Stp.refl _ _ _, rfl⟩
    · rintro o14 w15 a16 ha ⟨hB, h6⟩ -
      refine opS_of ha (trivial) ?_
      refine op1_val (ex_move rfl) ?_
      exact ⟨_, Stp.refl _ _ _, rfl⟩
    · rintro o17 w18 a19 ha ⟨hB, h6⟩ ⟨r20, -⟩
      have ha := Fr.cons (d := 11) ha r20
      refine opS_of ha (trivial) ?_
      refine wd_indexR g1 hx8 rfl rfl Try.underlying26 Try.sizeOf3 ?_
      exact ⟨_, Stp.refl _ _ _, ⟨_, rfl, g1⟩⟩
    · rintro o21 w22 a23 ha ⟨hB, h6⟩ ⟨r24, -⟩
      obtain ⟨v25, e26, h27⟩ := r24
      have ha := Fr.cons (d := 12) ha e26
      refine opS_of ha (trivial) ?_
      refine wd_load1Z h27 hx8 hB rfl rfl Try.isAgg3 ?_
      intro c28 h29
      cases h29
      exact ⟨_, Stp.refl _ _ _, rfl⟩
  rintro o30 w31 a32 ha ⟨hB, h6⟩ ⟨r33, -, -, r34, -⟩
  have ha := Fr.cons (d := 10) ha r33
  have ha := Fr.cons (d := 13) ha r34
  refine wl_of ha ?_
  simp only [List.length_cons, List.length_nil, Nat.zero_add, Nat.reduceAdd, List.drop_succ_cons, List.drop_zero]
  obtain ⟨x35, hx35, hF⟩ := bind_some hF
  refine st_op (by decide) trivial ?_
  refine wf_call (cI_WalkProblem_distancesIn fuel w31 o30 12 (by decide) _ p0 (⟨_, rfl, (h2.keep hB.keeps)⟩) x8 x35 hx35) Try.call108 ⟨rfl, rfl, trivial⟩ ?_
  rintro e42 w36 ⟨v37, o43, rfl, h38, k39, k40⟩
  have s41 := k39.stp' 12 k40
  replace h38 := h38.mono hB.keeps.size
  refine ⟨_, rfl, ?_⟩
  replace h6 := h6.stp s41 (by decide)
  replace hB := hB.stp s41 (by decide)
  refine st_val (ex_assign rfl) (by decide) trivial ?_
  refine wpF_end (r := [(1, u1), (2, (.pointer (some ⟨b5, 0, none⟩))), (5, v37)]) ⟨rfl, rfl, rfl, trivial⟩ ?_
  refine nx ?_
  refine wpC_seq ?_
  refine wpC_region ?_
  refine st_val (ex_assign rfl) (by decide) trivial ?_
  refine wpF_end (r := [(1, u1), (2, (.pointer (some ⟨b5, 0, none⟩))), (5, v37), (6, (.int .i64 0))]) ⟨rfl, rfl, rfl, rfl, trivial⟩ ?_
  refine nx ?_
  refine wpC_seq ?_
  refine wpC_seq ?_
  refine wpC_region ?_
  refine st_val (ex_field rfl Try.underlying29 rfl Try.sizeOf22) (by decide) trivial ?_
  refine st_val (ex_load1 rfl Try.isAgg22 (h6.cell rfl)) (by decide) trivial ?_
  refine st_val (ex_lenR rfl h2 Try.underlying22) (by decide) trivial ?_
  refine st_val (ex_move rfl) (by decide) trivial ?_
  refine wpF_end (r := [(1, u1), (5, v37), (6, (.int .i64 0)), (16, v1), (17, (.int .i64 (p0.Arcs.length : Int))), (18, (.int .i64 0))]) ⟨rfl, rfl, rfl, rfl, rfl, rfl, trivial⟩ ?_
  refine nx ?_
  obtain ⟨q48, hq48, hF⟩ := bind_some hF
  refine wpC_cutN (fun a w46 => ∃ (y44 : Int) (o45 : Tg), q48 = .inl y44 ∧ Fr a 57 [(6, (.int .i64 y44))] ∧ Bs (fun _ => 1) o45 w w46) (fun _ _ => False) ?_ ?_ ?_
  · refine wpC_block ?_
    refine wpC_loop (fun (K : Nat) a w46 => ∃ (i47 : Int) (y44 : Int) (o45 : Tg), forI (fI_WalkProblem_periodOf_s1 p1 x35) (p0.Arcs.drop i47.toNat) i47 y44 = some q48 ∧ (p0.Arcs.drop i47.toNat).length = K ∧ 0 ≤ i47 ∧ Fr a 57 [(1, u1), (5, v37), (6, (.int .i64 y44)), (16, v1), (17, (.int .i64 (p0.Arcs.length : Int))), (18, (.int .i64 i47))] ∧ Bs (fun _ => 1) o45 w w46 ∧ Ow w.heap.size 3 12 o45 w46 v37 x35) _ (fun a ha => ⟨0, 0, o43, hq48, rfl, Int.le_refl 0, ha.sub (r := [(1, u1), (5, v37), (6, (.int .i64 0)), (16, v1), (17, (.int .i64 (p0.Arcs.length : Int))), (18, (.int .i64 0))]) ⟨rfl, rfl, rfl, rfl, rfl, rfl, trivial⟩, hB, h38⟩) ?_
    rintro K52 a w46 ⟨i47, y44, o45, l49, m51, z50, ha, hB, h38⟩
    by_cases t56 : i47 < (p0.Arcs.length : Int)
    · obtain ⟨x57, q53, hx57, b54, n55⟩ := forI_cons z50 t56 l49
      have hle := h2.len_le
      dsimp only [fI_WalkProblem_periodOf_s1] at b54
      refine wp_of ha ?_
      refine wpC_seq ?_
      refine wpC_region ?_
      refine st_val (ex_lss rfl rfl) (by decide) trivial ?_
      refine wpF_end (r := [(1, u1), (5, v37), (6, (.int .i64 y44)), (16, v1), (17, (.int .i64 (p0.Arcs.length : Int))), (18, (.int .i64 i47)), (19, (.bool (decide (i47 < (p0.Arcs.length : Int)))))]) ⟨rfl, rfl, rfl, rfl, rfl, rfl, rfl, trivial⟩ ?_
      refine nx ?_
      refine wpC_seq ?_
      refine wpC_true (congrArg (fun b => some (Value.bool b)) (decide_eq_true t56)) ?_
      refine wpC_skip ?_
      refine nx ?_
      refine wpC_seq ?_
      refine wpC_block ?_
      refine wpC_seq ?_
      refine wpC_region ?_
      refine st_op (by decide) trivial ?_
      refine wf_atZ h2 hx57 hB rfl rfl Try.underlying22 Try.sizeOf26 ?_
      intro b58 f59 c60 h61 h62
      obtain ⟨v63, rfl, h64⟩ := h62
      refine st_val (ex_load1 rfl Try.isAgg26 (cell_of_cells h61)) (by decide) trivial ?_
      refine st_val (ex_assign rfl) (by decide) trivial ?_
      refine wpF_end (r := [(1, u1), (5, v37), (6, (.int .i64 y44)), (8, v63), (16, v1), (17, (.int .i64 (p0.Arcs.length : Int))), (18, (.int .i64 i47))]) ⟨rfl, rfl, rfl, rfl, rfl, rfl, rfl, trivial⟩ ?_
      refine nx ?_
      refine wpC_seq ?_
      refine wpC_region ?_
      refine st_val (ex_move rfl) (by decide) trivial ?_
      refine st_val (ex_move rfl) (by decide) trivial ?_
      obtain ⟨x65, hx65, b54⟩ := bind_some b54
      refine st_op (by decide) trivial ?_
      refine wf_atZ h64 hx65 hB rfl rfl Try.underlying26 Try.sizeOf3 ?_
      intro b66 f67 c68 h69 h70
      cases h70
      refine st_val (ex_load1 rfl Try.isAgg3 (cell_of_cells h69)) (by decide) trivial ?_
      obtain ⟨x71, hx71, b54⟩ := bind_some b54
      refine st_op (by decide) trivial ?_
      refine wf_call (cX_slices_Contains_int_int w46 _ p1 (g1.keep hB.keeps) x65 x71 hx71) Try.call64 ⟨rfl, rfl, trivial⟩ ?_
      rintro e76 w72 ⟨rfl, k73⟩
      have s75 := k73.stp 999 o45
      refine ⟨_, rfl, ?_⟩
      replace h38 := h38.stp s75 (by decide) (by decide)
      replace hB := hB.stp s75 (by decide)
      refine st_val (ex_move rfl) (by decide) trivial ?_
      obtain ⟨q77, hq77, b54⟩ := bind_some b54
      refine wpF_cutAt 6 (fun a79 w78 => Fr a79 57 [(1, u1), (5, v37), (6, (.int .i64 y44)), (8, v63), (16, v1), (17, (.int .i64 (p0.Arcs.length : Int))), (18, (.int .i64 i47)), (33, (.bool q77))] ∧ Keeps w72 w78) ?_ ?_
      all_goals simp only [List.take_succ_cons, List.take_zero, List.drop_succ_cons, List.drop_zero]
      · have kp : Keeps w72 w72 := Keeps.refl _
        rcases Bool.eq_false_or_eq_true (x71) with t80 | t80
        · rw [if_pos t80] at hq77
          refine st_val (ex_move rfl) (by decide) ⟨_, rfl, (congrArg (fun b => some (Value.bool b)) t80)⟩ ?_
          refine st_val (ex_move rfl) (by decide) ⟨_, rfl, (congrArg (fun b => some (Value.bool b)) t80)⟩ ?_
          obtain ⟨x81, hx81, hq77⟩ := bind_some hq77
          refine st_op (by decide) ⟨_, rfl, (congrArg (fun b => some (Value.bool b)) t80)⟩ ?_
          refine wf_atZ h64 hx81 hB rfl rfl Try.underlying26 Try.sizeOf3 ?_
          intro b82 f83 c84 h85 h86
          cases h86
          refine st_val (ex_load1 rfl Try.isAgg3 (cell_of_cells h85)) (by decide) ⟨_, rfl, (congrArg (fun b => some (Value.bool b)) t80)⟩ ?_
          obtain ⟨x87, hx87, hq77⟩ := bind_some hq77
          refine st_op (by decide) ⟨_, rfl, (congrArg (fun b => some (Value.bool b)) t80)⟩ ?_
          refine wf_call (cX_slices_Contains_int_int w72 _ p1 (g1.keep hB.keeps) x81 x87 hx87) Try.call64 ⟨rfl, rfl, trivial⟩ ?_
          rintro e92 w88 ⟨rfl, k89⟩
          have s91 := k89.stp 999 o45
          refine ⟨_, rfl, ?_⟩
          replace h38 := h38.stp s91 (by decide) (by decide)
          replace hB := hB.stp s91 (by decide)
          replace kp := Keeps.trans kp k89
          refine st_val (ex_pick_t (congrArg (fun b => some (Value.bool b)) t80) rfl) (by decide) trivial ?_
          have hq772 := Option.some.inj hq77
          refine wpF_end (r := [(1, u1), (5, v37), (6, (.int .i64 y44)), (8, v63), (16, v1), (17, (.int .i64 (p0.Arcs.length : Int))), (18, (.int .i64 i47)), (33, (.bool x87))]) ⟨rfl, rfl, rfl, rfl, rfl, rfl, rfl, rfl, trivial⟩ ?_
          subst hq772
          refine np_norm (fun a ha => ⟨ha, kp⟩)
        · rw [if_neg (by rw [t80]; decide)] at hq77
          refine st_no rfl rfl (by rw [t80]; rfl) (by decide) ?_
          refine st_no rfl rfl (by rw [t80]; rfl) (by decide) ?_
          refine st_no rfl rfl (by rw [t80]; rfl) (by decide) ?_
          refine st_no rfl rfl (by rw [t80]; rfl) (by decide) ?_
          refine st_no rfl rfl (by rw [t80]; rfl) (by decide) ?_
          refine st_val (ex_pick_f (congrArg (fun b => some (Value.bool b)) t80) rfl) (by decide) trivial ?_
          have hq772 := Option.some.inj hq77
          refine wpF_end (r := [(1, u1), (5, v37), (6, (.int .i64 y44)), (8, v63), (16, v1), (17, (.int .i64 (p0.Arcs.length : Int))), (18, (.int .i64 i47)), (33, (.bool false))]) ⟨rfl, rfl, rfl, rfl, rfl, rfl, rfl, rfl, trivial⟩ ?_
          subst hq772
          refine np_norm (fun a ha => ⟨ha, kp⟩)
      rintro a95 w78 ⟨ha, k93⟩
      have s94 := k93.stp 999 o45
      replace h38 := h38.stp s94 (by decide) (by decide)
      replace hB := hB.stp s94 (by decide)
      refine wl_of ha ?_
      refine wpF_end (r := [(1, u1), (5, v37), (6, (.int .i64 y44)), (8, v63), (16, v1), (17, (.int .i64 (p0.Arcs.length : Int))), (18, (.int .i64 i47)), (33, (.bool q77))]) ⟨rfl, rfl, rfl, rfl, rfl, rfl, rfl, rfl, trivial⟩ ?_
      refine nx ?_
      refine wpC_cond rfl (fun t96 => ?_) (fun t96 => ?_)
      · rw [if_pos t96] at b54
        refine wpC_seq ?_
        obtain ⟨x97, hx97, b54⟩ := bind_some b54
        obtain ⟨x100, hx100, b54⟩ := bind_some b54
        obtain ⟨x103, hx103, b54⟩ := bind_some b54
        obtain ⟨x104, hx104, b54⟩ := bind_some b54
        obtain ⟨x107, hx107, b54⟩ := bind_some b54
        refine wpC_drawn (o := o45) [(1, u1), (5, v37), (6, (.int .i64 y44)), (8, v63), (16, v1), (17, (.int .i64 (p0.Arcs.length : Int))), (18, (.int .i64 i47))] [1, 5, 6, 8, 16, 17, 18] [34, 35, 36, 37, 38, 39, 40, 41, 42, 43, 44, 45, 46] [[], [], [1], [2], [0, 3], [4], [5], [], [], [8], [9], [7, 10], [11]] [none, none, none, none, none, none, none, none, none, none, none, none, none] [999, 999, 999, 999, 999, 999, 999, 999, 999, 999, 999, 999, 999] [0, 0, 0, 0, 12, 0, 0, 0, 0, 0, 0, 12, 0] [999] [fun v _ _ => v = v37, fun v _ _ => v = v63, fun v o w9 => ∃ vl, v = adr vl ((0 : Int).toNat * Rp.sz Int) ∧ RdL zt w vl x57, fun v _ _ => v = (.int .i64 x97), fun v o w9 => ∃ vl, v = adr vl (x97.toNat * Rp.sz Int) ∧ Ow w.heap.size 3 12 o w9 vl x35, fun v _ _ => v = (.int .i64 x100), fun v _ _ => v = (.int .i64 x103), fun v _ _ => v = v37, fun v _ _ => v = v63, fun v o w9 => ∃ vl, v = adr vl ((1 : Int).toNat * Rp.sz Int) ∧ RdL zt w vl x57, fun v _ _ => v = (.int .i64 x104), fun v o w9 => ∃ vl, v = adr vl (x104.toNat * Rp.sz Int) ∧ Ow w.heap.size 3 12 o w9 vl x35, fun v _ _ => v = (.int .i64 x107)] (fun o8 w8 => Bs (fun _ => 1) o8 w w8 ∧ Ow w.heap.size 3 12 o8 w8 v37 x35) follows_mixed (by kernel_rfl) rfl ⟨rfl, rfl, rfl, rfl, rfl, rfl, rfl, trivial⟩ ⟨hB, h38⟩ ?_ ⟨st_eq _, st_eq _, fun _ _ _ _ _ _ h0 hb ⟨vl, e, h⟩ hs => ⟨vl, e, h⟩, st_eq _, fun _ _ _ _ _ _ h0 hb ⟨vl, e, h⟩ hs => ⟨vl, e, h.stp hs h0.1 (Ne.symm hb)⟩, st_eq _, st_eq _, st_eq _, st_eq _, fun _ _ _ _ _ _ h0 hb ⟨vl, e, h⟩ hs => ⟨vl, e, h⟩, st_eq _, fun _ _ _ _ _ _ h0 hb ⟨vl, e, h⟩ hs => ⟨vl, e, h.stp hs h0.1 (Ne.symm hb)⟩, st_eq _, trivial⟩ ?_ ?_
        · rintro t9 o1 w1 o2 w2 ht9 ⟨hB, h38⟩ hs9
          have ht9 : t9 = 999 := by simpa using ht9
          subst ht9
          all_goals exact ⟨hB.stp hs9 (by decide), h38.stp hs9 (by decide) (by decide)⟩
        · refine ⟨?_, ?_, ?_, ?_, ?_, ?_, ?_, ?_, ?_, ?_, ?_, ?_, ?_, trivial⟩
          · rintro o110 w111 a112 ha ⟨hB, h38⟩ -
            refine opS_of ha (trivial) ?_
            refine op1_val (ex_move rfl) ?_
            exact ⟨_, Stp.refl _ _ _, rfl⟩
          · rintro o113 w114 a115 ha ⟨hB, h38⟩ -
            refine opS_of ha (trivial) ?_
            refine op1_val (ex_move rfl) ?_
            exact ⟨_, Stp.refl _ _ _, rfl⟩
          · rintro o116 w117 a118 ha ⟨hB, h38⟩ ⟨r119, -⟩
            have ha := Fr.cons (d := 35) ha r119
            refine opS_of ha (trivial) ?_
            refine wd_indexR h64 hx97 rfl rfl Try.underlying26 Try.sizeOf3 ?_
            exact ⟨_, Stp.refl _ _ _, ⟨_, rfl, h64⟩⟩
          · rintro o120 w121 a122 ha ⟨hB, h38⟩ ⟨r123, -⟩
            obtain ⟨v124, e125, h126⟩ := r123
            have ha := Fr.cons (d := 36) ha e125
            refine opS_of ha (trivial) ?_
            refine wd_load1Z h126 hx97 hB rfl rfl Try.isAgg3 ?_
            intro c127 h128
            cases h128
            exact ⟨_, Stp.refl _ _ _, rfl⟩
          · rintro o129 w130 a131 ha ⟨hB, h38⟩ ⟨r132, r133, -⟩
            have ha := Fr.cons (d := 34) ha r132
            have ha := Fr.cons (d := 37) ha r133
            refine opS_of ha (trivial) ?_
            refine wd_indexW h38 hx100 rfl rfl Try.underlying26 Try.sizeOf3 ?_
            exact ⟨_, Stp.refl _ _ _, ⟨_, rfl, h38⟩⟩
          · rintro o134 w135 a136 ha ⟨hB, h38⟩ ⟨r137, -⟩
            obtain ⟨v138, e139, h140⟩ := r137
            have ha := Fr.cons (d := 38) ha e139
            refine opS_of ha (trivial) ?_
            refine wd_load1W h140 hx100 rfl rfl Try.isAgg3 ?_
            intro c141 h142
            cases h142
            exact ⟨_, Stp.refl _ _ _, rfl⟩
          · rintro o143 w144 a145 ha ⟨hB, h38⟩ ⟨r146, -⟩
            have ha := Fr.cons (d := 39) ha r146
            refine opS_of ha (trivial) ?_
            refine op1_val (ex_add rfl rfl hx103) ?_
            exact ⟨_, Stp.refl _ _ _, rfl⟩
          · rintro o147 w148 a149 ha ⟨hB, h38⟩ -
            refine opS_of ha (trivial) ?_
            refine op1_val (ex_move rfl) ?_
            exact ⟨_, Stp.refl _ _ _, rfl⟩
          · rintro o150 w151 a152 ha ⟨hB, h38⟩ -
            refine opS_of ha (trivial) ?_
            refine op1_val (ex_move rfl) ?_
            exact ⟨_, Stp.refl _ _ _, rfl⟩
          · rintro o153 w154 a155 ha ⟨hB, h38⟩ ⟨r156, -⟩
            have ha := Fr.cons (d := 42) ha r156
            refine opS_of ha (trivial) ?_
            refine wd_indexR h64 hx104 rfl rfl Try.underlying26 Try.sizeOf3 ?_
            exact ⟨_, Stp.refl _ _ _, ⟨_, rfl, h64⟩⟩
          · rintro o157 w158 a159 ha ⟨hB, h38⟩ ⟨r160, -⟩
            obtain ⟨v161, e162, h163⟩ := r160
            have ha := Fr.cons (d := 43) ha e162
            refine opS_of ha (trivial) ?_
            refine wd_load1Z h163 hx104 hB rfl rfl Try.isAgg3 ?_
            intro c164 h165
            cases h165
            exact ⟨_, Stp.refl _ _ _, rfl⟩
          · rintro o166 w167 a168 ha ⟨hB, h38⟩ ⟨r169, r170, -⟩
            have ha := Fr.cons (d := 41) ha r169
            have ha := Fr.cons (d := 44) ha r170
            refine opS_of ha (trivial) ?_
            refine wd_indexW h38 hx107 rfl rfl Try.underlying26 Try.sizeOf3 ?_
            exact ⟨_, Stp.refl _ _ _, ⟨_, rfl, h38⟩⟩
          · rintro o171 w172 a173 ha ⟨hB, h38⟩ ⟨r174, -⟩
            obtain ⟨v175, e176, h177⟩ := r174
            have ha := Fr.cons (d := 45) ha e176
            refine opS_of ha (trivial) ?_
            refine wd_load1W h177 hx107 rfl rfl Try.isAgg3 ?_
            intro c178 h179
            cases h179
            exact ⟨_, Stp.refl _ _ _, rfl⟩
        rintro o180 w181 a182 ha ⟨hB, h38⟩ ⟨-, -, -, -, -, -, r183, -, -, -, -, -, r184, -⟩
        have ha := Fr.cons (d := 40) ha r183
        have ha := Fr.cons (d := 46) ha r184
        refine wl_of ha ?_
        simp only [List.length_cons, List.length_nil, Nat.zero_add, Nat.reduceAdd, List.drop_succ_cons, List.drop_zero]
        obtain ⟨x185, hx185, b54⟩ := bind_some b54
        refine st_val (ex_sub rfl rfl hx185) (by decide) trivial ?_
        refine st_val (ex_assign rfl) (by decide) trivial ?_
        refine wpF_end (r := [(1, u1), (5, v37), (6, (.int .i64 y44)), (9, (.int .i64 x185)), (16, v1), (17, (.int .i64 (p0.Arcs.length : Int))), (18, (.int .i64 i47))]) ⟨rfl, rfl, rfl, rfl, rfl, rfl, rfl, trivial⟩ ?_
        refine nx ?_
        refine wpC_region ?_
        refine st_val (ex_move rfl) (by decide) trivial ?_
        refine st_val (ex_move rfl) (by decide) trivial ?_
        refine st_val (ex_move rfl) (by decide) trivial ?_
        obtain ⟨x186, hx186, b54⟩ := bind_some b54
        obtain ⟨rfl, hx186a, hx186b⟩ := ck_some hx186
        refine st_val (ex_neg rfl hx186a hx186b) (by decide) trivial ?_
        refine st_val (ex_max rfl rfl) (by decide) trivial ?_
        refine st_op (by decide) trivial ?_
        refine wf_litR (o := o180) (cs := [(.int .i64 y44), (.int .i64 (max x185 (-x185)))]) (xs := ([y44, max x185 (-x185)] : List Int)) (vs := [(0, (.int .i64 y44)), (1, (.int .i64 (max x185 (-x185))))]) ⟨_, _, rfl, rfl, ⟨_, _, rfl, rfl, rfl⟩⟩ rfl ⟨rfl, rfl, rfl, rfl, trivial⟩ Try.underlying26 Try.sizeOf3 Try.zeroValue3 (by decide) (fill2 rfl rfl) (by simp) ?_
        intro o187 w188 v189 h190 s191 k192
        replace h38 := h38.stp s191 (by decide) (by decide)
        replace hB := hB.stp s191 (by decide)
        obtain ⟨x193, hx193, b54⟩ := bind_some b54
        refine st_op (by decide) trivial ?_
        refine wf_call (cI_gcd w188 _ ([y44, max x185 (-x185)] : List Int) h190.z x193 hx193) Try.call109 ⟨rfl, trivial⟩ ?_
        rintro e198 w194 ⟨rfl, k195⟩
        have s197 := k195.stp 999 o187
        refine ⟨_, rfl, ?_⟩
        replace h38 := h38.stp s197 (by decide) (by decide)
        replace h190 := h190.stp s197 (by decide)
        replace hB := hB.stp s197 (by decide)
        refine st_val (ex_assign rfl) (by decide) trivial ?_
        refine wpF_end (r := [(1, u1), (5, v37), (6, (.int .i64 x193)), (16, v1), (17, (.int .i64 (p0.Arcs.length : Int))), (18, (.int .i64 i47))]) ⟨rfl, rfl, rfl, rfl, rfl, rfl, trivial⟩ ?_
        refine nb_norm ?_
        refine nx ?_
        refine wpC_region ?_
        refine st_val (ex_add rfl rfl (ck_in (by omega) (by omega))) (by decide) trivial ?_
        refine st_val (ex_move rfl) (by decide) trivial ?_
        refine wpF_end (r := [(1, u1), (5, v37), (6, (.int .i64 x193)), (16, v1), (17, (.int .i64 (p0.Arcs.length : Int))), (18, (.int .i64 (i47 + 1)))]) ⟨rfl, rfl, rfl, rfl, rfl, rfl, trivial⟩ ?_
        refine nt_norm ?_
        have e199 := Option.some.inj b54
        subst e199
        refine to_k (r := [(1, u1), (5, v37), (6, (.int .i64 x193)), (16, v1), (17, (.int .i64 (p0.Arcs.length : Int))), (18, (.int .i64 (i47 + 1)))]) ⟨rfl, rfl, rfl, rfl, rfl, rfl, trivial⟩ ?_
        intro a ha
        exact ⟨_, (by rw [← m51]; simp only [List.length_drop]; omega), i47 + 1, x193, o187, n55, rfl, (by omega), ha, hB, h38⟩
      · rw [if_neg (by rw [t96]; decide)] at b54
        refine wpC_skip ?_
        refine nb_norm ?_
        refine nx ?_
        refine wpC_region ?_
        refine st_val (ex_add rfl rfl (ck_in (by omega) (by omega))) (by decide) trivial ?_
        refine st_val (ex_move rfl) (by decide) trivial ?_
        refine wpF_end (r := [(1, u1), (5, v37), (6, (.int .i64 y44)), (16, v1), (17, (.int .i64 (p0.Arcs.length : Int))), (18, (.int .i64 (i47 + 1)))]) ⟨rfl, rfl, rfl, rfl, rfl, rfl, trivial⟩ ?_
        refine nt_norm ?_
        have e200 := Option.some.inj b54
        subst e200
        refine to_k (r := [(1, u1), (5, v37), (6, (.int .i64 y44)), (16, v1), (17, (.int .i64 (p0.Arcs.length : Int))), (18, (.int .i64 (i47 + 1)))]) ⟨rfl, rfl, rfl, rfl, rfl, rfl, trivial⟩ ?_
        intro a ha
        exact ⟨_, (by rw [← m51]; simp only [List.length_drop]; omega), i47 + 1, y44, o45, n55, rfl, (by omega), ha, hB, h38⟩
    · have r201 := forI_done t56 l49
      refine wp_of ha ?_
      refine wpC_seq ?_
      refine wpC_region ?_
      refine st_val (ex_lss rfl rfl) (by decide) trivial ?_
      refine wpF_end (r := [(1, u1), (5, v37), (6, (.int .i64 y44)), (16, v1), (17, (.int .i64 (p0.Arcs.length : Int))), (18, (.int .i64 i47)), (19, (.bool (decide (i47 < (p0.Arcs.length : Int)))))]) ⟨rfl, rfl, rfl, rfl, rfl, rfl, rfl, trivial⟩ ?_
      refine nx ?_
      refine wpC_seq ?_
      refine wpC_false (congrArg (fun b => some (Value.bool b)) (decide_eq_false t56)) ?_
      refine wpC_exit ?_
      refine nt_exit ?_
      refine nt_exit ?_
      refine nb_hit ?_
      refine np_norm ?_
      refine to_k (r := [(6, (.int .i64 y44))]) ⟨rfl, trivial⟩ ?_
      intro a ha
      exact ⟨y44, o45, r201, ha, hB⟩
  · rintro a w46 ⟨y44, o45, rfl, ha, hB⟩
    dsimp only at hF
    refine ap_k ha ?_
    refine nx ?_
    refine wpC_seq ?_
    refine wpC_region ?_
    refine st_val (ex_move rfl) (by decide) trivial ?_
    refine st_val (ex_assign rfl) (by decide) trivial ?_
    refine wpF_end (r := [(4, (.int .i64 y44))]) ⟨rfl, trivial⟩ ?_
    refine nx ?_
    refine wpC_ret ?_
    have e202 := Option.some.inj hF
    subst e202
    refine ret_post (P := Try.prog) (vs := [(.int .i64 y44)]) Try.results82 ⟨rfl, trivial⟩ ?_
    exact ⟨rfl, hB.keeps⟩
  · exact fun _ _ h => h.elim

def fI_WalkProblem_walkComponents_s2 (x8 : List Int) (i62 : Int) : Int → Int → (List Int) → Option (Lp (List Int) (List Int) ((List (List Int)) × (List Int))) := fun (i98 : Int) (x108 : Int) (s : List Int) =>
  (ix x8 x108) >>= fun x114 =>
  (shr x114 i62) >>= fun x120 =>
  if (band x120 1) == 1 then
    (push s x108) >>= fun x128 =>
    some (.go x128)
  else
    some (.go s)
def fI_WalkProblem_walkComponents_s3 (x42 : List Int) (y93 : List Int) : Int → Int → Bool → Option (Lp Bool Bool ((List (List Int)) × (List Int))) := fun (i146 : Int) (x156 : Int) (s : Bool) =>
  (
    if s then
      some true
    else
      (ix x42 x156) >>= fun x205 =>
      (fI_setOf y93) >>= fun x208 =>
      some ((band x205 x208) != 0)) >>= fun q162 =>
  some (.go q162)
def fI_WalkProblem_walkComponents_s1 (fuel : Nat) (p0 : T_WalkProblem) (x8 : List Int) (x42 : List Int) : Int → ((List (List Int)) × (List Int) × Int) → Option (Lp ((List (List Int)) × (List Int) × Int) ((List (List Int)) × (List Int) × Int) ((List (List Int)) × (List Int))) := fun (i62 : Int) (s : (List (List Int)) × (List Int) × Int) =>
  (shr s.2.2 i62) >>= fun x74 =>
  if (band x74 1) == 1 then
    some (.go (s.1, s.2.1, s.2.2))
  else
    (ix x8 i62) >>= fun x77 =>
    (fI_labelsIn fuel x77) >>= fun x83 =>
    (forI (fI_WalkProblem_walkComponents_s2 x8 i62) x83 0 []) >>= fun q99 =>
    match q99 with
    | .inl y93 =>
      (fI_setOf y93) >>= fun x137 =>
      (forI (fI_WalkProblem_walkComponents_s3 x42 y93) y93 0 false) >>= fun q147 =>
      match q147 with
      | .inl y143 =>
        if y143 then
          (push s.1 y93) >>= fun x278 =>
          (fI_WalkProblem_periodOf fuel p0 y93) >>= fun x284 =>
          (push s.2.1 x284) >>= fun x363 =>
          some (.go (x278, x363, bor s.2.2 x137))
        else
          some (.go (s.1, s.2.1, bor s.2.2 x137))
      | .inr _ => none
    | .inr _ => none
def fI_WalkProblem_walkComponents (fuel : Nat) (p0 : T_WalkProblem) : Option ((List (List Int)) × (List Int)) :=
  (fI_WalkProblem_closure fuel p0) >>= fun x8 =>
  (fI_WalkProblem_after p0) >>= fun x42 =>
  ck (x8.length : Int) >>= fun _ =>
  (forN (fI_WalkProblem_walkComponents_s1 fuel p0 x8 x42) ((x8.length : Int)).toNat 0 ([], [], 0)) >>= fun q63 =>
  match q63 with
  | .inl (y53, y56, y59) =>
    some (y53, y56)
  | .inr _ => none

def pI_WalkProblem_walkComponents (oo : Tg) (t : Nat) (w : World) (r : (List (List Int)) × (List Int)) : Ending → World → Prop := fun e w' => ∃ (v0 : Value) (v1 : Value) (o' : Tg), e = .returned (.tuple #[v0, v1]) ∧ Ow w.heap.size 26 t o' w' v0 r.1 ∧ Of 3 o' w' v1 r.2 ∧ Keeps w w' ∧ ∀ b, b < w.heap.size → o' b = oo b
set_option maxRecDepth 100000 in
set_option maxHeartbeats 2000000 in
theorem cI_WalkProblem_walkComponents (fuel : Nat) (w : World) (oo : Tg) (t : Nat) (ht : 2 ≤ t) (u0 : List Value) (p0 : T_WalkProblem) (g0 : Rp.rd zt w u0 p0) (r : (List (List Int)) × (List Int)) (hF : fI_WalkProblem_walkComponents fuel p0 = some r) :
    Calls Try.prog 41 #[.agg u0.toArray] w (pI_WalkProblem_walkComponents oo t w r) := by
  unfold fI_WalkProblem_walkComponents at hF
  obtain ⟨v1, rfl, h2⟩ := g0
  have hB : Bs oo (col oo) w w := Bs.start _ _
  refine calls_start (n := 89) (vs := [(.agg #[(.int .i64 p0.Labels), v1])]) Try.func41 rfl rfl ?_
  generalize col oo = o at *
  refine wpC_seq ?_
  refine wpC_region ?_
  refine st_op (by decide) trivial ?_
  refine wf_box (o := o) w.heap.size 11 hB.keeps.size (cs := [(.int .i64 p0.Labels), v1]) rfl rfl ?_
  intro o3 w4 b5 h6 s7
  replace hB := hB.stp s7 (by decide)
  refine st_val (ex_assign rfl) (by decide) trivial ?_
  refine st_val (ex_assign rfl) (by decide) trivial ?_
  refine wpF_end (r := [(1, (.pointer (some ⟨b5, 0, none⟩)))]) ⟨rfl, trivial⟩ ?_
  refine nx ?_
  refine wpC_seq ?_
  obtain ⟨x8, hx8, hF⟩ := bind_some hF
  refine wpC_drawn (o := o3) [(1, (.pointer (some ⟨b5, 0, none⟩)))] [1] [16, 17, 18] [[], [0], []] [none, none, none] [999, 999, 999] [0, 12, 0] [999] [fun v _ _ => v = (.agg #[(.int .i64 p0.Labels), v1]), fun v o w9 => Ow w.heap.size 3 12 o w9 v x8, fun v _ _ => v = (.agg #[(.int .i64 p0.Labels), v1])] (fun o8 w8 => Bs oo o8 w w8 ∧ Bx w.heap.size 11 o8 w8 b5 29 [(.int .i64 p0.Labels), v1]) follows_mixed (by kernel_rfl) rfl ⟨rfl, trivial⟩ ⟨hB, h6⟩ ?_ ⟨st_eq _, fun _ _ _ _ _ _ h0 hb h hs => h.stp hs h0.1 (Ne.symm hb), st_eq _, trivial⟩ ?_ ?_
  · rintro t9 o1 w1 o2 w2 ht9 ⟨hB, h6⟩ hs9
    have ht9 : t9 = 999 := by simpa using ht9
    subst ht9
    all_goals exact ⟨hB.stp hs9 (by decide), h6.stp hs9 (by decide)⟩
  · refine ⟨?_, ?_, ?_, trivial⟩
    · rintro o17 w18 a19 ha ⟨hB, h6⟩ -
      refine opS_of ha (trivial) ?_
      refine op1_val (ex_loadA rfl Try.isAgg29 Try.sizeOf29 rfl h6.cells) ?_
      exact ⟨_, Stp.refl _ _ _, rfl⟩
    · rintro o20 w21 a22 ha ⟨hB, h6⟩ ⟨r23, -⟩
      have ha := Fr.cons (d := 16) ha r23
      refine opS_of ha (trivial) ?_
      refine wf_call (cI_WalkProblem_closure fuel w21 o20 12 (by decide) _ p0 (⟨_, rfl, (h2.keep hB.keeps)⟩) x8 hx8) Try.call79 ⟨rfl, trivial⟩ ?_
      rintro e30 w24 ⟨v25, o31, rfl, h26, k27, k28⟩
      have s29 := k27.stp' 999 k28
      replace h26 := h26.mono hB.keeps.size
      refine ⟨_, rfl, ?_⟩
      replace h6 := h6.stp s29 (by decide)
      replace hB := hB.stp s29 (by decide)
      exact ⟨_, s29, h26⟩
    · rintro o32 w33 a34 ha ⟨hB, h6⟩ -
      refine opS_of ha (trivial) ?_
      refine op1_val (ex_loadA rfl Try.isAgg29 Try.sizeOf29 rfl h6.cells) ?_
      exact ⟨_, Stp.refl _ _ _, rfl⟩
  rintro o35 w36 a37 ha ⟨hB, h6⟩ ⟨-, r38, r39, -⟩
  replace r38 : Ow w.heap.size 3 12 o35 w36 (a37.tmps.getD 17 undef) x8 := r38
  generalize e41 : a37.tmps.getD 17 undef = v40 at r38
  have ha := Fr.cons (d := 17) ha e41
  have ha := Fr.cons (d := 18) ha r39
  refine wl_of ha ?_
  simp only [List.length_cons, List.length_nil, Nat.zero_add, Nat.reduceAdd, List.drop_succ_cons, List.drop_zero]
  obtain ⟨x42, hx42, hF⟩ := bind_some hF
  refine st_op (by decide) trivial ?_
  refine wf_call (cI_WalkProblem_after w36 o35 13 (by decide) _ p0 (⟨_, rfl, (h2.keep hB.keeps)⟩) x42 hx42) Try.call80 ⟨rfl, trivial⟩ ?_
  rintro e49 w43 ⟨v44, o50, rfl, h45, k46, k47⟩
  have s48 := k46.stp' 13 k47
  replace h45 := h45.mono hB.keeps.size
  refine ⟨_, rfl, ?_⟩
  replace r38 := r38.stp s48 (by decide) (by decide)
  replace h6 := h6.stp s48 (by decide)
  replace hB := hB.stp s48 (by decide)
  refine st_val (ex_assign rfl) (by decide) trivial ?_
  refine st_val (ex_assign rfl) (by decide) trivial ?_
  refine wpF_end (r := [(1, (.pointer (some ⟨b5, 0, none⟩))), (4, v40), (5, v44)]) ⟨rfl, rfl, rfl, trivial⟩ ?_
  refine nx ?_
  refine wpC_seq ?_
  refine wpC_region ?_
  refine st_val (ex_assign rfl) (by decide) trivial ?_
  refine wpF_end (r := [(1, (.pointer (some ⟨b5, 0, none⟩))), (4, v40), (5, v44), (6, (.slice none 0 0))]) ⟨rfl, rfl, rfl, rfl, trivial⟩ ?_
  refine nx ?_
  refine wpC_seq ?_
  refine wpC_region ?_
  refine st_val (ex_assign rfl) (by decide) trivial ?_
  refine wpF_end (r := [(1, (.pointer (some ⟨b5, 0, none⟩))), (4, v40), (5, v44), (6, (.slice none 0 0)), (7, (.slice none 0 0))]) ⟨rfl, rfl, rfl, rfl, rfl, trivial⟩ ?_
  refine nx ?_
  refine wpC_seq ?_
  refine wpC_region ?_
  refine st_val (ex_assign rfl) (by decide) trivial ?_
  refine wpF_end (r := [(1, (.pointer (some ⟨b5, 0, none⟩))), (4, v40), (5, v44), (6, (.slice none 0 0)), (7, (.slice none 0 0)), (8, (.int .i64 0))]) ⟨rfl, rfl, rfl, rfl, rfl, rfl, trivial⟩ ?_
  refine nx ?_
  refine wpC_seq ?_
  refine wpC_seq ?_
  refine wpC_region ?_
  refine st_val (ex_move rfl) (by decide) trivial ?_
  refine st_val (ex_lenO rfl r38 Try.underlying26) (by decide) trivial ?_
  refine st_val (ex_move rfl) (by decide) trivial ?_
  refine wpF_end (r := [(1, (.pointer (some ⟨b5, 0, none⟩))), (4, v40), (5, v44), (6, (.slice none 0 0)), (7, (.slice none 0 0)), (8, (.int .i64 0)), (21, (.int .i64 (x8.length : Int))), (22, (.int .i64 0))]) ⟨rfl, rfl, rfl, rfl, rfl, rfl, rfl, rfl, trivial⟩ ?_
  refine nx ?_
  have h51 : Ow w.heap.size 26 14 o50 w43 (.slice none 0 0) ([] : List (List Int)) := Ow.nil _ _ _ _ _
  have h52 : Ow w.heap.size 3 15 o50 w43 (.slice none 0 0) ([] : List Int) := Ow.nil _ _ _ _ _
  obtain ⟨u65, h64, hF⟩ := bind_some hF
  obtain ⟨-, h64a, h64b⟩ := ck_some h64
  obtain ⟨q63, hq63, hF⟩ := bind_some hF
  refine wpC_cutN (fun a w61 => ∃ (y53 : List (List Int)) (y56 : List Int) (y59 : Int) (v54 : Value) (v57 : Value) (o60 : Tg), q63 = .inl (y53, y56, y59) ∧ Fr a 89 [(6, v54), (7, v57)] ∧ Bs oo o60 w w61 ∧ Ow w.heap.size 26 14 o60 w61 v54 y53 ∧ Ow w.heap.size 3 15 o60 w61 v57 y56) (fun _ _ => False) ?_ ?_ ?_
  · refine wpC_block ?_
    refine wpC_loop (fun (K : Nat) a w61 => ∃ (i62 : Int) (y53 : List (List Int)) (y56 : List Int) (y59 : Int) (v54 : Value) (v57 : Value) (o60 : Tg), forN (fI_WalkProblem_walkComponents_s1 fuel p0 x8 x42) ((x8.length : Int) - i62).toNat i62 (y53, y56, y59) = some q63 ∧ ((x8.length : Int) - i62).toNat = K ∧ 0 ≤ i62 ∧ Fr a 89 [(1, (.pointer (some ⟨b5, 0, none⟩))), (4, v40), (5, v44), (6, v54), (7, v57), (8, (.int .i64 y59)), (21, (.int .i64 (x8.length : Int))), (22, (.int .i64 i62))] ∧ Bs oo o60 w w61 ∧ Ow w.heap.size 3 12 o60 w61 v40 x8 ∧ Ow w.heap.size 3 13 o60 w61 v44 x42 ∧ Ow w.heap.size 26 14 o60 w61 v54 y53 ∧ Ow w.heap.size 3 15 o60 w61 v57 y56 ∧ Bx w.heap.size 11 o60 w61 b5 29 [(.int .i64 p0.Labels), v1]) _ (fun a ha => ⟨0, [], [], 0, (.slice none 0 0), (.slice none 0 0), o50, (by rw [Int.sub_zero]; exact hq63), rfl, Int.le_refl 0, ha.sub (r := [(1, (.pointer (some ⟨b5, 0, none⟩))), (4, v40), (5, v44), (6, (.slice none 0 0)), (7, (.slice none 0 0)), (8, (.int .i64 0)), (21, (.int .i64 (x8.length : Int))), (22, (.int .i64 0))]) ⟨rfl, rfl, rfl, rfl, rfl, rfl, rfl, rfl, trivial⟩, hB, r38, h45, h51, h52, h6⟩) ?_
    rintro K69 a w61 ⟨i62, y53, y56, y59, v54, v57, o60, l66, m68, z67, ha, hB, r38, h45, h55, h58, h6⟩
    by_cases t73 : i62 < (x8.length : Int)
    · obtain ⟨q70, b71, n72⟩ := forN_cons t73 l66
      dsimp only [fI_WalkProblem_walkComponents_s1] at b71
      refine wp_of ha ?_
      refine wpC_seq ?_
      refine wpC_region ?_
      refine st_val (ex_lss rfl rfl) (by decide) trivial ?_
      refine wpF_end (r := [(1, (.pointer (some ⟨b5, 0, none⟩))), (4, v40), (5, v44), (6, v54), (7, v57), (8, (.int .i64 y59)), (21, (.int .i64 (x8.length : Int))), (22, (.int .i64 i62)), (23, (.bool (decide (i62 < (x8.length : Int)))))]) ⟨rfl, rfl, rfl, rfl, rfl, rfl, rfl, rfl, rfl, trivial⟩ ?_
      refine nx ?_
      refine wpC_seq ?_
      refine wpC_true (congrArg (fun b => some (Value.bool b)) (decide_eq_true t73)) ?_
      refine wpC_skip ?_
      refine nx ?_
      refine wpC_seq ?_
      refine wpC_block ?_
      refine wpC_seq ?_
      refine wpC_region ?_
      refine st_val (ex_move rfl) (by decide) trivial ?_
      refine st_val (ex_assign rfl) (by decide) trivial ?_
      refine wpF_end (r := [(1, (.pointer (some ⟨b5, 0, none⟩))), (4, v40), (5, v44), (6, v54), (7, v57), (8, (.int .i64 y59)), (9, (.int .i64 i62)), (21, (.int .i64 (x8.length : Int))), (22, (.int .i64 i62))]) ⟨rfl, rfl, rfl, rfl, rfl, rfl, rfl, rfl, rfl, trivial⟩ ?_
      refine nx ?_
      refine wpC_seq ?_
      refine wpC_seq ?_
      refine wpC_region ?_
      refine st_val (ex_move rfl) (by decide) trivial ?_
      refine st_val (ex_move rfl) (by decide) trivial ?_
      obtain ⟨x74, hx74, b71⟩ := bind_some b71
      refine st_val (ex_shr rfl rfl hx74) (by decide) trivial ?_
      refine st_val (ex_and rfl rfl) (by decide) trivial ?_
      refine st_val (ex_eql rfl rfl) (by decide) trivial ?_
      refine wpF_end (r := [(1, (.pointer (some ⟨b5, 0, none⟩))), (4, v40), (5, v44), (6, v54), (7, v57), (8, (.int .i64 y59)), (9, (.int .i64 i62)), (21, (.int .i64 (x8.length : Int))), (22, (.int .i64 i62)), (29, (.bool ((band x74 1) == 1)))]) ⟨rfl, rfl, rfl, rfl, rfl, rfl, rfl, rfl, rfl, rfl, trivial⟩ ?_
      refine nx ?_
      refine wpC_cond rfl (fun t75 => ?_) (fun t75 => ?_)
      · rw [if_pos t75] at b71
        refine wpC_exit ?_
        refine nt_exit ?_
        refine nb_hit ?_
        refine nx ?_
        refine wpC_region ?_
        refine st_val (ex_add rfl rfl (ck_in (by omega) (by omega))) (by decide) trivial ?_
        refine st_val (ex_move rfl) (by decide) trivial ?_
        refine wpF_end (r := [(1, (.pointer (some ⟨b5, 0, none⟩))), (4, v40), (5, v44), (6, v54), (7, v57), (8, (.int .i64 y59)), (21, (.int .i64 (x8.length : Int))), (22, (.int .i64 (i62 + 1)))]) ⟨rfl, rfl, rfl, rfl, rfl, rfl, rfl, rfl, trivial⟩ ?_
        refine nt_norm ?_
        have e76 := Option.some.inj b71
        subst e76
        refine to_k (r := [(1, (.pointer (some ⟨b5, 0, none⟩))), (4, v40), (5, v44), (6, v54), (7, v57), (8, (.int .i64 y59)), (21, (.int .i64 (x8.length : Int))), (22, (.int .i64 (i62 + 1)))]) ⟨rfl, rfl, rfl, rfl, rfl, rfl, rfl, rfl, trivial⟩ ?_
        intro a ha
        exact ⟨_, (by rw [← m68]; omega), i62 + 1, y53, y56, y59, v54, v57, o60, n72, rfl, (by omega), ha, hB, r38, h45, h55, h58, h6⟩
      · rw [if_neg (by rw [t75]; decide)] at b71
        refine wpC_skip ?_
        refine nx ?_
        refine wpC_seq ?_
        refine wpC_region ?_
        refine st_val (ex_assign rfl) (by decide) trivial ?_
        refine wpF_end (r := [(1, (.pointer (some ⟨b5, 0, none⟩))), (4, v40), (5, v44), (6, v54), (7, v57), (8, (.int .i64 y59)), (9, (.int .i64 i62)), (10, (.slice none 0 0)), (21, (.int .i64 (x8.length : Int))), (22, (.int .i64 i62))]) ⟨rfl, rfl, rfl, rfl, rfl, rfl, rfl, rfl, rfl, rfl, trivial⟩ ?_
        refine nx ?_
        refine wpC_seq ?_
        refine wpC_region ?_
        refine st_val (ex_assign rfl) (by decide) trivial ?_
        refine wpF_end (r := [(1, (.pointer (some ⟨b5, 0, none⟩))), (4, v40), (5, v44), (6, v54), (7, v57), (8, (.int .i64 y59)), (9, (.int .i64 i62)), (10, (.slice none 0 0)), (11, (.bool false)), (21, (.int .i64 (x8.length : Int))), (22, (.int .i64 i62))]) ⟨rfl, rfl, rfl, rfl, rfl, rfl, rfl, rfl, rfl, rfl, rfl, trivial⟩ ?_
        refine nx ?_
        refine wpC_seq ?_
        refine wpC_seq ?_
        refine wpC_region ?_
        refine st_val (ex_move rfl) (by decide) trivial ?_
        refine st_val (ex_move rfl) (by decide) trivial ?_
        obtain ⟨x77, hx77, b71⟩ := bind_some b71
        refine st_op (by decide) trivial ?_
        refine wf_atW r38 hx77 rfl rfl Try.underlying26 Try.sizeOf3 ?_
        intro b78 f79 c80 h81 h82
        cases h82
        refine st_val (ex_load1 rfl Try.isAgg3 (cell_of_cells h81)) (by decide) trivial ?_
        obtain ⟨x83, hx83, b71⟩ := bind_some b71
        refine st_op (by decide) trivial ?_
        refine wf_call (cI_labelsIn fuel w61 o60 16 (by decide) x77 x83 hx83) Try.call60 ⟨rfl, trivial⟩ ?_
        rintro e90 w84 ⟨v85, o91, rfl, h86, k87, k88⟩
        have s89 := k87.stp' 16 k88
        replace h86 := h86.mono hB.keeps.size
        refine ⟨_, rfl, ?_⟩
        replace r38 := r38.stp s89 (by decide) (by decide)
        replace h45 := h45.stp s89 (by decide) (by decide)
        replace h55 := h55.stp s89 (by decide) (by decide)
        replace h58 := h58.stp s89 (by decide) (by decide)
        replace h6 := h6.stp s89 (by decide)
        replace hB := hB.stp s89 (by decide)
        refine st_val (ex_lenO rfl h86 Try.underlying26) (by decide) trivial ?_
        refine st_val (ex_move rfl) (by decide) trivial ?_
        refine wpF_end (r := [(1, (.pointer (some ⟨b5, 0, none⟩))), (4, v40), (5, v44), (6, v54), (7, v57), (8, (.int .i64 y59)), (9, (.int .i64 i62)), (10, (.slice none 0 0)), (11, (.bool false)), (21, (.int .i64 (x8.length : Int))), (22, (.int .i64 i62)), (34, v85), (35, (.int .i64 (x83.length : Int))), (36, (.int .i64 0))]) ⟨rfl, rfl, rfl, rfl, rfl, rfl, rfl, rfl, rfl, rfl, rfl, rfl, rfl, rfl, trivial⟩ ?_
        refine nx ?_
        have h92 : Ow w.heap.size 3 17 o91 w84 (.slice none 0 0) ([] : List Int) := Ow.nil _ _ _ _ _
        obtain ⟨q99, hq99, b71⟩ := bind_some b71
        refine wpC_cutN (fun a w97 => ∃ (y93 : List Int) (v94 : Value) (o96 : Tg), q99 = .inl y93 ∧ Fr a 89 [(1, (.pointer (some ⟨b5, 0, none⟩))), (4, v40), (5, v44), (6, v54), (7, v57), (8, (.int .i64 y59)), (10, v94), (11, (.bool false)), (21, (.int .i64 (x8.length : Int))), (22, (.int .i64 i62))] ∧ Bs oo o96 w w97 ∧ Ow w.heap.size 3 12 o96 w97 v40 x8 ∧ Ow w.heap.size 3 13 o96 w97 v44 x42 ∧ Ow w.heap.size 26 14 o96 w97 v54 y53 ∧ Ow w.heap.size 3 15 o96 w97 v57 y56 ∧ Ow w.heap.size 3 17 o96 w97 v94 y93 ∧ Bx w.heap.size 11 o96 w97 b5 29 [(.int .i64 p0.Labels), v1]) (fun _ _ => False) ?_ ?_ ?_
        · refine wpC_block ?_
          refine wpC_loop (fun (K : Nat) a w97 => ∃ (i98 : Int) (y93 : List Int) (v94 : Value) (o96 : Tg), forI (fI_WalkProblem_walkComponents_s2 x8 i62) (x83.drop i98.toNat) i98 y93 = some q99 ∧ (x83.drop i98.toNat).length = K ∧ 0 ≤ i98 ∧ Fr a 89 [(1, (.pointer (some ⟨b5, 0, none⟩))), (4, v40), (5, v44), (6, v54), (7, v57), (8, (.int .i64 y59)), (9, (.int .i64 i62)), (10, v94), (11, (.bool false)), (21, (.int .i64 (x8.length : Int))), (22, (.int .i64 i62)), (34, v85), (35, (.int .i64 (x83.length : Int))), (36, (.int .i64 i98))] ∧ Bs oo o96 w w97 ∧ Ow w.heap.size 3 12 o96 w97 v40 x8 ∧ Ow w.heap.size 3 13 o96 w97 v44 x42 ∧ Ow w.heap.size 26 14 o96 w97 v54 y53 ∧ Ow w.heap.size 3 15 o96 w97 v57 y56 ∧ Ow w.heap.size 3 17 o96 w97 v94 y93 ∧ Ow w.heap.size 3 16 o96 w97 v85 x83 ∧ Bx w.heap.size 11 o96 w97 b5 29 [(.int .i64 p0.Labels), v1]) _ (fun a ha => ⟨0, [], (.slice none 0 0), o91, hq99, rfl, Int.le_refl 0, ha.sub (r := [(1, (.pointer (some ⟨b5, 0, none⟩))), (4, v40), (5, v44), (6, v54), (7, v57), (8, (.int .i64 y59)), (9, (.int .i64 i62)), (10, (.slice none 0 0)), (11, (.bool false)), (21, (.int .i64 (x8.length : Int))), (22, (.int .i64 i62)), (34, v85), (35, (.int .i64 (x83.length : Int))), (36, (.int .i64 0))]) ⟨rfl, rfl, rfl, rfl, rfl, rfl, rfl, rfl, rfl, rfl, rfl, rfl, rfl, rfl, trivial⟩, hB, r38, h45, h55, h58, h92, h86, h6⟩) ?_
          rintro K103 a w97 ⟨i98, y93, v94, o96, l100, m102, z101, ha, hB, r38, h45, h55, h58, h95, h86, h6⟩
          by_cases t107 : i98 < (x83.length : Int)
          · obtain ⟨x108, q104, hx108, b105, n106⟩ := forI_cons z101 t107 l100
            have hle := h86.len_le
            dsimp only [fI_WalkProblem_walkComponents_s2] at b105
            refine wp_of ha ?_
            refine wpC_seq ?_
            refine wpC_region ?_
            refine st_val (ex_lss rfl rfl) (by decide) trivial ?_
            refine wpF_end (r := [(1, (.pointer (some ⟨b5, 0, none⟩))), (4, v40), (5, v44), (6, v54), (7, v57), (8, (.int .i64 y59)), (9, (.int .i64 i62)), (10, v94), (11, (.bool false)), (21, (.int .i64 (x8.length : Int))), (22, (.int .i64 i62)), (34, v85), (35, (.int .i64 (x83.length : Int))), (36, (.int .i64 i98)), (37, (.bool (decide (i98 < (x83.length : Int)))))]) ⟨rfl, rfl, rfl, rfl, rfl, rfl, rfl, rfl, rfl, rfl, rfl, rfl, rfl, rfl, rfl, trivial⟩ ?_
            refine nx ?_
            refine wpC_seq ?_
            refine wpC_true (congrArg (fun b => some (Value.bool b)) (decide_eq_true t107)) ?_
            refine wpC_skip ?_
            refine nx ?_
            refine wpC_seq ?_
            refine wpC_block ?_
            refine wpC_seq ?_
            refine wpC_region ?_
            refine st_op (by decide) trivial ?_
            refine wf_atW h86 hx108 rfl rfl Try.underlying26 Try.sizeOf3 ?_
            intro b109 f110 c111 h112 h113
            cases h113
            refine st_val (ex_load1 rfl Try.isAgg3 (cell_of_cells h112)) (by decide) trivial ?_
            refine st_val (ex_assign rfl) (by decide) trivial ?_
            refine wpF_end (r := [(1, (.pointer (some ⟨b5, 0, none⟩))), (4, v40), (5, v44), (6, v54), (7, v57), (8, (.int .i64 y59)), (9, (.int .i64 i62)), (10, v94), (11, (.bool false)), (13, (.int .i64 x108)), (21, (.int .i64 (x8.length : Int))), (22, (.int .i64 i62)), (34, v85), (35, (.int .i64 (x83.length : Int))), (36, (.int .i64 i98))]) ⟨rfl, rfl, rfl, rfl, rfl, rfl, rfl, rfl, rfl, rfl, rfl, rfl, rfl, rfl, rfl, trivial⟩ ?_
            refine nx ?_
            refine wpC_seq ?_
            refine wpC_region ?_
            refine st_val (ex_move rfl) (by decide) trivial ?_
            refine st_val (ex_move rfl) (by decide) trivial ?_
            obtain ⟨x114, hx114, b105⟩ := bind_some b105
            refine st_op (by decide) trivial ?_
            refine wf_atW r38 hx114 rfl rfl Try.underlying26 Try.sizeOf3 ?_
            intro b115 f116 c117 h118 h119
            cases h119
            refine st_val (ex_load1 rfl Try.isAgg3 (cell_of_cells h118)) (by decide) trivial ?_
            refine st_val (ex_move rfl) (by decide) trivial ?_
            obtain ⟨x120, hx120, b105⟩ := bind_some b105
            refine st_val (ex_shr rfl rfl hx120) (by decide) trivial ?_
            refine st_val (ex_and rfl rfl) (by decide) trivial ?_
            refine st_val (ex_eql rfl rfl) (by decide) trivial ?_
            refine wpF_end (r := [(1, (.pointer (some ⟨b5, 0, none⟩))), (4, v40), (5, v44), (6, v54), (7, v57), (8, (.int .i64 y59)), (9, (.int .i64 i62)), (10, v94), (11, (.bool false)), (13, (.int .i64 x108)), (21, (.int .i64 (x8.length : Int))), (22, (.int .i64 i62)), (34, v85), (35, (.int .i64 (x83.length : Int))), (36, (.int .i64 i98)), (47, (.bool ((band x120 1) == 1)))]) ⟨rfl, rfl, rfl, rfl, rfl, rfl, rfl, rfl, rfl, rfl, rfl, rfl, rfl, rfl, rfl, rfl, trivial⟩ ?_
            refine nx ?_
            refine wpC_cond rfl (fun t121 => ?_) (fun t121 => ?_)
            · rw [if_pos t121] at b105
              refine wpC_region ?_
              refine st_val (ex_move rfl) (by decide) trivial ?_
              refine st_val (ex_move rfl) (by decide) trivial ?_
              refine st_op (by decide) trivial ?_
              refine wf_litR (o := o96) (cs := [(.int .i64 x108)]) (xs := ([x108] : List Int)) (vs := [(0, (.int .i64 x108))]) ⟨_, _, rfl, rfl, rfl⟩ rfl ⟨rfl, rfl, trivial⟩ Try.underlying26 Try.sizeOf3 Try.zeroValue3 (by decide) (fill1 rfl) (by simp) ?_
              intro o122 w123 v124 h125 s126 k127
              replace r38 := r38.stp s126 (by decide) (by decide)
              replace h45 := h45.stp s126 (by decide) (by decide)
              replace h55 := h55.stp s126 (by decide) (by decide)
              replace h58 := h58.stp s126 (by decide) (by decide)
              replace h95 := h95.stp s126 (by decide) (by decide)
              replace h86 := h86.stp s126 (by decide) (by decide)
              replace h6 := h6.stp s126 (by decide)
              replace hB := hB.stp s126 (by decide)
              obtain ⟨x128, hx128, b105⟩ := bind_some b105
              refine st_op (by decide) trivial ?_
              refine wf_cat h95 h125 (push_cat hx128) (by decide) hB.keeps.size rfl rfl Try.underlying26 info2_t_int_Wb rfl (by decide) ?_
              intro o129 w130 v131 h132 s133
              replace r38 := r38.stp s133 (by decide) (by decide)
              replace h45 := h45.stp s133 (by decide) (by decide)
              replace h55 := h55.stp s133 (by decide) (by decide)
              replace h58 := h58.stp s133 (by decide) (by decide)
              replace h86 := h86.stp s133 (by decide) (by decide)
              replace h125 := h125.stp s133 (by decide)
              replace h6 := h6.stp s133 (by decide)
              replace hB := hB.stp s133 (by decide)
              refine st_val (ex_assign rfl) (by decide) trivial ?_
              refine wpF_end (r := [(1, (.pointer (some ⟨b5, 0, none⟩))), (4, v40), (5, v44), (6, v54), (7, v57), (8, (.int .i64 y59)), (9, (.int .i64 i62)), (10, v131), (11, (.bool false)), (21, (.int .i64 (x8.length : Int))), (22, (.int .i64 i62)), (34, v85), (35, (.int .i64 (x83.length : Int))), (36, (.int .i64 i98))]) ⟨rfl, rfl, rfl, rfl, rfl, rfl, rfl, rfl, rfl, rfl, rfl, rfl, rfl, rfl, trivial⟩ ?_
              refine nb_norm ?_
              refine nx ?_
              refine wpC_region ?_
              refine st_val (ex_add rfl rfl (ck_in (by omega) (by omega))) (by decide) trivial ?_
              refine st_val (ex_move rfl) (by decide) trivial ?_
              refine wpF_end (r := [(1, (.pointer (some ⟨b5, 0, none⟩))), (4, v40), (5, v44), (6, v54), (7, v57), (8, (.int .i64 y59)), (9, (.int .i64 i62)), (10, v131), (11, (.bool false)), (21, (.int .i64 (x8.length : Int))), (22, (.int .i64 i62)), (34, v85), (35, (.int .i64 (x83.length : Int))), (36, (.int .i64 (i98 + 1)))]) ⟨rfl, rfl, rfl, rfl, rfl, rfl, rfl, rfl, rfl, rfl, rfl, rfl, rfl, rfl, trivial⟩ ?_
              refine nt_norm ?_
              have e134 := Option.some.inj b105
              subst e134
              refine to_k (r := [(1, (.pointer (some ⟨b5, 0, none⟩))), (4, v40), (5, v44), (6, v54), (7, v57), (8, (.int .i64 y59)), (9, (.int .i64 i62)), (10, v131), (11, (.bool false)), (21, (.int .i64 (x8.length : Int))), (22, (.int .i64 i62)), (34, v85), (35, (.int .i64 (x83.length : Int))), (36, (.int .i64 (i98 + 1)))]) ⟨rfl, rfl, rfl, rfl, rfl, rfl, rfl, rfl, rfl, rfl, rfl, rfl, rfl, rfl, trivial⟩ ?_
              intro a ha
              exact ⟨_, (by rw [← m102]; simp only [List.length_drop]; omega), i98 + 1, x128, v131, o129, n106, rfl, (by omega), ha, hB, r38, h45, h55, h58, h132, h86, h6⟩
            · rw [if_neg (by rw [t121]; decide)] at b105
              refine wpC_skip ?_
              refine nb_norm ?_
              refine nx ?_
              refine wpC_region ?_
              refine st_val (ex_add rfl rfl (ck_in (by omega) (by omega))) (by decide) trivial ?_
              refine st_val (ex_move rfl) (by decide) trivial ?_
              refine wpF_end (r := [(1, (.pointer (some ⟨b5, 0, none⟩))), (4, v40), (5, v44), (6, v54), (7, v57), (8, (.int .i64 y59)), (9, (.int .i64 i62)), (10, v94), (11, (.bool false)), (21, (.int .i64 (x8.length : Int))), (22, (.int .i64 i62)), (34, v85), (35, (.int .i64 (x83.length : Int))), (36, (.int .i64 (i98 + 1)))]) ⟨rfl, rfl, rfl, rfl, rfl, rfl, rfl, rfl, rfl, rfl, rfl, rfl, rfl, rfl, trivial⟩ ?_
              refine nt_norm ?_
              have e135 := Option.some.inj b105
              subst e135
              refine to_k (r := [(1, (.pointer (some ⟨b5, 0, none⟩))), (4, v40), (5, v44), (6, v54), (7, v57), (8, (.int .i64 y59)), (9, (.int .i64 i62)), (10, v94), (11, (.bool false)), (21, (.int .i64 (x8.length : Int))), (22, (.int .i64 i62)), (34, v85), (35, (.int .i64 (x83.length : Int))), (36, (.int .i64 (i98 + 1)))]) ⟨rfl, rfl, rfl, rfl, rfl, rfl, rfl, rfl, rfl, rfl, rfl, rfl, rfl, rfl, trivial⟩ ?_
              intro a ha
              exact ⟨_, (by rw [← m102]; simp only [List.length_drop]; omega), i98 + 1, y93, v94, o96, n106, rfl, (by omega), ha, hB, r38, h45, h55, h58, h95, h86, h6⟩
          · have r136 := forI_done t107 l100
            refine wp_of ha ?_
            refine wpC_seq ?_
            refine wpC_region ?_
            refine st_val (ex_lss rfl rfl) (by decide) trivial ?_
            refine wpF_end (r := [(1, (.pointer (some ⟨b5, 0, none⟩))), (4, v40), (5, v44), (6, v54), (7, v57), (8, (.int .i64 y59)), (9, (.int .i64 i62)), (10, v94), (11, (.bool false)), (21, (.int .i64 (x8.length : Int))), (22, (.int .i64 i62)), (34, v85), (35, (.int .i64 (x83.length : Int))), (36, (.int .i64 i98)), (37, (.bool (decide (i98 < (x83.length : Int)))))]) ⟨rfl, rfl, rfl, rfl, rfl, rfl, rfl, rfl, rfl, rfl, rfl, rfl, rfl, rfl, rfl, trivial⟩ ?_
            refine nx ?_
            refine wpC_seq ?_
            refine wpC_false (congrArg (fun b => some (Value.bool b)) (decide_eq_false t107)) ?_
            refine wpC_exit ?_
            refine nt_exit ?_
            refine nt_exit ?_
            refine nb_hit ?_
            refine np_norm ?_
            refine to_k (r := [(1, (.pointer (some ⟨b5, 0, none⟩))), (4, v40), (5, v44), (6, v54), (7, v57), (8, (.int .i64 y59)), (10, v94), (11, (.bool false)), (21, (.int .i64 (x8.length : Int))), (22, (.int .i64 i62))]) ⟨rfl, rfl, rfl, rfl, rfl, rfl, rfl, rfl, rfl, rfl, trivial⟩ ?_
            intro a ha
            exact ⟨y93, v94, o96, r136, ha, hB, r38, h45, h55, h58, h95, h6⟩
        · rintro a w97 ⟨y93, v94, o96, rfl, ha, hB, r38, h45, h55, h58, h95, h6⟩
          dsimp only at b71
          refine ap_k ha ?_
          refine nx ?_
          refine wpC_seq ?_
          refine wpC_region ?_
          refine st_val (ex_move rfl) (by decide) trivial ?_
          refine st_val (ex_move rfl) (by decide) trivial ?_
          obtain ⟨x137, hx137, b71⟩ := bind_some b71
          refine st_op (by decide) trivial ?_
          refine wf_call (cI_setOf w97 _ y93 h95.z x137 hx137) Try.call81 ⟨rfl, trivial⟩ ?_
          rintro e142 w138 ⟨rfl, k139⟩
          have s141 := k139.stp 999 o96
          refine ⟨_, rfl, ?_⟩
          replace r38 := r38.stp s141 (by decide) (by decide)
          replace h45 := h45.stp s141 (by decide) (by decide)
          replace h55 := h55.stp s141 (by decide) (by decide)
          replace h58 := h58.stp s141 (by decide) (by decide)
          replace h95 := h95.stp s141 (by decide) (by decide)
          replace h6 := h6.stp s141 (by decide)
          replace hB := hB.stp s141 (by decide)
          refine st_val (ex_or rfl rfl) (by decide) trivial ?_
          refine st_val (ex_assign rfl) (by decide) trivial ?_
          refine wpF_end (r := [(1, (.pointer (some ⟨b5, 0, none⟩))), (4, v40), (5, v44), (6, v54), (7, v57), (8, (.int .i64 (bor y59 x137))), (10, v94), (11, (.bool false)), (21, (.int .i64 (x8.length : Int))), (22, (.int .i64 i62))]) ⟨rfl, rfl, rfl, rfl, rfl, rfl, rfl, rfl, rfl, rfl, trivial⟩ ?_
          refine nx ?_
          refine wpC_seq ?_
          refine wpC_seq ?_
          refine wpC_region ?_
          refine st_val (ex_move rfl) (by decide) trivial ?_
          refine st_val (ex_lenO rfl h95 Try.underlying26) (by decide) trivial ?_
          refine st_val (ex_move rfl) (by decide) trivial ?_
          refine wpF_end (r := [(1, (.pointer (some ⟨b5, 0, none⟩))), (4, v40), (5, v44), (6, v54), (7, v57), (8, (.int .i64 (bor y59 x137))), (10, v94), (11, (.bool false)), (21, (.int .i64 (x8.length : Int))), (22, (.int .i64 i62)), (57, v94), (58, (.int .i64 (y93.length : Int))), (59, (.int .i64 0))]) ⟨rfl, rfl, rfl, rfl, rfl, rfl, rfl, rfl, rfl, rfl, rfl, rfl, rfl, trivial⟩ ?_
          refine nx ?_
          obtain ⟨q147, hq147, b71⟩ := bind_some b71
          refine wpC_cutN (fun a w145 => ∃ (y143 : Bool) (o144 : Tg), q147 = .inl y143 ∧ Fr a 89 [(1, (.pointer (some ⟨b5, 0, none⟩))), (4, v40), (5, v44), (6, v54), (7, v57), (8, (.int .i64 (bor y59 x137))), (10, v94), (11, (.bool y143)), (21, (.int .i64 (x8.length : Int))), (22, (.int .i64 i62))] ∧ Bs oo o144 w w145 ∧ Ow w.heap.size 3 12 o144 w145 v40 x8 ∧ Ow w.heap.size 3 13 o144 w145 v44 x42 ∧ Ow w.heap.size 26 14 o144 w145 v54 y53 ∧ Ow w.heap.size 3 15 o144 w145 v57 y56 ∧ Ow w.heap.size 3 17 o144 w145 v94 y93 ∧ Bx w.heap.size 11 o144 w145 b5 29 [(.int .i64 p0.Labels), v1]) (fun _ _ => False) ?_ ?_ ?_
          · refine wpC_block ?_
            refine wpC_loop (fun (K : Nat) a w145 => ∃ (i146 : Int) (y143 : Bool) (o144 : Tg), forI (fI_WalkProblem_walkComponents_s3 x42 y93) (y93.drop i146.toNat) i146 y143 = some q147 ∧ (y93.drop i146.toNat).length = K ∧ 0 ≤ i146 ∧ Fr a 89 [(1, (.pointer (some ⟨b5, 0, none⟩))), (4, v40), (5, v44), (6, v54), (7, v57), (8, (.int .i64 (bor y59 x137))), (10, v94), (11, (.bool y143)), (21, (.int .i64 (x8.length : Int))), (22, (.int .i64 i62)), (57, v94), (58, (.int .i64 (y93.length : Int))), (59, (.int .i64 i146))] ∧ Bs oo o144 w w145 ∧ Ow w.heap.size 3 12 o144 w145 v40 x8 ∧ Ow w.heap.size 3 13 o144 w145 v44 x42 ∧ Ow w.heap.size 26 14 o144 w145 v54 y53 ∧ Ow w.heap.size 3 15 o144 w145 v57 y56 ∧ Ow w.heap.size 3 17 o144 w145 v94 y93 ∧ Bx w.heap.size 11 o144 w145 b5 29 [(.int .i64 p0.Labels), v1]) _ (fun a ha => ⟨0, false, o96, hq147, rfl, Int.le_refl 0, ha.sub (r := [(1, (.pointer (some ⟨b5, 0, none⟩))), (4, v40), (5, v44), (6, v54), (7, v57), (8, (.int .i64 (bor y59 x137))), (10, v94), (11, (.bool false)), (21, (.int .i64 (x8.length : Int))), (22, (.int .i64 i62)), (57, v94), (58, (.int .i64 (y93.length : Int))), (59, (.int .i64 0))]) ⟨rfl, rfl, rfl, rfl, rfl, rfl, rfl, rfl, rfl, rfl, rfl, rfl, rfl, trivial⟩, hB, r38, h45, h55, h58, h95, h6⟩) ?_
            rintro K151 a w145 ⟨i146, y143, o144, l148, m150, z149, ha, hB, r38, h45, h55, h58, h95, h6⟩
            by_cases t155 : i146 < (y93.length : Int)
            · obtain ⟨x156, q152, hx156, b153, n154⟩ := forI_cons z149 t155 l148
              have hle := h95.len_le
              dsimp only [fI_WalkProblem_walkComponents_s3] at b153
              refine wp_of ha ?_
              refine wpC_seq ?_
              refine wpC_region ?_
              refine st_val (ex_lss rfl rfl) (by decide) trivial ?_
              refine wpF_end (r := [(1, (.pointer (some ⟨b5, 0, none⟩))), (4, v40), (5, v44), (6, v54), (7, v57), (8, (.int .i64 (bor y59 x137))), (10, v94), (11, (.bool y143)), (21, (.int .i64 (x8.length : Int))), (22, (.int .i64 i62)), (57, v94), (58, (.int .i64 (y93.length : Int))), (59, (.int .i64 i146)), (60, (.bool (decide (i146 < (y93.length : Int)))))]) ⟨rfl, rfl, rfl, rfl, rfl, rfl, rfl, rfl, rfl, rfl, rfl, rfl, rfl, rfl, trivial⟩ ?_
              refine nx ?_
              refine wpC_seq ?_
              refine wpC_true (congrArg (fun b => some (Value.bool b)) (decide_eq_true t155)) ?_
              refine wpC_skip ?_
              refine nx ?_
              refine wpC_seq ?_
              refine wpC_block ?_
              refine wpC_seq ?_
              refine wpC_region ?_
              refine st_op (by decide) trivial ?_
              refine wf_atW h95 hx156 rfl rfl Try.underlying26 Try.sizeOf3 ?_
              intro b157 f158 c159 h160 h161
              cases h161
              refine st_val (ex_load1 rfl Try.isAgg3 (cell_of_cells h160)) (by decide) trivial ?_
              refine st_val (ex_assign rfl) (by decide) trivial ?_
              refine wpF_end (r := [(1, (.pointer (some ⟨b5, 0, none⟩))), (4, v40), (5, v44), (6, v54), (7, v57), (8, (.int .i64 (bor y59 x137))), (10, v94), (11, (.bool y143)), (15, (.int .i64 x156)), (21, (.int .i64 (x8.length : Int))), (22, (.int .i64 i62)), (57, v94), (58, (.int .i64 (y93.length : Int))), (59, (.int .i64 i146))]) ⟨rfl, rfl, rfl, rfl, rfl, rfl, rfl, rfl, rfl, rfl, rfl, rfl, rfl, rfl, trivial⟩ ?_
              refine nx ?_
              obtain ⟨q162, hq162, b153⟩ := bind_some b153
              refine wpC_cutN (fun a165 w164 => ∃ o163 : Tg, Fr a165 89 [(1, (.pointer (some ⟨b5, 0, none⟩))), (4, v40), (5, v44), (6, v54), (7, v57), (8, (.int .i64 (bor y59 x137))), (10, v94), (11, (.bool q162)), (21, (.int .i64 (x8.length : Int))), (22, (.int .i64 i62)), (57, v94), (58, (.int .i64 (y93.length : Int))), (59, (.int .i64 i146))] ∧ Bs oo o163 w w164 ∧ Ow w.heap.size 3 12 o163 w164 v40 x8 ∧ Ow w.heap.size 3 13 o163 w164 v44 x42 ∧ Ow w.heap.size 26 14 o163 w164 v54 y53 ∧ Ow w.heap.size 3 15 o163 w164 v57 y56 ∧ Ow w.heap.size 3 17 o163 w164 v94 y93 ∧ Bx w.heap.size 11 o163 w164 b5 29 [(.int .i64 p0.Labels), v1]) (fun _ _ => False) ?_ ?_ (fun _ _ h => h.elim)
              · rcases Bool.eq_false_or_eq_true (y143) with t166 | t166
                · rw [if_pos t166] at hq162
                  refine wpC_drawn (o := o144) [(1, (.pointer (some ⟨b5, 0, none⟩))), (4, v40), (5, v44), (6, v54), (7, v57), (8, (.int .i64 (bor y59 x137))), (10, v94), (11, (.bool y143)), (15, (.int .i64 x156)), (21, (.int .i64 (x8.length : Int))), (22, (.int .i64 i62)), (57, v94), (58, (.int .i64 (y93.length : Int))), (59, (.int .i64 i146))] [1, 4, 5, 6, 7, 8, 10, 11, 15, 21, 22, 57, 58, 59] [63, 64, 65, 66, 67, 68, 69, 70] [[], [0], [1], [1], [1], [1], [1], [1]] [none, none, none, none, none, none, none, none] [999, 999, 999, 999, 999, 999, 999, 999] [0, 0, 0, 0, 0, 0, 0, 0] [999] [fun v _ _ => v = (.bool y143), fun v _ _ => v = (.bool y143), fun v _ _ => v = undef, fun v _ _ => v = undef, fun v _ _ => v = undef, fun v _ _ => v = undef, fun v _ _ => v = undef, fun v _ _ => v = undef] (fun o8 w8 => Bs oo o8 w w8 ∧ Ow w.heap.size 3 12 o8 w8 v40 x8 ∧ Ow w.heap.size 3 13 o8 w8 v44 x42 ∧ Ow w.heap.size 26 14 o8 w8 v54 y53 ∧ Ow w.heap.size 3 15 o8 w8 v57 y56 ∧ Ow w.heap.size 3 17 o8 w8 v94 y93 ∧ Bx w.heap.size 11 o8 w8 b5 29 [(.int .i64 p0.Labels), v1]) follows_mixed (by kernel_rfl) rfl ⟨rfl, rfl, rfl, rfl, rfl, rfl, rfl, rfl, rfl, rfl, rfl, rfl, rfl, rfl, trivial⟩ ⟨hB, r38, h45, h55, h58, h95, h6⟩ ?_ ⟨st_eq _, st_eq _, st_eq _, st_eq _, st_eq _, st_eq _, st_eq _, st_eq _, trivial⟩ ?_ ?_
                  · rintro t9 o1 w1 o2 w2 ht9 ⟨hB, r38, h45, h55, h58, h95, h6⟩ hs9
                    have ht9 : t9 = 999 := by simpa using ht9
                    subst ht9
                    all_goals exact ⟨hB.stp hs9 (by decide), r38.stp hs9 (by decide) (by decide), h45.stp hs9 (by decide) (by decide), h55.stp hs9 (by decide) (by decide), h58.stp hs9 (by decide) (by decide), h95.stp hs9 (by decide) (by decide), h6.stp hs9 (by decide)⟩
                  · refine ⟨?_, ?_, ?_, ?_, ?_, ?_, ?_, ?_, trivial⟩
                    · rintro o167 w168 a169 ha ⟨hB, r38, h45, h55, h58, h95, h6⟩ -
                      refine opS_of ha (trivial) ?_
                      refine op1_val (ex_move rfl) ?_
                      exact ⟨_, Stp.refl _ _ _, rfl⟩
                    · rintro o170 w171 a172 ha ⟨hB, r38, h45, h55, h58, h95, h6⟩ ⟨r173, -⟩
                      have ha := Fr.cons (d := 63) ha r173
                      refine opS_of ha (trivial) ?_
                      refine op1_val (ex_move rfl) ?_
                      exact ⟨_, Stp.refl _ _ _, rfl⟩
                    · rintro o174 w175 a176 ha ⟨hB, r38, h45, h55, h58, h95, h6⟩ ⟨r177, -⟩
                      have ha := Fr.cons (d := 64) ha r177
                      exact opS_no ha rfl rfl rfl (by rw [t166]; rfl) ⟨_, Stp.refl _ _ _, rfl⟩
                    · rintro o178 w179 a180 ha ⟨hB, r38, h45, h55, h58, h95, h6⟩ ⟨r181, -⟩
                      have ha := Fr.cons (d := 64) ha r181
                      exact opS_no ha rfl rfl rfl (by rw [t166]; rfl) ⟨_, Stp.refl _ _ _, rfl⟩
                    · rintro o182 w183 a184 ha ⟨hB, r38, h45, h55, h58, h95, h6⟩ ⟨r185, -⟩
                      have ha := Fr.cons (d := 64) ha r185
                      exact opS_no ha rfl rfl rfl (by rw [t166]; rfl) ⟨_, Stp.refl _ _ _, rfl⟩
                    · rintro o186 w187 a188 ha ⟨hB, r38, h45, h55, h58, h95, h6⟩ ⟨r189, -⟩
                      have ha := Fr.cons (d := 64) ha r189
                      exact opS_no ha rfl rfl rfl (by rw [t166]; rfl) ⟨_, Stp.refl _ _ _, rfl⟩
                    · rintro o190 w191 a192 ha ⟨hB, r38, h45, h55, h58, h95, h6⟩ ⟨r193, -⟩
                      have ha := Fr.cons (d := 64) ha r193
                      exact opS_no ha rfl rfl rfl (by rw [t166]; rfl) ⟨_, Stp.refl _ _ _, rfl⟩
                    · rintro o194 w195 a196 ha ⟨hB, r38, h45, h55, h58, h95, h6⟩ ⟨r197, -⟩
                      have ha := Fr.cons (d := 64) ha r197
                      exact opS_no ha rfl rfl rfl (by rw [t166]; rfl) ⟨_, Stp.refl _ _ _, rfl⟩
                  rintro o198 w199 a200 ha ⟨hB, r38, h45, h55, h58, h95, h6⟩ ⟨-, r201, -, -, -, r202, -, r203, -⟩
                  have ha := Fr.cons (d := 64) ha r201
                  have ha := Fr.cons (d := 68) ha r202
                  have ha := Fr.cons (d := 70) ha r203
                  refine wl_of ha ?_
                  simp only [List.length_cons, List.length_nil, Nat.zero_add, Nat.reduceAdd, List.drop_succ_cons, List.drop_zero]
                  refine st_no rfl rfl (by rw [t166]; rfl) (by decide) ?_
                  refine st_no rfl rfl (by rw [t166]; rfl) (by decide) ?_
                  refine st_val (ex_pick_t (congrArg (fun b => some (Value.bool b)) t166) rfl) (by decide) trivial ?_
                  refine st_val (ex_assign rfl) (by decide) trivial ?_
                  have e204 := Option.some.inj hq162
                  subst e204
                  refine wpF_end (r := [(1, (.pointer (some ⟨b5, 0, none⟩))), (4, v40), (5, v44), (6, v54), (7, v57), (8, (.int .i64 (bor y59 x137))), (10, v94), (11, (.bool true)), (21, (.int .i64 (x8.length : Int))), (22, (.int .i64 i62)), (57, v94), (58, (.int .i64 (y93.length : Int))), (59, (.int .i64 i146))]) ⟨rfl, rfl, rfl, rfl, rfl, rfl, rfl, rfl, rfl, rfl, rfl, rfl, rfl, trivial⟩ ?_
                  refine np_norm (fun a ha => ⟨o198, ha, hB, r38, h45, h55, h58, h95, h6⟩)
                · rw [if_neg (by rw [t166]; decide)] at hq162
                  obtain ⟨x205, hx205, hq162⟩ := bind_some hq162
                  obtain ⟨x208, hx208, hq162⟩ := bind_some hq162
                  refine wpC_drawn (o := o144) [(1, (.pointer (some ⟨b5, 0, none⟩))), (4, v40), (5, v44), (6, v54), (7, v57), (8, (.int .i64 (bor y59 x137))), (10, v94), (11, (.bool y143)), (15, (.int .i64 x156)), (21, (.int .i64 (x8.length : Int))), (22, (.int .i64 i62)), (57, v94), (58, (.int .i64 (y93.length : Int))), (59, (.int .i64 i146))] [1, 4, 5, 6, 7, 8, 10, 11, 15, 21, 22, 57, 58, 59] [63, 64, 65, 66, 67, 68, 69, 70] [[], [0], [1], [1], [1, 2, 3], [1, 4], [1], [1, 6]] [none, none, none, none, none, none, none, none] [999, 999, 999, 999, 999, 999, 999, 999] [0, 0, 0, 0, 13, 0, 0, 0] [999] [fun v _ _ => v = (.bool y143), fun v _ _ => v = (.bool y143), fun v _ _ => v = v44, fun v _ _ => v = (.int .i64 x156), fun v o w9 => ∃ vl, v = adr vl (x156.toNat * Rp.sz Int) ∧ Ow w.heap.size 3 13 o w9 vl x42, fun v _ _ => v = (.int .i64 x205), fun v _ _ => v = v94, fun v _ _ => v = (.int .i64 x208)] (fun o8 w8 => Bs oo o8 w w8 ∧ Ow w.heap.size 3 12 o8 w8 v40 x8 ∧ Ow w.heap.size 3 13 o8 w8 v44 x42 ∧ Ow w.heap.size 26 14 o8 w8 v54 y53 ∧ Ow w.heap.size 3 15 o8 w8 v57 y56 ∧ Ow w.heap.size 3 17 o8 w8 v94 y93 ∧ Bx w.heap.size 11 o8 w8 b5 29 [(.int .i64 p0.Labels), v1]) follows_mixed (by kernel_rfl) rfl ⟨rfl, rfl, rfl, rfl, rfl, rfl, rfl, rfl, rfl, rfl, rfl, rfl, rfl, rfl, trivial⟩ ⟨hB, r38, h45, h55, h58, h95, h6⟩ ?_ ⟨st_eq _, st_eq _, st_eq _, st_eq _, fun _ _ _ _ _ _ h0 hb ⟨vl, e, h⟩ hs => ⟨vl, e, h.stp hs h0.1 (Ne.symm hb)⟩, st_eq _, st_eq _, st_eq _, trivial⟩ ?_ ?_
                  · rintro t9 o1 w1 o2 w2 ht9 ⟨hB, r38, h45, h55, h58, h95, h6⟩ hs9
                    have ht9 : t9 = 999 := by simpa using ht9
                    subst ht9
                    all_goals exact ⟨hB.stp hs9 (by decide), r38.stp hs9 (by decide) (by decide), h45.stp hs9 (by decide) (by decide), h55.stp hs9 (by decide) (by decide), h58.stp hs9 (by decide) (by decide), h95.stp hs9 (by decide) (by decide), h6.stp hs9 (by decide)⟩
                  · refine ⟨?_, ?_, ?_, ?_, ?_, ?_, ?_, ?_, trivial⟩
                    · rintro o214 w215 a216 ha ⟨hB, r38, h45, h55, h58, h95, h6⟩ -
                      refine opS_of ha (trivial) ?_
                      refine op1_val (ex_move rfl) ?_
                      exact ⟨_, Stp.refl _ _ _, rfl⟩
                    · rintro o217 w218 a219 ha ⟨hB, r38, h45, h55, h58, h95, h6⟩ ⟨r220, -⟩
                      have ha := Fr.cons (d := 63) ha r220
                      refine opS_of ha (trivial) ?_
                      refine op1_val (ex_move rfl) ?_
                      exact ⟨_, Stp.refl _ _ _, rfl⟩
                    · rintro o221 w222 a223 ha ⟨hB, r38, h45, h55, h58, h95, h6⟩ ⟨r224, -⟩
                      have ha := Fr.cons (d := 64) ha r224
                      refine opS_of ha (⟨_, rfl, (congrArg (fun b => some (Value.bool b)) t166)⟩) ?_
                      refine op1_val (ex_move rfl) ?_
                      exact ⟨_, Stp.refl _ _ _, rfl⟩
                    · rintro o225 w226 a227 ha ⟨hB, r38, h45, h55, h58, h95, h6⟩ ⟨r228, -⟩
                      have ha := Fr.cons (d := 64) ha r228
                      refine opS_of ha (⟨_, rfl, (congrArg (fun b => some (Value.bool b)) t166)⟩) ?_
                      refine op1_val (ex_move rfl) ?_
                      exact ⟨_, Stp.refl _ _ _, rfl⟩
                    · rintro o229 w230 a231 ha ⟨hB, r38, h45, h55, h58, h95, h6⟩ ⟨r232, r233, r234, -⟩
                      have ha := Fr.cons (d := 64) ha r232
                      have ha := Fr.cons (d := 65) ha r233
                      have ha := Fr.cons (d := 66) ha r234
                      refine opS_of ha (⟨_, rfl, (congrArg (fun b => some (Value.bool b)) t166)⟩) ?_
                      refine wd_indexW h45 hx205 rfl rfl Try.underlying26 Try.sizeOf3 ?_
                      exact ⟨_, Stp.refl _ _ _, ⟨_, rfl, h45⟩⟩
                    · rintro o235 w236 a237 ha ⟨hB, r38, h45, h55, h58, h95, h6⟩ ⟨r238, r239, -⟩
                      have ha := Fr.cons (d := 64) ha r238
                      obtain ⟨v240, e241, h242⟩ := r239
                      have ha := Fr.cons (d := 67) ha e241
                      refine opS_of ha (⟨_, rfl, (congrArg (fun b => some (Value.bool b)) t166)⟩) ?_
                      refine wd_load1W h242 hx205 rfl rfl Try.isAgg3 ?_
                      intro c243 h244
                      cases h244
                      exact ⟨_, Stp.refl _ _ _, rfl⟩
                    · rintro o245 w246 a247 ha ⟨hB, r38, h45, h55, h58, h95, h6⟩ ⟨r248, -⟩
                      have ha := Fr.cons (d := 64) ha r248
                      refine opS_of ha (⟨_, rfl, (congrArg (fun b => some (Value.bool b)) t166)⟩) ?_
                      refine op1_val (ex_move rfl) ?_
                      exact ⟨_, Stp.refl _ _ _, rfl⟩
                    · rintro o249 w250 a251 ha ⟨hB, r38, h45, h55, h58, h95, h6⟩ ⟨r252, r253, -⟩
                      have ha := Fr.cons (d := 64) ha r252
                      have ha := Fr.cons (d := 69) ha r253
                      refine opS_of ha (⟨_, rfl, (congrArg (fun b => some (Value.bool b)) t166)⟩) ?_
                      refine wf_call (cI_setOf w250 _ y93 h95.z x208 hx208) Try.call81 ⟨rfl, trivial⟩ ?_
                      rintro e258 w254 ⟨rfl, k255⟩
                      have s257 := k255.stp 999 o249
                      refine ⟨_, rfl, ?_⟩
                      replace r38 := r38.stp s257 (by decide) (by decide)
                      replace h45 := h45.stp s257 (by decide) (by decide)
                      replace h55 := h55.stp s257 (by decide) (by decide)
                      replace h58 := h58.stp s257 (by decide) (by decide)
                      replace h95 := h95.stp s257 (by decide) (by decide)
                      replace h6 := h6.stp s257 (by decide)
                      replace hB := hB.stp s257 (by decide)
                      exact ⟨_, s257, rfl⟩
                  rintro o259 w260 a261 ha ⟨hB, r38, h45, h55, h58, h95, h6⟩ ⟨-, r262, -, -, -, r263, -, r264, -⟩
                  have ha := Fr.cons (d := 64) ha r262
                  have ha := Fr.cons (d := 68) ha r263
                  have ha := Fr.cons (d := 70) ha r264
                  refine wl_of ha ?_
                  simp only [List.length_cons, List.length_nil, Nat.zero_add, Nat.reduceAdd, List.drop_succ_cons, List.drop_zero]
                  refine st_val (ex_and rfl rfl) (by decide) ⟨_, rfl, (congrArg (fun b => some (Value.bool b)) t166)⟩ ?_
                  refine st_val (ex_neq rfl rfl) (by decide) ⟨_, rfl, (congrArg (fun b => some (Value.bool b)) t166)⟩ ?_
                  refine st_val (ex_pick_f (congrArg (fun b => some (Value.bool b)) t166) rfl) (by decide) trivial ?_
                  refine st_val (ex_assign rfl) (by decide) trivial ?_
                  have e265 := Option.some.inj hq162
                  subst e265
                  refine wpF_end (r := [(1, (.pointer (some ⟨b5, 0, none⟩))), (4, v40), (5, v44), (6, v54), (7, v57), (8, (.int .i64 (bor y59 x137))), (10, v94), (11, (.bool ((band x205 x208) != 0))), (21, (.int .i64 (x8.length : Int))), (22, (.int .i64 i62)), (57, v94), (58, (.int .i64 (y93.length : Int))), (59, (.int .i64 i146))]) ⟨rfl, rfl, rfl, rfl, rfl, rfl, rfl, rfl, rfl, rfl, rfl, rfl, rfl, trivial⟩ ?_
                  refine np_norm (fun a ha => ⟨o259, ha, hB, r38, h45, h55, h58, h95, h6⟩)
              rintro a266 w164 ⟨o163, ha, hB, r38, h45, h55, h58, h95, h6⟩
              refine ap_k ha ?_
              refine nb_norm ?_
              refine nx ?_
              refine wpC_region ?_
              refine st_val (ex_add rfl rfl (ck_in (by omega) (by omega))) (by decide) trivial ?_
              refine st_val (ex_move rfl) (by decide) trivial ?_
              refine wpF_end (r := [(1, (.pointer (some ⟨b5, 0, none⟩))), (4, v40), (5, v44), (6, v54), (7, v57), (8, (.int .i64 (bor y59 x137))), (10, v94), (11, (.bool q162)), (21, (.int .i64 (x8.length : Int))), (22, (.int .i64 i62)), (57, v94), (58, (.int .i64 (y93.length : Int))), (59, (.int .i64 (i146 + 1)))]) ⟨rfl, rfl, rfl, rfl, rfl, rfl, rfl, rfl, rfl, rfl, rfl, rfl, rfl, trivial⟩ ?_
              refine nt_norm ?_
              have e267 := Option.some.inj b153
              subst e267
              refine to_k (r := [(1, (.pointer (some ⟨b5, 0, none⟩))), (4, v40), (5, v44), (6, v54), (7, v57), (8, (.int .i64 (bor y59 x137))), (10, v94), (11, (.bool q162)), (21, (.int .i64 (x8.length : Int))), (22, (.int .i64 i62)), (57, v94), (58, (.int .i64 (y93.length : Int))), (59, (.int .i64 (i146 + 1)))]) ⟨rfl, rfl, rfl, rfl, rfl, rfl, rfl, rfl, rfl, rfl, rfl, rfl, rfl, trivial⟩ ?_
              intro a ha
              exact ⟨_, (by rw [← m150]; simp only [List.length_drop]; omega), i146 + 1, q162, o163, n154, rfl, (by omega), ha, hB, r38, h45, h55, h58, h95, h6⟩
            · have r268 := forI_done t155 l148
              refine wp_of ha ?_
              refine wpC_seq ?_
              refine wpC_region ?_
              refine st_val (ex_lss rfl rfl) (by decide) trivial ?_
              refine wpF_end (r := [(1, (.pointer (some ⟨b5, 0, none⟩))), (4, v40), (5, v44), (6, v54), (7, v57), (8, (.int .i64 (bor y59 x137))), (10, v94), (11, (.bool y143)), (21, (.int .i64 (x8.length : Int))), (22, (.int .i64 i62)), (57, v94), (58, (.int .i64 (y93.length : Int))), (59, (.int .i64 i146)), (60, (.bool (decide (i146 < (y93.length : Int)))))]) ⟨rfl, rfl, rfl, rfl, rfl, rfl, rfl, rfl, rfl, rfl, rfl, rfl, rfl, rfl, trivial⟩ ?_
              refine nx ?_
              refine wpC_seq ?_
              refine wpC_false (congrArg (fun b => some (Value.bool b)) (decide_eq_false t155)) ?_
              refine wpC_exit ?_
              refine nt_exit ?_
              refine nt_exit ?_
              refine nb_hit ?_
              refine np_norm ?_
              refine to_k (r := [(1, (.pointer (some ⟨b5, 0, none⟩))), (4, v40), (5, v44), (6, v54), (7, v57), (8, (.int .i64 (bor y59 x137))), (10, v94), (11, (.bool y143)), (21, (.int .i64 (x8.length : Int))), (22, (.int .i64 i62))]) ⟨rfl, rfl, rfl, rfl, rfl, rfl, rfl, rfl, rfl, rfl, trivial⟩ ?_
              intro a ha
              exact ⟨y143, o144, r268, ha, hB, r38, h45, h55, h58, h95, h6⟩
          · rintro a w145 ⟨y143, o144, rfl, ha, hB, r38, h45, h55, h58, h95, h6⟩
            dsimp only at b71
            refine ap_k ha ?_
            refine nx ?_
            refine wpC_seq ?_
            refine wpC_region ?_
            refine st_val (ex_move rfl) (by decide) trivial ?_
            refine wpF_end (r := [(1, (.pointer (some ⟨b5, 0, none⟩))), (4, v40), (5, v44), (6, v54), (7, v57), (8, (.int .i64 (bor y59 x137))), (10, v94), (21, (.int .i64 (x8.length : Int))), (22, (.int .i64 i62)), (75, (.bool y143))]) ⟨rfl, rfl, rfl, rfl, rfl, rfl, rfl, rfl, rfl, rfl, trivial⟩ ?_
            refine nx ?_
            refine wpC_cond rfl (fun t269 => ?_) (fun t269 => ?_)
            · rw [if_pos t269] at b71
              replace r38 := r38.frz_ne (j := 17) (by decide)
              replace h45 := h45.frz_ne (j := 17) (by decide)
              replace h55 := h55.frz_ne (j := 17) (by decide)
              replace h58 := h58.frz_ne (j := 17) (by decide)
              have h270 := h95.frzF
              replace h95 := h95.frz
              replace h6 := h6.frz_ne (j := 17) (by decide)
              replace hB := hB.frz 17 (by decide)
              generalize (frz 17 o144) = o271 at *
              obtain ⟨x278, hx278, b71⟩ := bind_some b71
              obtain ⟨x284, hx284, b71⟩ := bind_some b71
              refine wpC_drawnS (o := o271) [(1, (.pointer (some ⟨b5, 0, none⟩))), (4, v40), (5, v44), (6, v54), (7, v57), (8, (.int .i64 (bor y59 x137))), (10, v94), (21, (.int .i64 (x8.length : Int))), (22, (.int .i64 i62))] [1, 4, 5, 6, 7, 8, 10, 21, 22] [76, 77, 78, 79, 80, 81, 82, 83, 84] [[], [], [1], [0, 2], [], [], [], [5, 6], [7]] [none, none, none, none, none, none, none, none, none] [999, 999, 999, 14, 999, 999, 999, 999, 999] [0, 0, 0, 14, 0, 0, 0, 0, 0] [14, 999] [3] [14] [[0], [], [0], [0], [], [], [], [], []] [false, false, false, false, false, false, false, false, false] [fun v _ _ => v = v54, fun v _ _ => v = v94, fun v o w9 => RdL o w9 v (([y93] : List (List Int)) : List (List Int)), fun v o w9 => Ow w.heap.size 26 14 o w9 v x278, fun v _ _ => v = v57, fun v _ _ => v = (.agg #[(.int .i64 p0.Labels), v1]), fun v _ _ => v = v94, fun v _ _ => v = (.int .i64 x284), fun v o w9 => RdL o w9 v (([x284] : List Int) : List Int)] [fun _ o w9 => Ow w.heap.size 26 14 o w9 v54 y53] (fun o8 w8 => Bs oo o8 w w8 ∧ Ow w.heap.size 3 12 o8 w8 v40 x8 ∧ Ow w.heap.size 3 13 o8 w8 v44 x42 ∧ Ow w.heap.size 3 15 o8 w8 v57 y56 ∧ RdL o8 w8 v94 y93 ∧ Of 3 o8 w8 v94 y93 ∧ Bx w.heap.size 11 o8 w8 b5 29 [(.int .i64 p0.Labels), v1]) follows_mixed (by kernel_rfl) rfl ⟨rfl, rfl, rfl, rfl, rfl, rfl, rfl, rfl, rfl, trivial⟩ ⟨hB, r38, h45, h58, h95, h270, h6⟩ ⟨h55, trivial⟩ ?_ ⟨st_eq _, st_eq _, fun _ _ _ _ _ _ h0 hb h hs => h.stp hs h0.1, fun _ _ _ _ _ _ h0 hb h hs => h.stp hs h0.1 (Ne.symm hb), st_eq _, st_eq _, st_eq _, st_eq _, fun _ _ _ _ _ _ h0 hb h hs => h.stp hs h0.1, trivial⟩ ⟨fun _ _ _ _ _ _ h0 hb h hs => h.stp hs h0.1 (Ne.symm hb), trivial⟩ ⟨trivial, trivial, trivial, trivial, trivial, trivial, trivial, trivial, trivial, trivial⟩ ?_ ?_
              · rintro t9 o1 w1 o2 w2 ht9 ⟨hB, r38, h45, h58, h95, h270, h6⟩ hs9
                have ht9 : t9 = 14 ∨ t9 = 999 := by simpa using ht9
                rcases ht9 with rfl | rfl
                all_goals exact ⟨hB.stp hs9 (by decide), r38.stp hs9 (by decide) (by decide), h45.stp hs9 (by decide) (by decide), h58.stp hs9 (by decide) (by decide), h95.stp hs9 (by decide), h270.stp hs9 (by decide), h6.stp hs9 (by decide)⟩
              · refine ⟨?_, ?_, ?_, ?_, ?_, ?_, ?_, ?_, ?_, trivial⟩
                · rintro o296 w297 a298 ha ⟨hB, r38, h45, h58, h95, h270, h6⟩ ⟨h55, -⟩ -
                  refine opS_of ha (trivial) ?_
                  refine op1_val (ex_move rfl) ?_
                  exact ⟨_, Stp.refl _ _ _, rfl⟩
                · rintro o299 w300 a301 ha ⟨hB, r38, h45, h58, h95, h270, h6⟩ - -
                  refine opS_of ha (trivial) ?_
                  refine op1_val (ex_move rfl) ?_
                  exact ⟨_, Stp.refl _ _ _, rfl⟩
                · rintro o302 w303 a304 ha ⟨hB, r38, h45, h58, h95, h270, h6⟩ ⟨h55, -⟩ ⟨r305, -⟩
                  have ha := Fr.cons (d := 77) ha r305
                  refine opS_of ha (trivial) ?_
                  refine wf_litR (o := o302) (cs := [v94]) (xs := ([y93] : List (List Int))) (vs := [(0, v94)]) ⟨_, _, rfl, (rd_list h95), rfl⟩ rfl ⟨rfl, rfl, trivial⟩ Try.underlying22 Try.sizeOf26 Try.zeroValue26 (by decide) (fill1 h95.cells1) (by simp) ?_
                  intro o306 w307 v308 h309 s310 k311
                  replace r38 := r38.stp s310 (by decide) (by decide)
                  replace h45 := h45.stp s310 (by decide) (by decide)
                  replace h55 := h55.stp s310 (by decide) (by decide)
                  replace h58 := h58.stp s310 (by decide) (by decide)
                  replace h95 := h95.stp s310 (by decide)
                  replace h270 := h270.stp s310 (by decide)
                  replace h6 := h6.stp s310 (by decide)
                  replace hB := hB.stp s310 (by decide)
                  exact ⟨_, s310, h309⟩
                · rintro o312 w313 a314 ha ⟨hB, r38, h45, h58, h95, h270, h6⟩ ⟨h55, -⟩ ⟨r315, r316, -⟩
                  have ha := Fr.cons (d := 76) ha r315
                  replace r316 : RdL o312 w313 (a314.tmps.getD 78 undef) (([y93] : List (List Int)) : List (List Int)) := r316
                  generalize e318 : a314.tmps.getD 78 undef = v317 at r316
                  have ha := Fr.cons (d := 78) ha e318
                  refine opS_of ha (trivial) ?_
                  refine wf_cat h55 r316 (push_cat hx278) (by decide) hB.keeps.size rfl rfl Try.underlying22 info2_t_Lint_Wb rfl (by decide) ?_
                  intro o319 w320 v321 h322 s323
                  replace r38 := r38.stp s323 (by decide) (by decide)
                  replace h45 := h45.stp s323 (by decide) (by decide)
                  replace h58 := h58.stp s323 (by decide) (by decide)
                  replace h95 := h95.stp s323 (by decide)
                  replace h270 := h270.stp s323 (by decide)
                  replace r316 := r316.stp s323 (by decide)
                  replace h6 := h6.stp s323 (by decide)
                  replace hB := hB.stp s323 (by decide)
                  exact ⟨_, s323, h322⟩
                · rintro o324 w325 a326 ha ⟨hB, r38, h45, h58, h95, h270, h6⟩ - -
                  refine opS_of ha (trivial) ?_
                  refine op1_val (ex_move rfl) ?_
                  exact ⟨_, Stp.refl _ _ _, rfl⟩
                · rintro o327 w328 a329 ha ⟨hB, r38, h45, h58, h95, h270, h6⟩ - -
                  refine opS_of ha (trivial) ?_
                  refine op1_val (ex_loadA rfl Try.isAgg29 Try.sizeOf29 rfl h6.cells) ?_
                  exact ⟨_, Stp.refl _ _ _, rfl⟩
                · rintro o330 w331 a332 ha ⟨hB, r38, h45, h58, h95, h270, h6⟩ - -
                  refine opS_of ha (trivial) ?_
                  refine op1_val (ex_move rfl) ?_
                  exact ⟨_, Stp.refl _ _ _, rfl⟩
                · rintro o333 w334 a335 ha ⟨hB, r38, h45, h58, h95, h270, h6⟩ - ⟨r336, r337, -⟩
                  have ha := Fr.cons (d := 81) ha r336
                  have ha := Fr.cons (d := 82) ha r337
                  refine opS_of ha (trivial) ?_
                  refine wf_call (cI_WalkProblem_periodOf fuel w334 _ p0 (⟨_, rfl, (h2.keep hB.keeps)⟩) _ y93 h95.z x284 hx284) Try.call82 ⟨rfl, rfl, trivial⟩ ?_
                  rintro e342 w338 ⟨rfl, k339⟩
                  have s341 := k339.stp 999 o333
                  refine ⟨_, rfl, ?_⟩
                  replace r38 := r38.stp s341 (by decide) (by decide)
                  replace h45 := h45.stp s341 (by decide) (by decide)
                  replace h58 := h58.stp s341 (by decide) (by decide)
                  replace h95 := h95.stp s341 (by decide)
                  replace h270 := h270.stp s341 (by decide)
                  replace h6 := h6.stp s341 (by decide)
                  replace hB := hB.stp s341 (by decide)
                  exact ⟨_, s341, rfl⟩
                · rintro o343 w344 a345 ha ⟨hB, r38, h45, h58, h95, h270, h6⟩ - ⟨r346, -⟩
                  have ha := Fr.cons (d := 83) ha r346
                  refine opS_of ha (trivial) ?_
                  refine wf_litR (o := o343) (cs := [(.int .i64 x284)]) (xs := ([x284] : List Int)) (vs := [(0, (.int .i64 x284))]) ⟨_, _, rfl, rfl, rfl⟩ rfl ⟨rfl, rfl, trivial⟩ Try.underlying26 Try.sizeOf3 Try.zeroValue3 (by decide) (fill1 rfl) (by simp) ?_
                  intro o347 w348 v349 h350 s351 k352
                  replace r38 := r38.stp s351 (by decide) (by decide)
                  replace h45 := h45.stp s351 (by decide) (by decide)
                  replace h58 := h58.stp s351 (by decide) (by decide)
                  replace h95 := h95.stp s351 (by decide)
                  replace h270 := h270.stp s351 (by decide)
                  replace h6 := h6.stp s351 (by decide)
                  replace hB := hB.stp s351 (by decide)
                  exact ⟨_, s351, h350⟩
              rintro o353 w354 a355 ha ⟨hB, r38, h45, h58, h95, h270, h6⟩ ⟨-, -, -, r356, r357, -, -, -, r358, -⟩
              replace r356 : Ow w.heap.size 26 14 o353 w354 (a355.tmps.getD 79 undef) x278 := r356
              generalize e360 : a355.tmps.getD 79 undef = v359 at r356
              have ha := Fr.cons (d := 79) ha e360
              have ha := Fr.cons (d := 80) ha r357
              replace r358 : RdL o353 w354 (a355.tmps.getD 84 undef) (([x284] : List Int) : List Int) := r358
              generalize e362 : a355.tmps.getD 84 undef = v361 at r358
              have ha := Fr.cons (d := 84) ha e362
              refine wl_of ha ?_
              simp only [List.length_cons, List.length_nil, Nat.zero_add, Nat.reduceAdd, List.drop_succ_cons, List.drop_zero]
              obtain ⟨x363, hx363, b71⟩ := bind_some b71
              refine st_op (by decide) trivial ?_
              refine wf_cat h58 r358 (push_cat hx363) (by decide) hB.keeps.size rfl rfl Try.underlying26 info2_t_int_Wb rfl (by decide) ?_
              intro o364 w365 v366 h367 s368
              replace r38 := r38.stp s368 (by decide) (by decide)
              replace h45 := h45.stp s368 (by decide) (by decide)
              replace h95 := h95.stp s368 (by decide)
              replace h270 := h270.stp s368 (by decide)
              replace r356 := r356.stp s368 (by decide) (by decide)
              replace r358 := r358.stp s368 (by decide)
              replace h6 := h6.stp s368 (by decide)
              replace hB := hB.stp s368 (by decide)
              refine st_val (ex_assign rfl) (by decide) trivial ?_
              refine st_val (ex_assign rfl) (by decide) trivial ?_
              refine wpF_end (r := [(1, (.pointer (some ⟨b5, 0, none⟩))), (4, v40), (5, v44), (6, v359), (7, v366), (8, (.int .i64 (bor y59 x137))), (21, (.int .i64 (x8.length : Int))), (22, (.int .i64 i62))]) ⟨rfl, rfl, rfl, rfl, rfl, rfl, rfl, rfl, trivial⟩ ?_
              refine nb_norm ?_
              refine nx ?_
              refine wpC_region ?_
              refine st_val (ex_add rfl rfl (ck_in (by omega) (by omega))) (by decide) trivial ?_
              refine st_val (ex_move rfl) (by decide) trivial ?_
              refine wpF_end (r := [(1, (.pointer (some ⟨b5, 0, none⟩))), (4, v40), (5, v44), (6, v359), (7, v366), (8, (.int .i64 (bor y59 x137))), (21, (.int .i64 (x8.length : Int))), (22, (.int .i64 (i62 + 1)))]) ⟨rfl, rfl, rfl, rfl, rfl, rfl, rfl, rfl, trivial⟩ ?_
              refine nt_norm ?_
              have e369 := Option.some.inj b71
              subst e369
              refine to_k (r := [(1, (.pointer (some ⟨b5, 0, none⟩))), (4, v40), (5, v44), (6, v359), (7, v366), (8, (.int .i64 (bor y59 x137))), (21, (.int .i64 (x8.length : Int))), (22, (.int .i64 (i62 + 1)))]) ⟨rfl, rfl, rfl, rfl, rfl, rfl, rfl, rfl, trivial⟩ ?_
              intro a ha
              exact ⟨_, (by rw [← m68]; omega), i62 + 1, x278, x363, bor y59 x137, v359, v366, o364, n72, rfl, (by omega), ha, hB, r38, h45, r356, h367, h6⟩
            · rw [if_neg (by rw [t269]; decide)] at b71
              refine wpC_skip ?_
              refine nb_norm ?_
              refine nx ?_
              refine wpC_region ?_
              refine st_val (ex_add rfl rfl (ck_in (by omega) (by omega))) (by decide) trivial ?_
              refine st_val (ex_move rfl) (by decide) trivial ?_
              refine wpF_end (r := [(1, (.pointer (some ⟨b5, 0, none⟩))), (4, v40), (5, v44), (6, v54), (7, v57), (8, (.int .i64 (bor y59 x137))), (21, (.int .i64 (x8.length : Int))), (22, (.int .i64 (i62 + 1)))]) ⟨rfl, rfl, rfl, rfl, rfl, rfl, rfl, rfl, trivial⟩ ?_
              refine nt_norm ?_
              have e370 := Option.some.inj b71
              subst e370
              refine to_k (r := [(1, (.pointer (some ⟨b5, 0, none⟩))), (4, v40), (5, v44), (6, v54), (7, v57), (8, (.int .i64 (bor y59 x137))), (21, (.int .i64 (x8.length : Int))), (22, (.int .i64 (i62 + 1)))]) ⟨rfl, rfl, rfl, rfl, rfl, rfl, rfl, rfl, trivial⟩ ?_
              intro a ha
              exact ⟨_, (by rw [← m68]; omega), i62 + 1, y53, y56, bor y59 x137, v54, v57, o144, n72, rfl, (by omega), ha, hB, r38, h45, h55, h58, h6⟩
          · exact fun _ _ h => h.elim
        · exact fun _ _ h => h.elim
    · have r371 := forN_done t73 l66
      refine wp_of ha ?_
      refine wpC_seq ?_
      refine wpC_region ?_
      refine st_val (ex_lss rfl rfl) (by decide) trivial ?_
      refine wpF_end (r := [(1, (.pointer (some ⟨b5, 0, none⟩))), (4, v40), (5, v44), (6, v54), (7, v57), (8, (.int .i64 y59)), (21, (.int .i64 (x8.length : Int))), (22, (.int .i64 i62)), (23, (.bool (decide (i62 < (x8.length : Int)))))]) ⟨rfl, rfl, rfl, rfl, rfl, rfl, rfl, rfl, rfl, trivial⟩ ?_
      refine nx ?_
      refine wpC_seq ?_
      refine wpC_false (congrArg (fun b => some (Value.bool b)) (decide_eq_false t73)) ?_
      refine wpC_exit ?_
      refine nt_exit ?_
      refine nt_exit ?_
      refine nb_hit ?_
      refine np_norm ?_
      refine to_k (r := [(6, v54), (7, v57)]) ⟨rfl, rfl, trivial⟩ ?_
      intro a ha
      exact ⟨y53, y56, y59, v54, v57, o60, r371, ha, hB, h55, h58⟩
  · rintro a w61 ⟨y53, y56, y59, v54, v57, o60, rfl, ha, hB, h55, h58⟩
    dsimp only at hF
    refine ap_k ha ?_
    refine nx ?_
    refine wpC_seq ?_
    refine wpC_region ?_
    refine st_val (ex_move rfl) (by decide) trivial ?_
    refine st_val (ex_move rfl) (by decide) trivial ?_
    refine st_val (ex_assign rfl) (by decide) trivial ?_
    refine st_val (ex_assign rfl) (by decide) trivial ?_
    refine wpF_end (r := [(2, v54), (3, v57)]) ⟨rfl, rfl, trivial⟩ ?_
    refine nx ?_
    refine wpC_ret ?_
    replace h55 := h55.frz_ne (j := 15) (by decide)
    have h372 := h58.frzF
    replace h58 := h58.frz
    replace hB := hB.frz 15 (by decide)
    generalize (frz 15 o60) = o373 at *
    have e374 := Option.some.inj hF
    subst e374
    refine ret_post (P := Try.prog) (vs := [v54, v57]) Try.results41 ⟨rfl, rfl, trivial⟩ ?_
    exact ⟨_, _, rt oo o373 w.heap.size 14 t, rfl, h55.rt hB (by decide) t, h372.rt hB 14 t (by decide), hB.keeps, rt_old _ _ _ _ _⟩
  · exact fun _ _ h => h.elim

end Go.Proofs.Ytffgdhbhlcifmaa
