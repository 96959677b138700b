/- impl.setOf, slices.Index[[]int,int], slices.Contains[[]int,int], (impl.WalkProblem).closure, (impl.WalkProblem).distancesIn, (impl.WalkProblem).periodOf, (impl.WalkProblem).walkComponents: plain functions, and the walks that show that the program computes them (printed by gen.py). -/
import Derived.Test.YtffgdhbhlcifmaaGI
import Derived.Test.YtffgdhbhlcifmaaGcd
import Derived.Test.YtffgdhbhlcifmaaKh
import Derived.Test.YtffgdhbhlcifmaaRpt
import Derived.Test.YtffgdhbhlcifmaaKds
namespace Go.Proofs.Ytffgdhbhlcifmaa
open Go.RowKit
set_option linter.unusedSimpArgs false
set_option linter.unusedVariables false

theorem info2_t_int_Wb : Inf Try.prog 3 (.int .i64 0) 1 8 := by unfold Inf; kernel_rfl

theorem info2_t_Lint_Wb : Inf Try.prog 26 (.slice none 0 0) 1 24 := by unfold Inf; kernel_rfl

def fI_setOf_s1 : Int → Int → Int → Option (Lp Int Int Int) := fun (i4 : Int) (x14 : Int) (s : Int) =>
  (shl 1 x14) >>= fun x20 =>
  some (.go (bor s x20))
def fI_setOf (p0 : List Int) : Option Int :=
  (forI (fI_setOf_s1) p0 0 0) >>= fun q5 =>
  match q5 with
  | .inl y1 =>
    some y1
  | .inr _ => none

def pI_setOf (w : World) (r : Int) : Ending → World → Prop := fun e w' => e = .returned (.int .i64 r) ∧ Keeps w w'
set_option maxRecDepth 100000 in
set_option maxHeartbeats 2000000 in
theorem cI_setOf (w : World) (u0 : Value) (p0 : List Int) (g0 : RdL zt w u0 p0) (r : Int) (hF : fI_setOf p0 = some r) :
    Calls Try.prog 81 #[u0] w (pI_setOf w r) := by
  unfold fI_setOf at hF
  have hB : Bs (fun _ => 1) (col (fun _ => 1)) w w := Bs.start _ _
  refine calls_start (n := 18) (vs := [u0]) Try.func81 rfl rfl ?_
  refine wpC_seq ?_
  refine wpC_region ?_
  refine st_val (ex_assign rfl) (by decide) trivial ?_
  refine wpF_end (r := [(0, u0)]) ⟨rfl, trivial⟩ ?_
  refine nx ?_
  refine wpC_seq ?_
  refine wpC_region ?_
  refine st_val (ex_assign rfl) (by decide) trivial ?_
  refine wpF_end (r := [(0, u0), (3, (.int .i64 0))]) ⟨rfl, rfl, trivial⟩ ?_
  refine nx ?_
  refine wpC_seq ?_
  refine wpC_seq ?_
  refine wpC_region ?_
  refine st_val (ex_move rfl) (by decide) trivial ?_
  refine st_val (ex_lenR rfl g0 Try.underlying26) (by decide) trivial ?_
  refine st_val (ex_move rfl) (by decide) trivial ?_
  refine wpF_end (r := [(3, (.int .i64 0)), (6, u0), (7, (.int .i64 (p0.length : Int))), (8, (.int .i64 0))]) ⟨rfl, rfl, rfl, rfl, trivial⟩ ?_
  refine nx ?_
  obtain ⟨q5, hq5, hF⟩ := bind_some hF
  refine wpC_cutN (fun a w3 => ∃ (y1 : Int) (o2 : Tg), q5 = .inl y1 ∧ Fr a 18 [(3, (.int .i64 y1))] ∧ Bs (fun _ => 1) o2 w w3) (fun _ _ => False) ?_ ?_ ?_
  · refine wpC_block ?_
    refine wpC_loop (fun (K : Nat) a w3 => ∃ (i4 : Int) (y1 : Int) (o2 : Tg), forI (fI_setOf_s1) (p0.drop i4.toNat) i4 y1 = some q5 ∧ (p0.drop i4.toNat).length = K ∧ 0 ≤ i4 ∧ Fr a 18 [(3, (.int .i64 y1)), (6, u0), (7, (.int .i64 (p0.length : Int))), (8, (.int .i64 i4))] ∧ Bs (fun _ => 1) o2 w w3) _ (fun a ha => ⟨0, 0, (col (fun _ => 1)), hq5, rfl, Int.le_refl 0, ha.sub (r := [(3, (.int .i64 0)), (6, u0), (7, (.int .i64 (p0.length : Int))), (8, (.int .i64 0))]) ⟨rfl, rfl, rfl, rfl, trivial⟩, hB⟩) ?_
    rintro K9 a w3 ⟨i4, y1, o2, l6, m8, z7, ha, hB⟩
    by_cases t13 : i4 < (p0.length : Int)
    · obtain ⟨x14, q10, hx14, b11, n12⟩ := forI_cons z7 t13 l6
      have hle := g0.len_le
      dsimp only [fI_setOf_s1] at b11
      refine wp_of ha ?_
      refine wpC_seq ?_
      refine wpC_region ?_
      refine st_val (ex_lss rfl rfl) (by decide) trivial ?_
      refine wpF_end (r := [(3, (.int .i64 y1)), (6, u0), (7, (.int .i64 (p0.length : Int))), (8, (.int .i64 i4)), (9, (.bool (decide (i4 < (p0.length : Int)))))]) ⟨rfl, rfl, rfl, rfl, rfl, trivial⟩ ?_
      refine nx ?_
      refine wpC_seq ?_
      refine wpC_true (congrArg (fun b => some (Value.bool b)) (decide_eq_true t13)) ?_
      refine wpC_skip ?_
      refine nx ?_
      refine wpC_seq ?_
      refine wpC_block ?_
      refine wpC_seq ?_
      refine wpC_region ?_
      refine st_op (by decide) trivial ?_
      refine wf_atZ g0 hx14 hB rfl rfl Try.underlying26 Try.sizeOf3 ?_
      intro b15 f16 c17 h18 h19
      cases h19
      refine st_val (ex_load1 rfl Try.isAgg3 (cell_of_cells h18)) (by decide) trivial ?_
      refine st_val (ex_assign rfl) (by decide) trivial ?_
      refine wpF_end (r := [(3, (.int .i64 y1)), (5, (.int .i64 x14)), (6, u0), (7, (.int .i64 (p0.length : Int))), (8, (.int .i64 i4))]) ⟨rfl, rfl, rfl, rfl, rfl, trivial⟩ ?_
      refine nx ?_
      refine wpC_region ?_
      refine st_val (ex_move rfl) (by decide) trivial ?_
      refine st_val (ex_move rfl) (by decide) trivial ?_
      obtain ⟨x20, hx20, b11⟩ := bind_some b11
      refine st_val (ex_shl rfl rfl hx20) (by decide) trivial ?_
      refine st_val (ex_or rfl rfl) (by decide) trivial ?_
      refine st_val (ex_assign rfl) (by decide) trivial ?_
      refine wpF_end (r := [(3, (.int .i64 (bor y1 x20))), (6, u0), (7, (.int .i64 (p0.length : Int))), (8, (.int .i64 i4))]) ⟨rfl, rfl, rfl, rfl, trivial⟩ ?_
      refine nb_norm ?_
      refine nx ?_
      refine wpC_region ?_
      refine st_val (ex_add rfl rfl (ck_in (by omega) (by omega))) (by decide) trivial ?_
      refine st_val (ex_move rfl) (by decide) trivial ?_
      refine wpF_end (r := [(3, (.int .i64 (bor y1 x20))), (6, u0), (7, (.int .i64 (p0.length : Int))), (8, (.int .i64 (i4 + 1)))]) ⟨rfl, rfl, rfl, rfl, trivial⟩ ?_
      refine nt_norm ?_
      have e21 := Option.some.inj b11
      subst e21
      refine to_k (r := [(3, (.int .i64 (bor y1 x20))), (6, u0), (7, (.int .i64 (p0.length : Int))), (8, (.int .i64 (i4 + 1)))]) ⟨rfl, rfl, rfl, rfl, trivial⟩ ?_
      intro a ha
      exact ⟨_, (by rw [← m8]; simp only [List.length_drop]; omega), i4 + 1, bor y1 x20, o2, n12, rfl, (by omega), ha, hB⟩
    · have r22 := forI_done t13 l6
      refine wp_of ha ?_
      refine wpC_seq ?_
      refine wpC_region ?_
      refine st_val (ex_lss rfl rfl) (by decide) trivial ?_
      refine wpF_end (r := [(3, (.int .i64 y1)), (6, u0), (7, (.int .i64 (p0.length : Int))), (8, (.int .i64 i4)), (9, (.bool (decide (i4 < (p0.length : Int)))))]) ⟨rfl, rfl, rfl, rfl, rfl, trivial⟩ ?_
      refine nx ?_
      refine wpC_seq ?_
      refine wpC_false (congrArg (fun b => some (Value.bool b)) (decide_eq_false t13)) ?_
      refine wpC_exit ?_
      refine nt_exit ?_
      refine nt_exit ?_
      refine nb_hit ?_
      refine np_norm ?_
      refine to_k (r := [(3, (.int .i64 y1))]) ⟨rfl, trivial⟩ ?_
      intro a ha
      exact ⟨y1, o2, r22, ha, hB⟩
  · rintro a w3 ⟨y1, o2, rfl, ha, hB⟩
    dsimp only at hF
    refine ap_k ha ?_
    refine nx ?_
    refine wpC_seq ?_
    refine wpC_region ?_
    refine st_val (ex_move rfl) (by decide) trivial ?_
    refine st_val (ex_assign rfl) (by decide) trivial ?_
    refine wpF_end (r := [(2, (.int .i64 y1))]) ⟨rfl, trivial⟩ ?_
    refine nx ?_
    refine wpC_ret ?_
    have e23 := Option.some.inj hF
    subst e23
    refine ret_post (P := Try.prog) (vs := [(.int .i64 y1)]) Try.results81 ⟨rfl, trivial⟩ ?_
    exact ⟨rfl, hB.keeps⟩
  · exact fun _ _ h => h.elim

def fX_slices_Index_int_int_s1 (p0 : List Int) (p1 : Int) : Int → Unit → Option (Lp Unit Unit Int) := fun (i3 : Int) (s : Unit) =>
  (ix p0 i3) >>= fun x15 =>
  if p1 == x15 then
    some (.ret i3)
  else
    some (.go ())
def fX_slices_Index_int_int (p0 : List Int) (p1 : Int) : Option Int :=
  ck (p0.length : Int) >>= fun _ =>
  (forN (fX_slices_Index_int_int_s1 p0 p1) ((p0.length : Int)).toNat 0 ()) >>= fun q4 =>
  match q4 with
  | .inl _ =>
    some (-1)
  | .inr r' => some r'

def pX_slices_Index_int_int (w : World) (r : Int) : Ending → World → Prop := fun e w' => e = .returned (.int .i64 r) ∧ Keeps w w'
set_option maxRecDepth 100000 in
set_option maxHeartbeats 2000000 in
theorem cX_slices_Index_int_int (w : World) (u0 : Value) (p0 : List Int) (g0 : RdL zt w u0 p0) (p1 : Int) (r : Int) (hF : fX_slices_Index_int_int p0 p1 = some r) :
    Calls Try.prog 99 #[u0, .int .i64 p1] w (pX_slices_Index_int_int w r) := by
  unfold fX_slices_Index_int_int at hF
  have hB : Bs (fun _ => 1) (col (fun _ => 1)) w w := Bs.start _ _
  refine calls_start (n := 19) (vs := [u0, (.int .i64 p1)]) Try.func99 rfl rfl ?_
  refine wpC_seq ?_
  refine wpC_region ?_
  refine st_val (ex_assign rfl) (by decide) trivial ?_
  refine wpF_end (r := [(0, u0), (1, (.int .i64 p1))]) ⟨rfl, rfl, trivial⟩ ?_
  refine nx ?_
  refine wpC_seq ?_
  refine wpC_seq ?_
  refine wpC_region ?_
  refine st_val (ex_move rfl) (by decide) trivial ?_
  refine st_val (ex_lenR rfl g0 Try.underlying26) (by decide) trivial ?_
  refine st_val (ex_move rfl) (by decide) trivial ?_
  refine wpF_end (r := [(0, u0), (1, (.int .i64 p1)), (7, (.int .i64 (p0.length : Int))), (8, (.int .i64 0))]) ⟨rfl, rfl, rfl, rfl, trivial⟩ ?_
  refine nx ?_
  obtain ⟨u6, h5, hF⟩ := bind_some hF
  obtain ⟨-, h5a, h5b⟩ := ck_some h5
  obtain ⟨q4, hq4, hF⟩ := bind_some hF
  refine wpC_cutN (fun a w2 => ∃ (o1 : Tg), q4 = .inl () ∧ Fr a 19 [] ∧ Bs (fun _ => 1) o1 w w2) (fun a w' => ∃ r', q4 = .inr r' ∧ bodyPost Try.prog Try.f99 (pX_slices_Index_int_int w r') .ret a w') ?_ ?_ ?_
  · refine wpC_block ?_
    refine wpC_loop (fun (K : Nat) a w2 => ∃ (i3 : Int) (o1 : Tg), forN (fX_slices_Index_int_int_s1 p0 p1) ((p0.length : Int) - i3).toNat i3 () = some q4 ∧ ((p0.length : Int) - i3).toNat = K ∧ 0 ≤ i3 ∧ Fr a 19 [(0, u0), (1, (.int .i64 p1)), (7, (.int .i64 (p0.length : Int))), (8, (.int .i64 i3))] ∧ Bs (fun _ => 1) o1 w w2) _ (fun a ha => ⟨0, (col (fun _ => 1)), (by rw [Int.sub_zero]; exact hq4), rfl, Int.le_refl 0, ha.sub (r := [(0, u0), (1, (.int .i64 p1)), (7, (.int .i64 (p0.length : Int))), (8, (.int .i64 0))]) ⟨rfl, rfl, rfl, rfl, trivial⟩, hB⟩) ?_
    rintro K10 a w2 ⟨i3, o1, l7, m9, z8, ha, hB⟩
    by_cases t14 : i3 < (p0.length : Int)
    · obtain ⟨q11, b12, n13⟩ := forN_cons t14 l7
      dsimp only [fX_slices_Index_int_int_s1] at b12
      refine wp_of ha ?_
      refine wpC_seq ?_
      refine wpC_region ?_
      refine st_val (ex_lss rfl rfl) (by decide) trivial ?_
      refine wpF_end (r := [(0, u0), (1, (.int .i64 p1)), (7, (.int .i64 (p0.length : Int))), (8, (.int .i64 i3)), (9, (.bool (decide (i3 < (p0.length : Int)))))]) ⟨rfl, rfl, rfl, rfl, rfl, trivial⟩ ?_
      refine nx ?_
      refine wpC_seq ?_
      refine wpC_true (congrArg (fun b => some (Value.bool b)) (decide_eq_true t14)) ?_
      refine wpC_skip ?_
      refine nx ?_
      refine wpC_seq ?_
      refine wpC_block ?_
      refine wpC_seq ?_
      refine wpC_region ?_
      refine st_val (ex_move rfl) (by decide) trivial ?_
      refine st_val (ex_assign rfl) (by decide) trivial ?_
      refine wpF_end (r := [(0, u0), (1, (.int .i64 p1)), (5, (.int .i64 i3)), (7, (.int .i64 (p0.length : Int))), (8, (.int .i64 i3))]) ⟨rfl, rfl, rfl, rfl, rfl, trivial⟩ ?_
      refine nx ?_
      refine wpC_seq ?_
      refine wpC_region ?_
      refine st_val (ex_move rfl) (by decide) trivial ?_
      refine st_val (ex_move rfl) (by decide) trivial ?_
      refine st_val (ex_move rfl) (by decide) trivial ?_
      obtain ⟨x15, hx15, b12⟩ := bind_some b12
      refine st_op (by decide) trivial ?_
      refine wf_atZ g0 hx15 hB rfl rfl Try.underlying26 Try.sizeOf3 ?_
      intro b16 f17 c18 h19 h20
      cases h20
      refine st_val (ex_load1 rfl Try.isAgg3 (cell_of_cells h19)) (by decide) trivial ?_
      refine st_val (ex_eql rfl rfl) (by decide) trivial ?_
      refine wpF_end (r := [(0, u0), (1, (.int .i64 p1)), (5, (.int .i64 i3)), (7, (.int .i64 (p0.length : Int))), (8, (.int .i64 i3)), (16, (.bool (p1 == x15)))]) ⟨rfl, rfl, rfl, rfl, rfl, rfl, trivial⟩ ?_
      refine nx ?_
      refine wpC_cond rfl (fun t21 => ?_) (fun t21 => ?_)
      · rw [if_pos t21] at b12
        refine wpC_seq ?_
        refine wpC_region ?_
        refine st_val (ex_move rfl) (by decide) trivial ?_
        refine st_val (ex_assign rfl) (by decide) trivial ?_
        refine wpF_end (r := [(4, (.int .i64 i3))]) ⟨rfl, trivial⟩ ?_
        refine nx ?_
        refine wpC_ret ?_
        refine nb_ret ?_
        refine nt_ret ?_
        refine nt_ret ?_
        refine nb_ret ?_
        refine np_ret ?_
        have e22 := Option.some.inj b12
        subst e22
        refine fun a ha => ⟨_, n13, ?_⟩
        refine ret_post (P := Try.prog) (vs := [(.int .i64 i3)]) Try.results99 ⟨rfl, trivial⟩ ?_ a ha
        exact ⟨rfl, hB.keeps⟩
      · rw [if_neg (by rw [t21]; decide)] at b12
        refine wpC_skip ?_
        refine nb_norm ?_
        refine nx ?_
        refine wpC_region ?_
        refine st_val (ex_add rfl rfl (ck_in (by omega) (by omega))) (by decide) trivial ?_
        refine st_val (ex_move rfl) (by decide) trivial ?_
        refine wpF_end (r := [(0, u0), (1, (.int .i64 p1)), (7, (.int .i64 (p0.length : Int))), (8, (.int .i64 (i3 + 1)))]) ⟨rfl, rfl, rfl, rfl, trivial⟩ ?_
        refine nt_norm ?_
        have e23 := Option.some.inj b12
        subst e23
        refine to_k (r := [(0, u0), (1, (.int .i64 p1)), (7, (.int .i64 (p0.length : Int))), (8, (.int .i64 (i3 + 1)))]) ⟨rfl, rfl, rfl, rfl, trivial⟩ ?_
        intro a ha
        exact ⟨_, (by rw [← m9]; omega), i3 + 1, o1, n13, rfl, (by omega), ha, hB⟩
    · have r24 := forN_done t14 l7
      refine wp_of ha ?_
      refine wpC_seq ?_
      refine wpC_region ?_
      refine st_val (ex_lss rfl rfl) (by decide) trivial ?_
      refine wpF_end (r := [(0, u0), (1, (.int .i64 p1)), (7, (.int .i64 (p0.length : Int))), (8, (.int .i64 i3)), (9, (.bool (decide (i3 < (p0.length : Int)))))]) ⟨rfl, rfl, rfl, rfl, rfl, trivial⟩ ?_
      refine nx ?_
      refine wpC_seq ?_
      refine wpC_false (congrArg (fun b => some (Value.bool b)) (decide_eq_false t14)) ?_
      refine wpC_exit ?_
      refine nt_exit ?_
      refine nt_exit ?_
      refine nb_hit ?_
      refine np_norm ?_
      refine to_k (r := []) trivial ?_
      intro a ha
      exact ⟨o1, r24, ha, hB⟩
  · rintro a w2 ⟨o1, rfl, ha, hB⟩
    dsimp only at hF
    refine ap_k ha ?_
    refine nx ?_
    refine wpC_seq ?_
    refine wpC_region ?_
    refine st_val (ex_assign rfl) (by decide) trivial ?_
    refine wpF_end (r := [(4, (.int .i64 (-1)))]) ⟨rfl, trivial⟩ ?_
    refine nx ?_
    refine wpC_ret ?_
    have e25 := Option.some.inj hF
    subst e25
    refine ret_post (P := Try.prog) (vs := [(.int .i64 (-1))]) Try.results99 ⟨rfl, trivial⟩ ?_
    exact ⟨rfl, hB.keeps⟩
  · rintro a w2 ⟨r', rfl, b26⟩
    dsimp only at hF
    have e27 := Option.some.inj hF
    subst e27
    exact b26

def fX_slices_Contains_int_int (p0 : List Int) (p1 : Int) : Option Bool :=
  (fX_slices_Index_int_int p0 p1) >>= fun x1 =>
  some (decide (x1 ≥ 0))

def pX_slices_Contains_int_int (w : World) (r : Bool) : Ending → World → Prop := fun e w' => e = .returned (.bool r) ∧ Keeps w w'
set_option maxRecDepth 100000 in
set_option maxHeartbeats 2000000 in
theorem cX_slices_Contains_int_int (w : World) (u0 : Value) (p0 : List Int) (g0 : RdL zt w u0 p0) (p1 : Int) (r : Bool) (hF : fX_slices_Contains_int_int p0 p1 = some r) :
    Calls Try.prog 64 #[u0, .int .i64 p1] w (pX_slices_Contains_int_int w r) := by
  unfold fX_slices_Contains_int_int at hF
  have hB : Bs (fun _ => 1) (col (fun _ => 1)) w w := Bs.start _ _
  refine calls_start (n := 9) (vs := [u0, (.int .i64 p1)]) Try.func64 rfl rfl ?_
  refine wpC_seq ?_
  refine wpC_region ?_
  refine st_val (ex_assign rfl) (by decide) trivial ?_
  refine wpF_end (r := [(0, u0), (1, (.int .i64 p1))]) ⟨rfl, rfl, trivial⟩ ?_
  refine nx ?_
  refine wpC_seq ?_
  refine wpC_region ?_
  refine st_val (ex_move rfl) (by decide) trivial ?_
  refine st_val (ex_move rfl) (by decide) trivial ?_
  obtain ⟨x1, hx1, hF⟩ := bind_some hF
  refine st_op (by decide) trivial ?_
  refine wf_call (cX_slices_Index_int_int w _ p0 (g0.keep hB.keeps) p1 x1 hx1) Try.call99 ⟨rfl, rfl, trivial⟩ ?_
  rintro e6 w2 ⟨rfl, k3⟩
  have s5 := k3.stp 999 (col (fun _ => 1))
  refine ⟨_, rfl, ?_⟩
  replace hB := hB.stp s5 (by decide)
  refine st_val (ex_geq rfl rfl) (by decide) trivial ?_
  refine st_val (ex_assign rfl) (by decide) trivial ?_
  refine wpF_end (r := [(4, (.bool (decide (x1 ≥ 0))))]) ⟨rfl, trivial⟩ ?_
  refine nx ?_
  refine wpC_ret ?_
  have e7 := Option.some.inj hF
  subst e7
  refine ret_post (P := Try.prog) (vs := [(.bool (decide (x1 ≥ 0)))]) Try.results64 ⟨rfl, trivial⟩ ?_
  exact ⟨rfl, hB.keeps⟩

def fI_WalkProblem_closure_s2 (i18 : Int) : Int → Int → (List Int) → Option (Lp (List Int) (List Int) (List Int)) := fun (i43 : Int) (x53 : Int) (s : List Int) =>
  (ix s i18) >>= fun x59 =>
  (ix s i18) >>= fun x65 =>
  (st s i18 (bor x59 x53)) >>= fun x74 =>
  some (.go x74)
def fI_WalkProblem_closure_s1 (fuel : Nat) (p0 : T_WalkProblem) : Int → (List Int) → Option (Lp (List Int) (List Int) (List Int)) := fun (i18 : Int) (s : List Int) =>
  (fI_WalkProblem_reached fuel p0 i18 p0.Labels) >>= fun x30 =>
  (forI (fI_WalkProblem_closure_s2 i18) x30 0 s) >>= fun q44 =>
  match q44 with
  | .inl y39 =>
    some (.go y39)
  | .inr _ => none
def fI_WalkProblem_closure (fuel : Nat) (p0 : T_WalkProblem) : Option (List Int) :=
  (mk (Rz.z : Int) p0.Labels) >>= fun x8 =>
  ck (x8.length : Int) >>= fun _ =>
  (forN (fI_WalkProblem_closure_s1 fuel p0) ((x8.length : Int)).toNat 0 x8) >>= fun q19 =>
  match q19 with
  | .inl y14 =>
    some y14
  | .inr _ => none

def pI_WalkProblem_closure (oo : Tg) (t : Nat) (w : World) (r : List Int) : Ending → World → Prop := fun e w' => ∃ (v0 : Value) (o' : Tg), e = .returned (v0) ∧ Ow w.heap.size 3 t o' w' v0 r ∧ Keeps w w' ∧ ∀ b, b < w.heap.size → o' b = oo b
set_option maxRecDepth 100000 in
set_option maxHeartbeats 2000000 in
theorem cI_WalkProblem_closure (fuel : Nat) (w : World) (oo : Tg) (t : Nat) (ht : 2 ≤ t) (u0 : List Value) (p0 : T_WalkProblem) (g0 : Rp.rd zt w u0 p0) (r : List Int) (hF : fI_WalkProblem_closure fuel p0 = some r) :
    Calls Try.prog 79 #[.agg u0.toArray] w (pI_WalkProblem_closure oo t w r) := by
  unfold fI_WalkProblem_closure at hF
  obtain ⟨v1, rfl, h2⟩ := g0
  have hB : Bs oo (col oo) w w := Bs.start _ _
  refine calls_start (n := 35) (vs := [(.agg #[(.int .i64 p0.Labels), v1])]) Try.func79 rfl rfl ?_
  generalize col oo = o at *
  refine wpC_seq ?_
  refine wpC_region ?_
  refine st_op (by decide) trivial ?_
  refine wf_box (o := o) w.heap.size 11 hB.keeps.size (cs := [(.int .i64 p0.Labels), v1]) rfl rfl ?_
  intro o3 w4 b5 h6 s7
  replace hB := hB.stp s7 (by decide)
  refine st_val (ex_assign rfl) (by decide) trivial ?_
  refine wpF_end (r := [(1, (.pointer (some ⟨b5, 0, none⟩)))]) ⟨rfl, trivial⟩ ?_
  refine nx ?_
  refine wpC_seq ?_
  refine wpC_region ?_
  refine st_val (ex_field rfl Try.underlying29 rfl Try.sizeOf3) (by decide) trivial ?_
  refine st_val (ex_load1 rfl Try.isAgg3 (h6.cell rfl)) (by decide) trivial ?_
  obtain ⟨x8, hx8, hF⟩ := bind_some hF
  refine st_op (by decide) trivial ?_
  refine wf_make (o := o3) w.heap.size 12 hB.keeps.size hx8 rfl rfl Try.underlying26 info2_t_int_Wb rfl (by decide) ?_
  intro o9 w10 v11 h12 s13
  replace h6 := h6.stp s13 (by decide)
  replace hB := hB.stp s13 (by decide)
  refine st_val (ex_assign rfl) (by decide) trivial ?_
  refine wpF_end (r := [(1, (.pointer (some ⟨b5, 0, none⟩))), (3, v11)]) ⟨rfl, rfl, trivial⟩ ?_
  refine nx ?_
  refine wpC_seq ?_
  refine wpC_seq ?_
  refine wpC_region ?_
  refine st_val (ex_move rfl) (by decide) trivial ?_
  refine st_val (ex_lenO rfl h12 Try.underlying26) (by decide) trivial ?_
  refine st_val (ex_move rfl) (by decide) trivial ?_
  refine wpF_end (r := [(1, (.pointer (some ⟨b5, 0, none⟩))), (3, v11), (11, (.int .i64 (x8.length : Int))), (12, (.int .i64 0))]) ⟨rfl, rfl, rfl, rfl, trivial⟩ ?_
  refine nx ?_
  obtain ⟨u21, h20, hF⟩ := bind_some hF
  obtain ⟨-, h20a, h20b⟩ := ck_some h20
  obtain ⟨q19, hq19, hF⟩ := bind_some hF
  refine wpC_cutN (fun a w17 => ∃ (y14 : List Int) (o16 : Tg), q19 = .inl y14 ∧ Fr a 35 [(3, v11)] ∧ Bs oo o16 w w17 ∧ Ow w.heap.size 3 12 o16 w17 v11 y14) (fun _ _ => False) ?_ ?_ ?_
  · refine wpC_block ?_
    refine wpC_loop (fun (K : Nat) a w17 => ∃ (i18 : Int) (y14 : List Int) (o16 : Tg), forN (fI_WalkProblem_closure_s1 fuel p0) ((x8.length : Int) - i18).toNat i18 y14 = some q19 ∧ ((x8.length : Int) - i18).toNat = K ∧ 0 ≤ i18 ∧ Fr a 35 [(1, (.pointer (some ⟨b5, 0, none⟩))), (3, v11), (11, (.int .i64 (x8.length : Int))), (12, (.int .i64 i18))] ∧ Bs oo o16 w w17 ∧ Ow w.heap.size 3 12 o16 w17 v11 y14 ∧ Bx w.heap.size 11 o16 w17 b5 29 [(.int .i64 p0.Labels), v1]) _ (fun a ha => ⟨0, x8, o9, (by rw [Int.sub_zero]; exact hq19), rfl, Int.le_refl 0, ha.sub (r := [(1, (.pointer (some ⟨b5, 0, none⟩))), (3, v11), (11, (.int .i64 (x8.length : Int))), (12, (.int .i64 0))]) ⟨rfl, rfl, rfl, rfl, trivial⟩, hB, h12, h6⟩) ?_
    rintro K25 a w17 ⟨i18, y14, o16, l22, m24, z23, ha, hB, h15, h6⟩
    by_cases t29 : i18 < (x8.length : Int)
    · obtain ⟨q26, b27, n28⟩ := forN_cons t29 l22
      dsimp only [fI_WalkProblem_closure_s1] at b27
      refine wp_of ha ?_
      refine wpC_seq ?_
      refine wpC_region ?_
      refine st_val (ex_lss rfl rfl) (by decide) trivial ?_
      refine wpF_end (r := [(1, (.pointer (some ⟨b5, 0, none⟩))), (3, v11), (11, (.int .i64 (x8.length : Int))), (12, (.int .i64 i18)), (13, (.bool (decide (i18 < (x8.length : Int)))))]) ⟨rfl, rfl, rfl, rfl, rfl, trivial⟩ ?_
      refine nx ?_
      refine wpC_seq ?_
      refine wpC_true (congrArg (fun b => some (Value.bool b)) (decide_eq_true t29)) ?_
      refine wpC_skip ?_
      refine nx ?_
      refine wpC_seq ?_
      refine wpC_block ?_
      refine wpC_seq ?_
      refine wpC_region ?_
      refine st_val (ex_move rfl) (by decide) trivial ?_
      refine st_val (ex_assign rfl) (by decide) trivial ?_
      refine wpF_end (r := [(1, (.pointer (some ⟨b5, 0, none⟩))), (3, v11), (4, (.int .i64 i18)), (11, (.int .i64 (x8.length : Int))), (12, (.int .i64 i18))]) ⟨rfl, rfl, rfl, rfl, rfl, trivial⟩ ?_
      refine nx ?_
      refine wpC_seq ?_
      refine wpC_region ?_
      refine st_val (ex_loadA rfl Try.isAgg29 Try.sizeOf29 rfl h6.cells) (by decide) trivial ?_
      refine st_val (ex_move rfl) (by decide) trivial ?_
      refine st_val (ex_field rfl Try.underlying29 rfl Try.sizeOf3) (by decide) trivial ?_
      refine st_val (ex_load1 rfl Try.isAgg3 (h6.cell rfl)) (by decide) trivial ?_
      obtain ⟨x30, hx30, b27⟩ := bind_some b27
      refine st_op (by decide) trivial ?_
      refine wf_call (cI_WalkProblem_reached fuel w17 o16 13 (by decide) _ p0 (⟨_, rfl, (h2.keep hB.keeps)⟩) i18 p0.Labels x30 hx30) Try.call101 ⟨rfl, rfl, rfl, trivial⟩ ?_
      rintro e37 w31 ⟨v32, o38, rfl, h33, k34, k35⟩
      have s36 := k34.stp' 13 k35
      replace h33 := h33.mono hB.keeps.size
      refine ⟨_, rfl, ?_⟩
      replace h15 := h15.stp s36 (by decide) (by decide)
      replace h6 := h6.stp s36 (by decide)
      replace hB := hB.stp s36 (by decide)
      refine st_val (ex_lenO rfl h33 Try.underlying26) (by decide) trivial ?_
      refine st_val (ex_move rfl) (by decide) trivial ?_
      refine wpF_end (r := [(1, (.pointer (some ⟨b5, 0, none⟩))), (3, v11), (4, (.int .i64 i18)), (11, (.int .i64 (x8.length : Int))), (12, (.int .i64 i18)), (19, v32), (20, (.int .i64 (x30.length : Int))), (21, (.int .i64 0))]) ⟨rfl, rfl, rfl, rfl, rfl, rfl, rfl, rfl, trivial⟩ ?_
      refine nx ?_
      obtain ⟨q44, hq44, b27⟩ := bind_some b27
      refine wpC_cutN (fun a w42 => ∃ (y39 : List Int) (o41 : Tg), q44 = .inl y39 ∧ Fr a 35 [(1, (.pointer (some ⟨b5, 0, none⟩))), (3, v11), (11, (.int .i64 (x8.length : Int))), (12, (.int .i64 i18))] ∧ Bs oo o41 w w42 ∧ Ow w.heap.size 3 12 o41 w42 v11 y39 ∧ Bx w.heap.size 11 o41 w42 b5 29 [(.int .i64 p0.Labels), v1]) (fun _ _ => False) ?_ ?_ ?_
      · refine wpC_block ?_
        refine wpC_loop (fun (K : Nat) a w42 => ∃ (i43 : Int) (y39 : List Int) (o41 : Tg), forI (fI_WalkProblem_closure_s2 i18) (x30.drop i43.toNat) i43 y39 = some q44 ∧ (x30.drop i43.toNat).length = K ∧ 0 ≤ i43 ∧ Fr a 35 [(1, (.pointer (some ⟨b5, 0, none⟩))), (3, v11), (4, (.int .i64 i18)), (11, (.int .i64 (x8.length : Int))), (12, (.int .i64 i18)), (19, v32), (20, (.int .i64 (x30.length : Int))), (21, (.int .i64 i43))] ∧ Bs oo o41 w w42 ∧ Ow w.heap.size 3 12 o41 w42 v11 y39 ∧ Ow w.heap.size 3 13 o41 w42 v32 x30 ∧ Bx w.heap.size 11 o41 w42 b5 29 [(.int .i64 p0.Labels), v1]) _ (fun a ha => ⟨0, y14, o38, hq44, rfl, Int.le_refl 0, ha.sub (r := [(1, (.pointer (some ⟨b5, 0, none⟩))), (3, v11), (4, (.int .i64 i18)), (11, (.int .i64 (x8.length : Int))), (12, (.int .i64 i18)), (19, v32), (20, (.int .i64 (x30.length : Int))), (21, (.int .i64 0))]) ⟨rfl, rfl, rfl, rfl, rfl, rfl, rfl, rfl, trivial⟩, hB, h15, h33, h6⟩) ?_
        rintro K48 a w42 ⟨i43, y39, o41, l45, m47, z46, ha, hB, h40, h33, h6⟩
        by_cases t52 : i43 < (x30.length : Int)
        · obtain ⟨x53, q49, hx53, b50, n51⟩ := forI_cons z46 t52 l45
          have hle := h33.len_le
          dsimp only [fI_WalkProblem_closure_s2] at b50
          refine wp_of ha ?_
          refine wpC_seq ?_
          refine wpC_region ?_
          refine st_val (ex_lss rfl rfl) (by decide) trivial ?_
          refine wpF_end (r := [(1, (.pointer (some ⟨b5, 0, none⟩))), (3, v11), (4, (.int .i64 i18)), (11, (.int .i64 (x8.length : Int))), (12, (.int .i64 i18)), (19, v32), (20, (.int .i64 (x30.length : Int))), (21, (.int .i64 i43)), (22, (.bool (decide (i43 < (x30.length : Int)))))]) ⟨rfl, rfl, rfl, rfl, rfl, rfl, rfl, rfl, rfl, trivial⟩ ?_
          refine nx ?_
          refine wpC_seq ?_
          refine wpC_true (congrArg (fun b => some (Value.bool b)) (decide_eq_true t52)) ?_
          refine wpC_skip ?_
          refine nx ?_
          refine wpC_seq ?_
          refine wpC_block ?_
          refine wpC_seq ?_
          refine wpC_region ?_
          refine st_op (by decide) trivial ?_
          refine wf_atW h33 hx53 rfl rfl Try.underlying26 Try.sizeOf3 ?_
          intro b54 f55 c56 h57 h58
          cases h58
          refine st_val (ex_load1 rfl Try.isAgg3 (cell_of_cells h57)) (by decide) trivial ?_
          refine st_val (ex_assign rfl) (by decide) trivial ?_
          refine wpF_end (r := [(1, (.pointer (some ⟨b5, 0, none⟩))), (3, v11), (4, (.int .i64 i18)), (6, (.int .i64 x53)), (11, (.int .i64 (x8.length : Int))), (12, (.int .i64 i18)), (19, v32), (20, (.int .i64 (x30.length : Int))), (21, (.int .i64 i43))]) ⟨rfl, rfl, rfl, rfl, rfl, rfl, rfl, rfl, rfl, trivial⟩ ?_
          refine nx ?_
          refine wpC_region ?_
          refine st_val (ex_move rfl) (by decide) trivial ?_
          refine st_val (ex_move rfl) (by decide) trivial ?_
          obtain ⟨x59, hx59, b50⟩ := bind_some b50
          refine st_op (by decide) trivial ?_
          refine wf_atW h40 hx59 rfl rfl Try.underlying26 Try.sizeOf3 ?_
          intro b60 f61 c62 h63 h64
          cases h64
          refine st_val (ex_load1 rfl Try.isAgg3 (cell_of_cells h63)) (by decide) trivial ?_
          refine st_val (ex_move rfl) (by decide) trivial ?_
          refine st_val (ex_or rfl rfl) (by decide) trivial ?_
          obtain ⟨x65, hx65, b50⟩ := bind_some b50
          refine st_op (by decide) trivial ?_
          refine wf_atP h40 hx65 rfl rfl Try.underlying26 Try.sizeOf3 ?_
          intro b66 c68 h71 h69 h70
          cases h70
          obtain ⟨x74, hx74, b50⟩ := bind_some b50
          refine st_op0 trivial ?_
          refine wf_storeW h40 h71 hx74 rfl (by decide) rfl rfl rfl Try.sizeOf3 rfl ?_
          intro w72 h75 s73
          replace h33 := h33.stp s73 (by decide) (by decide)
          replace h6 := h6.stp s73 (by decide)
          replace hB := hB.stp s73 (by decide)
          refine wpF_end (r := [(1, (.pointer (some ⟨b5, 0, none⟩))), (3, v11), (4, (.int .i64 i18)), (11, (.int .i64 (x8.length : Int))), (12, (.int .i64 i18)), (19, v32), (20, (.int .i64 (x30.length : Int))), (21, (.int .i64 i43))]) ⟨rfl, rfl, rfl, rfl, rfl, rfl, rfl, rfl, trivial⟩ ?_
          refine nb_norm ?_
          refine nx ?_
          refine wpC_region ?_
          refine st_val (ex_add rfl rfl (ck_in (by omega) (by omega))) (by decide) trivial ?_
          refine st_val (ex_move rfl) (by decide) trivial ?_
          refine wpF_end (r := [(1, (.pointer (some ⟨b5, 0, none⟩))), (3, v11), (4, (.int .i64 i18)), (11, (.int .i64 (x8.length : Int))), (12, (.int .i64 i18)), (19, v32), (20, (.int .i64 (x30.length : Int))), (21, (.int .i64 (i43 + 1)))]) ⟨rfl, rfl, rfl, rfl, rfl, rfl, rfl, rfl, trivial⟩ ?_
          refine nt_norm ?_
          have e76 := Option.some.inj b50
          subst e76
          refine to_k (r := [(1, (.pointer (some ⟨b5, 0, none⟩))), (3, v11), (4, (.int .i64 i18)), (11, (.int .i64 (x8.length : Int))), (12, (.int .i64 i18)), (19, v32), (20, (.int .i64 (x30.length : Int))), (21, (.int .i64 (i43 + 1)))]) ⟨rfl, rfl, rfl, rfl, rfl, rfl, rfl, rfl, trivial⟩ ?_
          intro a ha
          exact ⟨_, (by rw [← m47]; simp only [List.length_drop]; omega), i43 + 1, x74, o41, n51, rfl, (by omega), ha, hB, h75, h33, h6⟩
        · have r77 := forI_done t52 l45
          refine wp_of ha ?_
          refine wpC_seq ?_
          refine wpC_region ?_
          refine st_val (ex_lss rfl rfl) (by decide) trivial ?_
          refine wpF_end (r := [(1, (.pointer (some ⟨b5, 0, none⟩))), (3, v11), (4, (.int .i64 i18)), (11, (.int .i64 (x8.length : Int))), (12, (.int .i64 i18)), (19, v32), (20, (.int .i64 (x30.length : Int))), (21, (.int .i64 i43)), (22, (.bool (decide (i43 < (x30.length : Int)))))]) ⟨rfl, rfl, rfl, rfl, rfl, rfl, rfl, rfl, rfl, trivial⟩ ?_
          refine nx ?_
          refine wpC_seq ?_
          refine wpC_false (congrArg (fun b => some (Value.bool b)) (decide_eq_false t52)) ?_
          refine wpC_exit ?_
          refine nt_exit ?_
          refine nt_exit ?_
          refine nb_hit ?_
          refine np_norm ?_
          refine to_k (r := [(1, (.pointer (some ⟨b5, 0, none⟩))), (3, v11), (11, (.int .i64 (x8.length : Int))), (12, (.int .i64 i18))]) ⟨rfl, rfl, rfl, rfl, trivial⟩ ?_
          intro a ha
          exact ⟨y39, o41, r77, ha, hB, h40, h6⟩
      · rintro a w42 ⟨y39, o41, rfl, ha, hB, h40, h6⟩
        dsimp only at b27
        refine ap_k ha ?_
        refine nb_norm ?_
        refine nx ?_
        refine wpC_region ?_
        refine st_val (ex_add rfl rfl (ck_in (by omega) (by omega))) (by decide) trivial ?_
        refine st_val (ex_move rfl) (by decide) trivial ?_
        refine wpF_end (r := [(1, (.pointer (some ⟨b5, 0, none⟩))), (3, v11), (11, (.int .i64 (x8.length : Int))), (12, (.int .i64 (i18 + 1)))]) ⟨rfl, rfl, rfl, rfl, trivial⟩ ?_
        refine nt_norm ?_
        have e78 := Option.some.inj b27
        subst e78
        refine to_k (r := [(1, (.pointer (some ⟨b5, 0, none⟩))), (3, v11), (11, (.int .i64 (x8.length : Int))), (12, (.int .i64 (i18 + 1)))]) ⟨rfl, rfl, rfl, rfl, trivial⟩ ?_
        intro a ha
        exact ⟨_, (by rw [← m24]; omega), i18 + 1, y39, o41, n28, rfl, (by omega), ha, hB, h40, h6⟩
      · exact fun _ _ h => h.elim
    · have r79 := forN_done t29 l22
      refine wp_of ha ?_
      refine wpC_seq ?_
      refine wpC_region ?_
      refine st_val (ex_lss rfl rfl) (by decide) trivial ?_
      refine wpF_end (r := [(1, (.pointer (some ⟨b5, 0, none⟩))), (3, v11), (11, (.int .i64 (x8.length : Int))), (12, (.int .i64 i18)), (13, (.bool (decide (i18 < (x8.length : Int)))))]) ⟨rfl, rfl, rfl, rfl, rfl, trivial⟩ ?_
      refine nx ?_
      refine wpC_seq ?_
      refine wpC_false (congrArg (fun b => some (Value.bool b)) (decide_eq_false t29)) ?_
      refine wpC_exit ?_
      refine nt_exit ?_
      refine nt_exit ?_
      refine nb_hit ?_
      refine np_norm ?_
      refine to_k (r := [(3, v11)]) ⟨rfl, trivial⟩ ?_
      intro a ha
      exact ⟨y14, o16, r79, ha, hB, h15⟩
  · rintro a w17 ⟨y14, o16, rfl, ha, hB, h15⟩
    dsimp only at hF
    refine ap_k ha ?_
    refine nx ?_
    refine wpC_seq ?_
    refine wpC_region ?_
    refine st_val (ex_move rfl) (by decide) trivial ?_
    refine st_val (ex_assign rfl) (by decide) trivial ?_
    refine wpF_end (r := [(2, v11)]) ⟨rfl, trivial⟩ ?_
    refine nx ?_
    refine wpC_ret ?_
    have e80 := Option.some.inj hF
    subst e80
    refine ret_post (P := Try.prog) (vs := [v11]) Try.results79 ⟨rfl, trivial⟩ ?_
    exact ⟨_, rt oo o16 w.heap.size 12 t, rfl, h15.rt hB (by decide) t, hB.keeps, rt_old _ _ _ _ _⟩
  · exact fun _ _ h => h.elim

def fI_WalkProblem_distancesIn_s2 (i36 : Int) : Int → Int → (List Int) → Option (Lp (List Int) (List Int) (List Int)) := fun (i65 : Int) (x75 : Int) (s : List Int) =>
  (ix s x75) >>= fun x81 =>
  if decide (x81 < 0) then
    (ix s x75) >>= fun x88 =>
    (st s x75 i36) >>= fun x97 =>
    some (.go x97)
  else
    some (.go s)
def fI_WalkProblem_distancesIn_s1 (fuel : Nat) : Int → Int → (List Int) → Option (Lp (List Int) (List Int) (List Int)) := fun (i36 : Int) (x46 : Int) (s : List Int) =>
  (fI_labelsIn fuel x46) >>= fun x52 =>
  (forI (fI_WalkProblem_distancesIn_s2 i36) x52 0 s) >>= fun q66 =>
  match q66 with
  | .inl y61 =>
    some (.go y61)
  | .inr _ => none
def fI_WalkProblem_distancesIn (fuel : Nat) (p0 : T_WalkProblem) (p1 : Int) : Option (List Int) :=
  (repO ([(-1)] : List Int) p0.Labels) >>= fun x20 =>
  (fI_WalkProblem_reached fuel p0 p1 p0.Labels) >>= fun x23 =>
  (forI (fI_WalkProblem_distancesIn_s1 fuel) x23 0 x20) >>= fun q37 =>
  match q37 with
  | .inl y32 =>
    some y32
  | .inr _ => none

def pI_WalkProblem_distancesIn (oo : Tg) (t : Nat) (w : World) (r : List Int) : Ending → World → Prop := fun e w' => ∃ (v0 : Value) (o' : Tg), e = .returned (v0) ∧ Ow w.heap.size 3 t o' w' v0 r ∧ Keeps w w' ∧ ∀ b, b < w.heap.size → o' b = oo b
set_option maxRecDepth 100000 in
set_option maxHeartbeats 2000000 in
theorem cI_WalkProblem_distancesIn (fuel : Nat) (w : World) (oo : Tg) (t : Nat) (ht : 2 ≤ t) (u0 : List Value) (p0 : T_WalkProblem) (g0 : Rp.rd zt w u0 p0) (p1 : Int) (r : List Int) (hF : fI_WalkProblem_distancesIn fuel p0 p1 = some r) :
    Calls Try.prog 108 #[.agg u0.toArray, .int .i64 p1] w (pI_WalkProblem_distancesIn oo t w r) := by
  unfold fI_WalkProblem_distancesIn at hF
  obtain ⟨v1, rfl, h2⟩ := g0
  have hB : Bs oo (col oo) w w := Bs.start _ _
  refine calls_start (n := 44) (vs := [(.agg #[(.int .i64 p0.Labels), v1]), (.int .i64 p1)]) Try.func108 rfl rfl ?_
  generalize col oo = o at *
  refine wpC_seq ?_
  refine wpC_region ?_
  refine st_op (by decide) trivial ?_
  refine wf_box (o := o) w.heap.size 11 hB.keeps.size (cs := [(.int .i64 p0.Labels), v1]) rfl rfl ?_
  intro o3 w4 b5 h6 s7
  replace hB := hB.stp s7 (by decide)
  refine st_val (ex_assign rfl) (by decide) trivial ?_
  refine wpF_end (r := [(1, (.int .i64 p1)), (2, (.pointer (some ⟨b5, 0, none⟩)))]) ⟨rfl, rfl, trivial⟩ ?_
  refine nx ?_
  refine wpC_seq ?_
  refine wpC_region ?_
  refine st_op (by decide) trivial ?_
  refine wf_litR (o := o3) (cs := [(.int .i64 (-1))]) (xs := ([(-1)] : List Int)) (vs := [(0, (.int .i64 (-1)))]) ⟨_, _, rfl, rfl, rfl⟩ rfl ⟨rfl, rfl, trivial⟩ Try.underlying26 Try.sizeOf3 Try.zeroValue3 (by decide) (fill1 rfl) (by simp) ?_
  intro o8 w9 v10 h11 s12 k13
  replace h6 := h6.stp s12 (by decide)
  replace hB := hB.stp s12 (by decide)
  refine st_val (ex_field rfl Try.underlying29 rfl Try.sizeOf3) (by decide) trivial ?_
  refine st_val (ex_load1 rfl Try.isAgg3 (h6.cell rfl)) (by decide) trivial ?_
  obtain ⟨x20, hx20, hF⟩ := bind_some hF
  refine st_op (by decide) trivial ?_
  refine wf_call (cX_Repeat w9 o8 12 v10 ([(-1)] : List Int) h11.z p0.Labels x20 hx20) Try.call48 ⟨rfl, rfl, trivial⟩ ?_
  rintro e15 w14 ⟨v21, o19, rfl, h22, k16, k17⟩
  have s18 := k16.stp' 12 k17
  replace h22 := h22.mono hB.keeps.size
  refine ⟨_, rfl, ?_⟩
  replace h11 := h11.stp s18 (by decide)
  replace h6 := h6.stp s18 (by decide)
  replace hB := hB.stp s18 (by decide)
  refine st_val (ex_assign rfl) (by decide) trivial ?_
  refine wpF_end (r := [(1, (.int .i64 p1)), (2, (.pointer (some ⟨b5, 0, none⟩))), (5, v21)]) ⟨rfl, rfl, rfl, trivial⟩ ?_
  refine nx ?_
  refine wpC_seq ?_
  refine wpC_seq ?_
  refine wpC_region ?_
  refine st_val (ex_loadA rfl Try.isAgg29 Try.sizeOf29 rfl h6.cells) (by decide) trivial ?_
  refine st_val (ex_move rfl) (by decide) trivial ?_
  refine st_val (ex_field rfl Try.underlying29 rfl Try.sizeOf3) (by decide) trivial ?_
  refine st_val (ex_load1 rfl Try.isAgg3 (h6.cell rfl)) (by decide) trivial ?_
  obtain ⟨x23, hx23, hF⟩ := bind_some hF
  refine st_op (by decide) trivial ?_
  refine wf_call (cI_WalkProblem_reached fuel w14 o19 13 (by decide) _ p0 (⟨_, rfl, (h2.keep hB.keeps)⟩) p1 p0.Labels x23 hx23) Try.call101 ⟨rfl, rfl, rfl, trivial⟩ ?_
  rintro e30 w24 ⟨v25, o31, rfl, h26, k27, k28⟩
  have s29 := k27.stp' 13 k28
  replace h26 := h26.mono hB.keeps.size
  refine ⟨_, rfl, ?_⟩
  replace h22 := h22.stp s29 (by decide) (by decide)
  replace h6 := h6.stp s29 (by decide)
  replace hB := hB.stp s29 (by decide)
  refine st_val (ex_lenO rfl h26 Try.underlying26) (by decide) trivial ?_
  refine st_val (ex_move rfl) (by decide) trivial ?_
  refine wpF_end (r := [(5, v21), (18, v25), (19, (.int .i64 (x23.length : Int))), (20, (.int .i64 0))]) ⟨rfl, rfl, rfl, rfl, trivial⟩ ?_
  refine nx ?_
  obtain ⟨q37, hq37, hF⟩ := bind_some hF
  refine wpC_cutN (fun a w35 => ∃ (y32 : List Int) (o34 : Tg), q37 = .inl y32 ∧ Fr a 44 [(5, v21)] ∧ Bs oo o34 w w35 ∧ Ow w.heap.size 3 12 o34 w35 v21 y32) (fun _ _ => False) ?_ ?_ ?_
  · refine wpC_block ?_
    refine wpC_loop (fun (K : Nat) a w35 => ∃ (i36 : Int) (y32 : List Int) (o34 : Tg), forI (fI_WalkProblem_distancesIn_s1 fuel) (x23.drop i36.toNat) i36 y32 = some q37 ∧ (x23.drop i36.toNat).length = K ∧ 0 ≤ i36 ∧ Fr a 44 [(5, v21), (18, v25), (19, (.int .i64 (x23.length : Int))), (20, (.int .i64 i36))] ∧ Bs oo o34 w w35 ∧ Ow w.heap.size 3 12 o34 w35 v21 y32 ∧ Ow w.heap.size 3 13 o34 w35 v25 x23) _ (fun a ha => ⟨0, x20, o31, hq37, rfl, Int.le_refl 0, ha.sub (r := [(5, v21), (18, v25), (19, (.int .i64 (x23.length : Int))), (20, (.int .i64 0))]) ⟨rfl, rfl, rfl, rfl, trivial⟩, hB, h22, h26⟩) ?_
    rintro K41 a w35 ⟨i36, y32, o34, l38, m40, z39, ha, hB, h33, h26⟩
    by_cases t45 : i36 < (x23.length : Int)
    · obtain ⟨x46, q42, hx46, b43, n44⟩ := forI_cons z39 t45 l38
      have hle := h26.len_le
      dsimp only [fI_WalkProblem_distancesIn_s1] at b43
      refine wp_of ha ?_
      refine wpC_seq ?_
      refine wpC_region ?_
      refine st_val (ex_lss rfl rfl) (by decide) trivial ?_
      refine wpF_end (r := [(5, v21), (18, v25), (19, (.int .i64 (x23.length : Int))), (20, (.int .i64 i36)), (21, (.bool (decide (i36 < (x23.length : Int)))))]) ⟨rfl, rfl, rfl, rfl, rfl, trivial⟩ ?_
      refine nx ?_
      refine wpC_seq ?_
      refine wpC_true (congrArg (fun b => some (Value.bool b)) (decide_eq_true t45)) ?_
      refine wpC_skip ?_
      refine nx ?_
      refine wpC_seq ?_
      refine wpC_block ?_
      refine wpC_seq ?_
      refine wpC_region ?_
      refine st_val (ex_move rfl) (by decide) trivial ?_
      refine st_op (by decide) trivial ?_
      refine wf_atW h26 hx46 rfl rfl Try.underlying26 Try.sizeOf3 ?_
      intro b47 f48 c49 h50 h51
      cases h51
      refine st_val (ex_load1 rfl Try.isAgg3 (cell_of_cells h50)) (by decide) trivial ?_
      refine st_val (ex_assign rfl) (by decide) trivial ?_
      refine st_val (ex_assign rfl) (by decide) trivial ?_
      refine wpF_end (r := [(5, v21), (6, (.int .i64 i36)), (7, (.int .i64 x46)), (18, v25), (19, (.int .i64 (x23.length : Int))), (20, (.int .i64 i36))]) ⟨rfl, rfl, rfl, rfl, rfl, rfl, trivial⟩ ?_
      refine nx ?_
      refine wpC_seq ?_
      refine wpC_region ?_
      refine st_val (ex_move rfl) (by decide) trivial ?_
      obtain ⟨x52, hx52, b43⟩ := bind_some b43
      refine st_op (by decide) trivial ?_
      refine wf_call (cI_labelsIn fuel w35 o34 14 (by decide) x46 x52 hx52) Try.call60 ⟨rfl, trivial⟩ ?_
      rintro e59 w53 ⟨v54, o60, rfl, h55, k56, k57⟩
      have s58 := k56.stp' 14 k57
      replace h55 := h55.mono hB.keeps.size
      refine ⟨_, rfl, ?_⟩
      replace h33 := h33.stp s58 (by decide) (by decide)
      replace h26 := h26.stp s58 (by decide) (by decide)
      replace hB := hB.stp s58 (by decide)
      refine st_val (ex_lenO rfl h55 Try.underlying26) (by decide) trivial ?_
      refine st_val (ex_move rfl) (by decide) trivial ?_
      refine wpF_end (r := [(5, v21), (6, (.int .i64 i36)), (18, v25), (19, (.int .i64 (x23.length : Int))), (20, (.int .i64 i36)), (26, v54), (27, (.int .i64 (x52.length : Int))), (28, (.int .i64 0))]) ⟨rfl, rfl, rfl, rfl, rfl, rfl, rfl, rfl, trivial⟩ ?_
      refine nx ?_
      obtain ⟨q66, hq66, b43⟩ := bind_some b43
      refine wpC_cutN (fun a w64 => ∃ (y61 : List Int) (o63 : Tg), q66 = .inl y61 ∧ Fr a 44 [(5, v21), (18, v25), (19, (.int .i64 (x23.length : Int))), (20, (.int .i64 i36))] ∧ Bs oo o63 w w64 ∧ Ow w.heap.size 3 12 o63 w64 v21 y61 ∧ Ow w.heap.size 3 13 o63 w64 v25 x23) (fun _ _ => False) ?_ ?_ ?_
      · refine wpC_block ?_
        refine wpC_loop (fun (K : Nat) a w64 => ∃ (i65 : Int) (y61 : List Int) (o63 : Tg), forI (fI_WalkProblem_distancesIn_s2 i36) (x52.drop i65.toNat) i65 y61 = some q66 ∧ (x52.drop i65.toNat).length = K ∧ 0 ≤ i65 ∧ Fr a 44 [(5, v21), (6, (.int .i64 i36)), (18, v25), (19, (.int .i64 (x23.length : Int))), (20, (.int .i64 i36)), (26, v54), (27, (.int .i64 (x52.length : Int))), (28, (.int .i64 i65))] ∧ Bs oo o63 w w64 ∧ Ow w.heap.size 3 12 o63 w64 v21 y61 ∧ Ow w.heap.size 3 13 o63 w64 v25 x23 ∧ Ow w.heap.size 3 14 o63 w64 v54 x52) _ (fun a ha => ⟨0, y32, o60, hq66, rfl, Int.le_refl 0, ha.sub (r := [(5, v21), (6, (.int .i64 i36)), (18, v25), (19, (.int .i64 (x23.length : Int))), (20, (.int .i64 i36)), (26, v54), (27, (.int .i64 (x52.length : Int))), (28, (.int .i64 0))]) ⟨rfl, rfl, rfl, rfl, rfl, rfl, rfl, rfl, trivial⟩, hB, h33, h26, h55⟩) ?_
        rintro K70 a w64 ⟨i65, y61, o63, l67, m69, z68, ha, hB, h62, h26, h55⟩
        by_cases t74 : i65 < (x52.length : Int)
        · obtain ⟨x75, q71, hx75, b72, n73⟩ := forI_cons z68 t74 l67
          have hle := h55.len_le
          dsimp only [fI_WalkProblem_distancesIn_s2] at b72
          refine wp_of ha ?_
          refine wpC_seq ?_
          refine wpC_region ?_
          refine st_val (ex_lss rfl rfl) (by decide) trivial ?_
          refine wpF_end (r := [(5, v21), (6, (.int .i64 i36)), (18, v25), (19, (.int .i64 (x23.length : Int))), (20, (.int .i64 i36)), (26, v54), (27, (.int .i64 (x52.length : Int))), (28, (.int .i64 i65)), (29, (.bool (decide (i65 < (x52.length : Int)))))]) ⟨rfl, rfl, rfl, rfl, rfl, rfl, rfl, rfl, rfl, trivial⟩ ?_
          refine nx ?_
          refine wpC_seq ?_
          refine wpC_true (congrArg (fun b => some (Value.bool b)) (decide_eq_true t74)) ?_
          refine wpC_skip ?_
          refine nx ?_
          refine wpC_seq ?_
          refine wpC_block ?_
          refine wpC_seq ?_
          refine wpC_region ?_
          refine st_op (by decide) trivial ?_
          refine wf_atW h55 hx75 rfl rfl Try.underlying26 Try.sizeOf3 ?_
          intro b76 f77 c78 h79 h80
          cases h80
          refine st_val (ex_load1 rfl Try.isAgg3 (cell_of_cells h79)) (by decide) trivial ?_
          refine st_val (ex_assign rfl) (by decide) trivial ?_
          refine wpF_end (r := [(5, v21), (6, (.int .i64 i36)), (9, (.int .i64 x75)), (18, v25), (19, (.int .i64 (x23.length : Int))), (20, (.int .i64 i36)), (26, v54), (27, (.int .i64 (x52.length : Int))), (28, (.int .i64 i65))]) ⟨rfl, rfl, rfl, rfl, rfl, rfl, rfl, rfl, rfl, trivial⟩ ?_
          refine nx ?_
          refine wpC_seq ?_
          refine wpC_region ?_
          refine st_val (ex_move rfl) (by decide) trivial ?_
          refine st_val (ex_move rfl) (by decide) trivial ?_
          obtain ⟨x81, hx81, b72⟩ := bind_some b72
          refine st_op (by decide) trivial ?_
          refine wf_atW h62 hx81 rfl rfl Try.underlying26 Try.sizeOf3 ?_
          intro b82 f83 c84 h85 h86
          cases h86
          refine st_val (ex_load1 rfl Try.isAgg3 (cell_of_cells h85)) (by decide) trivial ?_
          refine st_val (ex_lss rfl rfl) (by decide) trivial ?_
          refine wpF_end (r := [(5, v21), (6, (.int .i64 i36)), (9, (.int .i64 x75)), (18, v25), (19, (.int .i64 (x23.length : Int))), (20, (.int .i64 i36)), (26, v54), (27, (.int .i64 (x52.length : Int))), (28, (.int .i64 i65)), (36, (.bool (decide (x81 < 0))))]) ⟨rfl, rfl, rfl, rfl, rfl, rfl, rfl, rfl, rfl, rfl, trivial⟩ ?_
          refine nx ?_
          refine wpC_cond rfl (fun t87 => ?_) (fun t87 => ?_)
          · rw [if_pos t87] at b72
            refine wpC_region ?_
            refine st_val (ex_move rfl) (by decide) trivial ?_
            refine st_val (ex_move rfl) (by decide) trivial ?_
            refine st_val (ex_move rfl) (by decide) trivial ?_
            obtain ⟨x88, hx88, b72⟩ := bind_some b72
            refine st_op (by decide) trivial ?_
            refine wf_atP h62 hx88 rfl rfl Try.underlying26 Try.sizeOf3 ?_
            intro b89 c91 h94 h92 h93
            cases h93
            obtain ⟨x97, hx97, b72⟩ := bind_some b72
            refine st_op0 trivial ?_
            refine wf_storeW h62 h94 hx97 rfl (by decide) rfl rfl rfl Try.sizeOf3 rfl ?_
            intro w95 h98 s96
            replace h26 := h26.stp s96 (by decide) (by decide)
            replace h55 := h55.stp s96 (by decide) (by decide)
            replace hB := hB.stp s96 (by decide)
            refine wpF_end (r := [(5, v21), (6, (.int .i64 i36)), (18, v25), (19, (.int .i64 (x23.length : Int))), (20, (.int .i64 i36)), (26, v54), (27, (.int .i64 (x52.length : Int))), (28, (.int .i64 i65))]) ⟨rfl, rfl, rfl, rfl, rfl, rfl, rfl, rfl, trivial⟩ ?_
            refine nb_norm ?_
            refine nx ?_
            refine wpC_region ?_
            refine st_val (ex_add rfl rfl (ck_in (by omega) (by omega))) (by decide) trivial ?_
            refine st_val (ex_move rfl) (by decide) trivial ?_
            refine wpF_end (r := [(5, v21), (6, (.int .i64 i36)), (18, v25), (19, (.int .i64 (x23.length : Int))), (20, (.int .i64 i36)), (26, v54), (27, (.int .i64 (x52.length : Int))), (28, (.int .i64 (i65 + 1)))]) ⟨rfl, rfl, rfl, rfl, rfl, rfl, rfl, rfl, trivial⟩ ?_
            refine nt_norm ?_
            have e99 := Option.some.inj b72
            subst e99
            refine to_k (r := [(5, v21), (6, (.int .i64 i36)), (18, v25), (19, (.int .i64 (x23.length : Int))), (20, (.int .i64 i36)), (26, v54), (27, (.int .i64 (x52.length : Int))), (28, (.int .i64 (i65 + 1)))]) ⟨rfl, rfl, rfl, rfl, rfl, rfl, rfl, rfl, trivial⟩ ?_
            intro a ha
            exact ⟨_, (by rw [← m69]; simp only [List.length_drop]; omega), i65 + 1, x97, o63, n73, rfl, (by omega), ha, hB, h98, h26, h55⟩
          · rw [if_neg (by rw [t87]; decide)] at b72
            refine wpC_skip ?_
            refine nb_norm ?_
            refine nx ?_
            refine wpC_region ?_
            refine st_val (ex_add rfl rfl (ck_in (by omega) (by omega))) (by decide) trivial ?_
            refine st_val (ex_move rfl) (by decide) trivial ?_
            refine wpF_end (r := [(5, v21), (6, (.int .i64 i36)), (18, v25), (19, (.int .i64 (x23.length : Int))), (20, (.int .i64 i36)), (26, v54), (27, (.int .i64 (x52.length : Int))), (28, (.int .i64 (i65 + 1)))]) ⟨rfl, rfl, rfl, rfl, rfl, rfl, rfl, rfl, trivial⟩ ?_
            refine nt_norm ?_
            have e100 := Option.some.inj b72
            subst e100
            refine to_k (r := [(5, v21), (6, (.int .i64 i36)), (18, v25), (19, (.int .i64 (x23.length : Int))), (20, (.int .i64 i36)), (26, v54), (27, (.int .i64 (x52.length : Int))), (28, (.int .i64 (i65 + 1)))]) ⟨rfl, rfl, rfl, rfl, rfl, rfl, rfl, rfl, trivial⟩ ?_
            intro a ha
            exact ⟨_, (by rw [← m69]; simp only [List.length_drop]; omega), i65 + 1, y61, o63, n73, rfl, (by omega), ha, hB, h62, h26, h55⟩
        · have r101 := forI_done t74 l67
          refine wp_of ha ?_
          refine wpC_seq ?_
          refine wpC_region ?_
          refine st_val (ex_lss rfl rfl) (by decide) trivial ?_
          refine wpF_end (r := [(5, v21), (6, (.int .i64 i36)), (18, v25), (19, (.int .i64 (x23.length : Int))), (20, (.int .i64 i36)), (26, v54), (27, (.int .i64 (x52.length : Int))), (28, (.int .i64 i65)), (29, (.bool (decide (i65 < (x52.length : Int)))))]) ⟨rfl, rfl, rfl, rfl, rfl, rfl, rfl, rfl, rfl, trivial⟩ ?_
          refine nx ?_
          refine wpC_seq ?_
          refine wpC_false (congrArg (fun b => some (Value.bool b)) (decide_eq_false t74)) ?_
          refine wpC_exit ?_
          refine nt_exit ?_
          refine nt_exit ?_
          refine nb_hit ?_
          refine np_norm ?_
          refine to_k (r := [(5, v21), (18, v25), (19, (.int .i64 (x23.length : Int))), (20, (.int .i64 i36))]) ⟨rfl, rfl, rfl, rfl, trivial⟩ ?_
          intro a ha
          exact ⟨y61, o63, r101, ha, hB, h62, h26⟩
      · rintro a w64 ⟨y61, o63, rfl, ha, hB, h62, h26⟩
        dsimp only at b43
        refine ap_k ha ?_
        refine nb_norm ?_
        refine nx ?_
        refine wpC_region ?_
        refine st_val (ex_add rfl rfl (ck_in (by omega) (by omega))) (by decide) trivial ?_
        refine st_val (ex_move rfl) (by decide) trivial ?_
        refine wpF_end (r := [(5, v21), (18, v25), (19, (.int .i64 (x23.length : Int))), (20, (.int .i64 (i36 + 1)))]) ⟨rfl, rfl, rfl, rfl, trivial⟩ ?_
        refine nt_norm ?_
        have e102 := Option.some.inj b43
        subst e102
        refine to_k (r := [(5, v21), (18, v25), (19, (.int .i64 (x23.length : Int))), (20, (.int .i64 (i36 + 1)))]) ⟨rfl, rfl, rfl, rfl, trivial⟩ ?_
        intro a ha
        exact ⟨_, (by rw [← m40]; simp only [List.length_drop]; omega), i36 + 1, y61, o63, n44, rfl, (by omega), ha, hB, h62, h26⟩
      · exact fun _ _ h => h.elim
    · have r103 := forI_done t45 l38
      refine wp_of ha ?_
      refine wpC_seq ?_
      refine wpC_region ?_
      refine st_val (ex_lss rfl rfl) (by decide) trivial ?_
      refine wpF_end (r := [(5, v21), (18, v25), (19, (.int .i64 (x23.length : Int))), (20, (.int .i64 i36)), (21, (.bool (decide (i36 < (x23.length : Int)))))]) ⟨rfl, rfl, rfl, rfl, rfl, trivial⟩ ?_
      refine nx ?_
      refine wpC_seq ?_
      refine wpC_false (congrArg (fun b => some (Value.bool b)) (decide_eq_false t45)) ?_
      refine wpC_exit ?_
      refine nt_exit ?_
      refine nt_exit ?_
      refine nb_hit ?_
      refine np_norm ?_
      refine to_k (r := [(5, v21)]) ⟨rfl, trivial⟩ ?_
      intro a ha
      exact ⟨y32, o34, r103, ha, hB, h33⟩
  · rintro a w35 ⟨y32, o34, rfl, ha, hB, h33⟩
    dsimp only at hF
    refine ap_k ha ?_
    refine nx ?_
    refine wpC_seq ?_
    refine wpC_region ?_
    refine st_val (ex_move rfl) (by decide) trivial ?_
    refine st_val (ex_assign rfl) (by decide) trivial ?_
    refine wpF_end (r := [(4, v21)]) ⟨rfl, trivial⟩ ?_
    refine nx ?_
    refine wpC_ret ?_
    have e104 := Option.some.inj hF
    subst e104
    refine ret_post (P := Try.prog) (vs := [v21]) Try.results108 ⟨rfl, trivial⟩ ?_
    exact ⟨_, rt oo o34 w.heap.size 12 t, rfl, h33.rt hB (by decide) t, hB.keeps, rt_old _ _ _ _ _⟩
  · exact fun _ _ h => h.elim

def fI_WalkProblem_periodOf_s1 (p1 : List Int) (x35 : List Int) : Int → (List Int) → Int → Option (Lp Int Int Int) := fun (i47 : Int) (x57 : List Int) (s : Int) =>
  (ix x57 0) >>= fun x65 =>
  (fX_slices_Contains_int_int p1 x65) >>= fun x71 =>
  (
    if x71 then
      (ix x57 1) >>= fun x81 =>
      (fX_slices_Contains_int_int p1 x81) >>= fun x87 =>
      some x87
    else
      some false) >>= fun q77 =>
  if q77 then
    (ix x57 0) >>= fun x97 =>
    (ix x35 x97) >>= fun x100 =>
    (ck (x100 + 1)) >>= fun x103 =>
    (ix x57 1) >>= fun x104 =>
    (ix x35 x104) >>= fun x107 =>
    (ck (x103 - x107)) >>= fun x185 =>
    (ck (-x185)) >>= fun x186 =>
    (fI_gcd ([s, max x185 (-x185)] : List Int)) >>= fun x193 =>
    some (.go x193)
  else
    some (.go s)
def fI_WalkProblem_periodOf (fuel : Nat) (p0 : T_WalkProblem) (p1 : List Int) : Option Int :=
  (ix p1 0) >>= fun x8 =>
  (fI_WalkProblem_distancesIn fuel p0 x8) >>= fun x35 =>
  (forI (fI_WalkProblem_periodOf_s1 p1 x35) p0.Arcs 0 0) >>= fun q48 =>
  match q48 with
  | .inl y44 =>
    some y44
  | .inr _ => none

def pI_WalkProblem_periodOf (w : World) (r : Int) : Ending → World → Prop := fun e w' => e = .returned (.int .i64 r) ∧ Keeps w w'
set_option maxRecDepth 100000 in
set_option maxHeartbeats 2000000 in
theorem cI_WalkProblem_periodOf (fuel : Nat) (w : World) (u0 : List Value) (p0 : T_WalkProblem) (g0 : Rp.rd zt w u0 p0) (u1 : Value) (p1 : List Int) (g1 : RdL zt w u1 p1) (r : Int) (hF : fI_WalkProblem_periodOf fuel p0 p1 = some r) :
    Calls Try.prog 82 #[.agg u0.toArray, u1] w (pI_WalkProblem_periodOf w r) := by
  unfold fI_WalkProblem_periodOf at hF
  obtain ⟨v1, rfl, h2⟩ := g0
  have hB : Bs (fun _ => 1) (col (fun _ => 1)) w w := Bs.start _ _
  refine calls_start (n := 57) (vs := [(.agg #[(.int .i64 p0.Labels), v1]), u1]) Try.func82 rfl rfl ?_
  refine wpC_seq ?_
  refine wpC_region ?_
  refine st_op (by decide) trivial ?_
  refine wf_box (o := (col (fun _ => 1))) w.heap.size 11 hB.keeps.size (cs := [(.int .i64 p0.Labels), v1]) rfl rfl ?_
  intro o3 w4 b5 h6 s7
  replace hB := hB.stp s7 (by decide)
  refine st_val (ex_assign rfl) (by decide) trivial ?_
  refine wpF_end (r := [(1, u1), (2, (.pointer (some ⟨b5, 0, none⟩)))]) ⟨rfl, rfl, trivial⟩ ?_
  refine nx ?_
  refine wpC_seq ?_
  obtain ⟨x8, hx8, hF⟩ := bind_some hF
  refine wpC_drawn (o := o3) [(1, u1), (2, (.pointer (some ⟨b5, 0, none⟩)))] [1, 2] [10, 11, 12, 13] [[], [], [1], [2]] [none, none, none, none] [999, 999, 999, 999] [0, 0, 0, 0] [999] [fun v _ _ => v = (.agg #[(.int .i64 p0.Labels), v1]), fun v _ _ => v = u1, fun v o w9 => ∃ vl, v = adr vl ((0 : Int).toNat * Rp.sz Int) ∧ RdL zt w vl p1, fun v _ _ => v = (.int .i64 x8)] (fun o8 w8 => Bs (fun _ => 1) o8 w w8 ∧ Bx w.heap.size 11 o8 w8 b5 29 [(.int .i64 p0.Labels), v1]) follows_mixed (by kernel_rfl) rfl ⟨rfl, rfl, trivial⟩ ⟨hB, h6⟩ ?_ ⟨st_eq _, st_eq _, fun _ _ _ _ _ _ h0 hb ⟨vl, e, h⟩ hs => ⟨vl, e, h⟩, st_eq _, trivial⟩ ?_ ?_
  · rintro t9 o1 w1 o2 w2 ht9 ⟨hB, h6⟩ hs9
    have ht9 : t9 = 999 := by simpa using ht9
    subst ht9
    all_goals exact ⟨hB.stp hs9 (by decide), h6.stp hs9 (by decide)⟩
  · refine ⟨?_, ?_, ?_, ?_, trivial⟩
    · rintro o11 w12 a13 ha ⟨hB, h6⟩ -
      refine opS_of ha (trivial) ?_
      refine op1_val (ex_loadA rfl Try.isAgg29 Try.sizeOf29 rfl h6.cells) ?_
      exact ⟨_, Stp.refl _ _ _, rfl⟩
    · rintro o14 w15 a16 ha ⟨hB, h6⟩ -
      refine opS_of ha (trivial) ?_
      refine op1_val (ex_move rfl) ?_
      exact ⟨_, Stp.refl _ _ _, rfl⟩
    · rintro o17 w18 a19 ha ⟨hB, h6⟩ ⟨r20, -⟩
      have ha := Fr.cons (d := 11) ha r20
      refine opS_of ha (trivial) ?_
      refine wd_indexR g1 hx8 rfl rfl Try.underlying26 Try.sizeOf3 ?_
      exact ⟨_, Stp.refl _ _ _, ⟨_, rfl, g1⟩⟩
    · rintro o21 w22 a23 ha ⟨hB, h6⟩ ⟨r24, -⟩
      obtain ⟨v25, e26, h27⟩ := r24
      have ha := Fr.cons (d := 12) ha e26
      refine opS_of ha (trivial) ?_
      refine wd_load1Z h27 hx8 hB rfl rfl Try.isAgg3 ?_
      intro c28 h29
      cases h29
      exact ⟨_, Stp.refl _ _ _, rfl⟩
  rintro o30 w31 a32 ha ⟨hB, h6⟩ ⟨r33, -, -, r34, -⟩
  have ha := Fr.cons (d := 10) ha r33
  have ha := Fr.cons (d := 13) ha r34
  refine wl_of ha ?_
  simp only [List.length_cons, List.length_nil, Nat.zero_add, Nat.reduceAdd, List.drop_succ_cons, List.drop_zero]
  obtain ⟨x35, hx35, hF⟩ := bind_some hF
  refine st_op (by decide) trivial ?_
  refine wf_call (cI_WalkProblem_distancesIn fuel w31 o30 12 (by decide) _ p0 (⟨_, rfl, (h2.keep hB.keeps)⟩) x8 x35 hx35) Try.call108 ⟨rfl, rfl, trivial⟩ ?_
  rintro e42 w36 ⟨v37, o43, rfl, h38, k39, k40⟩
  have s41 := k39.stp' 12 k40
  replace h38 := h38.mono hB.keeps.size
  refine ⟨_, rfl, ?_⟩
  replace h6 := h6.stp s41 (by decide)
  replace hB := hB.stp s41 (by decide)
  refine st_val (ex_assign rfl) (by decide) trivial ?_
  refine wpF_end (r := [(1, u1), (2, (.pointer (some ⟨b5, 0, none⟩))), (5, v37)]) ⟨rfl, rfl, rfl, trivial⟩ ?_
  refine nx ?_
  refine wpC_seq ?_
  refine wpC_region ?_
  refine st_val (ex_assign rfl) (by decide) trivial ?_
  refine wpF_end (r := [(1, u1), (2, (.pointer (some ⟨b5, 0, none⟩))), (5, v37), (6, (.int .i64 0))]) ⟨rfl, rfl, rfl, rfl, trivial⟩ ?_
  refine nx ?_
  refine wpC_seq ?_
  refine wpC_seq ?_
  refine wpC_region ?_
  refine st_val (ex_field rfl Try.underlying29 rfl Try.sizeOf22) (by decide) trivial ?_
  refine st_val (ex_load1 rfl Try.isAgg22 (h6.cell rfl)) (by decide) trivial ?_
  refine st_val (ex_lenR rfl h2 Try.underlying22) (by decide) trivial ?_
  refine st_val (ex_move rfl) (by decide) trivial ?_
  refine wpF_end (r := [(1, u1), (5, v37), (6, (.int .i64 0)), (16, v1), (17, (.int .i64 (p0.Arcs.length : Int))), (18, (.int .i64 0))]) ⟨rfl, rfl, rfl, rfl, rfl, rfl, trivial⟩ ?_
  refine nx ?_
  obtain ⟨q48, hq48, hF⟩ := bind_some hF
  refine wpC_cutN (fun a w46 => ∃ (y44 : Int) (o45 : Tg), q48 = .inl y44 ∧ Fr a 57 [(6, (.int .i64 y44))] ∧ Bs (fun _ => 1) o45 w w46) (fun _ _ => False) ?_ ?_ ?_
  · refine wpC_block ?_
    refine wpC_loop (fun (K : Nat) a w46 => ∃ (i47 : Int) (y44 : Int) (o45 : Tg), forI (fI_WalkProblem_periodOf_s1 p1 x35) (p0.Arcs.drop i47.toNat) i47 y44 = some q48 ∧ (p0.Arcs.drop i47.toNat).length = K ∧ 0 ≤ i47 ∧ Fr a 57 [(1, u1), (5, v37), (6, (.int .i64 y44)), (16, v1), (17, (.int .i64 (p0.Arcs.length : Int))), (18, (.int .i64 i47))] ∧ Bs (fun _ => 1) o45 w w46 ∧ Ow w.heap.size 3 12 o45 w46 v37 x35) _ (fun a ha => ⟨0, 0, o43, hq48, rfl, Int.le_refl 0, ha.sub (r := [(1, u1), (5, v37), (6, (.int .i64 0)), (16, v1), (17, (.int .i64 (p0.Arcs.length : Int))), (18, (.int .i64 0))]) ⟨rfl, rfl, rfl, rfl, rfl, rfl, trivial⟩, hB, h38⟩) ?_
    rintro K52 a w46 ⟨i47, y44, o45, l49, m51, z50, ha, hB, h38⟩
    by_cases t56 : i47 < (p0.Arcs.length : Int)
    · obtain ⟨x57, q53, hx57, b54, n55⟩ := forI_cons z50 t56 l49
      have hle := h2.len_le
      dsimp only [fI_WalkProblem_periodOf_s1] at b54
      refine wp_of ha ?_
      refine wpC_seq ?_
      refine wpC_region ?_
      refine st_val (ex_lss rfl rfl) (by decide) trivial ?_
      refine wpF_end (r := [(1, u1), (5, v37), (6, (.int .i64 y44)), (16, v1), (17, (.int .i64 (p0.Arcs.length : Int))), (18, (.int .i64 i47)), (19, (.bool (decide (i47 < (p0.Arcs.length : Int)))))]) ⟨rfl, rfl, rfl, rfl, rfl, rfl, rfl, trivial⟩ ?_
      refine nx ?_
      refine wpC_seq ?_
      refine wpC_true (congrArg (fun b => some (Value.bool b)) (decide_eq_true t56)) ?_
      refine wpC_skip ?_
      refine nx ?_
      refine wpC_seq ?_
      refine wpC_block ?_
      refine wpC_seq ?_
      refine wpC_region ?_
      refine st_op (by decide) trivial ?_
      refine wf_atZ h2 hx57 hB rfl rfl Try.underlying22 Try.sizeOf26 ?_
      intro b58 f59 c60 h61 h62
      obtain ⟨v63, rfl, h64⟩ := h62
      refine st_val (ex_load1 rfl Try.isAgg26 (cell_of_cells h61)) (by decide) trivial ?_
      refine st_val (ex_assign rfl) (by decide) trivial ?_
      refine wpF_end (r := [(1, u1), (5, v37), (6, (.int .i64 y44)), (8, v63), (16, v1), (17, (.int .i64 (p0.Arcs.length : Int))), (18, (.int .i64 i47))]) ⟨rfl, rfl, rfl, rfl, rfl, rfl, rfl, trivial⟩ ?_
      refine nx ?_
      refine wpC_seq ?_
      refine wpC_region ?_
      refine st_val (ex_move rfl) (by decide) trivial ?_
      refine st_val (ex_move rfl) (by decide) trivial ?_
      obtain ⟨x65, hx65, b54⟩ := bind_some b54
      refine st_op (by decide) trivial ?_
      refine wf_atZ h64 hx65 hB rfl rfl Try.underlying26 Try.sizeOf3 ?_
      intro b66 f67 c68 h69 h70
      cases h70
      refine st_val (ex_load1 rfl Try.isAgg3 (cell_of_cells h69)) (by decide) trivial ?_
      obtain ⟨x71, hx71, b54⟩ := bind_some b54
      refine st_op (by decide) trivial ?_
      refine wf_call (cX_slices_Contains_int_int w46 _ p1 (g1.keep hB.keeps) x65 x71 hx71) Try.call64 ⟨rfl, rfl, trivial⟩ ?_
      rintro e76 w72 ⟨rfl, k73⟩
      have s75 := k73.stp 999 o45
      refine ⟨_, rfl, ?_⟩
      replace h38 := h38.stp s75 (by decide) (by decide)
      replace hB := hB.stp s75 (by decide)
      refine st_val (ex_move rfl) (by decide) trivial ?_
      obtain ⟨q77, hq77, b54⟩ := bind_some b54
      refine wpF_cutAt 6 (fun a79 w78 => Fr a79 57 [(1, u1), (5, v37), (6, (.int .i64 y44)), (8, v63), (16, v1), (17, (.int .i64 (p0.Arcs.length : Int))), (18, (.int .i64 i47)), (33, (.bool q77))] ∧ Keeps w72 w78) ?_ ?_
      all_goals simp only [List.take_succ_cons, List.take_zero, List.drop_succ_cons, List.drop_zero]
      · have kp : Keeps w72 w72 := Keeps.refl _
        rcases Bool.eq_false_or_eq_true (x71) with t80 | t80
        · rw [if_pos t80] at hq77
          refine st_val (ex_move rfl) (by decide) ⟨_, rfl, (congrArg (fun b => some (Value.bool b)) t80)⟩ ?_
          refine st_val (ex_move rfl) (by decide) ⟨_, rfl, (congrArg (fun b => some (Value.bool b)) t80)⟩ ?_
          obtain ⟨x81, hx81, hq77⟩ := bind_some hq77
          refine st_op (by decide) ⟨_, rfl, (congrArg (fun b => some (Value.bool b)) t80)⟩ ?_
          refine wf_atZ h64 hx81 hB rfl rfl Try.underlying26 Try.sizeOf3 ?_
          intro b82 f83 c84 h85 h86
          cases h86
          refine st_val (ex_load1 rfl Try.isAgg3 (cell_of_cells h85)) (by decide) ⟨_, rfl, (congrArg (fun b => some (Value.bool b)) t80)⟩ ?_
          obtain ⟨x87, hx87, hq77⟩ := bind_some hq77
          refine st_op (by decide) ⟨_, rfl, (congrArg (fun b => some (Value.bool b)) t80)⟩ ?_
          refine wf_call (cX_slices_Contains_int_int w72 _ p1 (g1.keep hB.keeps) x81 x87 hx87) Try.call64 ⟨rfl, rfl, trivial⟩ ?_
          rintro e92 w88 ⟨rfl, k89⟩
          have s91 := k89.stp 999 o45
          refine ⟨_, rfl, ?_⟩
          replace h38 := h38.stp s91 (by decide) (by decide)
          replace hB := hB.stp s91 (by decide)
          replace kp := Keeps.trans kp k89
          refine st_val (ex_pick_t (congrArg (fun b => some (Value.bool b)) t80) rfl) (by decide) trivial ?_
          have hq772 := Option.some.inj hq77
          refine wpF_end (r := [(1, u1), (5, v37), (6, (.int .i64 y44)), (8, v63), (16, v1), (17, (.int .i64 (p0.Arcs.length : Int))), (18, (.int .i64 i47)), (33, (.bool x87))]) ⟨rfl, rfl, rfl, rfl, rfl, rfl, rfl, rfl, trivial⟩ ?_
          subst hq772
          refine np_norm (fun a ha => ⟨ha, kp⟩)
        · rw [if_neg (by rw [t80]; decide)] at hq77
          refine st_no rfl rfl (by rw [t80]; rfl) (by decide) ?_
          refine st_no rfl rfl (by rw [t80]; rfl) (by decide) ?_
          refine st_no rfl rfl (by rw [t80]; rfl) (by decide) ?_
          refine st_no rfl rfl (by rw [t80]; rfl) (by decide) ?_
          refine st_no rfl rfl (by rw [t80]; rfl) (by decide) ?_
          refine st_val (ex_pick_f (congrArg (fun b => some (Value.bool b)) t80) rfl) (by decide) trivial ?_
          have hq772 := Option.some.inj hq77
          refine wpF_end (r := [(1, u1), (5, v37), (6, (.int .i64 y44)), (8, v63), (16, v1), (17, (.int .i64 (p0.Arcs.length : Int))), (18, (.int .i64 i47)), (33, (.bool false))]) ⟨rfl, rfl, rfl, rfl, rfl, rfl, rfl, rfl, trivial⟩ ?_
          subst hq772
          refine np_norm (fun a ha => ⟨ha, kp⟩)
      rintro a95 w78 ⟨ha, k93⟩
      have s94 := k93.stp 999 o45
      replace h38 := h38.stp s94 (by decide) (by decide)
      replace hB := hB.stp s94 (by decide)
      refine wl_of ha ?_
      refine wpF_end (r := [(1, u1), (5, v37), (6, (.int .i64 y44)), (8, v63), (16, v1), (17, (.int .i64 (p0.Arcs.length : Int))), (18, (.int .i64 i47)), (33, (.bool q77))]) ⟨rfl, rfl, rfl, rfl, rfl, rfl, rfl, rfl, trivial⟩ ?_
      refine nx ?_
      refine wpC_cond rfl (fun t96 => ?_) (fun t96 => ?_)
      · rw [if_pos t96] at b54
        refine wpC_seq ?_
        obtain ⟨x97, hx97, b54⟩ := bind_some b54
        obtain ⟨x100, hx100, b54⟩ := bind_some b54
        obtain ⟨x103, hx103, b54⟩ := bind_some b54
        obtain ⟨x104, hx104, b54⟩ := bind_some b54
        obtain ⟨x107, hx107, b54⟩ := bind_some b54
        refine wpC_drawn (o := o45) [(1, u1), (5, v37), (6, (.int .i64 y44)), (8, v63), (16, v1), (17, (.int .i64 (p0.Arcs.length : Int))), (18, (.int .i64 i47))] [1, 5, 6, 8, 16, 17, 18] [34, 35, 36, 37, 38, 39, 40, 41, 42, 43, 44, 45, 46] [[], [], [1], [2], [0, 3], [4], [5], [], [], [8], [9], [7, 10], [11]] [none, none, none, none, none, none, none, none, none, none, none, none, none] [999, 999, 999, 999, 999, 999, 999, 999, 999, 999, 999, 999, 999] [0, 0, 0, 0, 12, 0, 0, 0, 0, 0, 0, 12, 0] [999] [fun v _ _ => v = v37, fun v _ _ => v = v63, fun v o w9 => ∃ vl, v = adr vl ((0 : Int).toNat * Rp.sz Int) ∧ RdL zt w vl x57, fun v _ _ => v = (.int .i64 x97), fun v o w9 => ∃ vl, v = adr vl (x97.toNat * Rp.sz Int) ∧ Ow w.heap.size 3 12 o w9 vl x35, fun v _ _ => v = (.int .i64 x100), fun v _ _ => v = (.int .i64 x103), fun v _ _ => v = v37, fun v _ _ => v = v63, fun v o w9 => ∃ vl, v = adr vl ((1 : Int).toNat * Rp.sz Int) ∧ RdL zt w vl x57, fun v _ _ => v = (.int .i64 x104), fun v o w9 => ∃ vl, v = adr vl (x104.toNat * Rp.sz Int) ∧ Ow w.heap.size 3 12 o w9 vl x35, fun v _ _ => v = (.int .i64 x107)] (fun o8 w8 => Bs (fun _ => 1) o8 w w8 ∧ Ow w.heap.size 3 12 o8 w8 v37 x35) follows_mixed (by kernel_rfl) rfl ⟨rfl, rfl, rfl, rfl, rfl, rfl, rfl, trivial⟩ ⟨hB, h38⟩ ?_ ⟨st_eq _, st_eq _, fun _ _ _ _ _ _ h0 hb ⟨vl, e, h⟩ hs => ⟨vl, e, h⟩, st_eq _, fun _ _ _ _ _ _ h0 hb ⟨vl, e, h⟩ hs => ⟨vl, e, h.stp hs h0.1 (Ne.symm hb)⟩, st_eq _, st_eq _, st_eq _, st_eq _, fun _ _ _ _ _ _ h0 hb ⟨vl, e, h⟩ hs => ⟨vl, e, h⟩, st_eq _, fun _ _ _ _ _ _ h0 hb ⟨vl, e, h⟩ hs => ⟨vl, e, h.stp hs h0.1 (Ne.symm hb)⟩, st_eq _, trivial⟩ ?_ ?_
        · rintro t9 o1 w1 o2 w2 ht9 ⟨hB, h38⟩ hs9
          have ht9 : t9 = 999 := by simpa using ht9
          subst ht9
          all_goals exact ⟨hB.stp hs9 (by decide), h38.stp hs9 (by decide) (by decide)⟩
        · refine ⟨?_, ?_, ?_, ?_, ?_, ?_, ?_, ?_, ?_, ?_, ?_, ?_, ?_, trivial⟩
          · rintro o110 w111 a112 ha ⟨hB, h38⟩ -
            refine opS_of ha (trivial) ?_
            refine op1_val (ex_move rfl) ?_
            exact ⟨_, Stp.refl _ _ _, rfl⟩
          · rintro o113 w114 a115 ha ⟨hB, h38⟩ -
            refine opS_of ha (trivial) ?_
            refine op1_val (ex_move rfl) ?_
            exact ⟨_, Stp.refl _ _ _, rfl⟩
          · rintro o116 w117 a118 ha ⟨hB, h38⟩ ⟨r119, -⟩
            have ha := Fr.cons (d := 35) ha r119
            refine opS_of ha (trivial) ?_
            refine wd_indexR h64 hx97 rfl rfl Try.underlying26 Try.sizeOf3 ?_
            exact ⟨_, Stp.refl _ _ _, ⟨_, rfl, h64⟩⟩
          · rintro o120 w121 a122 ha ⟨hB, h38⟩ ⟨r123, -⟩
            obtain ⟨v124, e125, h126⟩ := r123
            have ha := Fr.cons (d := 36) ha e125
            refine opS_of ha (trivial) ?_
            refine wd_load1Z h126 hx97 hB rfl rfl Try.isAgg3 ?_
            intro c127 h128
            cases h128
            exact ⟨_, Stp.refl _ _ _, rfl⟩
          · rintro o129 w130 a131 ha ⟨hB, h38⟩ ⟨r132, r133, -⟩
            have ha := Fr.cons (d := 34) ha r132
            have ha := Fr.cons (d := 37) ha r133
            refine opS_of ha (trivial) ?_
            refine wd_indexW h38 hx100 rfl rfl Try.underlying26 Try.sizeOf3 ?_
            exact ⟨_, Stp.refl _ _ _, ⟨_, rfl, h38⟩⟩
          · rintro o134 w135 a136 ha ⟨hB, h38⟩ ⟨r137, -⟩
            obtain ⟨v138, e139, h140⟩ := r137
            have ha := Fr.cons (d := 38) ha e139
            refine opS_of ha (trivial) ?_
            refine wd_load1W h140 hx100 rfl rfl Try.isAgg3 ?_
            intro c141 h142
            cases h142
            exact ⟨_, Stp.refl _ _ _, rfl⟩
          · rintro o143 w144 a145 ha ⟨hB, h38⟩ ⟨r146, -⟩
            have ha := Fr.cons (d := 39) ha r146
            refine opS_of ha (trivial) ?_
            refine op1_val (ex_add rfl rfl hx103) ?_
            exact ⟨_, Stp.refl _ _ _, rfl⟩
          · rintro o147 w148 a149 ha ⟨hB, h38⟩ -
            refine opS_of ha (trivial) ?_
            refine op1_val (ex_move rfl) ?_
            exact ⟨_, Stp.refl _ _ _, rfl⟩
          · rintro o150 w151 a152 ha ⟨hB, h38⟩ -
            refine opS_of ha (trivial) ?_
            refine op1_val (ex_move rfl) ?_
            exact ⟨_, Stp.refl _ _ _, rfl⟩
          · rintro o153 w154 a155 ha ⟨hB, h38⟩ ⟨r156, -⟩
            have ha := Fr.cons (d := 42) ha r156
            refine opS_of ha (trivial) ?_
            refine wd_indexR h64 hx104 rfl rfl Try.underlying26 Try.sizeOf3 ?_
            exact ⟨_, Stp.refl _ _ _, ⟨_, rfl, h64⟩⟩
          · rintro o157 w158 a159 ha ⟨hB, h38⟩ ⟨r160, -⟩
            obtain ⟨v161, e162, h163⟩ := r160
            have ha := Fr.cons (d := 43) ha e162
            refine opS_of ha (trivial) ?_
            refine wd_load1Z h163 hx104 hB rfl rfl Try.isAgg3 ?_
            intro c164 h165
            cases h165
            exact ⟨_, Stp.refl _ _ _, rfl⟩
          · rintro o166 w167 a168 ha ⟨hB, h38⟩ ⟨r169, r170, -⟩
            have ha := Fr.cons (d := 41) ha r169
            have ha := Fr.cons (d := 44) ha r170
            refine opS_of ha (trivial) ?_
            refine wd_indexW h38 hx107 rfl rfl Try.underlying26 Try.sizeOf3 ?_
            exact ⟨_, Stp.refl _ _ _, ⟨_, rfl, h38⟩⟩
          · rintro o171 w172 a173 ha ⟨hB, h38⟩ ⟨r174, -⟩
            obtain ⟨v175, e176, h177⟩ := r174
            have ha := Fr.cons (d := 45) ha e176
            refine opS_of ha (trivial) ?_
            refine wd_load1W h177 hx107 rfl rfl Try.isAgg3 ?_
            intro c178 h179
            cases h179
            exact ⟨_, Stp.refl _ _ _, rfl⟩
        rintro o180 w181 a182 ha ⟨hB, h38⟩ ⟨-, -, -, -, -, -, r183, -, -, -, -, -, r184, -⟩
        have ha := Fr.cons (d := 40) ha r183
        have ha := Fr.cons (d := 46) ha r184
        refine wl_of ha ?_
        simp only [List.length_cons, List.length_nil, Nat.zero_add, Nat.reduceAdd, List.drop_succ_cons, List.drop_zero]
        obtain ⟨x185, hx185, b54⟩ := bind_some b54
        refine st_val (ex_sub rfl rfl hx185) (by decide) trivial ?_
        refine st_val (ex_assign rfl) (by decide) trivial ?_
        refine wpF_end (r := [(1, u1), (5, v37), (6, (.int .i64 y44)), (9, (.int .i64 x185)), (16, v1), (17, (.int .i64 (p0.Arcs.length : Int))), (18, (.int .i64 i47))]) ⟨rfl, rfl, rfl, rfl, rfl, rfl, rfl, trivial⟩ ?_
        refine nx ?_
        refine wpC_region ?_
        refine st_val (ex_move rfl) (by decide) trivial ?_
        refine st_val (ex_move rfl) (by decide) trivial ?_
        refine st_val (ex_move rfl) (by decide) trivial ?_
        obtain ⟨x186, hx186, b54⟩ := bind_some b54
        obtain ⟨rfl, hx186a, hx186b⟩ := ck_some hx186
        refine st_val (ex_neg rfl hx186a hx186b) (by decide) trivial ?_
        refine st_val (ex_max rfl rfl) (by decide) trivial ?_
        refine st_op (by decide) trivial ?_
        refine wf_litR (o := o180) (cs := [(.int .i64 y44), (.int .i64 (max x185 (-x185)))]) (xs := ([y44, max x185 (-x185)] : List Int)) (vs := [(0, (.int .i64 y44)), (1, (.int .i64 (max x185 (-x185))))]) ⟨_, _, rfl, rfl, ⟨_, _, rfl, rfl, rfl⟩⟩ rfl ⟨rfl, rfl, rfl, rfl, trivial⟩ Try.underlying26 Try.sizeOf3 Try.zeroValue3 (by decide) (fill2 rfl rfl) (by simp) ?_
        intro o187 w188 v189 h190 s191 k192
        replace h38 := h38.stp s191 (by decide) (by decide)
        replace hB := hB.stp s191 (by decide)
        obtain ⟨x193, hx193, b54⟩ := bind_some b54
        refine st_op (by decide) trivial ?_
        refine wf_call (cI_gcd w188 _ ([y44, max x185 (-x185)] : List Int) h190.z x193 hx193) Try.call109 ⟨rfl, trivial⟩ ?_
        rintro e198 w194 ⟨rfl, k195⟩
        have s197 := k195.stp 999 o187
        refine ⟨_, rfl, ?_⟩
        replace h38 := h38.stp s197 (by decide) (by decide)
        replace h190 := h190.stp s197 (by decide)
        replace hB := hB.stp s197 (by decide)
        refine st_val (ex_assign rfl) (by decide) trivial ?_
        refine wpF_end (r := [(1, u1), (5, v37), (6, (.int .i64 x193)), (16, v1), (17, (.int .i64 (p0.Arcs.length : Int))), (18, (.int .i64 i47))]) ⟨rfl, rfl, rfl, rfl, rfl, rfl, trivial⟩ ?_
        refine nb_norm ?_
        refine nx ?_
        refine wpC_region ?_
        refine st_val (ex_add rfl rfl (ck_in (by omega) (by omega))) (by decide) trivial ?_
        refine st_val (ex_move rfl) (by decide) trivial ?_
        refine wpF_end (r := [(1, u1), (5, v37), (6, (.int .i64 x193)), (16, v1), (17, (.int .i64 (p0.Arcs.length : Int))), (18, (.int .i64 (i47 + 1)))]) ⟨rfl, rfl, rfl, rfl, rfl, rfl, trivial⟩ ?_
        refine nt_norm ?_
        have e199 := Option.some.inj b54
        subst e199
        refine to_k (r := [(1, u1), (5, v37), (6, (.int .i64 x193)), (16, v1), (17, (.int .i64 (p0.Arcs.length : Int))), (18, (.int .i64 (i47 + 1)))]) ⟨rfl, rfl, rfl, rfl, rfl, rfl, trivial⟩ ?_
        intro a ha
        exact ⟨_, (by rw [← m51]; simp only [List.length_drop]; omega), i47 + 1, x193, o187, n55, rfl, (by omega), ha, hB, h38⟩
      · rw [if_neg (by rw [t96]; decide)] at b54
        refine wpC_skip ?_
        refine nb_norm ?_
        refine nx ?_
        refine wpC_region ?_
        refine st_val (ex_add rfl rfl (ck_in (by omega) (by omega))) (by decide) trivial ?_
        refine st_val (ex_move rfl) (by decide) trivial ?_
        refine wpF_end (r := [(1, u1), (5, v37), (6, (.int .i64 y44)), (16, v1), (17, (.int .i64 (p0.Arcs.length : Int))), (18, (.int .i64 (i47 + 1)))]) ⟨rfl, rfl, rfl, rfl, rfl, rfl, trivial⟩ ?_
        refine nt_norm ?_
        have e200 := Option.some.inj b54
        subst e200
        refine to_k (r := [(1, u1), (5, v37), (6, (.int .i64 y44)), (16, v1), (17, (.int .i64 (p0.Arcs.length : Int))), (18, (.int .i64 (i47 + 1)))]) ⟨rfl, rfl, rfl, rfl, rfl, rfl, trivial⟩ ?_
        intro a ha
        exact ⟨_, (by rw [← m51]; simp only [List.length_drop]; omega), i47 + 1, y44, o45, n55, rfl, (by omega), ha, hB, h38⟩
    · have r201 := forI_done t56 l49
      refine wp_of ha ?_
      refine wpC_seq ?_
      refine wpC_region ?_
      refine st_val (ex_lss rfl rfl) (by decide) trivial ?_
      refine wpF_end (r := [(1, u1), (5, v37), (6, (.int .i64 y44)), (16, v1), (17, (.int .i64 (p0.Arcs.length : Int))), (18, (.int .i64 i47)), (19, (.bool (decide (i47 < (p0.Arcs.length : Int)))))]) ⟨rfl, rfl, rfl, rfl, rfl, rfl, rfl, trivial⟩ ?_
      refine nx ?_
      refine wpC_seq ?_
      refine wpC_false (congrArg (fun b => some (Value.bool b)) (decide_eq_false t56)) ?_
      refine wpC_exit ?_
      refine nt_exit ?_
      refine nt_exit ?_
      refine nb_hit ?_
      refine np_norm ?_
      refine to_k (r := [(6, (.int .i64 y44))]) ⟨rfl, trivial⟩ ?_
      intro a ha
      exact ⟨y44, o45, r201, ha, hB⟩
  · rintro a w46 ⟨y44, o45, rfl, ha, hB⟩
    dsimp only at hF
    refine ap_k ha ?_
    refine nx ?_
    refine wpC_seq ?_
    refine wpC_region ?_
    refine st_val (ex_move rfl) (by decide) trivial ?_
    refine st_val (ex_assign rfl) (by decide) trivial ?_
    refine wpF_end (r := [(4, (.int .i64 y44))]) ⟨rfl, trivial⟩ ?_
    refine nx ?_
    refine wpC_ret ?_
    have e202 := Option.some.inj hF
    subst e202
    refine ret_post (P := Try.prog) (vs := [(.int .i64 y44)]) Try.results82 ⟨rfl, trivial⟩ ?_
    exact ⟨rfl, hB.keeps⟩
  · exact fun _ _ h => h.elim

def fI_WalkProblem_walkComponents_s2 (x8 : List Int) (i65 : Int) : Int → Int → (List Int) → Option (Lp (List Int) (List Int) ((List (List Int)) × (List Int))) := fun (i101 : Int) (x111 : Int) (s : List Int) =>
  (ix x8 x111) >>= fun x117 =>
  (shr x117 i65) >>= fun x123 =>
  if (band x123 1) == 1 then
    (push s x111) >>= fun x131 =>
    some (.go x131)
  else
    some (.go s)
def fI_WalkProblem_walkComponents_s3 (x42 : List Int) (y96 : List Int) : Int → Int → Bool → Option (Lp Bool Bool ((List (List Int)) × (List Int))) := fun (i149 : Int) (x159 : Int) (s : Bool) =>
  (
    if s then
      some true
    else
      (ix x42 x159) >>= fun x208 =>
      (fI_setOf y96) >>= fun x211 =>
      some ((band x208 x211) != 0)) >>= fun q165 =>
  some (.go q165)
def fI_WalkProblem_walkComponents_s1 (fuel : Nat) (p0 : T_WalkProblem) (x8 : List Int) (x42 : List Int) : Int → ((List (List Int)) × (List Int) × Int) → Option (Lp ((List (List Int)) × (List Int) × Int) ((List (List Int)) × (List Int) × Int) ((List (List Int)) × (List Int))) := fun (i65 : Int) (s : (List (List Int)) × (List Int) × Int) =>
  (shr s.2.2 i65) >>= fun x77 =>
  if (band x77 1) == 1 then
    some (.go (s.1, s.2.1, s.2.2))
  else
    (ix x8 i65) >>= fun x80 =>
    (fI_labelsIn fuel x80) >>= fun x86 =>
    (forI (fI_WalkProblem_walkComponents_s2 x8 i65) x86 0 []) >>= fun q102 =>
    match q102 with
    | .inl y96 =>
      (fI_setOf y96) >>= fun x140 =>
      (forI (fI_WalkProblem_walkComponents_s3 x42 y96) y96 0 false) >>= fun q150 =>
      match q150 with
      | .inl y146 =>
        if y146 then
          (push s.1 y96) >>= fun x279 =>
          (fI_WalkProblem_periodOf fuel p0 y96) >>= fun x287 =>
          (push s.2.1 x287) >>= fun x369 =>
          some (.go (x279, x369, bor s.2.2 x140))
        else
          some (.go (s.1, s.2.1, bor s.2.2 x140))
      | .inr _ => none
    | .inr _ => none
def fI_WalkProblem_walkComponents (fuel : Nat) (p0 : T_WalkProblem) : Option ((List (List Int)) × (List Int)) :=
  (fI_WalkProblem_closure fuel p0) >>= fun x8 =>
  (fI_WalkProblem_after p0) >>= fun x42 =>
  ck (x8.length : Int) >>= fun _ =>
  (forN (fI_WalkProblem_walkComponents_s1 fuel p0 x8 x42) ((x8.length : Int)).toNat 0 ([], [], 0)) >>= fun q66 =>
  match q66 with
  | .inl (y54, y59, y62) =>
    some (y54, y59)
  | .inr _ => none

def pI_WalkProblem_walkComponents (oo : Tg) (t : Nat) (w : World) (r : (List (List Int)) × (List Int)) : Ending → World → Prop := fun e w' => ∃ (v0 : Value) (v1 : Value) (o' : Tg), e = .returned (.tuple #[v0, v1]) ∧ Dz 26 3 o' w' v0 r.1 ∧ Ow w.heap.size 3 t o' w' v1 r.2 ∧ Keeps w w' ∧ ∀ b, b < w.heap.size → o' b = oo b
set_option maxRecDepth 100000 in
set_option maxHeartbeats 2000000 in
theorem cI_WalkProblem_walkComponents (fuel : Nat) (w : World) (oo : Tg) (t : Nat) (ht : 2 ≤ t) (u0 : List Value) (p0 : T_WalkProblem) (g0 : Rp.rd zt w u0 p0) (r : (List (List Int)) × (List Int)) (hF : fI_WalkProblem_walkComponents fuel p0 = some r) :
    Calls Try.prog 41 #[.agg u0.toArray] w (pI_WalkProblem_walkComponents oo t w r) := by
  unfold fI_WalkProblem_walkComponents at hF
  obtain ⟨v1, rfl, h2⟩ := g0
  have hB : Bs oo (col oo) w w := Bs.start _ _
  refine calls_start (n := 89) (vs := [(.agg #[(.int .i64 p0.Labels), v1])]) Try.func41 rfl rfl ?_
  generalize col oo = o at *
  refine wpC_seq ?_
  refine wpC_region ?_
  refine st_op (by decide) trivial ?_
  refine wf_box (o := o) w.heap.size 11 hB.keeps.size (cs := [(.int .i64 p0.Labels), v1]) rfl rfl ?_
  intro o3 w4 b5 h6 s7
  replace hB := hB.stp s7 (by decide)
  refine st_val (ex_assign rfl) (by decide) trivial ?_
  refine st_val (ex_assign rfl) (by decide) trivial ?_
  refine wpF_end (r := [(1, (.pointer (some ⟨b5, 0, none⟩)))]) ⟨rfl, trivial⟩ ?_
  refine nx ?_
  refine wpC_seq ?_
  obtain ⟨x8, hx8, hF⟩ := bind_some hF
  refine wpC_drawn (o := o3) [(1, (.pointer (some ⟨b5, 0, none⟩)))] [1] [16, 17, 18] [[], [0], []] [none, none, none] [999, 999, 999] [0, 12, 0] [999] [fun v _ _ => v = (.agg #[(.int .i64 p0.Labels), v1]), fun v o w9 => Ow w.heap.size 3 12 o w9 v x8, fun v _ _ => v = (.agg #[(.int .i64 p0.Labels), v1])] (fun o8 w8 => Bs oo o8 w w8 ∧ Bx w.heap.size 11 o8 w8 b5 29 [(.int .i64 p0.Labels), v1]) follows_mixed (by kernel_rfl) rfl ⟨rfl, trivial⟩ ⟨hB, h6⟩ ?_ ⟨st_eq _, fun _ _ _ _ _ _ h0 hb h hs => h.stp hs h0.1 (Ne.symm hb), st_eq _, trivial⟩ ?_ ?_
  · rintro t9 o1 w1 o2 w2 ht9 ⟨hB, h6⟩ hs9
    have ht9 : t9 = 999 := by simpa using ht9
    subst ht9
    all_goals exact ⟨hB.stp hs9 (by decide), h6.stp hs9 (by decide)⟩
  · refine ⟨?_, ?_, ?_, trivial⟩
    · rintro o17 w18 a19 ha ⟨hB, h6⟩ -
      refine opS_of ha (trivial) ?_
      refine op1_val (ex_loadA rfl Try.isAgg29 Try.sizeOf29 rfl h6.cells) ?_
      exact ⟨_, Stp.refl _ _ _, rfl⟩
    · rintro o20 w21 a22 ha ⟨hB, h6⟩ ⟨r23, -⟩
      have ha := Fr.cons (d := 16) ha r23
      refine opS_of ha (trivial) ?_
      refine wf_call (cI_WalkProblem_closure fuel w21 o20 12 (by decide) _ p0 (⟨_, rfl, (h2.keep hB.keeps)⟩) x8 hx8) Try.call79 ⟨rfl, trivial⟩ ?_
      rintro e30 w24 ⟨v25, o31, rfl, h26, k27, k28⟩
      have s29 := k27.stp' 999 k28
      replace h26 := h26.mono hB.keeps.size
      refine ⟨_, rfl, ?_⟩
      replace h6 := h6.stp s29 (by decide)
      replace hB := hB.stp s29 (by decide)
      exact ⟨_, s29, h26⟩
    · rintro o32 w33 a34 ha ⟨hB, h6⟩ -
      refine opS_of ha (trivial) ?_
      refine op1_val (ex_loadA rfl Try.isAgg29 Try.sizeOf29 rfl h6.cells) ?_
      exact ⟨_, Stp.refl _ _ _, rfl⟩
  rintro o35 w36 a37 ha ⟨hB, h6⟩ ⟨-, r38, r39, -⟩
  replace r38 : Ow w.heap.size 3 12 o35 w36 (a37.tmps.getD 17 undef) x8 := r38
  generalize e41 : a37.tmps.getD 17 undef = v40 at r38
  have ha := Fr.cons (d := 17) ha e41
  have ha := Fr.cons (d := 18) ha r39
  refine wl_of ha ?_
  simp only [List.length_cons, List.length_nil, Nat.zero_add, Nat.reduceAdd, List.drop_succ_cons, List.drop_zero]
  obtain ⟨x42, hx42, hF⟩ := bind_some hF
  refine st_op (by decide) trivial ?_
  refine wf_call (cI_WalkProblem_after w36 o35 13 (by decide) _ p0 (⟨_, rfl, (h2.keep hB.keeps)⟩) x42 hx42) Try.call80 ⟨rfl, trivial⟩ ?_
  rintro e49 w43 ⟨v44, o50, rfl, h45, k46, k47⟩
  have s48 := k46.stp' 13 k47
  replace h45 := h45.mono hB.keeps.size
  refine ⟨_, rfl, ?_⟩
  replace r38 := r38.stp s48 (by decide) (by decide)
  replace h6 := h6.stp s48 (by decide)
  replace hB := hB.stp s48 (by decide)
  refine st_val (ex_assign rfl) (by decide) trivial ?_
  refine st_val (ex_assign rfl) (by decide) trivial ?_
  refine wpF_end (r := [(1, (.pointer (some ⟨b5, 0, none⟩))), (4, v40), (5, v44)]) ⟨rfl, rfl, rfl, trivial⟩ ?_
  refine nx ?_
  refine wpC_seq ?_
  refine wpC_region ?_
  refine st_val (ex_assign rfl) (by decide) trivial ?_
  refine wpF_end (r := [(1, (.pointer (some ⟨b5, 0, none⟩))), (4, v40), (5, v44), (6, (.slice none 0 0))]) ⟨rfl, rfl, rfl, rfl, trivial⟩ ?_
  refine nx ?_
  refine wpC_seq ?_
  refine wpC_region ?_
  refine st_val (ex_assign rfl) (by decide) trivial ?_
  refine wpF_end (r := [(1, (.pointer (some ⟨b5, 0, none⟩))), (4, v40), (5, v44), (6, (.slice none 0 0)), (7, (.slice none 0 0))]) ⟨rfl, rfl, rfl, rfl, rfl, trivial⟩ ?_
  refine nx ?_
  refine wpC_seq ?_
  refine wpC_region ?_
  refine st_val (ex_assign rfl) (by decide) trivial ?_
  refine wpF_end (r := [(1, (.pointer (some ⟨b5, 0, none⟩))), (4, v40), (5, v44), (6, (.slice none 0 0)), (7, (.slice none 0 0)), (8, (.int .i64 0))]) ⟨rfl, rfl, rfl, rfl, rfl, rfl, trivial⟩ ?_
  refine nx ?_
  refine wpC_seq ?_
  refine wpC_seq ?_
  refine wpC_region ?_
  refine st_val (ex_move rfl) (by decide) trivial ?_
  refine st_val (ex_lenO rfl r38 Try.underlying26) (by decide) trivial ?_
  refine st_val (ex_move rfl) (by decide) trivial ?_
  refine wpF_end (r := [(1, (.pointer (some ⟨b5, 0, none⟩))), (4, v40), (5, v44), (6, (.slice none 0 0)), (7, (.slice none 0 0)), (8, (.int .i64 0)), (21, (.int .i64 (x8.length : Int))), (22, (.int .i64 0))]) ⟨rfl, rfl, rfl, rfl, rfl, rfl, rfl, rfl, trivial⟩ ?_
  refine nx ?_
  have h51 : Ow w.heap.size 26 14 o50 w43 (.slice none 0 0) ([] : List Hv) := Ow.nil _ _ _ _ _
  have h52 : Rws w.heap.size 3 15 o50 w43 [] ([] : List (List Int)) := Rws.nil _ _ _ _ _
  have h53 : Ow w.heap.size 3 16 o50 w43 (.slice none 0 0) ([] : List Int) := Ow.nil _ _ _ _ _
  obtain ⟨u68, h67, hF⟩ := bind_some hF
  obtain ⟨-, h67a, h67b⟩ := ck_some h67
  obtain ⟨q66, hq66, hF⟩ := bind_some hF
  refine wpC_cutN (fun a w64 => ∃ (y54 : List (List Int)) (y59 : List Int) (y62 : Int) (v55 : Value) (v60 : Value) (g58 : List Hv) (o63 : Tg), q66 = .inl (y54, y59, y62) ∧ Fr a 89 [(6, v55), (7, v60)] ∧ Bs oo o63 w w64 ∧ Ow w.heap.size 26 14 o63 w64 v55 g58 ∧ Rws w.heap.size 3 15 o63 w64 g58 y54 ∧ Ow w.heap.size 3 16 o63 w64 v60 y59) (fun _ _ => False) ?_ ?_ ?_
  · refine wpC_block ?_
    refine wpC_loop (fun (K : Nat) a w64 => ∃ (i65 : Int) (y54 : List (List Int)) (y59 : List Int) (y62 : Int) (v55 : Value) (v60 : Value) (g58 : List Hv) (o63 : Tg), forN (fI_WalkProblem_walkComponents_s1 fuel p0 x8 x42) ((x8.length : Int) - i65).toNat i65 (y54, y59, y62) = some q66 ∧ ((x8.length : Int) - i65).toNat = K ∧ 0 ≤ i65 ∧ Fr a 89 [(1, (.pointer (some ⟨b5, 0, none⟩))), (4, v40), (5, v44), (6, v55), (7, v60), (8, (.int .i64 y62)), (21, (.int .i64 (x8.length : Int))), (22, (.int .i64 i65))] ∧ Bs oo o63 w w64 ∧ Ow w.heap.size 3 12 o63 w64 v40 x8 ∧ Ow w.heap.size 3 13 o63 w64 v44 x42 ∧ Ow w.heap.size 26 14 o63 w64 v55 g58 ∧ Rws w.heap.size 3 15 o63 w64 g58 y54 ∧ Ow w.heap.size 3 16 o63 w64 v60 y59 ∧ Bx w.heap.size 11 o63 w64 b5 29 [(.int .i64 p0.Labels), v1]) _ (fun a ha => ⟨0, [], [], 0, (.slice none 0 0), (.slice none 0 0), [], o50, (by rw [Int.sub_zero]; exact hq66), rfl, Int.le_refl 0, ha.sub (r := [(1, (.pointer (some ⟨b5, 0, none⟩))), (4, v40), (5, v44), (6, (.slice none 0 0)), (7, (.slice none 0 0)), (8, (.int .i64 0)), (21, (.int .i64 (x8.length : Int))), (22, (.int .i64 0))]) ⟨rfl, rfl, rfl, rfl, rfl, rfl, rfl, rfl, trivial⟩, hB, r38, h45, h51, h52, h53, h6⟩) ?_
    rintro K72 a w64 ⟨i65, y54, y59, y62, v55, v60, g58, o63, l69, m71, z70, ha, hB, r38, h45, h56, h57, h61, h6⟩
    by_cases t76 : i65 < (x8.length : Int)
    · obtain ⟨q73, b74, n75⟩ := forN_cons t76 l69
      dsimp only [fI_WalkProblem_walkComponents_s1] at b74
      refine wp_of ha ?_
      refine wpC_seq ?_
      refine wpC_region ?_
      refine st_val (ex_lss rfl rfl) (by decide) trivial ?_
      refine wpF_end (r := [(1, (.pointer (some ⟨b5, 0, none⟩))), (4, v40), (5, v44), (6, v55), (7, v60), (8, (.int .i64 y62)), (21, (.int .i64 (x8.length : Int))), (22, (.int .i64 i65)), (23, (.bool (decide (i65 < (x8.length : Int)))))]) ⟨rfl, rfl, rfl, rfl, rfl, rfl, rfl, rfl, rfl, trivial⟩ ?_
      refine nx ?_
      refine wpC_seq ?_
      refine wpC_true (congrArg (fun b => some (Value.bool b)) (decide_eq_true t76)) ?_
      refine wpC_skip ?_
      refine nx ?_
      refine wpC_seq ?_
      refine wpC_block ?_
      refine wpC_seq ?_
      refine wpC_region ?_
      refine st_val (ex_move rfl) (by decide) trivial ?_
      refine st_val (ex_assign rfl) (by decide) trivial ?_
      refine wpF_end (r := [(1, (.pointer (some ⟨b5, 0, none⟩))), (4, v40), (5, v44), (6, v55), (7, v60), (8, (.int .i64 y62)), (9, (.int .i64 i65)), (21, (.int .i64 (x8.length : Int))), (22, (.int .i64 i65))]) ⟨rfl, rfl, rfl, rfl, rfl, rfl, rfl, rfl, rfl, trivial⟩ ?_
      refine nx ?_
      refine wpC_seq ?_
      refine wpC_seq ?_
      refine wpC_region ?_
      refine st_val (ex_move rfl) (by decide) trivial ?_
      refine st_val (ex_move rfl) (by decide) trivial ?_
      obtain ⟨x77, hx77, b74⟩ := bind_some b74
      refine st_val (ex_shr rfl rfl hx77) (by decide) trivial ?_
      refine st_val (ex_and rfl rfl) (by decide) trivial ?_
      refine st_val (ex_eql rfl rfl) (by decide) trivial ?_
      refine wpF_end (r := [(1, (.pointer (some ⟨b5, 0, none⟩))), (4, v40), (5, v44), (6, v55), (7, v60), (8, (.int .i64 y62)), (9, (.int .i64 i65)), (21, (.int .i64 (x8.length : Int))), (22, (.int .i64 i65)), (29, (.bool ((band x77 1) == 1)))]) ⟨rfl, rfl, rfl, rfl, rfl, rfl, rfl, rfl, rfl, rfl, trivial⟩ ?_
      refine nx ?_
      refine wpC_cond rfl (fun t78 => ?_) (fun t78 => ?_)
      · rw [if_pos t78] at b74
        refine wpC_exit ?_
        refine nt_exit ?_
        refine nb_hit ?_
        refine nx ?_
        refine wpC_region ?_
        refine st_val (ex_add rfl rfl (ck_in (by omega) (by omega))) (by decide) trivial ?_
        refine st_val (ex_move rfl) (by decide) trivial ?_
        refine wpF_end (r := [(1, (.pointer (some ⟨b5, 0, none⟩))), (4, v40), (5, v44), (6, v55), (7, v60), (8, (.int .i64 y62)), (21, (.int .i64 (x8.length : Int))), (22, (.int .i64 (i65 + 1)))]) ⟨rfl, rfl, rfl, rfl, rfl, rfl, rfl, rfl, trivial⟩ ?_
        refine nt_norm ?_
        have e79 := Option.some.inj b74
        subst e79
        refine to_k (r := [(1, (.pointer (some ⟨b5, 0, none⟩))), (4, v40), (5, v44), (6, v55), (7, v60), (8, (.int .i64 y62)), (21, (.int .i64 (x8.length : Int))), (22, (.int .i64 (i65 + 1)))]) ⟨rfl, rfl, rfl, rfl, rfl, rfl, rfl, rfl, trivial⟩ ?_
        intro a ha
        exact ⟨_, (by rw [← m71]; omega), i65 + 1, y54, y59, y62, v55, v60, g58, o63, n75, rfl, (by omega), ha, hB, r38, h45, h56, h57, h61, h6⟩
      · rw [if_neg (by rw [t78]; decide)] at b74
        refine wpC_skip ?_
        refine nx ?_
        refine wpC_seq ?_
        refine wpC_region ?_
        refine st_val (ex_assign rfl) (by decide) trivial ?_
        refine wpF_end (r := [(1, (.pointer (some ⟨b5, 0, none⟩))), (4, v40), (5, v44), (6, v55), (7, v60), (8, (.int .i64 y62)), (9, (.int .i64 i65)), (10, (.slice none 0 0)), (21, (.int .i64 (x8.length : Int))), (22, (.int .i64 i65))]) ⟨rfl, rfl, rfl, rfl, rfl, rfl, rfl, rfl, rfl, rfl, trivial⟩ ?_
        refine nx ?_
        refine wpC_seq ?_
        refine wpC_region ?_
        refine st_val (ex_assign rfl) (by decide) trivial ?_
        refine wpF_end (r := [(1, (.pointer (some ⟨b5, 0, none⟩))), (4, v40), (5, v44), (6, v55), (7, v60), (8, (.int .i64 y62)), (9, (.int .i64 i65)), (10, (.slice none 0 0)), (11, (.bool false)), (21, (.int .i64 (x8.length : Int))), (22, (.int .i64 i65))]) ⟨rfl, rfl, rfl, rfl, rfl, rfl, rfl, rfl, rfl, rfl, rfl, trivial⟩ ?_
        refine nx ?_
        refine wpC_seq ?_
        refine wpC_seq ?_
        refine wpC_region ?_
        refine st_val (ex_move rfl) (by decide) trivial ?_
        refine st_val (ex_move rfl) (by decide) trivial ?_
        obtain ⟨x80, hx80, b74⟩ := bind_some b74
        refine st_op (by decide) trivial ?_
        refine wf_atW r38 hx80 rfl rfl Try.underlying26 Try.sizeOf3 ?_
        intro b81 f82 c83 h84 h85
        cases h85
        refine st_val (ex_load1 rfl Try.isAgg3 (cell_of_cells h84)) (by decide) trivial ?_
        obtain ⟨x86, hx86, b74⟩ := bind_some b74
        refine st_op (by decide) trivial ?_
        refine wf_call (cI_labelsIn fuel w64 o63 17 (by decide) x80 x86 hx86) Try.call60 ⟨rfl, trivial⟩ ?_
        rintro e93 w87 ⟨v88, o94, rfl, h89, k90, k91⟩
        have s92 := k90.stp' 17 k91
        replace h89 := h89.mono hB.keeps.size
        refine ⟨_, rfl, ?_⟩
        replace r38 := r38.stp s92 (by decide) (by decide)
        replace h45 := h45.stp s92 (by decide) (by decide)
        replace h56 := h56.stp s92 (by decide) (by decide)
        replace h57 := h57.stp s92 (by decide) (by decide)
        replace h61 := h61.stp s92 (by decide) (by decide)
        replace h6 := h6.stp s92 (by decide)
        replace hB := hB.stp s92 (by decide)
        refine st_val (ex_lenO rfl h89 Try.underlying26) (by decide) trivial ?_
        refine st_val (ex_move rfl) (by decide) trivial ?_
        refine wpF_end (r := [(1, (.pointer (some ⟨b5, 0, none⟩))), (4, v40), (5, v44), (6, v55), (7, v60), (8, (.int .i64 y62)), (9, (.int .i64 i65)), (10, (.slice none 0 0)), (11, (.bool false)), (21, (.int .i64 (x8.length : Int))), (22, (.int .i64 i65)), (34, v88), (35, (.int .i64 (x86.length : Int))), (36, (.int .i64 0))]) ⟨rfl, rfl, rfl, rfl, rfl, rfl, rfl, rfl, rfl, rfl, rfl, rfl, rfl, rfl, trivial⟩ ?_
        refine nx ?_
        have h95 : Ow w.heap.size 3 18 o94 w87 (.slice none 0 0) ([] : List Int) := Ow.nil _ _ _ _ _
        obtain ⟨q102, hq102, b74⟩ := bind_some b74
        refine wpC_cutN (fun a w100 => ∃ (y96 : List Int) (v97 : Value) (o99 : Tg), q102 = .inl y96 ∧ Fr a 89 [(1, (.pointer (some ⟨b5, 0, none⟩))), (4, v40), (5, v44), (6, v55), (7, v60), (8, (.int .i64 y62)), (10, v97), (11, (.bool false)), (21, (.int .i64 (x8.length : Int))), (22, (.int .i64 i65))] ∧ Bs oo o99 w w100 ∧ Ow w.heap.size 3 12 o99 w100 v40 x8 ∧ Ow w.heap.size 3 13 o99 w100 v44 x42 ∧ Ow w.heap.size 26 14 o99 w100 v55 g58 ∧ Rws w.heap.size 3 15 o99 w100 g58 y54 ∧ Ow w.heap.size 3 16 o99 w100 v60 y59 ∧ Ow w.heap.size 3 18 o99 w100 v97 y96 ∧ Bx w.heap.size 11 o99 w100 b5 29 [(.int .i64 p0.Labels), v1]) (fun _ _ => False) ?_ ?_ ?_
        · refine wpC_block ?_
          refine wpC_loop (fun (K : Nat) a w100 => ∃ (i101 : Int) (y96 : List Int) (v97 : Value) (o99 : Tg), forI (fI_WalkProblem_walkComponents_s2 x8 i65) (x86.drop i101.toNat) i101 y96 = some q102 ∧ (x86.drop i101.toNat).length = K ∧ 0 ≤ i101 ∧ Fr a 89 [(1, (.pointer (some ⟨b5, 0, none⟩))), (4, v40), (5, v44), (6, v55), (7, v60), (8, (.int .i64 y62)), (9, (.int .i64 i65)), (10, v97), (11, (.bool false)), (21, (.int .i64 (x8.length : Int))), (22, (.int .i64 i65)), (34, v88), (35, (.int .i64 (x86.length : Int))), (36, (.int .i64 i101))] ∧ Bs oo o99 w w100 ∧ Ow w.heap.size 3 12 o99 w100 v40 x8 ∧ Ow w.heap.size 3 13 o99 w100 v44 x42 ∧ Ow w.heap.size 26 14 o99 w100 v55 g58 ∧ Rws w.heap.size 3 15 o99 w100 g58 y54 ∧ Ow w.heap.size 3 16 o99 w100 v60 y59 ∧ Ow w.heap.size 3 18 o99 w100 v97 y96 ∧ Ow w.heap.size 3 17 o99 w100 v88 x86 ∧ Bx w.heap.size 11 o99 w100 b5 29 [(.int .i64 p0.Labels), v1]) _ (fun a ha => ⟨0, [], (.slice none 0 0), o94, hq102, rfl, Int.le_refl 0, ha.sub (r := [(1, (.pointer (some ⟨b5, 0, none⟩))), (4, v40), (5, v44), (6, v55), (7, v60), (8, (.int .i64 y62)), (9, (.int .i64 i65)), (10, (.slice none 0 0)), (11, (.bool false)), (21, (.int .i64 (x8.length : Int))), (22, (.int .i64 i65)), (34, v88), (35, (.int .i64 (x86.length : Int))), (36, (.int .i64 0))]) ⟨rfl, rfl, rfl, rfl, rfl, rfl, rfl, rfl, rfl, rfl, rfl, rfl, rfl, rfl, trivial⟩, hB, r38, h45, h56, h57, h61, h95, h89, h6⟩) ?_
          rintro K106 a w100 ⟨i101, y96, v97, o99, l103, m105, z104, ha, hB, r38, h45, h56, h57, h61, h98, h89, h6⟩
          by_cases t110 : i101 < (x86.length : Int)
          · obtain ⟨x111, q107, hx111, b108, n109⟩ := forI_cons z104 t110 l103
            have hle := h89.len_le
            dsimp only [fI_WalkProblem_walkComponents_s2] at b108
            refine wp_of ha ?_
            refine wpC_seq ?_
            refine wpC_region ?_
            refine st_val (ex_lss rfl rfl) (by decide) trivial ?_
            refine wpF_end (r := [(1, (.pointer (some ⟨b5, 0, none⟩))), (4, v40), (5, v44), (6, v55), (7, v60), (8, (.int .i64 y62)), (9, (.int .i64 i65)), (10, v97), (11, (.bool false)), (21, (.int .i64 (x8.length : Int))), (22, (.int .i64 i65)), (34, v88), (35, (.int .i64 (x86.length : Int))), (36, (.int .i64 i101)), (37, (.bool (decide (i101 < (x86.length : Int)))))]) ⟨rfl, rfl, rfl, rfl, rfl, rfl, rfl, rfl, rfl, rfl, rfl, rfl, rfl, rfl, rfl, trivial⟩ ?_
            refine nx ?_
            refine wpC_seq ?_
            refine wpC_true (congrArg (fun b => some (Value.bool b)) (decide_eq_true t110)) ?_
            refine wpC_skip ?_
            refine nx ?_
            refine wpC_seq ?_
            refine wpC_block ?_
            refine wpC_seq ?_
            refine wpC_region ?_
            refine st_op (by decide) trivial ?_
            refine wf_atW h89 hx111 rfl rfl Try.underlying26 Try.sizeOf3 ?_
            intro b112 f113 c114 h115 h116
            cases h116
            refine st_val (ex_load1 rfl Try.isAgg3 (cell_of_cells h115)) (by decide) trivial ?_
            refine st_val (ex_assign rfl) (by decide) trivial ?_
            refine wpF_end (r := [(1, (.pointer (some ⟨b5, 0, none⟩))), (4, v40), (5, v44), (6, v55), (7, v60), (8, (.int .i64 y62)), (9, (.int .i64 i65)), (10, v97), (11, (.bool false)), (13, (.int .i64 x111)), (21, (.int .i64 (x8.length : Int))), (22, (.int .i64 i65)), (34, v88), (35, (.int .i64 (x86.length : Int))), (36, (.int .i64 i101))]) ⟨rfl, rfl, rfl, rfl, rfl, rfl, rfl, rfl, rfl, rfl, rfl, rfl, rfl, rfl, rfl, trivial⟩ ?_
            refine nx ?_
            refine wpC_seq ?_
            refine wpC_region ?_
            refine st_val (ex_move rfl) (by decide) trivial ?_
            refine st_val (ex_move rfl) (by decide) trivial ?_
            obtain ⟨x117, hx117, b108⟩ := bind_some b108
            refine st_op (by decide) trivial ?_
            refine wf_atW r38 hx117 rfl rfl Try.underlying26 Try.sizeOf3 ?_
            intro b118 f119 c120 h121 h122
            cases h122
            refine st_val (ex_load1 rfl Try.isAgg3 (cell_of_cells h121)) (by decide) trivial ?_
            refine st_val (ex_move rfl) (by decide) trivial ?_
            obtain ⟨x123, hx123, b108⟩ := bind_some b108
            refine st_val (ex_shr rfl rfl hx123) (by decide) trivial ?_
            refine st_val (ex_and rfl rfl) (by decide) trivial ?_
            refine st_val (ex_eql rfl rfl) (by decide) trivial ?_
            refine wpF_end (r := [(1, (.pointer (some ⟨b5, 0, none⟩))), (4, v40), (5, v44), (6, v55), (7, v60), (8, (.int .i64 y62)), (9, (.int .i64 i65)), (10, v97), (11, (.bool false)), (13, (.int .i64 x111)), (21, (.int .i64 (x8.length : Int))), (22, (.int .i64 i65)), (34, v88), (35, (.int .i64 (x86.length : Int))), (36, (.int .i64 i101)), (47, (.bool ((band x123 1) == 1)))]) ⟨rfl, rfl, rfl, rfl, rfl, rfl, rfl, rfl, rfl, rfl, rfl, rfl, rfl, rfl, rfl, rfl, trivial⟩ ?_
            refine nx ?_
            refine wpC_cond rfl (fun t124 => ?_) (fun t124 => ?_)
            · rw [if_pos t124] at b108
              refine wpC_region ?_
              refine st_val (ex_move rfl) (by decide) trivial ?_
              refine st_val (ex_move rfl) (by decide) trivial ?_
              refine st_op (by decide) trivial ?_
              refine wf_litR (o := o99) (cs := [(.int .i64 x111)]) (xs := ([x111] : List Int)) (vs := [(0, (.int .i64 x111))]) ⟨_, _, rfl, rfl, rfl⟩ rfl ⟨rfl, rfl, trivial⟩ Try.underlying26 Try.sizeOf3 Try.zeroValue3 (by decide) (fill1 rfl) (by simp) ?_
              intro o125 w126 v127 h128 s129 k130
              replace r38 := r38.stp s129 (by decide) (by decide)
              replace h45 := h45.stp s129 (by decide) (by decide)
              replace h56 := h56.stp s129 (by decide) (by decide)
              replace h57 := h57.stp s129 (by decide) (by decide)
              replace h61 := h61.stp s129 (by decide) (by decide)
              replace h98 := h98.stp s129 (by decide) (by decide)
              replace h89 := h89.stp s129 (by decide) (by decide)
              replace h6 := h6.stp s129 (by decide)
              replace hB := hB.stp s129 (by decide)
              obtain ⟨x131, hx131, b108⟩ := bind_some b108
              refine st_op (by decide) trivial ?_
              refine wf_cat h98 h128 (push_cat hx131) (by decide) hB.keeps.size rfl rfl Try.underlying26 info2_t_int_Wb rfl (by decide) ?_
              intro o132 w133 v134 h135 s136
              replace r38 := r38.stp s136 (by decide) (by decide)
              replace h45 := h45.stp s136 (by decide) (by decide)
              replace h56 := h56.stp s136 (by decide) (by decide)
              replace h57 := h57.stp s136 (by decide) (by decide)
              replace h61 := h61.stp s136 (by decide) (by decide)
              replace h89 := h89.stp s136 (by decide) (by decide)
              replace h128 := h128.stp s136 (by decide)
              replace h6 := h6.stp s136 (by decide)
              replace hB := hB.stp s136 (by decide)
              refine st_val (ex_assign rfl) (by decide) trivial ?_
              refine wpF_end (r := [(1, (.pointer (some ⟨b5, 0, none⟩))), (4, v40), (5, v44), (6, v55), (7, v60), (8, (.int .i64 y62)), (9, (.int .i64 i65)), (10, v134), (11, (.bool false)), (21, (.int .i64 (x8.length : Int))), (22, (.int .i64 i65)), (34, v88), (35, (.int .i64 (x86.length : Int))), (36, (.int .i64 i101))]) ⟨rfl, rfl, rfl, rfl, rfl, rfl, rfl, rfl, rfl, rfl, rfl, rfl, rfl, rfl, trivial⟩ ?_
              refine nb_norm ?_
              refine nx ?_
              refine wpC_region ?_
              refine st_val (ex_add rfl rfl (ck_in (by omega) (by omega))) (by decide) trivial ?_
              refine st_val (ex_move rfl) (by decide) trivial ?_
              refine wpF_end (r := [(1, (.pointer (some ⟨b5, 0, none⟩))), (4, v40), (5, v44), (6, v55), (7, v60), (8, (.int .i64 y62)), (9, (.int .i64 i65)), (10, v134), (11, (.bool false)), (21, (.int .i64 (x8.length : Int))), (22, (.int .i64 i65)), (34, v88), (35, (.int .i64 (x86.length : Int))), (36, (.int .i64 (i101 + 1)))]) ⟨rfl, rfl, rfl, rfl, rfl, rfl, rfl, rfl, rfl, rfl, rfl, rfl, rfl, rfl, trivial⟩ ?_
              refine nt_norm ?_
              have e137 := Option.some.inj b108
              subst e137
              refine to_k (r := [(1, (.pointer (some ⟨b5, 0, none⟩))), (4, v40), (5, v44), (6, v55), (7, v60), (8, (.int .i64 y62)), (9, (.int .i64 i65)), (10, v134), (11, (.bool false)), (21, (.int .i64 (x8.length : Int))), (22, (.int .i64 i65)), (34, v88), (35, (.int .i64 (x86.length : Int))), (36, (.int .i64 (i101 + 1)))]) ⟨rfl, rfl, rfl, rfl, rfl, rfl, rfl, rfl, rfl, rfl, rfl, rfl, rfl, rfl, trivial⟩ ?_
              intro a ha
              exact ⟨_, (by rw [← m105]; simp only [List.length_drop]; omega), i101 + 1, x131, v134, o132, n109, rfl, (by omega), ha, hB, r38, h45, h56, h57, h61, h135, h89, h6⟩
            · rw [if_neg (by rw [t124]; decide)] at b108
              refine wpC_skip ?_
              refine nb_norm ?_
              refine nx ?_
              refine wpC_region ?_
              refine st_val (ex_add rfl rfl (ck_in (by omega) (by omega))) (by decide) trivial ?_
              refine st_val (ex_move rfl) (by decide) trivial ?_
              refine wpF_end (r := [(1, (.pointer (some ⟨b5, 0, none⟩))), (4, v40), (5, v44), (6, v55), (7, v60), (8, (.int .i64 y62)), (9, (.int .i64 i65)), (10, v97), (11, (.bool false)), (21, (.int .i64 (x8.length : Int))), (22, (.int .i64 i65)), (34, v88), (35, (.int .i64 (x86.length : Int))), (36, (.int .i64 (i101 + 1)))]) ⟨rfl, rfl, rfl, rfl, rfl, rfl, rfl, rfl, rfl, rfl, rfl, rfl, rfl, rfl, trivial⟩ ?_
              refine nt_norm ?_
              have e138 := Option.some.inj b108
              subst e138
              refine to_k (r := [(1, (.pointer (some ⟨b5, 0, none⟩))), (4, v40), (5, v44), (6, v55), (7, v60), (8, (.int .i64 y62)), (9, (.int .i64 i65)), (10, v97), (11, (.bool false)), (21, (.int .i64 (x8.length : Int))), (22, (.int .i64 i65)), (34, v88), (35, (.int .i64 (x86.length : Int))), (36, (.int .i64 (i101 + 1)))]) ⟨rfl, rfl, rfl, rfl, rfl, rfl, rfl, rfl, rfl, rfl, rfl, rfl, rfl, rfl, trivial⟩ ?_
              intro a ha
              exact ⟨_, (by rw [← m105]; simp only [List.length_drop]; omega), i101 + 1, y96, v97, o99, n109, rfl, (by omega), ha, hB, r38, h45, h56, h57, h61, h98, h89, h6⟩
          · have r139 := forI_done t110 l103
            refine wp_of ha ?_
            refine wpC_seq ?_
            refine wpC_region ?_
            refine st_val (ex_lss rfl rfl) (by decide) trivial ?_
            refine wpF_end (r := [(1, (.pointer (some ⟨b5, 0, none⟩))), (4, v40), (5, v44), (6, v55), (7, v60), (8, (.int .i64 y62)), (9, (.int .i64 i65)), (10, v97), (11, (.bool false)), (21, (.int .i64 (x8.length : Int))), (22, (.int .i64 i65)), (34, v88), (35, (.int .i64 (x86.length : Int))), (36, (.int .i64 i101)), (37, (.bool (decide (i101 < (x86.length : Int)))))]) ⟨rfl, rfl, rfl, rfl, rfl, rfl, rfl, rfl, rfl, rfl, rfl, rfl, rfl, rfl, rfl, trivial⟩ ?_
            refine nx ?_
            refine wpC_seq ?_
            refine wpC_false (congrArg (fun b => some (Value.bool b)) (decide_eq_false t110)) ?_
            refine wpC_exit ?_
            refine nt_exit ?_
            refine nt_exit ?_
            refine nb_hit ?_
            refine np_norm ?_
            refine to_k (r := [(1, (.pointer (some ⟨b5, 0, none⟩))), (4, v40), (5, v44), (6, v55), (7, v60), (8, (.int .i64 y62)), (10, v97), (11, (.bool false)), (21, (.int .i64 (x8.length : Int))), (22, (.int .i64 i65))]) ⟨rfl, rfl, rfl, rfl, rfl, rfl, rfl, rfl, rfl, rfl, trivial⟩ ?_
            intro a ha
            exact ⟨y96, v97, o99, r139, ha, hB, r38, h45, h56, h57, h61, h98, h6⟩
        · rintro a w100 ⟨y96, v97, o99, rfl, ha, hB, r38, h45, h56, h57, h61, h98, h6⟩
          dsimp only at b74
          refine ap_k ha ?_
          refine nx ?_
          refine wpC_seq ?_
          refine wpC_region ?_
          refine st_val (ex_move rfl) (by decide) trivial ?_
          refine st_val (ex_move rfl) (by decide) trivial ?_
          obtain ⟨x140, hx140, b74⟩ := bind_some b74
          refine st_op (by decide) trivial ?_
          refine wf_call (cI_setOf w100 _ y96 h98.z x140 hx140) Try.call81 ⟨rfl, trivial⟩ ?_
          rintro e145 w141 ⟨rfl, k142⟩
          have s144 := k142.stp 999 o99
          refine ⟨_, rfl, ?_⟩
          replace r38 := r38.stp s144 (by decide) (by decide)
          replace h45 := h45.stp s144 (by decide) (by decide)
          replace h56 := h56.stp s144 (by decide) (by decide)
          replace h57 := h57.stp s144 (by decide) (by decide)
          replace h61 := h61.stp s144 (by decide) (by decide)
          replace h98 := h98.stp s144 (by decide) (by decide)
          replace h6 := h6.stp s144 (by decide)
          replace hB := hB.stp s144 (by decide)
          refine st_val (ex_or rfl rfl) (by decide) trivial ?_
          refine st_val (ex_assign rfl) (by decide) trivial ?_
          refine wpF_end (r := [(1, (.pointer (some ⟨b5, 0, none⟩))), (4, v40), (5, v44), (6, v55), (7, v60), (8, (.int .i64 (bor y62 x140))), (10, v97), (11, (.bool false)), (21, (.int .i64 (x8.length : Int))), (22, (.int .i64 i65))]) ⟨rfl, rfl, rfl, rfl, rfl, rfl, rfl, rfl, rfl, rfl, trivial⟩ ?_
          refine nx ?_
          refine wpC_seq ?_
          refine wpC_seq ?_
          refine wpC_region ?_
          refine st_val (ex_move rfl) (by decide) trivial ?_
          refine st_val (ex_lenO rfl h98 Try.underlying26) (by decide) trivial ?_
          refine st_val (ex_move rfl) (by decide) trivial ?_
          refine wpF_end (r := [(1, (.pointer (some ⟨b5, 0, none⟩))), (4, v40), (5, v44), (6, v55), (7, v60), (8, (.int .i64 (bor y62 x140))), (10, v97), (11, (.bool false)), (21, (.int .i64 (x8.length : Int))), (22, (.int .i64 i65)), (57, v97), (58, (.int .i64 (y96.length : Int))), (59, (.int .i64 0))]) ⟨rfl, rfl, rfl, rfl, rfl, rfl, rfl, rfl, rfl, rfl, rfl, rfl, rfl, trivial⟩ ?_
          refine nx ?_
          obtain ⟨q150, hq150, b74⟩ := bind_some b74
          refine wpC_cutN (fun a w148 => ∃ (y146 : Bool) (o147 : Tg), q150 = .inl y146 ∧ Fr a 89 [(1, (.pointer (some ⟨b5, 0, none⟩))), (4, v40), (5, v44), (6, v55), (7, v60), (8, (.int .i64 (bor y62 x140))), (10, v97), (11, (.bool y146)), (21, (.int .i64 (x8.length : Int))), (22, (.int .i64 i65))] ∧ Bs oo o147 w w148 ∧ Ow w.heap.size 3 12 o147 w148 v40 x8 ∧ Ow w.heap.size 3 13 o147 w148 v44 x42 ∧ Ow w.heap.size 26 14 o147 w148 v55 g58 ∧ Rws w.heap.size 3 15 o147 w148 g58 y54 ∧ Ow w.heap.size 3 16 o147 w148 v60 y59 ∧ Ow w.heap.size 3 18 o147 w148 v97 y96 ∧ Bx w.heap.size 11 o147 w148 b5 29 [(.int .i64 p0.Labels), v1]) (fun _ _ => False) ?_ ?_ ?_
          · refine wpC_block ?_
            refine wpC_loop (fun (K : Nat) a w148 => ∃ (i149 : Int) (y146 : Bool) (o147 : Tg), forI (fI_WalkProblem_walkComponents_s3 x42 y96) (y96.drop i149.toNat) i149 y146 = some q150 ∧ (y96.drop i149.toNat).length = K ∧ 0 ≤ i149 ∧ Fr a 89 [(1, (.pointer (some ⟨b5, 0, none⟩))), (4, v40), (5, v44), (6, v55), (7, v60), (8, (.int .i64 (bor y62 x140))), (10, v97), (11, (.bool y146)), (21, (.int .i64 (x8.length : Int))), (22, (.int .i64 i65)), (57, v97), (58, (.int .i64 (y96.length : Int))), (59, (.int .i64 i149))] ∧ Bs oo o147 w w148 ∧ Ow w.heap.size 3 12 o147 w148 v40 x8 ∧ Ow w.heap.size 3 13 o147 w148 v44 x42 ∧ Ow w.heap.size 26 14 o147 w148 v55 g58 ∧ Rws w.heap.size 3 15 o147 w148 g58 y54 ∧ Ow w.heap.size 3 16 o147 w148 v60 y59 ∧ Ow w.heap.size 3 18 o147 w148 v97 y96 ∧ Bx w.heap.size 11 o147 w148 b5 29 [(.int .i64 p0.Labels), v1]) _ (fun a ha => ⟨0, false, o99, hq150, rfl, Int.le_refl 0, ha.sub (r := [(1, (.pointer (some ⟨b5, 0, none⟩))), (4, v40), (5, v44), (6, v55), (7, v60), (8, (.int .i64 (bor y62 x140))), (10, v97), (11, (.bool false)), (21, (.int .i64 (x8.length : Int))), (22, (.int .i64 i65)), (57, v97), (58, (.int .i64 (y96.length : Int))), (59, (.int .i64 0))]) ⟨rfl, rfl, rfl, rfl, rfl, rfl, rfl, rfl, rfl, rfl, rfl, rfl, rfl, trivial⟩, hB, r38, h45, h56, h57, h61, h98, h6⟩) ?_
            rintro K154 a w148 ⟨i149, y146, o147, l151, m153, z152, ha, hB, r38, h45, h56, h57, h61, h98, h6⟩
            by_cases t158 : i149 < (y96.length : Int)
            · obtain ⟨x159, q155, hx159, b156, n157⟩ := forI_cons z152 t158 l151
              have hle := h98.len_le
              dsimp only [fI_WalkProblem_walkComponents_s3] at b156
              refine wp_of ha ?_
              refine wpC_seq ?_
              refine wpC_region ?_
              refine st_val (ex_lss rfl rfl) (by decide) trivial ?_
              refine wpF_end (r := [(1, (.pointer (some ⟨b5, 0, none⟩))), (4, v40), (5, v44), (6, v55), (7, v60), (8, (.int .i64 (bor y62 x140))), (10, v97), (11, (.bool y146)), (21, (.int .i64 (x8.length : Int))), (22, (.int .i64 i65)), (57, v97), (58, (.int .i64 (y96.length : Int))), (59, (.int .i64 i149)), (60, (.bool (decide (i149 < (y96.length : Int)))))]) ⟨rfl, rfl, rfl, rfl, rfl, rfl, rfl, rfl, rfl, rfl, rfl, rfl, rfl, rfl, trivial⟩ ?_
              refine nx ?_
              refine wpC_seq ?_
              refine wpC_true (congrArg (fun b => some (Value.bool b)) (decide_eq_true t158)) ?_
              refine wpC_skip ?_
              refine nx ?_
              refine wpC_seq ?_
              refine wpC_block ?_
              refine wpC_seq ?_
              refine wpC_region ?_
              refine st_op (by decide) trivial ?_
              refine wf_atW h98 hx159 rfl rfl Try.underlying26 Try.sizeOf3 ?_
              intro b160 f161 c162 h163 h164
              cases h164
              refine st_val (ex_load1 rfl Try.isAgg3 (cell_of_cells h163)) (by decide) trivial ?_
              refine st_val (ex_assign rfl) (by decide) trivial ?_
              refine wpF_end (r := [(1, (.pointer (some ⟨b5, 0, none⟩))), (4, v40), (5, v44), (6, v55), (7, v60), (8, (.int .i64 (bor y62 x140))), (10, v97), (11, (.bool y146)), (15, (.int .i64 x159)), (21, (.int .i64 (x8.length : Int))), (22, (.int .i64 i65)), (57, v97), (58, (.int .i64 (y96.length : Int))), (59, (.int .i64 i149))]) ⟨rfl, rfl, rfl, rfl, rfl, rfl, rfl, rfl, rfl, rfl, rfl, rfl, rfl, rfl, trivial⟩ ?_
              refine nx ?_
              obtain ⟨q165, hq165, b156⟩ := bind_some b156
              refine wpC_cutN (fun a168 w167 => ∃ o166 : Tg, Fr a168 89 [(1, (.pointer (some ⟨b5, 0, none⟩))), (4, v40), (5, v44), (6, v55), (7, v60), (8, (.int .i64 (bor y62 x140))), (10, v97), (11, (.bool q165)), (21, (.int .i64 (x8.length : Int))), (22, (.int .i64 i65)), (57, v97), (58, (.int .i64 (y96.length : Int))), (59, (.int .i64 i149))] ∧ Bs oo o166 w w167 ∧ Ow w.heap.size 3 12 o166 w167 v40 x8 ∧ Ow w.heap.size 3 13 o166 w167 v44 x42 ∧ Ow w.heap.size 26 14 o166 w167 v55 g58 ∧ Rws w.heap.size 3 15 o166 w167 g58 y54 ∧ Ow w.heap.size 3 16 o166 w167 v60 y59 ∧ Ow w.heap.size 3 18 o166 w167 v97 y96 ∧ Bx w.heap.size 11 o166 w167 b5 29 [(.int .i64 p0.Labels), v1]) (fun _ _ => False) ?_ ?_ (fun _ _ h => h.elim)
              · rcases Bool.eq_false_or_eq_true (y146) with t169 | t169
                · rw [if_pos t169] at hq165
                  refine wpC_drawn (o := o147) [(1, (.pointer (some ⟨b5, 0, none⟩))), (4, v40), (5, v44), (6, v55), (7, v60), (8, (.int .i64 (bor y62 x140))), (10, v97), (11, (.bool y146)), (15, (.int .i64 x159)), (21, (.int .i64 (x8.length : Int))), (22, (.int .i64 i65)), (57, v97), (58, (.int .i64 (y96.length : Int))), (59, (.int .i64 i149))] [1, 4, 5, 6, 7, 8, 10, 11, 15, 21, 22, 57, 58, 59] [63, 64, 65, 66, 67, 68, 69, 70] [[], [0], [1], [1], [1], [1], [1], [1]] [none, none, none, none, none, none, none, none] [999, 999, 999, 999, 999, 999, 999, 999] [0, 0, 0, 0, 0, 0, 0, 0] [999] [fun v _ _ => v = (.bool y146), fun v _ _ => v = (.bool y146), fun v _ _ => v = undef, fun v _ _ => v = undef, fun v _ _ => v = undef, fun v _ _ => v = undef, fun v _ _ => v = undef, fun v _ _ => v = undef] (fun o8 w8 => Bs oo o8 w w8 ∧ Ow w.heap.size 3 12 o8 w8 v40 x8 ∧ Ow w.heap.size 3 13 o8 w8 v44 x42 ∧ Ow w.heap.size 26 14 o8 w8 v55 g58 ∧ Rws w.heap.size 3 15 o8 w8 g58 y54 ∧ Ow w.heap.size 3 16 o8 w8 v60 y59 ∧ Ow w.heap.size 3 18 o8 w8 v97 y96 ∧ Bx w.heap.size 11 o8 w8 b5 29 [(.int .i64 p0.Labels), v1]) follows_mixed (by kernel_rfl) rfl ⟨rfl, rfl, rfl, rfl, rfl, rfl, rfl, rfl, rfl, rfl, rfl, rfl, rfl, rfl, trivial⟩ ⟨hB, r38, h45, h56, h57, h61, h98, h6⟩ ?_ ⟨st_eq _, st_eq _, st_eq _, st_eq _, st_eq _, st_eq _, st_eq _, st_eq _, trivial⟩ ?_ ?_
                  · rintro t9 o1 w1 o2 w2 ht9 ⟨hB, r38, h45, h56, h57, h61, h98, h6⟩ hs9
                    have ht9 : t9 = 999 := by simpa using ht9
                    subst ht9
                    all_goals exact ⟨hB.stp hs9 (by decide), r38.stp hs9 (by decide) (by decide), h45.stp hs9 (by decide) (by decide), h56.stp hs9 (by decide) (by decide), h57.stp hs9 (by decide) (by decide), h61.stp hs9 (by decide) (by decide), h98.stp hs9 (by decide) (by decide), h6.stp hs9 (by decide)⟩
                  · refine ⟨?_, ?_, ?_, ?_, ?_, ?_, ?_, ?_, trivial⟩
                    · rintro o170 w171 a172 ha ⟨hB, r38, h45, h56, h57, h61, h98, h6⟩ -
                      refine opS_of ha (trivial) ?_
                      refine op1_val (ex_move rfl) ?_
                      exact ⟨_, Stp.refl _ _ _, rfl⟩
                    · rintro o173 w174 a175 ha ⟨hB, r38, h45, h56, h57, h61, h98, h6⟩ ⟨r176, -⟩
                      have ha := Fr.cons (d := 63) ha r176
                      refine opS_of ha (trivial) ?_
                      refine op1_val (ex_move rfl) ?_
                      exact ⟨_, Stp.refl _ _ _, rfl⟩
                    · rintro o177 w178 a179 ha ⟨hB, r38, h45, h56, h57, h61, h98, h6⟩ ⟨r180, -⟩
                      have ha := Fr.cons (d := 64) ha r180
                      exact opS_no ha rfl rfl rfl (by rw [t169]; rfl) ⟨_, Stp.refl _ _ _, rfl⟩
                    · rintro o181 w182 a183 ha ⟨hB, r38, h45, h56, h57, h61, h98, h6⟩ ⟨r184, -⟩
                      have ha := Fr.cons (d := 64) ha r184
                      exact opS_no ha rfl rfl rfl (by rw [t169]; rfl) ⟨_, Stp.refl _ _ _, rfl⟩
                    · rintro o185 w186 a187 ha ⟨hB, r38, h45, h56, h57, h61, h98, h6⟩ ⟨r188, -⟩
                      have ha := Fr.cons (d := 64) ha r188
                      exact opS_no ha rfl rfl rfl (by rw [t169]; rfl) ⟨_, Stp.refl _ _ _, rfl⟩
                    · rintro o189 w190 a191 ha ⟨hB, r38, h45, h56, h57, h61, h98, h6⟩ ⟨r192, -⟩
                      have ha := Fr.cons (d := 64) ha r192
                      exact opS_no ha rfl rfl rfl (by rw [t169]; rfl) ⟨_, Stp.refl _ _ _, rfl⟩
                    · rintro o193 w194 a195 ha ⟨hB, r38, h45, h56, h57, h61, h98, h6⟩ ⟨r196, -⟩
                      have ha := Fr.cons (d := 64) ha r196
                      exact opS_no ha rfl rfl rfl (by rw [t169]; rfl) ⟨_, Stp.refl _ _ _, rfl⟩
                    · rintro o197 w198 a199 ha ⟨hB, r38, h45, h56, h57, h61, h98, h6⟩ ⟨r200, -⟩
                      have ha := Fr.cons (d := 64) ha r200
                      exact opS_no ha rfl rfl rfl (by rw [t169]; rfl) ⟨_, Stp.refl _ _ _, rfl⟩
                  rintro o201 w202 a203 ha ⟨hB, r38, h45, h56, h57, h61, h98, h6⟩ ⟨-, r204, -, -, -, r205, -, r206, -⟩
                  have ha := Fr.cons (d := 64) ha r204
                  have ha := Fr.cons (d := 68) ha r205
                  have ha := Fr.cons (d := 70) ha r206
                  refine wl_of ha ?_
                  simp only [List.length_cons, List.length_nil, Nat.zero_add, Nat.reduceAdd, List.drop_succ_cons, List.drop_zero]
                  refine st_no rfl rfl (by rw [t169]; rfl) (by decide) ?_
                  refine st_no rfl rfl (by rw [t169]; rfl) (by decide) ?_
                  refine st_val (ex_pick_t (congrArg (fun b => some (Value.bool b)) t169) rfl) (by decide) trivial ?_
                  refine st_val (ex_assign rfl) (by decide) trivial ?_
                  have e207 := Option.some.inj hq165
                  subst e207
                  refine wpF_end (r := [(1, (.pointer (some ⟨b5, 0, none⟩))), (4, v40), (5, v44), (6, v55), (7, v60), (8, (.int .i64 (bor y62 x140))), (10, v97), (11, (.bool true)), (21, (.int .i64 (x8.length : Int))), (22, (.int .i64 i65)), (57, v97), (58, (.int .i64 (y96.length : Int))), (59, (.int .i64 i149))]) ⟨rfl, rfl, rfl, rfl, rfl, rfl, rfl, rfl, rfl, rfl, rfl, rfl, rfl, trivial⟩ ?_
                  refine np_norm (fun a ha => ⟨o201, ha, hB, r38, h45, h56, h57, h61, h98, h6⟩)
                · rw [if_neg (by rw [t169]; decide)] at hq165
                  obtain ⟨x208, hx208, hq165⟩ := bind_some hq165
                  obtain ⟨x211, hx211, hq165⟩ := bind_some hq165
                  refine wpC_drawn (o := o147) [(1, (.pointer (some ⟨b5, 0, none⟩))), (4, v40), (5, v44), (6, v55), (7, v60), (8, (.int .i64 (bor y62 x140))), (10, v97), (11, (.bool y146)), (15, (.int .i64 x159)), (21, (.int .i64 (x8.length : Int))), (22, (.int .i64 i65)), (57, v97), (58, (.int .i64 (y96.length : Int))), (59, (.int .i64 i149))] [1, 4, 5, 6, 7, 8, 10, 11, 15, 21, 22, 57, 58, 59] [63, 64, 65, 66, 67, 68, 69, 70] [[], [0], [1], [1], [1, 2, 3], [1, 4], [1], [1, 6]] [none, none, none, none, none, none, none, none] [999, 999, 999, 999, 999, 999, 999, 999] [0, 0, 0, 0, 13, 0, 0, 0] [999] [fun v _ _ => v = (.bool y146), fun v _ _ => v = (.bool y146), fun v _ _ => v = v44, fun v _ _ => v = (.int .i64 x159), fun v o w9 => ∃ vl, v = adr vl (x159.toNat * Rp.sz Int) ∧ Ow w.heap.size 3 13 o w9 vl x42, fun v _ _ => v = (.int .i64 x208), fun v _ _ => v = v97, fun v _ _ => v = (.int .i64 x211)] (fun o8 w8 => Bs oo o8 w w8 ∧ Ow w.heap.size 3 12 o8 w8 v40 x8 ∧ Ow w.heap.size 3 13 o8 w8 v44 x42 ∧ Ow w.heap.size 26 14 o8 w8 v55 g58 ∧ Rws w.heap.size 3 15 o8 w8 g58 y54 ∧ Ow w.heap.size 3 16 o8 w8 v60 y59 ∧ Ow w.heap.size 3 18 o8 w8 v97 y96 ∧ Bx w.heap.size 11 o8 w8 b5 29 [(.int .i64 p0.Labels), v1]) follows_mixed (by kernel_rfl) rfl ⟨rfl, rfl, rfl, rfl, rfl, rfl, rfl, rfl, rfl, rfl, rfl, rfl, rfl, rfl, trivial⟩ ⟨hB, r38, h45, h56, h57, h61, h98, h6⟩ ?_ ⟨st_eq _, st_eq _, st_eq _, st_eq _, fun _ _ _ _ _ _ h0 hb ⟨vl, e, h⟩ hs => ⟨vl, e, h.stp hs h0.1 (Ne.symm hb)⟩, st_eq _, st_eq _, st_eq _, trivial⟩ ?_ ?_
                  · rintro t9 o1 w1 o2 w2 ht9 ⟨hB, r38, h45, h56, h57, h61, h98, h6⟩ hs9
                    have ht9 : t9 = 999 := by simpa using ht9
                    subst ht9
                    all_goals exact ⟨hB.stp hs9 (by decide), r38.stp hs9 (by decide) (by decide), h45.stp hs9 (by decide) (by decide), h56.stp hs9 (by decide) (by decide), h57.stp hs9 (by decide) (by decide), h61.stp hs9 (by decide) (by decide), h98.stp hs9 (by decide) (by decide), h6.stp hs9 (by decide)⟩
                  · refine ⟨?_, ?_, ?_, ?_, ?_, ?_, ?_, ?_, trivial⟩
                    · rintro o217 w218 a219 ha ⟨hB, r38, h45, h56, h57, h61, h98, h6⟩ -
                      refine opS_of ha (trivial) ?_
                      refine op1_val (ex_move rfl) ?_
                      exact ⟨_, Stp.refl _ _ _, rfl⟩
                    · rintro o220 w221 a222 ha ⟨hB, r38, h45, h56, h57, h61, h98, h6⟩ ⟨r223, -⟩
                      have ha := Fr.cons (d := 63) ha r223
                      refine opS_of ha (trivial) ?_
                      refine op1_val (ex_move rfl) ?_
                      exact ⟨_, Stp.refl _ _ _, rfl⟩
                    · rintro o224 w225 a226 ha ⟨hB, r38, h45, h56, h57, h61, h98, h6⟩ ⟨r227, -⟩
                      have ha := Fr.cons (d := 64) ha r227
                      refine opS_of ha (⟨_, rfl, (congrArg (fun b => some (Value.bool b)) t169)⟩) ?_
                      refine op1_val (ex_move rfl) ?_
                      exact ⟨_, Stp.refl _ _ _, rfl⟩
                    · rintro o228 w229 a230 ha ⟨hB, r38, h45, h56, h57, h61, h98, h6⟩ ⟨r231, -⟩
                      have ha := Fr.cons (d := 64) ha r231
                      refine opS_of ha (⟨_, rfl, (congrArg (fun b => some (Value.bool b)) t169)⟩) ?_
                      refine op1_val (ex_move rfl) ?_
                      exact ⟨_, Stp.refl _ _ _, rfl⟩
                    · rintro o232 w233 a234 ha ⟨hB, r38, h45, h56, h57, h61, h98, h6⟩ ⟨r235, r236, r237, -⟩
                      have ha := Fr.cons (d := 64) ha r235
                      have ha := Fr.cons (d := 65) ha r236
                      have ha := Fr.cons (d := 66) ha r237
                      refine opS_of ha (⟨_, rfl, (congrArg (fun b => some (Value.bool b)) t169)⟩) ?_
                      refine wd_indexW h45 hx208 rfl rfl Try.underlying26 Try.sizeOf3 ?_
                      exact ⟨_, Stp.refl _ _ _, ⟨_, rfl, h45⟩⟩
                    · rintro o238 w239 a240 ha ⟨hB, r38, h45, h56, h57, h61, h98, h6⟩ ⟨r241, r242, -⟩
                      have ha := Fr.cons (d := 64) ha r241
                      obtain ⟨v243, e244, h245⟩ := r242
                      have ha := Fr.cons (d := 67) ha e244
                      refine opS_of ha (⟨_, rfl, (congrArg (fun b => some (Value.bool b)) t169)⟩) ?_
                      refine wd_load1W h245 hx208 rfl rfl Try.isAgg3 ?_
                      intro c246 h247
                      cases h247
                      exact ⟨_, Stp.refl _ _ _, rfl⟩
                    · rintro o248 w249 a250 ha ⟨hB, r38, h45, h56, h57, h61, h98, h6⟩ ⟨r251, -⟩
                      have ha := Fr.cons (d := 64) ha r251
                      refine opS_of ha (⟨_, rfl, (congrArg (fun b => some (Value.bool b)) t169)⟩) ?_
                      refine op1_val (ex_move rfl) ?_
                      exact ⟨_, Stp.refl _ _ _, rfl⟩
                    · rintro o252 w253 a254 ha ⟨hB, r38, h45, h56, h57, h61, h98, h6⟩ ⟨r255, r256, -⟩
                      have ha := Fr.cons (d := 64) ha r255
                      have ha := Fr.cons (d := 69) ha r256
                      refine opS_of ha (⟨_, rfl, (congrArg (fun b => some (Value.bool b)) t169)⟩) ?_
                      refine wf_call (cI_setOf w253 _ y96 h98.z x211 hx211) Try.call81 ⟨rfl, trivial⟩ ?_
                      rintro e261 w257 ⟨rfl, k258⟩
                      have s260 := k258.stp 999 o252
                      refine ⟨_, rfl, ?_⟩
                      replace r38 := r38.stp s260 (by decide) (by decide)
                      replace h45 := h45.stp s260 (by decide) (by decide)
                      replace h56 := h56.stp s260 (by decide) (by decide)
                      replace h57 := h57.stp s260 (by decide) (by decide)
                      replace h61 := h61.stp s260 (by decide) (by decide)
                      replace h98 := h98.stp s260 (by decide) (by decide)
                      replace h6 := h6.stp s260 (by decide)
                      replace hB := hB.stp s260 (by decide)
                      exact ⟨_, s260, rfl⟩
                  rintro o262 w263 a264 ha ⟨hB, r38, h45, h56, h57, h61, h98, h6⟩ ⟨-, r265, -, -, -, r266, -, r267, -⟩
                  have ha := Fr.cons (d := 64) ha r265
                  have ha := Fr.cons (d := 68) ha r266
                  have ha := Fr.cons (d := 70) ha r267
                  refine wl_of ha ?_
                  simp only [List.length_cons, List.length_nil, Nat.zero_add, Nat.reduceAdd, List.drop_succ_cons, List.drop_zero]
                  refine st_val (ex_and rfl rfl) (by decide) ⟨_, rfl, (congrArg (fun b => some (Value.bool b)) t169)⟩ ?_
                  refine st_val (ex_neq rfl rfl) (by decide) ⟨_, rfl, (congrArg (fun b => some (Value.bool b)) t169)⟩ ?_
                  refine st_val (ex_pick_f (congrArg (fun b => some (Value.bool b)) t169) rfl) (by decide) trivial ?_
                  refine st_val (ex_assign rfl) (by decide) trivial ?_
                  have e268 := Option.some.inj hq165
                  subst e268
                  refine wpF_end (r := [(1, (.pointer (some ⟨b5, 0, none⟩))), (4, v40), (5, v44), (6, v55), (7, v60), (8, (.int .i64 (bor y62 x140))), (10, v97), (11, (.bool ((band x208 x211) != 0))), (21, (.int .i64 (x8.length : Int))), (22, (.int .i64 i65)), (57, v97), (58, (.int .i64 (y96.length : Int))), (59, (.int .i64 i149))]) ⟨rfl, rfl, rfl, rfl, rfl, rfl, rfl, rfl, rfl, rfl, rfl, rfl, rfl, trivial⟩ ?_
                  refine np_norm (fun a ha => ⟨o262, ha, hB, r38, h45, h56, h57, h61, h98, h6⟩)
              rintro a269 w167 ⟨o166, ha, hB, r38, h45, h56, h57, h61, h98, h6⟩
              refine ap_k ha ?_
              refine nb_norm ?_
              refine nx ?_
              refine wpC_region ?_
              refine st_val (ex_add rfl rfl (ck_in (by omega) (by omega))) (by decide) trivial ?_
              refine st_val (ex_move rfl) (by decide) trivial ?_
              refine wpF_end (r := [(1, (.pointer (some ⟨b5, 0, none⟩))), (4, v40), (5, v44), (6, v55), (7, v60), (8, (.int .i64 (bor y62 x140))), (10, v97), (11, (.bool q165)), (21, (.int .i64 (x8.length : Int))), (22, (.int .i64 i65)), (57, v97), (58, (.int .i64 (y96.length : Int))), (59, (.int .i64 (i149 + 1)))]) ⟨rfl, rfl, rfl, rfl, rfl, rfl, rfl, rfl, rfl, rfl, rfl, rfl, rfl, trivial⟩ ?_
              refine nt_norm ?_
              have e270 := Option.some.inj b156
              subst e270
              refine to_k (r := [(1, (.pointer (some ⟨b5, 0, none⟩))), (4, v40), (5, v44), (6, v55), (7, v60), (8, (.int .i64 (bor y62 x140))), (10, v97), (11, (.bool q165)), (21, (.int .i64 (x8.length : Int))), (22, (.int .i64 i65)), (57, v97), (58, (.int .i64 (y96.length : Int))), (59, (.int .i64 (i149 + 1)))]) ⟨rfl, rfl, rfl, rfl, rfl, rfl, rfl, rfl, rfl, rfl, rfl, rfl, rfl, trivial⟩ ?_
              intro a ha
              exact ⟨_, (by rw [← m153]; simp only [List.length_drop]; omega), i149 + 1, q165, o166, n157, rfl, (by omega), ha, hB, r38, h45, h56, h57, h61, h98, h6⟩
            · have r271 := forI_done t158 l151
              refine wp_of ha ?_
              refine wpC_seq ?_
              refine wpC_region ?_
              refine st_val (ex_lss rfl rfl) (by decide) trivial ?_
              refine wpF_end (r := [(1, (.pointer (some ⟨b5, 0, none⟩))), (4, v40), (5, v44), (6, v55), (7, v60), (8, (.int .i64 (bor y62 x140))), (10, v97), (11, (.bool y146)), (21, (.int .i64 (x8.length : Int))), (22, (.int .i64 i65)), (57, v97), (58, (.int .i64 (y96.length : Int))), (59, (.int .i64 i149)), (60, (.bool (decide (i149 < (y96.length : Int)))))]) ⟨rfl, rfl, rfl, rfl, rfl, rfl, rfl, rfl, rfl, rfl, rfl, rfl, rfl, rfl, trivial⟩ ?_
              refine nx ?_
              refine wpC_seq ?_
              refine wpC_false (congrArg (fun b => some (Value.bool b)) (decide_eq_false t158)) ?_
              refine wpC_exit ?_
              refine nt_exit ?_
              refine nt_exit ?_
              refine nb_hit ?_
              refine np_norm ?_
              refine to_k (r := [(1, (.pointer (some ⟨b5, 0, none⟩))), (4, v40), (5, v44), (6, v55), (7, v60), (8, (.int .i64 (bor y62 x140))), (10, v97), (11, (.bool y146)), (21, (.int .i64 (x8.length : Int))), (22, (.int .i64 i65))]) ⟨rfl, rfl, rfl, rfl, rfl, rfl, rfl, rfl, rfl, rfl, trivial⟩ ?_
              intro a ha
              exact ⟨y146, o147, r271, ha, hB, r38, h45, h56, h57, h61, h98, h6⟩
          · rintro a w148 ⟨y146, o147, rfl, ha, hB, r38, h45, h56, h57, h61, h98, h6⟩
            dsimp only at b74
            refine ap_k ha ?_
            refine nx ?_
            refine wpC_seq ?_
            refine wpC_region ?_
            refine st_val (ex_move rfl) (by decide) trivial ?_
            refine wpF_end (r := [(1, (.pointer (some ⟨b5, 0, none⟩))), (4, v40), (5, v44), (6, v55), (7, v60), (8, (.int .i64 (bor y62 x140))), (10, v97), (21, (.int .i64 (x8.length : Int))), (22, (.int .i64 i65)), (75, (.bool y146))]) ⟨rfl, rfl, rfl, rfl, rfl, rfl, rfl, rfl, rfl, rfl, trivial⟩ ?_
            refine nx ?_
            refine wpC_cond rfl (fun t272 => ?_) (fun t272 => ?_)
            · rw [if_pos t272] at b74
              obtain ⟨x279, hx279, b74⟩ := bind_some b74
              obtain ⟨h280, h281⟩ := h57.pushV hx279 v97
              obtain ⟨x287, hx287, b74⟩ := bind_some b74
              refine wpC_drawnS (o := o147) [(1, (.pointer (some ⟨b5, 0, none⟩))), (4, v40), (5, v44), (6, v55), (7, v60), (8, (.int .i64 (bor y62 x140))), (10, v97), (21, (.int .i64 (x8.length : Int))), (22, (.int .i64 i65))] [1, 4, 5, 6, 7, 8, 10, 21, 22] [76, 77, 78, 79, 80, 81, 82, 83, 84] [[], [], [1], [0, 2], [], [], [], [5, 6], [7]] [none, none, none, none, none, none, none, none, none] [999, 999, 999, 14, 999, 999, 999, 999, 999] [0, 0, 0, 14, 0, 0, 0, 0, 0] [14, 999] [3] [14] [[0], [], [0], [0], [], [], [], [], []] [false, false, false, false, false, false, false, false, false] [fun v _ _ => v = v55, fun v _ _ => v = v97, fun v o w9 => RdL o w9 v (([⟨v97⟩] : List Hv) : List Hv), fun v o w9 => Ow w.heap.size 26 14 o w9 v ((g58 ++ [⟨v97⟩]) : List Hv), fun v _ _ => v = v60, fun v _ _ => v = (.agg #[(.int .i64 p0.Labels), v1]), fun v _ _ => v = v97, fun v _ _ => v = (.int .i64 x287), fun v o w9 => RdL o w9 v (([x287] : List Int) : List Int)] [fun _ o w9 => Ow w.heap.size 26 14 o w9 v55 g58] (fun o8 w8 => Bs oo o8 w w8 ∧ Rws w.heap.size 3 15 o8 w8 g58 y54 ∧ Ow w.heap.size 3 12 o8 w8 v40 x8 ∧ Ow w.heap.size 3 13 o8 w8 v44 x42 ∧ Ow w.heap.size 3 16 o8 w8 v60 y59 ∧ Ow w.heap.size 3 18 o8 w8 v97 y96 ∧ Bx w.heap.size 11 o8 w8 b5 29 [(.int .i64 p0.Labels), v1]) follows_mixed (by kernel_rfl) rfl ⟨rfl, rfl, rfl, rfl, rfl, rfl, rfl, rfl, rfl, trivial⟩ ⟨hB, h57, r38, h45, h61, h98, h6⟩ ⟨h56, trivial⟩ ?_ ⟨st_eq _, st_eq _, fun _ _ _ _ _ _ h0 hb h hs => h.stp hs h0.1, fun _ _ _ _ _ _ h0 hb h hs => h.stp hs h0.1 (Ne.symm hb), st_eq _, st_eq _, st_eq _, st_eq _, fun _ _ _ _ _ _ h0 hb h hs => h.stp hs h0.1, trivial⟩ ⟨fun _ _ _ _ _ _ h0 hb h hs => h.stp hs h0.1 (Ne.symm hb), trivial⟩ ⟨trivial, trivial, trivial, trivial, trivial, trivial, trivial, trivial, trivial, trivial⟩ ?_ ?_
              · rintro t9 o1 w1 o2 w2 ht9 ⟨hB, h57, r38, h45, h61, h98, h6⟩ hs9
                have ht9 : t9 = 14 ∨ t9 = 999 := by simpa using ht9
                rcases ht9 with rfl | rfl
                all_goals exact ⟨hB.stp hs9 (by decide), h57.stp hs9 (by decide) (by decide), r38.stp hs9 (by decide) (by decide), h45.stp hs9 (by decide) (by decide), h61.stp hs9 (by decide) (by decide), h98.stp hs9 (by decide) (by decide), h6.stp hs9 (by decide)⟩
              · refine ⟨?_, ?_, ?_, ?_, ?_, ?_, ?_, ?_, ?_, trivial⟩
                · rintro o299 w300 a301 ha ⟨hB, h57, r38, h45, h61, h98, h6⟩ ⟨h56, -⟩ -
                  refine opS_of ha (trivial) ?_
                  refine op1_val (ex_move rfl) ?_
                  exact ⟨_, Stp.refl _ _ _, rfl⟩
                · rintro o302 w303 a304 ha ⟨hB, h57, r38, h45, h61, h98, h6⟩ - -
                  refine opS_of ha (trivial) ?_
                  refine op1_val (ex_move rfl) ?_
                  exact ⟨_, Stp.refl _ _ _, rfl⟩
                · rintro o305 w306 a307 ha ⟨hB, h57, r38, h45, h61, h98, h6⟩ ⟨h56, -⟩ ⟨r308, -⟩
                  have ha := Fr.cons (d := 77) ha r308
                  refine opS_of ha (trivial) ?_
                  refine wf_litR (o := o305) (cs := [v97]) (xs := ([⟨v97⟩] : List Hv)) (vs := [(0, v97)]) ⟨_, _, rfl, rd_hv h98, rfl⟩ rfl ⟨rfl, rfl, trivial⟩ Try.underlying22 Try.sizeOf26 Try.zeroValue26 (by decide) (fill1 h98.cells1) (by simp) ?_
                  intro o309 w310 v311 h312 s313 k314
                  replace r38 := r38.stp s313 (by decide) (by decide)
                  replace h45 := h45.stp s313 (by decide) (by decide)
                  replace h56 := h56.stp s313 (by decide) (by decide)
                  replace h61 := h61.stp s313 (by decide) (by decide)
                  replace h98 := h98.stp s313 (by decide) (by decide)
                  replace h6 := h6.stp s313 (by decide)
                  replace hB := hB.stp s313 (by decide)
                  exact ⟨_, s313, h312⟩
                · rintro o315 w316 a317 ha ⟨hB, h57, r38, h45, h61, h98, h6⟩ ⟨h56, -⟩ ⟨r318, r319, -⟩
                  have ha := Fr.cons (d := 76) ha r318
                  replace r319 : RdL o315 w316 (a317.tmps.getD 78 undef) (([⟨v97⟩] : List Hv) : List Hv) := r319
                  generalize e321 : a317.tmps.getD 78 undef = v320 at r319
                  have ha := Fr.cons (d := 78) ha e321
                  refine opS_of ha (trivial) ?_
                  refine wf_cat h56 r319 (push_cat h280) (by decide) hB.keeps.size rfl rfl Try.underlying22 info2_t_Lint_Wb rfl (by decide) ?_
                  intro o322 w323 v324 h325 s326
                  replace r38 := r38.stp s326 (by decide) (by decide)
                  replace h45 := h45.stp s326 (by decide) (by decide)
                  replace h61 := h61.stp s326 (by decide) (by decide)
                  replace h98 := h98.stp s326 (by decide) (by decide)
                  replace r319 := r319.stp s326 (by decide)
                  replace h6 := h6.stp s326 (by decide)
                  replace hB := hB.stp s326 (by decide)
                  exact ⟨_, s326, h325⟩
                · rintro o327 w328 a329 ha ⟨hB, h57, r38, h45, h61, h98, h6⟩ - -
                  refine opS_of ha (trivial) ?_
                  refine op1_val (ex_move rfl) ?_
                  exact ⟨_, Stp.refl _ _ _, rfl⟩
                · rintro o330 w331 a332 ha ⟨hB, h57, r38, h45, h61, h98, h6⟩ - -
                  refine opS_of ha (trivial) ?_
                  refine op1_val (ex_loadA rfl Try.isAgg29 Try.sizeOf29 rfl h6.cells) ?_
                  exact ⟨_, Stp.refl _ _ _, rfl⟩
                · rintro o333 w334 a335 ha ⟨hB, h57, r38, h45, h61, h98, h6⟩ - -
                  refine opS_of ha (trivial) ?_
                  refine op1_val (ex_move rfl) ?_
                  exact ⟨_, Stp.refl _ _ _, rfl⟩
                · rintro o336 w337 a338 ha ⟨hB, h57, r38, h45, h61, h98, h6⟩ - ⟨r339, r340, -⟩
                  have ha := Fr.cons (d := 81) ha r339
                  have ha := Fr.cons (d := 82) ha r340
                  refine opS_of ha (trivial) ?_
                  refine wf_call (cI_WalkProblem_periodOf fuel w337 _ p0 (⟨_, rfl, (h2.keep hB.keeps)⟩) _ y96 h98.z x287 hx287) Try.call82 ⟨rfl, rfl, trivial⟩ ?_
                  rintro e345 w341 ⟨rfl, k342⟩
                  have s344 := k342.stp 999 o336
                  refine ⟨_, rfl, ?_⟩
                  replace r38 := r38.stp s344 (by decide) (by decide)
                  replace h45 := h45.stp s344 (by decide) (by decide)
                  replace h61 := h61.stp s344 (by decide) (by decide)
                  replace h98 := h98.stp s344 (by decide) (by decide)
                  replace h6 := h6.stp s344 (by decide)
                  replace hB := hB.stp s344 (by decide)
                  exact ⟨_, s344, rfl⟩
                · rintro o346 w347 a348 ha ⟨hB, h57, r38, h45, h61, h98, h6⟩ - ⟨r349, -⟩
                  have ha := Fr.cons (d := 83) ha r349
                  refine opS_of ha (trivial) ?_
                  refine wf_litR (o := o346) (cs := [(.int .i64 x287)]) (xs := ([x287] : List Int)) (vs := [(0, (.int .i64 x287))]) ⟨_, _, rfl, rfl, rfl⟩ rfl ⟨rfl, rfl, trivial⟩ Try.underlying26 Try.sizeOf3 Try.zeroValue3 (by decide) (fill1 rfl) (by simp) ?_
                  intro o350 w351 v352 h353 s354 k355
                  replace r38 := r38.stp s354 (by decide) (by decide)
                  replace h45 := h45.stp s354 (by decide) (by decide)
                  replace h61 := h61.stp s354 (by decide) (by decide)
                  replace h98 := h98.stp s354 (by decide) (by decide)
                  replace h6 := h6.stp s354 (by decide)
                  replace hB := hB.stp s354 (by decide)
                  exact ⟨_, s354, h353⟩
              rintro o356 w357 a358 ha ⟨hB, h57, r38, h45, h61, h98, h6⟩ ⟨-, -, -, r359, r360, -, -, -, r361, -⟩
              replace r359 : Ow w.heap.size 26 14 o356 w357 (a358.tmps.getD 79 undef) ((g58 ++ [⟨v97⟩]) : List Hv) := r359
              generalize e363 : a358.tmps.getD 79 undef = v362 at r359
              have ha := Fr.cons (d := 79) ha e363
              have ha := Fr.cons (d := 80) ha r360
              replace r361 : RdL o356 w357 (a358.tmps.getD 84 undef) (([x287] : List Int) : List Int) := r361
              generalize e365 : a358.tmps.getD 84 undef = v364 at r361
              have ha := Fr.cons (d := 84) ha e365
              have h366 := h57.push h98 (by decide) (by decide)
              rw [← h281] at h366
              clear h57 h98
              have r367 := mrg_rc 18 15 o356
              replace r38 := r38.rc r367 (by decide) (by decide)
              replace h45 := h45.rc r367 (by decide) (by decide)
              replace h61 := h61.rc r367 (by decide) (by decide)
              replace r359 := r359.rc r367 (by decide) (by decide)
              replace r361 := r361.rc r367 (by decide)
              replace h6 := h6.rc r367 (by decide)
              replace hB := hB.rc r367 (by decide)
              generalize mrg 18 15 o356 = o368 at *
              refine wl_of ha ?_
              simp only [List.length_cons, List.length_nil, Nat.zero_add, Nat.reduceAdd, List.drop_succ_cons, List.drop_zero]
              obtain ⟨x369, hx369, b74⟩ := bind_some b74
              refine st_op (by decide) trivial ?_
              refine wf_cat h61 r361 (push_cat hx369) (by decide) hB.keeps.size rfl rfl Try.underlying26 info2_t_int_Wb rfl (by decide) ?_
              intro o370 w371 v372 h373 s374
              replace r38 := r38.stp s374 (by decide) (by decide)
              replace h45 := h45.stp s374 (by decide) (by decide)
              replace r359 := r359.stp s374 (by decide) (by decide)
              replace h366 := h366.stp s374 (by decide) (by decide)
              replace r361 := r361.stp s374 (by decide)
              replace h6 := h6.stp s374 (by decide)
              replace hB := hB.stp s374 (by decide)
              refine st_val (ex_assign rfl) (by decide) trivial ?_
              refine st_val (ex_assign rfl) (by decide) trivial ?_
              refine wpF_end (r := [(1, (.pointer (some ⟨b5, 0, none⟩))), (4, v40), (5, v44), (6, v362), (7, v372), (8, (.int .i64 (bor y62 x140))), (21, (.int .i64 (x8.length : Int))), (22, (.int .i64 i65))]) ⟨rfl, rfl, rfl, rfl, rfl, rfl, rfl, rfl, trivial⟩ ?_
              refine nb_norm ?_
              refine nx ?_
              refine wpC_region ?_
              refine st_val (ex_add rfl rfl (ck_in (by omega) (by omega))) (by decide) trivial ?_
              refine st_val (ex_move rfl) (by decide) trivial ?_
              refine wpF_end (r := [(1, (.pointer (some ⟨b5, 0, none⟩))), (4, v40), (5, v44), (6, v362), (7, v372), (8, (.int .i64 (bor y62 x140))), (21, (.int .i64 (x8.length : Int))), (22, (.int .i64 (i65 + 1)))]) ⟨rfl, rfl, rfl, rfl, rfl, rfl, rfl, rfl, trivial⟩ ?_
              refine nt_norm ?_
              have e375 := Option.some.inj b74
              subst e375
              refine to_k (r := [(1, (.pointer (some ⟨b5, 0, none⟩))), (4, v40), (5, v44), (6, v362), (7, v372), (8, (.int .i64 (bor y62 x140))), (21, (.int .i64 (x8.length : Int))), (22, (.int .i64 (i65 + 1)))]) ⟨rfl, rfl, rfl, rfl, rfl, rfl, rfl, rfl, trivial⟩ ?_
              intro a ha
              exact ⟨_, (by rw [← m71]; omega), i65 + 1, x279, x369, bor y62 x140, v362, v372, (g58 ++ [⟨v97⟩]), o370, n75, rfl, (by omega), ha, hB, r38, h45, r359, h366, h373, h6⟩
            · rw [if_neg (by rw [t272]; decide)] at b74
              refine wpC_skip ?_
              refine nb_norm ?_
              refine nx ?_
              refine wpC_region ?_
              refine st_val (ex_add rfl rfl (ck_in (by omega) (by omega))) (by decide) trivial ?_
              refine st_val (ex_move rfl) (by decide) trivial ?_
              refine wpF_end (r := [(1, (.pointer (some ⟨b5, 0, none⟩))), (4, v40), (5, v44), (6, v55), (7, v60), (8, (.int .i64 (bor y62 x140))), (21, (.int .i64 (x8.length : Int))), (22, (.int .i64 (i65 + 1)))]) ⟨rfl, rfl, rfl, rfl, rfl, rfl, rfl, rfl, trivial⟩ ?_
              refine nt_norm ?_
              have e376 := Option.some.inj b74
              subst e376
              refine to_k (r := [(1, (.pointer (some ⟨b5, 0, none⟩))), (4, v40), (5, v44), (6, v55), (7, v60), (8, (.int .i64 (bor y62 x140))), (21, (.int .i64 (x8.length : Int))), (22, (.int .i64 (i65 + 1)))]) ⟨rfl, rfl, rfl, rfl, rfl, rfl, rfl, rfl, trivial⟩ ?_
              intro a ha
              exact ⟨_, (by rw [← m71]; omega), i65 + 1, y54, y59, bor y62 x140, v55, v60, g58, o147, n75, rfl, (by omega), ha, hB, r38, h45, h56, h57, h61, h6⟩
          · exact fun _ _ h => h.elim
        · exact fun _ _ h => h.elim
    · have r377 := forN_done t76 l69
      refine wp_of ha ?_
      refine wpC_seq ?_
      refine wpC_region ?_
      refine st_val (ex_lss rfl rfl) (by decide) trivial ?_
      refine wpF_end (r := [(1, (.pointer (some ⟨b5, 0, none⟩))), (4, v40), (5, v44), (6, v55), (7, v60), (8, (.int .i64 y62)), (21, (.int .i64 (x8.length : Int))), (22, (.int .i64 i65)), (23, (.bool (decide (i65 < (x8.length : Int)))))]) ⟨rfl, rfl, rfl, rfl, rfl, rfl, rfl, rfl, rfl, trivial⟩ ?_
      refine nx ?_
      refine wpC_seq ?_
      refine wpC_false (congrArg (fun b => some (Value.bool b)) (decide_eq_false t76)) ?_
      refine wpC_exit ?_
      refine nt_exit ?_
      refine nt_exit ?_
      refine nb_hit ?_
      refine np_norm ?_
      refine to_k (r := [(6, v55), (7, v60)]) ⟨rfl, rfl, trivial⟩ ?_
      intro a ha
      exact ⟨y54, y59, y62, v55, v60, g58, o63, r377, ha, hB, h56, h57, h61⟩
  · rintro a w64 ⟨y54, y59, y62, v55, v60, g58, o63, rfl, ha, hB, h56, h57, h61⟩
    dsimp only at hF
    refine ap_k ha ?_
    refine nx ?_
    refine wpC_seq ?_
    refine wpC_region ?_
    refine st_val (ex_move rfl) (by decide) trivial ?_
    refine st_val (ex_move rfl) (by decide) trivial ?_
    refine st_val (ex_assign rfl) (by decide) trivial ?_
    refine st_val (ex_assign rfl) (by decide) trivial ?_
    refine wpF_end (r := [(2, v55), (3, v60)]) ⟨rfl, rfl, trivial⟩ ?_
    refine nx ?_
    refine wpC_ret ?_
    have h378 := Dz.of h56 h57 (by decide) (by decide) (by decide)
    have r379 := frz_rc 14 o63
    have r380 := frz_rc 15 (frz 14 o63)
    replace h61 := (h61.rc r379 (by decide) (by decide)).rc r380 (by decide) (by decide)
    replace hB := (hB.rc r379 (by decide)).rc r380 (by decide)
    clear r379 r380
    generalize frz 15 (frz 14 o63) = o382 at *
    have h381 := h378.rd
    have e383 := Option.some.inj hF
    subst e383
    refine ret_post (P := Try.prog) (vs := [v55, v60]) Try.results41 ⟨rfl, rfl, trivial⟩ ?_
    exact ⟨_, _, rt oo o382 w.heap.size 16 t, rfl, h378.rt hB 16 t (by decide), h61.rt hB (by decide) t, hB.keeps, rt_old _ _ _ _ _⟩
  · exact fun _ _ h => h.elim

end Go.Proofs.Ytffgdhbhlcifmaa
