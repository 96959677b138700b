/- spec.l1In, spec.l1Least, spec.l1Has, spec.l1All, spec.l1Put, spec.l1Own, spec.l1Sign, spec.l1Rising, spec.l1Same, spec.coThrough, spec.prOrder, spec.prAll, spec.prSorted, impl.within, impl.numbersTo, impl.labelsIn, impl.increasing, cmp.isNaN[int], cmp.Compare[int], cmp.Less[int], slices.IndexFunc[[]int,int], slices.ContainsFunc[[]int,int], impl.allWithin$1, impl.allWithin, slices.Compare[[]int,int], slices.IsSorted[[]int,int]: plain functions, and the walks that show that the program computes them (printed by gen.py). -/
import Derived.Test.YtijaojnaamkinaaTy
namespace Go.Proofs.Ytijaojnaamkinaa
open Go.RowKit
set_option linter.unusedSimpArgs false
set_option linter.unusedVariables false

theorem info2_t_int_A : Inf Try.prog 3 (.int .i64 0) 1 8 := by unfold Inf; kernel_rfl

def fS_l1In (p0 : Int) (p1 : Int) (p2 : Int) : Option Bool :=
  (
    if decide (p0 ≥ p1) then
      some (decide (p0 ≤ p2))
    else
      some false) >>= fun q1 =>
  some q1

def pS_l1In (w : World) (r : Bool) : Ending → World → Prop := fun e w' => e = .returned (.bool r) ∧ Keeps w w'
set_option maxRecDepth 100000 in
set_option maxHeartbeats 2000000 in
theorem cS_l1In (w : World) (p0 : Int) (p1 : Int) (p2 : Int) (r : Bool) (hF : fS_l1In p0 p1 p2 = some r) :
    Calls Try.prog 90 #[.int .i64 p0, .int .i64 p1, .int .i64 p2] w (pS_l1In w r) := by
  unfold fS_l1In at hF
  have hB : Bs (fun _ => 1) (col (fun _ => 1)) w w := Bs.start _ _
  refine calls_start (n := 15) (vs := [(.int .i64 p0), (.int .i64 p1), (.int .i64 p2)]) Try.func90 rfl rfl ?_
  refine wpC_seq ?_
  refine wpC_region ?_
  refine st_val (ex_assign rfl) (by decide) trivial ?_
  refine wpF_end (r := [(0, (.int .i64 p0)), (1, (.int .i64 p1)), (2, (.int .i64 p2))]) ⟨rfl, rfl, rfl, trivial⟩ ?_
  refine nx ?_
  refine wpC_seq ?_
  refine wpC_region ?_
  refine st_val (ex_move rfl) (by decide) trivial ?_
  refine st_val (ex_move rfl) (by decide) trivial ?_
  refine st_val (ex_geq rfl rfl) (by decide) trivial ?_
  refine st_val (ex_move rfl) (by decide) trivial ?_
  obtain ⟨q1, hq1, hF⟩ := bind_some hF
  refine wpF_cutAt 4 (fun a3 w2 => Fr a3 15 [(14, (.bool q1))] ∧ Keeps w w2) ?_ ?_
  all_goals simp only [List.take_succ_cons, List.take_zero, List.drop_succ_cons, List.drop_zero]
  · have kp : Keeps w w := Keeps.refl _
    rcases Bool.eq_false_or_eq_true (decide (p0 ≥ p1)) with t4 | t4
    · rw [if_pos t4] at hq1
      refine st_val (ex_move rfl) (by decide) ⟨_, rfl, (congrArg (fun b => some (Value.bool b)) t4)⟩ ?_
      refine st_val (ex_move rfl) (by decide) ⟨_, rfl, (congrArg (fun b => some (Value.bool b)) t4)⟩ ?_
      refine st_val (ex_leq rfl rfl) (by decide) ⟨_, rfl, (congrArg (fun b => some (Value.bool b)) t4)⟩ ?_
      refine st_val (ex_pick_t (congrArg (fun b => some (Value.bool b)) t4) rfl) (by decide) trivial ?_
      have hq12 := Option.some.inj hq1
      refine wpF_end (r := [(14, (.bool (decide (p0 ≤ p2))))]) ⟨rfl, trivial⟩ ?_
      subst hq12
      refine np_norm (fun a ha => ⟨ha, kp⟩)
    · rw [if_neg (by rw [t4]; decide)] at hq1
      refine st_no rfl rfl (by rw [t4]; rfl) (by decide) ?_
      refine st_no rfl rfl (by rw [t4]; rfl) (by decide) ?_
      refine st_no rfl rfl (by rw [t4]; rfl) (by decide) ?_
      refine st_val (ex_pick_f (congrArg (fun b => some (Value.bool b)) t4) rfl) (by decide) trivial ?_
      have hq12 := Option.some.inj hq1
      refine wpF_end (r := [(14, (.bool false))]) ⟨rfl, trivial⟩ ?_
      subst hq12
      refine np_norm (fun a ha => ⟨ha, kp⟩)
  rintro a7 w2 ⟨ha, k5⟩
  have s6 := k5.stp 999 (col (fun _ => 1))
  replace hB := hB.stp s6 (by decide)
  refine wl_of ha ?_
  refine st_val (ex_assign rfl) (by decide) trivial ?_
  refine wpF_end (r := [(6, (.bool q1))]) ⟨rfl, trivial⟩ ?_
  refine nx ?_
  refine wpC_ret ?_
  have e8 := Option.some.inj hF
  subst e8
  refine ret_post (P := Try.prog) (vs := [(.bool q1)]) Try.results90 ⟨rfl, trivial⟩ ?_
  exact ⟨rfl, hB.keeps⟩

def fS_l1Has_s1 (p1 : Int) : Int → Int → Unit → Option (Lp Unit Unit Bool) := fun (i3 : Int) (x13 : Int) (s : Unit) =>
  if x13 == p1 then
    some (.ret true)
  else
    some (.go ())
def fS_l1Has (p0 : List Int) (p1 : Int) : Option Bool :=
  (forI (fS_l1Has_s1 p1) p0 0 ()) >>= fun q4 =>
  match q4 with
  | .inl _ =>
    some false
  | .inr r' => some r'

def pS_l1Has (w : World) (r : Bool) : Ending → World → Prop := fun e w' => e = .returned (.bool r) ∧ Keeps w w'
set_option maxRecDepth 100000 in
set_option maxHeartbeats 2000000 in
theorem cS_l1Has (w : World) (u0 : Value) (p0 : List Int) (g0 : RdL zt w u0 p0) (p1 : Int) (r : Bool) (hF : fS_l1Has p0 p1 = some r) :
    Calls Try.prog 94 #[u0, .int .i64 p1] w (pS_l1Has w r) := by
  unfold fS_l1Has at hF
  have hB : Bs (fun _ => 1) (col (fun _ => 1)) w w := Bs.start _ _
  refine calls_start (n := 17) (vs := [u0, (.int .i64 p1)]) Try.func94 rfl rfl ?_
  refine wpC_seq ?_
  refine wpC_region ?_
  refine st_val (ex_assign rfl) (by decide) trivial ?_
  refine wpF_end (r := [(0, u0), (1, (.int .i64 p1))]) ⟨rfl, rfl, trivial⟩ ?_
  refine nx ?_
  refine wpC_seq ?_
  refine wpC_seq ?_
  refine wpC_region ?_
  refine st_val (ex_move rfl) (by decide) trivial ?_
  refine st_val (ex_lenR rfl g0 Try.underlying23) (by decide) trivial ?_
  refine st_val (ex_move rfl) (by decide) trivial ?_
  refine wpF_end (r := [(1, (.int .i64 p1)), (7, u0), (8, (.int .i64 (p0.length : Int))), (9, (.int .i64 0))]) ⟨rfl, rfl, rfl, rfl, trivial⟩ ?_
  refine nx ?_
  obtain ⟨q4, hq4, hF⟩ := bind_some hF
  refine wpC_cutN (fun a w2 => ∃ (o1 : Tg), q4 = .inl () ∧ Fr a 17 [] ∧ Bs (fun _ => 1) o1 w w2) (fun a w' => ∃ r', q4 = .inr r' ∧ bodyPost Try.prog Try.f94 (pS_l1Has w r') .ret a w') ?_ ?_ ?_
  · refine wpC_block ?_
    refine wpC_loop (fun (K : Nat) a w2 => ∃ (i3 : Int) (o1 : Tg), forI (fS_l1Has_s1 p1) (p0.drop i3.toNat) i3 () = some q4 ∧ (p0.drop i3.toNat).length = K ∧ 0 ≤ i3 ∧ Fr a 17 [(1, (.int .i64 p1)), (7, u0), (8, (.int .i64 (p0.length : Int))), (9, (.int .i64 i3))] ∧ Bs (fun _ => 1) o1 w w2) _ (fun a ha => ⟨0, (col (fun _ => 1)), hq4, rfl, Int.le_refl 0, ha.sub (r := [(1, (.int .i64 p1)), (7, u0), (8, (.int .i64 (p0.length : Int))), (9, (.int .i64 0))]) ⟨rfl, rfl, rfl, rfl, trivial⟩, hB⟩) ?_
    rintro K8 a w2 ⟨i3, o1, l5, m7, z6, ha, hB⟩
    by_cases t12 : i3 < (p0.length : Int)
    · obtain ⟨x13, q9, hx13, b10, n11⟩ := forI_cons z6 t12 l5
      have hle := g0.len_le
      dsimp only [fS_l1Has_s1] at b10
      refine wp_of ha ?_
      refine wpC_seq ?_
      refine wpC_region ?_
      refine st_val (ex_lss rfl rfl) (by decide) trivial ?_
      refine wpF_end (r := [(1, (.int .i64 p1)), (7, u0), (8, (.int .i64 (p0.length : Int))), (9, (.int .i64 i3)), (10, (.bool (decide (i3 < (p0.length : Int)))))]) ⟨rfl, rfl, rfl, rfl, rfl, trivial⟩ ?_
      refine nx ?_
      refine wpC_seq ?_
      refine wpC_true (congrArg (fun b => some (Value.bool b)) (decide_eq_true t12)) ?_
      refine wpC_skip ?_
      refine nx ?_
      refine wpC_seq ?_
      refine wpC_block ?_
      refine wpC_seq ?_
      refine wpC_region ?_
      refine st_op (by decide) trivial ?_
      refine wf_atZ g0 hx13 hB rfl rfl Try.underlying23 Try.sizeOf3 ?_
      intro b14 f15 c16 h17 h18
      cases h18
      refine st_val (ex_load1 rfl Try.isAgg3 (cell_of_cells h17)) (by decide) trivial ?_
      refine st_val (ex_assign rfl) (by decide) trivial ?_
      refine wpF_end (r := [(1, (.int .i64 p1)), (6, (.int .i64 x13)), (7, u0), (8, (.int .i64 (p0.length : Int))), (9, (.int .i64 i3))]) ⟨rfl, rfl, rfl, rfl, rfl, trivial⟩ ?_
      refine nx ?_
      refine wpC_seq ?_
      refine wpC_region ?_
      refine st_val (ex_move rfl) (by decide) trivial ?_
      refine st_val (ex_move rfl) (by decide) trivial ?_
      refine st_val (ex_eql rfl rfl) (by decide) trivial ?_
      refine wpF_end (r := [(1, (.int .i64 p1)), (7, u0), (8, (.int .i64 (p0.length : Int))), (9, (.int .i64 i3)), (15, (.bool (x13 == p1)))]) ⟨rfl, rfl, rfl, rfl, rfl, trivial⟩ ?_
      refine nx ?_
      refine wpC_cond rfl (fun t19 => ?_) (fun t19 => ?_)
      · rw [if_pos t19] at b10
        refine wpC_seq ?_
        refine wpC_region ?_
        refine st_val (ex_assign rfl) (by decide) trivial ?_
        refine wpF_end (r := [(4, (.bool true))]) ⟨rfl, trivial⟩ ?_
        refine nx ?_
        refine wpC_ret ?_
        refine nb_ret ?_
        refine nt_ret ?_
        refine nt_ret ?_
        refine nb_ret ?_
        refine np_ret ?_
        have e20 := Option.some.inj b10
        subst e20
        refine fun a ha => ⟨_, n11, ?_⟩
        refine ret_post (P := Try.prog) (vs := [(.bool true)]) Try.results94 ⟨rfl, trivial⟩ ?_ a ha
        exact ⟨rfl, hB.keeps⟩
      · rw [if_neg (by rw [t19]; decide)] at b10
        refine wpC_skip ?_
        refine nb_norm ?_
        refine nx ?_
        refine wpC_region ?_
        refine st_val (ex_add rfl rfl (ck_in (by omega) (by omega))) (by decide) trivial ?_
        refine st_val (ex_move rfl) (by decide) trivial ?_
        refine wpF_end (r := [(1, (.int .i64 p1)), (7, u0), (8, (.int .i64 (p0.length : Int))), (9, (.int .i64 (i3 + 1)))]) ⟨rfl, rfl, rfl, rfl, trivial⟩ ?_
        refine nt_norm ?_
        have e21 := Option.some.inj b10
        subst e21
        refine to_k (r := [(1, (.int .i64 p1)), (7, u0), (8, (.int .i64 (p0.length : Int))), (9, (.int .i64 (i3 + 1)))]) ⟨rfl, rfl, rfl, rfl, trivial⟩ ?_
        intro a ha
        exact ⟨_, (by rw [← m7]; simp only [List.length_drop]; omega), i3 + 1, o1, n11, rfl, (by omega), ha, hB⟩
    · have r22 := forI_done t12 l5
      refine wp_of ha ?_
      refine wpC_seq ?_
      refine wpC_region ?_
      refine st_val (ex_lss rfl rfl) (by decide) trivial ?_
      refine wpF_end (r := [(1, (.int .i64 p1)), (7, u0), (8, (.int .i64 (p0.length : Int))), (9, (.int .i64 i3)), (10, (.bool (decide (i3 < (p0.length : Int)))))]) ⟨rfl, rfl, rfl, rfl, rfl, trivial⟩ ?_
      refine nx ?_
      refine wpC_seq ?_
      refine wpC_false (congrArg (fun b => some (Value.bool b)) (decide_eq_false t12)) ?_
      refine wpC_exit ?_
      refine nt_exit ?_
      refine nt_exit ?_
      refine nb_hit ?_
      refine np_norm ?_
      refine to_k (r := []) trivial ?_
      intro a ha
      exact ⟨o1, r22, ha, hB⟩
  · rintro a w2 ⟨o1, rfl, ha, hB⟩
    dsimp only at hF
    refine ap_k ha ?_
    refine nx ?_
    refine wpC_seq ?_
    refine wpC_region ?_
    refine st_val (ex_assign rfl) (by decide) trivial ?_
    refine wpF_end (r := [(4, (.bool false))]) ⟨rfl, trivial⟩ ?_
    refine nx ?_
    refine wpC_ret ?_
    have e23 := Option.some.inj hF
    subst e23
    refine ret_post (P := Try.prog) (vs := [(.bool false)]) Try.results94 ⟨rfl, trivial⟩ ?_
    exact ⟨rfl, hB.keeps⟩
  · rintro a w2 ⟨r', rfl, b24⟩
    dsimp only at hF
    have e25 := Option.some.inj hF
    subst e25
    exact b24

def fS_l1All_s1 (p1 : Int) (p2 : Int) : Int → Int → Unit → Option (Lp Unit Unit Bool) := fun (i3 : Int) (x13 : Int) (s : Unit) =>
  (fS_l1In x13 p1 p2) >>= fun x19 =>
  if !x19 then
    some (.ret false)
  else
    some (.go ())
def fS_l1All (p0 : List Int) (p1 : Int) (p2 : Int) : Option Bool :=
  (forI (fS_l1All_s1 p1 p2) p0 0 ()) >>= fun q4 =>
  match q4 with
  | .inl _ =>
    some true
  | .inr r' => some r'

def pS_l1All (w : World) (r : Bool) : Ending → World → Prop := fun e w' => e = .returned (.bool r) ∧ Keeps w w'
set_option maxRecDepth 100000 in
set_option maxHeartbeats 2000000 in
theorem cS_l1All (w : World) (u0 : Value) (p0 : List Int) (g0 : RdL zt w u0 p0) (p1 : Int) (p2 : Int) (r : Bool) (hF : fS_l1All p0 p1 p2 = some r) :
    Calls Try.prog 100 #[u0, .int .i64 p1, .int .i64 p2] w (pS_l1All w r) := by
  unfold fS_l1All at hF
  have hB : Bs (fun _ => 1) (col (fun _ => 1)) w w := Bs.start _ _
  refine calls_start (n := 21) (vs := [u0, (.int .i64 p1), (.int .i64 p2)]) Try.func100 rfl rfl ?_
  refine wpC_seq ?_
  refine wpC_region ?_
  refine st_val (ex_assign rfl) (by decide) trivial ?_
  refine wpF_end (r := [(0, u0), (1, (.int .i64 p1)), (2, (.int .i64 p2))]) ⟨rfl, rfl, rfl, trivial⟩ ?_
  refine nx ?_
  refine wpC_seq ?_
  refine wpC_seq ?_
  refine wpC_region ?_
  refine st_val (ex_move rfl) (by decide) trivial ?_
  refine st_val (ex_lenR rfl g0 Try.underlying23) (by decide) trivial ?_
  refine st_val (ex_move rfl) (by decide) trivial ?_
  refine wpF_end (r := [(1, (.int .i64 p1)), (2, (.int .i64 p2)), (9, u0), (10, (.int .i64 (p0.length : Int))), (11, (.int .i64 0))]) ⟨rfl, rfl, rfl, rfl, rfl, trivial⟩ ?_
  refine nx ?_
  obtain ⟨q4, hq4, hF⟩ := bind_some hF
  refine wpC_cutN (fun a w2 => ∃ (o1 : Tg), q4 = .inl () ∧ Fr a 21 [] ∧ Bs (fun _ => 1) o1 w w2) (fun a w' => ∃ r', q4 = .inr r' ∧ bodyPost Try.prog Try.f100 (pS_l1All w r') .ret a w') ?_ ?_ ?_
  · refine wpC_block ?_
    refine wpC_loop (fun (K : Nat) a w2 => ∃ (i3 : Int) (o1 : Tg), forI (fS_l1All_s1 p1 p2) (p0.drop i3.toNat) i3 () = some q4 ∧ (p0.drop i3.toNat).length = K ∧ 0 ≤ i3 ∧ Fr a 21 [(1, (.int .i64 p1)), (2, (.int .i64 p2)), (9, u0), (10, (.int .i64 (p0.length : Int))), (11, (.int .i64 i3))] ∧ Bs (fun _ => 1) o1 w w2) _ (fun a ha => ⟨0, (col (fun _ => 1)), hq4, rfl, Int.le_refl 0, ha.sub (r := [(1, (.int .i64 p1)), (2, (.int .i64 p2)), (9, u0), (10, (.int .i64 (p0.length : Int))), (11, (.int .i64 0))]) ⟨rfl, rfl, rfl, rfl, rfl, trivial⟩, hB⟩) ?_
    rintro K8 a w2 ⟨i3, o1, l5, m7, z6, ha, hB⟩
    by_cases t12 : i3 < (p0.length : Int)
    · obtain ⟨x13, q9, hx13, b10, n11⟩ := forI_cons z6 t12 l5
      have hle := g0.len_le
      dsimp only [fS_l1All_s1] at b10
      refine wp_of ha ?_
      refine wpC_seq ?_
      refine wpC_region ?_
      refine st_val (ex_lss rfl rfl) (by decide) trivial ?_
      refine wpF_end (r := [(1, (.int .i64 p1)), (2, (.int .i64 p2)), (9, u0), (10, (.int .i64 (p0.length : Int))), (11, (.int .i64 i3)), (12, (.bool (decide (i3 < (p0.length : Int)))))]) ⟨rfl, rfl, rfl, rfl, rfl, rfl, trivial⟩ ?_
      refine nx ?_
      refine wpC_seq ?_
      refine wpC_true (congrArg (fun b => some (Value.bool b)) (decide_eq_true t12)) ?_
      refine wpC_skip ?_
      refine nx ?_
      refine wpC_seq ?_
      refine wpC_block ?_
      refine wpC_seq ?_
      refine wpC_region ?_
      refine st_op (by decide) trivial ?_
      refine wf_atZ g0 hx13 hB rfl rfl Try.underlying23 Try.sizeOf3 ?_
      intro b14 f15 c16 h17 h18
      cases h18
      refine st_val (ex_load1 rfl Try.isAgg3 (cell_of_cells h17)) (by decide) trivial ?_
      refine st_val (ex_assign rfl) (by decide) trivial ?_
      refine wpF_end (r := [(1, (.int .i64 p1)), (2, (.int .i64 p2)), (8, (.int .i64 x13)), (9, u0), (10, (.int .i64 (p0.length : Int))), (11, (.int .i64 i3))]) ⟨rfl, rfl, rfl, rfl, rfl, rfl, trivial⟩ ?_
      refine nx ?_
      refine wpC_seq ?_
      refine wpC_region ?_
      refine st_val (ex_move rfl) (by decide) trivial ?_
      refine st_val (ex_move rfl) (by decide) trivial ?_
      refine st_val (ex_move rfl) (by decide) trivial ?_
      obtain ⟨x19, hx19, b10⟩ := bind_some b10
      refine st_op (by decide) trivial ?_
      refine wf_call (cS_l1In w2 x13 p1 p2 x19 hx19) Try.call90 ⟨rfl, rfl, rfl, trivial⟩ ?_
      rintro e24 w20 ⟨rfl, k21⟩
      have s23 := k21.stp 999 o1
      refine ⟨_, rfl, ?_⟩
      replace hB := hB.stp s23 (by decide)
      refine st_val (ex_not rfl) (by decide) trivial ?_
      refine wpF_end (r := [(1, (.int .i64 p1)), (2, (.int .i64 p2)), (9, u0), (10, (.int .i64 (p0.length : Int))), (11, (.int .i64 i3)), (19, (.bool (!x19)))]) ⟨rfl, rfl, rfl, rfl, rfl, rfl, trivial⟩ ?_
      refine nx ?_
      refine wpC_cond rfl (fun t25 => ?_) (fun t25 => ?_)
      · rw [if_pos t25] at b10
        refine wpC_seq ?_
        refine wpC_region ?_
        refine st_val (ex_assign rfl) (by decide) trivial ?_
        refine wpF_end (r := [(6, (.bool false))]) ⟨rfl, trivial⟩ ?_
        refine nx ?_
        refine wpC_ret ?_
        refine nb_ret ?_
        refine nt_ret ?_
        refine nt_ret ?_
        refine nb_ret ?_
        refine np_ret ?_
        have e26 := Option.some.inj b10
        subst e26
        refine fun a ha => ⟨_, n11, ?_⟩
        refine ret_post (P := Try.prog) (vs := [(.bool false)]) Try.results100 ⟨rfl, trivial⟩ ?_ a ha
        exact ⟨rfl, hB.keeps⟩
      · rw [if_neg (by rw [t25]; decide)] at b10
        refine wpC_skip ?_
        refine nb_norm ?_
        refine nx ?_
        refine wpC_region ?_
        refine st_val (ex_add rfl rfl (ck_in (by omega) (by omega))) (by decide) trivial ?_
        refine st_val (ex_move rfl) (by decide) trivial ?_
        refine wpF_end (r := [(1, (.int .i64 p1)), (2, (.int .i64 p2)), (9, u0), (10, (.int .i64 (p0.length : Int))), (11, (.int .i64 (i3 + 1)))]) ⟨rfl, rfl, rfl, rfl, rfl, trivial⟩ ?_
        refine nt_norm ?_
        have e27 := Option.some.inj b10
        subst e27
        refine to_k (r := [(1, (.int .i64 p1)), (2, (.int .i64 p2)), (9, u0), (10, (.int .i64 (p0.length : Int))), (11, (.int .i64 (i3 + 1)))]) ⟨rfl, rfl, rfl, rfl, rfl, trivial⟩ ?_
        intro a ha
        exact ⟨_, (by rw [← m7]; simp only [List.length_drop]; omega), i3 + 1, o1, n11, rfl, (by omega), ha, hB⟩
    · have r28 := forI_done t12 l5
      refine wp_of ha ?_
      refine wpC_seq ?_
      refine wpC_region ?_
      refine st_val (ex_lss rfl rfl) (by decide) trivial ?_
      refine wpF_end (r := [(1, (.int .i64 p1)), (2, (.int .i64 p2)), (9, u0), (10, (.int .i64 (p0.length : Int))), (11, (.int .i64 i3)), (12, (.bool (decide (i3 < (p0.length : Int)))))]) ⟨rfl, rfl, rfl, rfl, rfl, rfl, trivial⟩ ?_
      refine nx ?_
      refine wpC_seq ?_
      refine wpC_false (congrArg (fun b => some (Value.bool b)) (decide_eq_false t12)) ?_
      refine wpC_exit ?_
      refine nt_exit ?_
      refine nt_exit ?_
      refine nb_hit ?_
      refine np_norm ?_
      refine to_k (r := []) trivial ?_
      intro a ha
      exact ⟨o1, r28, ha, hB⟩
  · rintro a w2 ⟨o1, rfl, ha, hB⟩
    dsimp only at hF
    refine ap_k ha ?_
    refine nx ?_
    refine wpC_seq ?_
    refine wpC_region ?_
    refine st_val (ex_assign rfl) (by decide) trivial ?_
    refine wpF_end (r := [(6, (.bool true))]) ⟨rfl, trivial⟩ ?_
    refine nx ?_
    refine wpC_ret ?_
    have e29 := Option.some.inj hF
    subst e29
    refine ret_post (P := Try.prog) (vs := [(.bool true)]) Try.results100 ⟨rfl, trivial⟩ ?_
    exact ⟨rfl, hB.keeps⟩
  · rintro a w2 ⟨r', rfl, b30⟩
    dsimp only at hF
    have e31 := Option.some.inj hF
    subst e31
    exact b30

def fS_l1Put_s1 (p0 : List Int) (p1 : Int) : Int → Option (Lp Int Int (List Int)) := fun (s : Int) =>
  (
    if decide (s < (p0.length : Int)) then
      (ix p0 s) >>= fun x18 =>
      some (decide (x18 < p1))
    else
      some false) >>= fun q14 =>
  if q14 then
    (ck (s + 1)) >>= fun x28 =>
    some (.go x28)
  else
    some (.out s)
def fS_l1Put (fuel : Nat) (p0 : List Int) (p1 : Int) : Option (List Int) :=
  (loopF (fS_l1Put_s1 p0 p1) fuel 0) >>= fun q4 =>
  match q4 with
  | .inl y1 =>
    (
      if decide (y1 < (p0.length : Int)) then
        (ix p0 y1) >>= fun x35 =>
        some (x35 == p1)
      else
        some false) >>= fun q31 =>
    if q31 then
      some p0
    else
      (cut p0 0 y1) >>= fun x51 =>
      (cat ([] : List Int) x51) >>= fun x54 =>
      (push x54 p1) >>= fun x66 =>
      (cut p0 y1 p0.length) >>= fun x72 =>
      (cat x66 x72) >>= fun x75 =>
      some x75
  | .inr _ => none

def pS_l1Put (oo : Tg) (t : Nat) (w : World) (r : List Int) : Ending → World → Prop := fun e w' => ∃ (v0 : Value) (o' : Tg), e = .returned (v0) ∧ Of 3 o' w' v0 r ∧ Keeps w w' ∧ ∀ b, b < w.heap.size → o' b = oo b
set_option maxRecDepth 100000 in
set_option maxHeartbeats 2000000 in
theorem cS_l1Put (fuel : Nat) (w : World) (oo : Tg) (t : Nat) (ht : 2 ≤ t) (u0 : Value) (p0 : List Int) (g0 : Of 3 oo w u0 p0) (p1 : Int) (r : List Int) (hF : fS_l1Put fuel p0 p1 = some r) :
    Calls Try.prog 120 #[u0, .int .i64 p1] w (pS_l1Put oo t w r) := by
  unfold fS_l1Put at hF
  replace g0 := g0.col
  have g0r := g0.rd
  have hB : Bs oo (col oo) w w := Bs.start _ _
  refine calls_start (n := 48) (vs := [u0, (.int .i64 p1)]) Try.func120 rfl rfl ?_
  generalize col oo = o at *
  refine wpC_seq ?_
  refine wpC_region ?_
  refine st_val (ex_assign rfl) (by decide) trivial ?_
  refine wpF_end (r := [(0, u0), (1, (.int .i64 p1))]) ⟨rfl, rfl, trivial⟩ ?_
  refine nx ?_
  refine wpC_seq ?_
  refine wpC_region ?_
  refine st_val (ex_assign rfl) (by decide) trivial ?_
  refine wpF_end (r := [(0, u0), (1, (.int .i64 p1)), (5, (.int .i64 0))]) ⟨rfl, rfl, rfl, trivial⟩ ?_
  refine nx ?_
  obtain ⟨q4, hq4, hF⟩ := bind_some hF
  refine wpC_cutP (fun a w3 => ∃ (y1 : Int) (o2 : Tg), q4 = .inl y1 ∧ Fr a 48 [(0, u0), (1, (.int .i64 p1)), (5, (.int .i64 y1))] ∧ Bs oo o2 w w3 ∧ RdL o2 w3 u0 p0 ∧ Of 3 o2 w3 u0 p0) (fun _ _ => False) ?_ ?_ ?_
  · refine wpC_block ?_
    refine wpC_loop (fun (K : Nat) a w3 => ∃ (y1 : Int) (o2 : Tg), loopF (fS_l1Put_s1 p0 p1) K y1 = some q4 ∧ Fr a 48 [(0, u0), (1, (.int .i64 p1)), (5, (.int .i64 y1))] ∧ Bs oo o2 w w3 ∧ RdL o2 w3 u0 p0 ∧ Of 3 o2 w3 u0 p0) fuel (fun a ha => ⟨0, o, hq4, ha.sub (r := [(0, u0), (1, (.int .i64 p1)), (5, (.int .i64 0))]) ⟨rfl, rfl, rfl, trivial⟩, hB, g0r, g0⟩) ?_
    rintro K8 a w3 ⟨y1, o2, l5, ha, hB, g0r, g0⟩
    obtain ⟨K12, q9, e13, b10, n11⟩ := loopF_cons l5
    dsimp only [fS_l1Put_s1] at b10
    refine wp_of ha ?_
    refine wpC_seq ?_
    refine wpC_seq ?_
    refine wpC_region ?_
    refine st_val (ex_move rfl) (by decide) trivial ?_
    refine st_val (ex_move rfl) (by decide) trivial ?_
    refine st_val (ex_lenR rfl g0r Try.underlying23) (by decide) trivial ?_
    refine st_val (ex_lss rfl rfl) (by decide) trivial ?_
    refine st_val (ex_move rfl) (by decide) trivial ?_
    obtain ⟨q14, hq14, b10⟩ := bind_some b10
    refine wpF_cutAt 7 (fun a16 w15 => Fr a16 48 [(0, u0), (1, (.int .i64 p1)), (5, (.int .i64 y1)), (18, (.bool q14))] ∧ Keeps w3 w15) ?_ ?_
    all_goals simp only [List.take_succ_cons, List.take_zero, List.drop_succ_cons, List.drop_zero]
    · have kp : Keeps w3 w3 := Keeps.refl _
      rcases Bool.eq_false_or_eq_true (decide (y1 < (p0.length : Int))) with t17 | t17
      · rw [if_pos t17] at hq14
        refine st_val (ex_move rfl) (by decide) ⟨_, rfl, (congrArg (fun b => some (Value.bool b)) t17)⟩ ?_
        refine st_val (ex_move rfl) (by decide) ⟨_, rfl, (congrArg (fun b => some (Value.bool b)) t17)⟩ ?_
        obtain ⟨x18, hx18, hq14⟩ := bind_some hq14
        refine st_op (by decide) ⟨_, rfl, (congrArg (fun b => some (Value.bool b)) t17)⟩ ?_
        refine wf_atO g0r hx18 rfl rfl Try.underlying23 Try.sizeOf3 ?_
        intro b19 f20 c21 h22 h23
        cases h23
        refine st_val (ex_load1 rfl Try.isAgg3 (cell_of_cells h22)) (by decide) ⟨_, rfl, (congrArg (fun b => some (Value.bool b)) t17)⟩ ?_
        refine st_val (ex_move rfl) (by decide) ⟨_, rfl, (congrArg (fun b => some (Value.bool b)) t17)⟩ ?_
        refine st_val (ex_lss rfl rfl) (by decide) ⟨_, rfl, (congrArg (fun b => some (Value.bool b)) t17)⟩ ?_
        refine st_val (ex_pick_t (congrArg (fun b => some (Value.bool b)) t17) rfl) (by decide) trivial ?_
        have hq142 := Option.some.inj hq14
        refine wpF_end (r := [(0, u0), (1, (.int .i64 p1)), (5, (.int .i64 y1)), (18, (.bool (decide (x18 < p1))))]) ⟨rfl, rfl, rfl, rfl, trivial⟩ ?_
        subst hq142
        refine np_norm (fun a ha => ⟨ha, kp⟩)
      · rw [if_neg (by rw [t17]; decide)] at hq14
        refine st_no rfl rfl (by rw [t17]; rfl) (by decide) ?_
        refine st_no rfl rfl (by rw [t17]; rfl) (by decide) ?_
        refine st_no rfl rfl (by rw [t17]; rfl) (by decide) ?_
        refine st_no rfl rfl (by rw [t17]; rfl) (by decide) ?_
        refine st_no rfl rfl (by rw [t17]; rfl) (by decide) ?_
        refine st_no rfl rfl (by rw [t17]; rfl) (by decide) ?_
        refine st_val (ex_pick_f (congrArg (fun b => some (Value.bool b)) t17) rfl) (by decide) trivial ?_
        have hq142 := Option.some.inj hq14
        refine wpF_end (r := [(0, u0), (1, (.int .i64 p1)), (5, (.int .i64 y1)), (18, (.bool false))]) ⟨rfl, rfl, rfl, rfl, trivial⟩ ?_
        subst hq142
        refine np_norm (fun a ha => ⟨ha, kp⟩)
    rintro a26 w15 ⟨ha, k24⟩
    have s25 := k24.stp 999 o2
    replace g0r := g0r.stp s25 (by decide)
    replace g0 := g0.stp s25 (by decide)
    replace hB := hB.stp s25 (by decide)
    refine wl_of ha ?_
    refine wpF_end (r := [(0, u0), (1, (.int .i64 p1)), (5, (.int .i64 y1)), (18, (.bool q14))]) ⟨rfl, rfl, rfl, rfl, trivial⟩ ?_
    refine nx ?_
    refine wpC_cond rfl (fun t27 => ?_) (fun t27 => ?_)
    · rw [if_pos t27] at b10
      refine wpC_skip ?_
      refine nx ?_
      refine wpC_block ?_
      refine wpC_region ?_
      refine st_val (ex_move rfl) (by decide) trivial ?_
      obtain ⟨x28, hx28, b10⟩ := bind_some b10
      refine st_val (ex_add rfl rfl hx28) (by decide) trivial ?_
      refine st_val (ex_assign rfl) (by decide) trivial ?_
      refine wpF_end (r := [(0, u0), (1, (.int .i64 p1)), (5, (.int .i64 x28))]) ⟨rfl, rfl, rfl, trivial⟩ ?_
      refine nb_norm ?_
      refine nt_norm ?_
      have e29 := Option.some.inj b10
      subst e29
      refine to_k (r := [(0, u0), (1, (.int .i64 p1)), (5, (.int .i64 x28))]) ⟨rfl, rfl, rfl, trivial⟩ ?_
      intro a ha
      exact ⟨K12, by omega, x28, o2, n11, ha, hB, g0r, g0⟩
    · rw [if_neg (by rw [t27]; decide)] at b10
      refine wpC_exit ?_
      refine nt_exit ?_
      refine nt_exit ?_
      refine nb_hit ?_
      refine np_norm ?_
      have e30 := Option.some.inj b10
      subst e30
      refine to_k (r := [(0, u0), (1, (.int .i64 p1)), (5, (.int .i64 y1))]) ⟨rfl, rfl, rfl, trivial⟩ ?_
      intro a ha
      exact ⟨y1, o2, n11, ha, hB, g0r, g0⟩
  · rintro a w3 ⟨y1, o2, rfl, ha, hB, g0r, g0⟩
    dsimp only at hF
    refine wp_of ha ?_
    refine wpC_seq ?_
    refine wpC_seq ?_
    refine wpC_region ?_
    refine st_val (ex_move rfl) (by decide) trivial ?_
    refine st_val (ex_move rfl) (by decide) trivial ?_
    refine st_val (ex_lenR rfl g0r Try.underlying23) (by decide) trivial ?_
    refine st_val (ex_lss rfl rfl) (by decide) trivial ?_
    refine st_val (ex_move rfl) (by decide) trivial ?_
    obtain ⟨q31, hq31, hF⟩ := bind_some hF
    refine wpF_cutAt 7 (fun a33 w32 => Fr a33 48 [(0, u0), (1, (.int .i64 p1)), (5, (.int .i64 y1)), (32, (.bool q31))] ∧ Keeps w3 w32) ?_ ?_
    all_goals simp only [List.take_succ_cons, List.take_zero, List.drop_succ_cons, List.drop_zero]
    · have kp : Keeps w3 w3 := Keeps.refl _
      rcases Bool.eq_false_or_eq_true (decide (y1 < (p0.length : Int))) with t34 | t34
      · rw [if_pos t34] at hq31
        refine st_val (ex_move rfl) (by decide) ⟨_, rfl, (congrArg (fun b => some (Value.bool b)) t34)⟩ ?_
        refine st_val (ex_move rfl) (by decide) ⟨_, rfl, (congrArg (fun b => some (Value.bool b)) t34)⟩ ?_
        obtain ⟨x35, hx35, hq31⟩ := bind_some hq31
        refine st_op (by decide) ⟨_, rfl, (congrArg (fun b => some (Value.bool b)) t34)⟩ ?_
        refine wf_atO g0r hx35 rfl rfl Try.underlying23 Try.sizeOf3 ?_
        intro b36 f37 c38 h39 h40
        cases h40
        refine st_val (ex_load1 rfl Try.isAgg3 (cell_of_cells h39)) (by decide) ⟨_, rfl, (congrArg (fun b => some (Value.bool b)) t34)⟩ ?_
        refine st_val (ex_move rfl) (by decide) ⟨_, rfl, (congrArg (fun b => some (Value.bool b)) t34)⟩ ?_
        refine st_val (ex_eql rfl rfl) (by decide) ⟨_, rfl, (congrArg (fun b => some (Value.bool b)) t34)⟩ ?_
        refine st_val (ex_pick_t (congrArg (fun b => some (Value.bool b)) t34) rfl) (by decide) trivial ?_
        have hq312 := Option.some.inj hq31
        refine wpF_end (r := [(0, u0), (1, (.int .i64 p1)), (5, (.int .i64 y1)), (32, (.bool (x35 == p1)))]) ⟨rfl, rfl, rfl, rfl, trivial⟩ ?_
        subst hq312
        refine np_norm (fun a ha => ⟨ha, kp⟩)
      · rw [if_neg (by rw [t34]; decide)] at hq31
        refine st_no rfl rfl (by rw [t34]; rfl) (by decide) ?_
        refine st_no rfl rfl (by rw [t34]; rfl) (by decide) ?_
        refine st_no rfl rfl (by rw [t34]; rfl) (by decide) ?_
        refine st_no rfl rfl (by rw [t34]; rfl) (by decide) ?_
        refine st_no rfl rfl (by rw [t34]; rfl) (by decide) ?_
        refine st_no rfl rfl (by rw [t34]; rfl) (by decide) ?_
        refine st_val (ex_pick_f (congrArg (fun b => some (Value.bool b)) t34) rfl) (by decide) trivial ?_
        have hq312 := Option.some.inj hq31
        refine wpF_end (r := [(0, u0), (1, (.int .i64 p1)), (5, (.int .i64 y1)), (32, (.bool false))]) ⟨rfl, rfl, rfl, rfl, trivial⟩ ?_
        subst hq312
        refine np_norm (fun a ha => ⟨ha, kp⟩)
    rintro a43 w32 ⟨ha, k41⟩
    have s42 := k41.stp 999 o2
    replace g0r := g0r.stp s42 (by decide)
    replace g0 := g0.stp s42 (by decide)
    replace hB := hB.stp s42 (by decide)
    refine wl_of ha ?_
    refine wpF_end (r := [(0, u0), (1, (.int .i64 p1)), (5, (.int .i64 y1)), (32, (.bool q31))]) ⟨rfl, rfl, rfl, rfl, trivial⟩ ?_
    refine nx ?_
    refine wpC_cond rfl (fun t44 => ?_) (fun t44 => ?_)
    · rw [if_pos t44] at hF
      refine wpC_seq ?_
      refine wpC_region ?_
      refine st_val (ex_move rfl) (by decide) trivial ?_
      refine st_val (ex_assign rfl) (by decide) trivial ?_
      refine wpF_end (r := [(4, u0)]) ⟨rfl, trivial⟩ ?_
      refine nx ?_
      refine wpC_ret ?_
      refine nt_ret ?_
      have e45 := Option.some.inj hF
      subst e45
      refine ret_post (P := Try.prog) (vs := [u0]) Try.results120 ⟨rfl, trivial⟩ ?_
      exact ⟨_, rt oo o2 w.heap.size 9 t, rfl, g0.rt hB 9 t (by decide), hB.keeps, rt_old _ _ _ _ _⟩
    · rw [if_neg (by rw [t44]; decide)] at hF
      refine wpC_skip ?_
      refine nx ?_
      refine wpC_seq ?_
      refine wpC_region ?_
      refine st_op (by decide) trivial ?_
      refine wf_litW w.heap.size 11 hB.keeps.size (o := o2) (cs := []) (xs := ([] : List Int)) (vs := []) rfl rfl trivial Try.underlying23 Try.sizeOf3 Try.zeroValue3 (by decide) fill0 (by simp) ?_
      intro o46 w47 v48 h49 s50
      replace g0r := g0r.stp s50 (by decide)
      replace g0 := g0.stp s50 (by decide)
      replace hB := hB.stp s50 (by decide)
      refine st_val (ex_move rfl) (by decide) trivial ?_
      refine st_val (ex_move rfl) (by decide) trivial ?_
      obtain ⟨x51, hx51, hF⟩ := bind_some hF
      refine st_op (by decide) trivial ?_
      refine wf_cutO g0r hx51 rfl rfl rfl Try.underlying23 Try.sizeOf3 ?_
      intro v52 h53
      obtain ⟨x54, hx54, hF⟩ := bind_some hF
      refine st_op (by decide) trivial ?_
      refine wf_cat h49 h53 hx54 (by decide) hB.keeps.size rfl rfl Try.underlying23 info2_t_int_A rfl (by decide) ?_
      intro o55 w56 v57 h58 s59
      replace g0r := g0r.stp s59 (by decide)
      replace g0 := g0.stp s59 (by decide)
      replace h53 := h53.stp s59 (by decide)
      replace hB := hB.stp s59 (by decide)
      refine st_val (ex_assign rfl) (by decide) trivial ?_
      refine wpF_end (r := [(0, u0), (1, (.int .i64 p1)), (5, (.int .i64 y1)), (6, v57)]) ⟨rfl, rfl, rfl, rfl, trivial⟩ ?_
      refine nx ?_
      refine wpC_seq ?_
      refine wpC_region ?_
      refine st_val (ex_move rfl) (by decide) trivial ?_
      refine st_val (ex_move rfl) (by decide) trivial ?_
      refine st_op (by decide) trivial ?_
      refine wf_litR (o := o55) (cs := [(.int .i64 p1)]) (xs := ([p1] : List Int)) (vs := [(0, (.int .i64 p1))]) ⟨_, _, rfl, rfl, rfl⟩ rfl ⟨rfl, rfl, trivial⟩ Try.underlying23 Try.sizeOf3 Try.zeroValue3 (by decide) (fill1 rfl) (by simp) ?_
      intro o60 w61 v62 h63 s64 k65
      replace g0r := g0r.stp s64 (by decide)
      replace g0 := g0.stp s64 (by decide)
      replace h58 := h58.stp s64 (by decide) (by decide)
      replace hB := hB.stp s64 (by decide)
      obtain ⟨x66, hx66, hF⟩ := bind_some hF
      refine st_op (by decide) trivial ?_
      refine wf_cat h58 h63 (push_cat hx66) (by decide) hB.keeps.size rfl rfl Try.underlying23 info2_t_int_A rfl (by decide) ?_
      intro o67 w68 v69 h70 s71
      replace g0r := g0r.stp s71 (by decide)
      replace g0 := g0.stp s71 (by decide)
      replace h63 := h63.stp s71 (by decide)
      replace hB := hB.stp s71 (by decide)
      refine st_val (ex_assign rfl) (by decide) trivial ?_
      refine wpF_end (r := [(0, u0), (5, (.int .i64 y1)), (6, v69)]) ⟨rfl, rfl, rfl, trivial⟩ ?_
      refine nx ?_
      refine wpC_seq ?_
      refine wpC_region ?_
      refine st_val (ex_move rfl) (by decide) trivial ?_
      refine st_val (ex_move rfl) (by decide) trivial ?_
      refine st_val (ex_move rfl) (by decide) trivial ?_
      obtain ⟨x72, hx72, hF⟩ := bind_some hF
      refine st_op (by decide) trivial ?_
      refine wf_cutO g0r hx72 rfl rfl rfl Try.underlying23 Try.sizeOf3 ?_
      intro v73 h74
      obtain ⟨x75, hx75, hF⟩ := bind_some hF
      refine st_op (by decide) trivial ?_
      refine wf_cat h70 h74 hx75 (by decide) hB.keeps.size rfl rfl Try.underlying23 info2_t_int_A rfl (by decide) ?_
      intro o76 w77 v78 h79 s80
      replace g0r := g0r.stp s80 (by decide)
      replace g0 := g0.stp s80 (by decide)
      replace h74 := h74.stp s80 (by decide)
      replace hB := hB.stp s80 (by decide)
      refine st_val (ex_assign rfl) (by decide) trivial ?_
      refine wpF_end (r := [(4, v78)]) ⟨rfl, trivial⟩ ?_
      refine nx ?_
      refine wpC_ret ?_
      have h81 := h79.frzF
      replace h79 := h79.frz
      replace hB := hB.frz 11 (by decide)
      generalize (frz 11 o76) = o82 at *
      have e83 := Option.some.inj hF
      subst e83
      refine ret_post (P := Try.prog) (vs := [v78]) Try.results120 ⟨rfl, trivial⟩ ?_
      exact ⟨_, rt oo o82 w.heap.size 9 t, rfl, h81.rt hB 9 t (by decide), hB.keeps, rt_old _ _ _ _ _⟩
  · exact fun _ _ h => h.elim

def fS_l1Own (p0 : List Int) : Option (List Int) :=
  (cat ([] : List Int) p0) >>= fun x6 =>
  some x6

def fS_l1Sign (p0 : Int) : Option Int :=
  if decide (p0 > 0) then
    some 1
  else
    if decide (p0 < 0) then
      some (-1)
    else
      some 0

def fS_l1Rising_s1 (p0 : List Int) (p1 : Int) (p2 : Int) : Int → Int → Unit → Option (Lp Unit Unit Bool) := fun (i3 : Int) (x13 : Int) (s : Unit) =>
  (fS_l1In x13 p1 p2) >>= fun x19 =>
  (
    if !x19 then
      some true
    else
      if decide (i3 > 0) then
        (ck (i3 - 1)) >>= fun x30 =>
        (ix p0 x30) >>= fun x31 =>
        some (decide (x31 ≥ x13))
      else
        some false) >>= fun q25 =>
  if q25 then
    some (.ret false)
  else
    some (.go ())
def fS_l1Rising (p0 : List Int) (p1 : Int) (p2 : Int) : Option Bool :=
  (forI (fS_l1Rising_s1 p0 p1 p2) p0 0 ()) >>= fun q4 =>
  match q4 with
  | .inl _ =>
    some true
  | .inr r' => some r'

def fS_l1Same_s1 (p0 : List Int) (p1 : List Int) : Int → Unit → Option (Lp Unit Unit Bool) := fun (i5 : Int) (s : Unit) =>
  (ix p0 i5) >>= fun x17 =>
  (ix p1 i5) >>= fun x20 =>
  if x17 != x20 then
    some (.ret false)
  else
    some (.go ())
def fS_l1Same (p0 : List Int) (p1 : List Int) : Option Bool :=
  if (p0.length : Int) != (p1.length : Int) then
    some false
  else
    ck (p0.length : Int) >>= fun _ =>
    (forN (fS_l1Same_s1 p0 p1) ((p0.length : Int)).toNat 0 ()) >>= fun q6 =>
    match q6 with
    | .inl _ =>
      some true
    | .inr r' => some r'

def pS_l1Same (w : World) (r : Bool) : Ending → World → Prop := fun e w' => e = .returned (.bool r) ∧ Keeps w w'
set_option maxRecDepth 100000 in
set_option maxHeartbeats 2000000 in
theorem cS_l1Same (w : World) (u0 : Value) (p0 : List Int) (g0 : RdL zt w u0 p0) (u1 : Value) (p1 : List Int) (g1 : RdL zt w u1 p1) (r : Bool) (hF : fS_l1Same p0 p1 = some r) :
    Calls Try.prog 56 #[u0, u1] w (pS_l1Same w r) := by
  unfold fS_l1Same at hF
  have hB : Bs (fun _ => 1) (col (fun _ => 1)) w w := Bs.start _ _
  refine calls_start (n := 26) (vs := [u0, u1]) Try.func56 rfl rfl ?_
  refine wpC_seq ?_
  refine wpC_region ?_
  refine st_val (ex_assign rfl) (by decide) trivial ?_
  refine wpF_end (r := [(0, u0), (1, u1)]) ⟨rfl, rfl, trivial⟩ ?_
  refine nx ?_
  refine wpC_seq ?_
  refine wpC_seq ?_
  refine wpC_region ?_
  refine st_val (ex_move rfl) (by decide) trivial ?_
  refine st_val (ex_lenR rfl g0 Try.underlying23) (by decide) trivial ?_
  refine st_val (ex_move rfl) (by decide) trivial ?_
  refine st_val (ex_lenR rfl g1 Try.underlying23) (by decide) trivial ?_
  refine st_val (ex_neq rfl rfl) (by decide) trivial ?_
  refine wpF_end (r := [(0, u0), (1, u1), (10, (.bool ((p0.length : Int) != (p1.length : Int))))]) ⟨rfl, rfl, rfl, trivial⟩ ?_
  refine nx ?_
  refine wpC_cond rfl (fun t1 => ?_) (fun t1 => ?_)
  · rw [if_pos t1] at hF
    refine wpC_seq ?_
    refine wpC_region ?_
    refine st_val (ex_assign rfl) (by decide) trivial ?_
    refine wpF_end (r := [(4, (.bool false))]) ⟨rfl, trivial⟩ ?_
    refine nx ?_
    refine wpC_ret ?_
    refine nt_ret ?_
    have e2 := Option.some.inj hF
    subst e2
    refine ret_post (P := Try.prog) (vs := [(.bool false)]) Try.results56 ⟨rfl, trivial⟩ ?_
    exact ⟨rfl, hB.keeps⟩
  · rw [if_neg (by rw [t1]; decide)] at hF
    refine wpC_skip ?_
    refine nx ?_
    refine wpC_seq ?_
    refine wpC_seq ?_
    refine wpC_region ?_
    refine st_val (ex_move rfl) (by decide) trivial ?_
    refine st_val (ex_lenR rfl g0 Try.underlying23) (by decide) trivial ?_
    refine st_val (ex_move rfl) (by decide) trivial ?_
    refine wpF_end (r := [(0, u0), (1, u1), (12, (.int .i64 (p0.length : Int))), (13, (.int .i64 0))]) ⟨rfl, rfl, rfl, rfl, trivial⟩ ?_
    refine nx ?_
    obtain ⟨u8, h7, hF⟩ := bind_some hF
    obtain ⟨-, h7a, h7b⟩ := ck_some h7
    obtain ⟨q6, hq6, hF⟩ := bind_some hF
    refine wpC_cutN (fun a w4 => ∃ (o3 : Tg), q6 = .inl () ∧ Fr a 26 [] ∧ Bs (fun _ => 1) o3 w w4) (fun a w' => ∃ r', q6 = .inr r' ∧ bodyPost Try.prog Try.f56 (pS_l1Same w r') .ret a w') ?_ ?_ ?_
    · refine wpC_block ?_
      refine wpC_loop (fun (K : Nat) a w4 => ∃ (i5 : Int) (o3 : Tg), forN (fS_l1Same_s1 p0 p1) ((p0.length : Int) - i5).toNat i5 () = some q6 ∧ ((p0.length : Int) - i5).toNat = K ∧ 0 ≤ i5 ∧ Fr a 26 [(0, u0), (1, u1), (12, (.int .i64 (p0.length : Int))), (13, (.int .i64 i5))] ∧ Bs (fun _ => 1) o3 w w4) _ (fun a ha => ⟨0, (col (fun _ => 1)), hq6, rfl, Int.le_refl 0, ha.sub (r := [(0, u0), (1, u1), (12, (.int .i64 (p0.length : Int))), (13, (.int .i64 0))]) ⟨rfl, rfl, rfl, rfl, trivial⟩, hB⟩) ?_
      rintro K12 a w4 ⟨i5, o3, l9, m11, z10, ha, hB⟩
      by_cases t16 : i5 < (p0.length : Int)
      · obtain ⟨q13, b14, n15⟩ := forN_cons t16 l9
        dsimp only [fS_l1Same_s1] at b14
        refine wp_of ha ?_
        refine wpC_seq ?_
        refine wpC_region ?_
        refine st_val (ex_lss rfl rfl) (by decide) trivial ?_
        refine wpF_end (r := [(0, u0), (1, u1), (12, (.int .i64 (p0.length : Int))), (13, (.int .i64 i5)), (14, (.bool (decide (i5 < (p0.length : Int)))))]) ⟨rfl, rfl, rfl, rfl, rfl, trivial⟩ ?_
        refine nx ?_
        refine wpC_seq ?_
        refine wpC_true (congrArg (fun b => some (Value.bool b)) (decide_eq_true t16)) ?_
        refine wpC_skip ?_
        refine nx ?_
        refine wpC_seq ?_
        refine wpC_block ?_
        refine wpC_seq ?_
        refine wpC_region ?_
        refine st_val (ex_move rfl) (by decide) trivial ?_
        refine st_val (ex_assign rfl) (by decide) trivial ?_
        refine wpF_end (r := [(0, u0), (1, u1), (5, (.int .i64 i5)), (12, (.int .i64 (p0.length : Int))), (13, (.int .i64 i5))]) ⟨rfl, rfl, rfl, rfl, rfl, trivial⟩ ?_
        refine nx ?_
        refine wpC_seq ?_
        obtain ⟨x17, hx17, b14⟩ := bind_some b14
        obtain ⟨x20, hx20, b14⟩ := bind_some b14
        refine wpC_drawn (o := o3) [(0, u0), (1, u1), (5, (.int .i64 i5)), (12, (.int .i64 (p0.length : Int))), (13, (.int .i64 i5))] [0, 1, 5, 12, 13] [16, 17, 18, 19, 20, 21, 22, 23] [[], [], [0, 1], [2], [], [], [4, 5], [6]] [none, none, none, none, none, none, none, none] [999, 999, 999, 999, 999, 999, 999, 999] [0, 0, 0, 0, 0, 0, 0, 0] [999] [fun v _ _ => v = u0, fun v _ _ => v = (.int .i64 i5), fun v o w9 => ∃ vl, v = adr vl (i5.toNat * Rp.sz Int) ∧ RdL zt w vl p0, fun v _ _ => v = (.int .i64 x17), fun v _ _ => v = u1, fun v _ _ => v = (.int .i64 i5), fun v o w9 => ∃ vl, v = adr vl (i5.toNat * Rp.sz Int) ∧ RdL zt w vl p1, fun v _ _ => v = (.int .i64 x20)] (fun o8 w8 => Bs (fun _ => 1) o8 w w8) follows_mixed (by kernel_rfl) rfl ⟨rfl, rfl, rfl, rfl, rfl, trivial⟩ hB ?_ ⟨st_eq _, st_eq _, fun _ _ _ _ _ _ h0 hb ⟨vl, e, h⟩ hs => ⟨vl, e, h⟩, st_eq _, st_eq _, st_eq _, fun _ _ _ _ _ _ h0 hb ⟨vl, e, h⟩ hs => ⟨vl, e, h⟩, st_eq _, trivial⟩ ?_ ?_
        · rintro t9 o1 w1 o2 w2 ht9 hB hs9
          have ht9 : t9 = 999 := by simpa using ht9
          subst ht9
          all_goals exact hB.stp hs9 (by decide)
        · refine ⟨?_, ?_, ?_, ?_, ?_, ?_, ?_, ?_, trivial⟩
          · rintro o23 w24 a25 ha hB -
            refine opS_of ha (trivial) ?_
            refine op1_val (ex_move rfl) ?_
            exact ⟨_, Stp.refl _ _ _, rfl⟩
          · rintro o26 w27 a28 ha hB -
            refine opS_of ha (trivial) ?_
            refine op1_val (ex_move rfl) ?_
            exact ⟨_, Stp.refl _ _ _, rfl⟩
          · rintro o29 w30 a31 ha hB ⟨r32, r33, -⟩
            have ha := Fr.cons (d := 16) ha r32
            have ha := Fr.cons (d := 17) ha r33
            refine opS_of ha (trivial) ?_
            refine wd_indexR g0 hx17 rfl rfl Try.underlying23 Try.sizeOf3 ?_
            exact ⟨_, Stp.refl _ _ _, ⟨_, rfl, g0⟩⟩
          · rintro o34 w35 a36 ha hB ⟨r37, -⟩
            obtain ⟨v38, e39, h40⟩ := r37
            have ha := Fr.cons (d := 18) ha e39
            refine opS_of ha (trivial) ?_
            refine wd_load1Z h40 hx17 hB rfl rfl Try.isAgg3 ?_
            intro c41 h42
            cases h42
            exact ⟨_, Stp.refl _ _ _, rfl⟩
          · rintro o43 w44 a45 ha hB -
            refine opS_of ha (trivial) ?_
            refine op1_val (ex_move rfl) ?_
            exact ⟨_, Stp.refl _ _ _, rfl⟩
          · rintro o46 w47 a48 ha hB -
            refine opS_of ha (trivial) ?_
            refine op1_val (ex_move rfl) ?_
            exact ⟨_, Stp.refl _ _ _, rfl⟩
          · rintro o49 w50 a51 ha hB ⟨r52, r53, -⟩
            have ha := Fr.cons (d := 20) ha r52
            have ha := Fr.cons (d := 21) ha r53
            refine opS_of ha (trivial) ?_
            refine wd_indexR g1 hx20 rfl rfl Try.underlying23 Try.sizeOf3 ?_
            exact ⟨_, Stp.refl _ _ _, ⟨_, rfl, g1⟩⟩
          · rintro o54 w55 a56 ha hB ⟨r57, -⟩
            obtain ⟨v58, e59, h60⟩ := r57
            have ha := Fr.cons (d := 22) ha e59
            refine opS_of ha (trivial) ?_
            refine wd_load1Z h60 hx20 hB rfl rfl Try.isAgg3 ?_
            intro c61 h62
            cases h62
            exact ⟨_, Stp.refl _ _ _, rfl⟩
        rintro o63 w64 a65 ha hB ⟨-, -, -, r66, -, -, -, r67, -⟩
        have ha := Fr.cons (d := 19) ha r66
        have ha := Fr.cons (d := 23) ha r67
        refine wl_of ha ?_
        simp only [List.length_cons, List.length_nil, Nat.zero_add, Nat.reduceAdd, List.drop_succ_cons, List.drop_zero]
        refine st_val (ex_neq rfl rfl) (by decide) trivial ?_
        refine wpF_end (r := [(0, u0), (1, u1), (12, (.int .i64 (p0.length : Int))), (13, (.int .i64 i5)), (24, (.bool (x17 != x20)))]) ⟨rfl, rfl, rfl, rfl, rfl, trivial⟩ ?_
        refine nx ?_
        refine wpC_cond rfl (fun t68 => ?_) (fun t68 => ?_)
        · rw [if_pos t68] at b14
          refine wpC_seq ?_
          refine wpC_region ?_
          refine st_val (ex_assign rfl) (by decide) trivial ?_
          refine wpF_end (r := [(4, (.bool false))]) ⟨rfl, trivial⟩ ?_
          refine nx ?_
          refine wpC_ret ?_
          refine nb_ret ?_
          refine nt_ret ?_
          refine nt_ret ?_
          refine nb_ret ?_
          refine np_ret ?_
          have e69 := Option.some.inj b14
          subst e69
          refine fun a ha => ⟨_, n15, ?_⟩
          refine ret_post (P := Try.prog) (vs := [(.bool false)]) Try.results56 ⟨rfl, trivial⟩ ?_ a ha
          exact ⟨rfl, hB.keeps⟩
        · rw [if_neg (by rw [t68]; decide)] at b14
          refine wpC_skip ?_
          refine nb_norm ?_
          refine nx ?_
          refine wpC_region ?_
          refine st_val (ex_add rfl rfl (ck_in (by omega) (by omega))) (by decide) trivial ?_
          refine st_val (ex_move rfl) (by decide) trivial ?_
          refine wpF_end (r := [(0, u0), (1, u1), (12, (.int .i64 (p0.length : Int))), (13, (.int .i64 (i5 + 1)))]) ⟨rfl, rfl, rfl, rfl, trivial⟩ ?_
          refine nt_norm ?_
          have e70 := Option.some.inj b14
          subst e70
          refine to_k (r := [(0, u0), (1, u1), (12, (.int .i64 (p0.length : Int))), (13, (.int .i64 (i5 + 1)))]) ⟨rfl, rfl, rfl, rfl, trivial⟩ ?_
          intro a ha
          exact ⟨_, (by rw [← m11]; omega), i5 + 1, o63, n15, rfl, (by omega), ha, hB⟩
      · have r71 := forN_done t16 l9
        refine wp_of ha ?_
        refine wpC_seq ?_
        refine wpC_region ?_
        refine st_val (ex_lss rfl rfl) (by decide) trivial ?_
        refine wpF_end (r := [(0, u0), (1, u1), (12, (.int .i64 (p0.length : Int))), (13, (.int .i64 i5)), (14, (.bool (decide (i5 < (p0.length : Int)))))]) ⟨rfl, rfl, rfl, rfl, rfl, trivial⟩ ?_
        refine nx ?_
        refine wpC_seq ?_
        refine wpC_false (congrArg (fun b => some (Value.bool b)) (decide_eq_false t16)) ?_
        refine wpC_exit ?_
        refine nt_exit ?_
        refine nt_exit ?_
        refine nb_hit ?_
        refine np_norm ?_
        refine to_k (r := []) trivial ?_
        intro a ha
        exact ⟨o3, r71, ha, hB⟩
    · rintro a w4 ⟨o3, rfl, ha, hB⟩
      dsimp only at hF
      refine ap_k ha ?_
      refine nx ?_
      refine wpC_seq ?_
      refine wpC_region ?_
      refine st_val (ex_assign rfl) (by decide) trivial ?_
      refine wpF_end (r := [(4, (.bool true))]) ⟨rfl, trivial⟩ ?_
      refine nx ?_
      refine wpC_ret ?_
      have e72 := Option.some.inj hF
      subst e72
      refine ret_post (P := Try.prog) (vs := [(.bool true)]) Try.results56 ⟨rfl, trivial⟩ ?_
      exact ⟨rfl, hB.keeps⟩
    · rintro a w4 ⟨r', rfl, b73⟩
      dsimp only at hF
      have e74 := Option.some.inj hF
      subst e74
      exact b73

def fS_prOrder_s1 (p1 : List Int) : Int → Int → Unit → Option (Lp Unit Unit Int) := fun (i3 : Int) (x13 : Int) (s : Unit) =>
  (ix p1 i3) >>= fun x19 =>
  if x13 != x19 then
    (ix p1 i3) >>= fun x26 =>
    (ck (x13 - x26)) >>= fun x32 =>
    (fS_l1Sign x32) >>= fun x33 =>
    some (.ret x33)
  else
    some (.go ())
def fS_prOrder (p0 : List Int) (p1 : List Int) : Option Int :=
  (forI (fS_prOrder_s1 p1) p0 0 ()) >>= fun q4 =>
  match q4 with
  | .inl _ =>
    some 0
  | .inr r' => some r'

def fS_prAll_s1 (p1 : List Int) : Int → Int → Unit → Option (Lp Unit Unit Bool) := fun (i3 : Int) (x13 : Int) (s : Unit) =>
  (fS_l1Has p1 x13) >>= fun x19 =>
  if !x19 then
    some (.ret false)
  else
    some (.go ())
def fS_prAll (p0 : List Int) (p1 : List Int) : Option Bool :=
  (forI (fS_prAll_s1 p1) p0 0 ()) >>= fun q4 =>
  match q4 with
  | .inl _ =>
    some true
  | .inr r' => some r'

def fS_prSorted_s2 : ((List Int) × Int) → Option (Lp ((List Int) × Int) ((List Int) × Int) (List Int)) := fun (s : (List Int) × Int) =>
  (
    if decide (s.2 > 0) then
      (ck (s.2 - 1)) >>= fun x46 =>
      (ix s.1 x46) >>= fun x47 =>
      (ix s.1 s.2) >>= fun x50 =>
      some (decide (x47 > x50))
    else
      some false) >>= fun q41 =>
  if q41 then
    (ix s.1 s.2) >>= fun x180 =>
    (ck (s.2 - 1)) >>= fun x186 =>
    (ix s.1 x186) >>= fun x187 =>
    (ix s.1 s.2) >>= fun x193 =>
    (st s.1 s.2 x187) >>= fun x202 =>
    (ck (s.2 - 1)) >>= fun x204 =>
    (ix x202 x204) >>= fun x205 =>
    (st x202 x204 x180) >>= fun x214 =>
    (ck (s.2 - 1)) >>= fun x216 =>
    some (.go (x214, x216))
  else
    some (.out (s.1, s.2))
def fS_prSorted_s1 (fuel : Nat) : Int → (List Int) → Option (Lp (List Int) (List Int) (List Int)) := fun (i14 : Int) (s : List Int) =>
  (loopF (fS_prSorted_s2) fuel (s, i14)) >>= fun q31 =>
  match q31 with
  | .inl (y26, y28) =>
    some (.go y26)
  | .inr _ => none
def fS_prSorted (fuel : Nat) (p0 : List Int) : Option (List Int) :=
  (fS_l1Own p0) >>= fun x1 =>
  ck (x1.length : Int) >>= fun _ =>
  (forN (fS_prSorted_s1 fuel) ((x1.length : Int)).toNat 0 x1) >>= fun q15 =>
  match q15 with
  | .inl y10 =>
    some y10
  | .inr _ => none

def fI_within (p0 : Int) (p1 : Int) (p2 : Int) : Option Bool :=
  (
    if decide (p1 ≤ p0) then
      some (decide (p0 ≤ p2))
    else
      some false) >>= fun q1 =>
  some q1

def pI_within (w : World) (r : Bool) : Ending → World → Prop := fun e w' => e = .returned (.bool r) ∧ Keeps w w'
set_option maxRecDepth 100000 in
set_option maxHeartbeats 2000000 in
theorem cI_within (w : World) (p0 : Int) (p1 : Int) (p2 : Int) (r : Bool) (hF : fI_within p0 p1 p2 = some r) :
    Calls Try.prog 95 #[.int .i64 p0, .int .i64 p1, .int .i64 p2] w (pI_within w r) := by
  unfold fI_within at hF
  have hB : Bs (fun _ => 1) (col (fun _ => 1)) w w := Bs.start _ _
  refine calls_start (n := 15) (vs := [(.int .i64 p0), (.int .i64 p1), (.int .i64 p2)]) Try.func95 rfl rfl ?_
  refine wpC_seq ?_
  refine wpC_region ?_
  refine st_val (ex_assign rfl) (by decide) trivial ?_
  refine wpF_end (r := [(0, (.int .i64 p0)), (1, (.int .i64 p1)), (2, (.int .i64 p2))]) ⟨rfl, rfl, rfl, trivial⟩ ?_
  refine nx ?_
  refine wpC_seq ?_
  refine wpC_region ?_
  refine st_val (ex_move rfl) (by decide) trivial ?_
  refine st_val (ex_move rfl) (by decide) trivial ?_
  refine st_val (ex_leq rfl rfl) (by decide) trivial ?_
  refine st_val (ex_move rfl) (by decide) trivial ?_
  obtain ⟨q1, hq1, hF⟩ := bind_some hF
  refine wpF_cutAt 4 (fun a3 w2 => Fr a3 15 [(14, (.bool q1))] ∧ Keeps w w2) ?_ ?_
  all_goals simp only [List.take_succ_cons, List.take_zero, List.drop_succ_cons, List.drop_zero]
  · have kp : Keeps w w := Keeps.refl _
    rcases Bool.eq_false_or_eq_true (decide (p1 ≤ p0)) with t4 | t4
    · rw [if_pos t4] at hq1
      refine st_val (ex_move rfl) (by decide) ⟨_, rfl, (congrArg (fun b => some (Value.bool b)) t4)⟩ ?_
      refine st_val (ex_move rfl) (by decide) ⟨_, rfl, (congrArg (fun b => some (Value.bool b)) t4)⟩ ?_
      refine st_val (ex_leq rfl rfl) (by decide) ⟨_, rfl, (congrArg (fun b => some (Value.bool b)) t4)⟩ ?_
      refine st_val (ex_pick_t (congrArg (fun b => some (Value.bool b)) t4) rfl) (by decide) trivial ?_
      have hq12 := Option.some.inj hq1
      refine wpF_end (r := [(14, (.bool (decide (p0 ≤ p2))))]) ⟨rfl, trivial⟩ ?_
      subst hq12
      refine np_norm (fun a ha => ⟨ha, kp⟩)
    · rw [if_neg (by rw [t4]; decide)] at hq1
      refine st_no rfl rfl (by rw [t4]; rfl) (by decide) ?_
      refine st_no rfl rfl (by rw [t4]; rfl) (by decide) ?_
      refine st_no rfl rfl (by rw [t4]; rfl) (by decide) ?_
      refine st_val (ex_pick_f (congrArg (fun b => some (Value.bool b)) t4) rfl) (by decide) trivial ?_
      have hq12 := Option.some.inj hq1
      refine wpF_end (r := [(14, (.bool false))]) ⟨rfl, trivial⟩ ?_
      subst hq12
      refine np_norm (fun a ha => ⟨ha, kp⟩)
  rintro a7 w2 ⟨ha, k5⟩
  have s6 := k5.stp 999 (col (fun _ => 1))
  replace hB := hB.stp s6 (by decide)
  refine wl_of ha ?_
  refine st_val (ex_assign rfl) (by decide) trivial ?_
  refine wpF_end (r := [(6, (.bool q1))]) ⟨rfl, trivial⟩ ?_
  refine nx ?_
  refine wpC_ret ?_
  have e8 := Option.some.inj hF
  subst e8
  refine ret_post (P := Try.prog) (vs := [(.bool q1)]) Try.results95 ⟨rfl, trivial⟩ ?_
  exact ⟨rfl, hB.keeps⟩

def fI_labelsIn_s1 (p0 : Int) : ((List Int) × Int) → Option (Lp ((List Int) × Int) ((List Int) × Int) (List Int)) := fun (s : (List Int) × Int) =>
  (shr p0 s.2) >>= fun x18 =>
  if x18 != 0 then
    (shr p0 s.2) >>= fun x20 =>
    if (band x20 1) == 1 then
      (push s.1 s.2) >>= fun x28 =>
      (ck (s.2 + 1)) >>= fun x34 =>
      some (.go (x28, x34))
    else
      (ck (s.2 + 1)) >>= fun x36 =>
      some (.go (s.1, x36))
  else
    some (.out (s.1, s.2))
def fI_labelsIn (fuel : Nat) (p0 : Int) : Option (List Int) :=
  (loopF (fI_labelsIn_s1 p0) fuel ([], 0)) >>= fun q8 =>
  match q8 with
  | .inl (y2, y5) =>
    some y2
  | .inr _ => none

def fI_increasing_s1 (p0 : List Int) (p1 : Int) (p2 : Int) : Int → Int → Unit → Option (Lp Unit Unit Bool) := fun (i3 : Int) (x13 : Int) (s : Unit) =>
  (fI_within x13 p1 p2) >>= fun x19 =>
  (
    if !x19 then
      some true
    else
      if decide (i3 > 0) then
        (ck (i3 - 1)) >>= fun x30 =>
        (ix p0 x30) >>= fun x31 =>
        some (decide (x31 ≥ x13))
      else
        some false) >>= fun q25 =>
  if q25 then
    some (.ret false)
  else
    some (.go ())
def fI_increasing (p0 : List Int) (p1 : Int) (p2 : Int) : Option Bool :=
  (forI (fI_increasing_s1 p0 p1 p2) p0 0 ()) >>= fun q4 =>
  match q4 with
  | .inl _ =>
    some true
  | .inr r' => some r'

def pI_increasing (w : World) (r : Bool) : Ending → World → Prop := fun e w' => e = .returned (.bool r) ∧ Keeps w w'
set_option maxRecDepth 100000 in
set_option maxHeartbeats 2000000 in
theorem cI_increasing (w : World) (u0 : Value) (p0 : List Int) (g0 : RdL zt w u0 p0) (p1 : Int) (p2 : Int) (r : Bool) (hF : fI_increasing p0 p1 p2 = some r) :
    Calls Try.prog 130 #[u0, .int .i64 p1, .int .i64 p2] w (pI_increasing w r) := by
  unfold fI_increasing at hF
  have hB : Bs (fun _ => 1) (col (fun _ => 1)) w w := Bs.start _ _
  refine calls_start (n := 35) (vs := [u0, (.int .i64 p1), (.int .i64 p2)]) Try.func130 rfl rfl ?_
  refine wpC_seq ?_
  refine wpC_region ?_
  refine st_val (ex_assign rfl) (by decide) trivial ?_
  refine wpF_end (r := [(0, u0), (1, (.int .i64 p1)), (2, (.int .i64 p2))]) ⟨rfl, rfl, rfl, trivial⟩ ?_
  refine nx ?_
  refine wpC_seq ?_
  refine wpC_seq ?_
  refine wpC_region ?_
  refine st_val (ex_move rfl) (by decide) trivial ?_
  refine st_val (ex_lenR rfl g0 Try.underlying23) (by decide) trivial ?_
  refine st_val (ex_move rfl) (by decide) trivial ?_
  refine wpF_end (r := [(0, u0), (1, (.int .i64 p1)), (2, (.int .i64 p2)), (9, u0), (10, (.int .i64 (p0.length : Int))), (11, (.int .i64 0))]) ⟨rfl, rfl, rfl, rfl, rfl, rfl, trivial⟩ ?_
  refine nx ?_
  obtain ⟨q4, hq4, hF⟩ := bind_some hF
  refine wpC_cutN (fun a w2 => ∃ (o1 : Tg), q4 = .inl () ∧ Fr a 35 [] ∧ Bs (fun _ => 1) o1 w w2) (fun a w' => ∃ r', q4 = .inr r' ∧ bodyPost Try.prog Try.f130 (pI_increasing w r') .ret a w') ?_ ?_ ?_
  · refine wpC_block ?_
    refine wpC_loop (fun (K : Nat) a w2 => ∃ (i3 : Int) (o1 : Tg), forI (fI_increasing_s1 p0 p1 p2) (p0.drop i3.toNat) i3 () = some q4 ∧ (p0.drop i3.toNat).length = K ∧ 0 ≤ i3 ∧ Fr a 35 [(0, u0), (1, (.int .i64 p1)), (2, (.int .i64 p2)), (9, u0), (10, (.int .i64 (p0.length : Int))), (11, (.int .i64 i3))] ∧ Bs (fun _ => 1) o1 w w2) _ (fun a ha => ⟨0, (col (fun _ => 1)), hq4, rfl, Int.le_refl 0, ha.sub (r := [(0, u0), (1, (.int .i64 p1)), (2, (.int .i64 p2)), (9, u0), (10, (.int .i64 (p0.length : Int))), (11, (.int .i64 0))]) ⟨rfl, rfl, rfl, rfl, rfl, rfl, trivial⟩, hB⟩) ?_
    rintro K8 a w2 ⟨i3, o1, l5, m7, z6, ha, hB⟩
    by_cases t12 : i3 < (p0.length : Int)
    · obtain ⟨x13, q9, hx13, b10, n11⟩ := forI_cons z6 t12 l5
      have hle := g0.len_le
      dsimp only [fI_increasing_s1] at b10
      refine wp_of ha ?_
      refine wpC_seq ?_
      refine wpC_region ?_
      refine st_val (ex_lss rfl rfl) (by decide) trivial ?_
      refine wpF_end (r := [(0, u0), (1, (.int .i64 p1)), (2, (.int .i64 p2)), (9, u0), (10, (.int .i64 (p0.length : Int))), (11, (.int .i64 i3)), (12, (.bool (decide (i3 < (p0.length : Int)))))]) ⟨rfl, rfl, rfl, rfl, rfl, rfl, rfl, trivial⟩ ?_
      refine nx ?_
      refine wpC_seq ?_
      refine wpC_true (congrArg (fun b => some (Value.bool b)) (decide_eq_true t12)) ?_
      refine wpC_skip ?_
      refine nx ?_
      refine wpC_seq ?_
      refine wpC_block ?_
      refine wpC_seq ?_
      refine wpC_region ?_
      refine st_val (ex_move rfl) (by decide) trivial ?_
      refine st_op (by decide) trivial ?_
      refine wf_atZ g0 hx13 hB rfl rfl Try.underlying23 Try.sizeOf3 ?_
      intro b14 f15 c16 h17 h18
      cases h18
      refine st_val (ex_load1 rfl Try.isAgg3 (cell_of_cells h17)) (by decide) trivial ?_
      refine st_val (ex_assign rfl) (by decide) trivial ?_
      refine st_val (ex_assign rfl) (by decide) trivial ?_
      refine wpF_end (r := [(0, u0), (1, (.int .i64 p1)), (2, (.int .i64 p2)), (7, (.int .i64 i3)), (8, (.int .i64 x13)), (9, u0), (10, (.int .i64 (p0.length : Int))), (11, (.int .i64 i3))]) ⟨rfl, rfl, rfl, rfl, rfl, rfl, rfl, rfl, trivial⟩ ?_
      refine nx ?_
      refine wpC_seq ?_
      refine wpC_region ?_
      refine st_val (ex_move rfl) (by decide) trivial ?_
      refine st_val (ex_move rfl) (by decide) trivial ?_
      refine st_val (ex_move rfl) (by decide) trivial ?_
      obtain ⟨x19, hx19, b10⟩ := bind_some b10
      refine st_op (by decide) trivial ?_
      refine wf_call (cI_within w2 x13 p1 p2 x19 hx19) Try.call95 ⟨rfl, rfl, rfl, trivial⟩ ?_
      rintro e24 w20 ⟨rfl, k21⟩
      have s23 := k21.stp 999 o1
      refine ⟨_, rfl, ?_⟩
      replace hB := hB.stp s23 (by decide)
      refine st_val (ex_not rfl) (by decide) trivial ?_
      refine st_val (ex_move rfl) (by decide) trivial ?_
      obtain ⟨q25, hq25, b10⟩ := bind_some b10
      refine wpF_cutAt 12 (fun a27 w26 => Fr a27 35 [(0, u0), (1, (.int .i64 p1)), (2, (.int .i64 p2)), (9, u0), (10, (.int .i64 (p0.length : Int))), (11, (.int .i64 i3)), (33, (.bool q25))] ∧ Keeps w20 w26) ?_ ?_
      all_goals simp only [List.take_succ_cons, List.take_zero, List.drop_succ_cons, List.drop_zero]
      · have kp : Keeps w20 w20 := Keeps.refl _
        rcases Bool.eq_false_or_eq_true (!x19) with t28 | t28
        · rw [if_pos t28] at hq25
          refine st_no rfl rfl (by rw [t28]; rfl) (by decide) ?_
          refine st_no rfl rfl (by rw [t28]; rfl) (by decide) ?_
          refine st_no rfl rfl (by rw [t28]; rfl) (by decide) ?_
          refine st_no2 rfl rfl (by decide) ?_
          refine st_no2 rfl rfl (by decide) ?_
          refine st_no2 rfl rfl (by decide) ?_
          refine st_no2 rfl rfl (by decide) ?_
          refine st_no2 rfl rfl (by decide) ?_
          refine st_no2 rfl rfl (by decide) ?_
          refine st_no2 rfl rfl (by decide) ?_
          refine st_no rfl rfl (by rw [t28]; rfl) (by decide) ?_
          refine st_val (ex_pick_t (congrArg (fun b => some (Value.bool b)) t28) rfl) (by decide) trivial ?_
          have hq252 := Option.some.inj hq25
          refine wpF_end (r := [(0, u0), (1, (.int .i64 p1)), (2, (.int .i64 p2)), (9, u0), (10, (.int .i64 (p0.length : Int))), (11, (.int .i64 i3)), (33, (.bool true))]) ⟨rfl, rfl, rfl, rfl, rfl, rfl, rfl, trivial⟩ ?_
          subst hq252
          refine np_norm (fun a ha => ⟨ha, kp⟩)
        · rw [if_neg (by rw [t28]; decide)] at hq25
          refine st_val (ex_move rfl) (by decide) ⟨_, rfl, (congrArg (fun b => some (Value.bool b)) t28)⟩ ?_
          refine st_val (ex_gtr rfl rfl) (by decide) ⟨_, rfl, (congrArg (fun b => some (Value.bool b)) t28)⟩ ?_
          refine st_val (ex_move rfl) (by decide) ⟨_, rfl, (congrArg (fun b => some (Value.bool b)) t28)⟩ ?_
          rcases Bool.eq_false_or_eq_true (decide (i3 > 0)) with t29 | t29
          · rw [if_pos t29] at hq25
            refine st_val (ex_move rfl) (by decide) ⟨_, rfl, (congrArg (fun b => some (Value.bool b)) t29)⟩ ?_
            refine st_val (ex_move rfl) (by decide) ⟨_, rfl, (congrArg (fun b => some (Value.bool b)) t29)⟩ ?_
            obtain ⟨x30, hx30, hq25⟩ := bind_some hq25
            refine st_val (ex_sub rfl rfl hx30) (by decide) ⟨_, rfl, (congrArg (fun b => some (Value.bool b)) t29)⟩ ?_
            obtain ⟨x31, hx31, hq25⟩ := bind_some hq25
            refine st_op (by decide) ⟨_, rfl, (congrArg (fun b => some (Value.bool b)) t29)⟩ ?_
            refine wf_atZ g0 hx31 hB rfl rfl Try.underlying23 Try.sizeOf3 ?_
            intro b32 f33 c34 h35 h36
            cases h36
            refine st_val (ex_load1 rfl Try.isAgg3 (cell_of_cells h35)) (by decide) ⟨_, rfl, (congrArg (fun b => some (Value.bool b)) t29)⟩ ?_
            refine st_val (ex_move rfl) (by decide) ⟨_, rfl, (congrArg (fun b => some (Value.bool b)) t29)⟩ ?_
            refine st_val (ex_geq rfl rfl) (by decide) ⟨_, rfl, (congrArg (fun b => some (Value.bool b)) t29)⟩ ?_
            refine st_val (ex_pick_t (congrArg (fun b => some (Value.bool b)) t29) rfl) (by decide) ⟨_, rfl, (congrArg (fun b => some (Value.bool b)) t28)⟩ ?_
            refine st_val (ex_pick_f (congrArg (fun b => some (Value.bool b)) t28) rfl) (by decide) trivial ?_
            have hq252 := Option.some.inj hq25
            refine wpF_end (r := [(0, u0), (1, (.int .i64 p1)), (2, (.int .i64 p2)), (9, u0), (10, (.int .i64 (p0.length : Int))), (11, (.int .i64 i3)), (33, (.bool (decide (x31 ≥ x13))))]) ⟨rfl, rfl, rfl, rfl, rfl, rfl, rfl, trivial⟩ ?_
            subst hq252
            refine np_norm (fun a ha => ⟨ha, kp⟩)
          · rw [if_neg (by rw [t29]; decide)] at hq25
            refine st_no rfl rfl (by rw [t29]; rfl) (by decide) ?_
            refine st_no rfl rfl (by rw [t29]; rfl) (by decide) ?_
            refine st_no rfl rfl (by rw [t29]; rfl) (by decide) ?_
            refine st_no rfl rfl (by rw [t29]; rfl) (by decide) ?_
            refine st_no rfl rfl (by rw [t29]; rfl) (by decide) ?_
            refine st_no rfl rfl (by rw [t29]; rfl) (by decide) ?_
            refine st_no rfl rfl (by rw [t29]; rfl) (by decide) ?_
            refine st_val (ex_pick_f (congrArg (fun b => some (Value.bool b)) t29) rfl) (by decide) ⟨_, rfl, (congrArg (fun b => some (Value.bool b)) t28)⟩ ?_
            refine st_val (ex_pick_f (congrArg (fun b => some (Value.bool b)) t28) rfl) (by decide) trivial ?_
            have hq252 := Option.some.inj hq25
            refine wpF_end (r := [(0, u0), (1, (.int .i64 p1)), (2, (.int .i64 p2)), (9, u0), (10, (.int .i64 (p0.length : Int))), (11, (.int .i64 i3)), (33, (.bool false))]) ⟨rfl, rfl, rfl, rfl, rfl, rfl, rfl, trivial⟩ ?_
            subst hq252
            refine np_norm (fun a ha => ⟨ha, kp⟩)
      rintro a39 w26 ⟨ha, k37⟩
      have s38 := k37.stp 999 o1
      replace hB := hB.stp s38 (by decide)
      refine wl_of ha ?_
      refine wpF_end (r := [(0, u0), (1, (.int .i64 p1)), (2, (.int .i64 p2)), (9, u0), (10, (.int .i64 (p0.length : Int))), (11, (.int .i64 i3)), (33, (.bool q25))]) ⟨rfl, rfl, rfl, rfl, rfl, rfl, rfl, trivial⟩ ?_
      refine nx ?_
      refine wpC_cond rfl (fun t40 => ?_) (fun t40 => ?_)
      · rw [if_pos t40] at b10
        refine wpC_seq ?_
        refine wpC_region ?_
        refine st_val (ex_assign rfl) (by decide) trivial ?_
        refine wpF_end (r := [(6, (.bool false))]) ⟨rfl, trivial⟩ ?_
        refine nx ?_
        refine wpC_ret ?_
        refine nb_ret ?_
        refine nt_ret ?_
        refine nt_ret ?_
        refine nb_ret ?_
        refine np_ret ?_
        have e41 := Option.some.inj b10
        subst e41
        refine fun a ha => ⟨_, n11, ?_⟩
        refine ret_post (P := Try.prog) (vs := [(.bool false)]) Try.results130 ⟨rfl, trivial⟩ ?_ a ha
        exact ⟨rfl, hB.keeps⟩
      · rw [if_neg (by rw [t40]; decide)] at b10
        refine wpC_skip ?_
        refine nb_norm ?_
        refine nx ?_
        refine wpC_region ?_
        refine st_val (ex_add rfl rfl (ck_in (by omega) (by omega))) (by decide) trivial ?_
        refine st_val (ex_move rfl) (by decide) trivial ?_
        refine wpF_end (r := [(0, u0), (1, (.int .i64 p1)), (2, (.int .i64 p2)), (9, u0), (10, (.int .i64 (p0.length : Int))), (11, (.int .i64 (i3 + 1)))]) ⟨rfl, rfl, rfl, rfl, rfl, rfl, trivial⟩ ?_
        refine nt_norm ?_
        have e42 := Option.some.inj b10
        subst e42
        refine to_k (r := [(0, u0), (1, (.int .i64 p1)), (2, (.int .i64 p2)), (9, u0), (10, (.int .i64 (p0.length : Int))), (11, (.int .i64 (i3 + 1)))]) ⟨rfl, rfl, rfl, rfl, rfl, rfl, trivial⟩ ?_
        intro a ha
        exact ⟨_, (by rw [← m7]; simp only [List.length_drop]; omega), i3 + 1, o1, n11, rfl, (by omega), ha, hB⟩
    · have r43 := forI_done t12 l5
      refine wp_of ha ?_
      refine wpC_seq ?_
      refine wpC_region ?_
      refine st_val (ex_lss rfl rfl) (by decide) trivial ?_
      refine wpF_end (r := [(0, u0), (1, (.int .i64 p1)), (2, (.int .i64 p2)), (9, u0), (10, (.int .i64 (p0.length : Int))), (11, (.int .i64 i3)), (12, (.bool (decide (i3 < (p0.length : Int)))))]) ⟨rfl, rfl, rfl, rfl, rfl, rfl, rfl, trivial⟩ ?_
      refine nx ?_
      refine wpC_seq ?_
      refine wpC_false (congrArg (fun b => some (Value.bool b)) (decide_eq_false t12)) ?_
      refine wpC_exit ?_
      refine nt_exit ?_
      refine nt_exit ?_
      refine nb_hit ?_
      refine np_norm ?_
      refine to_k (r := []) trivial ?_
      intro a ha
      exact ⟨o1, r43, ha, hB⟩
  · rintro a w2 ⟨o1, rfl, ha, hB⟩
    dsimp only at hF
    refine ap_k ha ?_
    refine nx ?_
    refine wpC_seq ?_
    refine wpC_region ?_
    refine st_val (ex_assign rfl) (by decide) trivial ?_
    refine wpF_end (r := [(6, (.bool true))]) ⟨rfl, trivial⟩ ?_
    refine nx ?_
    refine wpC_ret ?_
    have e44 := Option.some.inj hF
    subst e44
    refine ret_post (P := Try.prog) (vs := [(.bool true)]) Try.results130 ⟨rfl, trivial⟩ ?_
    exact ⟨rfl, hB.keeps⟩
  · rintro a w2 ⟨r', rfl, b45⟩
    dsimp only at hF
    have e46 := Option.some.inj hF
    subst e46
    exact b45

def fX_cmp_isNaN_int (p0 : Int) : Option Bool :=
  some (p0 != p0)

def pX_cmp_isNaN_int (w : World) (r : Bool) : Ending → World → Prop := fun e w' => e = .returned (.bool r) ∧ Keeps w w'
set_option maxRecDepth 100000 in
set_option maxHeartbeats 2000000 in
theorem cX_cmp_isNaN_int (w : World) (p0 : Int) (r : Bool) (hF : fX_cmp_isNaN_int p0 = some r) :
    Calls Try.prog 143 #[.int .i64 p0] w (pX_cmp_isNaN_int w r) := by
  unfold fX_cmp_isNaN_int at hF
  have hB : Bs (fun _ => 1) (col (fun _ => 1)) w w := Bs.start _ _
  refine calls_start (n := 6) (vs := [(.int .i64 p0)]) Try.func143 rfl rfl ?_
  refine wpC_seq ?_
  refine wpC_region ?_
  refine st_val (ex_assign rfl) (by decide) trivial ?_
  refine wpF_end (r := [(0, (.int .i64 p0))]) ⟨rfl, trivial⟩ ?_
  refine nx ?_
  refine wpC_seq ?_
  refine wpC_region ?_
  refine st_val (ex_move rfl) (by decide) trivial ?_
  refine st_val (ex_move rfl) (by decide) trivial ?_
  refine st_val (ex_neq rfl rfl) (by decide) trivial ?_
  refine st_val (ex_assign rfl) (by decide) trivial ?_
  refine wpF_end (r := [(2, (.bool (p0 != p0)))]) ⟨rfl, trivial⟩ ?_
  refine nx ?_
  refine wpC_ret ?_
  have e1 := Option.some.inj hF
  subst e1
  refine ret_post (P := Try.prog) (vs := [(.bool (p0 != p0))]) Try.results143 ⟨rfl, trivial⟩ ?_
  exact ⟨rfl, hB.keeps⟩

def fX_cmp_Compare_int (p0 : Int) (p1 : Int) : Option Int :=
  (fX_cmp_isNaN_int p0) >>= fun x1 =>
  (fX_cmp_isNaN_int p1) >>= fun x7 =>
  if x1 then
    if x7 then
      some 0
    else
      some (-1)
  else
    if x7 then
      some 1
    else
      if decide (p0 < p1) then
        some (-1)
      else
        if decide (p0 > p1) then
          some 1
        else
          some 0

def pX_cmp_Compare_int (w : World) (r : Int) : Ending → World → Prop := fun e w' => e = .returned (.int .i64 r) ∧ Keeps w w'
set_option maxRecDepth 100000 in
set_option maxHeartbeats 2000000 in
theorem cX_cmp_Compare_int (w : World) (p0 : Int) (p1 : Int) (r : Int) (hF : fX_cmp_Compare_int p0 p1 = some r) :
    Calls Try.prog 126 #[.int .i64 p0, .int .i64 p1] w (pX_cmp_Compare_int w r) := by
  unfold fX_cmp_Compare_int at hF
  have hB : Bs (fun _ => 1) (col (fun _ => 1)) w w := Bs.start _ _
  refine calls_start (n := 20) (vs := [(.int .i64 p0), (.int .i64 p1)]) Try.func126 rfl rfl ?_
  refine wpC_seq ?_
  refine wpC_region ?_
  refine st_val (ex_assign rfl) (by decide) trivial ?_
  refine wpF_end (r := [(0, (.int .i64 p0)), (1, (.int .i64 p1))]) ⟨rfl, rfl, trivial⟩ ?_
  refine nx ?_
  refine wpC_seq ?_
  refine wpC_region ?_
  refine st_val (ex_move rfl) (by decide) trivial ?_
  obtain ⟨x1, hx1, hF⟩ := bind_some hF
  refine st_op (by decide) trivial ?_
  refine wf_call (cX_cmp_isNaN_int w p0 x1 hx1) Try.call143 ⟨rfl, trivial⟩ ?_
  rintro e6 w2 ⟨rfl, k3⟩
  have s5 := k3.stp 999 (col (fun _ => 1))
  refine ⟨_, rfl, ?_⟩
  replace hB := hB.stp s5 (by decide)
  refine st_val (ex_assign rfl) (by decide) trivial ?_
  refine wpF_end (r := [(0, (.int .i64 p0)), (1, (.int .i64 p1)), (5, (.bool x1))]) ⟨rfl, rfl, rfl, trivial⟩ ?_
  refine nx ?_
  refine wpC_seq ?_
  refine wpC_region ?_
  refine st_val (ex_move rfl) (by decide) trivial ?_
  obtain ⟨x7, hx7, hF⟩ := bind_some hF
  refine st_op (by decide) trivial ?_
  refine wf_call (cX_cmp_isNaN_int w2 p1 x7 hx7) Try.call143 ⟨rfl, trivial⟩ ?_
  rintro e12 w8 ⟨rfl, k9⟩
  have s11 := k9.stp 999 (col (fun _ => 1))
  refine ⟨_, rfl, ?_⟩
  replace hB := hB.stp s11 (by decide)
  refine st_val (ex_assign rfl) (by decide) trivial ?_
  refine wpF_end (r := [(0, (.int .i64 p0)), (1, (.int .i64 p1)), (5, (.bool x1)), (6, (.bool x7))]) ⟨rfl, rfl, rfl, rfl, trivial⟩ ?_
  refine nx ?_
  refine wpC_seq ?_
  refine wpC_seq ?_
  refine wpC_region ?_
  refine st_val (ex_move rfl) (by decide) trivial ?_
  refine wpF_end (r := [(0, (.int .i64 p0)), (1, (.int .i64 p1)), (6, (.bool x7)), (11, (.bool x1))]) ⟨rfl, rfl, rfl, rfl, trivial⟩ ?_
  refine nx ?_
  refine wpC_cond rfl (fun t13 => ?_) (fun t13 => ?_)
  · rw [if_pos t13] at hF
    refine wpC_seq ?_
    refine wpC_seq ?_
    refine wpC_region ?_
    refine st_val (ex_move rfl) (by decide) trivial ?_
    refine wpF_end (r := [(12, (.bool x7))]) ⟨rfl, trivial⟩ ?_
    refine nx ?_
    refine wpC_cond rfl (fun t14 => ?_) (fun t14 => ?_)
    · rw [if_pos t14] at hF
      refine wpC_seq ?_
      refine wpC_region ?_
      refine st_val (ex_assign rfl) (by decide) trivial ?_
      refine wpF_end (r := [(4, (.int .i64 0))]) ⟨rfl, trivial⟩ ?_
      refine nx ?_
      refine wpC_ret ?_
      refine nt_ret ?_
      refine nt_ret ?_
      have e15 := Option.some.inj hF
      subst e15
      refine ret_post (P := Try.prog) (vs := [(.int .i64 0)]) Try.results126 ⟨rfl, trivial⟩ ?_
      exact ⟨rfl, hB.keeps⟩
    · rw [if_neg (by rw [t14]; decide)] at hF
      refine wpC_skip ?_
      refine nx ?_
      refine wpC_seq ?_
      refine wpC_region ?_
      refine st_val (ex_assign rfl) (by decide) trivial ?_
      refine wpF_end (r := [(4, (.int .i64 (-1)))]) ⟨rfl, trivial⟩ ?_
      refine nx ?_
      refine wpC_ret ?_
      refine nt_ret ?_
      have e16 := Option.some.inj hF
      subst e16
      refine ret_post (P := Try.prog) (vs := [(.int .i64 (-1))]) Try.results126 ⟨rfl, trivial⟩ ?_
      exact ⟨rfl, hB.keeps⟩
  · rw [if_neg (by rw [t13]; decide)] at hF
    refine wpC_skip ?_
    refine nx ?_
    refine wpC_seq ?_
    refine wpC_seq ?_
    refine wpC_region ?_
    refine st_val (ex_move rfl) (by decide) trivial ?_
    refine wpF_end (r := [(0, (.int .i64 p0)), (1, (.int .i64 p1)), (13, (.bool x7))]) ⟨rfl, rfl, rfl, trivial⟩ ?_
    refine nx ?_
    refine wpC_cond rfl (fun t17 => ?_) (fun t17 => ?_)
    · rw [if_pos t17] at hF
      refine wpC_seq ?_
      refine wpC_region ?_
      refine st_val (ex_assign rfl) (by decide) trivial ?_
      refine wpF_end (r := [(4, (.int .i64 1))]) ⟨rfl, trivial⟩ ?_
      refine nx ?_
      refine wpC_ret ?_
      refine nt_ret ?_
      have e18 := Option.some.inj hF
      subst e18
      refine ret_post (P := Try.prog) (vs := [(.int .i64 1)]) Try.results126 ⟨rfl, trivial⟩ ?_
      exact ⟨rfl, hB.keeps⟩
    · rw [if_neg (by rw [t17]; decide)] at hF
      refine wpC_skip ?_
      refine nx ?_
      refine wpC_seq ?_
      refine wpC_seq ?_
      refine wpC_region ?_
      refine st_val (ex_move rfl) (by decide) trivial ?_
      refine st_val (ex_move rfl) (by decide) trivial ?_
      refine st_val (ex_lss rfl rfl) (by decide) trivial ?_
      refine wpF_end (r := [(0, (.int .i64 p0)), (1, (.int .i64 p1)), (16, (.bool (decide (p0 < p1))))]) ⟨rfl, rfl, rfl, trivial⟩ ?_
      refine nx ?_
      refine wpC_cond rfl (fun t19 => ?_) (fun t19 => ?_)
      · rw [if_pos t19] at hF
        refine wpC_seq ?_
        refine wpC_region ?_
        refine st_val (ex_assign rfl) (by decide) trivial ?_
        refine wpF_end (r := [(4, (.int .i64 (-1)))]) ⟨rfl, trivial⟩ ?_
        refine nx ?_
        refine wpC_ret ?_
        refine nt_ret ?_
        have e20 := Option.some.inj hF
        subst e20
        refine ret_post (P := Try.prog) (vs := [(.int .i64 (-1))]) Try.results126 ⟨rfl, trivial⟩ ?_
        exact ⟨rfl, hB.keeps⟩
      · rw [if_neg (by rw [t19]; decide)] at hF
        refine wpC_skip ?_
        refine nx ?_
        refine wpC_seq ?_
        refine wpC_seq ?_
        refine wpC_region ?_
        refine st_val (ex_move rfl) (by decide) trivial ?_
        refine st_val (ex_move rfl) (by decide) trivial ?_
        refine st_val (ex_gtr rfl rfl) (by decide) trivial ?_
        refine wpF_end (r := [(19, (.bool (decide (p0 > p1))))]) ⟨rfl, trivial⟩ ?_
        refine nx ?_
        refine wpC_cond rfl (fun t21 => ?_) (fun t21 => ?_)
        · rw [if_pos t21] at hF
          refine wpC_seq ?_
          refine wpC_region ?_
          refine st_val (ex_assign rfl) (by decide) trivial ?_
          refine wpF_end (r := [(4, (.int .i64 1))]) ⟨rfl, trivial⟩ ?_
          refine nx ?_
          refine wpC_ret ?_
          refine nt_ret ?_
          have e22 := Option.some.inj hF
          subst e22
          refine ret_post (P := Try.prog) (vs := [(.int .i64 1)]) Try.results126 ⟨rfl, trivial⟩ ?_
          exact ⟨rfl, hB.keeps⟩
        · rw [if_neg (by rw [t21]; decide)] at hF
          refine wpC_skip ?_
          refine nx ?_
          refine wpC_seq ?_
          refine wpC_region ?_
          refine st_val (ex_assign rfl) (by decide) trivial ?_
          refine wpF_end (r := [(4, (.int .i64 0))]) ⟨rfl, trivial⟩ ?_
          refine nx ?_
          refine wpC_ret ?_
          have e23 := Option.some.inj hF
          subst e23
          refine ret_post (P := Try.prog) (vs := [(.int .i64 0)]) Try.results126 ⟨rfl, trivial⟩ ?_
          exact ⟨rfl, hB.keeps⟩

def fX_cmp_Less_int (p0 : Int) (p1 : Int) : Option Bool :=
  (fX_cmp_isNaN_int p0) >>= fun x1 =>
  (
    if x1 then
      (fX_cmp_isNaN_int p1) >>= fun x11 =>
      if !x11 then
        some true
      else
        some (decide (p0 < p1))
    else
      some (decide (p0 < p1))) >>= fun q7 =>
  some q7

def fX_slices_IndexFunc_int_int_s1 (p0 : List Int) (p1 : Int → Option Bool) : Int → Unit → Option (Lp Unit Unit Int) := fun (i3 : Int) (s : Unit) =>
  (ix p0 i3) >>= fun x15 =>
  (p1 x15) >>= fun x21 =>
  if x21 then
    some (.ret i3)
  else
    some (.go ())
def fX_slices_IndexFunc_int_int (p0 : List Int) (p1 : Int → Option Bool) : Option Int :=
  ck (p0.length : Int) >>= fun _ =>
  (forN (fX_slices_IndexFunc_int_int_s1 p0 p1) ((p0.length : Int)).toNat 0 ()) >>= fun q4 =>
  match q4 with
  | .inl _ =>
    some (-1)
  | .inr r' => some r'

def pX_slices_IndexFunc_int_int (w : World) (r : Int) : Ending → World → Prop := fun e w' => e = .returned (.int .i64 r) ∧ Keeps w w'
set_option maxRecDepth 100000 in
set_option maxHeartbeats 2000000 in
theorem cX_slices_IndexFunc_int_int (w : World) (u0 : Value) (p0 : List Int) (g0 : RdL zt w u0 p0) (u1 : Value) (p1 : Int → Option Bool) (g1 : FnV Try.prog w u1 p1) (r : Int) (hF : fX_slices_IndexFunc_int_int p0 p1 = some r) :
    Calls Try.prog 145 #[u0, u1] w (pX_slices_IndexFunc_int_int w r) := by
  unfold fX_slices_IndexFunc_int_int at hF
  have hB : Bs (fun _ => 1) (col (fun _ => 1)) w w := Bs.start _ _
  refine calls_start (n := 19) (vs := [u0, u1]) Try.func145 rfl rfl ?_
  refine wpC_seq ?_
  refine wpC_region ?_
  refine st_val (ex_assign rfl) (by decide) trivial ?_
  refine wpF_end (r := [(0, u0), (1, u1)]) ⟨rfl, rfl, trivial⟩ ?_
  refine nx ?_
  refine wpC_seq ?_
  refine wpC_seq ?_
  refine wpC_region ?_
  refine st_val (ex_move rfl) (by decide) trivial ?_
  refine st_val (ex_lenR rfl g0 Try.underlying23) (by decide) trivial ?_
  refine st_val (ex_move rfl) (by decide) trivial ?_
  refine wpF_end (r := [(0, u0), (1, u1), (7, (.int .i64 (p0.length : Int))), (8, (.int .i64 0))]) ⟨rfl, rfl, rfl, rfl, trivial⟩ ?_
  refine nx ?_
  obtain ⟨u6, h5, hF⟩ := bind_some hF
  obtain ⟨-, h5a, h5b⟩ := ck_some h5
  obtain ⟨q4, hq4, hF⟩ := bind_some hF
  refine wpC_cutN (fun a w2 => ∃ (o1 : Tg), q4 = .inl () ∧ Fr a 19 [] ∧ Bs (fun _ => 1) o1 w w2) (fun a w' => ∃ r', q4 = .inr r' ∧ bodyPost Try.prog Try.f145 (pX_slices_IndexFunc_int_int w r') .ret a w') ?_ ?_ ?_
  · refine wpC_block ?_
    refine wpC_loop (fun (K : Nat) a w2 => ∃ (i3 : Int) (o1 : Tg), forN (fX_slices_IndexFunc_int_int_s1 p0 p1) ((p0.length : Int) - i3).toNat i3 () = some q4 ∧ ((p0.length : Int) - i3).toNat = K ∧ 0 ≤ i3 ∧ Fr a 19 [(0, u0), (1, u1), (7, (.int .i64 (p0.length : Int))), (8, (.int .i64 i3))] ∧ Bs (fun _ => 1) o1 w w2) _ (fun a ha => ⟨0, (col (fun _ => 1)), hq4, rfl, Int.le_refl 0, ha.sub (r := [(0, u0), (1, u1), (7, (.int .i64 (p0.length : Int))), (8, (.int .i64 0))]) ⟨rfl, rfl, rfl, rfl, trivial⟩, hB⟩) ?_
    rintro K10 a w2 ⟨i3, o1, l7, m9, z8, ha, hB⟩
    by_cases t14 : i3 < (p0.length : Int)
    · obtain ⟨q11, b12, n13⟩ := forN_cons t14 l7
      dsimp only [fX_slices_IndexFunc_int_int_s1] at b12
      refine wp_of ha ?_
      refine wpC_seq ?_
      refine wpC_region ?_
      refine st_val (ex_lss rfl rfl) (by decide) trivial ?_
      refine wpF_end (r := [(0, u0), (1, u1), (7, (.int .i64 (p0.length : Int))), (8, (.int .i64 i3)), (9, (.bool (decide (i3 < (p0.length : Int)))))]) ⟨rfl, rfl, rfl, rfl, rfl, trivial⟩ ?_
      refine nx ?_
      refine wpC_seq ?_
      refine wpC_true (congrArg (fun b => some (Value.bool b)) (decide_eq_true t14)) ?_
      refine wpC_skip ?_
      refine nx ?_
      refine wpC_seq ?_
      refine wpC_block ?_
      refine wpC_seq ?_
      refine wpC_region ?_
      refine st_val (ex_move rfl) (by decide) trivial ?_
      refine st_val (ex_assign rfl) (by decide) trivial ?_
      refine wpF_end (r := [(0, u0), (1, u1), (5, (.int .i64 i3)), (7, (.int .i64 (p0.length : Int))), (8, (.int .i64 i3))]) ⟨rfl, rfl, rfl, rfl, rfl, trivial⟩ ?_
      refine nx ?_
      refine wpC_seq ?_
      refine wpC_region ?_
      refine st_val (ex_move rfl) (by decide) trivial ?_
      refine st_val (ex_move rfl) (by decide) trivial ?_
      refine st_val (ex_move rfl) (by decide) trivial ?_
      obtain ⟨x15, hx15, b12⟩ := bind_some b12
      refine st_op (by decide) trivial ?_
      refine wf_atZ g0 hx15 hB rfl rfl Try.underlying23 Try.sizeOf3 ?_
      intro b16 f17 c18 h19 h20
      cases h20
      refine st_val (ex_load1 rfl Try.isAgg3 (cell_of_cells h19)) (by decide) trivial ?_
      obtain ⟨x21, hx21, b12⟩ := bind_some b12
      refine st_op (by decide) trivial ?_
      refine wf_callv (x := x15) (vs := [(.int .i64 x15)]) (g1.keep hB.keeps) hx21 rfl rfl ⟨rfl, trivial⟩ ?_
      intro w22 k23
      have s24 := k23.stp 999 o1
      replace hB := hB.stp s24 (by decide)
      refine wpF_end (r := [(0, u0), (1, u1), (5, (.int .i64 i3)), (7, (.int .i64 (p0.length : Int))), (8, (.int .i64 i3)), (16, (.bool x21))]) ⟨rfl, rfl, rfl, rfl, rfl, rfl, trivial⟩ ?_
      refine nx ?_
      refine wpC_cond rfl (fun t25 => ?_) (fun t25 => ?_)
      · rw [if_pos t25] at b12
        refine wpC_seq ?_
        refine wpC_region ?_
        refine st_val (ex_move rfl) (by decide) trivial ?_
        refine st_val (ex_assign rfl) (by decide) trivial ?_
        refine wpF_end (r := [(4, (.int .i64 i3))]) ⟨rfl, trivial⟩ ?_
        refine nx ?_
        refine wpC_ret ?_
        refine nb_ret ?_
        refine nt_ret ?_
        refine nt_ret ?_
        refine nb_ret ?_
        refine np_ret ?_
        have e26 := Option.some.inj b12
        subst e26
        refine fun a ha => ⟨_, n13, ?_⟩
        refine ret_post (P := Try.prog) (vs := [(.int .i64 i3)]) Try.results145 ⟨rfl, trivial⟩ ?_ a ha
        exact ⟨rfl, hB.keeps⟩
      · rw [if_neg (by rw [t25]; decide)] at b12
        refine wpC_skip ?_
        refine nb_norm ?_
        refine nx ?_
        refine wpC_region ?_
        refine st_val (ex_add rfl rfl (ck_in (by omega) (by omega))) (by decide) trivial ?_
        refine st_val (ex_move rfl) (by decide) trivial ?_
        refine wpF_end (r := [(0, u0), (1, u1), (7, (.int .i64 (p0.length : Int))), (8, (.int .i64 (i3 + 1)))]) ⟨rfl, rfl, rfl, rfl, trivial⟩ ?_
        refine nt_norm ?_
        have e27 := Option.some.inj b12
        subst e27
        refine to_k (r := [(0, u0), (1, u1), (7, (.int .i64 (p0.length : Int))), (8, (.int .i64 (i3 + 1)))]) ⟨rfl, rfl, rfl, rfl, trivial⟩ ?_
        intro a ha
        exact ⟨_, (by rw [← m9]; omega), i3 + 1, o1, n13, rfl, (by omega), ha, hB⟩
    · have r28 := forN_done t14 l7
      refine wp_of ha ?_
      refine wpC_seq ?_
      refine wpC_region ?_
      refine st_val (ex_lss rfl rfl) (by decide) trivial ?_
      refine wpF_end (r := [(0, u0), (1, u1), (7, (.int .i64 (p0.length : Int))), (8, (.int .i64 i3)), (9, (.bool (decide (i3 < (p0.length : Int)))))]) ⟨rfl, rfl, rfl, rfl, rfl, trivial⟩ ?_
      refine nx ?_
      refine wpC_seq ?_
      refine wpC_false (congrArg (fun b => some (Value.bool b)) (decide_eq_false t14)) ?_
      refine wpC_exit ?_
      refine nt_exit ?_
      refine nt_exit ?_
      refine nb_hit ?_
      refine np_norm ?_
      refine to_k (r := []) trivial ?_
      intro a ha
      exact ⟨o1, r28, ha, hB⟩
  · rintro a w2 ⟨o1, rfl, ha, hB⟩
    dsimp only at hF
    refine ap_k ha ?_
    refine nx ?_
    refine wpC_seq ?_
    refine wpC_region ?_
    refine st_val (ex_assign rfl) (by decide) trivial ?_
    refine wpF_end (r := [(4, (.int .i64 (-1)))]) ⟨rfl, trivial⟩ ?_
    refine nx ?_
    refine wpC_ret ?_
    have e29 := Option.some.inj hF
    subst e29
    refine ret_post (P := Try.prog) (vs := [(.int .i64 (-1))]) Try.results145 ⟨rfl, trivial⟩ ?_
    exact ⟨rfl, hB.keeps⟩
  · rintro a w2 ⟨r', rfl, b30⟩
    dsimp only at hF
    have e31 := Option.some.inj hF
    subst e31
    exact b30

def fX_slices_ContainsFunc_int_int (p0 : List Int) (p1 : Int → Option Bool) : Option Bool :=
  (fX_slices_IndexFunc_int_int p0 p1) >>= fun x1 =>
  some (decide (x1 ≥ 0))

def pX_slices_ContainsFunc_int_int (w : World) (r : Bool) : Ending → World → Prop := fun e w' => e = .returned (.bool r) ∧ Keeps w w'
set_option maxRecDepth 100000 in
set_option maxHeartbeats 2000000 in
theorem cX_slices_ContainsFunc_int_int (w : World) (u0 : Value) (p0 : List Int) (g0 : RdL zt w u0 p0) (u1 : Value) (p1 : Int → Option Bool) (g1 : FnV Try.prog w u1 p1) (r : Bool) (hF : fX_slices_ContainsFunc_int_int p0 p1 = some r) :
    Calls Try.prog 135 #[u0, u1] w (pX_slices_ContainsFunc_int_int w r) := by
  unfold fX_slices_ContainsFunc_int_int at hF
  have hB : Bs (fun _ => 1) (col (fun _ => 1)) w w := Bs.start _ _
  refine calls_start (n := 9) (vs := [u0, u1]) Try.func135 rfl rfl ?_
  refine wpC_seq ?_
  refine wpC_region ?_
  refine st_val (ex_assign rfl) (by decide) trivial ?_
  refine wpF_end (r := [(0, u0), (1, u1)]) ⟨rfl, rfl, trivial⟩ ?_
  refine nx ?_
  refine wpC_seq ?_
  refine wpC_region ?_
  refine st_val (ex_move rfl) (by decide) trivial ?_
  refine st_val (ex_move rfl) (by decide) trivial ?_
  obtain ⟨x1, hx1, hF⟩ := bind_some hF
  refine st_op (by decide) trivial ?_
  refine wf_call (cX_slices_IndexFunc_int_int w _ p0 (g0.keep hB.keeps) _ p1 (g1.keep hB.keeps) x1 hx1) Try.call145 ⟨rfl, rfl, trivial⟩ ?_
  rintro e6 w2 ⟨rfl, k3⟩
  have s5 := k3.stp 999 (col (fun _ => 1))
  refine ⟨_, rfl, ?_⟩
  replace hB := hB.stp s5 (by decide)
  refine st_val (ex_geq rfl rfl) (by decide) trivial ?_
  refine st_val (ex_assign rfl) (by decide) trivial ?_
  refine wpF_end (r := [(4, (.bool (decide (x1 ≥ 0))))]) ⟨rfl, trivial⟩ ?_
  refine nx ?_
  refine wpC_ret ?_
  have e7 := Option.some.inj hF
  subst e7
  refine ret_post (P := Try.prog) (vs := [(.bool (decide (x1 ≥ 0)))]) Try.results135 ⟨rfl, trivial⟩ ?_
  exact ⟨rfl, hB.keeps⟩

def fI_allWithin_1 (p0 : Int) (p1 : Int) (p2 : Int) : Option Bool :=
  (fI_within p0 p1 p2) >>= fun x1 =>
  some (!x1)

def pI_allWithin_1 (w : World) (r : Bool) : Ending → World → Prop := fun e w' => e = .returned (.bool r) ∧ Keeps w w'
set_option maxRecDepth 100000 in
set_option maxHeartbeats 2000000 in
theorem cI_allWithin_1 (w : World) (p0 : Int) (b1 : Nat) (u1 : List Value) (p1 : Int) (k1 : Cells w b1 0 u1) (g1 : Rp.rd zt w u1 p1) (b2 : Nat) (u2 : List Value) (p2 : Int) (k2 : Cells w b2 0 u2) (g2 : Rp.rd zt w u2 p2) (r : Bool) (hF : fI_allWithin_1 p0 p1 p2 = some r) :
    Calls Try.prog 144 #[.int .i64 p0, .pointer (some ⟨b1, 0, none⟩), .pointer (some ⟨b2, 0, none⟩)] w (pI_allWithin_1 w r) := by
  unfold fI_allWithin_1 at hF
  have g1k := g1
  cases g1
  have g2k := g2
  cases g2
  have hB : Bs (fun _ => 1) (col (fun _ => 1)) w w := Bs.start _ _
  refine calls_start (n := 10) (vs := [(.int .i64 p0), (.pointer (some ⟨b1, 0, none⟩)), (.pointer (some ⟨b2, 0, none⟩))]) Try.func144 rfl rfl ?_
  refine wpC_seq ?_
  refine wpC_region ?_
  refine st_val (ex_assign rfl) (by decide) trivial ?_
  refine wpF_end (r := [(0, (.int .i64 p0)), (1, (.pointer (some ⟨b1, 0, none⟩))), (2, (.pointer (some ⟨b2, 0, none⟩)))]) ⟨rfl, rfl, rfl, trivial⟩ ?_
  refine nx ?_
  refine wpC_seq ?_
  refine wpC_region ?_
  refine st_val (ex_move rfl) (by decide) trivial ?_
  refine st_val (ex_load1 rfl Try.isAgg3 (cell_of_cells (k1.keep hB.keeps))) (by decide) trivial ?_
  refine st_val (ex_load1 rfl Try.isAgg3 (cell_of_cells (k2.keep hB.keeps))) (by decide) trivial ?_
  obtain ⟨x1, hx1, hF⟩ := bind_some hF
  refine st_op (by decide) trivial ?_
  refine wf_call (cI_within w p0 p1 p2 x1 hx1) Try.call95 ⟨rfl, rfl, rfl, trivial⟩ ?_
  rintro e6 w2 ⟨rfl, k3⟩
  have s5 := k3.stp 999 (col (fun _ => 1))
  refine ⟨_, rfl, ?_⟩
  replace hB := hB.stp s5 (by decide)
  refine st_val (ex_not rfl) (by decide) trivial ?_
  refine st_val (ex_assign rfl) (by decide) trivial ?_
  refine wpF_end (r := [(4, (.bool (!x1)))]) ⟨rfl, trivial⟩ ?_
  refine nx ?_
  refine wpC_ret ?_
  have e7 := Option.some.inj hF
  subst e7
  refine ret_post (P := Try.prog) (vs := [(.bool (!x1))]) Try.results144 ⟨rfl, trivial⟩ ?_
  exact ⟨rfl, hB.keeps⟩

def fI_allWithin (p0 : List Int) (p1 : Int) (p2 : Int) : Option Bool :=
  (fX_slices_ContainsFunc_int_int p0 (fun z11 => fI_allWithin_1 z11 p1 p2)) >>= fun x12 =>
  some (!x12)

def pI_allWithin (w : World) (r : Bool) : Ending → World → Prop := fun e w' => e = .returned (.bool r) ∧ Keeps w w'
set_option maxRecDepth 100000 in
set_option maxHeartbeats 2000000 in
theorem cI_allWithin (w : World) (u0 : Value) (p0 : List Int) (g0 : RdL zt w u0 p0) (p1 : Int) (p2 : Int) (r : Bool) (hF : fI_allWithin p0 p1 p2 = some r) :
    Calls Try.prog 131 #[u0, .int .i64 p1, .int .i64 p2] w (pI_allWithin w r) := by
  unfold fI_allWithin at hF
  have hB : Bs (fun _ => 1) (col (fun _ => 1)) w w := Bs.start _ _
  refine calls_start (n := 11) (vs := [u0, (.int .i64 p1), (.int .i64 p2)]) Try.func131 rfl rfl ?_
  refine wpC_seq ?_
  refine wpC_region ?_
  refine st_op (by decide) trivial ?_
  refine wf_box (o := (col (fun _ => 1))) w.heap.size 11 hB.keeps.size (cs := [(.int .i64 p1)]) rfl rfl ?_
  intro o1 w2 b3 h4 s5
  replace hB := hB.stp s5 (by decide)
  refine st_op (by decide) trivial ?_
  refine wf_box (o := o1) w.heap.size 12 hB.keeps.size (cs := [(.int .i64 p2)]) rfl rfl ?_
  intro o6 w7 b8 h9 s10
  replace h4 := h4.stp s10 (by decide)
  replace hB := hB.stp s10 (by decide)
  refine st_val (ex_assign rfl) (by decide) trivial ?_
  refine wpF_end (r := [(0, u0), (4, (.pointer (some ⟨b3, 0, none⟩))), (5, (.pointer (some ⟨b8, 0, none⟩)))]) ⟨rfl, rfl, rfl, trivial⟩ ?_
  refine nx ?_
  refine wpC_seq ?_
  refine wpC_region ?_
  refine st_val (ex_move rfl) (by decide) trivial ?_
  refine st_val (ex_func (vs := [(.pointer (some ⟨b3, 0, none⟩)), (.pointer (some ⟨b8, 0, none⟩))]) ⟨rfl, rfl, trivial⟩) (by decide) trivial ?_
  obtain ⟨x12, hx12, hF⟩ := bind_some hF
  refine st_op (by decide) trivial ?_
  refine wf_call (cX_slices_ContainsFunc_int_int w7 _ p0 (g0.keep hB.keeps) _ (fun z11 => fI_allWithin_1 z11 p1 p2) (show FnV Try.prog w7 (.func (.func 144) #[] #[(.pointer (some ⟨b3, 0, none⟩)), (.pointer (some ⟨b8, 0, none⟩))]) (fun z11 => fI_allWithin_1 z11 p1 p2) from ⟨_, _, rfl, Try.call144, fun ww vs xx rr kk hok hG => by (cases hok; exact cI_allWithin_1 ww xx b3 _ p1 ((h4.cells).keep kk) (Rp.keep ((show Rp.rd zt w7 [(.int .i64 p1)] (p1 : Int) from rfl)) kk) b8 _ p2 ((h9.cells).keep kk) (Rp.keep ((show Rp.rd zt w7 [(.int .i64 p2)] (p2 : Int) from rfl)) kk) rr hG)⟩) x12 hx12) Try.call135 ⟨rfl, rfl, trivial⟩ ?_
  rintro e17 w13 ⟨rfl, k14⟩
  have s16 := k14.stp 999 o6
  refine ⟨_, rfl, ?_⟩
  replace h4 := h4.stp s16 (by decide)
  replace h9 := h9.stp s16 (by decide)
  replace hB := hB.stp s16 (by decide)
  refine st_val (ex_not rfl) (by decide) trivial ?_
  refine st_val (ex_assign rfl) (by decide) trivial ?_
  refine wpF_end (r := [(6, (.bool (!x12)))]) ⟨rfl, trivial⟩ ?_
  refine nx ?_
  refine wpC_ret ?_
  have e18 := Option.some.inj hF
  subst e18
  refine ret_post (P := Try.prog) (vs := [(.bool (!x12))]) Try.results131 ⟨rfl, trivial⟩ ?_
  exact ⟨rfl, hB.keeps⟩

def fX_slices_Compare_int_int_s1 (p1 : List Int) : Int → Int → Unit → Option (Lp Unit Unit Int) := fun (i3 : Int) (x13 : Int) (s : Unit) =>
  if decide (i3 ≥ (p1.length : Int)) then
    some (.ret 1)
  else
    (ix p1 i3) >>= fun x21 =>
    (fX_cmp_Compare_int x13 x21) >>= fun x27 =>
    if x27 != 0 then
      some (.ret x27)
    else
      some (.go ())
def fX_slices_Compare_int_int (p0 : List Int) (p1 : List Int) : Option Int :=
  (forI (fX_slices_Compare_int_int_s1 p1) p0 0 ()) >>= fun q4 =>
  match q4 with
  | .inl _ =>
    if decide ((p0.length : Int) < (p1.length : Int)) then
      some (-1)
    else
      some 0
  | .inr r' => some r'

def pX_slices_Compare_int_int (w : World) (r : Int) : Ending → World → Prop := fun e w' => e = .returned (.int .i64 r) ∧ Keeps w w'
set_option maxRecDepth 100000 in
set_option maxHeartbeats 2000000 in
theorem cX_slices_Compare_int_int (w : World) (u0 : Value) (p0 : List Int) (g0 : RdL zt w u0 p0) (u1 : Value) (p1 : List Int) (g1 : RdL zt w u1 p1) (r : Int) (hF : fX_slices_Compare_int_int p0 p1 = some r) :
    Calls Try.prog 107 #[u0, u1] w (pX_slices_Compare_int_int w r) := by
  unfold fX_slices_Compare_int_int at hF
  have hB : Bs (fun _ => 1) (col (fun _ => 1)) w w := Bs.start _ _
  refine calls_start (n := 36) (vs := [u0, u1]) Try.func107 rfl rfl ?_
  refine wpC_seq ?_
  refine wpC_region ?_
  refine st_val (ex_assign rfl) (by decide) trivial ?_
  refine wpF_end (r := [(0, u0), (1, u1)]) ⟨rfl, rfl, trivial⟩ ?_
  refine nx ?_
  refine wpC_seq ?_
  refine wpC_seq ?_
  refine wpC_region ?_
  refine st_val (ex_move rfl) (by decide) trivial ?_
  refine st_val (ex_lenR rfl g0 Try.underlying23) (by decide) trivial ?_
  refine st_val (ex_move rfl) (by decide) trivial ?_
  refine wpF_end (r := [(0, u0), (1, u1), (9, u0), (10, (.int .i64 (p0.length : Int))), (11, (.int .i64 0))]) ⟨rfl, rfl, rfl, rfl, rfl, trivial⟩ ?_
  refine nx ?_
  obtain ⟨q4, hq4, hF⟩ := bind_some hF
  refine wpC_cutN (fun a w2 => ∃ (o1 : Tg), q4 = .inl () ∧ Fr a 36 [(0, u0), (1, u1)] ∧ Bs (fun _ => 1) o1 w w2) (fun a w' => ∃ r', q4 = .inr r' ∧ bodyPost Try.prog Try.f107 (pX_slices_Compare_int_int w r') .ret a w') ?_ ?_ ?_
  · refine wpC_block ?_
    refine wpC_loop (fun (K : Nat) a w2 => ∃ (i3 : Int) (o1 : Tg), forI (fX_slices_Compare_int_int_s1 p1) (p0.drop i3.toNat) i3 () = some q4 ∧ (p0.drop i3.toNat).length = K ∧ 0 ≤ i3 ∧ Fr a 36 [(0, u0), (1, u1), (9, u0), (10, (.int .i64 (p0.length : Int))), (11, (.int .i64 i3))] ∧ Bs (fun _ => 1) o1 w w2) _ (fun a ha => ⟨0, (col (fun _ => 1)), hq4, rfl, Int.le_refl 0, ha.sub (r := [(0, u0), (1, u1), (9, u0), (10, (.int .i64 (p0.length : Int))), (11, (.int .i64 0))]) ⟨rfl, rfl, rfl, rfl, rfl, trivial⟩, hB⟩) ?_
    rintro K8 a w2 ⟨i3, o1, l5, m7, z6, ha, hB⟩
    by_cases t12 : i3 < (p0.length : Int)
    · obtain ⟨x13, q9, hx13, b10, n11⟩ := forI_cons z6 t12 l5
      have hle := g0.len_le
      dsimp only [fX_slices_Compare_int_int_s1] at b10
      refine wp_of ha ?_
      refine wpC_seq ?_
      refine wpC_region ?_
      refine st_val (ex_lss rfl rfl) (by decide) trivial ?_
      refine wpF_end (r := [(0, u0), (1, u1), (9, u0), (10, (.int .i64 (p0.length : Int))), (11, (.int .i64 i3)), (12, (.bool (decide (i3 < (p0.length : Int)))))]) ⟨rfl, rfl, rfl, rfl, rfl, rfl, trivial⟩ ?_
      refine nx ?_
      refine wpC_seq ?_
      refine wpC_true (congrArg (fun b => some (Value.bool b)) (decide_eq_true t12)) ?_
      refine wpC_skip ?_
      refine nx ?_
      refine wpC_seq ?_
      refine wpC_block ?_
      refine wpC_seq ?_
      refine wpC_region ?_
      refine st_val (ex_move rfl) (by decide) trivial ?_
      refine st_op (by decide) trivial ?_
      refine wf_atZ g0 hx13 hB rfl rfl Try.underlying23 Try.sizeOf3 ?_
      intro b14 f15 c16 h17 h18
      cases h18
      refine st_val (ex_load1 rfl Try.isAgg3 (cell_of_cells h17)) (by decide) trivial ?_
      refine st_val (ex_assign rfl) (by decide) trivial ?_
      refine st_val (ex_assign rfl) (by decide) trivial ?_
      refine wpF_end (r := [(0, u0), (1, u1), (5, (.int .i64 i3)), (6, (.int .i64 x13)), (9, u0), (10, (.int .i64 (p0.length : Int))), (11, (.int .i64 i3))]) ⟨rfl, rfl, rfl, rfl, rfl, rfl, rfl, trivial⟩ ?_
      refine nx ?_
      refine wpC_seq ?_
      refine wpC_seq ?_
      refine wpC_region ?_
      refine st_val (ex_move rfl) (by decide) trivial ?_
      refine st_val (ex_move rfl) (by decide) trivial ?_
      refine st_val (ex_lenR rfl g1 Try.underlying23) (by decide) trivial ?_
      refine st_val (ex_geq rfl rfl) (by decide) trivial ?_
      refine wpF_end (r := [(0, u0), (1, u1), (5, (.int .i64 i3)), (6, (.int .i64 x13)), (9, u0), (10, (.int .i64 (p0.length : Int))), (11, (.int .i64 i3)), (19, (.bool (decide (i3 ≥ (p1.length : Int)))))]) ⟨rfl, rfl, rfl, rfl, rfl, rfl, rfl, rfl, trivial⟩ ?_
      refine nx ?_
      refine wpC_cond rfl (fun t19 => ?_) (fun t19 => ?_)
      · rw [if_pos t19] at b10
        refine wpC_seq ?_
        refine wpC_region ?_
        refine st_val (ex_assign rfl) (by decide) trivial ?_
        refine wpF_end (r := [(4, (.int .i64 1))]) ⟨rfl, trivial⟩ ?_
        refine nx ?_
        refine wpC_ret ?_
        refine nt_ret ?_
        refine nb_ret ?_
        refine nt_ret ?_
        refine nt_ret ?_
        refine nb_ret ?_
        refine np_ret ?_
        have e20 := Option.some.inj b10
        subst e20
        refine fun a ha => ⟨_, n11, ?_⟩
        refine ret_post (P := Try.prog) (vs := [(.int .i64 1)]) Try.results107 ⟨rfl, trivial⟩ ?_ a ha
        exact ⟨rfl, hB.keeps⟩
      · rw [if_neg (by rw [t19]; decide)] at b10
        refine wpC_skip ?_
        refine nx ?_
        refine wpC_seq ?_
        refine wpC_region ?_
        refine st_val (ex_move rfl) (by decide) trivial ?_
        refine st_val (ex_move rfl) (by decide) trivial ?_
        obtain ⟨x21, hx21, b10⟩ := bind_some b10
        refine st_op (by decide) trivial ?_
        refine wf_atZ g1 hx21 hB rfl rfl Try.underlying23 Try.sizeOf3 ?_
        intro b22 f23 c24 h25 h26
        cases h26
        refine st_val (ex_load1 rfl Try.isAgg3 (cell_of_cells h25)) (by decide) trivial ?_
        refine st_val (ex_assign rfl) (by decide) trivial ?_
        refine wpF_end (r := [(0, u0), (1, u1), (6, (.int .i64 x13)), (7, (.int .i64 x21)), (9, u0), (10, (.int .i64 (p0.length : Int))), (11, (.int .i64 i3))]) ⟨rfl, rfl, rfl, rfl, rfl, rfl, rfl, trivial⟩ ?_
        refine nx ?_
        refine wpC_seq ?_
        refine wpC_region ?_
        refine st_val (ex_move rfl) (by decide) trivial ?_
        refine st_val (ex_move rfl) (by decide) trivial ?_
        obtain ⟨x27, hx27, b10⟩ := bind_some b10
        refine st_op (by decide) trivial ?_
        refine wf_call (cX_cmp_Compare_int w2 x13 x21 x27 hx27) Try.call126 ⟨rfl, rfl, trivial⟩ ?_
        rintro e32 w28 ⟨rfl, k29⟩
        have s31 := k29.stp 999 o1
        refine ⟨_, rfl, ?_⟩
        replace hB := hB.stp s31 (by decide)
        refine st_val (ex_assign rfl) (by decide) trivial ?_
        refine wpF_end (r := [(0, u0), (1, u1), (8, (.int .i64 x27)), (9, u0), (10, (.int .i64 (p0.length : Int))), (11, (.int .i64 i3))]) ⟨rfl, rfl, rfl, rfl, rfl, rfl, trivial⟩ ?_
        refine nx ?_
        refine wpC_seq ?_
        refine wpC_region ?_
        refine st_val (ex_move rfl) (by decide) trivial ?_
        refine st_val (ex_neq rfl rfl) (by decide) trivial ?_
        refine wpF_end (r := [(0, u0), (1, u1), (8, (.int .i64 x27)), (9, u0), (10, (.int .i64 (p0.length : Int))), (11, (.int .i64 i3)), (28, (.bool (x27 != 0)))]) ⟨rfl, rfl, rfl, rfl, rfl, rfl, rfl, trivial⟩ ?_
        refine nx ?_
        refine wpC_cond rfl (fun t33 => ?_) (fun t33 => ?_)
        · rw [if_pos t33] at b10
          refine wpC_seq ?_
          refine wpC_region ?_
          refine st_val (ex_move rfl) (by decide) trivial ?_
          refine st_val (ex_assign rfl) (by decide) trivial ?_
          refine wpF_end (r := [(4, (.int .i64 x27))]) ⟨rfl, trivial⟩ ?_
          refine nx ?_
          refine wpC_ret ?_
          refine nb_ret ?_
          refine nt_ret ?_
          refine nt_ret ?_
          refine nb_ret ?_
          refine np_ret ?_
          have e34 := Option.some.inj b10
          subst e34
          refine fun a ha => ⟨_, n11, ?_⟩
          refine ret_post (P := Try.prog) (vs := [(.int .i64 x27)]) Try.results107 ⟨rfl, trivial⟩ ?_ a ha
          exact ⟨rfl, hB.keeps⟩
        · rw [if_neg (by rw [t33]; decide)] at b10
          refine wpC_skip ?_
          refine nb_norm ?_
          refine nx ?_
          refine wpC_region ?_
          refine st_val (ex_add rfl rfl (ck_in (by omega) (by omega))) (by decide) trivial ?_
          refine st_val (ex_move rfl) (by decide) trivial ?_
          refine wpF_end (r := [(0, u0), (1, u1), (9, u0), (10, (.int .i64 (p0.length : Int))), (11, (.int .i64 (i3 + 1)))]) ⟨rfl, rfl, rfl, rfl, rfl, trivial⟩ ?_
          refine nt_norm ?_
          have e35 := Option.some.inj b10
          subst e35
          refine to_k (r := [(0, u0), (1, u1), (9, u0), (10, (.int .i64 (p0.length : Int))), (11, (.int .i64 (i3 + 1)))]) ⟨rfl, rfl, rfl, rfl, rfl, trivial⟩ ?_
          intro a ha
          exact ⟨_, (by rw [← m7]; simp only [List.length_drop]; omega), i3 + 1, o1, n11, rfl, (by omega), ha, hB⟩
    · have r36 := forI_done t12 l5
      refine wp_of ha ?_
      refine wpC_seq ?_
      refine wpC_region ?_
      refine st_val (ex_lss rfl rfl) (by decide) trivial ?_
      refine wpF_end (r := [(0, u0), (1, u1), (9, u0), (10, (.int .i64 (p0.length : Int))), (11, (.int .i64 i3)), (12, (.bool (decide (i3 < (p0.length : Int)))))]) ⟨rfl, rfl, rfl, rfl, rfl, rfl, trivial⟩ ?_
      refine nx ?_
      refine wpC_seq ?_
      refine wpC_false (congrArg (fun b => some (Value.bool b)) (decide_eq_false t12)) ?_
      refine wpC_exit ?_
      refine nt_exit ?_
      refine nt_exit ?_
      refine nb_hit ?_
      refine np_norm ?_
      refine to_k (r := [(0, u0), (1, u1)]) ⟨rfl, rfl, trivial⟩ ?_
      intro a ha
      exact ⟨o1, r36, ha, hB⟩
  · rintro a w2 ⟨o1, rfl, ha, hB⟩
    dsimp only at hF
    refine ap_k ha ?_
    refine nx ?_
    refine wpC_seq ?_
    refine wpC_seq ?_
    refine wpC_region ?_
    refine st_val (ex_move rfl) (by decide) trivial ?_
    refine st_val (ex_lenR rfl g0 Try.underlying23) (by decide) trivial ?_
    refine st_val (ex_move rfl) (by decide) trivial ?_
    refine st_val (ex_lenR rfl g1 Try.underlying23) (by decide) trivial ?_
    refine st_val (ex_lss rfl rfl) (by decide) trivial ?_
    refine wpF_end (r := [(35, (.bool (decide ((p0.length : Int) < (p1.length : Int)))))]) ⟨rfl, trivial⟩ ?_
    refine nx ?_
    refine wpC_cond rfl (fun t37 => ?_) (fun t37 => ?_)
    · rw [if_pos t37] at hF
      refine wpC_seq ?_
      refine wpC_region ?_
      refine st_val (ex_assign rfl) (by decide) trivial ?_
      refine wpF_end (r := [(4, (.int .i64 (-1)))]) ⟨rfl, trivial⟩ ?_
      refine nx ?_
      refine wpC_ret ?_
      refine nt_ret ?_
      have e38 := Option.some.inj hF
      subst e38
      refine ret_post (P := Try.prog) (vs := [(.int .i64 (-1))]) Try.results107 ⟨rfl, trivial⟩ ?_
      exact ⟨rfl, hB.keeps⟩
    · rw [if_neg (by rw [t37]; decide)] at hF
      refine wpC_skip ?_
      refine nx ?_
      refine wpC_seq ?_
      refine wpC_region ?_
      refine st_val (ex_assign rfl) (by decide) trivial ?_
      refine wpF_end (r := [(4, (.int .i64 0))]) ⟨rfl, trivial⟩ ?_
      refine nx ?_
      refine wpC_ret ?_
      have e39 := Option.some.inj hF
      subst e39
      refine ret_post (P := Try.prog) (vs := [(.int .i64 0)]) Try.results107 ⟨rfl, trivial⟩ ?_
      exact ⟨rfl, hB.keeps⟩
  · rintro a w2 ⟨r', rfl, b40⟩
    dsimp only at hF
    have e41 := Option.some.inj hF
    subst e41
    exact b40

def fX_slices_IsSorted_int_int_s1 (p0 : List Int) : Int → Option (Lp Int Int Bool) := fun (s : Int) =>
  if decide (s > 0) then
    (ix p0 s) >>= fun x16 =>
    (ck (s - 1)) >>= fun x19 =>
    (ix p0 x19) >>= fun x20 =>
    (fX_cmp_Less_int x16 x20) >>= fun x72 =>
    if x72 then
      some (.ret false)
    else
      (ck (s - 1)) >>= fun x80 =>
      some (.go x80)
  else
    some (.out s)
def fX_slices_IsSorted_int_int (fuel : Nat) (p0 : List Int) : Option Bool :=
  (ck ((p0.length : Int) - 1)) >>= fun x1 =>
  (loopF (fX_slices_IsSorted_int_int_s1 p0) fuel x1) >>= fun q5 =>
  match q5 with
  | .inl y2 =>
    some true
  | .inr r' => some r'

end Go.Proofs.Ytijaojnaamkinaa
