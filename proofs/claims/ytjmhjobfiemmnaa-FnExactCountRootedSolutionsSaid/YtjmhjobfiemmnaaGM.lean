/- spec.roTree, spec.roAsked, spec.SolveDown, impl.IsRootedTree$1, slices.IndexFunc[[][]int,[]int], slices.ContainsFunc[[][]int,[]int], impl.IsRootedTree, impl.rootedOk, impl.SolveDown$1, impl.SolveDown: plain functions, and the walks that show that the program computes them (printed by gen.py). -/
import Derived.Test.YtjmhjobfiemmnaaGC
import Derived.Test.YtjmhjobfiemmnaaGL
import Derived.Test.YtjmhjobfiemmnaaGIx
namespace Go.Proofs.Ytjmhjobfiemmnaa
open Go.RowKit
set_option linter.unusedSimpArgs false
set_option linter.unusedVariables false

theorem info2_t_int_M : Inf Try.prog 3 (.int .i64 0) 1 8 := by unfold Inf; kernel_rfl

def fS_roTree_s1 : Int → Int → Unit → Option (Lp Unit Unit Bool) := fun (i24 : Int) (x34 : Int) (s : Unit) =>
  (ck (i24 - 1)) >>= fun x40 =>
  (fS_l1In x34 0 x40) >>= fun x41 =>
  (
    if !x41 then
      if decide (i24 > 0) then
        some true
      else
        some (x34 != (-1))
    else
      some false) >>= fun q47 =>
  if q47 then
    some (.ret false)
  else
    some (.go ())
def fS_roTree_s2 (p0 : Int) : Int → (List Int) → Unit → Option (Lp Unit Unit Bool) := fun (i72 : Int) (x82 : List Int) (s : Unit) =>
  (
    if (x82.length : Int) != 0 then
      some ((x82.length : Int) != p0)
    else
      some false) >>= fun q92 =>
  if q92 then
    some (.ret false)
  else
    some (.go ())
def fS_roTree (p0 : Int) (p1 : List Int) : Option Bool :=
  (fS_l1In p0 1 3) >>= fun x1 =>
  (
    if !x1 then
      some true
    else
      (fS_l1In (p1.length : Int) 1 200) >>= fun x11 =>
      some (!x11)) >>= fun q7 =>
  if q7 then
    some false
  else
    (forI (fS_roTree_s1) p1 0 ()) >>= fun q25 =>
    match q25 with
    | .inl _ =>
      (fS_roBelow p1) >>= fun x59 =>
      (forI (fS_roTree_s2 p0) x59 0 ()) >>= fun q73 =>
      match q73 with
      | .inl _ =>
        some true
      | .inr r' => some r'
    | .inr r' => some r'

def pS_roTree (w : World) (r : Bool) : Ending → World → Prop := fun e w' => e = .returned (.bool r) ∧ Keeps w w'
set_option maxRecDepth 100000 in
set_option maxHeartbeats 2000000 in
theorem cS_roTree (w : World) (p0 : Int) (u1 : Value) (p1 : List Int) (g1 : RdL zt w u1 p1) (r : Bool) (hF : fS_roTree p0 p1 = some r) :
    Calls Try.prog 42 #[.int .i64 p0, u1] w (pS_roTree w r) := by
  unfold fS_roTree at hF
  have hB : Bs (fun _ => 1) (col (fun _ => 1)) w w := Bs.start _ _
  refine calls_start (n := 56) (vs := [(.int .i64 p0), u1]) Try.func42 rfl rfl ?_
  refine wpC_seq ?_
  refine wpC_region ?_
  refine st_val (ex_assign rfl) (by decide) trivial ?_
  refine wpF_end (r := [(0, (.int .i64 p0)), (1, u1)]) ⟨rfl, rfl, trivial⟩ ?_
  refine nx ?_
  refine wpC_seq ?_
  refine wpC_seq ?_
  refine wpC_region ?_
  refine st_val (ex_move rfl) (by decide) trivial ?_
  obtain ⟨x1, hx1, hF⟩ := bind_some hF
  refine st_op (by decide) trivial ?_
  refine wf_call (cS_l1In w p0 1 3 x1 hx1) Try.call52 ⟨rfl, rfl, rfl, trivial⟩ ?_
  rintro e6 w2 ⟨rfl, k3⟩
  have s5 := k3.stp 999 (col (fun _ => 1))
  refine ⟨_, rfl, ?_⟩
  replace hB := hB.stp s5 (by decide)
  refine st_val (ex_not rfl) (by decide) trivial ?_
  refine st_val (ex_move rfl) (by decide) trivial ?_
  obtain ⟨q7, hq7, hF⟩ := bind_some hF
  refine wpF_cutAt 5 (fun a9 w8 => Fr a9 56 [(0, (.int .i64 p0)), (1, u1), (17, (.bool q7))] ∧ Keeps w2 w8) ?_ ?_
  all_goals simp only [List.take_succ_cons, List.take_zero, List.drop_succ_cons, List.drop_zero]
  · have kp : Keeps w2 w2 := Keeps.refl _
    rcases Bool.eq_false_or_eq_true (!x1) with t10 | t10
    · rw [if_pos t10] at hq7
      refine st_no rfl rfl (by rw [t10]; rfl) (by decide) ?_
      refine st_no rfl rfl (by rw [t10]; rfl) (by decide) ?_
      refine st_no rfl rfl (by rw [t10]; rfl) (by decide) ?_
      refine st_no rfl rfl (by rw [t10]; rfl) (by decide) ?_
      refine st_val (ex_pick_t (congrArg (fun b => some (Value.bool b)) t10) rfl) (by decide) trivial ?_
      have hq72 := Option.some.inj hq7
      refine wpF_end (r := [(0, (.int .i64 p0)), (1, u1), (17, (.bool true))]) ⟨rfl, rfl, rfl, trivial⟩ ?_
      subst hq72
      refine np_norm (fun a ha => ⟨ha, kp⟩)
    · rw [if_neg (by rw [t10]; decide)] at hq7
      refine st_val (ex_move rfl) (by decide) ⟨_, rfl, (congrArg (fun b => some (Value.bool b)) t10)⟩ ?_
      refine st_val (ex_lenR rfl g1 Try.underlying25) (by decide) ⟨_, rfl, (congrArg (fun b => some (Value.bool b)) t10)⟩ ?_
      obtain ⟨x11, hx11, hq7⟩ := bind_some hq7
      refine st_op (by decide) ⟨_, rfl, (congrArg (fun b => some (Value.bool b)) t10)⟩ ?_
      refine wf_call (cS_l1In w2 (p1.length : Int) 1 200 x11 hx11) Try.call52 ⟨rfl, rfl, rfl, trivial⟩ ?_
      rintro e16 w12 ⟨rfl, k13⟩
      have s15 := k13.stp 999 (col (fun _ => 1))
      refine ⟨_, rfl, ?_⟩
      replace hB := hB.stp s15 (by decide)
      replace kp := Keeps.trans kp k13
      refine st_val (ex_not rfl) (by decide) ⟨_, rfl, (congrArg (fun b => some (Value.bool b)) t10)⟩ ?_
      refine st_val (ex_pick_f (congrArg (fun b => some (Value.bool b)) t10) rfl) (by decide) trivial ?_
      have hq72 := Option.some.inj hq7
      refine wpF_end (r := [(0, (.int .i64 p0)), (1, u1), (17, (.bool (!x11)))]) ⟨rfl, rfl, rfl, trivial⟩ ?_
      subst hq72
      refine np_norm (fun a ha => ⟨ha, kp⟩)
  rintro a19 w8 ⟨ha, k17⟩
  have s18 := k17.stp 999 (col (fun _ => 1))
  replace hB := hB.stp s18 (by decide)
  refine wl_of ha ?_
  refine wpF_end (r := [(0, (.int .i64 p0)), (1, u1), (17, (.bool q7))]) ⟨rfl, rfl, rfl, trivial⟩ ?_
  refine nx ?_
  refine wpC_cond rfl (fun t20 => ?_) (fun t20 => ?_)
  · rw [if_pos t20] at hF
    refine wpC_seq ?_
    refine wpC_region ?_
    refine st_val (ex_assign rfl) (by decide) trivial ?_
    refine wpF_end (r := [(4, (.bool false))]) ⟨rfl, trivial⟩ ?_
    refine nx ?_
    refine wpC_ret ?_
    refine nt_ret ?_
    have e21 := Option.some.inj hF
    subst e21
    refine ret_post (P := Try.prog) (vs := [(.bool false)]) Try.results42 ⟨rfl, trivial⟩ ?_
    exact ⟨rfl, hB.keeps⟩
  · rw [if_neg (by rw [t20]; decide)] at hF
    refine wpC_skip ?_
    refine nx ?_
    refine wpC_seq ?_
    refine wpC_seq ?_
    refine wpC_region ?_
    refine st_val (ex_move rfl) (by decide) trivial ?_
    refine st_val (ex_lenR rfl g1 Try.underlying25) (by decide) trivial ?_
    refine st_val (ex_move rfl) (by decide) trivial ?_
    refine wpF_end (r := [(0, (.int .i64 p0)), (1, u1), (18, u1), (19, (.int .i64 (p1.length : Int))), (20, (.int .i64 0))]) ⟨rfl, rfl, rfl, rfl, rfl, trivial⟩ ?_
    refine nx ?_
    obtain ⟨q25, hq25, hF⟩ := bind_some hF
    refine wpC_cutN (fun a w23 => ∃ (o22 : Tg), q25 = .inl () ∧ Fr a 56 [(0, (.int .i64 p0)), (1, u1)] ∧ Bs (fun _ => 1) o22 w w23) (fun a w' => ∃ r', q25 = .inr r' ∧ bodyPost Try.prog Try.f42 (pS_roTree w r') .ret a w') ?_ ?_ ?_
    · refine wpC_block ?_
      refine wpC_loop (fun (K : Nat) a w23 => ∃ (i24 : Int) (o22 : Tg), forI (fS_roTree_s1) (p1.drop i24.toNat) i24 () = some q25 ∧ (p1.drop i24.toNat).length = K ∧ 0 ≤ i24 ∧ Fr a 56 [(0, (.int .i64 p0)), (1, u1), (18, u1), (19, (.int .i64 (p1.length : Int))), (20, (.int .i64 i24))] ∧ Bs (fun _ => 1) o22 w w23) _ (fun a ha => ⟨0, (col (fun _ => 1)), hq25, rfl, Int.le_refl 0, ha.sub (r := [(0, (.int .i64 p0)), (1, u1), (18, u1), (19, (.int .i64 (p1.length : Int))), (20, (.int .i64 0))]) ⟨rfl, rfl, rfl, rfl, rfl, trivial⟩, hB⟩) ?_
      rintro K29 a w23 ⟨i24, o22, l26, m28, z27, ha, hB⟩
      by_cases t33 : i24 < (p1.length : Int)
      · obtain ⟨x34, q30, hx34, b31, n32⟩ := forI_cons z27 t33 l26
        have hle := g1.len_le
        dsimp only [fS_roTree_s1] at b31
        refine wp_of ha ?_
        refine wpC_seq ?_
        refine wpC_region ?_
        refine st_val (ex_lss rfl rfl) (by decide) trivial ?_
        refine wpF_end (r := [(0, (.int .i64 p0)), (1, u1), (18, u1), (19, (.int .i64 (p1.length : Int))), (20, (.int .i64 i24)), (21, (.bool (decide (i24 < (p1.length : Int)))))]) ⟨rfl, rfl, rfl, rfl, rfl, rfl, trivial⟩ ?_
        refine nx ?_
        refine wpC_seq ?_
        refine wpC_true (congrArg (fun b => some (Value.bool b)) (decide_eq_true t33)) ?_
        refine wpC_skip ?_
        refine nx ?_
        refine wpC_seq ?_
        refine wpC_block ?_
        refine wpC_seq ?_
        refine wpC_region ?_
        refine st_val (ex_move rfl) (by decide) trivial ?_
        refine st_op (by decide) trivial ?_
        refine wf_atZ g1 hx34 hB rfl rfl Try.underlying25 Try.sizeOf3 ?_
        intro b35 f36 c37 h38 h39
        cases h39
        refine st_val (ex_load1 rfl Try.isAgg3 (cell_of_cells h38)) (by decide) trivial ?_
        refine st_val (ex_assign rfl) (by decide) trivial ?_
        refine st_val (ex_assign rfl) (by decide) trivial ?_
        refine wpF_end (r := [(0, (.int .i64 p0)), (1, u1), (5, (.int .i64 i24)), (6, (.int .i64 x34)), (18, u1), (19, (.int .i64 (p1.length : Int))), (20, (.int .i64 i24))]) ⟨rfl, rfl, rfl, rfl, rfl, rfl, rfl, trivial⟩ ?_
        refine nx ?_
        refine wpC_seq ?_
        refine wpC_region ?_
        refine st_val (ex_move rfl) (by decide) trivial ?_
        refine st_val (ex_move rfl) (by decide) trivial ?_
        obtain ⟨x40, hx40, b31⟩ := bind_some b31
        refine st_val (ex_sub rfl rfl hx40) (by decide) trivial ?_
        obtain ⟨x41, hx41, b31⟩ := bind_some b31
        refine st_op (by decide) trivial ?_
        refine wf_call (cS_l1In w23 x34 0 x40 x41 hx41) Try.call52 ⟨rfl, rfl, rfl, trivial⟩ ?_
        rintro e46 w42 ⟨rfl, k43⟩
        have s45 := k43.stp 999 o22
        refine ⟨_, rfl, ?_⟩
        replace hB := hB.stp s45 (by decide)
        refine st_val (ex_not rfl) (by decide) trivial ?_
        refine st_val (ex_move rfl) (by decide) trivial ?_
        obtain ⟨q47, hq47, b31⟩ := bind_some b31
        refine wpF_cutAt 7 (fun a49 w48 => Fr a49 56 [(0, (.int .i64 p0)), (1, u1), (18, u1), (19, (.int .i64 (p1.length : Int))), (20, (.int .i64 i24)), (37, (.bool q47))] ∧ Keeps w42 w48) ?_ ?_
        all_goals simp only [List.take_succ_cons, List.take_zero, List.drop_succ_cons, List.drop_zero]
        · have kp : Keeps w42 w42 := Keeps.refl _
          rcases Bool.eq_false_or_eq_true (!x41) with t50 | t50
          · rw [if_pos t50] at hq47
            refine st_val (ex_move rfl) (by decide) ⟨_, rfl, (congrArg (fun b => some (Value.bool b)) t50)⟩ ?_
            refine st_val (ex_gtr rfl rfl) (by decide) ⟨_, rfl, (congrArg (fun b => some (Value.bool b)) t50)⟩ ?_
            refine st_val (ex_move rfl) (by decide) ⟨_, rfl, (congrArg (fun b => some (Value.bool b)) t50)⟩ ?_
            rcases Bool.eq_false_or_eq_true (decide (i24 > 0)) with t51 | t51
            · rw [if_pos t51] at hq47
              refine st_no rfl rfl (by rw [t51]; rfl) (by decide) ?_
              refine st_no rfl rfl (by rw [t51]; rfl) (by decide) ?_
              refine st_val (ex_pick_t (congrArg (fun b => some (Value.bool b)) t51) rfl) (by decide) ⟨_, rfl, (congrArg (fun b => some (Value.bool b)) t50)⟩ ?_
              refine st_val (ex_pick_t (congrArg (fun b => some (Value.bool b)) t50) rfl) (by decide) trivial ?_
              have hq472 := Option.some.inj hq47
              refine wpF_end (r := [(0, (.int .i64 p0)), (1, u1), (18, u1), (19, (.int .i64 (p1.length : Int))), (20, (.int .i64 i24)), (37, (.bool true))]) ⟨rfl, rfl, rfl, rfl, rfl, rfl, trivial⟩ ?_
              subst hq472
              refine np_norm (fun a ha => ⟨ha, kp⟩)
            · rw [if_neg (by rw [t51]; decide)] at hq47
              refine st_val (ex_move rfl) (by decide) ⟨_, rfl, (congrArg (fun b => some (Value.bool b)) t51)⟩ ?_
              refine st_val (ex_neq rfl rfl) (by decide) ⟨_, rfl, (congrArg (fun b => some (Value.bool b)) t51)⟩ ?_
              refine st_val (ex_pick_f (congrArg (fun b => some (Value.bool b)) t51) rfl) (by decide) ⟨_, rfl, (congrArg (fun b => some (Value.bool b)) t50)⟩ ?_
              refine st_val (ex_pick_t (congrArg (fun b => some (Value.bool b)) t50) rfl) (by decide) trivial ?_
              have hq472 := Option.some.inj hq47
              refine wpF_end (r := [(0, (.int .i64 p0)), (1, u1), (18, u1), (19, (.int .i64 (p1.length : Int))), (20, (.int .i64 i24)), (37, (.bool (x34 != (-1))))]) ⟨rfl, rfl, rfl, rfl, rfl, rfl, trivial⟩ ?_
              subst hq472
              refine np_norm (fun a ha => ⟨ha, kp⟩)
          · rw [if_neg (by rw [t50]; decide)] at hq47
            refine st_no rfl rfl (by rw [t50]; rfl) (by decide) ?_
            refine st_no rfl rfl (by rw [t50]; rfl) (by decide) ?_
            refine st_no rfl rfl (by rw [t50]; rfl) (by decide) ?_
            refine st_no2 rfl rfl (by decide) ?_
            refine st_no2 rfl rfl (by decide) ?_
            refine st_no rfl rfl (by rw [t50]; rfl) (by decide) ?_
            refine st_val (ex_pick_f (congrArg (fun b => some (Value.bool b)) t50) rfl) (by decide) trivial ?_
            have hq472 := Option.some.inj hq47
            refine wpF_end (r := [(0, (.int .i64 p0)), (1, u1), (18, u1), (19, (.int .i64 (p1.length : Int))), (20, (.int .i64 i24)), (37, (.bool false))]) ⟨rfl, rfl, rfl, rfl, rfl, rfl, trivial⟩ ?_
            subst hq472
            refine np_norm (fun a ha => ⟨ha, kp⟩)
        rintro a54 w48 ⟨ha, k52⟩
        have s53 := k52.stp 999 o22
        replace hB := hB.stp s53 (by decide)
        refine wl_of ha ?_
        refine wpF_end (r := [(0, (.int .i64 p0)), (1, u1), (18, u1), (19, (.int .i64 (p1.length : Int))), (20, (.int .i64 i24)), (37, (.bool q47))]) ⟨rfl, rfl, rfl, rfl, rfl, rfl, trivial⟩ ?_
        refine nx ?_
        refine wpC_cond rfl (fun t55 => ?_) (fun t55 => ?_)
        · rw [if_pos t55] at b31
          refine wpC_seq ?_
          refine wpC_region ?_
          refine st_val (ex_assign rfl) (by decide) trivial ?_
          refine wpF_end (r := [(4, (.bool false))]) ⟨rfl, trivial⟩ ?_
          refine nx ?_
          refine wpC_ret ?_
          refine nb_ret ?_
          refine nt_ret ?_
          refine nt_ret ?_
          refine nb_ret ?_
          refine np_ret ?_
          have e56 := Option.some.inj b31
          subst e56
          refine fun a ha => ⟨_, n32, ?_⟩
          refine ret_post (P := Try.prog) (vs := [(.bool false)]) Try.results42 ⟨rfl, trivial⟩ ?_ a ha
          exact ⟨rfl, hB.keeps⟩
        · rw [if_neg (by rw [t55]; decide)] at b31
          refine wpC_skip ?_
          refine nb_norm ?_
          refine nx ?_
          refine wpC_region ?_
          refine st_val (ex_add rfl rfl (ck_in (by omega) (by omega))) (by decide) trivial ?_
          refine st_val (ex_move rfl) (by decide) trivial ?_
          refine wpF_end (r := [(0, (.int .i64 p0)), (1, u1), (18, u1), (19, (.int .i64 (p1.length : Int))), (20, (.int .i64 (i24 + 1)))]) ⟨rfl, rfl, rfl, rfl, rfl, trivial⟩ ?_
          refine nt_norm ?_
          have e57 := Option.some.inj b31
          subst e57
          refine to_k (r := [(0, (.int .i64 p0)), (1, u1), (18, u1), (19, (.int .i64 (p1.length : Int))), (20, (.int .i64 (i24 + 1)))]) ⟨rfl, rfl, rfl, rfl, rfl, trivial⟩ ?_
          intro a ha
          exact ⟨_, (by rw [← m28]; simp only [List.length_drop]; omega), i24 + 1, o22, n32, rfl, (by omega), ha, hB⟩
      · have r58 := forI_done t33 l26
        refine wp_of ha ?_
        refine wpC_seq ?_
        refine wpC_region ?_
        refine st_val (ex_lss rfl rfl) (by decide) trivial ?_
        refine wpF_end (r := [(0, (.int .i64 p0)), (1, u1), (18, u1), (19, (.int .i64 (p1.length : Int))), (20, (.int .i64 i24)), (21, (.bool (decide (i24 < (p1.length : Int)))))]) ⟨rfl, rfl, rfl, rfl, rfl, rfl, trivial⟩ ?_
        refine nx ?_
        refine wpC_seq ?_
        refine wpC_false (congrArg (fun b => some (Value.bool b)) (decide_eq_false t33)) ?_
        refine wpC_exit ?_
        refine nt_exit ?_
        refine nt_exit ?_
        refine nb_hit ?_
        refine np_norm ?_
        refine to_k (r := [(0, (.int .i64 p0)), (1, u1)]) ⟨rfl, rfl, trivial⟩ ?_
        intro a ha
        exact ⟨o22, r58, ha, hB⟩
    · rintro a w23 ⟨o22, rfl, ha, hB⟩
      dsimp only at hF
      refine ap_k ha ?_
      refine nx ?_
      refine wpC_seq ?_
      refine wpC_seq ?_
      refine wpC_region ?_
      refine st_val (ex_move rfl) (by decide) trivial ?_
      obtain ⟨x59, hx59, hF⟩ := bind_some hF
      refine st_op (by decide) trivial ?_
      refine wf_call (cS_roBelow w23 o22 14 (by decide) _ p1 (g1.keep hB.keeps) x59 hx59) Try.call33 ⟨rfl, trivial⟩ ?_
      rintro e68 w60 ⟨v61, g63, o69, rfl, h62, h64, k65, k66⟩
      have s67 := k65.stp' 14 k66
      replace h62 := h62.mono hB.keeps.size
      replace h64 := h64.mono hB.keeps.size
      refine ⟨_, rfl, ?_⟩
      replace hB := hB.stp s67 (by decide)
      refine st_val (ex_lenR rfl (h64.z h62) Try.underlying22) (by decide) trivial ?_
      refine st_val (ex_move rfl) (by decide) trivial ?_
      refine wpF_end (r := [(0, (.int .i64 p0)), (40, v61), (41, (.int .i64 (x59.length : Int))), (42, (.int .i64 0))]) ⟨rfl, rfl, rfl, rfl, trivial⟩ ?_
      refine nx ?_
      obtain ⟨q73, hq73, hF⟩ := bind_some hF
      refine wpC_cutN (fun a w71 => ∃ (o70 : Tg), q73 = .inl () ∧ Fr a 56 [] ∧ Bs (fun _ => 1) o70 w w71) (fun a w' => ∃ r', q73 = .inr r' ∧ bodyPost Try.prog Try.f42 (pS_roTree w r') .ret a w') ?_ ?_ ?_
      · refine wpC_block ?_
        refine wpC_loop (fun (K : Nat) a w71 => ∃ (i72 : Int) (o70 : Tg), forI (fS_roTree_s2 p0) (x59.drop i72.toNat) i72 () = some q73 ∧ (x59.drop i72.toNat).length = K ∧ 0 ≤ i72 ∧ Fr a 56 [(0, (.int .i64 p0)), (40, v61), (41, (.int .i64 (x59.length : Int))), (42, (.int .i64 i72))] ∧ Bs (fun _ => 1) o70 w w71 ∧ Ow w.heap.size 25 14 o70 w71 v61 g63 ∧ Rws w.heap.size 3 15 o70 w71 g63 x59) _ (fun a ha => ⟨0, o69, hq73, rfl, Int.le_refl 0, ha.sub (r := [(0, (.int .i64 p0)), (40, v61), (41, (.int .i64 (x59.length : Int))), (42, (.int .i64 0))]) ⟨rfl, rfl, rfl, rfl, trivial⟩, hB, h62, h64⟩) ?_
        rintro K77 a w71 ⟨i72, o70, l74, m76, z75, ha, hB, h62, h64⟩
        by_cases t81 : i72 < (x59.length : Int)
        · obtain ⟨x82, q78, hx82, b79, n80⟩ := forI_cons z75 t81 l74
          have hle := (h64.z h62).len_le
          dsimp only [fS_roTree_s2] at b79
          refine wp_of ha ?_
          refine wpC_seq ?_
          refine wpC_region ?_
          refine st_val (ex_lss rfl rfl) (by decide) trivial ?_
          refine wpF_end (r := [(0, (.int .i64 p0)), (40, v61), (41, (.int .i64 (x59.length : Int))), (42, (.int .i64 i72)), (43, (.bool (decide (i72 < (x59.length : Int)))))]) ⟨rfl, rfl, rfl, rfl, rfl, trivial⟩ ?_
          refine nx ?_
          refine wpC_seq ?_
          refine wpC_true (congrArg (fun b => some (Value.bool b)) (decide_eq_true t81)) ?_
          refine wpC_skip ?_
          refine nx ?_
          refine wpC_seq ?_
          refine wpC_block ?_
          refine wpC_seq ?_
          refine wpC_region ?_
          obtain ⟨v83, h84, h85, h86⟩ := h64.ix hx82
          refine st_op (by decide) trivial ?_
          refine wf_atW h62 h84 rfl rfl Try.underlying22 Try.sizeOf25 ?_
          intro b87 f88 c89 h90 h91
          obtain ⟨rfl, -⟩ := h91
          refine st_val (ex_load1 rfl Try.isAgg25 (cell_of_cells h90)) (by decide) trivial ?_
          refine st_val (ex_assign rfl) (by decide) trivial ?_
          refine wpF_end (r := [(0, (.int .i64 p0)), (8, v83), (40, v61), (41, (.int .i64 (x59.length : Int))), (42, (.int .i64 i72))]) ⟨rfl, rfl, rfl, rfl, rfl, trivial⟩ ?_
          refine nx ?_
          refine wpC_seq ?_
          refine wpC_region ?_
          refine st_val (ex_move rfl) (by decide) trivial ?_
          refine st_val (ex_lenO rfl (h64.at h85 h86) Try.underlying25) (by decide) trivial ?_
          refine st_val (ex_neq rfl rfl) (by decide) trivial ?_
          refine st_val (ex_move rfl) (by decide) trivial ?_
          obtain ⟨q92, hq92, b79⟩ := bind_some b79
          refine wpF_cutAt 5 (fun a94 w93 => Fr a94 56 [(0, (.int .i64 p0)), (40, v61), (41, (.int .i64 (x59.length : Int))), (42, (.int .i64 i72)), (54, (.bool q92))] ∧ Keeps w71 w93) ?_ ?_
          all_goals simp only [List.take_succ_cons, List.take_zero, List.drop_succ_cons, List.drop_zero]
          · have kp : Keeps w71 w71 := Keeps.refl _
            rcases Bool.eq_false_or_eq_true ((x82.length : Int) != 0) with t95 | t95
            · rw [if_pos t95] at hq92
              refine st_val (ex_move rfl) (by decide) ⟨_, rfl, (congrArg (fun b => some (Value.bool b)) t95)⟩ ?_
              refine st_val (ex_lenO rfl (h64.at h85 h86) Try.underlying25) (by decide) ⟨_, rfl, (congrArg (fun b => some (Value.bool b)) t95)⟩ ?_
              refine st_val (ex_move rfl) (by decide) ⟨_, rfl, (congrArg (fun b => some (Value.bool b)) t95)⟩ ?_
              refine st_val (ex_neq rfl rfl) (by decide) ⟨_, rfl, (congrArg (fun b => some (Value.bool b)) t95)⟩ ?_
              refine st_val (ex_pick_t (congrArg (fun b => some (Value.bool b)) t95) rfl) (by decide) trivial ?_
              have hq922 := Option.some.inj hq92
              refine wpF_end (r := [(0, (.int .i64 p0)), (40, v61), (41, (.int .i64 (x59.length : Int))), (42, (.int .i64 i72)), (54, (.bool ((x82.length : Int) != p0)))]) ⟨rfl, rfl, rfl, rfl, rfl, trivial⟩ ?_
              subst hq922
              refine np_norm (fun a ha => ⟨ha, kp⟩)
            · rw [if_neg (by rw [t95]; decide)] at hq92
              refine st_no rfl rfl (by rw [t95]; rfl) (by decide) ?_
              refine st_no rfl rfl (by rw [t95]; rfl) (by decide) ?_
              refine st_no rfl rfl (by rw [t95]; rfl) (by decide) ?_
              refine st_no rfl rfl (by rw [t95]; rfl) (by decide) ?_
              refine st_val (ex_pick_f (congrArg (fun b => some (Value.bool b)) t95) rfl) (by decide) trivial ?_
              have hq922 := Option.some.inj hq92
              refine wpF_end (r := [(0, (.int .i64 p0)), (40, v61), (41, (.int .i64 (x59.length : Int))), (42, (.int .i64 i72)), (54, (.bool false))]) ⟨rfl, rfl, rfl, rfl, rfl, trivial⟩ ?_
              subst hq922
              refine np_norm (fun a ha => ⟨ha, kp⟩)
          rintro a98 w93 ⟨ha, k96⟩
          have s97 := k96.stp 999 o70
          replace h62 := h62.stp s97 (by decide) (by decide)
          replace h64 := h64.stp s97 (by decide) (by decide)
          replace hB := hB.stp s97 (by decide)
          refine wl_of ha ?_
          refine wpF_end (r := [(0, (.int .i64 p0)), (40, v61), (41, (.int .i64 (x59.length : Int))), (42, (.int .i64 i72)), (54, (.bool q92))]) ⟨rfl, rfl, rfl, rfl, rfl, trivial⟩ ?_
          refine nx ?_
          refine wpC_cond rfl (fun t99 => ?_) (fun t99 => ?_)
          · rw [if_pos t99] at b79
            refine wpC_seq ?_
            refine wpC_region ?_
            refine st_val (ex_assign rfl) (by decide) trivial ?_
            refine wpF_end (r := [(4, (.bool false))]) ⟨rfl, trivial⟩ ?_
            refine nx ?_
            refine wpC_ret ?_
            refine nb_ret ?_
            refine nt_ret ?_
            refine nt_ret ?_
            refine nb_ret ?_
            refine np_ret ?_
            have e100 := Option.some.inj b79
            subst e100
            refine fun a ha => ⟨_, n80, ?_⟩
            refine ret_post (P := Try.prog) (vs := [(.bool false)]) Try.results42 ⟨rfl, trivial⟩ ?_ a ha
            exact ⟨rfl, hB.keeps⟩
          · rw [if_neg (by rw [t99]; decide)] at b79
            refine wpC_skip ?_
            refine nb_norm ?_
            refine nx ?_
            refine wpC_region ?_
            refine st_val (ex_add rfl rfl (ck_in (by omega) (by omega))) (by decide) trivial ?_
            refine st_val (ex_move rfl) (by decide) trivial ?_
            refine wpF_end (r := [(0, (.int .i64 p0)), (40, v61), (41, (.int .i64 (x59.length : Int))), (42, (.int .i64 (i72 + 1)))]) ⟨rfl, rfl, rfl, rfl, trivial⟩ ?_
            refine nt_norm ?_
            have e101 := Option.some.inj b79
            subst e101
            refine to_k (r := [(0, (.int .i64 p0)), (40, v61), (41, (.int .i64 (x59.length : Int))), (42, (.int .i64 (i72 + 1)))]) ⟨rfl, rfl, rfl, rfl, trivial⟩ ?_
            intro a ha
            exact ⟨_, (by rw [← m76]; simp only [List.length_drop]; omega), i72 + 1, o70, n80, rfl, (by omega), ha, hB, h62, h64⟩
        · have r102 := forI_done t81 l74
          refine wp_of ha ?_
          refine wpC_seq ?_
          refine wpC_region ?_
          refine st_val (ex_lss rfl rfl) (by decide) trivial ?_
          refine wpF_end (r := [(0, (.int .i64 p0)), (40, v61), (41, (.int .i64 (x59.length : Int))), (42, (.int .i64 i72)), (43, (.bool (decide (i72 < (x59.length : Int)))))]) ⟨rfl, rfl, rfl, rfl, rfl, trivial⟩ ?_
          refine nx ?_
          refine wpC_seq ?_
          refine wpC_false (congrArg (fun b => some (Value.bool b)) (decide_eq_false t81)) ?_
          refine wpC_exit ?_
          refine nt_exit ?_
          refine nt_exit ?_
          refine nb_hit ?_
          refine np_norm ?_
          refine to_k (r := []) trivial ?_
          intro a ha
          exact ⟨o70, r102, ha, hB⟩
      · rintro a w71 ⟨o70, rfl, ha, hB⟩
        dsimp only at hF
        refine ap_k ha ?_
        refine nx ?_
        refine wpC_seq ?_
        refine wpC_region ?_
        refine st_val (ex_assign rfl) (by decide) trivial ?_
        refine wpF_end (r := [(4, (.bool true))]) ⟨rfl, trivial⟩ ?_
        refine nx ?_
        refine wpC_ret ?_
        have e103 := Option.some.inj hF
        subst e103
        refine ret_post (P := Try.prog) (vs := [(.bool true)]) Try.results42 ⟨rfl, trivial⟩ ?_
        exact ⟨rfl, hB.keeps⟩
      · rintro a w71 ⟨r', rfl, b104⟩
        dsimp only at hF
        have e105 := Option.some.inj hF
        subst e105
        exact b104
    · rintro a w23 ⟨r', rfl, b106⟩
      dsimp only at hF
      have e107 := Option.some.inj hF
      subst e107
      exact b106

def fS_roAsked (fuel : Nat) (p0 : T_RootedProblem) (p1 : List Int) : Option Bool :=
  (fS_roGood fuel p0) >>= fun x8 =>
  (
    if x8 then
      (fS_roTree p0.Children p1) >>= fun x18 =>
      some x18
    else
      some false) >>= fun q14 =>
  some q14

def pS_roAsked (w : World) (r : Bool) : Ending → World → Prop := fun e w' => e = .returned (.bool r) ∧ Keeps w w'
set_option maxRecDepth 100000 in
set_option maxHeartbeats 2000000 in
theorem cS_roAsked (fuel : Nat) (w : World) (u0 : List Value) (p0 : T_RootedProblem) (g0 : Rp.rd zt w u0 p0) (u1 : Value) (p1 : List Int) (g1 : RdL zt w u1 p1) (r : Bool) (hF : fS_roAsked fuel p0 p1 = some r) :
    Calls Try.prog 18 #[.agg u0.toArray, u1] w (pS_roAsked w r) := by
  unfold fS_roAsked at hF
  obtain ⟨v1, rfl, h2⟩ := g0
  have hB : Bs (fun _ => 1) (col (fun _ => 1)) w w := Bs.start _ _
  refine calls_start (n := 13) (vs := [(.agg #[(.int .i64 p0.Labels), (.int .i64 p0.Children), v1]), u1]) Try.func18 rfl rfl ?_
  refine wpC_seq ?_
  refine wpC_region ?_
  refine st_op (by decide) trivial ?_
  refine wf_box (o := (col (fun _ => 1))) w.heap.size 11 hB.keeps.size (cs := [(.int .i64 p0.Labels), (.int .i64 p0.Children), v1]) rfl rfl ?_
  intro o3 w4 b5 h6 s7
  replace hB := hB.stp s7 (by decide)
  refine st_val (ex_assign rfl) (by decide) trivial ?_
  refine wpF_end (r := [(1, u1), (2, (.pointer (some ⟨b5, 0, none⟩)))]) ⟨rfl, rfl, trivial⟩ ?_
  refine nx ?_
  refine wpC_seq ?_
  refine wpC_region ?_
  refine st_val (ex_loadA rfl Try.isAgg29 Try.sizeOf29 rfl h6.cells) (by decide) trivial ?_
  obtain ⟨x8, hx8, hF⟩ := bind_some hF
  refine st_op (by decide) trivial ?_
  refine wf_call (cS_roGood fuel w4 _ p0 (⟨_, rfl, (h2.keep hB.keeps)⟩) x8 hx8) Try.call41 ⟨rfl, trivial⟩ ?_
  rintro e13 w9 ⟨rfl, k10⟩
  have s12 := k10.stp 999 o3
  refine ⟨_, rfl, ?_⟩
  replace h6 := h6.stp s12 (by decide)
  replace hB := hB.stp s12 (by decide)
  refine st_val (ex_move rfl) (by decide) trivial ?_
  obtain ⟨q14, hq14, hF⟩ := bind_some hF
  refine wpF_cutAt 5 (fun a16 w15 => Fr a16 13 [(12, (.bool q14))] ∧ Keeps w9 w15) ?_ ?_
  all_goals simp only [List.take_succ_cons, List.take_zero, List.drop_succ_cons, List.drop_zero]
  · have kp : Keeps w9 w9 := Keeps.refl _
    rcases Bool.eq_false_or_eq_true (x8) with t17 | t17
    · rw [if_pos t17] at hq14
      refine st_val (ex_field rfl Try.underlying29 rfl Try.sizeOf3) (by decide) ⟨_, rfl, (congrArg (fun b => some (Value.bool b)) t17)⟩ ?_
      refine st_val (ex_load1 rfl Try.isAgg3 (h6.cell rfl)) (by decide) ⟨_, rfl, (congrArg (fun b => some (Value.bool b)) t17)⟩ ?_
      refine st_val (ex_move rfl) (by decide) ⟨_, rfl, (congrArg (fun b => some (Value.bool b)) t17)⟩ ?_
      obtain ⟨x18, hx18, hq14⟩ := bind_some hq14
      refine st_op (by decide) ⟨_, rfl, (congrArg (fun b => some (Value.bool b)) t17)⟩ ?_
      refine wf_call (cS_roTree w9 p0.Children _ p1 (g1.keep hB.keeps) x18 hx18) Try.call42 ⟨rfl, rfl, trivial⟩ ?_
      rintro e23 w19 ⟨rfl, k20⟩
      have s22 := k20.stp 999 o3
      refine ⟨_, rfl, ?_⟩
      replace h6 := h6.stp s22 (by decide)
      replace hB := hB.stp s22 (by decide)
      replace kp := Keeps.trans kp k20
      refine st_val (ex_pick_t (congrArg (fun b => some (Value.bool b)) t17) rfl) (by decide) trivial ?_
      have hq142 := Option.some.inj hq14
      refine wpF_end (r := [(12, (.bool x18))]) ⟨rfl, trivial⟩ ?_
      subst hq142
      refine np_norm (fun a ha => ⟨ha, kp⟩)
    · rw [if_neg (by rw [t17]; decide)] at hq14
      refine st_no rfl rfl (by rw [t17]; rfl) (by decide) ?_
      refine st_no rfl rfl (by rw [t17]; rfl) (by decide) ?_
      refine st_no rfl rfl (by rw [t17]; rfl) (by decide) ?_
      refine st_no rfl rfl (by rw [t17]; rfl) (by decide) ?_
      refine st_val (ex_pick_f (congrArg (fun b => some (Value.bool b)) t17) rfl) (by decide) trivial ?_
      have hq142 := Option.some.inj hq14
      refine wpF_end (r := [(12, (.bool false))]) ⟨rfl, trivial⟩ ?_
      subst hq142
      refine np_norm (fun a ha => ⟨ha, kp⟩)
  rintro a26 w15 ⟨ha, k24⟩
  have s25 := k24.stp 999 o3
  replace h6 := h6.stp s25 (by decide)
  replace hB := hB.stp s25 (by decide)
  refine wl_of ha ?_
  refine st_val (ex_assign rfl) (by decide) trivial ?_
  refine wpF_end (r := [(4, (.bool q14))]) ⟨rfl, trivial⟩ ?_
  refine nx ?_
  refine wpC_ret ?_
  have e27 := Option.some.inj hF
  subst e27
  refine ret_post (P := Try.prog) (vs := [(.bool q14)]) Try.results18 ⟨rfl, trivial⟩ ?_
  exact ⟨rfl, hB.keeps⟩

def fS_SolveDown_s2 (p0 : T_RootedProblem) (x17 : List Int) (y63 : List Int) (i67 : Int) : Int → Option (Lp Int Int ((List Int) × Bool)) := fun (s : Int) =>
  (
    (ix p0.Lines s) >>= fun x106 =>
    (ix x106 0) >>= fun x112 =>
    (ix y63 i67) >>= fun x115 =>
    if x112 != x115 then
      some true
    else
      (ix p0.Lines s) >>= fun x225 =>
      (cut x225 1 x225.length) >>= fun x231 =>
      (fS_prAll x231 x17) >>= fun x358 =>
      some (!x358)) >>= fun q102 =>
  if q102 then
    (ck (s + 1)) >>= fun x367 =>
    some (.go x367)
  else
    some (.out s)
def fS_SolveDown_s3 (p0 : T_RootedProblem) (y89 : Int) : Int → Int → (List Int) → Option (Lp (List Int) (List Int) ((List Int) × Bool)) := fun (i374 : Int) (x384 : Int) (s : List Int) =>
  (ix p0.Lines y89) >>= fun x390 =>
  (ck (1 + i374)) >>= fun x398 =>
  (ix x390 x398) >>= fun x399 =>
  (ix s x384) >>= fun x405 =>
  (st s x384 x399) >>= fun x414 =>
  some (.go x414)
def fS_SolveDown_s1 (fuel : Nat) (p0 : T_RootedProblem) (x17 : List Int) : Int → (List Int) → (List Int) → Option (Lp (List Int) (List Int) ((List Int) × Bool)) := fun (i67 : Int) (x77 : List Int) (s : List Int) =>
  if (x77.length : Int) == 0 then
    some (.go s)
  else
    (loopF (fS_SolveDown_s2 p0 x17 s i67) fuel 0) >>= fun q92 =>
    match q92 with
    | .inl y89 =>
      (forI (fS_SolveDown_s3 p0 y89) x77 0 s) >>= fun q375 =>
      match q375 with
      | .inl y370 =>
        some (.go y370)
      | .inr _ => none
    | .inr _ => none
def fS_SolveDown (fuel : Nat) (p0 : T_RootedProblem) (p1 : List Int) : Option ((List Int) × Bool) :=
  (fS_roAsked fuel p0 p1) >>= fun x8 =>
  if !x8 then
    some ([], false)
  else
    (ck (p0.Labels + 1)) >>= fun x16 =>
    (fS_roRoots fuel p0 x16) >>= fun x17 =>
    if (x17.length : Int) == 0 then
      some ([], false)
    else
      (mk (Rz.z : Int) (p1.length : Int)) >>= fun x29 =>
      (ix x17 0) >>= fun x35 =>
      (ix x29 0) >>= fun x41 =>
      (st x29 0 x35) >>= fun x50 =>
      (fS_roBelow p1) >>= fun x52 =>
      (forI (fS_SolveDown_s1 fuel p0 x17) x52 0 x50) >>= fun q68 =>
      match q68 with
      | .inl y63 =>
        some (y63, true)
      | .inr _ => none

def fI_IsRootedTree_1 (p0 : List Int) (p1 : Int) : Option Bool :=
  (
    if (p0.length : Int) != 0 then
      some ((p0.length : Int) != p1)
    else
      some false) >>= fun q1 =>
  some q1

def pI_IsRootedTree_1 (w : World) (r : Bool) : Ending → World → Prop := fun e w' => e = .returned (.bool r) ∧ Keeps w w'
set_option maxRecDepth 100000 in
set_option maxHeartbeats 2000000 in
theorem cI_IsRootedTree_1 (w : World) (u0 : Value) (p0 : List Int) (g0 : RdL zt w u0 p0) (b1 : Nat) (u1 : List Value) (p1 : Int) (k1 : Cells w b1 0 u1) (g1 : Rp.rd zt w u1 p1) (r : Bool) (hF : fI_IsRootedTree_1 p0 p1 = some r) :
    Calls Try.prog 65 #[u0, .pointer (some ⟨b1, 0, none⟩)] w (pI_IsRootedTree_1 w r) := by
  unfold fI_IsRootedTree_1 at hF
  have g1k := g1
  cases g1
  have hB : Bs (fun _ => 1) (col (fun _ => 1)) w w := Bs.start _ _
  refine calls_start (n := 13) (vs := [u0, (.pointer (some ⟨b1, 0, none⟩))]) Try.func65 rfl rfl ?_
  refine wpC_seq ?_
  refine wpC_region ?_
  refine st_val (ex_assign rfl) (by decide) trivial ?_
  refine wpF_end (r := [(0, u0), (1, (.pointer (some ⟨b1, 0, none⟩)))]) ⟨rfl, rfl, trivial⟩ ?_
  refine nx ?_
  refine wpC_seq ?_
  refine wpC_region ?_
  refine st_val (ex_move rfl) (by decide) trivial ?_
  refine st_val (ex_lenR rfl g0 Try.underlying25) (by decide) trivial ?_
  refine st_val (ex_neq rfl rfl) (by decide) trivial ?_
  refine st_val (ex_move rfl) (by decide) trivial ?_
  obtain ⟨q1, hq1, hF⟩ := bind_some hF
  refine wpF_cutAt 5 (fun a3 w2 => Fr a3 13 [(12, (.bool q1))] ∧ Keeps w w2) ?_ ?_
  all_goals simp only [List.take_succ_cons, List.take_zero, List.drop_succ_cons, List.drop_zero]
  · have kp : Keeps w w := Keeps.refl _
    rcases Bool.eq_false_or_eq_true ((p0.length : Int) != 0) with t4 | t4
    · rw [if_pos t4] at hq1
      refine st_val (ex_move rfl) (by decide) ⟨_, rfl, (congrArg (fun b => some (Value.bool b)) t4)⟩ ?_
      refine st_val (ex_lenR rfl g0 Try.underlying25) (by decide) ⟨_, rfl, (congrArg (fun b => some (Value.bool b)) t4)⟩ ?_
      refine st_val (ex_load1 rfl Try.isAgg3 (cell_of_cells (k1.keep hB.keeps))) (by decide) ⟨_, rfl, (congrArg (fun b => some (Value.bool b)) t4)⟩ ?_
      refine st_val (ex_neq rfl rfl) (by decide) ⟨_, rfl, (congrArg (fun b => some (Value.bool b)) t4)⟩ ?_
      refine st_val (ex_pick_t (congrArg (fun b => some (Value.bool b)) t4) rfl) (by decide) trivial ?_
      have hq12 := Option.some.inj hq1
      refine wpF_end (r := [(12, (.bool ((p0.length : Int) != p1)))]) ⟨rfl, trivial⟩ ?_
      subst hq12
      refine np_norm (fun a ha => ⟨ha, kp⟩)
    · rw [if_neg (by rw [t4]; decide)] at hq1
      refine st_no rfl rfl (by rw [t4]; rfl) (by decide) ?_
      refine st_no rfl rfl (by rw [t4]; rfl) (by decide) ?_
      refine st_no rfl rfl (by rw [t4]; rfl) (by decide) ?_
      refine st_no rfl rfl (by rw [t4]; rfl) (by decide) ?_
      refine st_val (ex_pick_f (congrArg (fun b => some (Value.bool b)) t4) rfl) (by decide) trivial ?_
      have hq12 := Option.some.inj hq1
      refine wpF_end (r := [(12, (.bool false))]) ⟨rfl, trivial⟩ ?_
      subst hq12
      refine np_norm (fun a ha => ⟨ha, kp⟩)
  rintro a7 w2 ⟨ha, k5⟩
  have s6 := k5.stp 999 (col (fun _ => 1))
  replace hB := hB.stp s6 (by decide)
  refine wl_of ha ?_
  refine st_val (ex_assign rfl) (by decide) trivial ?_
  refine wpF_end (r := [(3, (.bool q1))]) ⟨rfl, trivial⟩ ?_
  refine nx ?_
  refine wpC_ret ?_
  have e8 := Option.some.inj hF
  subst e8
  refine ret_post (P := Try.prog) (vs := [(.bool q1)]) Try.results65 ⟨rfl, trivial⟩ ?_
  exact ⟨rfl, hB.keeps⟩

def fI_IsRootedTree_s1 : Int → Int → Unit → Option (Lp Unit Unit Bool) := fun (i36 : Int) (x46 : Int) (s : Unit) =>
  (
    if decide (i36 > 0) then
      (ck (i36 - 1)) >>= fun x56 =>
      (fI_within x46 0 x56) >>= fun x57 =>
      some (!x57)
    else
      some false) >>= fun q52 =>
  if q52 then
    some (.ret false)
  else
    some (.go ())
def fI_IsRootedTree (p0 : Int) (p1 : List Int) : Option Bool :=
  (fI_within p0 1 3) >>= fun x6 =>
  (
    if !x6 then
      some true
    else
      (fI_within (p1.length : Int) 1 200) >>= fun x16 =>
      if !x16 then
        some true
      else
        (ix p1 0) >>= fun x23 =>
        some (x23 != (-1))) >>= fun q12 =>
  if q12 then
    some false
  else
    (forI (fI_IsRootedTree_s1) p1 0 ()) >>= fun q37 =>
    match q37 with
    | .inl _ =>
      (fI_childrenOf p1) >>= fun x70 =>
      (fX_slices_ContainsFunc_LLint_int x70 (fun z81 => fI_IsRootedTree_1 z81 p0)) >>= fun x84 =>
      some (!x84)
    | .inr r' => some r'

def pI_IsRootedTree (w : World) (r : Bool) : Ending → World → Prop := fun e w' => e = .returned (.bool r) ∧ Keeps w w'
set_option maxRecDepth 100000 in
set_option maxHeartbeats 2000000 in
theorem cI_IsRootedTree (w : World) (p0 : Int) (u1 : Value) (p1 : List Int) (g1 : RdL zt w u1 p1) (r : Bool) (hF : fI_IsRootedTree p0 p1 = some r) :
    Calls Try.prog 45 #[.int .i64 p0, u1] w (pI_IsRootedTree w r) := by
  unfold fI_IsRootedTree at hF
  have hB : Bs (fun _ => 1) (col (fun _ => 1)) w w := Bs.start _ _
  refine calls_start (n := 44) (vs := [(.int .i64 p0), u1]) Try.func45 rfl rfl ?_
  refine wpC_seq ?_
  refine wpC_region ?_
  refine st_op (by decide) trivial ?_
  refine wf_box (o := (col (fun _ => 1))) w.heap.size 11 hB.keeps.size (cs := [(.int .i64 p0)]) rfl rfl ?_
  intro o1 w2 b3 h4 s5
  replace hB := hB.stp s5 (by decide)
  refine st_val (ex_assign rfl) (by decide) trivial ?_
  refine wpF_end (r := [(1, u1), (2, (.pointer (some ⟨b3, 0, none⟩)))]) ⟨rfl, rfl, trivial⟩ ?_
  refine nx ?_
  refine wpC_seq ?_
  refine wpC_seq ?_
  refine wpC_region ?_
  refine st_val (ex_load1 rfl Try.isAgg3 (h4.cell rfl)) (by decide) trivial ?_
  obtain ⟨x6, hx6, hF⟩ := bind_some hF
  refine st_op (by decide) trivial ?_
  refine wf_call (cI_within w2 p0 1 3 x6 hx6) Try.call55 ⟨rfl, rfl, rfl, trivial⟩ ?_
  rintro e11 w7 ⟨rfl, k8⟩
  have s10 := k8.stp 999 o1
  refine ⟨_, rfl, ?_⟩
  replace h4 := h4.stp s10 (by decide)
  replace hB := hB.stp s10 (by decide)
  refine st_val (ex_not rfl) (by decide) trivial ?_
  refine st_val (ex_move rfl) (by decide) trivial ?_
  obtain ⟨q12, hq12, hF⟩ := bind_some hF
  refine wpF_cutAt 11 (fun a14 w13 => Fr a14 44 [(1, u1), (2, (.pointer (some ⟨b3, 0, none⟩))), (21, (.bool q12))] ∧ Keeps w7 w13) ?_ ?_
  all_goals simp only [List.take_succ_cons, List.take_zero, List.drop_succ_cons, List.drop_zero]
  · have kp : Keeps w7 w7 := Keeps.refl _
    rcases Bool.eq_false_or_eq_true (!x6) with t15 | t15
    · rw [if_pos t15] at hq12
      refine st_no rfl rfl (by rw [t15]; rfl) (by decide) ?_
      refine st_no rfl rfl (by rw [t15]; rfl) (by decide) ?_
      refine st_no rfl rfl (by rw [t15]; rfl) (by decide) ?_
      refine st_no rfl rfl (by rw [t15]; rfl) (by decide) ?_
      refine st_val (ex_pick_t (congrArg (fun b => some (Value.bool b)) t15) rfl) (by decide) trivial ?_
      refine st_val (ex_move rfl) (by decide) trivial ?_
      refine st_no rfl rfl rfl (by decide) ?_
      refine st_no rfl rfl rfl (by decide) ?_
      refine st_no rfl rfl rfl (by decide) ?_
      refine st_no rfl rfl rfl (by decide) ?_
      refine st_val (ex_pick_t rfl rfl) (by decide) trivial ?_
      have hq122 := Option.some.inj hq12
      refine wpF_end (r := [(1, u1), (2, (.pointer (some ⟨b3, 0, none⟩))), (21, (.bool true))]) ⟨rfl, rfl, rfl, trivial⟩ ?_
      subst hq122
      refine np_norm (fun a ha => ⟨ha, kp⟩)
    · rw [if_neg (by rw [t15]; decide)] at hq12
      refine st_val (ex_move rfl) (by decide) ⟨_, rfl, (congrArg (fun b => some (Value.bool b)) t15)⟩ ?_
      refine st_val (ex_lenR rfl g1 Try.underlying25) (by decide) ⟨_, rfl, (congrArg (fun b => some (Value.bool b)) t15)⟩ ?_
      obtain ⟨x16, hx16, hq12⟩ := bind_some hq12
      refine st_op (by decide) ⟨_, rfl, (congrArg (fun b => some (Value.bool b)) t15)⟩ ?_
      refine wf_call (cI_within w7 (p1.length : Int) 1 200 x16 hx16) Try.call55 ⟨rfl, rfl, rfl, trivial⟩ ?_
      rintro e21 w17 ⟨rfl, k18⟩
      have s20 := k18.stp 999 o1
      refine ⟨_, rfl, ?_⟩
      replace h4 := h4.stp s20 (by decide)
      replace hB := hB.stp s20 (by decide)
      replace kp := Keeps.trans kp k18
      refine st_val (ex_not rfl) (by decide) ⟨_, rfl, (congrArg (fun b => some (Value.bool b)) t15)⟩ ?_
      refine st_val (ex_pick_f (congrArg (fun b => some (Value.bool b)) t15) rfl) (by decide) trivial ?_
      refine st_val (ex_move rfl) (by decide) trivial ?_
      rcases Bool.eq_false_or_eq_true (!x16) with t22 | t22
      · rw [if_pos t22] at hq12
        refine st_no rfl rfl (by rw [t22]; rfl) (by decide) ?_
        refine st_no rfl rfl (by rw [t22]; rfl) (by decide) ?_
        refine st_no rfl rfl (by rw [t22]; rfl) (by decide) ?_
        refine st_no rfl rfl (by rw [t22]; rfl) (by decide) ?_
        refine st_val (ex_pick_t (congrArg (fun b => some (Value.bool b)) t22) rfl) (by decide) trivial ?_
        have hq122 := Option.some.inj hq12
        refine wpF_end (r := [(1, u1), (2, (.pointer (some ⟨b3, 0, none⟩))), (21, (.bool true))]) ⟨rfl, rfl, rfl, trivial⟩ ?_
        subst hq122
        refine np_norm (fun a ha => ⟨ha, kp⟩)
      · rw [if_neg (by rw [t22]; decide)] at hq12
        refine st_val (ex_move rfl) (by decide) ⟨_, rfl, (congrArg (fun b => some (Value.bool b)) t22)⟩ ?_
        obtain ⟨x23, hx23, hq12⟩ := bind_some hq12
        refine st_op (by decide) ⟨_, rfl, (congrArg (fun b => some (Value.bool b)) t22)⟩ ?_
        refine wf_atZ g1 hx23 hB rfl rfl Try.underlying25 Try.sizeOf3 ?_
        intro b24 f25 c26 h27 h28
        cases h28
        refine st_val (ex_load1 rfl Try.isAgg3 (cell_of_cells h27)) (by decide) ⟨_, rfl, (congrArg (fun b => some (Value.bool b)) t22)⟩ ?_
        refine st_val (ex_neq rfl rfl) (by decide) ⟨_, rfl, (congrArg (fun b => some (Value.bool b)) t22)⟩ ?_
        refine st_val (ex_pick_f (congrArg (fun b => some (Value.bool b)) t22) rfl) (by decide) trivial ?_
        have hq122 := Option.some.inj hq12
        refine wpF_end (r := [(1, u1), (2, (.pointer (some ⟨b3, 0, none⟩))), (21, (.bool (x23 != (-1))))]) ⟨rfl, rfl, rfl, trivial⟩ ?_
        subst hq122
        refine np_norm (fun a ha => ⟨ha, kp⟩)
  rintro a31 w13 ⟨ha, k29⟩
  have s30 := k29.stp 999 o1
  replace h4 := h4.stp s30 (by decide)
  replace hB := hB.stp s30 (by decide)
  refine wl_of ha ?_
  refine wpF_end (r := [(1, u1), (2, (.pointer (some ⟨b3, 0, none⟩))), (21, (.bool q12))]) ⟨rfl, rfl, rfl, trivial⟩ ?_
  refine nx ?_
  refine wpC_cond rfl (fun t32 => ?_) (fun t32 => ?_)
  · rw [if_pos t32] at hF
    refine wpC_seq ?_
    refine wpC_region ?_
    refine st_val (ex_assign rfl) (by decide) trivial ?_
    refine wpF_end (r := [(4, (.bool false))]) ⟨rfl, trivial⟩ ?_
    refine nx ?_
    refine wpC_ret ?_
    refine nt_ret ?_
    have e33 := Option.some.inj hF
    subst e33
    refine ret_post (P := Try.prog) (vs := [(.bool false)]) Try.results45 ⟨rfl, trivial⟩ ?_
    exact ⟨rfl, hB.keeps⟩
  · rw [if_neg (by rw [t32]; decide)] at hF
    refine wpC_skip ?_
    refine nx ?_
    refine wpC_seq ?_
    refine wpC_seq ?_
    refine wpC_region ?_
    refine st_val (ex_move rfl) (by decide) trivial ?_
    refine st_val (ex_lenR rfl g1 Try.underlying25) (by decide) trivial ?_
    refine st_val (ex_move rfl) (by decide) trivial ?_
    refine wpF_end (r := [(1, u1), (2, (.pointer (some ⟨b3, 0, none⟩))), (22, u1), (23, (.int .i64 (p1.length : Int))), (24, (.int .i64 0))]) ⟨rfl, rfl, rfl, rfl, rfl, trivial⟩ ?_
    refine nx ?_
    obtain ⟨q37, hq37, hF⟩ := bind_some hF
    refine wpC_cutN (fun a w35 => ∃ (o34 : Tg), q37 = .inl () ∧ Fr a 44 [(1, u1), (2, (.pointer (some ⟨b3, 0, none⟩)))] ∧ Bs (fun _ => 1) o34 w w35 ∧ Bx w.heap.size 11 o34 w35 b3 3 [(.int .i64 p0)]) (fun a w' => ∃ r', q37 = .inr r' ∧ bodyPost Try.prog Try.f45 (pI_IsRootedTree w r') .ret a w') ?_ ?_ ?_
    · refine wpC_block ?_
      refine wpC_loop (fun (K : Nat) a w35 => ∃ (i36 : Int) (o34 : Tg), forI (fI_IsRootedTree_s1) (p1.drop i36.toNat) i36 () = some q37 ∧ (p1.drop i36.toNat).length = K ∧ 0 ≤ i36 ∧ Fr a 44 [(1, u1), (2, (.pointer (some ⟨b3, 0, none⟩))), (22, u1), (23, (.int .i64 (p1.length : Int))), (24, (.int .i64 i36))] ∧ Bs (fun _ => 1) o34 w w35 ∧ Bx w.heap.size 11 o34 w35 b3 3 [(.int .i64 p0)]) _ (fun a ha => ⟨0, o1, hq37, rfl, Int.le_refl 0, ha.sub (r := [(1, u1), (2, (.pointer (some ⟨b3, 0, none⟩))), (22, u1), (23, (.int .i64 (p1.length : Int))), (24, (.int .i64 0))]) ⟨rfl, rfl, rfl, rfl, rfl, trivial⟩, hB, h4⟩) ?_
      rintro K41 a w35 ⟨i36, o34, l38, m40, z39, ha, hB, h4⟩
      by_cases t45 : i36 < (p1.length : Int)
      · obtain ⟨x46, q42, hx46, b43, n44⟩ := forI_cons z39 t45 l38
        have hle := g1.len_le
        dsimp only [fI_IsRootedTree_s1] at b43
        refine wp_of ha ?_
        refine wpC_seq ?_
        refine wpC_region ?_
        refine st_val (ex_lss rfl rfl) (by decide) trivial ?_
        refine wpF_end (r := [(1, u1), (2, (.pointer (some ⟨b3, 0, none⟩))), (22, u1), (23, (.int .i64 (p1.length : Int))), (24, (.int .i64 i36)), (25, (.bool (decide (i36 < (p1.length : Int)))))]) ⟨rfl, rfl, rfl, rfl, rfl, rfl, trivial⟩ ?_
        refine nx ?_
        refine wpC_seq ?_
        refine wpC_true (congrArg (fun b => some (Value.bool b)) (decide_eq_true t45)) ?_
        refine wpC_skip ?_
        refine nx ?_
        refine wpC_seq ?_
        refine wpC_block ?_
        refine wpC_seq ?_
        refine wpC_region ?_
        refine st_val (ex_move rfl) (by decide) trivial ?_
        refine st_op (by decide) trivial ?_
        refine wf_atZ g1 hx46 hB rfl rfl Try.underlying25 Try.sizeOf3 ?_
        intro b47 f48 c49 h50 h51
        cases h51
        refine st_val (ex_load1 rfl Try.isAgg3 (cell_of_cells h50)) (by decide) trivial ?_
        refine st_val (ex_assign rfl) (by decide) trivial ?_
        refine st_val (ex_assign rfl) (by decide) trivial ?_
        refine wpF_end (r := [(1, u1), (2, (.pointer (some ⟨b3, 0, none⟩))), (5, (.int .i64 i36)), (6, (.int .i64 x46)), (22, u1), (23, (.int .i64 (p1.length : Int))), (24, (.int .i64 i36))]) ⟨rfl, rfl, rfl, rfl, rfl, rfl, rfl, trivial⟩ ?_
        refine nx ?_
        refine wpC_seq ?_
        refine wpC_region ?_
        refine st_val (ex_move rfl) (by decide) trivial ?_
        refine st_val (ex_gtr rfl rfl) (by decide) trivial ?_
        refine st_val (ex_move rfl) (by decide) trivial ?_
        obtain ⟨q52, hq52, b43⟩ := bind_some b43
        refine wpF_cutAt 6 (fun a54 w53 => Fr a54 44 [(1, u1), (2, (.pointer (some ⟨b3, 0, none⟩))), (22, u1), (23, (.int .i64 (p1.length : Int))), (24, (.int .i64 i36)), (37, (.bool q52))] ∧ Keeps w35 w53) ?_ ?_
        all_goals simp only [List.take_succ_cons, List.take_zero, List.drop_succ_cons, List.drop_zero]
        · have kp : Keeps w35 w35 := Keeps.refl _
          rcases Bool.eq_false_or_eq_true (decide (i36 > 0)) with t55 | t55
          · rw [if_pos t55] at hq52
            refine st_val (ex_move rfl) (by decide) ⟨_, rfl, (congrArg (fun b => some (Value.bool b)) t55)⟩ ?_
            refine st_val (ex_move rfl) (by decide) ⟨_, rfl, (congrArg (fun b => some (Value.bool b)) t55)⟩ ?_
            obtain ⟨x56, hx56, hq52⟩ := bind_some hq52
            refine st_val (ex_sub rfl rfl hx56) (by decide) ⟨_, rfl, (congrArg (fun b => some (Value.bool b)) t55)⟩ ?_
            obtain ⟨x57, hx57, hq52⟩ := bind_some hq52
            refine st_op (by decide) ⟨_, rfl, (congrArg (fun b => some (Value.bool b)) t55)⟩ ?_
            refine wf_call (cI_within w35 x46 0 x56 x57 hx57) Try.call55 ⟨rfl, rfl, rfl, trivial⟩ ?_
            rintro e62 w58 ⟨rfl, k59⟩
            have s61 := k59.stp 999 o34
            refine ⟨_, rfl, ?_⟩
            replace h4 := h4.stp s61 (by decide)
            replace hB := hB.stp s61 (by decide)
            replace kp := Keeps.trans kp k59
            refine st_val (ex_not rfl) (by decide) ⟨_, rfl, (congrArg (fun b => some (Value.bool b)) t55)⟩ ?_
            refine st_val (ex_pick_t (congrArg (fun b => some (Value.bool b)) t55) rfl) (by decide) trivial ?_
            have hq522 := Option.some.inj hq52
            refine wpF_end (r := [(1, u1), (2, (.pointer (some ⟨b3, 0, none⟩))), (22, u1), (23, (.int .i64 (p1.length : Int))), (24, (.int .i64 i36)), (37, (.bool (!x57)))]) ⟨rfl, rfl, rfl, rfl, rfl, rfl, trivial⟩ ?_
            subst hq522
            refine np_norm (fun a ha => ⟨ha, kp⟩)
          · rw [if_neg (by rw [t55]; decide)] at hq52
            refine st_no rfl rfl (by rw [t55]; rfl) (by decide) ?_
            refine st_no rfl rfl (by rw [t55]; rfl) (by decide) ?_
            refine st_no rfl rfl (by rw [t55]; rfl) (by decide) ?_
            refine st_no rfl rfl (by rw [t55]; rfl) (by decide) ?_
            refine st_no rfl rfl (by rw [t55]; rfl) (by decide) ?_
            refine st_val (ex_pick_f (congrArg (fun b => some (Value.bool b)) t55) rfl) (by decide) trivial ?_
            have hq522 := Option.some.inj hq52
            refine wpF_end (r := [(1, u1), (2, (.pointer (some ⟨b3, 0, none⟩))), (22, u1), (23, (.int .i64 (p1.length : Int))), (24, (.int .i64 i36)), (37, (.bool false))]) ⟨rfl, rfl, rfl, rfl, rfl, rfl, trivial⟩ ?_
            subst hq522
            refine np_norm (fun a ha => ⟨ha, kp⟩)
        rintro a65 w53 ⟨ha, k63⟩
        have s64 := k63.stp 999 o34
        replace h4 := h4.stp s64 (by decide)
        replace hB := hB.stp s64 (by decide)
        refine wl_of ha ?_
        refine wpF_end (r := [(1, u1), (2, (.pointer (some ⟨b3, 0, none⟩))), (22, u1), (23, (.int .i64 (p1.length : Int))), (24, (.int .i64 i36)), (37, (.bool q52))]) ⟨rfl, rfl, rfl, rfl, rfl, rfl, trivial⟩ ?_
        refine nx ?_
        refine wpC_cond rfl (fun t66 => ?_) (fun t66 => ?_)
        · rw [if_pos t66] at b43
          refine wpC_seq ?_
          refine wpC_region ?_
          refine st_val (ex_assign rfl) (by decide) trivial ?_
          refine wpF_end (r := [(4, (.bool false))]) ⟨rfl, trivial⟩ ?_
          refine nx ?_
          refine wpC_ret ?_
          refine nb_ret ?_
          refine nt_ret ?_
          refine nt_ret ?_
          refine nb_ret ?_
          refine np_ret ?_
          have e67 := Option.some.inj b43
          subst e67
          refine fun a ha => ⟨_, n44, ?_⟩
          refine ret_post (P := Try.prog) (vs := [(.bool false)]) Try.results45 ⟨rfl, trivial⟩ ?_ a ha
          exact ⟨rfl, hB.keeps⟩
        · rw [if_neg (by rw [t66]; decide)] at b43
          refine wpC_skip ?_
          refine nb_norm ?_
          refine nx ?_
          refine wpC_region ?_
          refine st_val (ex_add rfl rfl (ck_in (by omega) (by omega))) (by decide) trivial ?_
          refine st_val (ex_move rfl) (by decide) trivial ?_
          refine wpF_end (r := [(1, u1), (2, (.pointer (some ⟨b3, 0, none⟩))), (22, u1), (23, (.int .i64 (p1.length : Int))), (24, (.int .i64 (i36 + 1)))]) ⟨rfl, rfl, rfl, rfl, rfl, trivial⟩ ?_
          refine nt_norm ?_
          have e68 := Option.some.inj b43
          subst e68
          refine to_k (r := [(1, u1), (2, (.pointer (some ⟨b3, 0, none⟩))), (22, u1), (23, (.int .i64 (p1.length : Int))), (24, (.int .i64 (i36 + 1)))]) ⟨rfl, rfl, rfl, rfl, rfl, trivial⟩ ?_
          intro a ha
          exact ⟨_, (by rw [← m40]; simp only [List.length_drop]; omega), i36 + 1, o34, n44, rfl, (by omega), ha, hB, h4⟩
      · have r69 := forI_done t45 l38
        refine wp_of ha ?_
        refine wpC_seq ?_
        refine wpC_region ?_
        refine st_val (ex_lss rfl rfl) (by decide) trivial ?_
        refine wpF_end (r := [(1, u1), (2, (.pointer (some ⟨b3, 0, none⟩))), (22, u1), (23, (.int .i64 (p1.length : Int))), (24, (.int .i64 i36)), (25, (.bool (decide (i36 < (p1.length : Int)))))]) ⟨rfl, rfl, rfl, rfl, rfl, rfl, trivial⟩ ?_
        refine nx ?_
        refine wpC_seq ?_
        refine wpC_false (congrArg (fun b => some (Value.bool b)) (decide_eq_false t45)) ?_
        refine wpC_exit ?_
        refine nt_exit ?_
        refine nt_exit ?_
        refine nb_hit ?_
        refine np_norm ?_
        refine to_k (r := [(1, u1), (2, (.pointer (some ⟨b3, 0, none⟩)))]) ⟨rfl, rfl, trivial⟩ ?_
        intro a ha
        exact ⟨o34, r69, ha, hB, h4⟩
    · rintro a w35 ⟨o34, rfl, ha, hB, h4⟩
      dsimp only at hF
      refine ap_k ha ?_
      refine nx ?_
      refine wpC_seq ?_
      refine wpC_region ?_
      refine st_val (ex_move rfl) (by decide) trivial ?_
      obtain ⟨x70, hx70, hF⟩ := bind_some hF
      refine st_op (by decide) trivial ?_
      refine wf_call (cI_childrenOf w35 o34 15 (by decide) _ p1 (g1.keep hB.keeps) x70 hx70) Try.call24 ⟨rfl, trivial⟩ ?_
      rintro e79 w71 ⟨v72, g74, o80, rfl, h73, h75, k76, k77⟩
      have s78 := k76.stp' 15 k77
      replace h73 := h73.mono hB.keeps.size
      replace h75 := h75.mono hB.keeps.size
      refine ⟨_, rfl, ?_⟩
      replace h4 := h4.stp s78 (by decide)
      replace hB := hB.stp s78 (by decide)
      refine st_val (ex_func (vs := [(.pointer (some ⟨b3, 0, none⟩))]) ⟨rfl, trivial⟩) (by decide) trivial ?_
      obtain ⟨x84, hx84, hF⟩ := bind_some hF
      refine st_op (by decide) trivial ?_
      refine wf_call (cX_slices_ContainsFunc_LLint_int w71 _ x70 (h75.z h73) _ (fun z81 => fI_IsRootedTree_1 z81 p0) (show FnV Try.prog w71 (.func (.func 65) #[] #[(.pointer (some ⟨b3, 0, none⟩))]) (fun z81 => fI_IsRootedTree_1 z81 p0) from ⟨_, _, rfl, Try.call65, fun ww vs xx rr kk hok hG => by (obtain ⟨v82, rfl, h83⟩ := hok; exact cI_IsRootedTree_1 ww _ xx h83 b3 _ p0 ((h4.cells).keep kk) (Rp.keep ((show Rp.rd zt w71 [(.int .i64 p0)] (p0 : Int) from rfl)) kk) rr hG)⟩) x84 hx84) Try.call64 ⟨rfl, rfl, trivial⟩ ?_
      rintro e89 w85 ⟨rfl, k86⟩
      have s88 := k86.stp 999 o80
      refine ⟨_, rfl, ?_⟩
      replace h73 := h73.stp s88 (by decide) (by decide)
      replace h75 := h75.stp s88 (by decide) (by decide)
      replace h4 := h4.stp s88 (by decide)
      replace hB := hB.stp s88 (by decide)
      refine st_val (ex_not rfl) (by decide) trivial ?_
      refine st_val (ex_assign rfl) (by decide) trivial ?_
      refine wpF_end (r := [(4, (.bool (!x84)))]) ⟨rfl, trivial⟩ ?_
      refine nx ?_
      refine wpC_ret ?_
      have e90 := Option.some.inj hF
      subst e90
      refine ret_post (P := Try.prog) (vs := [(.bool (!x84))]) Try.results45 ⟨rfl, trivial⟩ ?_
      exact ⟨rfl, hB.keeps⟩
    · rintro a w35 ⟨r', rfl, b91⟩
      dsimp only at hF
      have e92 := Option.some.inj hF
      subst e92
      exact b91

def fI_rootedOk (fuel : Nat) (p0 : T_RootedProblem) (p1 : List Int) : Option Bool :=
  (fI_IsRootedProblem fuel p0) >>= fun x8 =>
  (
    if x8 then
      (fI_IsRootedTree p0.Children p1) >>= fun x18 =>
      some x18
    else
      some false) >>= fun q14 =>
  some q14

def pI_rootedOk (w : World) (r : Bool) : Ending → World → Prop := fun e w' => e = .returned (.bool r) ∧ Keeps w w'
set_option maxRecDepth 100000 in
set_option maxHeartbeats 2000000 in
theorem cI_rootedOk (fuel : Nat) (w : World) (u0 : List Value) (p0 : T_RootedProblem) (g0 : Rp.rd zt w u0 p0) (u1 : Value) (p1 : List Int) (g1 : RdL zt w u1 p1) (r : Bool) (hF : fI_rootedOk fuel p0 p1 = some r) :
    Calls Try.prog 23 #[.agg u0.toArray, u1] w (pI_rootedOk w r) := by
  unfold fI_rootedOk at hF
  obtain ⟨v1, rfl, h2⟩ := g0
  have hB : Bs (fun _ => 1) (col (fun _ => 1)) w w := Bs.start _ _
  refine calls_start (n := 13) (vs := [(.agg #[(.int .i64 p0.Labels), (.int .i64 p0.Children), v1]), u1]) Try.func23 rfl rfl ?_
  refine wpC_seq ?_
  refine wpC_region ?_
  refine st_op (by decide) trivial ?_
  refine wf_box (o := (col (fun _ => 1))) w.heap.size 11 hB.keeps.size (cs := [(.int .i64 p0.Labels), (.int .i64 p0.Children), v1]) rfl rfl ?_
  intro o3 w4 b5 h6 s7
  replace hB := hB.stp s7 (by decide)
  refine st_val (ex_assign rfl) (by decide) trivial ?_
  refine wpF_end (r := [(1, u1), (2, (.pointer (some ⟨b5, 0, none⟩)))]) ⟨rfl, rfl, trivial⟩ ?_
  refine nx ?_
  refine wpC_seq ?_
  refine wpC_region ?_
  refine st_val (ex_loadA rfl Try.isAgg29 Try.sizeOf29 rfl h6.cells) (by decide) trivial ?_
  obtain ⟨x8, hx8, hF⟩ := bind_some hF
  refine st_op (by decide) trivial ?_
  refine wf_call (cI_IsRootedProblem fuel w4 _ p0 (⟨_, rfl, (h2.keep hB.keeps)⟩) x8 hx8) Try.call44 ⟨rfl, trivial⟩ ?_
  rintro e13 w9 ⟨rfl, k10⟩
  have s12 := k10.stp 999 o3
  refine ⟨_, rfl, ?_⟩
  replace h6 := h6.stp s12 (by decide)
  replace hB := hB.stp s12 (by decide)
  refine st_val (ex_move rfl) (by decide) trivial ?_
  obtain ⟨q14, hq14, hF⟩ := bind_some hF
  refine wpF_cutAt 5 (fun a16 w15 => Fr a16 13 [(12, (.bool q14))] ∧ Keeps w9 w15) ?_ ?_
  all_goals simp only [List.take_succ_cons, List.take_zero, List.drop_succ_cons, List.drop_zero]
  · have kp : Keeps w9 w9 := Keeps.refl _
    rcases Bool.eq_false_or_eq_true (x8) with t17 | t17
    · rw [if_pos t17] at hq14
      refine st_val (ex_field rfl Try.underlying29 rfl Try.sizeOf3) (by decide) ⟨_, rfl, (congrArg (fun b => some (Value.bool b)) t17)⟩ ?_
      refine st_val (ex_load1 rfl Try.isAgg3 (h6.cell rfl)) (by decide) ⟨_, rfl, (congrArg (fun b => some (Value.bool b)) t17)⟩ ?_
      refine st_val (ex_move rfl) (by decide) ⟨_, rfl, (congrArg (fun b => some (Value.bool b)) t17)⟩ ?_
      obtain ⟨x18, hx18, hq14⟩ := bind_some hq14
      refine st_op (by decide) ⟨_, rfl, (congrArg (fun b => some (Value.bool b)) t17)⟩ ?_
      refine wf_call (cI_IsRootedTree w9 p0.Children _ p1 (g1.keep hB.keeps) x18 hx18) Try.call45 ⟨rfl, rfl, trivial⟩ ?_
      rintro e23 w19 ⟨rfl, k20⟩
      have s22 := k20.stp 999 o3
      refine ⟨_, rfl, ?_⟩
      replace h6 := h6.stp s22 (by decide)
      replace hB := hB.stp s22 (by decide)
      replace kp := Keeps.trans kp k20
      refine st_val (ex_pick_t (congrArg (fun b => some (Value.bool b)) t17) rfl) (by decide) trivial ?_
      have hq142 := Option.some.inj hq14
      refine wpF_end (r := [(12, (.bool x18))]) ⟨rfl, trivial⟩ ?_
      subst hq142
      refine np_norm (fun a ha => ⟨ha, kp⟩)
    · rw [if_neg (by rw [t17]; decide)] at hq14
      refine st_no rfl rfl (by rw [t17]; rfl) (by decide) ?_
      refine st_no rfl rfl (by rw [t17]; rfl) (by decide) ?_
      refine st_no rfl rfl (by rw [t17]; rfl) (by decide) ?_
      refine st_no rfl rfl (by rw [t17]; rfl) (by decide) ?_
      refine st_val (ex_pick_f (congrArg (fun b => some (Value.bool b)) t17) rfl) (by decide) trivial ?_
      have hq142 := Option.some.inj hq14
      refine wpF_end (r := [(12, (.bool false))]) ⟨rfl, trivial⟩ ?_
      subst hq142
      refine np_norm (fun a ha => ⟨ha, kp⟩)
  rintro a26 w15 ⟨ha, k24⟩
  have s25 := k24.stp 999 o3
  replace h6 := h6.stp s25 (by decide)
  replace hB := hB.stp s25 (by decide)
  refine wl_of ha ?_
  refine st_val (ex_assign rfl) (by decide) trivial ?_
  refine wpF_end (r := [(4, (.bool q14))]) ⟨rfl, trivial⟩ ?_
  refine nx ?_
  refine wpC_ret ?_
  have e27 := Option.some.inj hF
  subst e27
  refine ret_post (P := Try.prog) (vs := [(.bool q14)]) Try.results23 ⟨rfl, trivial⟩ ?_
  exact ⟨rfl, hB.keeps⟩

def fI_SolveDown_1 (p0 : List Int) (p1 : List Int) (p2 : Int) (p3 : Int) : Option Bool :=
  (
    (ix p0 0) >>= fun x7 =>
    (ix p1 p2) >>= fun x10 =>
    if x7 == x10 then
      (fI_onlyIn p3 p0) >>= fun x75 =>
      some x75
    else
      some false) >>= fun q3 =>
  some q3

def fI_SolveDown_s2 (p0 : T_RootedProblem) (x167 : Int) : Int → Int → (List Int) → Option (Lp (List Int) (List Int) ((List Int) × Bool)) := fun (i178 : Int) (x188 : Int) (s : List Int) =>
  (ix p0.Lines x167) >>= fun x194 =>
  (ck (i178 + 1)) >>= fun x200 =>
  (ix x194 x200) >>= fun x201 =>
  (ix s x188) >>= fun x266 =>
  (st s x188 x201) >>= fun x275 =>
  some (.go x275)
def fI_SolveDown_s1 (p0 : T_RootedProblem) (x29 : Int) : Int → (List Int) → (List Int) → Option (Lp (List Int) (List Int) ((List Int) × Bool)) := fun (i134 : Int) (x144 : List Int) (s : List Int) =>
  if (x144.length : Int) == 0 then
    some (.go s)
  else
    (fX_slices_IndexFunc_LLint_int p0.Lines (fun z164 => fI_SolveDown_1 z164 s i134 x29)) >>= fun x167 =>
    (forI (fI_SolveDown_s2 p0 x167) x144 0 s) >>= fun q179 =>
    match q179 with
    | .inl y173 =>
      some (.go y173)
    | .inr _ => none
def fI_SolveDown (fuel : Nat) (p0 : T_RootedProblem) (p1 : List Int) : Option ((List Int) × Bool) :=
  (fI_rootedOk fuel p0 p1) >>= fun x8 =>
  (
    if !x8 then
      some true
    else
      (fI_RootedProblem_rootsOfDepth fuel p0 (-1)) >>= fun x18 =>
      some (x18 == 0)) >>= fun q14 =>
  if q14 then
    some ([], false)
  else
    (fI_RootedProblem_rootsOfDepth fuel p0 (-1)) >>= fun x29 =>
    (mk (Rz.z : Int) (p1.length : Int)) >>= fun x43 =>
    (fI_labelsIn fuel x29) >>= fun x57 =>
    (ix x57 0) >>= fun x66 =>
    (ix x43 0) >>= fun x107 =>
    (st x43 0 x66) >>= fun x116 =>
    (fI_childrenOf p1) >>= fun x118 =>
    (forI (fI_SolveDown_s1 p0 x29) x118 0 x116) >>= fun q135 =>
    match q135 with
    | .inl y129 =>
      some (y129, true)
    | .inr _ => none

end Go.Proofs.Ytjmhjobfiemmnaa
