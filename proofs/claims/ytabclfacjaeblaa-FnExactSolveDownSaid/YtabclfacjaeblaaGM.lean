/- spec.roTree, spec.roAsked, spec.SolveDown, impl.IsRootedTree$1, slices.IndexFunc[[][]int,[]int], slices.ContainsFunc[[][]int,[]int], impl.IsRootedTree, impl.rootedOk, impl.SolveDown$1, impl.SolveDown: plain functions, and the walks that show that the program computes them (printed by gen.py). -/
import Derived.Test.YtabclfacjaeblaaGC
import Derived.Test.YtabclfacjaeblaaGL
namespace Go.Proofs.Ytabclfacjaeblaa
open Go.RowKit
set_option linter.unusedSimpArgs false
set_option linter.unusedVariables false

theorem info2_t_int_M : Inf Try.prog 3 (.int .i64 0) 1 8 := by unfold Inf; kernel_rfl

def fS_roTree_s1 : Int → Int → Unit → Option (Lp Unit Unit Bool) := fun (i24 : Int) (x34 : Int) (s : Unit) =>
  (ck (i24 - 1)) >>= fun x40 =>
  (fS_l1In x34 0 x40) >>= fun x41 =>
  (
    if !x41 then
      if decide (i24 > 0) then
        some true
      else
        some (x34 != (-1))
    else
      some false) >>= fun q47 =>
  if q47 then
    some (.ret false)
  else
    some (.go ())
def fS_roTree_s2 (p0 : Int) : Int → (List Int) → Unit → Option (Lp Unit Unit Bool) := fun (i72 : Int) (x82 : List Int) (s : Unit) =>
  (
    if (x82.length : Int) != 0 then
      some ((x82.length : Int) != p0)
    else
      some false) >>= fun q92 =>
  if q92 then
    some (.ret false)
  else
    some (.go ())
def fS_roTree (p0 : Int) (p1 : List Int) : Option Bool :=
  (fS_l1In p0 1 3) >>= fun x1 =>
  (
    if !x1 then
      some true
    else
      (fS_l1In (p1.length : Int) 1 200) >>= fun x11 =>
      some (!x11)) >>= fun q7 =>
  if q7 then
    some false
  else
    (forI (fS_roTree_s1) p1 0 ()) >>= fun q25 =>
    match q25 with
    | .inl _ =>
      (fS_roBelow p1) >>= fun x59 =>
      (forI (fS_roTree_s2 p0) x59 0 ()) >>= fun q73 =>
      match q73 with
      | .inl _ =>
        some true
      | .inr r' => some r'
    | .inr r' => some r'

def pS_roTree (w : World) (r : Bool) : Ending → World → Prop := fun e w' => e = .returned (.bool r) ∧ Keeps w w'
set_option maxRecDepth 100000 in
set_option maxHeartbeats 2000000 in
theorem cS_roTree (w : World) (p0 : Int) (u1 : Value) (p1 : List Int) (g1 : RdL zt w u1 p1) (r : Bool) (hF : fS_roTree p0 p1 = some r) :
    Calls Try.prog 121 #[.int .i64 p0, u1] w (pS_roTree w r) := by
  unfold fS_roTree at hF
  have hB : Bs (fun _ => 1) (col (fun _ => 1)) w w := Bs.start _ _
  refine calls_start (n := 56) (vs := [(.int .i64 p0), u1]) Try.func121 rfl rfl ?_
  refine wpC_seq ?_
  refine wpC_region ?_
  refine st_val (ex_assign rfl) (by decide) trivial ?_
  refine wpF_end (r := [(0, (.int .i64 p0)), (1, u1)]) ⟨rfl, rfl, trivial⟩ ?_
  refine nx ?_
  refine wpC_seq ?_
  refine wpC_seq ?_
  refine wpC_region ?_
  refine st_val (ex_move rfl) (by decide) trivial ?_
  obtain ⟨x1, hx1, hF⟩ := bind_some hF
  refine st_op (by decide) trivial ?_
  refine wf_call (cS_l1In w p0 1 3 x1 hx1) Try.call53 ⟨rfl, rfl, rfl, trivial⟩ ?_
  rintro e6 w2 ⟨rfl, k3⟩
  have s5 := k3.stp 999 (col (fun _ => 1))
  refine ⟨_, rfl, ?_⟩
  replace hB := hB.stp s5 (by decide)
  refine st_val (ex_not rfl) (by decide) trivial ?_
  refine st_val (ex_move rfl) (by decide) trivial ?_
  obtain ⟨q7, hq7, hF⟩ := bind_some hF
  refine wpF_cutAt 5 (fun a9 w8 => Fr a9 56 [(0, (.int .i64 p0)), (1, u1), (17, (.bool q7))] ∧ Keeps w2 w8) ?_ ?_
  all_goals simp only [List.take_succ_cons, List.take_zero, List.drop_succ_cons, List.drop_zero]
  · have kp : Keeps w2 w2 := Keeps.refl _
    rcases Bool.eq_false_or_eq_true (!x1) with t10 | t10
    · rw [if_pos t10] at hq7
      refine st_no rfl rfl (by rw [t10]; rfl) (by decide) ?_
      refine st_no rfl rfl (by rw [t10]; rfl) (by decide) ?_
      refine st_no rfl rfl (by rw [t10]; rfl) (by decide) ?_
      refine st_no rfl rfl (by rw [t10]; rfl) (by decide) ?_
      refine st_val (ex_pick_t (congrArg (fun b => some (Value.bool b)) t10) rfl) (by decide) trivial ?_
      have hq72 := Option.some.inj hq7
      refine wpF_end (r := [(0, (.int .i64 p0)), (1, u1), (17, (.bool true))]) ⟨rfl, rfl, rfl, trivial⟩ ?_
      subst hq72
      refine np_norm (fun a ha => ⟨ha, kp⟩)
    · rw [if_neg (by rw [t10]; decide)] at hq7
      refine st_val (ex_move rfl) (by decide) ⟨_, rfl, (congrArg (fun b => some (Value.bool b)) t10)⟩ ?_
      refine st_val (ex_lenR rfl g1 Try.underlying26) (by decide) ⟨_, rfl, (congrArg (fun b => some (Value.bool b)) t10)⟩ ?_
      obtain ⟨x11, hx11, hq7⟩ := bind_some hq7
      refine st_op (by decide) ⟨_, rfl, (congrArg (fun b => some (Value.bool b)) t10)⟩ ?_
      refine wf_call (cS_l1In w2 (p1.length : Int) 1 200 x11 hx11) Try.call53 ⟨rfl, rfl, rfl, trivial⟩ ?_
      rintro e16 w12 ⟨rfl, k13⟩
      have s15 := k13.stp 999 (col (fun _ => 1))
      refine ⟨_, rfl, ?_⟩
      replace hB := hB.stp s15 (by decide)
      replace kp := Keeps.trans kp k13
      refine st_val (ex_not rfl) (by decide) ⟨_, rfl, (congrArg (fun b => some (Value.bool b)) t10)⟩ ?_
      refine st_val (ex_pick_f (congrArg (fun b => some (Value.bool b)) t10) rfl) (by decide) trivial ?_
      have hq72 := Option.some.inj hq7
      refine wpF_end (r := [(0, (.int .i64 p0)), (1, u1), (17, (.bool (!x11)))]) ⟨rfl, rfl, rfl, trivial⟩ ?_
      subst hq72
      refine np_norm (fun a ha => ⟨ha, kp⟩)
  rintro a19 w8 ⟨ha, k17⟩
  have s18 := k17.stp 999 (col (fun _ => 1))
  replace hB := hB.stp s18 (by decide)
  refine wl_of ha ?_
  refine wpF_end (r := [(0, (.int .i64 p0)), (1, u1), (17, (.bool q7))]) ⟨rfl, rfl, rfl, trivial⟩ ?_
  refine nx ?_
  refine wpC_cond rfl (fun t20 => ?_) (fun t20 => ?_)
  · rw [if_pos t20] at hF
    refine wpC_seq ?_
    refine wpC_region ?_
    refine st_val (ex_assign rfl) (by decide) trivial ?_
    refine wpF_end (r := [(4, (.bool false))]) ⟨rfl, trivial⟩ ?_
    refine nx ?_
    refine wpC_ret ?_
    refine nt_ret ?_
    have e21 := Option.some.inj hF
    subst e21
    refine ret_post (P := Try.prog) (vs := [(.bool false)]) Try.results121 ⟨rfl, trivial⟩ ?_
    exact ⟨rfl, hB.keeps⟩
  · rw [if_neg (by rw [t20]; decide)] at hF
    refine wpC_skip ?_
    refine nx ?_
    refine wpC_seq ?_
    refine wpC_seq ?_
    refine wpC_region ?_
    refine st_val (ex_move rfl) (by decide) trivial ?_
    refine st_val (ex_lenR rfl g1 Try.underlying26) (by decide) trivial ?_
    refine st_val (ex_move rfl) (by decide) trivial ?_
    refine wpF_end (r := [(0, (.int .i64 p0)), (1, u1), (18, u1), (19, (.int .i64 (p1.length : Int))), (20, (.int .i64 0))]) ⟨rfl, rfl, rfl, rfl, rfl, trivial⟩ ?_
    refine nx ?_
    obtain ⟨q25, hq25, hF⟩ := bind_some hF
    refine wpC_cutN (fun a w23 => ∃ (o22 : Tg), q25 = .inl () ∧ Fr a 56 [(0, (.int .i64 p0)), (1, u1)] ∧ Bs (fun _ => 1) o22 w w23) (fun a w' => ∃ r', q25 = .inr r' ∧ bodyPost Try.prog Try.f121 (pS_roTree w r') .ret a w') ?_ ?_ ?_
    · refine wpC_block ?_
      refine wpC_loop (fun (K : Nat) a w23 => ∃ (i24 : Int) (o22 : Tg), forI (fS_roTree_s1) (p1.drop i24.toNat) i24 () = some q25 ∧ (p1.drop i24.toNat).length = K ∧ 0 ≤ i24 ∧ Fr a 56 [(0, (.int .i64 p0)), (1, u1), (18, u1), (19, (.int .i64 (p1.length : Int))), (20, (.int .i64 i24))] ∧ Bs (fun _ => 1) o22 w w23) _ (fun a ha => ⟨0, (col (fun _ => 1)), hq25, rfl, Int.le_refl 0, ha.sub (r := [(0, (.int .i64 p0)), (1, u1), (18, u1), (19, (.int .i64 (p1.length : Int))), (20, (.int .i64 0))]) ⟨rfl, rfl, rfl, rfl, rfl, trivial⟩, hB⟩) ?_
      rintro K29 a w23 ⟨i24, o22, l26, m28, z27, ha, hB⟩
      by_cases t33 : i24 < (p1.length : Int)
      · obtain ⟨x34, q30, hx34, b31, n32⟩ := forI_cons z27 t33 l26
        have hle := g1.len_le
        dsimp only [fS_roTree_s1] at b31
        refine wp_of ha ?_
        refine wpC_seq ?_
        refine wpC_region ?_
        refine st_val (ex_lss rfl rfl) (by decide) trivial ?_
        refine wpF_end (r := [(0, (.int .i64 p0)), (1, u1), (18, u1), (19, (.int .i64 (p1.length : Int))), (20, (.int .i64 i24)), (21, (.bool (decide (i24 < (p1.length : Int)))))]) ⟨rfl, rfl, rfl, rfl, rfl, rfl, trivial⟩ ?_
        refine nx ?_
        refine wpC_seq ?_
        refine wpC_true (congrArg (fun b => some (Value.bool b)) (decide_eq_true t33)) ?_
        refine wpC_skip ?_
        refine nx ?_
        refine wpC_seq ?_
        refine wpC_block ?_
        refine wpC_seq ?_
        refine wpC_region ?_
        refine st_val (ex_move rfl) (by decide) trivial ?_
        refine st_op (by decide) trivial ?_
        refine wf_atZ g1 hx34 hB rfl rfl Try.underlying26 Try.sizeOf3 ?_
        intro b35 f36 c37 h38 h39
        cases h39
        refine st_val (ex_load1 rfl Try.isAgg3 (cell_of_cells h38)) (by decide) trivial ?_
        refine st_val (ex_assign rfl) (by decide) trivial ?_
        refine st_val (ex_assign rfl) (by decide) trivial ?_
        refine wpF_end (r := [(0, (.int .i64 p0)), (1, u1), (5, (.int .i64 i24)), (6, (.int .i64 x34)), (18, u1), (19, (.int .i64 (p1.length : Int))), (20, (.int .i64 i24))]) ⟨rfl, rfl, rfl, rfl, rfl, rfl, rfl, trivial⟩ ?_
        refine nx ?_
        refine wpC_seq ?_
        refine wpC_region ?_
        refine st_val (ex_move rfl) (by decide) trivial ?_
        refine st_val (ex_move rfl) (by decide) trivial ?_
        obtain ⟨x40, hx40, b31⟩ := bind_some b31
        refine st_val (ex_sub rfl rfl hx40) (by decide) trivial ?_
        obtain ⟨x41, hx41, b31⟩ := bind_some b31
        refine st_op (by decide) trivial ?_
        refine wf_call (cS_l1In w23 x34 0 x40 x41 hx41) Try.call53 ⟨rfl, rfl, rfl, trivial⟩ ?_
        rintro e46 w42 ⟨rfl, k43⟩
        have s45 := k43.stp 999 o22
        refine ⟨_, rfl, ?_⟩
        replace hB := hB.stp s45 (by decide)
        refine st_val (ex_not rfl) (by decide) trivial ?_
        refine st_val (ex_move rfl) (by decide) trivial ?_
        obtain ⟨q47, hq47, b31⟩ := bind_some b31
        refine wpF_cutAt 7 (fun a49 w48 => Fr a49 56 [(0, (.int .i64 p0)), (1, u1), (18, u1), (19, (.int .i64 (p1.length : Int))), (20, (.int .i64 i24)), (37, (.bool q47))] ∧ Keeps w42 w48) ?_ ?_
        all_goals simp only [List.take_succ_cons, List.take_zero, List.drop_succ_cons, List.drop_zero]
        · have kp : Keeps w42 w42 := Keeps.refl _
          rcases Bool.eq_false_or_eq_true (!x41) with t50 | t50
          · rw [if_pos t50] at hq47
            refine st_val (ex_move rfl) (by decide) ⟨_, rfl, (congrArg (fun b => some (Value.bool b)) t50)⟩ ?_
            refine st_val (ex_gtr rfl rfl) (by decide) ⟨_, rfl, (congrArg (fun b => some (Value.bool b)) t50)⟩ ?_
            refine st_val (ex_move rfl) (by decide) ⟨_, rfl, (congrArg (fun b => some (Value.bool b)) t50)⟩ ?_
            rcases Bool.eq_false_or_eq_true (decide (i24 > 0)) with t51 | t51
            · rw [if_pos t51] at hq47
              refine st_no rfl rfl (by rw [t51]; rfl) (by decide) ?_
              refine st_no rfl rfl (by rw [t51]; rfl) (by decide) ?_
              refine st_val (ex_pick_t (congrArg (fun b => some (Value.bool b)) t51) rfl) (by decide) ⟨_, rfl, (congrArg (fun b => some (Value.bool b)) t50)⟩ ?_
              refine st_val (ex_pick_t (congrArg (fun b => some (Value.bool b)) t50) rfl) (by decide) trivial ?_
              have hq472 := Option.some.inj hq47
              refine wpF_end (r := [(0, (.int .i64 p0)), (1, u1), (18, u1), (19, (.int .i64 (p1.length : Int))), (20, (.int .i64 i24)), (37, (.bool true))]) ⟨rfl, rfl, rfl, rfl, rfl, rfl, trivial⟩ ?_
              subst hq472
              refine np_norm (fun a ha => ⟨ha, kp⟩)
            · rw [if_neg (by rw [t51]; decide)] at hq47
              refine st_val (ex_move rfl) (by decide) ⟨_, rfl, (congrArg (fun b => some (Value.bool b)) t51)⟩ ?_
              refine st_val (ex_neq rfl rfl) (by decide) ⟨_, rfl, (congrArg (fun b => some (Value.bool b)) t51)⟩ ?_
              refine st_val (ex_pick_f (congrArg (fun b => some (Value.bool b)) t51) rfl) (by decide) ⟨_, rfl, (congrArg (fun b => some (Value.bool b)) t50)⟩ ?_
              refine st_val (ex_pick_t (congrArg (fun b => some (Value.bool b)) t50) rfl) (by decide) trivial ?_
              have hq472 := Option.some.inj hq47
              refine wpF_end (r := [(0, (.int .i64 p0)), (1, u1), (18, u1), (19, (.int .i64 (p1.length : Int))), (20, (.int .i64 i24)), (37, (.bool (x34 != (-1))))]) ⟨rfl, rfl, rfl, rfl, rfl, rfl, trivial⟩ ?_
              subst hq472
              refine np_norm (fun a ha => ⟨ha, kp⟩)
          · rw [if_neg (by rw [t50]; decide)] at hq47
            refine st_no rfl rfl (by rw [t50]; rfl) (by decide) ?_
            refine st_no rfl rfl (by rw [t50]; rfl) (by decide) ?_
            refine st_no rfl rfl (by rw [t50]; rfl) (by decide) ?_
            refine st_no2 rfl rfl (by decide) ?_
            refine st_no2 rfl rfl (by decide) ?_
            refine st_no rfl rfl (by rw [t50]; rfl) (by decide) ?_
            refine st_val (ex_pick_f (congrArg (fun b => some (Value.bool b)) t50) rfl) (by decide) trivial ?_
            have hq472 := Option.some.inj hq47
            refine wpF_end (r := [(0, (.int .i64 p0)), (1, u1), (18, u1), (19, (.int .i64 (p1.length : Int))), (20, (.int .i64 i24)), (37, (.bool false))]) ⟨rfl, rfl, rfl, rfl, rfl, rfl, trivial⟩ ?_
            subst hq472
            refine np_norm (fun a ha => ⟨ha, kp⟩)
        rintro a54 w48 ⟨ha, k52⟩
        have s53 := k52.stp 999 o22
        replace hB := hB.stp s53 (by decide)
        refine wl_of ha ?_
        refine wpF_end (r := [(0, (.int .i64 p0)), (1, u1), (18, u1), (19, (.int .i64 (p1.length : Int))), (20, (.int .i64 i24)), (37, (.bool q47))]) ⟨rfl, rfl, rfl, rfl, rfl, rfl, trivial⟩ ?_
        refine nx ?_
        refine wpC_cond rfl (fun t55 => ?_) (fun t55 => ?_)
        · rw [if_pos t55] at b31
          refine wpC_seq ?_
          refine wpC_region ?_
          refine st_val (ex_assign rfl) (by decide) trivial ?_
          refine wpF_end (r := [(4, (.bool false))]) ⟨rfl, trivial⟩ ?_
          refine nx ?_
          refine wpC_ret ?_
          refine nb_ret ?_
          refine nt_ret ?_
          refine nt_ret ?_
          refine nb_ret ?_
          refine np_ret ?_
          have e56 := Option.some.inj b31
          subst e56
          refine fun a ha => ⟨_, n32, ?_⟩
          refine ret_post (P := Try.prog) (vs := [(.bool false)]) Try.results121 ⟨rfl, trivial⟩ ?_ a ha
          exact ⟨rfl, hB.keeps⟩
        · rw [if_neg (by rw [t55]; decide)] at b31
          refine wpC_skip ?_
          refine nb_norm ?_
          refine nx ?_
          refine wpC_region ?_
          refine st_val (ex_add rfl rfl (ck_in (by omega) (by omega))) (by decide) trivial ?_
          refine st_val (ex_move rfl) (by decide) trivial ?_
          refine wpF_end (r := [(0, (.int .i64 p0)), (1, u1), (18, u1), (19, (.int .i64 (p1.length : Int))), (20, (.int .i64 (i24 + 1)))]) ⟨rfl, rfl, rfl, rfl, rfl, trivial⟩ ?_
          refine nt_norm ?_
          have e57 := Option.some.inj b31
          subst e57
          refine to_k (r := [(0, (.int .i64 p0)), (1, u1), (18, u1), (19, (.int .i64 (p1.length : Int))), (20, (.int .i64 (i24 + 1)))]) ⟨rfl, rfl, rfl, rfl, rfl, trivial⟩ ?_
          intro a ha
          exact ⟨_, (by rw [← m28]; simp only [List.length_drop]; omega), i24 + 1, o22, n32, rfl, (by omega), ha, hB⟩
      · have r58 := forI_done t33 l26
        refine wp_of ha ?_
        refine wpC_seq ?_
        refine wpC_region ?_
        refine st_val (ex_lss rfl rfl) (by decide) trivial ?_
        refine wpF_end (r := [(0, (.int .i64 p0)), (1, u1), (18, u1), (19, (.int .i64 (p1.length : Int))), (20, (.int .i64 i24)), (21, (.bool (decide (i24 < (p1.length : Int)))))]) ⟨rfl, rfl, rfl, rfl, rfl, rfl, trivial⟩ ?_
        refine nx ?_
        refine wpC_seq ?_
        refine wpC_false (congrArg (fun b => some (Value.bool b)) (decide_eq_false t33)) ?_
        refine wpC_exit ?_
        refine nt_exit ?_
        refine nt_exit ?_
        refine nb_hit ?_
        refine np_norm ?_
        refine to_k (r := [(0, (.int .i64 p0)), (1, u1)]) ⟨rfl, rfl, trivial⟩ ?_
        intro a ha
        exact ⟨o22, r58, ha, hB⟩
    · rintro a w23 ⟨o22, rfl, ha, hB⟩
      dsimp only at hF
      refine ap_k ha ?_
      refine nx ?_
      refine wpC_seq ?_
      refine wpC_seq ?_
      refine wpC_region ?_
      refine st_val (ex_move rfl) (by decide) trivial ?_
      obtain ⟨x59, hx59, hF⟩ := bind_some hF
      refine st_op (by decide) trivial ?_
      refine wf_call (cS_roBelow w23 o22 14 (by decide) _ p1 (g1.keep hB.keeps) x59 hx59) Try.call72 ⟨rfl, trivial⟩ ?_
      rintro e68 w60 ⟨v61, g63, o69, rfl, h62, h64, k65, k66⟩
      have s67 := k65.stp' 14 k66
      replace h62 := h62.mono hB.keeps.size
      replace h64 := h64.mono hB.keeps.size
      refine ⟨_, rfl, ?_⟩
      replace hB := hB.stp s67 (by decide)
      refine st_val (ex_lenR rfl (h64.z h62) Try.underlying22) (by decide) trivial ?_
      refine st_val (ex_move rfl) (by decide) trivial ?_
      refine wpF_end (r := [(0, (.int .i64 p0)), (40, v61), (41, (.int .i64 (x59.length : Int))), (42, (.int .i64 0))]) ⟨rfl, rfl, rfl, rfl, trivial⟩ ?_
      refine nx ?_
      obtain ⟨q73, hq73, hF⟩ := bind_some hF
      refine wpC_cutN (fun a w71 => ∃ (o70 : Tg), q73 = .inl () ∧ Fr a 56 [] ∧ Bs (fun _ => 1) o70 w w71) (fun a w' => ∃ r', q73 = .inr r' ∧ bodyPost Try.prog Try.f121 (pS_roTree w r') .ret a w') ?_ ?_ ?_
      · refine wpC_block ?_
        refine wpC_loop (fun (K : Nat) a w71 => ∃ (i72 : Int) (o70 : Tg), forI (fS_roTree_s2 p0) (x59.drop i72.toNat) i72 () = some q73 ∧ (x59.drop i72.toNat).length = K ∧ 0 ≤ i72 ∧ Fr a 56 [(0, (.int .i64 p0)), (40, v61), (41, (.int .i64 (x59.length : Int))), (42, (.int .i64 i72))] ∧ Bs (fun _ => 1) o70 w w71 ∧ Ow w.heap.size 26 14 o70 w71 v61 g63 ∧ Rws w.heap.size 3 15 o70 w71 g63 x59) _ (fun a ha => ⟨0, o69, hq73, rfl, Int.le_refl 0, ha.sub (r := [(0, (.int .i64 p0)), (40, v61), (41, (.int .i64 (x59.length : Int))), (42, (.int .i64 0))]) ⟨rfl, rfl, rfl, rfl, trivial⟩, hB, h62, h64⟩) ?_
        rintro K77 a w71 ⟨i72, o70, l74, m76, z75, ha, hB, h62, h64⟩
        by_cases t81 : i72 < (x59.length : Int)
        · obtain ⟨x82, q78, hx82, b79, n80⟩ := forI_cons z75 t81 l74
          have hle := (h64.z h62).len_le
          dsimp only [fS_roTree_s2] at b79
          refine wp_of ha ?_
          refine wpC_seq ?_
          refine wpC_region ?_
          refine st_val (ex_lss rfl rfl) (by decide) trivial ?_
          refine wpF_end (r := [(0, (.int .i64 p0)), (40, v61), (41, (.int .i64 (x59.length : Int))), (42, (.int .i64 i72)), (43, (.bool (decide (i72 < (x59.length : Int)))))]) ⟨rfl, rfl, rfl, rfl, rfl, trivial⟩ ?_
          refine nx ?_
          refine wpC_seq ?_
          refine wpC_true (congrArg (fun b => some (Value.bool b)) (decide_eq_true t81)) ?_
          refine wpC_skip ?_
          refine nx ?_
          refine wpC_seq ?_
          refine wpC_block ?_
          refine wpC_seq ?_
          refine wpC_region ?_
          obtain ⟨v83, h84, h85, h86⟩ := h64.ix hx82
          refine st_op (by decide) trivial ?_
          refine wf_atW h62 h84 rfl rfl Try.underlying22 Try.sizeOf26 ?_
          intro b87 f88 c89 h90 h91
          obtain ⟨rfl, -⟩ := h91
          refine st_val (ex_load1 rfl Try.isAgg26 (cell_of_cells h90)) (by decide) trivial ?_
          refine st_val (ex_assign rfl) (by decide) trivial ?_
          refine wpF_end (r := [(0, (.int .i64 p0)), (8, v83), (40, v61), (41, (.int .i64 (x59.length : Int))), (42, (.int .i64 i72))]) ⟨rfl, rfl, rfl, rfl, rfl, trivial⟩ ?_
          refine nx ?_
          refine wpC_seq ?_
          refine wpC_region ?_
          refine st_val (ex_move rfl) (by decide) trivial ?_
          refine st_val (ex_lenO rfl (h64.at h85 h86) Try.underlying26) (by decide) trivial ?_
          refine st_val (ex_neq rfl rfl) (by decide) trivial ?_
          refine st_val (ex_move rfl) (by decide) trivial ?_
          obtain ⟨q92, hq92, b79⟩ := bind_some b79
          refine wpF_cutAt 5 (fun a94 w93 => Fr a94 56 [(0, (.int .i64 p0)), (40, v61), (41, (.int .i64 (x59.length : Int))), (42, (.int .i64 i72)), (54, (.bool q92))] ∧ Keeps w71 w93) ?_ ?_
          all_goals simp only [List.take_succ_cons, List.take_zero, List.drop_succ_cons, List.drop_zero]
          · have kp : Keeps w71 w71 := Keeps.refl _
            rcases Bool.eq_false_or_eq_true ((x82.length : Int) != 0) with t95 | t95
            · rw [if_pos t95] at hq92
              refine st_val (ex_move rfl) (by decide) ⟨_, rfl, (congrArg (fun b => some (Value.bool b)) t95)⟩ ?_
              refine st_val (ex_lenO rfl (h64.at h85 h86) Try.underlying26) (by decide) ⟨_, rfl, (congrArg (fun b => some (Value.bool b)) t95)⟩ ?_
              refine st_val (ex_move rfl) (by decide) ⟨_, rfl, (congrArg (fun b => some (Value.bool b)) t95)⟩ ?_
              refine st_val (ex_neq rfl rfl) (by decide) ⟨_, rfl, (congrArg (fun b => some (Value.bool b)) t95)⟩ ?_
              refine st_val (ex_pick_t (congrArg (fun b => some (Value.bool b)) t95) rfl) (by decide) trivial ?_
              have hq922 := Option.some.inj hq92
              refine wpF_end (r := [(0, (.int .i64 p0)), (40, v61), (41, (.int .i64 (x59.length : Int))), (42, (.int .i64 i72)), (54, (.bool ((x82.length : Int) != p0)))]) ⟨rfl, rfl, rfl, rfl, rfl, trivial⟩ ?_
              subst hq922
              refine np_norm (fun a ha => ⟨ha, kp⟩)
            · rw [if_neg (by rw [t95]; decide)] at hq92
              refine st_no rfl rfl (by rw [t95]; rfl) (by decide) ?_
              refine st_no rfl rfl (by rw [t95]; rfl) (by decide) ?_
              refine st_no rfl rfl (by rw [t95]; rfl) (by decide) ?_
              refine st_no rfl rfl (by rw [t95]; rfl) (by decide) ?_
              refine st_val (ex_pick_f (congrArg (fun b => some (Value.bool b)) t95) rfl) (by decide) trivial ?_
              have hq922 := Option.some.inj hq92
              refine wpF_end (r := [(0, (.int .i64 p0)), (40, v61), (41, (.int .i64 (x59.length : Int))), (42, (.int .i64 i72)), (54, (.bool false))]) ⟨rfl, rfl, rfl, rfl, rfl, trivial⟩ ?_
              subst hq922
              refine np_norm (fun a ha => ⟨ha, kp⟩)
          rintro a98 w93 ⟨ha, k96⟩
          have s97 := k96.stp 999 o70
          replace h62 := h62.stp s97 (by decide) (by decide)
          replace h64 := h64.stp s97 (by decide) (by decide)
          replace hB := hB.stp s97 (by decide)
          refine wl_of ha ?_
          refine wpF_end (r := [(0, (.int .i64 p0)), (40, v61), (41, (.int .i64 (x59.length : Int))), (42, (.int .i64 i72)), (54, (.bool q92))]) ⟨rfl, rfl, rfl, rfl, rfl, trivial⟩ ?_
          refine nx ?_
          refine wpC_cond rfl (fun t99 => ?_) (fun t99 => ?_)
          · rw [if_pos t99] at b79
            refine wpC_seq ?_
            refine wpC_region ?_
            refine st_val (ex_assign rfl) (by decide) trivial ?_
            refine wpF_end (r := [(4, (.bool false))]) ⟨rfl, trivial⟩ ?_
            refine nx ?_
            refine wpC_ret ?_
            refine nb_ret ?_
            refine nt_ret ?_
            refine nt_ret ?_
            refine nb_ret ?_
            refine np_ret ?_
            have e100 := Option.some.inj b79
            subst e100
            refine fun a ha => ⟨_, n80, ?_⟩
            refine ret_post (P := Try.prog) (vs := [(.bool false)]) Try.results121 ⟨rfl, trivial⟩ ?_ a ha
            exact ⟨rfl, hB.keeps⟩
          · rw [if_neg (by rw [t99]; decide)] at b79
            refine wpC_skip ?_
            refine nb_norm ?_
            refine nx ?_
            refine wpC_region ?_
            refine st_val (ex_add rfl rfl (ck_in (by omega) (by omega))) (by decide) trivial ?_
            refine st_val (ex_move rfl) (by decide) trivial ?_
            refine wpF_end (r := [(0, (.int .i64 p0)), (40, v61), (41, (.int .i64 (x59.length : Int))), (42, (.int .i64 (i72 + 1)))]) ⟨rfl, rfl, rfl, rfl, trivial⟩ ?_
            refine nt_norm ?_
            have e101 := Option.some.inj b79
            subst e101
            refine to_k (r := [(0, (.int .i64 p0)), (40, v61), (41, (.int .i64 (x59.length : Int))), (42, (.int .i64 (i72 + 1)))]) ⟨rfl, rfl, rfl, rfl, trivial⟩ ?_
            intro a ha
            exact ⟨_, (by rw [← m76]; simp only [List.length_drop]; omega), i72 + 1, o70, n80, rfl, (by omega), ha, hB, h62, h64⟩
        · have r102 := forI_done t81 l74
          refine wp_of ha ?_
          refine wpC_seq ?_
          refine wpC_region ?_
          refine st_val (ex_lss rfl rfl) (by decide) trivial ?_
          refine wpF_end (r := [(0, (.int .i64 p0)), (40, v61), (41, (.int .i64 (x59.length : Int))), (42, (.int .i64 i72)), (43, (.bool (decide (i72 < (x59.length : Int)))))]) ⟨rfl, rfl, rfl, rfl, rfl, trivial⟩ ?_
          refine nx ?_
          refine wpC_seq ?_
          refine wpC_false (congrArg (fun b => some (Value.bool b)) (decide_eq_false t81)) ?_
          refine wpC_exit ?_
          refine nt_exit ?_
          refine nt_exit ?_
          refine nb_hit ?_
          refine np_norm ?_
          refine to_k (r := []) trivial ?_
          intro a ha
          exact ⟨o70, r102, ha, hB⟩
      · rintro a w71 ⟨o70, rfl, ha, hB⟩
        dsimp only at hF
        refine ap_k ha ?_
        refine nx ?_
        refine wpC_seq ?_
        refine wpC_region ?_
        refine st_val (ex_assign rfl) (by decide) trivial ?_
        refine wpF_end (r := [(4, (.bool true))]) ⟨rfl, trivial⟩ ?_
        refine nx ?_
        refine wpC_ret ?_
        have e103 := Option.some.inj hF
        subst e103
        refine ret_post (P := Try.prog) (vs := [(.bool true)]) Try.results121 ⟨rfl, trivial⟩ ?_
        exact ⟨rfl, hB.keeps⟩
      · rintro a w71 ⟨r', rfl, b104⟩
        dsimp only at hF
        have e105 := Option.some.inj hF
        subst e105
        exact b104
    · rintro a w23 ⟨r', rfl, b106⟩
      dsimp only at hF
      have e107 := Option.some.inj hF
      subst e107
      exact b106

def fS_roAsked (fuel : Nat) (p0 : T_RootedProblem) (p1 : List Int) : Option Bool :=
  (fS_roGood fuel p0) >>= fun x8 =>
  (
    if x8 then
      (fS_roTree p0.Children p1) >>= fun x18 =>
      some x18
    else
      some false) >>= fun q14 =>
  some q14

def pS_roAsked (w : World) (r : Bool) : Ending → World → Prop := fun e w' => e = .returned (.bool r) ∧ Keeps w w'
set_option maxRecDepth 100000 in
set_option maxHeartbeats 2000000 in
theorem cS_roAsked (fuel : Nat) (w : World) (u0 : List Value) (p0 : T_RootedProblem) (g0 : Rp.rd zt w u0 p0) (u1 : Value) (p1 : List Int) (g1 : RdL zt w u1 p1) (r : Bool) (hF : fS_roAsked fuel p0 p1 = some r) :
    Calls Try.prog 71 #[.agg u0.toArray, u1] w (pS_roAsked w r) := by
  unfold fS_roAsked at hF
  obtain ⟨v1, rfl, h2⟩ := g0
  have hB : Bs (fun _ => 1) (col (fun _ => 1)) w w := Bs.start _ _
  refine calls_start (n := 13) (vs := [(.agg #[(.int .i64 p0.Labels), (.int .i64 p0.Children), v1]), u1]) Try.func71 rfl rfl ?_
  refine wpC_seq ?_
  refine wpC_region ?_
  refine st_op (by decide) trivial ?_
  refine wf_box (o := (col (fun _ => 1))) w.heap.size 11 hB.keeps.size (cs := [(.int .i64 p0.Labels), (.int .i64 p0.Children), v1]) rfl rfl ?_
  intro o3 w4 b5 h6 s7
  replace hB := hB.stp s7 (by decide)
  refine st_val (ex_assign rfl) (by decide) trivial ?_
  refine wpF_end (r := [(1, u1), (2, (.pointer (some ⟨b5, 0, none⟩)))]) ⟨rfl, rfl, trivial⟩ ?_
  refine nx ?_
  refine wpC_seq ?_
  refine wpC_region ?_
  refine st_val (ex_loadA rfl Try.isAgg29 Try.sizeOf29 rfl h6.cells) (by decide) trivial ?_
  obtain ⟨x8, hx8, hF⟩ := bind_some hF
  refine st_op (by decide) trivial ?_
  refine wf_call (cS_roGood fuel w4 _ p0 (⟨_, rfl, (h2.keep hB.keeps)⟩) x8 hx8) Try.call52 ⟨rfl, trivial⟩ ?_
  rintro e13 w9 ⟨rfl, k10⟩
  have s12 := k10.stp 999 o3
  refine ⟨_, rfl, ?_⟩
  replace h6 := h6.stp s12 (by decide)
  replace hB := hB.stp s12 (by decide)
  refine st_val (ex_move rfl) (by decide) trivial ?_
  obtain ⟨q14, hq14, hF⟩ := bind_some hF
  refine wpF_cutAt 5 (fun a16 w15 => Fr a16 13 [(12, (.bool q14))] ∧ Keeps w9 w15) ?_ ?_
  all_goals simp only [List.take_succ_cons, List.take_zero, List.drop_succ_cons, List.drop_zero]
  · have kp : Keeps w9 w9 := Keeps.refl _
    rcases Bool.eq_false_or_eq_true (x8) with t17 | t17
    · rw [if_pos t17] at hq14
      refine st_val (ex_field rfl Try.underlying29 rfl Try.sizeOf3) (by decide) ⟨_, rfl, (congrArg (fun b => some (Value.bool b)) t17)⟩ ?_
      refine st_val (ex_load1 rfl Try.isAgg3 (h6.cell rfl)) (by decide) ⟨_, rfl, (congrArg (fun b => some (Value.bool b)) t17)⟩ ?_
      refine st_val (ex_move rfl) (by decide) ⟨_, rfl, (congrArg (fun b => some (Value.bool b)) t17)⟩ ?_
      obtain ⟨x18, hx18, hq14⟩ := bind_some hq14
      refine st_op (by decide) ⟨_, rfl, (congrArg (fun b => some (Value.bool b)) t17)⟩ ?_
      refine wf_call (cS_roTree w9 p0.Children _ p1 (g1.keep hB.keeps) x18 hx18) Try.call121 ⟨rfl, rfl, trivial⟩ ?_
      rintro e23 w19 ⟨rfl, k20⟩
      have s22 := k20.stp 999 o3
      refine ⟨_, rfl, ?_⟩
      replace h6 := h6.stp s22 (by decide)
      replace hB := hB.stp s22 (by decide)
      replace kp := Keeps.trans kp k20
      refine st_val (ex_pick_t (congrArg (fun b => some (Value.bool b)) t17) rfl) (by decide) trivial ?_
      have hq142 := Option.some.inj hq14
      refine wpF_end (r := [(12, (.bool x18))]) ⟨rfl, trivial⟩ ?_
      subst hq142
      refine np_norm (fun a ha => ⟨ha, kp⟩)
    · rw [if_neg (by rw [t17]; decide)] at hq14
      refine st_no rfl rfl (by rw [t17]; rfl) (by decide) ?_
      refine st_no rfl rfl (by rw [t17]; rfl) (by decide) ?_
      refine st_no rfl rfl (by rw [t17]; rfl) (by decide) ?_
      refine st_no rfl rfl (by rw [t17]; rfl) (by decide) ?_
      refine st_val (ex_pick_f (congrArg (fun b => some (Value.bool b)) t17) rfl) (by decide) trivial ?_
      have hq142 := Option.some.inj hq14
      refine wpF_end (r := [(12, (.bool false))]) ⟨rfl, trivial⟩ ?_
      subst hq142
      refine np_norm (fun a ha => ⟨ha, kp⟩)
  rintro a26 w15 ⟨ha, k24⟩
  have s25 := k24.stp 999 o3
  replace h6 := h6.stp s25 (by decide)
  replace hB := hB.stp s25 (by decide)
  refine wl_of ha ?_
  refine st_val (ex_assign rfl) (by decide) trivial ?_
  refine wpF_end (r := [(4, (.bool q14))]) ⟨rfl, trivial⟩ ?_
  refine nx ?_
  refine wpC_ret ?_
  have e27 := Option.some.inj hF
  subst e27
  refine ret_post (P := Try.prog) (vs := [(.bool q14)]) Try.results71 ⟨rfl, trivial⟩ ?_
  exact ⟨rfl, hB.keeps⟩

def fS_SolveDown_s2 (p0 : T_RootedProblem) (x17 : List Int) (y63 : List Int) (i67 : Int) : Int → Option (Lp Int Int ((List Int) × Bool)) := fun (s : Int) =>
  (
    (ix p0.Lines s) >>= fun x106 =>
    (ix x106 0) >>= fun x112 =>
    (ix y63 i67) >>= fun x115 =>
    if x112 != x115 then
      some true
    else
      (ix p0.Lines s) >>= fun x225 =>
      (cut x225 1 x225.length) >>= fun x231 =>
      (fS_prAll x231 x17) >>= fun x358 =>
      some (!x358)) >>= fun q102 =>
  if q102 then
    (ck (s + 1)) >>= fun x367 =>
    some (.go x367)
  else
    some (.out s)
def fS_SolveDown_s3 (p0 : T_RootedProblem) (y89 : Int) : Int → Int → (List Int) → Option (Lp (List Int) (List Int) ((List Int) × Bool)) := fun (i374 : Int) (x384 : Int) (s : List Int) =>
  (ix p0.Lines y89) >>= fun x390 =>
  (ck (1 + i374)) >>= fun x398 =>
  (ix x390 x398) >>= fun x399 =>
  (ix s x384) >>= fun x405 =>
  (st s x384 x399) >>= fun x414 =>
  some (.go x414)
def fS_SolveDown_s1 (fuel : Nat) (p0 : T_RootedProblem) (x17 : List Int) : Int → (List Int) → (List Int) → Option (Lp (List Int) (List Int) ((List Int) × Bool)) := fun (i67 : Int) (x77 : List Int) (s : List Int) =>
  if (x77.length : Int) == 0 then
    some (.go s)
  else
    (loopF (fS_SolveDown_s2 p0 x17 s i67) fuel 0) >>= fun q92 =>
    match q92 with
    | .inl y89 =>
      (forI (fS_SolveDown_s3 p0 y89) x77 0 s) >>= fun q375 =>
      match q375 with
      | .inl y370 =>
        some (.go y370)
      | .inr _ => none
    | .inr _ => none
def fS_SolveDown (fuel : Nat) (p0 : T_RootedProblem) (p1 : List Int) : Option ((List Int) × Bool) :=
  (fS_roAsked fuel p0 p1) >>= fun x8 =>
  if !x8 then
    some ([], false)
  else
    (ck (p0.Labels + 1)) >>= fun x16 =>
    (fS_roRoots fuel p0 x16) >>= fun x17 =>
    if (x17.length : Int) == 0 then
      some ([], false)
    else
      (mk (Rz.z : Int) (p1.length : Int)) >>= fun x29 =>
      (ix x17 0) >>= fun x35 =>
      (ix x29 0) >>= fun x41 =>
      (st x29 0 x35) >>= fun x50 =>
      (fS_roBelow p1) >>= fun x52 =>
      (forI (fS_SolveDown_s1 fuel p0 x17) x52 0 x50) >>= fun q68 =>
      match q68 with
      | .inl y63 =>
        some (y63, true)
      | .inr _ => none

def pS_SolveDown (oo : Tg) (t : Nat) (w : World) (r : (List Int) × Bool) : Ending → World → Prop := fun e w' => ∃ (v0 : Value) (o' : Tg), e = .returned (.tuple #[v0, .bool r.2]) ∧ Ow w.heap.size 3 t o' w' v0 r.1 ∧ Keeps w w' ∧ ∀ b, b < w.heap.size → o' b = oo b
set_option maxRecDepth 100000 in
set_option maxHeartbeats 2000000 in
theorem cS_SolveDown (fuel : Nat) (w : World) (oo : Tg) (t : Nat) (ht : 2 ≤ t) (u0 : List Value) (p0 : T_RootedProblem) (g0 : Rp.rd zt w u0 p0) (u1 : Value) (p1 : List Int) (g1 : RdL zt w u1 p1) (r : (List Int) × Bool) (hF : fS_SolveDown fuel p0 p1 = some r) :
    Calls Try.prog 33 #[.agg u0.toArray, u1] w (pS_SolveDown oo t w r) := by
  unfold fS_SolveDown at hF
  obtain ⟨v1, rfl, h2⟩ := g0
  have hB : Bs oo (col oo) w w := Bs.start _ _
  refine calls_start (n := 91) (vs := [(.agg #[(.int .i64 p0.Labels), (.int .i64 p0.Children), v1]), u1]) Try.func33 rfl rfl ?_
  generalize col oo = o at *
  refine wpC_seq ?_
  refine wpC_region ?_
  refine st_op (by decide) trivial ?_
  refine wf_box (o := o) w.heap.size 11 hB.keeps.size (cs := [(.int .i64 p0.Labels), (.int .i64 p0.Children), v1]) rfl rfl ?_
  intro o3 w4 b5 h6 s7
  replace hB := hB.stp s7 (by decide)
  refine st_val (ex_assign rfl) (by decide) trivial ?_
  refine st_val (ex_assign rfl) (by decide) trivial ?_
  refine wpF_end (r := [(1, u1), (2, (.pointer (some ⟨b5, 0, none⟩)))]) ⟨rfl, rfl, trivial⟩ ?_
  refine nx ?_
  refine wpC_seq ?_
  refine wpC_seq ?_
  refine wpC_region ?_
  refine st_val (ex_loadA rfl Try.isAgg29 Try.sizeOf29 rfl h6.cells) (by decide) trivial ?_
  refine st_val (ex_move rfl) (by decide) trivial ?_
  obtain ⟨x8, hx8, hF⟩ := bind_some hF
  refine st_op (by decide) trivial ?_
  refine wf_call (cS_roAsked fuel w4 _ p0 (⟨_, rfl, (h2.keep hB.keeps)⟩) _ p1 (g1.keep hB.keeps) x8 hx8) Try.call71 ⟨rfl, rfl, trivial⟩ ?_
  rintro e13 w9 ⟨rfl, k10⟩
  have s12 := k10.stp 999 o3
  refine ⟨_, rfl, ?_⟩
  replace h6 := h6.stp s12 (by decide)
  replace hB := hB.stp s12 (by decide)
  refine st_val (ex_not rfl) (by decide) trivial ?_
  refine wpF_end (r := [(1, u1), (2, (.pointer (some ⟨b5, 0, none⟩))), (16, (.bool (!x8)))]) ⟨rfl, rfl, rfl, trivial⟩ ?_
  refine nx ?_
  refine wpC_cond rfl (fun t14 => ?_) (fun t14 => ?_)
  · rw [if_pos t14] at hF
    refine wpC_seq ?_
    refine wpC_region ?_
    refine st_val (ex_assign rfl) (by decide) trivial ?_
    refine st_val (ex_assign rfl) (by decide) trivial ?_
    refine wpF_end (r := [(4, (.slice none 0 0)), (5, (.bool false))]) ⟨rfl, rfl, trivial⟩ ?_
    refine nx ?_
    refine wpC_ret ?_
    refine nt_ret ?_
    have e15 := Option.some.inj hF
    subst e15
    refine ret_post (P := Try.prog) (vs := [(.slice none 0 0), (.bool false)]) Try.results33 ⟨rfl, rfl, trivial⟩ ?_
    exact ⟨_, rt oo o3 w.heap.size 9 t, rfl, (Ow.nil _ _ _ _ _), hB.keeps, rt_old _ _ _ _ _⟩
  · rw [if_neg (by rw [t14]; decide)] at hF
    refine wpC_skip ?_
    refine nx ?_
    refine wpC_seq ?_
    refine wpC_region ?_
    refine st_val (ex_loadA rfl Try.isAgg29 Try.sizeOf29 rfl h6.cells) (by decide) trivial ?_
    refine st_val (ex_field rfl Try.underlying29 rfl Try.sizeOf3) (by decide) trivial ?_
    refine st_val (ex_load1 rfl Try.isAgg3 (h6.cell rfl)) (by decide) trivial ?_
    obtain ⟨x16, hx16, hF⟩ := bind_some hF
    refine st_val (ex_add rfl rfl hx16) (by decide) trivial ?_
    obtain ⟨x17, hx17, hF⟩ := bind_some hF
    refine st_op (by decide) trivial ?_
    refine wf_call (cS_roRoots fuel w9 o3 13 (by decide) _ p0 (⟨_, rfl, (h2.keep hB.keeps)⟩) x16 x17 hx17) Try.call54 ⟨rfl, rfl, trivial⟩ ?_
    rintro e25 w18 ⟨v19, o26, rfl, h20, k22, k23⟩
    have s24 := k22.stp' 13 k23
    have h21 := h20.rd
    refine ⟨_, rfl, ?_⟩
    replace h6 := h6.stp s24 (by decide)
    replace hB := hB.stp s24 (by decide)
    refine st_val (ex_assign rfl) (by decide) trivial ?_
    refine wpF_end (r := [(1, u1), (2, (.pointer (some ⟨b5, 0, none⟩))), (6, v19)]) ⟨rfl, rfl, rfl, trivial⟩ ?_
    refine nx ?_
    refine wpC_seq ?_
    refine wpC_seq ?_
    refine wpC_region ?_
    refine st_val (ex_move rfl) (by decide) trivial ?_
    refine st_val (ex_lenR rfl h21 Try.underlying26) (by decide) trivial ?_
    refine st_val (ex_eql rfl rfl) (by decide) trivial ?_
    refine wpF_end (r := [(1, u1), (2, (.pointer (some ⟨b5, 0, none⟩))), (6, v19), (24, (.bool ((x17.length : Int) == 0)))]) ⟨rfl, rfl, rfl, rfl, trivial⟩ ?_
    refine nx ?_
    refine wpC_cond rfl (fun t27 => ?_) (fun t27 => ?_)
    · rw [if_pos t27] at hF
      refine wpC_seq ?_
      refine wpC_region ?_
      refine st_val (ex_assign rfl) (by decide) trivial ?_
      refine st_val (ex_assign rfl) (by decide) trivial ?_
      refine wpF_end (r := [(4, (.slice none 0 0)), (5, (.bool false))]) ⟨rfl, rfl, trivial⟩ ?_
      refine nx ?_
      refine wpC_ret ?_
      refine nt_ret ?_
      have e28 := Option.some.inj hF
      subst e28
      refine ret_post (P := Try.prog) (vs := [(.slice none 0 0), (.bool false)]) Try.results33 ⟨rfl, rfl, trivial⟩ ?_
      exact ⟨_, rt oo o26 w.heap.size 9 t, rfl, (Ow.nil _ _ _ _ _), hB.keeps, rt_old _ _ _ _ _⟩
    · rw [if_neg (by rw [t27]; decide)] at hF
      refine wpC_skip ?_
      refine nx ?_
      refine wpC_seq ?_
      refine wpC_region ?_
      refine st_val (ex_move rfl) (by decide) trivial ?_
      refine st_val (ex_lenR rfl g1 Try.underlying26) (by decide) trivial ?_
      obtain ⟨x29, hx29, hF⟩ := bind_some hF
      refine st_op (by decide) trivial ?_
      refine wf_make (o := o26) w.heap.size 14 hB.keeps.size hx29 rfl rfl Try.underlying26 info2_t_int_M rfl (by decide) ?_
      intro o30 w31 v32 h33 s34
      replace h21 := h21.stp s34 (by decide)
      replace h20 := h20.stp s34 (by decide)
      replace h6 := h6.stp s34 (by decide)
      replace hB := hB.stp s34 (by decide)
      refine st_val (ex_assign rfl) (by decide) trivial ?_
      refine wpF_end (r := [(1, u1), (2, (.pointer (some ⟨b5, 0, none⟩))), (6, v19), (7, v32)]) ⟨rfl, rfl, rfl, rfl, trivial⟩ ?_
      refine nx ?_
      refine wpC_seq ?_
      refine wpC_region ?_
      refine st_val (ex_move rfl) (by decide) trivial ?_
      refine st_val (ex_move rfl) (by decide) trivial ?_
      obtain ⟨x35, hx35, hF⟩ := bind_some hF
      refine st_op (by decide) trivial ?_
      refine wf_atO h21 hx35 rfl rfl Try.underlying26 Try.sizeOf3 ?_
      intro b36 f37 c38 h39 h40
      cases h40
      refine st_val (ex_load1 rfl Try.isAgg3 (cell_of_cells h39)) (by decide) trivial ?_
      obtain ⟨x41, hx41, hF⟩ := bind_some hF
      refine st_op (by decide) trivial ?_
      refine wf_atP h33 hx41 rfl rfl Try.underlying26 Try.sizeOf3 ?_
      intro b42 c44 h47 h45 h46
      cases h46
      obtain ⟨x50, hx50, hF⟩ := bind_some hF
      refine st_op0 trivial ?_
      refine wf_storeW h33 h47 hx50 rfl (by decide) rfl rfl rfl Try.sizeOf3 rfl ?_
      intro w48 h51 s49
      replace h21 := h21.stp s49 (by decide)
      replace h20 := h20.stp s49 (by decide)
      replace h6 := h6.stp s49 (by decide)
      replace hB := hB.stp s49 (by decide)
      refine wpF_end (r := [(1, u1), (2, (.pointer (some ⟨b5, 0, none⟩))), (6, v19), (7, v32)]) ⟨rfl, rfl, rfl, rfl, trivial⟩ ?_
      refine nx ?_
      refine wpC_seq ?_
      refine wpC_seq ?_
      refine wpC_region ?_
      refine st_val (ex_move rfl) (by decide) trivial ?_
      obtain ⟨x52, hx52, hF⟩ := bind_some hF
      refine st_op (by decide) trivial ?_
      refine wf_call (cS_roBelow w48 o30 15 (by decide) _ p1 (g1.keep hB.keeps) x52 hx52) Try.call72 ⟨rfl, trivial⟩ ?_
      rintro e61 w53 ⟨v54, g56, o62, rfl, h55, h57, k58, k59⟩
      have s60 := k58.stp' 15 k59
      replace h55 := h55.mono hB.keeps.size
      replace h57 := h57.mono hB.keeps.size
      refine ⟨_, rfl, ?_⟩
      replace h21 := h21.stp s60 (by decide)
      replace h20 := h20.stp s60 (by decide)
      replace h51 := h51.stp s60 (by decide) (by decide)
      replace h6 := h6.stp s60 (by decide)
      replace hB := hB.stp s60 (by decide)
      refine st_val (ex_lenR rfl (h57.z h55) Try.underlying22) (by decide) trivial ?_
      refine st_val (ex_move rfl) (by decide) trivial ?_
      refine wpF_end (r := [(2, (.pointer (some ⟨b5, 0, none⟩))), (6, v19), (7, v32), (34, v54), (35, (.int .i64 (x52.length : Int))), (36, (.int .i64 0))]) ⟨rfl, rfl, rfl, rfl, rfl, rfl, trivial⟩ ?_
      refine nx ?_
      obtain ⟨q68, hq68, hF⟩ := bind_some hF
      refine wpC_cutN (fun a w66 => ∃ (y63 : List Int) (o65 : Tg), q68 = .inl y63 ∧ Fr a 91 [(7, v32)] ∧ Bs oo o65 w w66 ∧ Ow w.heap.size 3 14 o65 w66 v32 y63) (fun _ _ => False) ?_ ?_ ?_
      · refine wpC_block ?_
        refine wpC_loop (fun (K : Nat) a w66 => ∃ (i67 : Int) (y63 : List Int) (o65 : Tg), forI (fS_SolveDown_s1 fuel p0 x17) (x52.drop i67.toNat) i67 y63 = some q68 ∧ (x52.drop i67.toNat).length = K ∧ 0 ≤ i67 ∧ Fr a 91 [(2, (.pointer (some ⟨b5, 0, none⟩))), (6, v19), (7, v32), (34, v54), (35, (.int .i64 (x52.length : Int))), (36, (.int .i64 i67))] ∧ Bs oo o65 w w66 ∧ RdL o65 w66 v19 x17 ∧ Of 3 o65 w66 v19 x17 ∧ Ow w.heap.size 3 14 o65 w66 v32 y63 ∧ Ow w.heap.size 26 15 o65 w66 v54 g56 ∧ Rws w.heap.size 3 16 o65 w66 g56 x52 ∧ Bx w.heap.size 11 o65 w66 b5 29 [(.int .i64 p0.Labels), (.int .i64 p0.Children), v1]) _ (fun a ha => ⟨0, x50, o62, hq68, rfl, Int.le_refl 0, ha.sub (r := [(2, (.pointer (some ⟨b5, 0, none⟩))), (6, v19), (7, v32), (34, v54), (35, (.int .i64 (x52.length : Int))), (36, (.int .i64 0))]) ⟨rfl, rfl, rfl, rfl, rfl, rfl, trivial⟩, hB, h21, h20, h51, h55, h57, h6⟩) ?_
        rintro K72 a w66 ⟨i67, y63, o65, l69, m71, z70, ha, hB, h21, h20, h64, h55, h57, h6⟩
        by_cases t76 : i67 < (x52.length : Int)
        · obtain ⟨x77, q73, hx77, b74, n75⟩ := forI_cons z70 t76 l69
          have hle := (h57.z h55).len_le
          dsimp only [fS_SolveDown_s1] at b74
          refine wp_of ha ?_
          refine wpC_seq ?_
          refine wpC_region ?_
          refine st_val (ex_lss rfl rfl) (by decide) trivial ?_
          refine wpF_end (r := [(2, (.pointer (some ⟨b5, 0, none⟩))), (6, v19), (7, v32), (34, v54), (35, (.int .i64 (x52.length : Int))), (36, (.int .i64 i67)), (37, (.bool (decide (i67 < (x52.length : Int)))))]) ⟨rfl, rfl, rfl, rfl, rfl, rfl, rfl, trivial⟩ ?_
          refine nx ?_
          refine wpC_seq ?_
          refine wpC_true (congrArg (fun b => some (Value.bool b)) (decide_eq_true t76)) ?_
          refine wpC_skip ?_
          refine nx ?_
          refine wpC_seq ?_
          refine wpC_block ?_
          refine wpC_seq ?_
          refine wpC_region ?_
          refine st_val (ex_move rfl) (by decide) trivial ?_
          obtain ⟨v78, h79, h80, h81⟩ := h57.ix hx77
          refine st_op (by decide) trivial ?_
          refine wf_atW h55 h79 rfl rfl Try.underlying22 Try.sizeOf26 ?_
          intro b82 f83 c84 h85 h86
          obtain ⟨rfl, -⟩ := h86
          refine st_val (ex_load1 rfl Try.isAgg26 (cell_of_cells h85)) (by decide) trivial ?_
          refine st_val (ex_assign rfl) (by decide) trivial ?_
          refine st_val (ex_assign rfl) (by decide) trivial ?_
          refine wpF_end (r := [(2, (.pointer (some ⟨b5, 0, none⟩))), (6, v19), (7, v32), (8, (.int .i64 i67)), (9, v78), (34, v54), (35, (.int .i64 (x52.length : Int))), (36, (.int .i64 i67))]) ⟨rfl, rfl, rfl, rfl, rfl, rfl, rfl, rfl, trivial⟩ ?_
          refine nx ?_
          refine wpC_seq ?_
          refine wpC_seq ?_
          refine wpC_region ?_
          refine st_val (ex_move rfl) (by decide) trivial ?_
          refine st_val (ex_lenO rfl (h57.at h80 h81) Try.underlying26) (by decide) trivial ?_
          refine st_val (ex_eql rfl rfl) (by decide) trivial ?_
          refine wpF_end (r := [(2, (.pointer (some ⟨b5, 0, none⟩))), (6, v19), (7, v32), (8, (.int .i64 i67)), (9, v78), (34, v54), (35, (.int .i64 (x52.length : Int))), (36, (.int .i64 i67)), (43, (.bool ((x77.length : Int) == 0)))]) ⟨rfl, rfl, rfl, rfl, rfl, rfl, rfl, rfl, rfl, trivial⟩ ?_
          refine nx ?_
          refine wpC_cond rfl (fun t87 => ?_) (fun t87 => ?_)
          · rw [if_pos t87] at b74
            refine wpC_exit ?_
            refine nt_exit ?_
            refine nb_hit ?_
            refine nx ?_
            refine wpC_region ?_
            refine st_val (ex_add rfl rfl (ck_in (by omega) (by omega))) (by decide) trivial ?_
            refine st_val (ex_move rfl) (by decide) trivial ?_
            refine wpF_end (r := [(2, (.pointer (some ⟨b5, 0, none⟩))), (6, v19), (7, v32), (34, v54), (35, (.int .i64 (x52.length : Int))), (36, (.int .i64 (i67 + 1)))]) ⟨rfl, rfl, rfl, rfl, rfl, rfl, trivial⟩ ?_
            refine nt_norm ?_
            have e88 := Option.some.inj b74
            subst e88
            refine to_k (r := [(2, (.pointer (some ⟨b5, 0, none⟩))), (6, v19), (7, v32), (34, v54), (35, (.int .i64 (x52.length : Int))), (36, (.int .i64 (i67 + 1)))]) ⟨rfl, rfl, rfl, rfl, rfl, rfl, trivial⟩ ?_
            intro a ha
            exact ⟨_, (by rw [← m71]; simp only [List.length_drop]; omega), i67 + 1, y63, o65, n75, rfl, (by omega), ha, hB, h21, h20, h64, h55, h57, h6⟩
          · rw [if_neg (by rw [t87]; decide)] at b74
            refine wpC_skip ?_
            refine nx ?_
            refine wpC_seq ?_
            refine wpC_region ?_
            refine st_val (ex_assign rfl) (by decide) trivial ?_
            refine wpF_end (r := [(2, (.pointer (some ⟨b5, 0, none⟩))), (6, v19), (7, v32), (8, (.int .i64 i67)), (9, v78), (10, (.int .i64 0)), (34, v54), (35, (.int .i64 (x52.length : Int))), (36, (.int .i64 i67))]) ⟨rfl, rfl, rfl, rfl, rfl, rfl, rfl, rfl, rfl, trivial⟩ ?_
            refine nx ?_
            obtain ⟨q92, hq92, b74⟩ := bind_some b74
            refine wpC_cutP (fun a w91 => ∃ (y89 : Int) (o90 : Tg), q92 = .inl y89 ∧ Fr a 91 [(2, (.pointer (some ⟨b5, 0, none⟩))), (6, v19), (7, v32), (9, v78), (10, (.int .i64 y89)), (34, v54), (35, (.int .i64 (x52.length : Int))), (36, (.int .i64 i67))] ∧ Bs oo o90 w w91 ∧ RdL o90 w91 v19 x17 ∧ Of 3 o90 w91 v19 x17 ∧ Ow w.heap.size 3 14 o90 w91 v32 y63 ∧ Ow w.heap.size 26 15 o90 w91 v54 g56 ∧ Rws w.heap.size 3 16 o90 w91 g56 x52 ∧ Bx w.heap.size 11 o90 w91 b5 29 [(.int .i64 p0.Labels), (.int .i64 p0.Children), v1]) (fun _ _ => False) ?_ ?_ ?_
            · refine wpC_block ?_
              refine wpC_loop (fun (K : Nat) a w91 => ∃ (y89 : Int) (o90 : Tg), loopF (fS_SolveDown_s2 p0 x17 y63 i67) K y89 = some q92 ∧ Fr a 91 [(2, (.pointer (some ⟨b5, 0, none⟩))), (6, v19), (7, v32), (8, (.int .i64 i67)), (9, v78), (10, (.int .i64 y89)), (34, v54), (35, (.int .i64 (x52.length : Int))), (36, (.int .i64 i67))] ∧ Bs oo o90 w w91 ∧ RdL o90 w91 v19 x17 ∧ Of 3 o90 w91 v19 x17 ∧ Ow w.heap.size 3 14 o90 w91 v32 y63 ∧ Ow w.heap.size 26 15 o90 w91 v54 g56 ∧ Rws w.heap.size 3 16 o90 w91 g56 x52 ∧ Bx w.heap.size 11 o90 w91 b5 29 [(.int .i64 p0.Labels), (.int .i64 p0.Children), v1]) fuel (fun a ha => ⟨0, o65, hq92, ha.sub (r := [(2, (.pointer (some ⟨b5, 0, none⟩))), (6, v19), (7, v32), (8, (.int .i64 i67)), (9, v78), (10, (.int .i64 0)), (34, v54), (35, (.int .i64 (x52.length : Int))), (36, (.int .i64 i67))]) ⟨rfl, rfl, rfl, rfl, rfl, rfl, rfl, rfl, rfl, trivial⟩, hB, h21, h20, h64, h55, h57, h6⟩) ?_
              rintro K96 a w91 ⟨y89, o90, l93, ha, hB, h21, h20, h64, h55, h57, h6⟩
              obtain ⟨K100, q97, e101, b98, n99⟩ := loopF_cons l93
              dsimp only [fS_SolveDown_s2] at b98
              refine wp_of ha ?_
              refine wpC_seq ?_
              refine wpC_seq ?_
              obtain ⟨q102, hq102, b98⟩ := bind_some b98
              refine wpC_cutN (fun a105 w104 => ∃ o103 : Tg, Fr a105 91 [(2, (.pointer (some ⟨b5, 0, none⟩))), (6, v19), (7, v32), (8, (.int .i64 i67)), (9, v78), (10, (.int .i64 y89)), (34, v54), (35, (.int .i64 (x52.length : Int))), (36, (.int .i64 i67)), (66, (.bool q102))] ∧ Bs oo o103 w w104 ∧ RdL o103 w104 v19 x17 ∧ Of 3 o103 w104 v19 x17 ∧ Ow w.heap.size 3 14 o103 w104 v32 y63 ∧ Ow w.heap.size 26 15 o103 w104 v54 g56 ∧ Rws w.heap.size 3 16 o103 w104 g56 x52 ∧ Bx w.heap.size 11 o103 w104 b5 29 [(.int .i64 p0.Labels), (.int .i64 p0.Children), v1]) (fun _ _ => False) ?_ ?_ (fun _ _ h => h.elim)
              · obtain ⟨x106, hx106, hq102⟩ := bind_some hq102
                obtain ⟨x112, hx112, hq102⟩ := bind_some hq102
                obtain ⟨x115, hx115, hq102⟩ := bind_some hq102
                rcases Bool.eq_false_or_eq_true (x112 != x115) with t118 | t118
                · rw [if_pos t118] at hq102
                  refine wpC_drawn (o := o90) [(2, (.pointer (some ⟨b5, 0, none⟩))), (6, v19), (7, v32), (8, (.int .i64 i67)), (9, v78), (10, (.int .i64 y89)), (34, v54), (35, (.int .i64 (x52.length : Int))), (36, (.int .i64 i67))] [2, 6, 7, 8, 9, 10, 34, 35, 36] [44, 45, 46, 47, 48, 49, 50, 51, 52, 53, 54, 55, 56, 57, 58, 59, 60, 61, 62, 63] [[], [0], [], [1, 2], [3], [4], [5], [], [], [7, 8], [9], [6, 10], [11], [12], [12], [12], [12], [12], [12], [12]] [none, none, none, none, none, none, none, none, none, none, none, none, none, none, none, none, none, none, none, none] [999, 999, 999, 999, 999, 999, 999, 999, 999, 999, 999, 999, 999, 999, 999, 999, 999, 999, 999, 999] [0, 0, 0, 0, 0, 0, 0, 0, 0, 14, 0, 0, 0, 0, 0, 0, 0, 0, 0, 0] [999] [fun v _ _ => v = (.pointer (some ⟨b5, 0 + 2, none⟩)), fun v _ _ => v = v1, fun v _ _ => v = (.int .i64 y89), fun v o w9 => ∃ vl, v = adr vl (y89.toNat * Rp.sz (List Int)) ∧ RdL zt w vl (p0.Lines : List (List Int)), fun v o w9 => RdL zt w v x106, fun v o w9 => ∃ vl, v = adr vl ((0 : Int).toNat * Rp.sz Int) ∧ RdL zt w vl x106, fun v _ _ => v = (.int .i64 x112), fun v _ _ => v = v32, fun v _ _ => v = (.int .i64 i67), fun v o w9 => ∃ vl, v = adr vl (i67.toNat * Rp.sz Int) ∧ Ow w.heap.size 3 14 o w9 vl y63, fun v _ _ => v = (.int .i64 x115), fun v _ _ => v = (.bool (x112 != x115)), fun v _ _ => v = (.bool (x112 != x115)), fun v _ _ => v = undef, fun v _ _ => v = undef, fun v _ _ => v = undef, fun v _ _ => v = undef, fun v _ _ => v = undef, fun v _ _ => v = undef, fun v _ _ => v = undef] (fun o8 w8 => Bs oo o8 w w8 ∧ RdL o8 w8 v19 x17 ∧ Of 3 o8 w8 v19 x17 ∧ Ow w.heap.size 3 14 o8 w8 v32 y63 ∧ Ow w.heap.size 26 15 o8 w8 v54 g56 ∧ Rws w.heap.size 3 16 o8 w8 g56 x52 ∧ Bx w.heap.size 11 o8 w8 b5 29 [(.int .i64 p0.Labels), (.int .i64 p0.Children), v1]) follows_mixed (by kernel_rfl) rfl ⟨rfl, rfl, rfl, rfl, rfl, rfl, rfl, rfl, rfl, trivial⟩ ⟨hB, h21, h20, h64, h55, h57, h6⟩ ?_ ⟨st_eq _, st_eq _, st_eq _, fun _ _ _ _ _ _ h0 hb ⟨vl, e, h⟩ hs => ⟨vl, e, h⟩, fun _ _ _ _ _ _ h0 hb h hs => h, fun _ _ _ _ _ _ h0 hb ⟨vl, e, h⟩ hs => ⟨vl, e, h⟩, st_eq _, st_eq _, st_eq _, fun _ _ _ _ _ _ h0 hb ⟨vl, e, h⟩ hs => ⟨vl, e, h.stp hs h0.1 (Ne.symm hb)⟩, st_eq _, st_eq _, st_eq _, st_eq _, st_eq _, st_eq _, st_eq _, st_eq _, st_eq _, st_eq _, trivial⟩ ?_ ?_
                  · rintro t9 o1 w1 o2 w2 ht9 ⟨hB, h21, h20, h64, h55, h57, h6⟩ hs9
                    have ht9 : t9 = 999 := by simpa using ht9
                    subst ht9
                    all_goals exact ⟨hB.stp hs9 (by decide), h21.stp hs9 (by decide), h20.stp hs9 (by decide), h64.stp hs9 (by decide) (by decide), h55.stp hs9 (by decide) (by decide), h57.stp hs9 (by decide) (by decide), h6.stp hs9 (by decide)⟩
                  · refine ⟨?_, ?_, ?_, ?_, ?_, ?_, ?_, ?_, ?_, ?_, ?_, ?_, ?_, ?_, ?_, ?_, ?_, ?_, ?_, ?_, trivial⟩
                    · rintro o119 w120 a121 ha ⟨hB, h21, h20, h64, h55, h57, h6⟩ -
                      refine opS_of ha (trivial) ?_
                      refine op1_val (ex_field rfl Try.underlying29 rfl Try.sizeOf22) ?_
                      exact ⟨_, Stp.refl _ _ _, rfl⟩
                    · rintro o122 w123 a124 ha ⟨hB, h21, h20, h64, h55, h57, h6⟩ ⟨r125, -⟩
                      have ha := Fr.cons (d := 44) ha r125
                      refine opS_of ha (trivial) ?_
                      refine op1_val (ex_load1 rfl Try.isAgg22 (h6.cell rfl)) ?_
                      exact ⟨_, Stp.refl _ _ _, rfl⟩
                    · rintro o126 w127 a128 ha ⟨hB, h21, h20, h64, h55, h57, h6⟩ -
                      refine opS_of ha (trivial) ?_
                      refine op1_val (ex_move rfl) ?_
                      exact ⟨_, Stp.refl _ _ _, rfl⟩
                    · rintro o129 w130 a131 ha ⟨hB, h21, h20, h64, h55, h57, h6⟩ ⟨r132, r133, -⟩
                      have ha := Fr.cons (d := 45) ha r132
                      have ha := Fr.cons (d := 46) ha r133
                      refine opS_of ha (trivial) ?_
                      refine wd_indexR h2 hx106 rfl rfl Try.underlying22 Try.sizeOf26 ?_
                      exact ⟨_, Stp.refl _ _ _, ⟨_, rfl, h2⟩⟩
                    · rintro o134 w135 a136 ha ⟨hB, h21, h20, h64, h55, h57, h6⟩ ⟨r137, -⟩
                      obtain ⟨v138, e139, h140⟩ := r137
                      have ha := Fr.cons (d := 47) ha e139
                      refine opS_of ha (trivial) ?_
                      refine wd_load1Z h140 hx106 hB rfl rfl Try.isAgg26 ?_
                      intro c141 h142
                      obtain ⟨v143, e145, h144⟩ := h142
                      cases e145
                      exact ⟨_, Stp.refl _ _ _, h144⟩
                    · rintro o146 w147 a148 ha ⟨hB, h21, h20, h64, h55, h57, h6⟩ ⟨r149, -⟩
                      replace r149 : RdL zt w (a148.tmps.getD 48 undef) x106 := r149
                      generalize e151 : a148.tmps.getD 48 undef = v150 at r149
                      have ha := Fr.cons (d := 48) ha e151
                      refine opS_of ha (trivial) ?_
                      refine wd_indexR r149 hx112 rfl rfl Try.underlying26 Try.sizeOf3 ?_
                      exact ⟨_, Stp.refl _ _ _, ⟨_, rfl, r149⟩⟩
                    · rintro o152 w153 a154 ha ⟨hB, h21, h20, h64, h55, h57, h6⟩ ⟨r155, -⟩
                      obtain ⟨v156, e157, h158⟩ := r155
                      have ha := Fr.cons (d := 49) ha e157
                      refine opS_of ha (trivial) ?_
                      refine wd_load1Z h158 hx112 hB rfl rfl Try.isAgg3 ?_
                      intro c159 h160
                      cases h160
                      exact ⟨_, Stp.refl _ _ _, rfl⟩
                    · rintro o161 w162 a163 ha ⟨hB, h21, h20, h64, h55, h57, h6⟩ -
                      refine opS_of ha (trivial) ?_
                      refine op1_val (ex_move rfl) ?_
                      exact ⟨_, Stp.refl _ _ _, rfl⟩
                    · rintro o164 w165 a166 ha ⟨hB, h21, h20, h64, h55, h57, h6⟩ -
                      refine opS_of ha (trivial) ?_
                      refine op1_val (ex_move rfl) ?_
                      exact ⟨_, Stp.refl _ _ _, rfl⟩
                    · rintro o167 w168 a169 ha ⟨hB, h21, h20, h64, h55, h57, h6⟩ ⟨r170, r171, -⟩
                      have ha := Fr.cons (d := 51) ha r170
                      have ha := Fr.cons (d := 52) ha r171
                      refine opS_of ha (trivial) ?_
                      refine wd_indexW h64 hx115 rfl rfl Try.underlying26 Try.sizeOf3 ?_
                      exact ⟨_, Stp.refl _ _ _, ⟨_, rfl, h64⟩⟩
                    · rintro o172 w173 a174 ha ⟨hB, h21, h20, h64, h55, h57, h6⟩ ⟨r175, -⟩
                      obtain ⟨v176, e177, h178⟩ := r175
                      have ha := Fr.cons (d := 53) ha e177
                      refine opS_of ha (trivial) ?_
                      refine wd_load1W h178 hx115 rfl rfl Try.isAgg3 ?_
                      intro c179 h180
                      cases h180
                      exact ⟨_, Stp.refl _ _ _, rfl⟩
                    · rintro o181 w182 a183 ha ⟨hB, h21, h20, h64, h55, h57, h6⟩ ⟨r184, r185, -⟩
                      have ha := Fr.cons (d := 50) ha r184
                      have ha := Fr.cons (d := 54) ha r185
                      refine opS_of ha (trivial) ?_
                      refine op1_val (ex_neq rfl rfl) ?_
                      exact ⟨_, Stp.refl _ _ _, rfl⟩
                    · rintro o186 w187 a188 ha ⟨hB, h21, h20, h64, h55, h57, h6⟩ ⟨r189, -⟩
                      have ha := Fr.cons (d := 55) ha r189
                      refine opS_of ha (trivial) ?_
                      refine op1_val (ex_move rfl) ?_
                      exact ⟨_, Stp.refl _ _ _, rfl⟩
                    · rintro o190 w191 a192 ha ⟨hB, h21, h20, h64, h55, h57, h6⟩ ⟨r193, -⟩
                      have ha := Fr.cons (d := 56) ha r193
                      exact opS_no ha rfl rfl rfl (by rw [t118]; rfl) ⟨_, Stp.refl _ _ _, rfl⟩
                    · rintro o194 w195 a196 ha ⟨hB, h21, h20, h64, h55, h57, h6⟩ ⟨r197, -⟩
                      have ha := Fr.cons (d := 56) ha r197
                      exact opS_no ha rfl rfl rfl (by rw [t118]; rfl) ⟨_, Stp.refl _ _ _, rfl⟩
                    · rintro o198 w199 a200 ha ⟨hB, h21, h20, h64, h55, h57, h6⟩ ⟨r201, -⟩
                      have ha := Fr.cons (d := 56) ha r201
                      exact opS_no ha rfl rfl rfl (by rw [t118]; rfl) ⟨_, Stp.refl _ _ _, rfl⟩
                    · rintro o202 w203 a204 ha ⟨hB, h21, h20, h64, h55, h57, h6⟩ ⟨r205, -⟩
                      have ha := Fr.cons (d := 56) ha r205
                      exact opS_no ha rfl rfl rfl (by rw [t118]; rfl) ⟨_, Stp.refl _ _ _, rfl⟩
                    · rintro o206 w207 a208 ha ⟨hB, h21, h20, h64, h55, h57, h6⟩ ⟨r209, -⟩
                      have ha := Fr.cons (d := 56) ha r209
                      exact opS_no ha rfl rfl rfl (by rw [t118]; rfl) ⟨_, Stp.refl _ _ _, rfl⟩
                    · rintro o210 w211 a212 ha ⟨hB, h21, h20, h64, h55, h57, h6⟩ ⟨r213, -⟩
                      have ha := Fr.cons (d := 56) ha r213
                      exact opS_no ha rfl rfl rfl (by rw [t118]; rfl) ⟨_, Stp.refl _ _ _, rfl⟩
                    · rintro o214 w215 a216 ha ⟨hB, h21, h20, h64, h55, h57, h6⟩ ⟨r217, -⟩
                      have ha := Fr.cons (d := 56) ha r217
                      exact opS_no ha rfl rfl rfl (by rw [t118]; rfl) ⟨_, Stp.refl _ _ _, rfl⟩
                  rintro o218 w219 a220 ha ⟨hB, h21, h20, h64, h55, h57, h6⟩ ⟨-, -, -, -, -, -, -, -, -, -, -, -, r221, -, -, -, -, -, r222, r223, -⟩
                  have ha := Fr.cons (d := 56) ha r221
                  have ha := Fr.cons (d := 62) ha r222
                  have ha := Fr.cons (d := 63) ha r223
                  refine wl_of ha ?_
                  simp only [List.length_cons, List.length_nil, Nat.zero_add, Nat.reduceAdd, List.drop_succ_cons, List.drop_zero]
                  refine st_no rfl rfl (by rw [t118]; rfl) (by decide) ?_
                  refine st_no rfl rfl (by rw [t118]; rfl) (by decide) ?_
                  refine st_val (ex_pick_t (congrArg (fun b => some (Value.bool b)) t118) rfl) (by decide) trivial ?_
                  have e224 := Option.some.inj hq102
                  subst e224
                  refine wpF_end (r := [(2, (.pointer (some ⟨b5, 0, none⟩))), (6, v19), (7, v32), (8, (.int .i64 i67)), (9, v78), (10, (.int .i64 y89)), (34, v54), (35, (.int .i64 (x52.length : Int))), (36, (.int .i64 i67)), (66, (.bool true))]) ⟨rfl, rfl, rfl, rfl, rfl, rfl, rfl, rfl, rfl, rfl, trivial⟩ ?_
                  refine np_norm (fun a ha => ⟨o218, ha, hB, h21, h20, h64, h55, h57, h6⟩)
                · rw [if_neg (by rw [t118]; decide)] at hq102
                  obtain ⟨x225, hx225, hq102⟩ := bind_some hq102
                  obtain ⟨x231, hx231, hq102⟩ := bind_some hq102
                  refine wpC_drawn (o := o90) [(2, (.pointer (some ⟨b5, 0, none⟩))), (6, v19), (7, v32), (8, (.int .i64 i67)), (9, v78), (10, (.int .i64 y89)), (34, v54), (35, (.int .i64 (x52.length : Int))), (36, (.int .i64 i67))] [2, 6, 7, 8, 9, 10, 34, 35, 36] [44, 45, 46, 47, 48, 49, 50, 51, 52, 53, 54, 55, 56, 57, 58, 59, 60, 61, 62, 63] [[], [0], [], [1, 2], [3], [4], [5], [], [], [7, 8], [9], [6, 10], [11], [12], [12, 13], [12], [12, 14, 15], [12, 16], [12, 17], [12]] [none, none, none, none, none, none, none, none, none, none, none, none, none, none, none, none, none, none, none, none] [999, 999, 999, 999, 999, 999, 999, 999, 999, 999, 999, 999, 999, 999, 999, 999, 999, 999, 999, 999] [0, 0, 0, 0, 0, 0, 0, 0, 0, 14, 0, 0, 0, 0, 0, 0, 0, 0, 0, 0] [999] [fun v _ _ => v = (.pointer (some ⟨b5, 0 + 2, none⟩)), fun v _ _ => v = v1, fun v _ _ => v = (.int .i64 y89), fun v o w9 => ∃ vl, v = adr vl (y89.toNat * Rp.sz (List Int)) ∧ RdL zt w vl (p0.Lines : List (List Int)), fun v o w9 => RdL zt w v x106, fun v o w9 => ∃ vl, v = adr vl ((0 : Int).toNat * Rp.sz Int) ∧ RdL zt w vl x106, fun v _ _ => v = (.int .i64 x112), fun v _ _ => v = v32, fun v _ _ => v = (.int .i64 i67), fun v o w9 => ∃ vl, v = adr vl (i67.toNat * Rp.sz Int) ∧ Ow w.heap.size 3 14 o w9 vl y63, fun v _ _ => v = (.int .i64 x115), fun v _ _ => v = (.bool (x112 != x115)), fun v _ _ => v = (.bool (x112 != x115)), fun v _ _ => v = (.pointer (some ⟨b5, 0 + 2, none⟩)), fun v _ _ => v = v1, fun v _ _ => v = (.int .i64 y89), fun v o w9 => ∃ vl, v = adr vl (y89.toNat * Rp.sz (List Int)) ∧ RdL zt w vl (p0.Lines : List (List Int)), fun v o w9 => RdL zt w v x225, fun v o w9 => RdL zt w v x231, fun v _ _ => v = v19] (fun o8 w8 => Bs oo o8 w w8 ∧ RdL o8 w8 v19 x17 ∧ Of 3 o8 w8 v19 x17 ∧ Ow w.heap.size 3 14 o8 w8 v32 y63 ∧ Ow w.heap.size 26 15 o8 w8 v54 g56 ∧ Rws w.heap.size 3 16 o8 w8 g56 x52 ∧ Bx w.heap.size 11 o8 w8 b5 29 [(.int .i64 p0.Labels), (.int .i64 p0.Children), v1]) follows_mixed (by kernel_rfl) rfl ⟨rfl, rfl, rfl, rfl, rfl, rfl, rfl, rfl, rfl, trivial⟩ ⟨hB, h21, h20, h64, h55, h57, h6⟩ ?_ ⟨st_eq _, st_eq _, st_eq _, fun _ _ _ _ _ _ h0 hb ⟨vl, e, h⟩ hs => ⟨vl, e, h⟩, fun _ _ _ _ _ _ h0 hb h hs => h, fun _ _ _ _ _ _ h0 hb ⟨vl, e, h⟩ hs => ⟨vl, e, h⟩, st_eq _, st_eq _, st_eq _, fun _ _ _ _ _ _ h0 hb ⟨vl, e, h⟩ hs => ⟨vl, e, h.stp hs h0.1 (Ne.symm hb)⟩, st_eq _, st_eq _, st_eq _, st_eq _, st_eq _, st_eq _, fun _ _ _ _ _ _ h0 hb ⟨vl, e, h⟩ hs => ⟨vl, e, h⟩, fun _ _ _ _ _ _ h0 hb h hs => h, fun _ _ _ _ _ _ h0 hb h hs => h, st_eq _, trivial⟩ ?_ ?_
                  · rintro t9 o1 w1 o2 w2 ht9 ⟨hB, h21, h20, h64, h55, h57, h6⟩ hs9
                    have ht9 : t9 = 999 := by simpa using ht9
                    subst ht9
                    all_goals exact ⟨hB.stp hs9 (by decide), h21.stp hs9 (by decide), h20.stp hs9 (by decide), h64.stp hs9 (by decide) (by decide), h55.stp hs9 (by decide) (by decide), h57.stp hs9 (by decide) (by decide), h6.stp hs9 (by decide)⟩
                  · refine ⟨?_, ?_, ?_, ?_, ?_, ?_, ?_, ?_, ?_, ?_, ?_, ?_, ?_, ?_, ?_, ?_, ?_, ?_, ?_, ?_, trivial⟩
                    · rintro o234 w235 a236 ha ⟨hB, h21, h20, h64, h55, h57, h6⟩ -
                      refine opS_of ha (trivial) ?_
                      refine op1_val (ex_field rfl Try.underlying29 rfl Try.sizeOf22) ?_
                      exact ⟨_, Stp.refl _ _ _, rfl⟩
                    · rintro o237 w238 a239 ha ⟨hB, h21, h20, h64, h55, h57, h6⟩ ⟨r240, -⟩
                      have ha := Fr.cons (d := 44) ha r240
                      refine opS_of ha (trivial) ?_
                      refine op1_val (ex_load1 rfl Try.isAgg22 (h6.cell rfl)) ?_
                      exact ⟨_, Stp.refl _ _ _, rfl⟩
                    · rintro o241 w242 a243 ha ⟨hB, h21, h20, h64, h55, h57, h6⟩ -
                      refine opS_of ha (trivial) ?_
                      refine op1_val (ex_move rfl) ?_
                      exact ⟨_, Stp.refl _ _ _, rfl⟩
                    · rintro o244 w245 a246 ha ⟨hB, h21, h20, h64, h55, h57, h6⟩ ⟨r247, r248, -⟩
                      have ha := Fr.cons (d := 45) ha r247
                      have ha := Fr.cons (d := 46) ha r248
                      refine opS_of ha (trivial) ?_
                      refine wd_indexR h2 hx106 rfl rfl Try.underlying22 Try.sizeOf26 ?_
                      exact ⟨_, Stp.refl _ _ _, ⟨_, rfl, h2⟩⟩
                    · rintro o249 w250 a251 ha ⟨hB, h21, h20, h64, h55, h57, h6⟩ ⟨r252, -⟩
                      obtain ⟨v253, e254, h255⟩ := r252
                      have ha := Fr.cons (d := 47) ha e254
                      refine opS_of ha (trivial) ?_
                      refine wd_load1Z h255 hx106 hB rfl rfl Try.isAgg26 ?_
                      intro c256 h257
                      obtain ⟨v258, e260, h259⟩ := h257
                      cases e260
                      exact ⟨_, Stp.refl _ _ _, h259⟩
                    · rintro o261 w262 a263 ha ⟨hB, h21, h20, h64, h55, h57, h6⟩ ⟨r264, -⟩
                      replace r264 : RdL zt w (a263.tmps.getD 48 undef) x106 := r264
                      generalize e266 : a263.tmps.getD 48 undef = v265 at r264
                      have ha := Fr.cons (d := 48) ha e266
                      refine opS_of ha (trivial) ?_
                      refine wd_indexR r264 hx112 rfl rfl Try.underlying26 Try.sizeOf3 ?_
                      exact ⟨_, Stp.refl _ _ _, ⟨_, rfl, r264⟩⟩
                    · rintro o267 w268 a269 ha ⟨hB, h21, h20, h64, h55, h57, h6⟩ ⟨r270, -⟩
                      obtain ⟨v271, e272, h273⟩ := r270
                      have ha := Fr.cons (d := 49) ha e272
                      refine opS_of ha (trivial) ?_
                      refine wd_load1Z h273 hx112 hB rfl rfl Try.isAgg3 ?_
                      intro c274 h275
                      cases h275
                      exact ⟨_, Stp.refl _ _ _, rfl⟩
                    · rintro o276 w277 a278 ha ⟨hB, h21, h20, h64, h55, h57, h6⟩ -
                      refine opS_of ha (trivial) ?_
                      refine op1_val (ex_move rfl) ?_
                      exact ⟨_, Stp.refl _ _ _, rfl⟩
                    · rintro o279 w280 a281 ha ⟨hB, h21, h20, h64, h55, h57, h6⟩ -
                      refine opS_of ha (trivial) ?_
                      refine op1_val (ex_move rfl) ?_
                      exact ⟨_, Stp.refl _ _ _, rfl⟩
                    · rintro o282 w283 a284 ha ⟨hB, h21, h20, h64, h55, h57, h6⟩ ⟨r285, r286, -⟩
                      have ha := Fr.cons (d := 51) ha r285
                      have ha := Fr.cons (d := 52) ha r286
                      refine opS_of ha (trivial) ?_
                      refine wd_indexW h64 hx115 rfl rfl Try.underlying26 Try.sizeOf3 ?_
                      exact ⟨_, Stp.refl _ _ _, ⟨_, rfl, h64⟩⟩
                    · rintro o287 w288 a289 ha ⟨hB, h21, h20, h64, h55, h57, h6⟩ ⟨r290, -⟩
                      obtain ⟨v291, e292, h293⟩ := r290
                      have ha := Fr.cons (d := 53) ha e292
                      refine opS_of ha (trivial) ?_
                      refine wd_load1W h293 hx115 rfl rfl Try.isAgg3 ?_
                      intro c294 h295
                      cases h295
                      exact ⟨_, Stp.refl _ _ _, rfl⟩
                    · rintro o296 w297 a298 ha ⟨hB, h21, h20, h64, h55, h57, h6⟩ ⟨r299, r300, -⟩
                      have ha := Fr.cons (d := 50) ha r299
                      have ha := Fr.cons (d := 54) ha r300
                      refine opS_of ha (trivial) ?_
                      refine op1_val (ex_neq rfl rfl) ?_
                      exact ⟨_, Stp.refl _ _ _, rfl⟩
                    · rintro o301 w302 a303 ha ⟨hB, h21, h20, h64, h55, h57, h6⟩ ⟨r304, -⟩
                      have ha := Fr.cons (d := 55) ha r304
                      refine opS_of ha (trivial) ?_
                      refine op1_val (ex_move rfl) ?_
                      exact ⟨_, Stp.refl _ _ _, rfl⟩
                    · rintro o305 w306 a307 ha ⟨hB, h21, h20, h64, h55, h57, h6⟩ ⟨r308, -⟩
                      have ha := Fr.cons (d := 56) ha r308
                      refine opS_of ha (⟨_, rfl, (congrArg (fun b => some (Value.bool b)) t118)⟩) ?_
                      refine op1_val (ex_field rfl Try.underlying29 rfl Try.sizeOf22) ?_
                      exact ⟨_, Stp.refl _ _ _, rfl⟩
                    · rintro o309 w310 a311 ha ⟨hB, h21, h20, h64, h55, h57, h6⟩ ⟨r312, r313, -⟩
                      have ha := Fr.cons (d := 56) ha r312
                      have ha := Fr.cons (d := 57) ha r313
                      refine opS_of ha (⟨_, rfl, (congrArg (fun b => some (Value.bool b)) t118)⟩) ?_
                      refine op1_val (ex_load1 rfl Try.isAgg22 (h6.cell rfl)) ?_
                      exact ⟨_, Stp.refl _ _ _, rfl⟩
                    · rintro o314 w315 a316 ha ⟨hB, h21, h20, h64, h55, h57, h6⟩ ⟨r317, -⟩
                      have ha := Fr.cons (d := 56) ha r317
                      refine opS_of ha (⟨_, rfl, (congrArg (fun b => some (Value.bool b)) t118)⟩) ?_
                      refine op1_val (ex_move rfl) ?_
                      exact ⟨_, Stp.refl _ _ _, rfl⟩
                    · rintro o318 w319 a320 ha ⟨hB, h21, h20, h64, h55, h57, h6⟩ ⟨r321, r322, r323, -⟩
                      have ha := Fr.cons (d := 56) ha r321
                      have ha := Fr.cons (d := 58) ha r322
                      have ha := Fr.cons (d := 59) ha r323
                      refine opS_of ha (⟨_, rfl, (congrArg (fun b => some (Value.bool b)) t118)⟩) ?_
                      refine wd_indexR h2 hx225 rfl rfl Try.underlying22 Try.sizeOf26 ?_
                      exact ⟨_, Stp.refl _ _ _, ⟨_, rfl, h2⟩⟩
                    · rintro o324 w325 a326 ha ⟨hB, h21, h20, h64, h55, h57, h6⟩ ⟨r327, r328, -⟩
                      have ha := Fr.cons (d := 56) ha r327
                      obtain ⟨v329, e330, h331⟩ := r328
                      have ha := Fr.cons (d := 60) ha e330
                      refine opS_of ha (⟨_, rfl, (congrArg (fun b => some (Value.bool b)) t118)⟩) ?_
                      refine wd_load1Z h331 hx225 hB rfl rfl Try.isAgg26 ?_
                      intro c332 h333
                      obtain ⟨v334, e336, h335⟩ := h333
                      cases e336
                      exact ⟨_, Stp.refl _ _ _, h335⟩
                    · rintro o337 w338 a339 ha ⟨hB, h21, h20, h64, h55, h57, h6⟩ ⟨r340, r341, -⟩
                      have ha := Fr.cons (d := 56) ha r340
                      replace r341 : RdL zt w (a339.tmps.getD 61 undef) x225 := r341
                      generalize e343 : a339.tmps.getD 61 undef = v342 at r341
                      have ha := Fr.cons (d := 61) ha e343
                      refine opS_of ha (⟨_, rfl, (congrArg (fun b => some (Value.bool b)) t118)⟩) ?_
                      refine wf_cutZ r341 hx231 rfl rfl rfl Try.underlying26 Try.sizeOf3 ?_
                      intro v344 h345
                      exact ⟨_, Stp.refl _ _ _, h345⟩
                    · rintro o346 w347 a348 ha ⟨hB, h21, h20, h64, h55, h57, h6⟩ ⟨r349, -⟩
                      have ha := Fr.cons (d := 56) ha r349
                      refine opS_of ha (⟨_, rfl, (congrArg (fun b => some (Value.bool b)) t118)⟩) ?_
                      refine op1_val (ex_move rfl) ?_
                      exact ⟨_, Stp.refl _ _ _, rfl⟩
                  rintro o350 w351 a352 ha ⟨hB, h21, h20, h64, h55, h57, h6⟩ ⟨-, -, -, -, -, -, -, -, -, -, -, -, r353, -, -, -, -, -, r354, r355, -⟩
                  have ha := Fr.cons (d := 56) ha r353
                  replace r354 : RdL zt w (a352.tmps.getD 62 undef) x231 := r354
                  generalize e357 : a352.tmps.getD 62 undef = v356 at r354
                  have ha := Fr.cons (d := 62) ha e357
                  have ha := Fr.cons (d := 63) ha r355
                  refine wl_of ha ?_
                  simp only [List.length_cons, List.length_nil, Nat.zero_add, Nat.reduceAdd, List.drop_succ_cons, List.drop_zero]
                  obtain ⟨x358, hx358, hq102⟩ := bind_some hq102
                  refine st_op (by decide) ⟨_, rfl, (congrArg (fun b => some (Value.bool b)) t118)⟩ ?_
                  refine wf_call (cS_prAll w351 _ x231 (r354.keep hB.keeps) _ x17 h21.z x358 hx358) Try.call73 ⟨rfl, rfl, trivial⟩ ?_
                  rintro e363 w359 ⟨rfl, k360⟩
                  have s362 := k360.stp 999 o350
                  refine ⟨_, rfl, ?_⟩
                  replace h21 := h21.stp s362 (by decide)
                  replace h20 := h20.stp s362 (by decide)
                  replace h64 := h64.stp s362 (by decide) (by decide)
                  replace h55 := h55.stp s362 (by decide) (by decide)
                  replace h57 := h57.stp s362 (by decide) (by decide)
                  replace h6 := h6.stp s362 (by decide)
                  replace hB := hB.stp s362 (by decide)
                  refine st_val (ex_not rfl) (by decide) ⟨_, rfl, (congrArg (fun b => some (Value.bool b)) t118)⟩ ?_
                  refine st_val (ex_pick_f (congrArg (fun b => some (Value.bool b)) t118) rfl) (by decide) trivial ?_
                  have e364 := Option.some.inj hq102
                  subst e364
                  refine wpF_end (r := [(2, (.pointer (some ⟨b5, 0, none⟩))), (6, v19), (7, v32), (8, (.int .i64 i67)), (9, v78), (10, (.int .i64 y89)), (34, v54), (35, (.int .i64 (x52.length : Int))), (36, (.int .i64 i67)), (66, (.bool (!x358)))]) ⟨rfl, rfl, rfl, rfl, rfl, rfl, rfl, rfl, rfl, rfl, trivial⟩ ?_
                  refine np_norm (fun a ha => ⟨o350, ha, hB, h21, h20, h64, h55, h57, h6⟩)
              rintro a365 w104 ⟨o103, ha, hB, h21, h20, h64, h55, h57, h6⟩
              refine ap_k ha ?_
              refine nx ?_
              refine wpC_cond rfl (fun t366 => ?_) (fun t366 => ?_)
              · rw [if_pos t366] at b98
                refine wpC_skip ?_
                refine nx ?_
                refine wpC_block ?_
                refine wpC_region ?_
                refine st_val (ex_move rfl) (by decide) trivial ?_
                obtain ⟨x367, hx367, b98⟩ := bind_some b98
                refine st_val (ex_add rfl rfl hx367) (by decide) trivial ?_
                refine st_val (ex_assign rfl) (by decide) trivial ?_
                refine wpF_end (r := [(2, (.pointer (some ⟨b5, 0, none⟩))), (6, v19), (7, v32), (8, (.int .i64 i67)), (9, v78), (10, (.int .i64 x367)), (34, v54), (35, (.int .i64 (x52.length : Int))), (36, (.int .i64 i67))]) ⟨rfl, rfl, rfl, rfl, rfl, rfl, rfl, rfl, rfl, trivial⟩ ?_
                refine nb_norm ?_
                refine nt_norm ?_
                have e368 := Option.some.inj b98
                subst e368
                refine to_k (r := [(2, (.pointer (some ⟨b5, 0, none⟩))), (6, v19), (7, v32), (8, (.int .i64 i67)), (9, v78), (10, (.int .i64 x367)), (34, v54), (35, (.int .i64 (x52.length : Int))), (36, (.int .i64 i67))]) ⟨rfl, rfl, rfl, rfl, rfl, rfl, rfl, rfl, rfl, trivial⟩ ?_
                intro a ha
                exact ⟨K100, by omega, x367, o103, n99, ha, hB, h21, h20, h64, h55, h57, h6⟩
              · rw [if_neg (by rw [t366]; decide)] at b98
                refine wpC_exit ?_
                refine nt_exit ?_
                refine nt_exit ?_
                refine nb_hit ?_
                refine np_norm ?_
                have e369 := Option.some.inj b98
                subst e369
                refine to_k (r := [(2, (.pointer (some ⟨b5, 0, none⟩))), (6, v19), (7, v32), (9, v78), (10, (.int .i64 y89)), (34, v54), (35, (.int .i64 (x52.length : Int))), (36, (.int .i64 i67))]) ⟨rfl, rfl, rfl, rfl, rfl, rfl, rfl, rfl, trivial⟩ ?_
                intro a ha
                exact ⟨y89, o103, n99, ha, hB, h21, h20, h64, h55, h57, h6⟩
            · rintro a w91 ⟨y89, o90, rfl, ha, hB, h21, h20, h64, h55, h57, h6⟩
              dsimp only at b74
              refine wp_of ha ?_
              refine wpC_seq ?_
              refine wpC_region ?_
              refine st_val (ex_move rfl) (by decide) trivial ?_
              refine st_val (ex_lenO rfl (h57.at h80 h81) Try.underlying26) (by decide) trivial ?_
              refine st_val (ex_move rfl) (by decide) trivial ?_
              refine wpF_end (r := [(2, (.pointer (some ⟨b5, 0, none⟩))), (6, v19), (7, v32), (10, (.int .i64 y89)), (34, v54), (35, (.int .i64 (x52.length : Int))), (36, (.int .i64 i67)), (69, v78), (70, (.int .i64 (x77.length : Int))), (71, (.int .i64 0))]) ⟨rfl, rfl, rfl, rfl, rfl, rfl, rfl, rfl, rfl, rfl, trivial⟩ ?_
              refine nx ?_
              obtain ⟨q375, hq375, b74⟩ := bind_some b74
              refine wpC_cutN (fun a w373 => ∃ (y370 : List Int) (o372 : Tg), q375 = .inl y370 ∧ Fr a 91 [(2, (.pointer (some ⟨b5, 0, none⟩))), (6, v19), (7, v32), (34, v54), (35, (.int .i64 (x52.length : Int))), (36, (.int .i64 i67))] ∧ Bs oo o372 w w373 ∧ RdL o372 w373 v19 x17 ∧ Of 3 o372 w373 v19 x17 ∧ Ow w.heap.size 3 14 o372 w373 v32 y370 ∧ Ow w.heap.size 26 15 o372 w373 v54 g56 ∧ Rws w.heap.size 3 16 o372 w373 g56 x52 ∧ Bx w.heap.size 11 o372 w373 b5 29 [(.int .i64 p0.Labels), (.int .i64 p0.Children), v1]) (fun _ _ => False) ?_ ?_ ?_
              · refine wpC_block ?_
                refine wpC_loop (fun (K : Nat) a w373 => ∃ (i374 : Int) (y370 : List Int) (o372 : Tg), forI (fS_SolveDown_s3 p0 y89) (x77.drop i374.toNat) i374 y370 = some q375 ∧ (x77.drop i374.toNat).length = K ∧ 0 ≤ i374 ∧ Fr a 91 [(2, (.pointer (some ⟨b5, 0, none⟩))), (6, v19), (7, v32), (10, (.int .i64 y89)), (34, v54), (35, (.int .i64 (x52.length : Int))), (36, (.int .i64 i67)), (69, v78), (70, (.int .i64 (x77.length : Int))), (71, (.int .i64 i374))] ∧ Bs oo o372 w w373 ∧ RdL o372 w373 v19 x17 ∧ Of 3 o372 w373 v19 x17 ∧ Ow w.heap.size 3 14 o372 w373 v32 y370 ∧ Ow w.heap.size 26 15 o372 w373 v54 g56 ∧ Rws w.heap.size 3 16 o372 w373 g56 x52 ∧ Bx w.heap.size 11 o372 w373 b5 29 [(.int .i64 p0.Labels), (.int .i64 p0.Children), v1]) _ (fun a ha => ⟨0, y63, o90, hq375, rfl, Int.le_refl 0, ha.sub (r := [(2, (.pointer (some ⟨b5, 0, none⟩))), (6, v19), (7, v32), (10, (.int .i64 y89)), (34, v54), (35, (.int .i64 (x52.length : Int))), (36, (.int .i64 i67)), (69, v78), (70, (.int .i64 (x77.length : Int))), (71, (.int .i64 0))]) ⟨rfl, rfl, rfl, rfl, rfl, rfl, rfl, rfl, rfl, rfl, trivial⟩, hB, h21, h20, h64, h55, h57, h6⟩) ?_
                rintro K379 a w373 ⟨i374, y370, o372, l376, m378, z377, ha, hB, h21, h20, h371, h55, h57, h6⟩
                by_cases t383 : i374 < (x77.length : Int)
                · obtain ⟨x384, q380, hx384, b381, n382⟩ := forI_cons z377 t383 l376
                  have hle := (h57.at h80 h81).len_le
                  dsimp only [fS_SolveDown_s3] at b381
                  refine wp_of ha ?_
                  refine wpC_seq ?_
                  refine wpC_region ?_
                  refine st_val (ex_lss rfl rfl) (by decide) trivial ?_
                  refine wpF_end (r := [(2, (.pointer (some ⟨b5, 0, none⟩))), (6, v19), (7, v32), (10, (.int .i64 y89)), (34, v54), (35, (.int .i64 (x52.length : Int))), (36, (.int .i64 i67)), (69, v78), (70, (.int .i64 (x77.length : Int))), (71, (.int .i64 i374)), (72, (.bool (decide (i374 < (x77.length : Int)))))]) ⟨rfl, rfl, rfl, rfl, rfl, rfl, rfl, rfl, rfl, rfl, rfl, trivial⟩ ?_
                  refine nx ?_
                  refine wpC_seq ?_
                  refine wpC_true (congrArg (fun b => some (Value.bool b)) (decide_eq_true t383)) ?_
                  refine wpC_skip ?_
                  refine nx ?_
                  refine wpC_seq ?_
                  refine wpC_block ?_
                  refine wpC_seq ?_
                  refine wpC_region ?_
                  refine st_val (ex_move rfl) (by decide) trivial ?_
                  refine st_op (by decide) trivial ?_
                  refine wf_atW (h57.at h80 h81) hx384 rfl rfl Try.underlying26 Try.sizeOf3 ?_
                  intro b385 f386 c387 h388 h389
                  cases h389
                  refine st_val (ex_load1 rfl Try.isAgg3 (cell_of_cells h388)) (by decide) trivial ?_
                  refine st_val (ex_assign rfl) (by decide) trivial ?_
                  refine st_val (ex_assign rfl) (by decide) trivial ?_
                  refine wpF_end (r := [(2, (.pointer (some ⟨b5, 0, none⟩))), (6, v19), (7, v32), (10, (.int .i64 y89)), (11, (.int .i64 i374)), (12, (.int .i64 x384)), (34, v54), (35, (.int .i64 (x52.length : Int))), (36, (.int .i64 i67)), (69, v78), (70, (.int .i64 (x77.length : Int))), (71, (.int .i64 i374))]) ⟨rfl, rfl, rfl, rfl, rfl, rfl, rfl, rfl, rfl, rfl, rfl, rfl, trivial⟩ ?_
                  refine nx ?_
                  refine wpC_region ?_
                  refine st_val (ex_move rfl) (by decide) trivial ?_
                  refine st_val (ex_move rfl) (by decide) trivial ?_
                  refine st_val (ex_field rfl Try.underlying29 rfl Try.sizeOf22) (by decide) trivial ?_
                  refine st_val (ex_load1 rfl Try.isAgg22 (h6.cell rfl)) (by decide) trivial ?_
                  refine st_val (ex_move rfl) (by decide) trivial ?_
                  obtain ⟨x390, hx390, b381⟩ := bind_some b381
                  refine st_op (by decide) trivial ?_
                  refine wf_atZ h2 hx390 hB rfl rfl Try.underlying22 Try.sizeOf26 ?_
                  intro b391 f392 c393 h394 h395
                  obtain ⟨v396, rfl, h397⟩ := h395
                  refine st_val (ex_load1 rfl Try.isAgg26 (cell_of_cells h394)) (by decide) trivial ?_
                  refine st_val (ex_move rfl) (by decide) trivial ?_
                  obtain ⟨x398, hx398, b381⟩ := bind_some b381
                  refine st_val (ex_add rfl rfl hx398) (by decide) trivial ?_
                  obtain ⟨x399, hx399, b381⟩ := bind_some b381
                  refine st_op (by decide) trivial ?_
                  refine wf_atZ h397 hx399 hB rfl rfl Try.underlying26 Try.sizeOf3 ?_
                  intro b400 f401 c402 h403 h404
                  cases h404
                  refine st_val (ex_load1 rfl Try.isAgg3 (cell_of_cells h403)) (by decide) trivial ?_
                  obtain ⟨x405, hx405, b381⟩ := bind_some b381
                  refine st_op (by decide) trivial ?_
                  refine wf_atP h371 hx405 rfl rfl Try.underlying26 Try.sizeOf3 ?_
                  intro b406 c408 h411 h409 h410
                  cases h410
                  obtain ⟨x414, hx414, b381⟩ := bind_some b381
                  refine st_op0 trivial ?_
                  refine wf_storeW h371 h411 hx414 rfl (by decide) rfl rfl rfl Try.sizeOf3 rfl ?_
                  intro w412 h415 s413
                  replace h21 := h21.stp s413 (by decide)
                  replace h20 := h20.stp s413 (by decide)
                  replace h55 := h55.stp s413 (by decide) (by decide)
                  replace h57 := h57.stp s413 (by decide) (by decide)
                  replace h6 := h6.stp s413 (by decide)
                  replace hB := hB.stp s413 (by decide)
                  refine wpF_end (r := [(2, (.pointer (some ⟨b5, 0, none⟩))), (6, v19), (7, v32), (10, (.int .i64 y89)), (34, v54), (35, (.int .i64 (x52.length : Int))), (36, (.int .i64 i67)), (69, v78), (70, (.int .i64 (x77.length : Int))), (71, (.int .i64 i374))]) ⟨rfl, rfl, rfl, rfl, rfl, rfl, rfl, rfl, rfl, rfl, trivial⟩ ?_
                  refine nb_norm ?_
                  refine nx ?_
                  refine wpC_region ?_
                  refine st_val (ex_add rfl rfl (ck_in (by omega) (by omega))) (by decide) trivial ?_
                  refine st_val (ex_move rfl) (by decide) trivial ?_
                  refine wpF_end (r := [(2, (.pointer (some ⟨b5, 0, none⟩))), (6, v19), (7, v32), (10, (.int .i64 y89)), (34, v54), (35, (.int .i64 (x52.length : Int))), (36, (.int .i64 i67)), (69, v78), (70, (.int .i64 (x77.length : Int))), (71, (.int .i64 (i374 + 1)))]) ⟨rfl, rfl, rfl, rfl, rfl, rfl, rfl, rfl, rfl, rfl, trivial⟩ ?_
                  refine nt_norm ?_
                  have e416 := Option.some.inj b381
                  subst e416
                  refine to_k (r := [(2, (.pointer (some ⟨b5, 0, none⟩))), (6, v19), (7, v32), (10, (.int .i64 y89)), (34, v54), (35, (.int .i64 (x52.length : Int))), (36, (.int .i64 i67)), (69, v78), (70, (.int .i64 (x77.length : Int))), (71, (.int .i64 (i374 + 1)))]) ⟨rfl, rfl, rfl, rfl, rfl, rfl, rfl, rfl, rfl, rfl, trivial⟩ ?_
                  intro a ha
                  exact ⟨_, (by rw [← m378]; simp only [List.length_drop]; omega), i374 + 1, x414, o372, n382, rfl, (by omega), ha, hB, h21, h20, h415, h55, h57, h6⟩
                · have r417 := forI_done t383 l376
                  refine wp_of ha ?_
                  refine wpC_seq ?_
                  refine wpC_region ?_
                  refine st_val (ex_lss rfl rfl) (by decide) trivial ?_
                  refine wpF_end (r := [(2, (.pointer (some ⟨b5, 0, none⟩))), (6, v19), (7, v32), (10, (.int .i64 y89)), (34, v54), (35, (.int .i64 (x52.length : Int))), (36, (.int .i64 i67)), (69, v78), (70, (.int .i64 (x77.length : Int))), (71, (.int .i64 i374)), (72, (.bool (decide (i374 < (x77.length : Int)))))]) ⟨rfl, rfl, rfl, rfl, rfl, rfl, rfl, rfl, rfl, rfl, rfl, trivial⟩ ?_
                  refine nx ?_
                  refine wpC_seq ?_
                  refine wpC_false (congrArg (fun b => some (Value.bool b)) (decide_eq_false t383)) ?_
                  refine wpC_exit ?_
                  refine nt_exit ?_
                  refine nt_exit ?_
                  refine nb_hit ?_
                  refine np_norm ?_
                  refine to_k (r := [(2, (.pointer (some ⟨b5, 0, none⟩))), (6, v19), (7, v32), (34, v54), (35, (.int .i64 (x52.length : Int))), (36, (.int .i64 i67))]) ⟨rfl, rfl, rfl, rfl, rfl, rfl, trivial⟩ ?_
                  intro a ha
                  exact ⟨y370, o372, r417, ha, hB, h21, h20, h371, h55, h57, h6⟩
              · rintro a w373 ⟨y370, o372, rfl, ha, hB, h21, h20, h371, h55, h57, h6⟩
                dsimp only at b74
                refine ap_k ha ?_
                refine nb_norm ?_
                refine nx ?_
                refine wpC_region ?_
                refine st_val (ex_add rfl rfl (ck_in (by omega) (by omega))) (by decide) trivial ?_
                refine st_val (ex_move rfl) (by decide) trivial ?_
                refine wpF_end (r := [(2, (.pointer (some ⟨b5, 0, none⟩))), (6, v19), (7, v32), (34, v54), (35, (.int .i64 (x52.length : Int))), (36, (.int .i64 (i67 + 1)))]) ⟨rfl, rfl, rfl, rfl, rfl, rfl, trivial⟩ ?_
                refine nt_norm ?_
                have e418 := Option.some.inj b74
                subst e418
                refine to_k (r := [(2, (.pointer (some ⟨b5, 0, none⟩))), (6, v19), (7, v32), (34, v54), (35, (.int .i64 (x52.length : Int))), (36, (.int .i64 (i67 + 1)))]) ⟨rfl, rfl, rfl, rfl, rfl, rfl, trivial⟩ ?_
                intro a ha
                exact ⟨_, (by rw [← m71]; simp only [List.length_drop]; omega), i67 + 1, y370, o372, n75, rfl, (by omega), ha, hB, h21, h20, h371, h55, h57, h6⟩
              · exact fun _ _ h => h.elim
            · exact fun _ _ h => h.elim
        · have r419 := forI_done t76 l69
          refine wp_of ha ?_
          refine wpC_seq ?_
          refine wpC_region ?_
          refine st_val (ex_lss rfl rfl) (by decide) trivial ?_
          refine wpF_end (r := [(2, (.pointer (some ⟨b5, 0, none⟩))), (6, v19), (7, v32), (34, v54), (35, (.int .i64 (x52.length : Int))), (36, (.int .i64 i67)), (37, (.bool (decide (i67 < (x52.length : Int)))))]) ⟨rfl, rfl, rfl, rfl, rfl, rfl, rfl, trivial⟩ ?_
          refine nx ?_
          refine wpC_seq ?_
          refine wpC_false (congrArg (fun b => some (Value.bool b)) (decide_eq_false t76)) ?_
          refine wpC_exit ?_
          refine nt_exit ?_
          refine nt_exit ?_
          refine nb_hit ?_
          refine np_norm ?_
          refine to_k (r := [(7, v32)]) ⟨rfl, trivial⟩ ?_
          intro a ha
          exact ⟨y63, o65, r419, ha, hB, h64⟩
      · rintro a w66 ⟨y63, o65, rfl, ha, hB, h64⟩
        dsimp only at hF
        refine ap_k ha ?_
        refine nx ?_
        refine wpC_seq ?_
        refine wpC_region ?_
        refine st_val (ex_move rfl) (by decide) trivial ?_
        refine st_val (ex_assign rfl) (by decide) trivial ?_
        refine st_val (ex_assign rfl) (by decide) trivial ?_
        refine wpF_end (r := [(4, v32), (5, (.bool true))]) ⟨rfl, rfl, trivial⟩ ?_
        refine nx ?_
        refine wpC_ret ?_
        have e420 := Option.some.inj hF
        subst e420
        refine ret_post (P := Try.prog) (vs := [v32, (.bool true)]) Try.results33 ⟨rfl, rfl, trivial⟩ ?_
        exact ⟨_, rt oo o65 w.heap.size 14 t, rfl, h64.rt hB (by decide) t, hB.keeps, rt_old _ _ _ _ _⟩
      · exact fun _ _ h => h.elim

def fI_IsRootedTree_1 (p0 : List Int) (p1 : Int) : Option Bool :=
  (
    if (p0.length : Int) != 0 then
      some ((p0.length : Int) != p1)
    else
      some false) >>= fun q1 =>
  some q1

def pI_IsRootedTree_1 (w : World) (r : Bool) : Ending → World → Prop := fun e w' => e = .returned (.bool r) ∧ Keeps w w'
set_option maxRecDepth 100000 in
set_option maxHeartbeats 2000000 in
theorem cI_IsRootedTree_1 (w : World) (u0 : Value) (p0 : List Int) (g0 : RdL zt w u0 p0) (b1 : Nat) (u1 : List Value) (p1 : Int) (k1 : Cells w b1 0 u1) (g1 : Rp.rd zt w u1 p1) (r : Bool) (hF : fI_IsRootedTree_1 p0 p1 = some r) :
    Calls Try.prog 157 #[u0, .pointer (some ⟨b1, 0, none⟩)] w (pI_IsRootedTree_1 w r) := by
  unfold fI_IsRootedTree_1 at hF
  have g1k := g1
  cases g1
  have hB : Bs (fun _ => 1) (col (fun _ => 1)) w w := Bs.start _ _
  refine calls_start (n := 13) (vs := [u0, (.pointer (some ⟨b1, 0, none⟩))]) Try.func157 rfl rfl ?_
  refine wpC_seq ?_
  refine wpC_region ?_
  refine st_val (ex_assign rfl) (by decide) trivial ?_
  refine wpF_end (r := [(0, u0), (1, (.pointer (some ⟨b1, 0, none⟩)))]) ⟨rfl, rfl, trivial⟩ ?_
  refine nx ?_
  refine wpC_seq ?_
  refine wpC_region ?_
  refine st_val (ex_move rfl) (by decide) trivial ?_
  refine st_val (ex_lenR rfl g0 Try.underlying26) (by decide) trivial ?_
  refine st_val (ex_neq rfl rfl) (by decide) trivial ?_
  refine st_val (ex_move rfl) (by decide) trivial ?_
  obtain ⟨q1, hq1, hF⟩ := bind_some hF
  refine wpF_cutAt 5 (fun a3 w2 => Fr a3 13 [(12, (.bool q1))] ∧ Keeps w w2) ?_ ?_
  all_goals simp only [List.take_succ_cons, List.take_zero, List.drop_succ_cons, List.drop_zero]
  · have kp : Keeps w w := Keeps.refl _
    rcases Bool.eq_false_or_eq_true ((p0.length : Int) != 0) with t4 | t4
    · rw [if_pos t4] at hq1
      refine st_val (ex_move rfl) (by decide) ⟨_, rfl, (congrArg (fun b => some (Value.bool b)) t4)⟩ ?_
      refine st_val (ex_lenR rfl g0 Try.underlying26) (by decide) ⟨_, rfl, (congrArg (fun b => some (Value.bool b)) t4)⟩ ?_
      refine st_val (ex_load1 rfl Try.isAgg3 (cell_of_cells (k1.keep hB.keeps))) (by decide) ⟨_, rfl, (congrArg (fun b => some (Value.bool b)) t4)⟩ ?_
      refine st_val (ex_neq rfl rfl) (by decide) ⟨_, rfl, (congrArg (fun b => some (Value.bool b)) t4)⟩ ?_
      refine st_val (ex_pick_t (congrArg (fun b => some (Value.bool b)) t4) rfl) (by decide) trivial ?_
      have hq12 := Option.some.inj hq1
      refine wpF_end (r := [(12, (.bool ((p0.length : Int) != p1)))]) ⟨rfl, trivial⟩ ?_
      subst hq12
      refine np_norm (fun a ha => ⟨ha, kp⟩)
    · rw [if_neg (by rw [t4]; decide)] at hq1
      refine st_no rfl rfl (by rw [t4]; rfl) (by decide) ?_
      refine st_no rfl rfl (by rw [t4]; rfl) (by decide) ?_
      refine st_no rfl rfl (by rw [t4]; rfl) (by decide) ?_
      refine st_no rfl rfl (by rw [t4]; rfl) (by decide) ?_
      refine st_val (ex_pick_f (congrArg (fun b => some (Value.bool b)) t4) rfl) (by decide) trivial ?_
      have hq12 := Option.some.inj hq1
      refine wpF_end (r := [(12, (.bool false))]) ⟨rfl, trivial⟩ ?_
      subst hq12
      refine np_norm (fun a ha => ⟨ha, kp⟩)
  rintro a7 w2 ⟨ha, k5⟩
  have s6 := k5.stp 999 (col (fun _ => 1))
  replace hB := hB.stp s6 (by decide)
  refine wl_of ha ?_
  refine st_val (ex_assign rfl) (by decide) trivial ?_
  refine wpF_end (r := [(3, (.bool q1))]) ⟨rfl, trivial⟩ ?_
  refine nx ?_
  refine wpC_ret ?_
  have e8 := Option.some.inj hF
  subst e8
  refine ret_post (P := Try.prog) (vs := [(.bool q1)]) Try.results157 ⟨rfl, trivial⟩ ?_
  exact ⟨rfl, hB.keeps⟩

def fX_slices_IndexFunc_LLint_int_s1 (p0 : List (List Int)) (p1 : (List Int) → Option Bool) : Int → Unit → Option (Lp Unit Unit Int) := fun (i3 : Int) (s : Unit) =>
  (ix p0 i3) >>= fun x15 =>
  (p1 x15) >>= fun x23 =>
  if x23 then
    some (.ret i3)
  else
    some (.go ())
def fX_slices_IndexFunc_LLint_int (p0 : List (List Int)) (p1 : (List Int) → Option Bool) : Option Int :=
  ck (p0.length : Int) >>= fun _ =>
  (forN (fX_slices_IndexFunc_LLint_int_s1 p0 p1) ((p0.length : Int)).toNat 0 ()) >>= fun q4 =>
  match q4 with
  | .inl _ =>
    some (-1)
  | .inr r' => some r'

def pX_slices_IndexFunc_LLint_int (w : World) (r : Int) : Ending → World → Prop := fun e w' => e = .returned (.int .i64 r) ∧ Keeps w w'
set_option maxRecDepth 100000 in
set_option maxHeartbeats 2000000 in
theorem cX_slices_IndexFunc_LLint_int (w : World) (u0 : Value) (p0 : List (List Int)) (g0 : RdL zt w u0 p0) (u1 : Value) (p1 : (List Int) → Option Bool) (g1 : FnV Try.prog w u1 p1) (r : Int) (hF : fX_slices_IndexFunc_LLint_int p0 p1 = some r) :
    Calls Try.prog 76 #[u0, u1] w (pX_slices_IndexFunc_LLint_int w r) := by
  unfold fX_slices_IndexFunc_LLint_int at hF
  have hB : Bs (fun _ => 1) (col (fun _ => 1)) w w := Bs.start _ _
  refine calls_start (n := 19) (vs := [u0, u1]) Try.func76 rfl rfl ?_
  refine wpC_seq ?_
  refine wpC_region ?_
  refine st_val (ex_assign rfl) (by decide) trivial ?_
  refine wpF_end (r := [(0, u0), (1, u1)]) ⟨rfl, rfl, trivial⟩ ?_
  refine nx ?_
  refine wpC_seq ?_
  refine wpC_seq ?_
  refine wpC_region ?_
  refine st_val (ex_move rfl) (by decide) trivial ?_
  refine st_val (ex_lenR rfl g0 Try.underlying22) (by decide) trivial ?_
  refine st_val (ex_move rfl) (by decide) trivial ?_
  refine wpF_end (r := [(0, u0), (1, u1), (7, (.int .i64 (p0.length : Int))), (8, (.int .i64 0))]) ⟨rfl, rfl, rfl, rfl, trivial⟩ ?_
  refine nx ?_
  obtain ⟨u6, h5, hF⟩ := bind_some hF
  obtain ⟨-, h5a, h5b⟩ := ck_some h5
  obtain ⟨q4, hq4, hF⟩ := bind_some hF
  refine wpC_cutN (fun a w2 => ∃ (o1 : Tg), q4 = .inl () ∧ Fr a 19 [] ∧ Bs (fun _ => 1) o1 w w2) (fun a w' => ∃ r', q4 = .inr r' ∧ bodyPost Try.prog Try.f76 (pX_slices_IndexFunc_LLint_int w r') .ret a w') ?_ ?_ ?_
  · refine wpC_block ?_
    refine wpC_loop (fun (K : Nat) a w2 => ∃ (i3 : Int) (o1 : Tg), forN (fX_slices_IndexFunc_LLint_int_s1 p0 p1) ((p0.length : Int) - i3).toNat i3 () = some q4 ∧ ((p0.length : Int) - i3).toNat = K ∧ 0 ≤ i3 ∧ Fr a 19 [(0, u0), (1, u1), (7, (.int .i64 (p0.length : Int))), (8, (.int .i64 i3))] ∧ Bs (fun _ => 1) o1 w w2) _ (fun a ha => ⟨0, (col (fun _ => 1)), (by rw [Int.sub_zero]; exact hq4), rfl, Int.le_refl 0, ha.sub (r := [(0, u0), (1, u1), (7, (.int .i64 (p0.length : Int))), (8, (.int .i64 0))]) ⟨rfl, rfl, rfl, rfl, trivial⟩, hB⟩) ?_
    rintro K10 a w2 ⟨i3, o1, l7, m9, z8, ha, hB⟩
    by_cases t14 : i3 < (p0.length : Int)
    · obtain ⟨q11, b12, n13⟩ := forN_cons t14 l7
      dsimp only [fX_slices_IndexFunc_LLint_int_s1] at b12
      refine wp_of ha ?_
      refine wpC_seq ?_
      refine wpC_region ?_
      refine st_val (ex_lss rfl rfl) (by decide) trivial ?_
      refine wpF_end (r := [(0, u0), (1, u1), (7, (.int .i64 (p0.length : Int))), (8, (.int .i64 i3)), (9, (.bool (decide (i3 < (p0.length : Int)))))]) ⟨rfl, rfl, rfl, rfl, rfl, trivial⟩ ?_
      refine nx ?_
      refine wpC_seq ?_
      refine wpC_true (congrArg (fun b => some (Value.bool b)) (decide_eq_true t14)) ?_
      refine wpC_skip ?_
      refine nx ?_
      refine wpC_seq ?_
      refine wpC_block ?_
      refine wpC_seq ?_
      refine wpC_region ?_
      refine st_val (ex_move rfl) (by decide) trivial ?_
      refine st_val (ex_assign rfl) (by decide) trivial ?_
      refine wpF_end (r := [(0, u0), (1, u1), (5, (.int .i64 i3)), (7, (.int .i64 (p0.length : Int))), (8, (.int .i64 i3))]) ⟨rfl, rfl, rfl, rfl, rfl, trivial⟩ ?_
      refine nx ?_
      refine wpC_seq ?_
      refine wpC_region ?_
      refine st_val (ex_move rfl) (by decide) trivial ?_
      refine st_val (ex_move rfl) (by decide) trivial ?_
      refine st_val (ex_move rfl) (by decide) trivial ?_
      obtain ⟨x15, hx15, b12⟩ := bind_some b12
      refine st_op (by decide) trivial ?_
      refine wf_atZ g0 hx15 hB rfl rfl Try.underlying22 Try.sizeOf26 ?_
      intro b16 f17 c18 h19 h20
      obtain ⟨v21, rfl, h22⟩ := h20
      refine st_val (ex_load1 rfl Try.isAgg26 (cell_of_cells h19)) (by decide) trivial ?_
      obtain ⟨x23, hx23, b12⟩ := bind_some b12
      refine st_op (by decide) trivial ?_
      refine wf_callv (x := x15) (vs := [v21]) (g1.keep hB.keeps) hx23 ⟨_, rfl, (h22.keep hB.keeps)⟩ rfl ⟨rfl, trivial⟩ ?_
      intro w24 k25
      have s26 := k25.stp 999 o1
      replace hB := hB.stp s26 (by decide)
      refine wpF_end (r := [(0, u0), (1, u1), (5, (.int .i64 i3)), (7, (.int .i64 (p0.length : Int))), (8, (.int .i64 i3)), (16, (.bool x23))]) ⟨rfl, rfl, rfl, rfl, rfl, rfl, trivial⟩ ?_
      refine nx ?_
      refine wpC_cond rfl (fun t27 => ?_) (fun t27 => ?_)
      · rw [if_pos t27] at b12
        refine wpC_seq ?_
        refine wpC_region ?_
        refine st_val (ex_move rfl) (by decide) trivial ?_
        refine st_val (ex_assign rfl) (by decide) trivial ?_
        refine wpF_end (r := [(4, (.int .i64 i3))]) ⟨rfl, trivial⟩ ?_
        refine nx ?_
        refine wpC_ret ?_
        refine nb_ret ?_
        refine nt_ret ?_
        refine nt_ret ?_
        refine nb_ret ?_
        refine np_ret ?_
        have e28 := Option.some.inj b12
        subst e28
        refine fun a ha => ⟨_, n13, ?_⟩
        refine ret_post (P := Try.prog) (vs := [(.int .i64 i3)]) Try.results76 ⟨rfl, trivial⟩ ?_ a ha
        exact ⟨rfl, hB.keeps⟩
      · rw [if_neg (by rw [t27]; decide)] at b12
        refine wpC_skip ?_
        refine nb_norm ?_
        refine nx ?_
        refine wpC_region ?_
        refine st_val (ex_add rfl rfl (ck_in (by omega) (by omega))) (by decide) trivial ?_
        refine st_val (ex_move rfl) (by decide) trivial ?_
        refine wpF_end (r := [(0, u0), (1, u1), (7, (.int .i64 (p0.length : Int))), (8, (.int .i64 (i3 + 1)))]) ⟨rfl, rfl, rfl, rfl, trivial⟩ ?_
        refine nt_norm ?_
        have e29 := Option.some.inj b12
        subst e29
        refine to_k (r := [(0, u0), (1, u1), (7, (.int .i64 (p0.length : Int))), (8, (.int .i64 (i3 + 1)))]) ⟨rfl, rfl, rfl, rfl, trivial⟩ ?_
        intro a ha
        exact ⟨_, (by rw [← m9]; omega), i3 + 1, o1, n13, rfl, (by omega), ha, hB⟩
    · have r30 := forN_done t14 l7
      refine wp_of ha ?_
      refine wpC_seq ?_
      refine wpC_region ?_
      refine st_val (ex_lss rfl rfl) (by decide) trivial ?_
      refine wpF_end (r := [(0, u0), (1, u1), (7, (.int .i64 (p0.length : Int))), (8, (.int .i64 i3)), (9, (.bool (decide (i3 < (p0.length : Int)))))]) ⟨rfl, rfl, rfl, rfl, rfl, trivial⟩ ?_
      refine nx ?_
      refine wpC_seq ?_
      refine wpC_false (congrArg (fun b => some (Value.bool b)) (decide_eq_false t14)) ?_
      refine wpC_exit ?_
      refine nt_exit ?_
      refine nt_exit ?_
      refine nb_hit ?_
      refine np_norm ?_
      refine to_k (r := []) trivial ?_
      intro a ha
      exact ⟨o1, r30, ha, hB⟩
  · rintro a w2 ⟨o1, rfl, ha, hB⟩
    dsimp only at hF
    refine ap_k ha ?_
    refine nx ?_
    refine wpC_seq ?_
    refine wpC_region ?_
    refine st_val (ex_assign rfl) (by decide) trivial ?_
    refine wpF_end (r := [(4, (.int .i64 (-1)))]) ⟨rfl, trivial⟩ ?_
    refine nx ?_
    refine wpC_ret ?_
    have e31 := Option.some.inj hF
    subst e31
    refine ret_post (P := Try.prog) (vs := [(.int .i64 (-1))]) Try.results76 ⟨rfl, trivial⟩ ?_
    exact ⟨rfl, hB.keeps⟩
  · rintro a w2 ⟨r', rfl, b32⟩
    dsimp only at hF
    have e33 := Option.some.inj hF
    subst e33
    exact b32

def fX_slices_ContainsFunc_LLint_int (p0 : List (List Int)) (p1 : (List Int) → Option Bool) : Option Bool :=
  (fX_slices_IndexFunc_LLint_int p0 p1) >>= fun x1 =>
  some (decide (x1 ≥ 0))

def pX_slices_ContainsFunc_LLint_int (w : World) (r : Bool) : Ending → World → Prop := fun e w' => e = .returned (.bool r) ∧ Keeps w w'
set_option maxRecDepth 100000 in
set_option maxHeartbeats 2000000 in
theorem cX_slices_ContainsFunc_LLint_int (w : World) (u0 : Value) (p0 : List (List Int)) (g0 : RdL zt w u0 p0) (u1 : Value) (p1 : (List Int) → Option Bool) (g1 : FnV Try.prog w u1 p1) (r : Bool) (hF : fX_slices_ContainsFunc_LLint_int p0 p1 = some r) :
    Calls Try.prog 156 #[u0, u1] w (pX_slices_ContainsFunc_LLint_int w r) := by
  unfold fX_slices_ContainsFunc_LLint_int at hF
  have hB : Bs (fun _ => 1) (col (fun _ => 1)) w w := Bs.start _ _
  refine calls_start (n := 9) (vs := [u0, u1]) Try.func156 rfl rfl ?_
  refine wpC_seq ?_
  refine wpC_region ?_
  refine st_val (ex_assign rfl) (by decide) trivial ?_
  refine wpF_end (r := [(0, u0), (1, u1)]) ⟨rfl, rfl, trivial⟩ ?_
  refine nx ?_
  refine wpC_seq ?_
  refine wpC_region ?_
  refine st_val (ex_move rfl) (by decide) trivial ?_
  refine st_val (ex_move rfl) (by decide) trivial ?_
  obtain ⟨x1, hx1, hF⟩ := bind_some hF
  refine st_op (by decide) trivial ?_
  refine wf_call (cX_slices_IndexFunc_LLint_int w _ p0 (g0.keep hB.keeps) _ p1 (g1.keep hB.keeps) x1 hx1) Try.call76 ⟨rfl, rfl, trivial⟩ ?_
  rintro e6 w2 ⟨rfl, k3⟩
  have s5 := k3.stp 999 (col (fun _ => 1))
  refine ⟨_, rfl, ?_⟩
  replace hB := hB.stp s5 (by decide)
  refine st_val (ex_geq rfl rfl) (by decide) trivial ?_
  refine st_val (ex_assign rfl) (by decide) trivial ?_
  refine wpF_end (r := [(4, (.bool (decide (x1 ≥ 0))))]) ⟨rfl, trivial⟩ ?_
  refine nx ?_
  refine wpC_ret ?_
  have e7 := Option.some.inj hF
  subst e7
  refine ret_post (P := Try.prog) (vs := [(.bool (decide (x1 ≥ 0)))]) Try.results156 ⟨rfl, trivial⟩ ?_
  exact ⟨rfl, hB.keeps⟩

def fI_IsRootedTree_s1 : Int → Int → Unit → Option (Lp Unit Unit Bool) := fun (i36 : Int) (x46 : Int) (s : Unit) =>
  (
    if decide (i36 > 0) then
      (ck (i36 - 1)) >>= fun x56 =>
      (fI_within x46 0 x56) >>= fun x57 =>
      some (!x57)
    else
      some false) >>= fun q52 =>
  if q52 then
    some (.ret false)
  else
    some (.go ())
def fI_IsRootedTree (p0 : Int) (p1 : List Int) : Option Bool :=
  (fI_within p0 1 3) >>= fun x6 =>
  (
    if !x6 then
      some true
    else
      (fI_within (p1.length : Int) 1 200) >>= fun x16 =>
      if !x16 then
        some true
      else
        (ix p1 0) >>= fun x23 =>
        some (x23 != (-1))) >>= fun q12 =>
  if q12 then
    some false
  else
    (forI (fI_IsRootedTree_s1) p1 0 ()) >>= fun q37 =>
    match q37 with
    | .inl _ =>
      (fI_childrenOf p1) >>= fun x70 =>
      (fX_slices_ContainsFunc_LLint_int x70 (fun z81 => fI_IsRootedTree_1 z81 p0)) >>= fun x84 =>
      some (!x84)
    | .inr r' => some r'

def pI_IsRootedTree (w : World) (r : Bool) : Ending → World → Prop := fun e w' => e = .returned (.bool r) ∧ Keeps w w'
set_option maxRecDepth 100000 in
set_option maxHeartbeats 2000000 in
theorem cI_IsRootedTree (w : World) (p0 : Int) (u1 : Value) (p1 : List Int) (g1 : RdL zt w u1 p1) (r : Bool) (hF : fI_IsRootedTree p0 p1 = some r) :
    Calls Try.prog 123 #[.int .i64 p0, u1] w (pI_IsRootedTree w r) := by
  unfold fI_IsRootedTree at hF
  have hB : Bs (fun _ => 1) (col (fun _ => 1)) w w := Bs.start _ _
  refine calls_start (n := 44) (vs := [(.int .i64 p0), u1]) Try.func123 rfl rfl ?_
  refine wpC_seq ?_
  refine wpC_region ?_
  refine st_op (by decide) trivial ?_
  refine wf_box (o := (col (fun _ => 1))) w.heap.size 11 hB.keeps.size (cs := [(.int .i64 p0)]) rfl rfl ?_
  intro o1 w2 b3 h4 s5
  replace hB := hB.stp s5 (by decide)
  refine st_val (ex_assign rfl) (by decide) trivial ?_
  refine wpF_end (r := [(1, u1), (2, (.pointer (some ⟨b3, 0, none⟩)))]) ⟨rfl, rfl, trivial⟩ ?_
  refine nx ?_
  refine wpC_seq ?_
  refine wpC_seq ?_
  refine wpC_region ?_
  refine st_val (ex_load1 rfl Try.isAgg3 (h4.cell rfl)) (by decide) trivial ?_
  obtain ⟨x6, hx6, hF⟩ := bind_some hF
  refine st_op (by decide) trivial ?_
  refine wf_call (cI_within w2 p0 1 3 x6 hx6) Try.call57 ⟨rfl, rfl, rfl, trivial⟩ ?_
  rintro e11 w7 ⟨rfl, k8⟩
  have s10 := k8.stp 999 o1
  refine ⟨_, rfl, ?_⟩
  replace h4 := h4.stp s10 (by decide)
  replace hB := hB.stp s10 (by decide)
  refine st_val (ex_not rfl) (by decide) trivial ?_
  refine st_val (ex_move rfl) (by decide) trivial ?_
  obtain ⟨q12, hq12, hF⟩ := bind_some hF
  refine wpF_cutAt 11 (fun a14 w13 => Fr a14 44 [(1, u1), (2, (.pointer (some ⟨b3, 0, none⟩))), (21, (.bool q12))] ∧ Keeps w7 w13) ?_ ?_
  all_goals simp only [List.take_succ_cons, List.take_zero, List.drop_succ_cons, List.drop_zero]
  · have kp : Keeps w7 w7 := Keeps.refl _
    rcases Bool.eq_false_or_eq_true (!x6) with t15 | t15
    · rw [if_pos t15] at hq12
      refine st_no rfl rfl (by rw [t15]; rfl) (by decide) ?_
      refine st_no rfl rfl (by rw [t15]; rfl) (by decide) ?_
      refine st_no rfl rfl (by rw [t15]; rfl) (by decide) ?_
      refine st_no rfl rfl (by rw [t15]; rfl) (by decide) ?_
      refine st_val (ex_pick_t (congrArg (fun b => some (Value.bool b)) t15) rfl) (by decide) trivial ?_
      refine st_val (ex_move rfl) (by decide) trivial ?_
      refine st_no rfl rfl rfl (by decide) ?_
      refine st_no rfl rfl rfl (by decide) ?_
      refine st_no rfl rfl rfl (by decide) ?_
      refine st_no rfl rfl rfl (by decide) ?_
      refine st_val (ex_pick_t rfl rfl) (by decide) trivial ?_
      have hq122 := Option.some.inj hq12
      refine wpF_end (r := [(1, u1), (2, (.pointer (some ⟨b3, 0, none⟩))), (21, (.bool true))]) ⟨rfl, rfl, rfl, trivial⟩ ?_
      subst hq122
      refine np_norm (fun a ha => ⟨ha, kp⟩)
    · rw [if_neg (by rw [t15]; decide)] at hq12
      refine st_val (ex_move rfl) (by decide) ⟨_, rfl, (congrArg (fun b => some (Value.bool b)) t15)⟩ ?_
      refine st_val (ex_lenR rfl g1 Try.underlying26) (by decide) ⟨_, rfl, (congrArg (fun b => some (Value.bool b)) t15)⟩ ?_
      obtain ⟨x16, hx16, hq12⟩ := bind_some hq12
      refine st_op (by decide) ⟨_, rfl, (congrArg (fun b => some (Value.bool b)) t15)⟩ ?_
      refine wf_call (cI_within w7 (p1.length : Int) 1 200 x16 hx16) Try.call57 ⟨rfl, rfl, rfl, trivial⟩ ?_
      rintro e21 w17 ⟨rfl, k18⟩
      have s20 := k18.stp 999 o1
      refine ⟨_, rfl, ?_⟩
      replace h4 := h4.stp s20 (by decide)
      replace hB := hB.stp s20 (by decide)
      replace kp := Keeps.trans kp k18
      refine st_val (ex_not rfl) (by decide) ⟨_, rfl, (congrArg (fun b => some (Value.bool b)) t15)⟩ ?_
      refine st_val (ex_pick_f (congrArg (fun b => some (Value.bool b)) t15) rfl) (by decide) trivial ?_
      refine st_val (ex_move rfl) (by decide) trivial ?_
      rcases Bool.eq_false_or_eq_true (!x16) with t22 | t22
      · rw [if_pos t22] at hq12
        refine st_no rfl rfl (by rw [t22]; rfl) (by decide) ?_
        refine st_no rfl rfl (by rw [t22]; rfl) (by decide) ?_
        refine st_no rfl rfl (by rw [t22]; rfl) (by decide) ?_
        refine st_no rfl rfl (by rw [t22]; rfl) (by decide) ?_
        refine st_val (ex_pick_t (congrArg (fun b => some (Value.bool b)) t22) rfl) (by decide) trivial ?_
        have hq122 := Option.some.inj hq12
        refine wpF_end (r := [(1, u1), (2, (.pointer (some ⟨b3, 0, none⟩))), (21, (.bool true))]) ⟨rfl, rfl, rfl, trivial⟩ ?_
        subst hq122
        refine np_norm (fun a ha => ⟨ha, kp⟩)
      · rw [if_neg (by rw [t22]; decide)] at hq12
        refine st_val (ex_move rfl) (by decide) ⟨_, rfl, (congrArg (fun b => some (Value.bool b)) t22)⟩ ?_
        obtain ⟨x23, hx23, hq12⟩ := bind_some hq12
        refine st_op (by decide) ⟨_, rfl, (congrArg (fun b => some (Value.bool b)) t22)⟩ ?_
        refine wf_atZ g1 hx23 hB rfl rfl Try.underlying26 Try.sizeOf3 ?_
        intro b24 f25 c26 h27 h28
        cases h28
        refine st_val (ex_load1 rfl Try.isAgg3 (cell_of_cells h27)) (by decide) ⟨_, rfl, (congrArg (fun b => some (Value.bool b)) t22)⟩ ?_
        refine st_val (ex_neq rfl rfl) (by decide) ⟨_, rfl, (congrArg (fun b => some (Value.bool b)) t22)⟩ ?_
        refine st_val (ex_pick_f (congrArg (fun b => some (Value.bool b)) t22) rfl) (by decide) trivial ?_
        have hq122 := Option.some.inj hq12
        refine wpF_end (r := [(1, u1), (2, (.pointer (some ⟨b3, 0, none⟩))), (21, (.bool (x23 != (-1))))]) ⟨rfl, rfl, rfl, trivial⟩ ?_
        subst hq122
        refine np_norm (fun a ha => ⟨ha, kp⟩)
  rintro a31 w13 ⟨ha, k29⟩
  have s30 := k29.stp 999 o1
  replace h4 := h4.stp s30 (by decide)
  replace hB := hB.stp s30 (by decide)
  refine wl_of ha ?_
  refine wpF_end (r := [(1, u1), (2, (.pointer (some ⟨b3, 0, none⟩))), (21, (.bool q12))]) ⟨rfl, rfl, rfl, trivial⟩ ?_
  refine nx ?_
  refine wpC_cond rfl (fun t32 => ?_) (fun t32 => ?_)
  · rw [if_pos t32] at hF
    refine wpC_seq ?_
    refine wpC_region ?_
    refine st_val (ex_assign rfl) (by decide) trivial ?_
    refine wpF_end (r := [(4, (.bool false))]) ⟨rfl, trivial⟩ ?_
    refine nx ?_
    refine wpC_ret ?_
    refine nt_ret ?_
    have e33 := Option.some.inj hF
    subst e33
    refine ret_post (P := Try.prog) (vs := [(.bool false)]) Try.results123 ⟨rfl, trivial⟩ ?_
    exact ⟨rfl, hB.keeps⟩
  · rw [if_neg (by rw [t32]; decide)] at hF
    refine wpC_skip ?_
    refine nx ?_
    refine wpC_seq ?_
    refine wpC_seq ?_
    refine wpC_region ?_
    refine st_val (ex_move rfl) (by decide) trivial ?_
    refine st_val (ex_lenR rfl g1 Try.underlying26) (by decide) trivial ?_
    refine st_val (ex_move rfl) (by decide) trivial ?_
    refine wpF_end (r := [(1, u1), (2, (.pointer (some ⟨b3, 0, none⟩))), (22, u1), (23, (.int .i64 (p1.length : Int))), (24, (.int .i64 0))]) ⟨rfl, rfl, rfl, rfl, rfl, trivial⟩ ?_
    refine nx ?_
    obtain ⟨q37, hq37, hF⟩ := bind_some hF
    refine wpC_cutN (fun a w35 => ∃ (o34 : Tg), q37 = .inl () ∧ Fr a 44 [(1, u1), (2, (.pointer (some ⟨b3, 0, none⟩)))] ∧ Bs (fun _ => 1) o34 w w35 ∧ Bx w.heap.size 11 o34 w35 b3 3 [(.int .i64 p0)]) (fun a w' => ∃ r', q37 = .inr r' ∧ bodyPost Try.prog Try.f123 (pI_IsRootedTree w r') .ret a w') ?_ ?_ ?_
    · refine wpC_block ?_
      refine wpC_loop (fun (K : Nat) a w35 => ∃ (i36 : Int) (o34 : Tg), forI (fI_IsRootedTree_s1) (p1.drop i36.toNat) i36 () = some q37 ∧ (p1.drop i36.toNat).length = K ∧ 0 ≤ i36 ∧ Fr a 44 [(1, u1), (2, (.pointer (some ⟨b3, 0, none⟩))), (22, u1), (23, (.int .i64 (p1.length : Int))), (24, (.int .i64 i36))] ∧ Bs (fun _ => 1) o34 w w35 ∧ Bx w.heap.size 11 o34 w35 b3 3 [(.int .i64 p0)]) _ (fun a ha => ⟨0, o1, hq37, rfl, Int.le_refl 0, ha.sub (r := [(1, u1), (2, (.pointer (some ⟨b3, 0, none⟩))), (22, u1), (23, (.int .i64 (p1.length : Int))), (24, (.int .i64 0))]) ⟨rfl, rfl, rfl, rfl, rfl, trivial⟩, hB, h4⟩) ?_
      rintro K41 a w35 ⟨i36, o34, l38, m40, z39, ha, hB, h4⟩
      by_cases t45 : i36 < (p1.length : Int)
      · obtain ⟨x46, q42, hx46, b43, n44⟩ := forI_cons z39 t45 l38
        have hle := g1.len_le
        dsimp only [fI_IsRootedTree_s1] at b43
        refine wp_of ha ?_
        refine wpC_seq ?_
        refine wpC_region ?_
        refine st_val (ex_lss rfl rfl) (by decide) trivial ?_
        refine wpF_end (r := [(1, u1), (2, (.pointer (some ⟨b3, 0, none⟩))), (22, u1), (23, (.int .i64 (p1.length : Int))), (24, (.int .i64 i36)), (25, (.bool (decide (i36 < (p1.length : Int)))))]) ⟨rfl, rfl, rfl, rfl, rfl, rfl, trivial⟩ ?_
        refine nx ?_
        refine wpC_seq ?_
        refine wpC_true (congrArg (fun b => some (Value.bool b)) (decide_eq_true t45)) ?_
        refine wpC_skip ?_
        refine nx ?_
        refine wpC_seq ?_
        refine wpC_block ?_
        refine wpC_seq ?_
        refine wpC_region ?_
        refine st_val (ex_move rfl) (by decide) trivial ?_
        refine st_op (by decide) trivial ?_
        refine wf_atZ g1 hx46 hB rfl rfl Try.underlying26 Try.sizeOf3 ?_
        intro b47 f48 c49 h50 h51
        cases h51
        refine st_val (ex_load1 rfl Try.isAgg3 (cell_of_cells h50)) (by decide) trivial ?_
        refine st_val (ex_assign rfl) (by decide) trivial ?_
        refine st_val (ex_assign rfl) (by decide) trivial ?_
        refine wpF_end (r := [(1, u1), (2, (.pointer (some ⟨b3, 0, none⟩))), (5, (.int .i64 i36)), (6, (.int .i64 x46)), (22, u1), (23, (.int .i64 (p1.length : Int))), (24, (.int .i64 i36))]) ⟨rfl, rfl, rfl, rfl, rfl, rfl, rfl, trivial⟩ ?_
        refine nx ?_
        refine wpC_seq ?_
        refine wpC_region ?_
        refine st_val (ex_move rfl) (by decide) trivial ?_
        refine st_val (ex_gtr rfl rfl) (by decide) trivial ?_
        refine st_val (ex_move rfl) (by decide) trivial ?_
        obtain ⟨q52, hq52, b43⟩ := bind_some b43
        refine wpF_cutAt 6 (fun a54 w53 => Fr a54 44 [(1, u1), (2, (.pointer (some ⟨b3, 0, none⟩))), (22, u1), (23, (.int .i64 (p1.length : Int))), (24, (.int .i64 i36)), (37, (.bool q52))] ∧ Keeps w35 w53) ?_ ?_
        all_goals simp only [List.take_succ_cons, List.take_zero, List.drop_succ_cons, List.drop_zero]
        · have kp : Keeps w35 w35 := Keeps.refl _
          rcases Bool.eq_false_or_eq_true (decide (i36 > 0)) with t55 | t55
          · rw [if_pos t55] at hq52
            refine st_val (ex_move rfl) (by decide) ⟨_, rfl, (congrArg (fun b => some (Value.bool b)) t55)⟩ ?_
            refine st_val (ex_move rfl) (by decide) ⟨_, rfl, (congrArg (fun b => some (Value.bool b)) t55)⟩ ?_
            obtain ⟨x56, hx56, hq52⟩ := bind_some hq52
            refine st_val (ex_sub rfl rfl hx56) (by decide) ⟨_, rfl, (congrArg (fun b => some (Value.bool b)) t55)⟩ ?_
            obtain ⟨x57, hx57, hq52⟩ := bind_some hq52
            refine st_op (by decide) ⟨_, rfl, (congrArg (fun b => some (Value.bool b)) t55)⟩ ?_
            refine wf_call (cI_within w35 x46 0 x56 x57 hx57) Try.call57 ⟨rfl, rfl, rfl, trivial⟩ ?_
            rintro e62 w58 ⟨rfl, k59⟩
            have s61 := k59.stp 999 o34
            refine ⟨_, rfl, ?_⟩
            replace h4 := h4.stp s61 (by decide)
            replace hB := hB.stp s61 (by decide)
            replace kp := Keeps.trans kp k59
            refine st_val (ex_not rfl) (by decide) ⟨_, rfl, (congrArg (fun b => some (Value.bool b)) t55)⟩ ?_
            refine st_val (ex_pick_t (congrArg (fun b => some (Value.bool b)) t55) rfl) (by decide) trivial ?_
            have hq522 := Option.some.inj hq52
            refine wpF_end (r := [(1, u1), (2, (.pointer (some ⟨b3, 0, none⟩))), (22, u1), (23, (.int .i64 (p1.length : Int))), (24, (.int .i64 i36)), (37, (.bool (!x57)))]) ⟨rfl, rfl, rfl, rfl, rfl, rfl, trivial⟩ ?_
            subst hq522
            refine np_norm (fun a ha => ⟨ha, kp⟩)
          · rw [if_neg (by rw [t55]; decide)] at hq52
            refine st_no rfl rfl (by rw [t55]; rfl) (by decide) ?_
            refine st_no rfl rfl (by rw [t55]; rfl) (by decide) ?_
            refine st_no rfl rfl (by rw [t55]; rfl) (by decide) ?_
            refine st_no rfl rfl (by rw [t55]; rfl) (by decide) ?_
            refine st_no rfl rfl (by rw [t55]; rfl) (by decide) ?_
            refine st_val (ex_pick_f (congrArg (fun b => some (Value.bool b)) t55) rfl) (by decide) trivial ?_
            have hq522 := Option.some.inj hq52
            refine wpF_end (r := [(1, u1), (2, (.pointer (some ⟨b3, 0, none⟩))), (22, u1), (23, (.int .i64 (p1.length : Int))), (24, (.int .i64 i36)), (37, (.bool false))]) ⟨rfl, rfl, rfl, rfl, rfl, rfl, trivial⟩ ?_
            subst hq522
            refine np_norm (fun a ha => ⟨ha, kp⟩)
        rintro a65 w53 ⟨ha, k63⟩
        have s64 := k63.stp 999 o34
        replace h4 := h4.stp s64 (by decide)
        replace hB := hB.stp s64 (by decide)
        refine wl_of ha ?_
        refine wpF_end (r := [(1, u1), (2, (.pointer (some ⟨b3, 0, none⟩))), (22, u1), (23, (.int .i64 (p1.length : Int))), (24, (.int .i64 i36)), (37, (.bool q52))]) ⟨rfl, rfl, rfl, rfl, rfl, rfl, trivial⟩ ?_
        refine nx ?_
        refine wpC_cond rfl (fun t66 => ?_) (fun t66 => ?_)
        · rw [if_pos t66] at b43
          refine wpC_seq ?_
          refine wpC_region ?_
          refine st_val (ex_assign rfl) (by decide) trivial ?_
          refine wpF_end (r := [(4, (.bool false))]) ⟨rfl, trivial⟩ ?_
          refine nx ?_
          refine wpC_ret ?_
          refine nb_ret ?_
          refine nt_ret ?_
          refine nt_ret ?_
          refine nb_ret ?_
          refine np_ret ?_
          have e67 := Option.some.inj b43
          subst e67
          refine fun a ha => ⟨_, n44, ?_⟩
          refine ret_post (P := Try.prog) (vs := [(.bool false)]) Try.results123 ⟨rfl, trivial⟩ ?_ a ha
          exact ⟨rfl, hB.keeps⟩
        · rw [if_neg (by rw [t66]; decide)] at b43
          refine wpC_skip ?_
          refine nb_norm ?_
          refine nx ?_
          refine wpC_region ?_
          refine st_val (ex_add rfl rfl (ck_in (by omega) (by omega))) (by decide) trivial ?_
          refine st_val (ex_move rfl) (by decide) trivial ?_
          refine wpF_end (r := [(1, u1), (2, (.pointer (some ⟨b3, 0, none⟩))), (22, u1), (23, (.int .i64 (p1.length : Int))), (24, (.int .i64 (i36 + 1)))]) ⟨rfl, rfl, rfl, rfl, rfl, trivial⟩ ?_
          refine nt_norm ?_
          have e68 := Option.some.inj b43
          subst e68
          refine to_k (r := [(1, u1), (2, (.pointer (some ⟨b3, 0, none⟩))), (22, u1), (23, (.int .i64 (p1.length : Int))), (24, (.int .i64 (i36 + 1)))]) ⟨rfl, rfl, rfl, rfl, rfl, trivial⟩ ?_
          intro a ha
          exact ⟨_, (by rw [← m40]; simp only [List.length_drop]; omega), i36 + 1, o34, n44, rfl, (by omega), ha, hB, h4⟩
      · have r69 := forI_done t45 l38
        refine wp_of ha ?_
        refine wpC_seq ?_
        refine wpC_region ?_
        refine st_val (ex_lss rfl rfl) (by decide) trivial ?_
        refine wpF_end (r := [(1, u1), (2, (.pointer (some ⟨b3, 0, none⟩))), (22, u1), (23, (.int .i64 (p1.length : Int))), (24, (.int .i64 i36)), (25, (.bool (decide (i36 < (p1.length : Int)))))]) ⟨rfl, rfl, rfl, rfl, rfl, rfl, trivial⟩ ?_
        refine nx ?_
        refine wpC_seq ?_
        refine wpC_false (congrArg (fun b => some (Value.bool b)) (decide_eq_false t45)) ?_
        refine wpC_exit ?_
        refine nt_exit ?_
        refine nt_exit ?_
        refine nb_hit ?_
        refine np_norm ?_
        refine to_k (r := [(1, u1), (2, (.pointer (some ⟨b3, 0, none⟩)))]) ⟨rfl, rfl, trivial⟩ ?_
        intro a ha
        exact ⟨o34, r69, ha, hB, h4⟩
    · rintro a w35 ⟨o34, rfl, ha, hB, h4⟩
      dsimp only at hF
      refine ap_k ha ?_
      refine nx ?_
      refine wpC_seq ?_
      refine wpC_region ?_
      refine st_val (ex_move rfl) (by decide) trivial ?_
      obtain ⟨x70, hx70, hF⟩ := bind_some hF
      refine st_op (by decide) trivial ?_
      refine wf_call (cI_childrenOf w35 o34 15 (by decide) _ p1 (g1.keep hB.keeps) x70 hx70) Try.call75 ⟨rfl, trivial⟩ ?_
      rintro e79 w71 ⟨v72, g74, o80, rfl, h73, h75, k76, k77⟩
      have s78 := k76.stp' 15 k77
      replace h73 := h73.mono hB.keeps.size
      replace h75 := h75.mono hB.keeps.size
      refine ⟨_, rfl, ?_⟩
      replace h4 := h4.stp s78 (by decide)
      replace hB := hB.stp s78 (by decide)
      refine st_val (ex_func (vs := [(.pointer (some ⟨b3, 0, none⟩))]) ⟨rfl, trivial⟩) (by decide) trivial ?_
      obtain ⟨x84, hx84, hF⟩ := bind_some hF
      refine st_op (by decide) trivial ?_
      refine wf_call (cX_slices_ContainsFunc_LLint_int w71 _ x70 (h75.z h73) _ (fun z81 => fI_IsRootedTree_1 z81 p0) (show FnV Try.prog w71 (.func (.func 157) #[] #[(.pointer (some ⟨b3, 0, none⟩))]) (fun z81 => fI_IsRootedTree_1 z81 p0) from ⟨_, _, rfl, Try.call157, fun ww vs xx rr kk hok hG => by (obtain ⟨v82, rfl, h83⟩ := hok; exact cI_IsRootedTree_1 ww _ xx h83 b3 _ p0 ((h4.cells).keep kk) (Rp.keep ((show Rp.rd zt w71 [(.int .i64 p0)] (p0 : Int) from rfl)) kk) rr hG)⟩) x84 hx84) Try.call156 ⟨rfl, rfl, trivial⟩ ?_
      rintro e89 w85 ⟨rfl, k86⟩
      have s88 := k86.stp 999 o80
      refine ⟨_, rfl, ?_⟩
      replace h73 := h73.stp s88 (by decide) (by decide)
      replace h75 := h75.stp s88 (by decide) (by decide)
      replace h4 := h4.stp s88 (by decide)
      replace hB := hB.stp s88 (by decide)
      refine st_val (ex_not rfl) (by decide) trivial ?_
      refine st_val (ex_assign rfl) (by decide) trivial ?_
      refine wpF_end (r := [(4, (.bool (!x84)))]) ⟨rfl, trivial⟩ ?_
      refine nx ?_
      refine wpC_ret ?_
      have e90 := Option.some.inj hF
      subst e90
      refine ret_post (P := Try.prog) (vs := [(.bool (!x84))]) Try.results123 ⟨rfl, trivial⟩ ?_
      exact ⟨rfl, hB.keeps⟩
    · rintro a w35 ⟨r', rfl, b91⟩
      dsimp only at hF
      have e92 := Option.some.inj hF
      subst e92
      exact b91

def fI_rootedOk (fuel : Nat) (p0 : T_RootedProblem) (p1 : List Int) : Option Bool :=
  (fI_IsRootedProblem fuel p0) >>= fun x8 =>
  (
    if x8 then
      (fI_IsRootedTree p0.Children p1) >>= fun x18 =>
      some x18
    else
      some false) >>= fun q14 =>
  some q14

def pI_rootedOk (w : World) (r : Bool) : Ending → World → Prop := fun e w' => e = .returned (.bool r) ∧ Keeps w w'
set_option maxRecDepth 100000 in
set_option maxHeartbeats 2000000 in
theorem cI_rootedOk (fuel : Nat) (w : World) (u0 : List Value) (p0 : T_RootedProblem) (g0 : Rp.rd zt w u0 p0) (u1 : Value) (p1 : List Int) (g1 : RdL zt w u1 p1) (r : Bool) (hF : fI_rootedOk fuel p0 p1 = some r) :
    Calls Try.prog 74 #[.agg u0.toArray, u1] w (pI_rootedOk w r) := by
  unfold fI_rootedOk at hF
  obtain ⟨v1, rfl, h2⟩ := g0
  have hB : Bs (fun _ => 1) (col (fun _ => 1)) w w := Bs.start _ _
  refine calls_start (n := 13) (vs := [(.agg #[(.int .i64 p0.Labels), (.int .i64 p0.Children), v1]), u1]) Try.func74 rfl rfl ?_
  refine wpC_seq ?_
  refine wpC_region ?_
  refine st_op (by decide) trivial ?_
  refine wf_box (o := (col (fun _ => 1))) w.heap.size 11 hB.keeps.size (cs := [(.int .i64 p0.Labels), (.int .i64 p0.Children), v1]) rfl rfl ?_
  intro o3 w4 b5 h6 s7
  replace hB := hB.stp s7 (by decide)
  refine st_val (ex_assign rfl) (by decide) trivial ?_
  refine wpF_end (r := [(1, u1), (2, (.pointer (some ⟨b5, 0, none⟩)))]) ⟨rfl, rfl, trivial⟩ ?_
  refine nx ?_
  refine wpC_seq ?_
  refine wpC_region ?_
  refine st_val (ex_loadA rfl Try.isAgg29 Try.sizeOf29 rfl h6.cells) (by decide) trivial ?_
  obtain ⟨x8, hx8, hF⟩ := bind_some hF
  refine st_op (by decide) trivial ?_
  refine wf_call (cI_IsRootedProblem fuel w4 _ p0 (⟨_, rfl, (h2.keep hB.keeps)⟩) x8 hx8) Try.call56 ⟨rfl, trivial⟩ ?_
  rintro e13 w9 ⟨rfl, k10⟩
  have s12 := k10.stp 999 o3
  refine ⟨_, rfl, ?_⟩
  replace h6 := h6.stp s12 (by decide)
  replace hB := hB.stp s12 (by decide)
  refine st_val (ex_move rfl) (by decide) trivial ?_
  obtain ⟨q14, hq14, hF⟩ := bind_some hF
  refine wpF_cutAt 5 (fun a16 w15 => Fr a16 13 [(12, (.bool q14))] ∧ Keeps w9 w15) ?_ ?_
  all_goals simp only [List.take_succ_cons, List.take_zero, List.drop_succ_cons, List.drop_zero]
  · have kp : Keeps w9 w9 := Keeps.refl _
    rcases Bool.eq_false_or_eq_true (x8) with t17 | t17
    · rw [if_pos t17] at hq14
      refine st_val (ex_field rfl Try.underlying29 rfl Try.sizeOf3) (by decide) ⟨_, rfl, (congrArg (fun b => some (Value.bool b)) t17)⟩ ?_
      refine st_val (ex_load1 rfl Try.isAgg3 (h6.cell rfl)) (by decide) ⟨_, rfl, (congrArg (fun b => some (Value.bool b)) t17)⟩ ?_
      refine st_val (ex_move rfl) (by decide) ⟨_, rfl, (congrArg (fun b => some (Value.bool b)) t17)⟩ ?_
      obtain ⟨x18, hx18, hq14⟩ := bind_some hq14
      refine st_op (by decide) ⟨_, rfl, (congrArg (fun b => some (Value.bool b)) t17)⟩ ?_
      refine wf_call (cI_IsRootedTree w9 p0.Children _ p1 (g1.keep hB.keeps) x18 hx18) Try.call123 ⟨rfl, rfl, trivial⟩ ?_
      rintro e23 w19 ⟨rfl, k20⟩
      have s22 := k20.stp 999 o3
      refine ⟨_, rfl, ?_⟩
      replace h6 := h6.stp s22 (by decide)
      replace hB := hB.stp s22 (by decide)
      replace kp := Keeps.trans kp k20
      refine st_val (ex_pick_t (congrArg (fun b => some (Value.bool b)) t17) rfl) (by decide) trivial ?_
      have hq142 := Option.some.inj hq14
      refine wpF_end (r := [(12, (.bool x18))]) ⟨rfl, trivial⟩ ?_
      subst hq142
      refine np_norm (fun a ha => ⟨ha, kp⟩)
    · rw [if_neg (by rw [t17]; decide)] at hq14
      refine st_no rfl rfl (by rw [t17]; rfl) (by decide) ?_
      refine st_no rfl rfl (by rw [t17]; rfl) (by decide) ?_
      refine st_no rfl rfl (by rw [t17]; rfl) (by decide) ?_
      refine st_no rfl rfl (by rw [t17]; rfl) (by decide) ?_
      refine st_val (ex_pick_f (congrArg (fun b => some (Value.bool b)) t17) rfl) (by decide) trivial ?_
      have hq142 := Option.some.inj hq14
      refine wpF_end (r := [(12, (.bool false))]) ⟨rfl, trivial⟩ ?_
      subst hq142
      refine np_norm (fun a ha => ⟨ha, kp⟩)
  rintro a26 w15 ⟨ha, k24⟩
  have s25 := k24.stp 999 o3
  replace h6 := h6.stp s25 (by decide)
  replace hB := hB.stp s25 (by decide)
  refine wl_of ha ?_
  refine st_val (ex_assign rfl) (by decide) trivial ?_
  refine wpF_end (r := [(4, (.bool q14))]) ⟨rfl, trivial⟩ ?_
  refine nx ?_
  refine wpC_ret ?_
  have e27 := Option.some.inj hF
  subst e27
  refine ret_post (P := Try.prog) (vs := [(.bool q14)]) Try.results74 ⟨rfl, trivial⟩ ?_
  exact ⟨rfl, hB.keeps⟩

def fI_SolveDown_1 (p0 : List Int) (p1 : List Int) (p2 : Int) (p3 : Int) : Option Bool :=
  (
    (ix p0 0) >>= fun x7 =>
    (ix p1 p2) >>= fun x10 =>
    if x7 == x10 then
      (fI_onlyIn p3 p0) >>= fun x75 =>
      some x75
    else
      some false) >>= fun q3 =>
  some q3

def pI_SolveDown_1 (w : World) (r : Bool) : Ending → World → Prop := fun e w' => e = .returned (.bool r) ∧ Keeps w w'
set_option maxRecDepth 100000 in
set_option maxHeartbeats 2000000 in
theorem cI_SolveDown_1 (w : World) (u0 : Value) (p0 : List Int) (g0 : RdL zt w u0 p0) (b1 : Nat) (u1 : List Value) (p1 : List Int) (k1 : Cells w b1 0 u1) (g1 : Rp.rd zt w u1 p1) (b2 : Nat) (u2 : List Value) (p2 : Int) (k2 : Cells w b2 0 u2) (g2 : Rp.rd zt w u2 p2) (b3 : Nat) (u3 : List Value) (p3 : Int) (k3 : Cells w b3 0 u3) (g3 : Rp.rd zt w u3 p3) (r : Bool) (hF : fI_SolveDown_1 p0 p1 p2 p3 = some r) :
    Calls Try.prog 77 #[u0, .pointer (some ⟨b1, 0, none⟩), .pointer (some ⟨b2, 0, none⟩), .pointer (some ⟨b3, 0, none⟩)] w (pI_SolveDown_1 w r) := by
  unfold fI_SolveDown_1 at hF
  have g1k := g1
  obtain ⟨v1, rfl, h2⟩ := g1
  have g2k := g2
  cases g2
  have g3k := g3
  cases g3
  have hB : Bs (fun _ => 1) (col (fun _ => 1)) w w := Bs.start _ _
  refine calls_start (n := 19) (vs := [u0, (.pointer (some ⟨b1, 0, none⟩)), (.pointer (some ⟨b2, 0, none⟩)), (.pointer (some ⟨b3, 0, none⟩))]) Try.func77 rfl rfl ?_
  refine wpC_seq ?_
  refine wpC_region ?_
  refine st_val (ex_assign rfl) (by decide) trivial ?_
  refine wpF_end (r := [(0, u0), (1, (.pointer (some ⟨b1, 0, none⟩))), (2, (.pointer (some ⟨b2, 0, none⟩))), (3, (.pointer (some ⟨b3, 0, none⟩)))]) ⟨rfl, rfl, rfl, rfl, trivial⟩ ?_
  refine nx ?_
  refine wpC_seq ?_
  obtain ⟨q3, hq3, hF⟩ := bind_some hF
  refine wpC_cutN (fun a6 w5 => ∃ o4 : Tg, Fr a6 19 [(5, (.bool q3))] ∧ Bs (fun _ => 1) o4 w w5) (fun _ _ => False) ?_ ?_ (fun _ _ h => h.elim)
  · obtain ⟨x7, hx7, hq3⟩ := bind_some hq3
    obtain ⟨x10, hx10, hq3⟩ := bind_some hq3
    rcases Bool.eq_false_or_eq_true (x7 == x10) with t13 | t13
    · rw [if_pos t13] at hq3
      refine wpC_drawn (o := (col (fun _ => 1))) [(0, u0), (1, (.pointer (some ⟨b1, 0, none⟩))), (2, (.pointer (some ⟨b2, 0, none⟩))), (3, (.pointer (some ⟨b3, 0, none⟩)))] [0, 1, 2, 3] [6, 7, 8, 9, 10, 11, 12, 13, 14, 15, 16] [[], [0], [1], [], [], [3, 4], [5], [2, 6], [7], [8], [8]] [none, none, none, none, none, none, none, none, none, none, none] [999, 999, 999, 999, 999, 999, 999, 999, 999, 999, 999] [0, 0, 0, 0, 0, 0, 0, 0, 0, 0, 0] [999] [fun v _ _ => v = u0, fun v o w9 => ∃ vl, v = adr vl ((0 : Int).toNat * Rp.sz Int) ∧ RdL zt w vl p0, fun v _ _ => v = (.int .i64 x7), fun v o w9 => RdL zt w v p1, fun v _ _ => v = (.int .i64 p2), fun v o w9 => ∃ vl, v = adr vl (p2.toNat * Rp.sz Int) ∧ RdL zt w vl p1, fun v _ _ => v = (.int .i64 x10), fun v _ _ => v = (.bool (x7 == x10)), fun v _ _ => v = (.bool (x7 == x10)), fun v _ _ => v = (.int .i64 p3), fun v _ _ => v = u0] (fun o8 w8 => Bs (fun _ => 1) o8 w w8) follows_mixed (by kernel_rfl) rfl ⟨rfl, rfl, rfl, rfl, trivial⟩ hB ?_ ⟨st_eq _, fun _ _ _ _ _ _ h0 hb ⟨vl, e, h⟩ hs => ⟨vl, e, h⟩, st_eq _, fun _ _ _ _ _ _ h0 hb h hs => h, st_eq _, fun _ _ _ _ _ _ h0 hb ⟨vl, e, h⟩ hs => ⟨vl, e, h⟩, st_eq _, st_eq _, st_eq _, st_eq _, st_eq _, trivial⟩ ?_ ?_
      · rintro t9 o1 w1 o2 w2 ht9 hB hs9
        have ht9 : t9 = 999 := by simpa using ht9
        subst ht9
        all_goals exact hB.stp hs9 (by decide)
      · refine ⟨?_, ?_, ?_, ?_, ?_, ?_, ?_, ?_, ?_, ?_, ?_, trivial⟩
        · rintro o14 w15 a16 ha hB -
          refine opS_of ha (trivial) ?_
          refine op1_val (ex_move rfl) ?_
          exact ⟨_, Stp.refl _ _ _, rfl⟩
        · rintro o17 w18 a19 ha hB ⟨r20, -⟩
          have ha := Fr.cons (d := 6) ha r20
          refine opS_of ha (trivial) ?_
          refine wd_indexR g0 hx7 rfl rfl Try.underlying26 Try.sizeOf3 ?_
          exact ⟨_, Stp.refl _ _ _, ⟨_, rfl, g0⟩⟩
        · rintro o21 w22 a23 ha hB ⟨r24, -⟩
          obtain ⟨v25, e26, h27⟩ := r24
          have ha := Fr.cons (d := 7) ha e26
          refine opS_of ha (trivial) ?_
          refine wd_load1Z h27 hx7 hB rfl rfl Try.isAgg3 ?_
          intro c28 h29
          cases h29
          exact ⟨_, Stp.refl _ _ _, rfl⟩
        · rintro o30 w31 a32 ha hB -
          refine opS_of ha (trivial) ?_
          refine op1_val (ex_load1 rfl Try.isAgg26 (cell_of_cells (k1.keep hB.keeps))) ?_
          exact ⟨_, Stp.refl _ _ _, h2⟩
        · rintro o33 w34 a35 ha hB -
          refine opS_of ha (trivial) ?_
          refine op1_val (ex_load1 rfl Try.isAgg3 (cell_of_cells (k2.keep hB.keeps))) ?_
          exact ⟨_, Stp.refl _ _ _, rfl⟩
        · rintro o36 w37 a38 ha hB ⟨r39, r40, -⟩
          replace r39 : RdL zt w (a38.tmps.getD 9 undef) p1 := r39
          generalize e42 : a38.tmps.getD 9 undef = v41 at r39
          have ha := Fr.cons (d := 9) ha e42
          have ha := Fr.cons (d := 10) ha r40
          refine opS_of ha (trivial) ?_
          refine wd_indexR r39 hx10 rfl rfl Try.underlying26 Try.sizeOf3 ?_
          exact ⟨_, Stp.refl _ _ _, ⟨_, rfl, r39⟩⟩
        · rintro o43 w44 a45 ha hB ⟨r46, -⟩
          obtain ⟨v47, e48, h49⟩ := r46
          have ha := Fr.cons (d := 11) ha e48
          refine opS_of ha (trivial) ?_
          refine wd_load1Z h49 hx10 hB rfl rfl Try.isAgg3 ?_
          intro c50 h51
          cases h51
          exact ⟨_, Stp.refl _ _ _, rfl⟩
        · rintro o52 w53 a54 ha hB ⟨r55, r56, -⟩
          have ha := Fr.cons (d := 8) ha r55
          have ha := Fr.cons (d := 12) ha r56
          refine opS_of ha (trivial) ?_
          refine op1_val (ex_eql rfl rfl) ?_
          exact ⟨_, Stp.refl _ _ _, rfl⟩
        · rintro o57 w58 a59 ha hB ⟨r60, -⟩
          have ha := Fr.cons (d := 13) ha r60
          refine opS_of ha (trivial) ?_
          refine op1_val (ex_move rfl) ?_
          exact ⟨_, Stp.refl _ _ _, rfl⟩
        · rintro o61 w62 a63 ha hB ⟨r64, -⟩
          have ha := Fr.cons (d := 14) ha r64
          refine opS_of ha (⟨_, rfl, (congrArg (fun b => some (Value.bool b)) t13)⟩) ?_
          refine op1_val (ex_load1 rfl Try.isAgg3 (cell_of_cells (k3.keep hB.keeps))) ?_
          exact ⟨_, Stp.refl _ _ _, rfl⟩
        · rintro o65 w66 a67 ha hB ⟨r68, -⟩
          have ha := Fr.cons (d := 14) ha r68
          refine opS_of ha (⟨_, rfl, (congrArg (fun b => some (Value.bool b)) t13)⟩) ?_
          refine op1_val (ex_move rfl) ?_
          exact ⟨_, Stp.refl _ _ _, rfl⟩
      rintro o69 w70 a71 ha hB ⟨-, -, -, -, -, -, -, -, r72, r73, r74, -⟩
      have ha := Fr.cons (d := 14) ha r72
      have ha := Fr.cons (d := 15) ha r73
      have ha := Fr.cons (d := 16) ha r74
      refine wl_of ha ?_
      simp only [List.length_cons, List.length_nil, Nat.zero_add, Nat.reduceAdd, List.drop_succ_cons, List.drop_zero]
      obtain ⟨x75, hx75, hq3⟩ := bind_some hq3
      refine st_op (by decide) ⟨_, rfl, (congrArg (fun b => some (Value.bool b)) t13)⟩ ?_
      refine wf_call (cI_onlyIn w70 p3 _ p0 (g0.keep hB.keeps) x75 hx75) Try.call78 ⟨rfl, rfl, trivial⟩ ?_
      rintro e80 w76 ⟨rfl, k77⟩
      have s79 := k77.stp 999 o69
      refine ⟨_, rfl, ?_⟩
      replace hB := hB.stp s79 (by decide)
      refine st_val (ex_pick_t (congrArg (fun b => some (Value.bool b)) t13) rfl) (by decide) trivial ?_
      refine st_val (ex_assign rfl) (by decide) trivial ?_
      have e81 := Option.some.inj hq3
      subst e81
      refine wpF_end (r := [(5, (.bool x75))]) ⟨rfl, trivial⟩ ?_
      refine np_norm (fun a ha => ⟨o69, ha, hB⟩)
    · rw [if_neg (by rw [t13]; decide)] at hq3
      refine wpC_drawn (o := (col (fun _ => 1))) [(0, u0), (1, (.pointer (some ⟨b1, 0, none⟩))), (2, (.pointer (some ⟨b2, 0, none⟩))), (3, (.pointer (some ⟨b3, 0, none⟩)))] [0, 1, 2, 3] [6, 7, 8, 9, 10, 11, 12, 13, 14, 15, 16] [[], [0], [1], [], [], [3, 4], [5], [2, 6], [7], [8], [8]] [none, none, none, none, none, none, none, none, none, none, none] [999, 999, 999, 999, 999, 999, 999, 999, 999, 999, 999] [0, 0, 0, 0, 0, 0, 0, 0, 0, 0, 0] [999] [fun v _ _ => v = u0, fun v o w9 => ∃ vl, v = adr vl ((0 : Int).toNat * Rp.sz Int) ∧ RdL zt w vl p0, fun v _ _ => v = (.int .i64 x7), fun v o w9 => RdL zt w v p1, fun v _ _ => v = (.int .i64 p2), fun v o w9 => ∃ vl, v = adr vl (p2.toNat * Rp.sz Int) ∧ RdL zt w vl p1, fun v _ _ => v = (.int .i64 x10), fun v _ _ => v = (.bool (x7 == x10)), fun v _ _ => v = (.bool (x7 == x10)), fun v _ _ => v = undef, fun v _ _ => v = undef] (fun o8 w8 => Bs (fun _ => 1) o8 w w8) follows_mixed (by kernel_rfl) rfl ⟨rfl, rfl, rfl, rfl, trivial⟩ hB ?_ ⟨st_eq _, fun _ _ _ _ _ _ h0 hb ⟨vl, e, h⟩ hs => ⟨vl, e, h⟩, st_eq _, fun _ _ _ _ _ _ h0 hb h hs => h, st_eq _, fun _ _ _ _ _ _ h0 hb ⟨vl, e, h⟩ hs => ⟨vl, e, h⟩, st_eq _, st_eq _, st_eq _, st_eq _, st_eq _, trivial⟩ ?_ ?_
      · rintro t9 o1 w1 o2 w2 ht9 hB hs9
        have ht9 : t9 = 999 := by simpa using ht9
        subst ht9
        all_goals exact hB.stp hs9 (by decide)
      · refine ⟨?_, ?_, ?_, ?_, ?_, ?_, ?_, ?_, ?_, ?_, ?_, trivial⟩
        · rintro o82 w83 a84 ha hB -
          refine opS_of ha (trivial) ?_
          refine op1_val (ex_move rfl) ?_
          exact ⟨_, Stp.refl _ _ _, rfl⟩
        · rintro o85 w86 a87 ha hB ⟨r88, -⟩
          have ha := Fr.cons (d := 6) ha r88
          refine opS_of ha (trivial) ?_
          refine wd_indexR g0 hx7 rfl rfl Try.underlying26 Try.sizeOf3 ?_
          exact ⟨_, Stp.refl _ _ _, ⟨_, rfl, g0⟩⟩
        · rintro o89 w90 a91 ha hB ⟨r92, -⟩
          obtain ⟨v93, e94, h95⟩ := r92
          have ha := Fr.cons (d := 7) ha e94
          refine opS_of ha (trivial) ?_
          refine wd_load1Z h95 hx7 hB rfl rfl Try.isAgg3 ?_
          intro c96 h97
          cases h97
          exact ⟨_, Stp.refl _ _ _, rfl⟩
        · rintro o98 w99 a100 ha hB -
          refine opS_of ha (trivial) ?_
          refine op1_val (ex_load1 rfl Try.isAgg26 (cell_of_cells (k1.keep hB.keeps))) ?_
          exact ⟨_, Stp.refl _ _ _, h2⟩
        · rintro o101 w102 a103 ha hB -
          refine opS_of ha (trivial) ?_
          refine op1_val (ex_load1 rfl Try.isAgg3 (cell_of_cells (k2.keep hB.keeps))) ?_
          exact ⟨_, Stp.refl _ _ _, rfl⟩
        · rintro o104 w105 a106 ha hB ⟨r107, r108, -⟩
          replace r107 : RdL zt w (a106.tmps.getD 9 undef) p1 := r107
          generalize e110 : a106.tmps.getD 9 undef = v109 at r107
          have ha := Fr.cons (d := 9) ha e110
          have ha := Fr.cons (d := 10) ha r108
          refine opS_of ha (trivial) ?_
          refine wd_indexR r107 hx10 rfl rfl Try.underlying26 Try.sizeOf3 ?_
          exact ⟨_, Stp.refl _ _ _, ⟨_, rfl, r107⟩⟩
        · rintro o111 w112 a113 ha hB ⟨r114, -⟩
          obtain ⟨v115, e116, h117⟩ := r114
          have ha := Fr.cons (d := 11) ha e116
          refine opS_of ha (trivial) ?_
          refine wd_load1Z h117 hx10 hB rfl rfl Try.isAgg3 ?_
          intro c118 h119
          cases h119
          exact ⟨_, Stp.refl _ _ _, rfl⟩
        · rintro o120 w121 a122 ha hB ⟨r123, r124, -⟩
          have ha := Fr.cons (d := 8) ha r123
          have ha := Fr.cons (d := 12) ha r124
          refine opS_of ha (trivial) ?_
          refine op1_val (ex_eql rfl rfl) ?_
          exact ⟨_, Stp.refl _ _ _, rfl⟩
        · rintro o125 w126 a127 ha hB ⟨r128, -⟩
          have ha := Fr.cons (d := 13) ha r128
          refine opS_of ha (trivial) ?_
          refine op1_val (ex_move rfl) ?_
          exact ⟨_, Stp.refl _ _ _, rfl⟩
        · rintro o129 w130 a131 ha hB ⟨r132, -⟩
          have ha := Fr.cons (d := 14) ha r132
          exact opS_no ha rfl rfl rfl (by rw [t13]; rfl) ⟨_, Stp.refl _ _ _, rfl⟩
        · rintro o133 w134 a135 ha hB ⟨r136, -⟩
          have ha := Fr.cons (d := 14) ha r136
          exact opS_no ha rfl rfl rfl (by rw [t13]; rfl) ⟨_, Stp.refl _ _ _, rfl⟩
      rintro o137 w138 a139 ha hB ⟨-, -, -, -, -, -, -, -, r140, r141, r142, -⟩
      have ha := Fr.cons (d := 14) ha r140
      have ha := Fr.cons (d := 15) ha r141
      have ha := Fr.cons (d := 16) ha r142
      refine wl_of ha ?_
      simp only [List.length_cons, List.length_nil, Nat.zero_add, Nat.reduceAdd, List.drop_succ_cons, List.drop_zero]
      refine st_no rfl rfl (by rw [t13]; rfl) (by decide) ?_
      refine st_val (ex_pick_f (congrArg (fun b => some (Value.bool b)) t13) rfl) (by decide) trivial ?_
      refine st_val (ex_assign rfl) (by decide) trivial ?_
      have e143 := Option.some.inj hq3
      subst e143
      refine wpF_end (r := [(5, (.bool false))]) ⟨rfl, trivial⟩ ?_
      refine np_norm (fun a ha => ⟨o137, ha, hB⟩)
  rintro a144 w5 ⟨o4, ha, hB⟩
  refine ap_k ha ?_
  refine nx ?_
  refine wpC_ret ?_
  have e145 := Option.some.inj hF
  subst e145
  refine ret_post (P := Try.prog) (vs := [(.bool q3)]) Try.results77 ⟨rfl, trivial⟩ ?_
  exact ⟨rfl, hB.keeps⟩

def fI_SolveDown_s2 (p0 : T_RootedProblem) (x167 : Int) : Int → Int → (List Int) → Option (Lp (List Int) (List Int) ((List Int) × Bool)) := fun (i178 : Int) (x188 : Int) (s : List Int) =>
  (ix p0.Lines x167) >>= fun x194 =>
  (ck (i178 + 1)) >>= fun x200 =>
  (ix x194 x200) >>= fun x201 =>
  (ix s x188) >>= fun x266 =>
  (st s x188 x201) >>= fun x275 =>
  some (.go x275)
def fI_SolveDown_s1 (p0 : T_RootedProblem) (x29 : Int) : Int → (List Int) → (List Int) → Option (Lp (List Int) (List Int) ((List Int) × Bool)) := fun (i134 : Int) (x144 : List Int) (s : List Int) =>
  if (x144.length : Int) == 0 then
    some (.go s)
  else
    (fX_slices_IndexFunc_LLint_int p0.Lines (fun z164 => fI_SolveDown_1 z164 s i134 x29)) >>= fun x167 =>
    (forI (fI_SolveDown_s2 p0 x167) x144 0 s) >>= fun q179 =>
    match q179 with
    | .inl y173 =>
      some (.go y173)
    | .inr _ => none
def fI_SolveDown (fuel : Nat) (p0 : T_RootedProblem) (p1 : List Int) : Option ((List Int) × Bool) :=
  (fI_rootedOk fuel p0 p1) >>= fun x8 =>
  (
    if !x8 then
      some true
    else
      (fI_RootedProblem_rootsOfDepth fuel p0 (-1)) >>= fun x18 =>
      some (x18 == 0)) >>= fun q14 =>
  if q14 then
    some ([], false)
  else
    (fI_RootedProblem_rootsOfDepth fuel p0 (-1)) >>= fun x29 =>
    (mk (Rz.z : Int) (p1.length : Int)) >>= fun x43 =>
    (fI_labelsIn fuel x29) >>= fun x57 =>
    (ix x57 0) >>= fun x66 =>
    (ix x43 0) >>= fun x107 =>
    (st x43 0 x66) >>= fun x116 =>
    (fI_childrenOf p1) >>= fun x118 =>
    (forI (fI_SolveDown_s1 p0 x29) x118 0 x116) >>= fun q135 =>
    match q135 with
    | .inl y129 =>
      some (y129, true)
    | .inr _ => none

def pI_SolveDown (oo : Tg) (t : Nat) (w : World) (r : (List Int) × Bool) : Ending → World → Prop := fun e w' => ∃ (v0 : Value) (o' : Tg), e = .returned (.tuple #[v0, .bool r.2]) ∧ Ow w.heap.size 3 t o' w' v0 r.1 ∧ Keeps w w' ∧ ∀ b, b < w.heap.size → o' b = oo b
set_option maxRecDepth 100000 in
set_option maxHeartbeats 2000000 in
theorem cI_SolveDown (fuel : Nat) (w : World) (oo : Tg) (t : Nat) (ht : 2 ≤ t) (u0 : List Value) (p0 : T_RootedProblem) (g0 : Rp.rd zt w u0 p0) (u1 : Value) (p1 : List Int) (g1 : RdL zt w u1 p1) (r : (List Int) × Bool) (hF : fI_SolveDown fuel p0 p1 = some r) :
    Calls Try.prog 34 #[.agg u0.toArray, u1] w (pI_SolveDown oo t w r) := by
  unfold fI_SolveDown at hF
  obtain ⟨v1, rfl, h2⟩ := g0
  have hB : Bs oo (col oo) w w := Bs.start _ _
  refine calls_start (n := 70) (vs := [(.agg #[(.int .i64 p0.Labels), (.int .i64 p0.Children), v1]), u1]) Try.func34 rfl rfl ?_
  generalize col oo = o at *
  refine wpC_seq ?_
  refine wpC_region ?_
  refine st_op (by decide) trivial ?_
  refine wf_box (o := o) w.heap.size 11 hB.keeps.size (cs := [(.int .i64 p0.Labels), (.int .i64 p0.Children), v1]) rfl rfl ?_
  intro o3 w4 b5 h6 s7
  replace hB := hB.stp s7 (by decide)
  refine st_val (ex_assign rfl) (by decide) trivial ?_
  refine st_val (ex_assign rfl) (by decide) trivial ?_
  refine wpF_end (r := [(1, u1), (2, (.pointer (some ⟨b5, 0, none⟩)))]) ⟨rfl, rfl, trivial⟩ ?_
  refine nx ?_
  refine wpC_seq ?_
  refine wpC_seq ?_
  refine wpC_region ?_
  refine st_val (ex_loadA rfl Try.isAgg29 Try.sizeOf29 rfl h6.cells) (by decide) trivial ?_
  refine st_val (ex_move rfl) (by decide) trivial ?_
  obtain ⟨x8, hx8, hF⟩ := bind_some hF
  refine st_op (by decide) trivial ?_
  refine wf_call (cI_rootedOk fuel w4 _ p0 (⟨_, rfl, (h2.keep hB.keeps)⟩) _ p1 (g1.keep hB.keeps) x8 hx8) Try.call74 ⟨rfl, rfl, trivial⟩ ?_
  rintro e13 w9 ⟨rfl, k10⟩
  have s12 := k10.stp 999 o3
  refine ⟨_, rfl, ?_⟩
  replace h6 := h6.stp s12 (by decide)
  replace hB := hB.stp s12 (by decide)
  refine st_val (ex_not rfl) (by decide) trivial ?_
  refine st_val (ex_move rfl) (by decide) trivial ?_
  obtain ⟨q14, hq14, hF⟩ := bind_some hF
  refine wpF_cutAt 4 (fun a16 w15 => Fr a16 70 [(1, u1), (2, (.pointer (some ⟨b5, 0, none⟩))), (21, (.bool q14))] ∧ Keeps w9 w15) ?_ ?_
  all_goals simp only [List.take_succ_cons, List.take_zero, List.drop_succ_cons, List.drop_zero]
  · have kp : Keeps w9 w9 := Keeps.refl _
    rcases Bool.eq_false_or_eq_true (!x8) with t17 | t17
    · rw [if_pos t17] at hq14
      refine st_no rfl rfl (by rw [t17]; rfl) (by decide) ?_
      refine st_no rfl rfl (by rw [t17]; rfl) (by decide) ?_
      refine st_no rfl rfl (by rw [t17]; rfl) (by decide) ?_
      refine st_val (ex_pick_t (congrArg (fun b => some (Value.bool b)) t17) rfl) (by decide) trivial ?_
      have hq142 := Option.some.inj hq14
      refine wpF_end (r := [(1, u1), (2, (.pointer (some ⟨b5, 0, none⟩))), (21, (.bool true))]) ⟨rfl, rfl, rfl, trivial⟩ ?_
      subst hq142
      refine np_norm (fun a ha => ⟨ha, kp⟩)
    · rw [if_neg (by rw [t17]; decide)] at hq14
      refine st_val (ex_loadA rfl Try.isAgg29 Try.sizeOf29 rfl h6.cells) (by decide) ⟨_, rfl, (congrArg (fun b => some (Value.bool b)) t17)⟩ ?_
      obtain ⟨x18, hx18, hq14⟩ := bind_some hq14
      refine st_op (by decide) ⟨_, rfl, (congrArg (fun b => some (Value.bool b)) t17)⟩ ?_
      refine wf_call (cI_RootedProblem_rootsOfDepth fuel w9 _ p0 (⟨_, rfl, (h2.keep hB.keeps)⟩) (-1) x18 hx18) Try.call59 ⟨rfl, rfl, trivial⟩ ?_
      rintro e23 w19 ⟨rfl, k20⟩
      have s22 := k20.stp 999 o3
      refine ⟨_, rfl, ?_⟩
      replace h6 := h6.stp s22 (by decide)
      replace hB := hB.stp s22 (by decide)
      replace kp := Keeps.trans kp k20
      refine st_val (ex_eql rfl rfl) (by decide) ⟨_, rfl, (congrArg (fun b => some (Value.bool b)) t17)⟩ ?_
      refine st_val (ex_pick_f (congrArg (fun b => some (Value.bool b)) t17) rfl) (by decide) trivial ?_
      have hq142 := Option.some.inj hq14
      refine wpF_end (r := [(1, u1), (2, (.pointer (some ⟨b5, 0, none⟩))), (21, (.bool (x18 == 0)))]) ⟨rfl, rfl, rfl, trivial⟩ ?_
      subst hq142
      refine np_norm (fun a ha => ⟨ha, kp⟩)
  rintro a26 w15 ⟨ha, k24⟩
  have s25 := k24.stp 999 o3
  replace h6 := h6.stp s25 (by decide)
  replace hB := hB.stp s25 (by decide)
  refine wl_of ha ?_
  refine wpF_end (r := [(1, u1), (2, (.pointer (some ⟨b5, 0, none⟩))), (21, (.bool q14))]) ⟨rfl, rfl, rfl, trivial⟩ ?_
  refine nx ?_
  refine wpC_cond rfl (fun t27 => ?_) (fun t27 => ?_)
  · rw [if_pos t27] at hF
    refine wpC_seq ?_
    refine wpC_region ?_
    refine st_val (ex_assign rfl) (by decide) trivial ?_
    refine st_val (ex_assign rfl) (by decide) trivial ?_
    refine wpF_end (r := [(4, (.slice none 0 0)), (5, (.bool false))]) ⟨rfl, rfl, trivial⟩ ?_
    refine nx ?_
    refine wpC_ret ?_
    refine nt_ret ?_
    have e28 := Option.some.inj hF
    subst e28
    refine ret_post (P := Try.prog) (vs := [(.slice none 0 0), (.bool false)]) Try.results34 ⟨rfl, rfl, trivial⟩ ?_
    exact ⟨_, rt oo o3 w.heap.size 9 t, rfl, (Ow.nil _ _ _ _ _), hB.keeps, rt_old _ _ _ _ _⟩
  · rw [if_neg (by rw [t27]; decide)] at hF
    refine wpC_skip ?_
    refine nx ?_
    refine wpC_seq ?_
    refine wpC_region ?_
    refine st_val (ex_loadA rfl Try.isAgg29 Try.sizeOf29 rfl h6.cells) (by decide) trivial ?_
    obtain ⟨x29, hx29, hF⟩ := bind_some hF
    refine st_op (by decide) trivial ?_
    refine wf_call (cI_RootedProblem_rootsOfDepth fuel w15 _ p0 (⟨_, rfl, (h2.keep hB.keeps)⟩) (-1) x29 hx29) Try.call59 ⟨rfl, rfl, trivial⟩ ?_
    rintro e34 w30 ⟨rfl, k31⟩
    have s33 := k31.stp 999 o3
    refine ⟨_, rfl, ?_⟩
    replace h6 := h6.stp s33 (by decide)
    replace hB := hB.stp s33 (by decide)
    refine st_op (by decide) trivial ?_
    refine wf_alloc (o := o3) w.heap.size 15 hB.keeps.size (cs := [(.int .i64 0)]) Try.zeroValue3 rfl ?_
    intro o35 w36 b37 h38 s39
    replace h6 := h6.stp s39 (by decide)
    replace hB := hB.stp s39 (by decide)
    refine st_op0 trivial ?_
    refine wf_storeB h38 rfl rfl (of_decide_eq_true rfl) Try.sizeOf3 rfl rfl ?_
    intro w40 h42 s41
    replace h6 := h6.stp s41 (by decide)
    replace hB := hB.stp s41 (by decide)
    replace h42 : Bx w.heap.size 15 o35 w40 b37 3 [(.int .i64 x29)] := h42
    refine wpF_end (r := [(1, u1), (2, (.pointer (some ⟨b5, 0, none⟩))), (6, (.pointer (some ⟨b37, 0, none⟩)))]) ⟨rfl, rfl, rfl, trivial⟩ ?_
    refine nx ?_
    refine wpC_seq ?_
    refine wpC_region ?_
    refine st_val (ex_move rfl) (by decide) trivial ?_
    refine st_val (ex_lenR rfl g1 Try.underlying26) (by decide) trivial ?_
    obtain ⟨x43, hx43, hF⟩ := bind_some hF
    refine st_op (by decide) trivial ?_
    refine wf_make (o := o35) w.heap.size 16 hB.keeps.size hx43 rfl rfl Try.underlying26 info2_t_int_M rfl (by decide) ?_
    intro o44 w45 v46 h47 s48
    replace h6 := h6.stp s48 (by decide)
    replace h42 := h42.stp s48 (by decide)
    replace hB := hB.stp s48 (by decide)
    refine st_op (by decide) trivial ?_
    refine wf_alloc (o := o44) w.heap.size 17 hB.keeps.size (cs := [(.slice none 0 0)]) Try.zeroValue26 rfl ?_
    intro o49 w50 b51 h52 s53
    replace h47 := h47.stp s53 (by decide) (by decide)
    replace h6 := h6.stp s53 (by decide)
    replace h42 := h42.stp s53 (by decide)
    replace hB := hB.stp s53 (by decide)
    refine st_op0 trivial ?_
    refine wf_storeB h52 rfl rfl (of_decide_eq_true rfl) Try.sizeOf26 h47.cells1 h47.one1 ?_
    intro w54 h56 s55
    replace h47 := h47.stp s55 (by decide) (by decide)
    replace h6 := h6.stp s55 (by decide)
    replace h42 := h42.stp s55 (by decide)
    replace hB := hB.stp s55 (by decide)
    replace h56 : Bx w.heap.size 17 o49 w54 b51 26 [v46] := h56
    refine wpF_end (r := [(1, u1), (2, (.pointer (some ⟨b5, 0, none⟩))), (6, (.pointer (some ⟨b37, 0, none⟩))), (7, (.pointer (some ⟨b51, 0, none⟩)))]) ⟨rfl, rfl, rfl, rfl, trivial⟩ ?_
    refine nx ?_
    refine wpC_seq ?_
    obtain ⟨x57, hx57, hF⟩ := bind_some hF
    obtain ⟨x66, hx66, hF⟩ := bind_some hF
    refine wpC_drawn (o := o49) [(1, u1), (2, (.pointer (some ⟨b5, 0, none⟩))), (6, (.pointer (some ⟨b37, 0, none⟩))), (7, (.pointer (some ⟨b51, 0, none⟩)))] [1, 2, 6, 7] [27, 28, 29, 30, 31] [[], [], [1], [2], [3]] [none, none, none, none, none] [999, 999, 999, 999, 999] [0, 0, 18, 18, 0] [999] [fun v _ _ => v = v46, fun v _ _ => v = (.int .i64 x29), fun v o w9 => Ow w.heap.size 3 18 o w9 v x57, fun v o w9 => ∃ vl, v = adr vl ((0 : Int).toNat * Rp.sz Int) ∧ Ow w.heap.size 3 18 o w9 vl x57, fun v _ _ => v = (.int .i64 x66)] (fun o8 w8 => Bs oo o8 w w8 ∧ Bx w.heap.size 11 o8 w8 b5 29 [(.int .i64 p0.Labels), (.int .i64 p0.Children), v1] ∧ Bx w.heap.size 15 o8 w8 b37 3 [(.int .i64 x29)] ∧ Bx w.heap.size 17 o8 w8 b51 26 [v46] ∧ Ow w.heap.size 3 16 o8 w8 v46 x43) follows_mixed (by kernel_rfl) rfl ⟨rfl, rfl, rfl, rfl, trivial⟩ ⟨hB, h6, h42, h56, h47⟩ ?_ ⟨st_eq _, st_eq _, fun _ _ _ _ _ _ h0 hb h hs => h.stp hs h0.1 (Ne.symm hb), fun _ _ _ _ _ _ h0 hb ⟨vl, e, h⟩ hs => ⟨vl, e, h.stp hs h0.1 (Ne.symm hb)⟩, st_eq _, trivial⟩ ?_ ?_
    · rintro t9 o1 w1 o2 w2 ht9 ⟨hB, h6, h42, h56, h47⟩ hs9
      have ht9 : t9 = 999 := by simpa using ht9
      subst ht9
      all_goals exact ⟨hB.stp hs9 (by decide), h6.stp hs9 (by decide), h42.stp hs9 (by decide), h56.stp hs9 (by decide), h47.stp hs9 (by decide) (by decide)⟩
    · refine ⟨?_, ?_, ?_, ?_, ?_, trivial⟩
      · rintro o69 w70 a71 ha ⟨hB, h6, h42, h56, h47⟩ -
        refine opS_of ha (trivial) ?_
        refine op1_val (ex_load1 rfl Try.isAgg26 (h56.cell rfl)) ?_
        exact ⟨_, Stp.refl _ _ _, rfl⟩
      · rintro o72 w73 a74 ha ⟨hB, h6, h42, h56, h47⟩ -
        refine opS_of ha (trivial) ?_
        refine op1_val (ex_load1 rfl Try.isAgg3 (h42.cell rfl)) ?_
        exact ⟨_, Stp.refl _ _ _, rfl⟩
      · rintro o75 w76 a77 ha ⟨hB, h6, h42, h56, h47⟩ ⟨r78, -⟩
        have ha := Fr.cons (d := 28) ha r78
        refine opS_of ha (trivial) ?_
        refine wf_call (cI_labelsIn fuel w76 o75 18 (by decide) x29 x57 hx57) Try.call58 ⟨rfl, trivial⟩ ?_
        rintro e85 w79 ⟨v80, o86, rfl, h81, k82, k83⟩
        have s84 := k82.stp' 999 k83
        replace h81 := h81.mono hB.keeps.size
        refine ⟨_, rfl, ?_⟩
        replace h6 := h6.stp s84 (by decide)
        replace h42 := h42.stp s84 (by decide)
        replace h56 := h56.stp s84 (by decide)
        replace h47 := h47.stp s84 (by decide) (by decide)
        replace hB := hB.stp s84 (by decide)
        exact ⟨_, s84, h81⟩
      · rintro o87 w88 a89 ha ⟨hB, h6, h42, h56, h47⟩ ⟨r90, -⟩
        replace r90 : Ow w.heap.size 3 18 o87 w88 (a89.tmps.getD 29 undef) x57 := r90
        generalize e92 : a89.tmps.getD 29 undef = v91 at r90
        have ha := Fr.cons (d := 29) ha e92
        refine opS_of ha (trivial) ?_
        refine wd_indexW r90 hx66 rfl rfl Try.underlying26 Try.sizeOf3 ?_
        exact ⟨_, Stp.refl _ _ _, ⟨_, rfl, r90⟩⟩
      · rintro o93 w94 a95 ha ⟨hB, h6, h42, h56, h47⟩ ⟨r96, -⟩
        obtain ⟨v97, e98, h99⟩ := r96
        have ha := Fr.cons (d := 30) ha e98
        refine opS_of ha (trivial) ?_
        refine wd_load1W h99 hx66 rfl rfl Try.isAgg3 ?_
        intro c100 h101
        cases h101
        exact ⟨_, Stp.refl _ _ _, rfl⟩
    rintro o102 w103 a104 ha ⟨hB, h6, h42, h56, h47⟩ ⟨r105, -, -, -, r106, -⟩
    have ha := Fr.cons (d := 27) ha r105
    have ha := Fr.cons (d := 31) ha r106
    refine wl_of ha ?_
    simp only [List.length_cons, List.length_nil, Nat.zero_add, Nat.reduceAdd, List.drop_succ_cons, List.drop_zero]
    obtain ⟨x107, hx107, hF⟩ := bind_some hF
    refine st_op (by decide) trivial ?_
    refine wf_atP h47 hx107 rfl rfl Try.underlying26 Try.sizeOf3 ?_
    intro b108 c110 h113 h111 h112
    cases h112
    obtain ⟨x116, hx116, hF⟩ := bind_some hF
    refine st_op0 trivial ?_
    refine wf_storeW h47 h113 hx116 rfl (by decide) rfl rfl rfl Try.sizeOf3 rfl ?_
    intro w114 h117 s115
    replace h6 := h6.stp s115 (by decide)
    replace h42 := h42.stp s115 (by decide)
    replace h56 := h56.stp s115 (by decide)
    replace hB := hB.stp s115 (by decide)
    refine wpF_end (r := [(1, u1), (2, (.pointer (some ⟨b5, 0, none⟩))), (6, (.pointer (some ⟨b37, 0, none⟩))), (7, (.pointer (some ⟨b51, 0, none⟩)))]) ⟨rfl, rfl, rfl, rfl, trivial⟩ ?_
    refine nx ?_
    refine wpC_seq ?_
    refine wpC_seq ?_
    refine wpC_region ?_
    refine st_val (ex_move rfl) (by decide) trivial ?_
    obtain ⟨x118, hx118, hF⟩ := bind_some hF
    refine st_op (by decide) trivial ?_
    refine wf_call (cI_childrenOf w114 o102 19 (by decide) _ p1 (g1.keep hB.keeps) x118 hx118) Try.call75 ⟨rfl, trivial⟩ ?_
    rintro e127 w119 ⟨v120, g122, o128, rfl, h121, h123, k124, k125⟩
    have s126 := k124.stp' 19 k125
    replace h121 := h121.mono hB.keeps.size
    replace h123 := h123.mono hB.keeps.size
    refine ⟨_, rfl, ?_⟩
    replace h6 := h6.stp s126 (by decide)
    replace h42 := h42.stp s126 (by decide)
    replace h56 := h56.stp s126 (by decide)
    replace h117 := h117.stp s126 (by decide) (by decide)
    replace hB := hB.stp s126 (by decide)
    refine st_val (ex_lenR rfl (h123.z h121) Try.underlying22) (by decide) trivial ?_
    refine st_val (ex_move rfl) (by decide) trivial ?_
    refine wpF_end (r := [(2, (.pointer (some ⟨b5, 0, none⟩))), (6, (.pointer (some ⟨b37, 0, none⟩))), (7, (.pointer (some ⟨b51, 0, none⟩))), (34, v120), (35, (.int .i64 (x118.length : Int))), (36, (.int .i64 0))]) ⟨rfl, rfl, rfl, rfl, rfl, rfl, trivial⟩ ?_
    refine nx ?_
    obtain ⟨q135, hq135, hF⟩ := bind_some hF
    refine wpC_cutN (fun a w133 => ∃ (y129 : List Int) (v130 : Value) (o132 : Tg), q135 = .inl y129 ∧ Fr a 70 [(7, (.pointer (some ⟨b51, 0, none⟩)))] ∧ Bs oo o132 w w133 ∧ Bx w.heap.size 17 o132 w133 b51 26 [v130] ∧ Ow w.heap.size 3 16 o132 w133 v130 y129) (fun _ _ => False) ?_ ?_ ?_
    · refine wpC_block ?_
      refine wpC_loop (fun (K : Nat) a w133 => ∃ (i134 : Int) (y129 : List Int) (v130 : Value) (o132 : Tg), forI (fI_SolveDown_s1 p0 x29) (x118.drop i134.toNat) i134 y129 = some q135 ∧ (x118.drop i134.toNat).length = K ∧ 0 ≤ i134 ∧ Fr a 70 [(2, (.pointer (some ⟨b5, 0, none⟩))), (6, (.pointer (some ⟨b37, 0, none⟩))), (7, (.pointer (some ⟨b51, 0, none⟩))), (34, v120), (35, (.int .i64 (x118.length : Int))), (36, (.int .i64 i134))] ∧ Bs oo o132 w w133 ∧ Ow w.heap.size 26 19 o132 w133 v120 g122 ∧ Rws w.heap.size 3 20 o132 w133 g122 x118 ∧ Bx w.heap.size 11 o132 w133 b5 29 [(.int .i64 p0.Labels), (.int .i64 p0.Children), v1] ∧ Bx w.heap.size 15 o132 w133 b37 3 [(.int .i64 x29)] ∧ Bx w.heap.size 17 o132 w133 b51 26 [v130] ∧ Ow w.heap.size 3 16 o132 w133 v130 y129) _ (fun a ha => ⟨0, x116, v46, o128, hq135, rfl, Int.le_refl 0, ha.sub (r := [(2, (.pointer (some ⟨b5, 0, none⟩))), (6, (.pointer (some ⟨b37, 0, none⟩))), (7, (.pointer (some ⟨b51, 0, none⟩))), (34, v120), (35, (.int .i64 (x118.length : Int))), (36, (.int .i64 0))]) ⟨rfl, rfl, rfl, rfl, rfl, rfl, trivial⟩, hB, h121, h123, h6, h42, h56, h117⟩) ?_
      rintro K139 a w133 ⟨i134, y129, v130, o132, l136, m138, z137, ha, hB, h121, h123, h6, h42, h56, h131⟩
      by_cases t143 : i134 < (x118.length : Int)
      · obtain ⟨x144, q140, hx144, b141, n142⟩ := forI_cons z137 t143 l136
        have hle := (h123.z h121).len_le
        dsimp only [fI_SolveDown_s1] at b141
        refine wp_of ha ?_
        refine wpC_seq ?_
        refine wpC_region ?_
        refine st_val (ex_lss rfl rfl) (by decide) trivial ?_
        refine wpF_end (r := [(2, (.pointer (some ⟨b5, 0, none⟩))), (6, (.pointer (some ⟨b37, 0, none⟩))), (7, (.pointer (some ⟨b51, 0, none⟩))), (34, v120), (35, (.int .i64 (x118.length : Int))), (36, (.int .i64 i134)), (37, (.bool (decide (i134 < (x118.length : Int)))))]) ⟨rfl, rfl, rfl, rfl, rfl, rfl, rfl, trivial⟩ ?_
        refine nx ?_
        refine wpC_seq ?_
        refine wpC_true (congrArg (fun b => some (Value.bool b)) (decide_eq_true t143)) ?_
        refine wpC_skip ?_
        refine nx ?_
        refine wpC_seq ?_
        refine wpC_block ?_
        refine wpC_seq ?_
        refine wpC_region ?_
        refine st_val (ex_move rfl) (by decide) trivial ?_
        obtain ⟨v145, h146, h147, h148⟩ := h123.ix hx144
        refine st_op (by decide) trivial ?_
        refine wf_atW h121 h146 rfl rfl Try.underlying22 Try.sizeOf26 ?_
        intro b149 f150 c151 h152 h153
        obtain ⟨rfl, -⟩ := h153
        refine st_val (ex_load1 rfl Try.isAgg26 (cell_of_cells h152)) (by decide) trivial ?_
        refine st_op (by decide) trivial ?_
        refine wf_alloc (o := o132) w.heap.size 21 hB.keeps.size (cs := [(.int .i64 0)]) Try.zeroValue3 rfl ?_
        intro o154 w155 b156 h157 s158
        replace h121 := h121.stp s158 (by decide) (by decide)
        replace h123 := h123.stp s158 (by decide) (by decide)
        replace h6 := h6.stp s158 (by decide)
        replace h42 := h42.stp s158 (by decide)
        replace h56 := h56.stp s158 (by decide)
        replace h131 := h131.stp s158 (by decide) (by decide)
        replace hB := hB.stp s158 (by decide)
        refine st_op0 trivial ?_
        refine wf_storeB h157 rfl rfl (of_decide_eq_true rfl) Try.sizeOf3 rfl rfl ?_
        intro w159 h161 s160
        replace h121 := h121.stp s160 (by decide) (by decide)
        replace h123 := h123.stp s160 (by decide) (by decide)
        replace h6 := h6.stp s160 (by decide)
        replace h42 := h42.stp s160 (by decide)
        replace h56 := h56.stp s160 (by decide)
        replace h131 := h131.stp s160 (by decide) (by decide)
        replace hB := hB.stp s160 (by decide)
        replace h161 : Bx w.heap.size 21 o154 w159 b156 3 [(.int .i64 i134)] := h161
        refine st_val (ex_assign rfl) (by decide) trivial ?_
        refine wpF_end (r := [(2, (.pointer (some ⟨b5, 0, none⟩))), (6, (.pointer (some ⟨b37, 0, none⟩))), (7, (.pointer (some ⟨b51, 0, none⟩))), (8, (.pointer (some ⟨b156, 0, none⟩))), (9, v145), (34, v120), (35, (.int .i64 (x118.length : Int))), (36, (.int .i64 i134))]) ⟨rfl, rfl, rfl, rfl, rfl, rfl, rfl, rfl, trivial⟩ ?_
        refine nx ?_
        refine wpC_seq ?_
        refine wpC_seq ?_
        refine wpC_region ?_
        refine st_val (ex_move rfl) (by decide) trivial ?_
        refine st_val (ex_lenO rfl (h123.at h147 h148) Try.underlying26) (by decide) trivial ?_
        refine st_val (ex_eql rfl rfl) (by decide) trivial ?_
        refine wpF_end (r := [(2, (.pointer (some ⟨b5, 0, none⟩))), (6, (.pointer (some ⟨b37, 0, none⟩))), (7, (.pointer (some ⟨b51, 0, none⟩))), (8, (.pointer (some ⟨b156, 0, none⟩))), (9, v145), (34, v120), (35, (.int .i64 (x118.length : Int))), (36, (.int .i64 i134)), (43, (.bool ((x144.length : Int) == 0)))]) ⟨rfl, rfl, rfl, rfl, rfl, rfl, rfl, rfl, rfl, trivial⟩ ?_
        refine nx ?_
        refine wpC_cond rfl (fun t162 => ?_) (fun t162 => ?_)
        · rw [if_pos t162] at b141
          refine wpC_exit ?_
          refine nt_exit ?_
          refine nb_hit ?_
          refine nx ?_
          refine wpC_region ?_
          refine st_val (ex_add rfl rfl (ck_in (by omega) (by omega))) (by decide) trivial ?_
          refine st_val (ex_move rfl) (by decide) trivial ?_
          refine wpF_end (r := [(2, (.pointer (some ⟨b5, 0, none⟩))), (6, (.pointer (some ⟨b37, 0, none⟩))), (7, (.pointer (some ⟨b51, 0, none⟩))), (34, v120), (35, (.int .i64 (x118.length : Int))), (36, (.int .i64 (i134 + 1)))]) ⟨rfl, rfl, rfl, rfl, rfl, rfl, trivial⟩ ?_
          refine nt_norm ?_
          have e163 := Option.some.inj b141
          subst e163
          refine to_k (r := [(2, (.pointer (some ⟨b5, 0, none⟩))), (6, (.pointer (some ⟨b37, 0, none⟩))), (7, (.pointer (some ⟨b51, 0, none⟩))), (34, v120), (35, (.int .i64 (x118.length : Int))), (36, (.int .i64 (i134 + 1)))]) ⟨rfl, rfl, rfl, rfl, rfl, rfl, trivial⟩ ?_
          intro a ha
          exact ⟨_, (by rw [← m138]; simp only [List.length_drop]; omega), i134 + 1, y129, v130, o154, n142, rfl, (by omega), ha, hB, h121, h123, h6, h42, h56, h131⟩
        · rw [if_neg (by rw [t162]; decide)] at b141
          refine wpC_skip ?_
          refine nx ?_
          refine wpC_seq ?_
          refine wpC_region ?_
          refine st_val (ex_field rfl Try.underlying29 rfl Try.sizeOf22) (by decide) trivial ?_
          refine st_val (ex_load1 rfl Try.isAgg22 (h6.cell rfl)) (by decide) trivial ?_
          refine st_val (ex_func (vs := [(.pointer (some ⟨b51, 0, none⟩)), (.pointer (some ⟨b156, 0, none⟩)), (.pointer (some ⟨b37, 0, none⟩))]) ⟨rfl, rfl, rfl, trivial⟩) (by decide) trivial ?_
          obtain ⟨x167, hx167, b141⟩ := bind_some b141
          refine st_op (by decide) trivial ?_
          refine wf_call (cX_slices_IndexFunc_LLint_int w159 _ p0.Lines (h2.keep hB.keeps) _ (fun z164 => fI_SolveDown_1 z164 y129 i134 x29) (show FnV Try.prog w159 (.func (.func 77) #[] #[(.pointer (some ⟨b51, 0, none⟩)), (.pointer (some ⟨b156, 0, none⟩)), (.pointer (some ⟨b37, 0, none⟩))]) (fun z164 => fI_SolveDown_1 z164 y129 i134 x29) from ⟨_, _, rfl, Try.call77, fun ww vs xx rr kk hok hG => by (obtain ⟨v165, rfl, h166⟩ := hok; exact cI_SolveDown_1 ww _ xx h166 b51 _ y129 ((h56.cells).keep kk) (Rp.keep ((show Rp.rd zt w159 [v130] (y129 : List Int) from rd_list h131.z)) kk) b156 _ i134 ((h161.cells).keep kk) (Rp.keep ((show Rp.rd zt w159 [(.int .i64 i134)] (i134 : Int) from rfl)) kk) b37 _ x29 ((h42.cells).keep kk) (Rp.keep ((show Rp.rd zt w159 [(.int .i64 x29)] (x29 : Int) from rfl)) kk) rr hG)⟩) x167 hx167) Try.call76 ⟨rfl, rfl, trivial⟩ ?_
          rintro e172 w168 ⟨rfl, k169⟩
          have s171 := k169.stp 999 o154
          refine ⟨_, rfl, ?_⟩
          replace h121 := h121.stp s171 (by decide) (by decide)
          replace h123 := h123.stp s171 (by decide) (by decide)
          replace h6 := h6.stp s171 (by decide)
          replace h42 := h42.stp s171 (by decide)
          replace h56 := h56.stp s171 (by decide)
          replace h131 := h131.stp s171 (by decide) (by decide)
          replace h161 := h161.stp s171 (by decide)
          replace hB := hB.stp s171 (by decide)
          refine st_val (ex_assign rfl) (by decide) trivial ?_
          refine wpF_end (r := [(2, (.pointer (some ⟨b5, 0, none⟩))), (6, (.pointer (some ⟨b37, 0, none⟩))), (7, (.pointer (some ⟨b51, 0, none⟩))), (9, v145), (10, (.int .i64 x167)), (34, v120), (35, (.int .i64 (x118.length : Int))), (36, (.int .i64 i134))]) ⟨rfl, rfl, rfl, rfl, rfl, rfl, rfl, rfl, trivial⟩ ?_
          refine nx ?_
          refine wpC_seq ?_
          refine wpC_region ?_
          refine st_val (ex_move rfl) (by decide) trivial ?_
          refine st_val (ex_lenO rfl (h123.at h147 h148) Try.underlying26) (by decide) trivial ?_
          refine st_val (ex_move rfl) (by decide) trivial ?_
          refine wpF_end (r := [(2, (.pointer (some ⟨b5, 0, none⟩))), (6, (.pointer (some ⟨b37, 0, none⟩))), (7, (.pointer (some ⟨b51, 0, none⟩))), (10, (.int .i64 x167)), (34, v120), (35, (.int .i64 (x118.length : Int))), (36, (.int .i64 i134)), (48, v145), (49, (.int .i64 (x144.length : Int))), (50, (.int .i64 0))]) ⟨rfl, rfl, rfl, rfl, rfl, rfl, rfl, rfl, rfl, rfl, trivial⟩ ?_
          refine nx ?_
          obtain ⟨q179, hq179, b141⟩ := bind_some b141
          refine wpC_cutN (fun a w177 => ∃ (y173 : List Int) (v174 : Value) (o176 : Tg), q179 = .inl y173 ∧ Fr a 70 [(2, (.pointer (some ⟨b5, 0, none⟩))), (6, (.pointer (some ⟨b37, 0, none⟩))), (7, (.pointer (some ⟨b51, 0, none⟩))), (34, v120), (35, (.int .i64 (x118.length : Int))), (36, (.int .i64 i134))] ∧ Bs oo o176 w w177 ∧ Ow w.heap.size 26 19 o176 w177 v120 g122 ∧ Rws w.heap.size 3 20 o176 w177 g122 x118 ∧ Bx w.heap.size 11 o176 w177 b5 29 [(.int .i64 p0.Labels), (.int .i64 p0.Children), v1] ∧ Bx w.heap.size 15 o176 w177 b37 3 [(.int .i64 x29)] ∧ Bx w.heap.size 17 o176 w177 b51 26 [v174] ∧ Ow w.heap.size 3 16 o176 w177 v174 y173) (fun _ _ => False) ?_ ?_ ?_
          · refine wpC_block ?_
            refine wpC_loop (fun (K : Nat) a w177 => ∃ (i178 : Int) (y173 : List Int) (v174 : Value) (o176 : Tg), forI (fI_SolveDown_s2 p0 x167) (x144.drop i178.toNat) i178 y173 = some q179 ∧ (x144.drop i178.toNat).length = K ∧ 0 ≤ i178 ∧ Fr a 70 [(2, (.pointer (some ⟨b5, 0, none⟩))), (6, (.pointer (some ⟨b37, 0, none⟩))), (7, (.pointer (some ⟨b51, 0, none⟩))), (10, (.int .i64 x167)), (34, v120), (35, (.int .i64 (x118.length : Int))), (36, (.int .i64 i134)), (48, v145), (49, (.int .i64 (x144.length : Int))), (50, (.int .i64 i178))] ∧ Bs oo o176 w w177 ∧ Ow w.heap.size 26 19 o176 w177 v120 g122 ∧ Rws w.heap.size 3 20 o176 w177 g122 x118 ∧ Bx w.heap.size 11 o176 w177 b5 29 [(.int .i64 p0.Labels), (.int .i64 p0.Children), v1] ∧ Bx w.heap.size 15 o176 w177 b37 3 [(.int .i64 x29)] ∧ Bx w.heap.size 17 o176 w177 b51 26 [v174] ∧ Ow w.heap.size 3 16 o176 w177 v174 y173) _ (fun a ha => ⟨0, y129, v130, o154, hq179, rfl, Int.le_refl 0, ha.sub (r := [(2, (.pointer (some ⟨b5, 0, none⟩))), (6, (.pointer (some ⟨b37, 0, none⟩))), (7, (.pointer (some ⟨b51, 0, none⟩))), (10, (.int .i64 x167)), (34, v120), (35, (.int .i64 (x118.length : Int))), (36, (.int .i64 i134)), (48, v145), (49, (.int .i64 (x144.length : Int))), (50, (.int .i64 0))]) ⟨rfl, rfl, rfl, rfl, rfl, rfl, rfl, rfl, rfl, rfl, trivial⟩, hB, h121, h123, h6, h42, h56, h131⟩) ?_
            rintro K183 a w177 ⟨i178, y173, v174, o176, l180, m182, z181, ha, hB, h121, h123, h6, h42, h56, h175⟩
            by_cases t187 : i178 < (x144.length : Int)
            · obtain ⟨x188, q184, hx188, b185, n186⟩ := forI_cons z181 t187 l180
              have hle := (h123.at h147 h148).len_le
              dsimp only [fI_SolveDown_s2] at b185
              refine wp_of ha ?_
              refine wpC_seq ?_
              refine wpC_region ?_
              refine st_val (ex_lss rfl rfl) (by decide) trivial ?_
              refine wpF_end (r := [(2, (.pointer (some ⟨b5, 0, none⟩))), (6, (.pointer (some ⟨b37, 0, none⟩))), (7, (.pointer (some ⟨b51, 0, none⟩))), (10, (.int .i64 x167)), (34, v120), (35, (.int .i64 (x118.length : Int))), (36, (.int .i64 i134)), (48, v145), (49, (.int .i64 (x144.length : Int))), (50, (.int .i64 i178)), (51, (.bool (decide (i178 < (x144.length : Int)))))]) ⟨rfl, rfl, rfl, rfl, rfl, rfl, rfl, rfl, rfl, rfl, rfl, trivial⟩ ?_
              refine nx ?_
              refine wpC_seq ?_
              refine wpC_true (congrArg (fun b => some (Value.bool b)) (decide_eq_true t187)) ?_
              refine wpC_skip ?_
              refine nx ?_
              refine wpC_seq ?_
              refine wpC_block ?_
              refine wpC_seq ?_
              refine wpC_region ?_
              refine st_val (ex_move rfl) (by decide) trivial ?_
              refine st_op (by decide) trivial ?_
              refine wf_atW (h123.at h147 h148) hx188 rfl rfl Try.underlying26 Try.sizeOf3 ?_
              intro b189 f190 c191 h192 h193
              cases h193
              refine st_val (ex_load1 rfl Try.isAgg3 (cell_of_cells h192)) (by decide) trivial ?_
              refine st_val (ex_assign rfl) (by decide) trivial ?_
              refine st_val (ex_assign rfl) (by decide) trivial ?_
              refine wpF_end (r := [(2, (.pointer (some ⟨b5, 0, none⟩))), (6, (.pointer (some ⟨b37, 0, none⟩))), (7, (.pointer (some ⟨b51, 0, none⟩))), (10, (.int .i64 x167)), (11, (.int .i64 i178)), (12, (.int .i64 x188)), (34, v120), (35, (.int .i64 (x118.length : Int))), (36, (.int .i64 i134)), (48, v145), (49, (.int .i64 (x144.length : Int))), (50, (.int .i64 i178))]) ⟨rfl, rfl, rfl, rfl, rfl, rfl, rfl, rfl, rfl, rfl, rfl, rfl, trivial⟩ ?_
              refine nx ?_
              obtain ⟨x194, hx194, b185⟩ := bind_some b185
              obtain ⟨x200, hx200, b185⟩ := bind_some b185
              obtain ⟨x201, hx201, b185⟩ := bind_some b185
              refine wpC_drawn (o := o176) [(2, (.pointer (some ⟨b5, 0, none⟩))), (6, (.pointer (some ⟨b37, 0, none⟩))), (7, (.pointer (some ⟨b51, 0, none⟩))), (10, (.int .i64 x167)), (11, (.int .i64 i178)), (12, (.int .i64 x188)), (34, v120), (35, (.int .i64 (x118.length : Int))), (36, (.int .i64 i134)), (48, v145), (49, (.int .i64 (x144.length : Int))), (50, (.int .i64 i178))] [2, 6, 7, 10, 11, 12, 34, 35, 36, 48, 49, 50] [55, 56, 57, 58, 59, 60, 61, 62, 63, 64, 65] [[], [], [], [2], [], [3, 4], [5], [], [7], [6, 8], [9]] [none, none, none, none, none, none, none, none, none, none, none] [999, 999, 999, 999, 999, 999, 999, 999, 999, 999, 999] [0, 0, 0, 0, 0, 0, 0, 0, 0, 0, 0] [999] [fun v _ _ => v = v174, fun v _ _ => v = (.int .i64 x188), fun v _ _ => v = (.pointer (some ⟨b5, 0 + 2, none⟩)), fun v _ _ => v = v1, fun v _ _ => v = (.int .i64 x167), fun v o w9 => ∃ vl, v = adr vl (x167.toNat * Rp.sz (List Int)) ∧ RdL zt w vl (p0.Lines : List (List Int)), fun v o w9 => RdL zt w v x194, fun v _ _ => v = (.int .i64 i178), fun v _ _ => v = (.int .i64 x200), fun v o w9 => ∃ vl, v = adr vl (x200.toNat * Rp.sz Int) ∧ RdL zt w vl x194, fun v _ _ => v = (.int .i64 x201)] (fun o8 w8 => Bs oo o8 w w8 ∧ Ow w.heap.size 26 19 o8 w8 v120 g122 ∧ Rws w.heap.size 3 20 o8 w8 g122 x118 ∧ Bx w.heap.size 11 o8 w8 b5 29 [(.int .i64 p0.Labels), (.int .i64 p0.Children), v1] ∧ Bx w.heap.size 15 o8 w8 b37 3 [(.int .i64 x29)] ∧ Bx w.heap.size 17 o8 w8 b51 26 [v174] ∧ Ow w.heap.size 3 16 o8 w8 v174 y173) follows_mixed (by kernel_rfl) rfl ⟨rfl, rfl, rfl, rfl, rfl, rfl, rfl, rfl, rfl, rfl, rfl, rfl, trivial⟩ ⟨hB, h121, h123, h6, h42, h56, h175⟩ ?_ ⟨st_eq _, st_eq _, st_eq _, st_eq _, st_eq _, fun _ _ _ _ _ _ h0 hb ⟨vl, e, h⟩ hs => ⟨vl, e, h⟩, fun _ _ _ _ _ _ h0 hb h hs => h, st_eq _, st_eq _, fun _ _ _ _ _ _ h0 hb ⟨vl, e, h⟩ hs => ⟨vl, e, h⟩, st_eq _, trivial⟩ ?_ ?_
              · rintro t9 o1 w1 o2 w2 ht9 ⟨hB, h121, h123, h6, h42, h56, h175⟩ hs9
                have ht9 : t9 = 999 := by simpa using ht9
                subst ht9
                all_goals exact ⟨hB.stp hs9 (by decide), h121.stp hs9 (by decide) (by decide), h123.stp hs9 (by decide) (by decide), h6.stp hs9 (by decide), h42.stp hs9 (by decide), h56.stp hs9 (by decide), h175.stp hs9 (by decide) (by decide)⟩
              · refine ⟨?_, ?_, ?_, ?_, ?_, ?_, ?_, ?_, ?_, ?_, ?_, trivial⟩
                · rintro o204 w205 a206 ha ⟨hB, h121, h123, h6, h42, h56, h175⟩ -
                  refine opS_of ha (trivial) ?_
                  refine op1_val (ex_load1 rfl Try.isAgg26 (h56.cell rfl)) ?_
                  exact ⟨_, Stp.refl _ _ _, rfl⟩
                · rintro o207 w208 a209 ha ⟨hB, h121, h123, h6, h42, h56, h175⟩ -
                  refine opS_of ha (trivial) ?_
                  refine op1_val (ex_move rfl) ?_
                  exact ⟨_, Stp.refl _ _ _, rfl⟩
                · rintro o210 w211 a212 ha ⟨hB, h121, h123, h6, h42, h56, h175⟩ -
                  refine opS_of ha (trivial) ?_
                  refine op1_val (ex_field rfl Try.underlying29 rfl Try.sizeOf22) ?_
                  exact ⟨_, Stp.refl _ _ _, rfl⟩
                · rintro o213 w214 a215 ha ⟨hB, h121, h123, h6, h42, h56, h175⟩ ⟨r216, -⟩
                  have ha := Fr.cons (d := 57) ha r216
                  refine opS_of ha (trivial) ?_
                  refine op1_val (ex_load1 rfl Try.isAgg22 (h6.cell rfl)) ?_
                  exact ⟨_, Stp.refl _ _ _, rfl⟩
                · rintro o217 w218 a219 ha ⟨hB, h121, h123, h6, h42, h56, h175⟩ -
                  refine opS_of ha (trivial) ?_
                  refine op1_val (ex_move rfl) ?_
                  exact ⟨_, Stp.refl _ _ _, rfl⟩
                · rintro o220 w221 a222 ha ⟨hB, h121, h123, h6, h42, h56, h175⟩ ⟨r223, r224, -⟩
                  have ha := Fr.cons (d := 58) ha r223
                  have ha := Fr.cons (d := 59) ha r224
                  refine opS_of ha (trivial) ?_
                  refine wd_indexR h2 hx194 rfl rfl Try.underlying22 Try.sizeOf26 ?_
                  exact ⟨_, Stp.refl _ _ _, ⟨_, rfl, h2⟩⟩
                · rintro o225 w226 a227 ha ⟨hB, h121, h123, h6, h42, h56, h175⟩ ⟨r228, -⟩
                  obtain ⟨v229, e230, h231⟩ := r228
                  have ha := Fr.cons (d := 60) ha e230
                  refine opS_of ha (trivial) ?_
                  refine wd_load1Z h231 hx194 hB rfl rfl Try.isAgg26 ?_
                  intro c232 h233
                  obtain ⟨v234, e236, h235⟩ := h233
                  cases e236
                  exact ⟨_, Stp.refl _ _ _, h235⟩
                · rintro o237 w238 a239 ha ⟨hB, h121, h123, h6, h42, h56, h175⟩ -
                  refine opS_of ha (trivial) ?_
                  refine op1_val (ex_move rfl) ?_
                  exact ⟨_, Stp.refl _ _ _, rfl⟩
                · rintro o240 w241 a242 ha ⟨hB, h121, h123, h6, h42, h56, h175⟩ ⟨r243, -⟩
                  have ha := Fr.cons (d := 62) ha r243
                  refine opS_of ha (trivial) ?_
                  refine op1_val (ex_add rfl rfl hx200) ?_
                  exact ⟨_, Stp.refl _ _ _, rfl⟩
                · rintro o244 w245 a246 ha ⟨hB, h121, h123, h6, h42, h56, h175⟩ ⟨r247, r248, -⟩
                  replace r247 : RdL zt w (a246.tmps.getD 61 undef) x194 := r247
                  generalize e250 : a246.tmps.getD 61 undef = v249 at r247
                  have ha := Fr.cons (d := 61) ha e250
                  have ha := Fr.cons (d := 63) ha r248
                  refine opS_of ha (trivial) ?_
                  refine wd_indexR r247 hx201 rfl rfl Try.underlying26 Try.sizeOf3 ?_
                  exact ⟨_, Stp.refl _ _ _, ⟨_, rfl, r247⟩⟩
                · rintro o251 w252 a253 ha ⟨hB, h121, h123, h6, h42, h56, h175⟩ ⟨r254, -⟩
                  obtain ⟨v255, e256, h257⟩ := r254
                  have ha := Fr.cons (d := 64) ha e256
                  refine opS_of ha (trivial) ?_
                  refine wd_load1Z h257 hx201 hB rfl rfl Try.isAgg3 ?_
                  intro c258 h259
                  cases h259
                  exact ⟨_, Stp.refl _ _ _, rfl⟩
              rintro o260 w261 a262 ha ⟨hB, h121, h123, h6, h42, h56, h175⟩ ⟨r263, r264, -, -, -, -, -, -, -, -, r265, -⟩
              have ha := Fr.cons (d := 55) ha r263
              have ha := Fr.cons (d := 56) ha r264
              have ha := Fr.cons (d := 65) ha r265
              refine wl_of ha ?_
              simp only [List.length_cons, List.length_nil, Nat.zero_add, Nat.reduceAdd, List.drop_succ_cons, List.drop_zero]
              obtain ⟨x266, hx266, b185⟩ := bind_some b185
              refine st_op (by decide) trivial ?_
              refine wf_atP h175 hx266 rfl rfl Try.underlying26 Try.sizeOf3 ?_
              intro b267 c269 h272 h270 h271
              cases h271
              obtain ⟨x275, hx275, b185⟩ := bind_some b185
              refine st_op0 trivial ?_
              refine wf_storeW h175 h272 hx275 rfl (by decide) rfl rfl rfl Try.sizeOf3 rfl ?_
              intro w273 h276 s274
              replace h121 := h121.stp s274 (by decide) (by decide)
              replace h123 := h123.stp s274 (by decide) (by decide)
              replace h6 := h6.stp s274 (by decide)
              replace h42 := h42.stp s274 (by decide)
              replace h56 := h56.stp s274 (by decide)
              replace hB := hB.stp s274 (by decide)
              refine wpF_end (r := [(2, (.pointer (some ⟨b5, 0, none⟩))), (6, (.pointer (some ⟨b37, 0, none⟩))), (7, (.pointer (some ⟨b51, 0, none⟩))), (10, (.int .i64 x167)), (34, v120), (35, (.int .i64 (x118.length : Int))), (36, (.int .i64 i134)), (48, v145), (49, (.int .i64 (x144.length : Int))), (50, (.int .i64 i178))]) ⟨rfl, rfl, rfl, rfl, rfl, rfl, rfl, rfl, rfl, rfl, trivial⟩ ?_
              refine nb_norm ?_
              refine nx ?_
              refine wpC_region ?_
              refine st_val (ex_add rfl rfl (ck_in (by omega) (by omega))) (by decide) trivial ?_
              refine st_val (ex_move rfl) (by decide) trivial ?_
              refine wpF_end (r := [(2, (.pointer (some ⟨b5, 0, none⟩))), (6, (.pointer (some ⟨b37, 0, none⟩))), (7, (.pointer (some ⟨b51, 0, none⟩))), (10, (.int .i64 x167)), (34, v120), (35, (.int .i64 (x118.length : Int))), (36, (.int .i64 i134)), (48, v145), (49, (.int .i64 (x144.length : Int))), (50, (.int .i64 (i178 + 1)))]) ⟨rfl, rfl, rfl, rfl, rfl, rfl, rfl, rfl, rfl, rfl, trivial⟩ ?_
              refine nt_norm ?_
              have e277 := Option.some.inj b185
              subst e277
              refine to_k (r := [(2, (.pointer (some ⟨b5, 0, none⟩))), (6, (.pointer (some ⟨b37, 0, none⟩))), (7, (.pointer (some ⟨b51, 0, none⟩))), (10, (.int .i64 x167)), (34, v120), (35, (.int .i64 (x118.length : Int))), (36, (.int .i64 i134)), (48, v145), (49, (.int .i64 (x144.length : Int))), (50, (.int .i64 (i178 + 1)))]) ⟨rfl, rfl, rfl, rfl, rfl, rfl, rfl, rfl, rfl, rfl, trivial⟩ ?_
              intro a ha
              exact ⟨_, (by rw [← m182]; simp only [List.length_drop]; omega), i178 + 1, x275, v174, o260, n186, rfl, (by omega), ha, hB, h121, h123, h6, h42, h56, h276⟩
            · have r278 := forI_done t187 l180
              refine wp_of ha ?_
              refine wpC_seq ?_
              refine wpC_region ?_
              refine st_val (ex_lss rfl rfl) (by decide) trivial ?_
              refine wpF_end (r := [(2, (.pointer (some ⟨b5, 0, none⟩))), (6, (.pointer (some ⟨b37, 0, none⟩))), (7, (.pointer (some ⟨b51, 0, none⟩))), (10, (.int .i64 x167)), (34, v120), (35, (.int .i64 (x118.length : Int))), (36, (.int .i64 i134)), (48, v145), (49, (.int .i64 (x144.length : Int))), (50, (.int .i64 i178)), (51, (.bool (decide (i178 < (x144.length : Int)))))]) ⟨rfl, rfl, rfl, rfl, rfl, rfl, rfl, rfl, rfl, rfl, rfl, trivial⟩ ?_
              refine nx ?_
              refine wpC_seq ?_
              refine wpC_false (congrArg (fun b => some (Value.bool b)) (decide_eq_false t187)) ?_
              refine wpC_exit ?_
              refine nt_exit ?_
              refine nt_exit ?_
              refine nb_hit ?_
              refine np_norm ?_
              refine to_k (r := [(2, (.pointer (some ⟨b5, 0, none⟩))), (6, (.pointer (some ⟨b37, 0, none⟩))), (7, (.pointer (some ⟨b51, 0, none⟩))), (34, v120), (35, (.int .i64 (x118.length : Int))), (36, (.int .i64 i134))]) ⟨rfl, rfl, rfl, rfl, rfl, rfl, trivial⟩ ?_
              intro a ha
              exact ⟨y173, v174, o176, r278, ha, hB, h121, h123, h6, h42, h56, h175⟩
          · rintro a w177 ⟨y173, v174, o176, rfl, ha, hB, h121, h123, h6, h42, h56, h175⟩
            dsimp only at b141
            refine ap_k ha ?_
            refine nb_norm ?_
            refine nx ?_
            refine wpC_region ?_
            refine st_val (ex_add rfl rfl (ck_in (by omega) (by omega))) (by decide) trivial ?_
            refine st_val (ex_move rfl) (by decide) trivial ?_
            refine wpF_end (r := [(2, (.pointer (some ⟨b5, 0, none⟩))), (6, (.pointer (some ⟨b37, 0, none⟩))), (7, (.pointer (some ⟨b51, 0, none⟩))), (34, v120), (35, (.int .i64 (x118.length : Int))), (36, (.int .i64 (i134 + 1)))]) ⟨rfl, rfl, rfl, rfl, rfl, rfl, trivial⟩ ?_
            refine nt_norm ?_
            have e279 := Option.some.inj b141
            subst e279
            refine to_k (r := [(2, (.pointer (some ⟨b5, 0, none⟩))), (6, (.pointer (some ⟨b37, 0, none⟩))), (7, (.pointer (some ⟨b51, 0, none⟩))), (34, v120), (35, (.int .i64 (x118.length : Int))), (36, (.int .i64 (i134 + 1)))]) ⟨rfl, rfl, rfl, rfl, rfl, rfl, trivial⟩ ?_
            intro a ha
            exact ⟨_, (by rw [← m138]; simp only [List.length_drop]; omega), i134 + 1, y173, v174, o176, n142, rfl, (by omega), ha, hB, h121, h123, h6, h42, h56, h175⟩
          · exact fun _ _ h => h.elim
      · have r280 := forI_done t143 l136
        refine wp_of ha ?_
        refine wpC_seq ?_
        refine wpC_region ?_
        refine st_val (ex_lss rfl rfl) (by decide) trivial ?_
        refine wpF_end (r := [(2, (.pointer (some ⟨b5, 0, none⟩))), (6, (.pointer (some ⟨b37, 0, none⟩))), (7, (.pointer (some ⟨b51, 0, none⟩))), (34, v120), (35, (.int .i64 (x118.length : Int))), (36, (.int .i64 i134)), (37, (.bool (decide (i134 < (x118.length : Int)))))]) ⟨rfl, rfl, rfl, rfl, rfl, rfl, rfl, trivial⟩ ?_
        refine nx ?_
        refine wpC_seq ?_
        refine wpC_false (congrArg (fun b => some (Value.bool b)) (decide_eq_false t143)) ?_
        refine wpC_exit ?_
        refine nt_exit ?_
        refine nt_exit ?_
        refine nb_hit ?_
        refine np_norm ?_
        refine to_k (r := [(7, (.pointer (some ⟨b51, 0, none⟩)))]) ⟨rfl, trivial⟩ ?_
        intro a ha
        exact ⟨y129, v130, o132, r280, ha, hB, h56, h131⟩
    · rintro a w133 ⟨y129, v130, o132, rfl, ha, hB, h56, h131⟩
      dsimp only at hF
      refine ap_k ha ?_
      refine nx ?_
      refine wpC_seq ?_
      refine wpC_region ?_
      refine st_val (ex_load1 rfl Try.isAgg26 (h56.cell rfl)) (by decide) trivial ?_
      refine st_val (ex_assign rfl) (by decide) trivial ?_
      refine st_val (ex_assign rfl) (by decide) trivial ?_
      refine wpF_end (r := [(4, v130), (5, (.bool true))]) ⟨rfl, rfl, trivial⟩ ?_
      refine nx ?_
      refine wpC_ret ?_
      have e281 := Option.some.inj hF
      subst e281
      refine ret_post (P := Try.prog) (vs := [v130, (.bool true)]) Try.results34 ⟨rfl, rfl, trivial⟩ ?_
      exact ⟨_, rt oo o132 w.heap.size 16 t, rfl, h131.rt hB (by decide) t, hB.keeps, rt_old _ _ _ _ _⟩
    · exact fun _ _ h => h.elim

end Go.Proofs.Ytabclfacjaeblaa
