/- spec.waArcs, spec.waGood, (impl.WalkProblem).hasLabels, impl.IsWalkProblem, (impl.WalkProblem).after, (impl.WalkProblem).reached: plain functions, and the walks that show that the program computes them (printed by gen.py). -/
import Derived.Test.YtffgdhbhlcifmaaGA
import Derived.Test.YtffgdhbhlcifmaaKg
namespace Go.Proofs.Ytffgdhbhlcifmaa
open Go.RowKit
set_option linter.unusedSimpArgs false
set_option linter.unusedVariables false

theorem info2_t_int_I : Inf Try.prog 3 (.int .i64 0) 1 8 := by unfold Inf; kernel_rfl

def fS_waArcs_s1 (p0 : List (List Int)) (p1 : Int) : Int → (List Int) → Unit → Option (Lp Unit Unit Bool) := fun (i3 : Int) (x13 : List Int) (s : Unit) =>
  (
    if (x13.length : Int) != 2 then
      some true
    else
      (ck (p1 - 1)) >>= fun x25 =>
      (fS_l1All x13 0 x25) >>= fun x26 =>
      if !x26 then
        some true
      else
        if decide (i3 > 0) then
          (ck (i3 - 1)) >>= fun x34 =>
          (ix p0 x34) >>= fun x35 =>
          (fS_prOrder x35 x13) >>= fun x43 =>
          some (decide (x43 ≥ 0))
        else
          some false) >>= fun q21 =>
  if q21 then
    some (.ret false)
  else
    some (.go ())
def fS_waArcs (p0 : List (List Int)) (p1 : Int) : Option Bool :=
  (forI (fS_waArcs_s1 p0 p1) p0 0 ()) >>= fun q4 =>
  match q4 with
  | .inl _ =>
    some true
  | .inr r' => some r'

def pS_waArcs (w : World) (r : Bool) : Ending → World → Prop := fun e w' => e = .returned (.bool r) ∧ Keeps w w'
set_option maxRecDepth 100000 in
set_option maxHeartbeats 2000000 in
theorem cS_waArcs (w : World) (u0 : Value) (p0 : List (List Int)) (g0 : RdL zt w u0 p0) (p1 : Int) (r : Bool) (hF : fS_waArcs p0 p1 = some r) :
    Calls Try.prog 71 #[u0, .int .i64 p1] w (pS_waArcs w r) := by
  unfold fS_waArcs at hF
  have hB : Bs (fun _ => 1) (col (fun _ => 1)) w w := Bs.start _ _
  refine calls_start (n := 39) (vs := [u0, (.int .i64 p1)]) Try.func71 rfl rfl ?_
  refine wpC_seq ?_
  refine wpC_region ?_
  refine st_val (ex_assign rfl) (by decide) trivial ?_
  refine wpF_end (r := [(0, u0), (1, (.int .i64 p1))]) ⟨rfl, rfl, trivial⟩ ?_
  refine nx ?_
  refine wpC_seq ?_
  refine wpC_seq ?_
  refine wpC_region ?_
  refine st_val (ex_move rfl) (by decide) trivial ?_
  refine st_val (ex_lenR rfl g0 Try.underlying22) (by decide) trivial ?_
  refine st_val (ex_move rfl) (by decide) trivial ?_
  refine wpF_end (r := [(0, u0), (1, (.int .i64 p1)), (7, u0), (8, (.int .i64 (p0.length : Int))), (9, (.int .i64 0))]) ⟨rfl, rfl, rfl, rfl, rfl, trivial⟩ ?_
  refine nx ?_
  obtain ⟨q4, hq4, hF⟩ := bind_some hF
  refine wpC_cutN (fun a w2 => ∃ (o1 : Tg), q4 = .inl () ∧ Fr a 39 [] ∧ Bs (fun _ => 1) o1 w w2) (fun a w' => ∃ r', q4 = .inr r' ∧ bodyPost Try.prog Try.f71 (pS_waArcs w r') .ret a w') ?_ ?_ ?_
  · refine wpC_block ?_
    refine wpC_loop (fun (K : Nat) a w2 => ∃ (i3 : Int) (o1 : Tg), forI (fS_waArcs_s1 p0 p1) (p0.drop i3.toNat) i3 () = some q4 ∧ (p0.drop i3.toNat).length = K ∧ 0 ≤ i3 ∧ Fr a 39 [(0, u0), (1, (.int .i64 p1)), (7, u0), (8, (.int .i64 (p0.length : Int))), (9, (.int .i64 i3))] ∧ Bs (fun _ => 1) o1 w w2) _ (fun a ha => ⟨0, (col (fun _ => 1)), hq4, rfl, Int.le_refl 0, ha.sub (r := [(0, u0), (1, (.int .i64 p1)), (7, u0), (8, (.int .i64 (p0.length : Int))), (9, (.int .i64 0))]) ⟨rfl, rfl, rfl, rfl, rfl, trivial⟩, hB⟩) ?_
    rintro K8 a w2 ⟨i3, o1, l5, m7, z6, ha, hB⟩
    by_cases t12 : i3 < (p0.length : Int)
    · obtain ⟨x13, q9, hx13, b10, n11⟩ := forI_cons z6 t12 l5
      have hle := g0.len_le
      dsimp only [fS_waArcs_s1] at b10
      refine wp_of ha ?_
      refine wpC_seq ?_
      refine wpC_region ?_
      refine st_val (ex_lss rfl rfl) (by decide) trivial ?_
      refine wpF_end (r := [(0, u0), (1, (.int .i64 p1)), (7, u0), (8, (.int .i64 (p0.length : Int))), (9, (.int .i64 i3)), (10, (.bool (decide (i3 < (p0.length : Int)))))]) ⟨rfl, rfl, rfl, rfl, rfl, rfl, trivial⟩ ?_
      refine nx ?_
      refine wpC_seq ?_
      refine wpC_true (congrArg (fun b => some (Value.bool b)) (decide_eq_true t12)) ?_
      refine wpC_skip ?_
      refine nx ?_
      refine wpC_seq ?_
      refine wpC_block ?_
      refine wpC_seq ?_
      refine wpC_region ?_
      refine st_val (ex_move rfl) (by decide) trivial ?_
      refine st_op (by decide) trivial ?_
      refine wf_atZ g0 hx13 hB rfl rfl Try.underlying22 Try.sizeOf26 ?_
      intro b14 f15 c16 h17 h18
      obtain ⟨v19, rfl, h20⟩ := h18
      refine st_val (ex_load1 rfl Try.isAgg26 (cell_of_cells h17)) (by decide) trivial ?_
      refine st_val (ex_assign rfl) (by decide) trivial ?_
      refine st_val (ex_assign rfl) (by decide) trivial ?_
      refine wpF_end (r := [(0, u0), (1, (.int .i64 p1)), (5, (.int .i64 i3)), (6, v19), (7, u0), (8, (.int .i64 (p0.length : Int))), (9, (.int .i64 i3))]) ⟨rfl, rfl, rfl, rfl, rfl, rfl, rfl, trivial⟩ ?_
      refine nx ?_
      refine wpC_seq ?_
      refine wpC_region ?_
      refine st_val (ex_move rfl) (by decide) trivial ?_
      refine st_val (ex_lenR rfl h20 Try.underlying26) (by decide) trivial ?_
      refine st_val (ex_neq rfl rfl) (by decide) trivial ?_
      refine st_val (ex_move rfl) (by decide) trivial ?_
      obtain ⟨q21, hq21, b10⟩ := bind_some b10
      refine wpF_cutAt 20 (fun a23 w22 => Fr a23 39 [(0, u0), (1, (.int .i64 p1)), (7, u0), (8, (.int .i64 (p0.length : Int))), (9, (.int .i64 i3)), (37, (.bool q21))] ∧ Keeps w2 w22) ?_ ?_
      all_goals simp only [List.take_succ_cons, List.take_zero, List.drop_succ_cons, List.drop_zero]
      · have kp : Keeps w2 w2 := Keeps.refl _
        rcases Bool.eq_false_or_eq_true ((x13.length : Int) != 2) with t24 | t24
        · rw [if_pos t24] at hq21
          refine st_no rfl rfl (by rw [t24]; rfl) (by decide) ?_
          refine st_no rfl rfl (by rw [t24]; rfl) (by decide) ?_
          refine st_no rfl rfl (by rw [t24]; rfl) (by decide) ?_
          refine st_no rfl rfl (by rw [t24]; rfl) (by decide) ?_
          refine st_no rfl rfl (by rw [t24]; rfl) (by decide) ?_
          refine st_val (ex_pick_t (congrArg (fun b => some (Value.bool b)) t24) rfl) (by decide) trivial ?_
          refine st_val (ex_move rfl) (by decide) trivial ?_
          refine st_no rfl rfl rfl (by decide) ?_
          refine st_no rfl rfl rfl (by decide) ?_
          refine st_no rfl rfl rfl (by decide) ?_
          refine st_no2 rfl rfl (by decide) ?_
          refine st_no2 rfl rfl (by decide) ?_
          refine st_no2 rfl rfl (by decide) ?_
          refine st_no2 rfl rfl (by decide) ?_
          refine st_no2 rfl rfl (by decide) ?_
          refine st_no2 rfl rfl (by decide) ?_
          refine st_no2 rfl rfl (by decide) ?_
          refine st_no2 rfl rfl (by decide) ?_
          refine st_no rfl rfl rfl (by decide) ?_
          refine st_val (ex_pick_t rfl rfl) (by decide) trivial ?_
          have hq212 := Option.some.inj hq21
          refine wpF_end (r := [(0, u0), (1, (.int .i64 p1)), (7, u0), (8, (.int .i64 (p0.length : Int))), (9, (.int .i64 i3)), (37, (.bool true))]) ⟨rfl, rfl, rfl, rfl, rfl, rfl, trivial⟩ ?_
          subst hq212
          refine np_norm (fun a ha => ⟨ha, kp⟩)
        · rw [if_neg (by rw [t24]; decide)] at hq21
          refine st_val (ex_move rfl) (by decide) ⟨_, rfl, (congrArg (fun b => some (Value.bool b)) t24)⟩ ?_
          refine st_val (ex_move rfl) (by decide) ⟨_, rfl, (congrArg (fun b => some (Value.bool b)) t24)⟩ ?_
          obtain ⟨x25, hx25, hq21⟩ := bind_some hq21
          refine st_val (ex_sub rfl rfl hx25) (by decide) ⟨_, rfl, (congrArg (fun b => some (Value.bool b)) t24)⟩ ?_
          obtain ⟨x26, hx26, hq21⟩ := bind_some hq21
          refine st_op (by decide) ⟨_, rfl, (congrArg (fun b => some (Value.bool b)) t24)⟩ ?_
          refine wf_call (cS_l1All w2 _ x13 (h20.keep hB.keeps) 0 x25 x26 hx26) Try.call54 ⟨rfl, rfl, rfl, trivial⟩ ?_
          rintro e31 w27 ⟨rfl, k28⟩
          have s30 := k28.stp 999 o1
          refine ⟨_, rfl, ?_⟩
          replace hB := hB.stp s30 (by decide)
          replace kp := Keeps.trans kp k28
          refine st_val (ex_not rfl) (by decide) ⟨_, rfl, (congrArg (fun b => some (Value.bool b)) t24)⟩ ?_
          refine st_val (ex_pick_f (congrArg (fun b => some (Value.bool b)) t24) rfl) (by decide) trivial ?_
          refine st_val (ex_move rfl) (by decide) trivial ?_
          rcases Bool.eq_false_or_eq_true (!x26) with t32 | t32
          · rw [if_pos t32] at hq21
            refine st_no rfl rfl (by rw [t32]; rfl) (by decide) ?_
            refine st_no rfl rfl (by rw [t32]; rfl) (by decide) ?_
            refine st_no rfl rfl (by rw [t32]; rfl) (by decide) ?_
            refine st_no2 rfl rfl (by decide) ?_
            refine st_no2 rfl rfl (by decide) ?_
            refine st_no2 rfl rfl (by decide) ?_
            refine st_no2 rfl rfl (by decide) ?_
            refine st_no2 rfl rfl (by decide) ?_
            refine st_no2 rfl rfl (by decide) ?_
            refine st_no2 rfl rfl (by decide) ?_
            refine st_no2 rfl rfl (by decide) ?_
            refine st_no rfl rfl (by rw [t32]; rfl) (by decide) ?_
            refine st_val (ex_pick_t (congrArg (fun b => some (Value.bool b)) t32) rfl) (by decide) trivial ?_
            have hq212 := Option.some.inj hq21
            refine wpF_end (r := [(0, u0), (1, (.int .i64 p1)), (7, u0), (8, (.int .i64 (p0.length : Int))), (9, (.int .i64 i3)), (37, (.bool true))]) ⟨rfl, rfl, rfl, rfl, rfl, rfl, trivial⟩ ?_
            subst hq212
            refine np_norm (fun a ha => ⟨ha, kp⟩)
          · rw [if_neg (by rw [t32]; decide)] at hq21
            refine st_val (ex_move rfl) (by decide) ⟨_, rfl, (congrArg (fun b => some (Value.bool b)) t32)⟩ ?_
            refine st_val (ex_gtr rfl rfl) (by decide) ⟨_, rfl, (congrArg (fun b => some (Value.bool b)) t32)⟩ ?_
            refine st_val (ex_move rfl) (by decide) ⟨_, rfl, (congrArg (fun b => some (Value.bool b)) t32)⟩ ?_
            rcases Bool.eq_false_or_eq_true (decide (i3 > 0)) with t33 | t33
            · rw [if_pos t33] at hq21
              refine st_val (ex_move rfl) (by decide) ⟨_, rfl, (congrArg (fun b => some (Value.bool b)) t33)⟩ ?_
              refine st_val (ex_move rfl) (by decide) ⟨_, rfl, (congrArg (fun b => some (Value.bool b)) t33)⟩ ?_
              obtain ⟨x34, hx34, hq21⟩ := bind_some hq21
              refine st_val (ex_sub rfl rfl hx34) (by decide) ⟨_, rfl, (congrArg (fun b => some (Value.bool b)) t33)⟩ ?_
              obtain ⟨x35, hx35, hq21⟩ := bind_some hq21
              refine st_op (by decide) ⟨_, rfl, (congrArg (fun b => some (Value.bool b)) t33)⟩ ?_
              refine wf_atZ g0 hx35 hB rfl rfl Try.underlying22 Try.sizeOf26 ?_
              intro b36 f37 c38 h39 h40
              obtain ⟨v41, rfl, h42⟩ := h40
              refine st_val (ex_load1 rfl Try.isAgg26 (cell_of_cells h39)) (by decide) ⟨_, rfl, (congrArg (fun b => some (Value.bool b)) t33)⟩ ?_
              refine st_val (ex_move rfl) (by decide) ⟨_, rfl, (congrArg (fun b => some (Value.bool b)) t33)⟩ ?_
              obtain ⟨x43, hx43, hq21⟩ := bind_some hq21
              refine st_op (by decide) ⟨_, rfl, (congrArg (fun b => some (Value.bool b)) t33)⟩ ?_
              refine wf_call (cS_prOrder w27 _ x35 (h42.keep hB.keeps) _ x13 (h20.keep hB.keeps) x43 hx43) Try.call104 ⟨rfl, rfl, trivial⟩ ?_
              rintro e48 w44 ⟨rfl, k45⟩
              have s47 := k45.stp 999 o1
              refine ⟨_, rfl, ?_⟩
              replace hB := hB.stp s47 (by decide)
              replace kp := Keeps.trans kp k45
              refine st_val (ex_geq rfl rfl) (by decide) ⟨_, rfl, (congrArg (fun b => some (Value.bool b)) t33)⟩ ?_
              refine st_val (ex_pick_t (congrArg (fun b => some (Value.bool b)) t33) rfl) (by decide) ⟨_, rfl, (congrArg (fun b => some (Value.bool b)) t32)⟩ ?_
              refine st_val (ex_pick_f (congrArg (fun b => some (Value.bool b)) t32) rfl) (by decide) trivial ?_
              have hq212 := Option.some.inj hq21
              refine wpF_end (r := [(0, u0), (1, (.int .i64 p1)), (7, u0), (8, (.int .i64 (p0.length : Int))), (9, (.int .i64 i3)), (37, (.bool (decide (x43 ≥ 0))))]) ⟨rfl, rfl, rfl, rfl, rfl, rfl, trivial⟩ ?_
              subst hq212
              refine np_norm (fun a ha => ⟨ha, kp⟩)
            · rw [if_neg (by rw [t33]; decide)] at hq21
              refine st_no rfl rfl (by rw [t33]; rfl) (by decide) ?_
              refine st_no rfl rfl (by rw [t33]; rfl) (by decide) ?_
              refine st_no rfl rfl (by rw [t33]; rfl) (by decide) ?_
              refine st_no rfl rfl (by rw [t33]; rfl) (by decide) ?_
              refine st_no rfl rfl (by rw [t33]; rfl) (by decide) ?_
              refine st_no rfl rfl (by rw [t33]; rfl) (by decide) ?_
              refine st_no rfl rfl (by rw [t33]; rfl) (by decide) ?_
              refine st_no rfl rfl (by rw [t33]; rfl) (by decide) ?_
              refine st_val (ex_pick_f (congrArg (fun b => some (Value.bool b)) t33) rfl) (by decide) ⟨_, rfl, (congrArg (fun b => some (Value.bool b)) t32)⟩ ?_
              refine st_val (ex_pick_f (congrArg (fun b => some (Value.bool b)) t32) rfl) (by decide) trivial ?_
              have hq212 := Option.some.inj hq21
              refine wpF_end (r := [(0, u0), (1, (.int .i64 p1)), (7, u0), (8, (.int .i64 (p0.length : Int))), (9, (.int .i64 i3)), (37, (.bool false))]) ⟨rfl, rfl, rfl, rfl, rfl, rfl, trivial⟩ ?_
              subst hq212
              refine np_norm (fun a ha => ⟨ha, kp⟩)
      rintro a51 w22 ⟨ha, k49⟩
      have s50 := k49.stp 999 o1
      replace hB := hB.stp s50 (by decide)
      refine wl_of ha ?_
      refine wpF_end (r := [(0, u0), (1, (.int .i64 p1)), (7, u0), (8, (.int .i64 (p0.length : Int))), (9, (.int .i64 i3)), (37, (.bool q21))]) ⟨rfl, rfl, rfl, rfl, rfl, rfl, trivial⟩ ?_
      refine nx ?_
      refine wpC_cond rfl (fun t52 => ?_) (fun t52 => ?_)
      · rw [if_pos t52] at b10
        refine wpC_seq ?_
        refine wpC_region ?_
        refine st_val (ex_assign rfl) (by decide) trivial ?_
        refine wpF_end (r := [(4, (.bool false))]) ⟨rfl, trivial⟩ ?_
        refine nx ?_
        refine wpC_ret ?_
        refine nb_ret ?_
        refine nt_ret ?_
        refine nt_ret ?_
        refine nb_ret ?_
        refine np_ret ?_
        have e53 := Option.some.inj b10
        subst e53
        refine fun a ha => ⟨_, n11, ?_⟩
        refine ret_post (P := Try.prog) (vs := [(.bool false)]) Try.results71 ⟨rfl, trivial⟩ ?_ a ha
        exact ⟨rfl, hB.keeps⟩
      · rw [if_neg (by rw [t52]; decide)] at b10
        refine wpC_skip ?_
        refine nb_norm ?_
        refine nx ?_
        refine wpC_region ?_
        refine st_val (ex_add rfl rfl (ck_in (by omega) (by omega))) (by decide) trivial ?_
        refine st_val (ex_move rfl) (by decide) trivial ?_
        refine wpF_end (r := [(0, u0), (1, (.int .i64 p1)), (7, u0), (8, (.int .i64 (p0.length : Int))), (9, (.int .i64 (i3 + 1)))]) ⟨rfl, rfl, rfl, rfl, rfl, trivial⟩ ?_
        refine nt_norm ?_
        have e54 := Option.some.inj b10
        subst e54
        refine to_k (r := [(0, u0), (1, (.int .i64 p1)), (7, u0), (8, (.int .i64 (p0.length : Int))), (9, (.int .i64 (i3 + 1)))]) ⟨rfl, rfl, rfl, rfl, rfl, trivial⟩ ?_
        intro a ha
        exact ⟨_, (by rw [← m7]; simp only [List.length_drop]; omega), i3 + 1, o1, n11, rfl, (by omega), ha, hB⟩
    · have r55 := forI_done t12 l5
      refine wp_of ha ?_
      refine wpC_seq ?_
      refine wpC_region ?_
      refine st_val (ex_lss rfl rfl) (by decide) trivial ?_
      refine wpF_end (r := [(0, u0), (1, (.int .i64 p1)), (7, u0), (8, (.int .i64 (p0.length : Int))), (9, (.int .i64 i3)), (10, (.bool (decide (i3 < (p0.length : Int)))))]) ⟨rfl, rfl, rfl, rfl, rfl, rfl, trivial⟩ ?_
      refine nx ?_
      refine wpC_seq ?_
      refine wpC_false (congrArg (fun b => some (Value.bool b)) (decide_eq_false t12)) ?_
      refine wpC_exit ?_
      refine nt_exit ?_
      refine nt_exit ?_
      refine nb_hit ?_
      refine np_norm ?_
      refine to_k (r := []) trivial ?_
      intro a ha
      exact ⟨o1, r55, ha, hB⟩
  · rintro a w2 ⟨o1, rfl, ha, hB⟩
    dsimp only at hF
    refine ap_k ha ?_
    refine nx ?_
    refine wpC_seq ?_
    refine wpC_region ?_
    refine st_val (ex_assign rfl) (by decide) trivial ?_
    refine wpF_end (r := [(4, (.bool true))]) ⟨rfl, trivial⟩ ?_
    refine nx ?_
    refine wpC_ret ?_
    have e56 := Option.some.inj hF
    subst e56
    refine ret_post (P := Try.prog) (vs := [(.bool true)]) Try.results71 ⟨rfl, trivial⟩ ?_
    exact ⟨rfl, hB.keeps⟩
  · rintro a w2 ⟨r', rfl, b57⟩
    dsimp only at hF
    have e58 := Option.some.inj hF
    subst e58
    exact b57

def fS_waGood (p0 : T_WalkProblem) : Option Bool :=
  (fS_l1In p0.Labels 1 12) >>= fun x8 =>
  (
    if x8 then
      (fS_waArcs p0.Arcs p0.Labels) >>= fun x18 =>
      some x18
    else
      some false) >>= fun q14 =>
  some q14

def pS_waGood (w : World) (r : Bool) : Ending → World → Prop := fun e w' => e = .returned (.bool r) ∧ Keeps w w'
set_option maxRecDepth 100000 in
set_option maxHeartbeats 2000000 in
theorem cS_waGood (w : World) (u0 : List Value) (p0 : T_WalkProblem) (g0 : Rp.rd zt w u0 p0) (r : Bool) (hF : fS_waGood p0 = some r) :
    Calls Try.prog 37 #[.agg u0.toArray] w (pS_waGood w r) := by
  unfold fS_waGood at hF
  obtain ⟨v1, rfl, h2⟩ := g0
  have hB : Bs (fun _ => 1) (col (fun _ => 1)) w w := Bs.start _ _
  refine calls_start (n := 13) (vs := [(.agg #[(.int .i64 p0.Labels), v1])]) Try.func37 rfl rfl ?_
  refine wpC_seq ?_
  refine wpC_region ?_
  refine st_op (by decide) trivial ?_
  refine wf_box (o := (col (fun _ => 1))) w.heap.size 11 hB.keeps.size (cs := [(.int .i64 p0.Labels), v1]) rfl rfl ?_
  intro o3 w4 b5 h6 s7
  replace hB := hB.stp s7 (by decide)
  refine st_val (ex_assign rfl) (by decide) trivial ?_
  refine wpF_end (r := [(1, (.pointer (some ⟨b5, 0, none⟩)))]) ⟨rfl, trivial⟩ ?_
  refine nx ?_
  refine wpC_seq ?_
  refine wpC_region ?_
  refine st_val (ex_field rfl Try.underlying29 rfl Try.sizeOf3) (by decide) trivial ?_
  refine st_val (ex_load1 rfl Try.isAgg3 (h6.cell rfl)) (by decide) trivial ?_
  obtain ⟨x8, hx8, hF⟩ := bind_some hF
  refine st_op (by decide) trivial ?_
  refine wf_call (cS_l1In w4 p0.Labels 1 12 x8 hx8) Try.call70 ⟨rfl, rfl, rfl, trivial⟩ ?_
  rintro e13 w9 ⟨rfl, k10⟩
  have s12 := k10.stp 999 o3
  refine ⟨_, rfl, ?_⟩
  replace h6 := h6.stp s12 (by decide)
  replace hB := hB.stp s12 (by decide)
  refine st_val (ex_move rfl) (by decide) trivial ?_
  obtain ⟨q14, hq14, hF⟩ := bind_some hF
  refine wpF_cutAt 6 (fun a16 w15 => Fr a16 13 [(12, (.bool q14))] ∧ Keeps w9 w15) ?_ ?_
  all_goals simp only [List.take_succ_cons, List.take_zero, List.drop_succ_cons, List.drop_zero]
  · have kp : Keeps w9 w9 := Keeps.refl _
    rcases Bool.eq_false_or_eq_true (x8) with t17 | t17
    · rw [if_pos t17] at hq14
      refine st_val (ex_field rfl Try.underlying29 rfl Try.sizeOf22) (by decide) ⟨_, rfl, (congrArg (fun b => some (Value.bool b)) t17)⟩ ?_
      refine st_val (ex_load1 rfl Try.isAgg22 (h6.cell rfl)) (by decide) ⟨_, rfl, (congrArg (fun b => some (Value.bool b)) t17)⟩ ?_
      refine st_val (ex_field rfl Try.underlying29 rfl Try.sizeOf3) (by decide) ⟨_, rfl, (congrArg (fun b => some (Value.bool b)) t17)⟩ ?_
      refine st_val (ex_load1 rfl Try.isAgg3 (h6.cell rfl)) (by decide) ⟨_, rfl, (congrArg (fun b => some (Value.bool b)) t17)⟩ ?_
      obtain ⟨x18, hx18, hq14⟩ := bind_some hq14
      refine st_op (by decide) ⟨_, rfl, (congrArg (fun b => some (Value.bool b)) t17)⟩ ?_
      refine wf_call (cS_waArcs w9 _ p0.Arcs (h2.keep hB.keeps) p0.Labels x18 hx18) Try.call71 ⟨rfl, rfl, trivial⟩ ?_
      rintro e23 w19 ⟨rfl, k20⟩
      have s22 := k20.stp 999 o3
      refine ⟨_, rfl, ?_⟩
      replace h6 := h6.stp s22 (by decide)
      replace hB := hB.stp s22 (by decide)
      replace kp := Keeps.trans kp k20
      refine st_val (ex_pick_t (congrArg (fun b => some (Value.bool b)) t17) rfl) (by decide) trivial ?_
      have hq142 := Option.some.inj hq14
      refine wpF_end (r := [(12, (.bool x18))]) ⟨rfl, trivial⟩ ?_
      subst hq142
      refine np_norm (fun a ha => ⟨ha, kp⟩)
    · rw [if_neg (by rw [t17]; decide)] at hq14
      refine st_no rfl rfl (by rw [t17]; rfl) (by decide) ?_
      refine st_no rfl rfl (by rw [t17]; rfl) (by decide) ?_
      refine st_no rfl rfl (by rw [t17]; rfl) (by decide) ?_
      refine st_no rfl rfl (by rw [t17]; rfl) (by decide) ?_
      refine st_no rfl rfl (by rw [t17]; rfl) (by decide) ?_
      refine st_val (ex_pick_f (congrArg (fun b => some (Value.bool b)) t17) rfl) (by decide) trivial ?_
      have hq142 := Option.some.inj hq14
      refine wpF_end (r := [(12, (.bool false))]) ⟨rfl, trivial⟩ ?_
      subst hq142
      refine np_norm (fun a ha => ⟨ha, kp⟩)
  rintro a26 w15 ⟨ha, k24⟩
  have s25 := k24.stp 999 o3
  replace h6 := h6.stp s25 (by decide)
  replace hB := hB.stp s25 (by decide)
  refine wl_of ha ?_
  refine st_val (ex_assign rfl) (by decide) trivial ?_
  refine wpF_end (r := [(2, (.bool q14))]) ⟨rfl, trivial⟩ ?_
  refine nx ?_
  refine wpC_ret ?_
  have e27 := Option.some.inj hF
  subst e27
  refine ret_post (P := Try.prog) (vs := [(.bool q14)]) Try.results37 ⟨rfl, trivial⟩ ?_
  exact ⟨rfl, hB.keeps⟩

def fI_WalkProblem_hasLabels (p0 : T_WalkProblem) (p1 : List Int) : Option Bool :=
  (ck (p0.Labels - 1)) >>= fun x8 =>
  (fI_allWithin p1 0 x8) >>= fun x9 =>
  some x9

def pI_WalkProblem_hasLabels (w : World) (r : Bool) : Ending → World → Prop := fun e w' => e = .returned (.bool r) ∧ Keeps w w'
set_option maxRecDepth 100000 in
set_option maxHeartbeats 2000000 in
theorem cI_WalkProblem_hasLabels (w : World) (u0 : List Value) (p0 : T_WalkProblem) (g0 : Rp.rd zt w u0 p0) (u1 : Value) (p1 : List Int) (g1 : RdL zt w u1 p1) (r : Bool) (hF : fI_WalkProblem_hasLabels p0 p1 = some r) :
    Calls Try.prog 77 #[.agg u0.toArray, u1] w (pI_WalkProblem_hasLabels w r) := by
  unfold fI_WalkProblem_hasLabels at hF
  obtain ⟨v1, rfl, h2⟩ := g0
  have hB : Bs (fun _ => 1) (col (fun _ => 1)) w w := Bs.start _ _
  refine calls_start (n := 10) (vs := [(.agg #[(.int .i64 p0.Labels), v1]), u1]) Try.func77 rfl rfl ?_
  refine wpC_seq ?_
  refine wpC_region ?_
  refine st_op (by decide) trivial ?_
  refine wf_box (o := (col (fun _ => 1))) w.heap.size 11 hB.keeps.size (cs := [(.int .i64 p0.Labels), v1]) rfl rfl ?_
  intro o3 w4 b5 h6 s7
  replace hB := hB.stp s7 (by decide)
  refine st_val (ex_assign rfl) (by decide) trivial ?_
  refine wpF_end (r := [(1, u1), (2, (.pointer (some ⟨b5, 0, none⟩)))]) ⟨rfl, rfl, trivial⟩ ?_
  refine nx ?_
  refine wpC_seq ?_
  refine wpC_region ?_
  refine st_val (ex_move rfl) (by decide) trivial ?_
  refine st_val (ex_field rfl Try.underlying29 rfl Try.sizeOf3) (by decide) trivial ?_
  refine st_val (ex_load1 rfl Try.isAgg3 (h6.cell rfl)) (by decide) trivial ?_
  obtain ⟨x8, hx8, hF⟩ := bind_some hF
  refine st_val (ex_sub rfl rfl hx8) (by decide) trivial ?_
  obtain ⟨x9, hx9, hF⟩ := bind_some hF
  refine st_op (by decide) trivial ?_
  refine wf_call (cI_allWithin w4 _ p1 (g1.keep hB.keeps) 0 x8 x9 hx9) Try.call57 ⟨rfl, rfl, rfl, trivial⟩ ?_
  rintro e14 w10 ⟨rfl, k11⟩
  have s13 := k11.stp 999 o3
  refine ⟨_, rfl, ?_⟩
  replace h6 := h6.stp s13 (by decide)
  replace hB := hB.stp s13 (by decide)
  refine st_val (ex_assign rfl) (by decide) trivial ?_
  refine wpF_end (r := [(4, (.bool x9))]) ⟨rfl, trivial⟩ ?_
  refine nx ?_
  refine wpC_ret ?_
  have e15 := Option.some.inj hF
  subst e15
  refine ret_post (P := Try.prog) (vs := [(.bool x9)]) Try.results77 ⟨rfl, trivial⟩ ?_
  exact ⟨rfl, hB.keeps⟩

def fI_IsWalkProblem_s1 (p0 : T_WalkProblem) : Int → (List Int) → Unit → Option (Lp Unit Unit Bool) := fun (i18 : Int) (x28 : List Int) (s : Unit) =>
  (
    if (x28.length : Int) != 2 then
      some true
    else
      (fI_WalkProblem_hasLabels p0 x28) >>= fun x40 =>
      if !x40 then
        some true
      else
        if decide (i18 > 0) then
          (ck (i18 - 1)) >>= fun x48 =>
          (ix p0.Arcs x48) >>= fun x49 =>
          (fX_slices_Compare_int_int x49 x28) >>= fun x57 =>
          some (decide (x57 ≥ 0))
        else
          some false) >>= fun q36 =>
  if q36 then
    some (.ret false)
  else
    some (.go ())
def fI_IsWalkProblem (p0 : T_WalkProblem) : Option Bool :=
  (fI_within p0.Labels 1 12) >>= fun x8 =>
  if !x8 then
    some false
  else
    (forI (fI_IsWalkProblem_s1 p0) p0.Arcs 0 ()) >>= fun q19 =>
    match q19 with
    | .inl _ =>
      some true
    | .inr r' => some r'

def pI_IsWalkProblem (w : World) (r : Bool) : Ending → World → Prop := fun e w' => e = .returned (.bool r) ∧ Keeps w w'
set_option maxRecDepth 100000 in
set_option maxHeartbeats 2000000 in
theorem cI_IsWalkProblem (w : World) (u0 : List Value) (p0 : T_WalkProblem) (g0 : Rp.rd zt w u0 p0) (r : Bool) (hF : fI_IsWalkProblem p0 = some r) :
    Calls Try.prog 40 #[.agg u0.toArray] w (pI_IsWalkProblem w r) := by
  unfold fI_IsWalkProblem at hF
  obtain ⟨v1, rfl, h2⟩ := g0
  have hB : Bs (fun _ => 1) (col (fun _ => 1)) w w := Bs.start _ _
  refine calls_start (n := 42) (vs := [(.agg #[(.int .i64 p0.Labels), v1])]) Try.func40 rfl rfl ?_
  refine wpC_seq ?_
  refine wpC_region ?_
  refine st_op (by decide) trivial ?_
  refine wf_box (o := (col (fun _ => 1))) w.heap.size 11 hB.keeps.size (cs := [(.int .i64 p0.Labels), v1]) rfl rfl ?_
  intro o3 w4 b5 h6 s7
  replace hB := hB.stp s7 (by decide)
  refine st_val (ex_assign rfl) (by decide) trivial ?_
  refine wpF_end (r := [(1, (.pointer (some ⟨b5, 0, none⟩)))]) ⟨rfl, trivial⟩ ?_
  refine nx ?_
  refine wpC_seq ?_
  refine wpC_seq ?_
  refine wpC_region ?_
  refine st_val (ex_field rfl Try.underlying29 rfl Try.sizeOf3) (by decide) trivial ?_
  refine st_val (ex_load1 rfl Try.isAgg3 (h6.cell rfl)) (by decide) trivial ?_
  obtain ⟨x8, hx8, hF⟩ := bind_some hF
  refine st_op (by decide) trivial ?_
  refine wf_call (cI_within w4 p0.Labels 1 12 x8 hx8) Try.call76 ⟨rfl, rfl, rfl, trivial⟩ ?_
  rintro e13 w9 ⟨rfl, k10⟩
  have s12 := k10.stp 999 o3
  refine ⟨_, rfl, ?_⟩
  replace h6 := h6.stp s12 (by decide)
  replace hB := hB.stp s12 (by decide)
  refine st_val (ex_not rfl) (by decide) trivial ?_
  refine wpF_end (r := [(1, (.pointer (some ⟨b5, 0, none⟩))), (8, (.bool (!x8)))]) ⟨rfl, rfl, trivial⟩ ?_
  refine nx ?_
  refine wpC_cond rfl (fun t14 => ?_) (fun t14 => ?_)
  · rw [if_pos t14] at hF
    refine wpC_seq ?_
    refine wpC_region ?_
    refine st_val (ex_assign rfl) (by decide) trivial ?_
    refine wpF_end (r := [(2, (.bool false))]) ⟨rfl, trivial⟩ ?_
    refine nx ?_
    refine wpC_ret ?_
    refine nt_ret ?_
    have e15 := Option.some.inj hF
    subst e15
    refine ret_post (P := Try.prog) (vs := [(.bool false)]) Try.results40 ⟨rfl, trivial⟩ ?_
    exact ⟨rfl, hB.keeps⟩
  · rw [if_neg (by rw [t14]; decide)] at hF
    refine wpC_skip ?_
    refine nx ?_
    refine wpC_seq ?_
    refine wpC_seq ?_
    refine wpC_region ?_
    refine st_val (ex_field rfl Try.underlying29 rfl Try.sizeOf22) (by decide) trivial ?_
    refine st_val (ex_load1 rfl Try.isAgg22 (h6.cell rfl)) (by decide) trivial ?_
    refine st_val (ex_lenR rfl h2 Try.underlying22) (by decide) trivial ?_
    refine st_val (ex_move rfl) (by decide) trivial ?_
    refine wpF_end (r := [(1, (.pointer (some ⟨b5, 0, none⟩))), (10, v1), (11, (.int .i64 (p0.Arcs.length : Int))), (12, (.int .i64 0))]) ⟨rfl, rfl, rfl, rfl, trivial⟩ ?_
    refine nx ?_
    obtain ⟨q19, hq19, hF⟩ := bind_some hF
    refine wpC_cutN (fun a w17 => ∃ (o16 : Tg), q19 = .inl () ∧ Fr a 42 [] ∧ Bs (fun _ => 1) o16 w w17) (fun a w' => ∃ r', q19 = .inr r' ∧ bodyPost Try.prog Try.f40 (pI_IsWalkProblem w r') .ret a w') ?_ ?_ ?_
    · refine wpC_block ?_
      refine wpC_loop (fun (K : Nat) a w17 => ∃ (i18 : Int) (o16 : Tg), forI (fI_IsWalkProblem_s1 p0) (p0.Arcs.drop i18.toNat) i18 () = some q19 ∧ (p0.Arcs.drop i18.toNat).length = K ∧ 0 ≤ i18 ∧ Fr a 42 [(1, (.pointer (some ⟨b5, 0, none⟩))), (10, v1), (11, (.int .i64 (p0.Arcs.length : Int))), (12, (.int .i64 i18))] ∧ Bs (fun _ => 1) o16 w w17 ∧ Bx w.heap.size 11 o16 w17 b5 29 [(.int .i64 p0.Labels), v1]) _ (fun a ha => ⟨0, o3, hq19, rfl, Int.le_refl 0, ha.sub (r := [(1, (.pointer (some ⟨b5, 0, none⟩))), (10, v1), (11, (.int .i64 (p0.Arcs.length : Int))), (12, (.int .i64 0))]) ⟨rfl, rfl, rfl, rfl, trivial⟩, hB, h6⟩) ?_
      rintro K23 a w17 ⟨i18, o16, l20, m22, z21, ha, hB, h6⟩
      by_cases t27 : i18 < (p0.Arcs.length : Int)
      · obtain ⟨x28, q24, hx28, b25, n26⟩ := forI_cons z21 t27 l20
        have hle := h2.len_le
        dsimp only [fI_IsWalkProblem_s1] at b25
        refine wp_of ha ?_
        refine wpC_seq ?_
        refine wpC_region ?_
        refine st_val (ex_lss rfl rfl) (by decide) trivial ?_
        refine wpF_end (r := [(1, (.pointer (some ⟨b5, 0, none⟩))), (10, v1), (11, (.int .i64 (p0.Arcs.length : Int))), (12, (.int .i64 i18)), (13, (.bool (decide (i18 < (p0.Arcs.length : Int)))))]) ⟨rfl, rfl, rfl, rfl, rfl, trivial⟩ ?_
        refine nx ?_
        refine wpC_seq ?_
        refine wpC_true (congrArg (fun b => some (Value.bool b)) (decide_eq_true t27)) ?_
        refine wpC_skip ?_
        refine nx ?_
        refine wpC_seq ?_
        refine wpC_block ?_
        refine wpC_seq ?_
        refine wpC_region ?_
        refine st_val (ex_move rfl) (by decide) trivial ?_
        refine st_op (by decide) trivial ?_
        refine wf_atZ h2 hx28 hB rfl rfl Try.underlying22 Try.sizeOf26 ?_
        intro b29 f30 c31 h32 h33
        obtain ⟨v34, rfl, h35⟩ := h33
        refine st_val (ex_load1 rfl Try.isAgg26 (cell_of_cells h32)) (by decide) trivial ?_
        refine st_val (ex_assign rfl) (by decide) trivial ?_
        refine st_val (ex_assign rfl) (by decide) trivial ?_
        refine wpF_end (r := [(1, (.pointer (some ⟨b5, 0, none⟩))), (3, (.int .i64 i18)), (4, v34), (10, v1), (11, (.int .i64 (p0.Arcs.length : Int))), (12, (.int .i64 i18))]) ⟨rfl, rfl, rfl, rfl, rfl, rfl, trivial⟩ ?_
        refine nx ?_
        refine wpC_seq ?_
        refine wpC_region ?_
        refine st_val (ex_move rfl) (by decide) trivial ?_
        refine st_val (ex_lenR rfl h35 Try.underlying26) (by decide) trivial ?_
        refine st_val (ex_neq rfl rfl) (by decide) trivial ?_
        refine st_val (ex_move rfl) (by decide) trivial ?_
        obtain ⟨q36, hq36, b25⟩ := bind_some b25
        refine wpF_cutAt 20 (fun a38 w37 => Fr a38 42 [(1, (.pointer (some ⟨b5, 0, none⟩))), (10, v1), (11, (.int .i64 (p0.Arcs.length : Int))), (12, (.int .i64 i18)), (40, (.bool q36))] ∧ Keeps w17 w37) ?_ ?_
        all_goals simp only [List.take_succ_cons, List.take_zero, List.drop_succ_cons, List.drop_zero]
        · have kp : Keeps w17 w17 := Keeps.refl _
          rcases Bool.eq_false_or_eq_true ((x28.length : Int) != 2) with t39 | t39
          · rw [if_pos t39] at hq36
            refine st_no rfl rfl (by rw [t39]; rfl) (by decide) ?_
            refine st_no rfl rfl (by rw [t39]; rfl) (by decide) ?_
            refine st_no rfl rfl (by rw [t39]; rfl) (by decide) ?_
            refine st_no rfl rfl (by rw [t39]; rfl) (by decide) ?_
            refine st_val (ex_pick_t (congrArg (fun b => some (Value.bool b)) t39) rfl) (by decide) trivial ?_
            refine st_val (ex_move rfl) (by decide) trivial ?_
            refine st_no rfl rfl rfl (by decide) ?_
            refine st_no rfl rfl rfl (by decide) ?_
            refine st_no rfl rfl rfl (by decide) ?_
            refine st_no2 rfl rfl (by decide) ?_
            refine st_no2 rfl rfl (by decide) ?_
            refine st_no2 rfl rfl (by decide) ?_
            refine st_no2 rfl rfl (by decide) ?_
            refine st_no2 rfl rfl (by decide) ?_
            refine st_no2 rfl rfl (by decide) ?_
            refine st_no2 rfl rfl (by decide) ?_
            refine st_no2 rfl rfl (by decide) ?_
            refine st_no2 rfl rfl (by decide) ?_
            refine st_no rfl rfl rfl (by decide) ?_
            refine st_val (ex_pick_t rfl rfl) (by decide) trivial ?_
            have hq362 := Option.some.inj hq36
            refine wpF_end (r := [(1, (.pointer (some ⟨b5, 0, none⟩))), (10, v1), (11, (.int .i64 (p0.Arcs.length : Int))), (12, (.int .i64 i18)), (40, (.bool true))]) ⟨rfl, rfl, rfl, rfl, rfl, trivial⟩ ?_
            subst hq362
            refine np_norm (fun a ha => ⟨ha, kp⟩)
          · rw [if_neg (by rw [t39]; decide)] at hq36
            refine st_val (ex_loadA rfl Try.isAgg29 Try.sizeOf29 rfl h6.cells) (by decide) ⟨_, rfl, (congrArg (fun b => some (Value.bool b)) t39)⟩ ?_
            refine st_val (ex_move rfl) (by decide) ⟨_, rfl, (congrArg (fun b => some (Value.bool b)) t39)⟩ ?_
            obtain ⟨x40, hx40, hq36⟩ := bind_some hq36
            refine st_op (by decide) ⟨_, rfl, (congrArg (fun b => some (Value.bool b)) t39)⟩ ?_
            refine wf_call (cI_WalkProblem_hasLabels w17 _ p0 (⟨_, rfl, (h2.keep hB.keeps)⟩) _ x28 (h35.keep hB.keeps) x40 hx40) Try.call77 ⟨rfl, rfl, trivial⟩ ?_
            rintro e45 w41 ⟨rfl, k42⟩
            have s44 := k42.stp 999 o16
            refine ⟨_, rfl, ?_⟩
            replace h6 := h6.stp s44 (by decide)
            replace hB := hB.stp s44 (by decide)
            replace kp := Keeps.trans kp k42
            refine st_val (ex_not rfl) (by decide) ⟨_, rfl, (congrArg (fun b => some (Value.bool b)) t39)⟩ ?_
            refine st_val (ex_pick_f (congrArg (fun b => some (Value.bool b)) t39) rfl) (by decide) trivial ?_
            refine st_val (ex_move rfl) (by decide) trivial ?_
            rcases Bool.eq_false_or_eq_true (!x40) with t46 | t46
            · rw [if_pos t46] at hq36
              refine st_no rfl rfl (by rw [t46]; rfl) (by decide) ?_
              refine st_no rfl rfl (by rw [t46]; rfl) (by decide) ?_
              refine st_no rfl rfl (by rw [t46]; rfl) (by decide) ?_
              refine st_no2 rfl rfl (by decide) ?_
              refine st_no2 rfl rfl (by decide) ?_
              refine st_no2 rfl rfl (by decide) ?_
              refine st_no2 rfl rfl (by decide) ?_
              refine st_no2 rfl rfl (by decide) ?_
              refine st_no2 rfl rfl (by decide) ?_
              refine st_no2 rfl rfl (by decide) ?_
              refine st_no2 rfl rfl (by decide) ?_
              refine st_no2 rfl rfl (by decide) ?_
              refine st_no rfl rfl (by rw [t46]; rfl) (by decide) ?_
              refine st_val (ex_pick_t (congrArg (fun b => some (Value.bool b)) t46) rfl) (by decide) trivial ?_
              have hq362 := Option.some.inj hq36
              refine wpF_end (r := [(1, (.pointer (some ⟨b5, 0, none⟩))), (10, v1), (11, (.int .i64 (p0.Arcs.length : Int))), (12, (.int .i64 i18)), (40, (.bool true))]) ⟨rfl, rfl, rfl, rfl, rfl, trivial⟩ ?_
              subst hq362
              refine np_norm (fun a ha => ⟨ha, kp⟩)
            · rw [if_neg (by rw [t46]; decide)] at hq36
              refine st_val (ex_move rfl) (by decide) ⟨_, rfl, (congrArg (fun b => some (Value.bool b)) t46)⟩ ?_
              refine st_val (ex_gtr rfl rfl) (by decide) ⟨_, rfl, (congrArg (fun b => some (Value.bool b)) t46)⟩ ?_
              refine st_val (ex_move rfl) (by decide) ⟨_, rfl, (congrArg (fun b => some (Value.bool b)) t46)⟩ ?_
              rcases Bool.eq_false_or_eq_true (decide (i18 > 0)) with t47 | t47
              · rw [if_pos t47] at hq36
                refine st_val (ex_field rfl Try.underlying29 rfl Try.sizeOf22) (by decide) ⟨_, rfl, (congrArg (fun b => some (Value.bool b)) t47)⟩ ?_
                refine st_val (ex_load1 rfl Try.isAgg22 (h6.cell rfl)) (by decide) ⟨_, rfl, (congrArg (fun b => some (Value.bool b)) t47)⟩ ?_
                refine st_val (ex_move rfl) (by decide) ⟨_, rfl, (congrArg (fun b => some (Value.bool b)) t47)⟩ ?_
                obtain ⟨x48, hx48, hq36⟩ := bind_some hq36
                refine st_val (ex_sub rfl rfl hx48) (by decide) ⟨_, rfl, (congrArg (fun b => some (Value.bool b)) t47)⟩ ?_
                obtain ⟨x49, hx49, hq36⟩ := bind_some hq36
                refine st_op (by decide) ⟨_, rfl, (congrArg (fun b => some (Value.bool b)) t47)⟩ ?_
                refine wf_atZ h2 hx49 hB rfl rfl Try.underlying22 Try.sizeOf26 ?_
                intro b50 f51 c52 h53 h54
                obtain ⟨v55, rfl, h56⟩ := h54
                refine st_val (ex_load1 rfl Try.isAgg26 (cell_of_cells h53)) (by decide) ⟨_, rfl, (congrArg (fun b => some (Value.bool b)) t47)⟩ ?_
                refine st_val (ex_move rfl) (by decide) ⟨_, rfl, (congrArg (fun b => some (Value.bool b)) t47)⟩ ?_
                obtain ⟨x57, hx57, hq36⟩ := bind_some hq36
                refine st_op (by decide) ⟨_, rfl, (congrArg (fun b => some (Value.bool b)) t47)⟩ ?_
                refine wf_call (cX_slices_Compare_int_int w41 _ x49 (h56.keep hB.keeps) _ x28 (h35.keep hB.keeps) x57 hx57) Try.call78 ⟨rfl, rfl, trivial⟩ ?_
                rintro e62 w58 ⟨rfl, k59⟩
                have s61 := k59.stp 999 o16
                refine ⟨_, rfl, ?_⟩
                replace h6 := h6.stp s61 (by decide)
                replace hB := hB.stp s61 (by decide)
                replace kp := Keeps.trans kp k59
                refine st_val (ex_geq rfl rfl) (by decide) ⟨_, rfl, (congrArg (fun b => some (Value.bool b)) t47)⟩ ?_
                refine st_val (ex_pick_t (congrArg (fun b => some (Value.bool b)) t47) rfl) (by decide) ⟨_, rfl, (congrArg (fun b => some (Value.bool b)) t46)⟩ ?_
                refine st_val (ex_pick_f (congrArg (fun b => some (Value.bool b)) t46) rfl) (by decide) trivial ?_
                have hq362 := Option.some.inj hq36
                refine wpF_end (r := [(1, (.pointer (some ⟨b5, 0, none⟩))), (10, v1), (11, (.int .i64 (p0.Arcs.length : Int))), (12, (.int .i64 i18)), (40, (.bool (decide (x57 ≥ 0))))]) ⟨rfl, rfl, rfl, rfl, rfl, trivial⟩ ?_
                subst hq362
                refine np_norm (fun a ha => ⟨ha, kp⟩)
              · rw [if_neg (by rw [t47]; decide)] at hq36
                refine st_no rfl rfl (by rw [t47]; rfl) (by decide) ?_
                refine st_no rfl rfl (by rw [t47]; rfl) (by decide) ?_
                refine st_no rfl rfl (by rw [t47]; rfl) (by decide) ?_
                refine st_no rfl rfl (by rw [t47]; rfl) (by decide) ?_
                refine st_no rfl rfl (by rw [t47]; rfl) (by decide) ?_
                refine st_no rfl rfl (by rw [t47]; rfl) (by decide) ?_
                refine st_no rfl rfl (by rw [t47]; rfl) (by decide) ?_
                refine st_no rfl rfl (by rw [t47]; rfl) (by decide) ?_
                refine st_no rfl rfl (by rw [t47]; rfl) (by decide) ?_
                refine st_val (ex_pick_f (congrArg (fun b => some (Value.bool b)) t47) rfl) (by decide) ⟨_, rfl, (congrArg (fun b => some (Value.bool b)) t46)⟩ ?_
                refine st_val (ex_pick_f (congrArg (fun b => some (Value.bool b)) t46) rfl) (by decide) trivial ?_
                have hq362 := Option.some.inj hq36
                refine wpF_end (r := [(1, (.pointer (some ⟨b5, 0, none⟩))), (10, v1), (11, (.int .i64 (p0.Arcs.length : Int))), (12, (.int .i64 i18)), (40, (.bool false))]) ⟨rfl, rfl, rfl, rfl, rfl, trivial⟩ ?_
                subst hq362
                refine np_norm (fun a ha => ⟨ha, kp⟩)
        rintro a65 w37 ⟨ha, k63⟩
        have s64 := k63.stp 999 o16
        replace h6 := h6.stp s64 (by decide)
        replace hB := hB.stp s64 (by decide)
        refine wl_of ha ?_
        refine wpF_end (r := [(1, (.pointer (some ⟨b5, 0, none⟩))), (10, v1), (11, (.int .i64 (p0.Arcs.length : Int))), (12, (.int .i64 i18)), (40, (.bool q36))]) ⟨rfl, rfl, rfl, rfl, rfl, trivial⟩ ?_
        refine nx ?_
        refine wpC_cond rfl (fun t66 => ?_) (fun t66 => ?_)
        · rw [if_pos t66] at b25
          refine wpC_seq ?_
          refine wpC_region ?_
          refine st_val (ex_assign rfl) (by decide) trivial ?_
          refine wpF_end (r := [(2, (.bool false))]) ⟨rfl, trivial⟩ ?_
          refine nx ?_
          refine wpC_ret ?_
          refine nb_ret ?_
          refine nt_ret ?_
          refine nt_ret ?_
          refine nb_ret ?_
          refine np_ret ?_
          have e67 := Option.some.inj b25
          subst e67
          refine fun a ha => ⟨_, n26, ?_⟩
          refine ret_post (P := Try.prog) (vs := [(.bool false)]) Try.results40 ⟨rfl, trivial⟩ ?_ a ha
          exact ⟨rfl, hB.keeps⟩
        · rw [if_neg (by rw [t66]; decide)] at b25
          refine wpC_skip ?_
          refine nb_norm ?_
          refine nx ?_
          refine wpC_region ?_
          refine st_val (ex_add rfl rfl (ck_in (by omega) (by omega))) (by decide) trivial ?_
          refine st_val (ex_move rfl) (by decide) trivial ?_
          refine wpF_end (r := [(1, (.pointer (some ⟨b5, 0, none⟩))), (10, v1), (11, (.int .i64 (p0.Arcs.length : Int))), (12, (.int .i64 (i18 + 1)))]) ⟨rfl, rfl, rfl, rfl, trivial⟩ ?_
          refine nt_norm ?_
          have e68 := Option.some.inj b25
          subst e68
          refine to_k (r := [(1, (.pointer (some ⟨b5, 0, none⟩))), (10, v1), (11, (.int .i64 (p0.Arcs.length : Int))), (12, (.int .i64 (i18 + 1)))]) ⟨rfl, rfl, rfl, rfl, trivial⟩ ?_
          intro a ha
          exact ⟨_, (by rw [← m22]; simp only [List.length_drop]; omega), i18 + 1, o16, n26, rfl, (by omega), ha, hB, h6⟩
      · have r69 := forI_done t27 l20
        refine wp_of ha ?_
        refine wpC_seq ?_
        refine wpC_region ?_
        refine st_val (ex_lss rfl rfl) (by decide) trivial ?_
        refine wpF_end (r := [(1, (.pointer (some ⟨b5, 0, none⟩))), (10, v1), (11, (.int .i64 (p0.Arcs.length : Int))), (12, (.int .i64 i18)), (13, (.bool (decide (i18 < (p0.Arcs.length : Int)))))]) ⟨rfl, rfl, rfl, rfl, rfl, trivial⟩ ?_
        refine nx ?_
        refine wpC_seq ?_
        refine wpC_false (congrArg (fun b => some (Value.bool b)) (decide_eq_false t27)) ?_
        refine wpC_exit ?_
        refine nt_exit ?_
        refine nt_exit ?_
        refine nb_hit ?_
        refine np_norm ?_
        refine to_k (r := []) trivial ?_
        intro a ha
        exact ⟨o16, r69, ha, hB⟩
    · rintro a w17 ⟨o16, rfl, ha, hB⟩
      dsimp only at hF
      refine ap_k ha ?_
      refine nx ?_
      refine wpC_seq ?_
      refine wpC_region ?_
      refine st_val (ex_assign rfl) (by decide) trivial ?_
      refine wpF_end (r := [(2, (.bool true))]) ⟨rfl, trivial⟩ ?_
      refine nx ?_
      refine wpC_ret ?_
      have e70 := Option.some.inj hF
      subst e70
      refine ret_post (P := Try.prog) (vs := [(.bool true)]) Try.results40 ⟨rfl, trivial⟩ ?_
      exact ⟨rfl, hB.keeps⟩
    · rintro a w17 ⟨r', rfl, b71⟩
      dsimp only at hF
      have e72 := Option.some.inj hF
      subst e72
      exact b71

def fI_WalkProblem_after_s1 : Int → (List Int) → (List Int) → Option (Lp (List Int) (List Int) (List Int)) := fun (i18 : Int) (x28 : List Int) (s : List Int) =>
  (ix x28 0) >>= fun x36 =>
  (ix s x36) >>= fun x39 =>
  (ix x28 1) >>= fun x42 =>
  (shl 1 x42) >>= fun x45 =>
  (ix s x36) >>= fun x106 =>
  (st s x36 (bor x39 x45)) >>= fun x115 =>
  some (.go x115)
def fI_WalkProblem_after (p0 : T_WalkProblem) : Option (List Int) :=
  (mk (Rz.z : Int) p0.Labels) >>= fun x8 =>
  (forI (fI_WalkProblem_after_s1) p0.Arcs 0 x8) >>= fun q19 =>
  match q19 with
  | .inl y14 =>
    some y14
  | .inr _ => none

def pI_WalkProblem_after (oo : Tg) (t : Nat) (w : World) (r : List Int) : Ending → World → Prop := fun e w' => ∃ (v0 : Value) (o' : Tg), e = .returned (v0) ∧ Ow w.heap.size 3 t o' w' v0 r ∧ Keeps w w' ∧ ∀ b, b < w.heap.size → o' b = oo b
set_option maxRecDepth 100000 in
set_option maxHeartbeats 2000000 in
theorem cI_WalkProblem_after (w : World) (oo : Tg) (t : Nat) (ht : 2 ≤ t) (u0 : List Value) (p0 : T_WalkProblem) (g0 : Rp.rd zt w u0 p0) (r : List Int) (hF : fI_WalkProblem_after p0 = some r) :
    Calls Try.prog 80 #[.agg u0.toArray] w (pI_WalkProblem_after oo t w r) := by
  unfold fI_WalkProblem_after at hF
  obtain ⟨v1, rfl, h2⟩ := g0
  have hB : Bs oo (col oo) w w := Bs.start _ _
  refine calls_start (n := 30) (vs := [(.agg #[(.int .i64 p0.Labels), v1])]) Try.func80 rfl rfl ?_
  generalize col oo = o at *
  refine wpC_seq ?_
  refine wpC_region ?_
  refine st_op (by decide) trivial ?_
  refine wf_box (o := o) w.heap.size 11 hB.keeps.size (cs := [(.int .i64 p0.Labels), v1]) rfl rfl ?_
  intro o3 w4 b5 h6 s7
  replace hB := hB.stp s7 (by decide)
  refine st_val (ex_assign rfl) (by decide) trivial ?_
  refine wpF_end (r := [(1, (.pointer (some ⟨b5, 0, none⟩)))]) ⟨rfl, trivial⟩ ?_
  refine nx ?_
  refine wpC_seq ?_
  refine wpC_region ?_
  refine st_val (ex_field rfl Try.underlying29 rfl Try.sizeOf3) (by decide) trivial ?_
  refine st_val (ex_load1 rfl Try.isAgg3 (h6.cell rfl)) (by decide) trivial ?_
  obtain ⟨x8, hx8, hF⟩ := bind_some hF
  refine st_op (by decide) trivial ?_
  refine wf_make (o := o3) w.heap.size 12 hB.keeps.size hx8 rfl rfl Try.underlying26 info2_t_int_I rfl (by decide) ?_
  intro o9 w10 v11 h12 s13
  replace h6 := h6.stp s13 (by decide)
  replace hB := hB.stp s13 (by decide)
  refine st_val (ex_assign rfl) (by decide) trivial ?_
  refine wpF_end (r := [(1, (.pointer (some ⟨b5, 0, none⟩))), (3, v11)]) ⟨rfl, rfl, trivial⟩ ?_
  refine nx ?_
  refine wpC_seq ?_
  refine wpC_seq ?_
  refine wpC_region ?_
  refine st_val (ex_field rfl Try.underlying29 rfl Try.sizeOf22) (by decide) trivial ?_
  refine st_val (ex_load1 rfl Try.isAgg22 (h6.cell rfl)) (by decide) trivial ?_
  refine st_val (ex_lenR rfl h2 Try.underlying22) (by decide) trivial ?_
  refine st_val (ex_move rfl) (by decide) trivial ?_
  refine wpF_end (r := [(3, v11), (10, v1), (11, (.int .i64 (p0.Arcs.length : Int))), (12, (.int .i64 0))]) ⟨rfl, rfl, rfl, rfl, trivial⟩ ?_
  refine nx ?_
  obtain ⟨q19, hq19, hF⟩ := bind_some hF
  refine wpC_cutN (fun a w17 => ∃ (y14 : List Int) (o16 : Tg), q19 = .inl y14 ∧ Fr a 30 [(3, v11)] ∧ Bs oo o16 w w17 ∧ Ow w.heap.size 3 12 o16 w17 v11 y14) (fun _ _ => False) ?_ ?_ ?_
  · refine wpC_block ?_
    refine wpC_loop (fun (K : Nat) a w17 => ∃ (i18 : Int) (y14 : List Int) (o16 : Tg), forI (fI_WalkProblem_after_s1) (p0.Arcs.drop i18.toNat) i18 y14 = some q19 ∧ (p0.Arcs.drop i18.toNat).length = K ∧ 0 ≤ i18 ∧ Fr a 30 [(3, v11), (10, v1), (11, (.int .i64 (p0.Arcs.length : Int))), (12, (.int .i64 i18))] ∧ Bs oo o16 w w17 ∧ Ow w.heap.size 3 12 o16 w17 v11 y14) _ (fun a ha => ⟨0, x8, o9, hq19, rfl, Int.le_refl 0, ha.sub (r := [(3, v11), (10, v1), (11, (.int .i64 (p0.Arcs.length : Int))), (12, (.int .i64 0))]) ⟨rfl, rfl, rfl, rfl, trivial⟩, hB, h12⟩) ?_
    rintro K23 a w17 ⟨i18, y14, o16, l20, m22, z21, ha, hB, h15⟩
    by_cases t27 : i18 < (p0.Arcs.length : Int)
    · obtain ⟨x28, q24, hx28, b25, n26⟩ := forI_cons z21 t27 l20
      have hle := h2.len_le
      dsimp only [fI_WalkProblem_after_s1] at b25
      refine wp_of ha ?_
      refine wpC_seq ?_
      refine wpC_region ?_
      refine st_val (ex_lss rfl rfl) (by decide) trivial ?_
      refine wpF_end (r := [(3, v11), (10, v1), (11, (.int .i64 (p0.Arcs.length : Int))), (12, (.int .i64 i18)), (13, (.bool (decide (i18 < (p0.Arcs.length : Int)))))]) ⟨rfl, rfl, rfl, rfl, rfl, trivial⟩ ?_
      refine nx ?_
      refine wpC_seq ?_
      refine wpC_true (congrArg (fun b => some (Value.bool b)) (decide_eq_true t27)) ?_
      refine wpC_skip ?_
      refine nx ?_
      refine wpC_seq ?_
      refine wpC_block ?_
      refine wpC_seq ?_
      refine wpC_region ?_
      refine st_op (by decide) trivial ?_
      refine wf_atZ h2 hx28 hB rfl rfl Try.underlying22 Try.sizeOf26 ?_
      intro b29 f30 c31 h32 h33
      obtain ⟨v34, rfl, h35⟩ := h33
      refine st_val (ex_load1 rfl Try.isAgg26 (cell_of_cells h32)) (by decide) trivial ?_
      refine st_val (ex_assign rfl) (by decide) trivial ?_
      refine wpF_end (r := [(3, v11), (5, v34), (10, v1), (11, (.int .i64 (p0.Arcs.length : Int))), (12, (.int .i64 i18))]) ⟨rfl, rfl, rfl, rfl, rfl, trivial⟩ ?_
      refine nx ?_
      obtain ⟨x36, hx36, b25⟩ := bind_some b25
      obtain ⟨x39, hx39, b25⟩ := bind_some b25
      obtain ⟨x42, hx42, b25⟩ := bind_some b25
      obtain ⟨x45, hx45, b25⟩ := bind_some b25
      refine wpC_drawn (o := o16) [(3, v11), (5, v34), (10, v1), (11, (.int .i64 (p0.Arcs.length : Int))), (12, (.int .i64 i18))] [3, 5, 10, 11, 12] [16, 17, 18, 19, 20, 21, 22, 23, 24, 25] [[], [], [1], [2], [0, 3], [4], [], [6], [7], [8]] [none, none, none, none, none, none, none, none, none, none] [999, 999, 999, 999, 999, 999, 999, 999, 999, 999] [0, 0, 0, 0, 12, 0, 0, 0, 0, 0] [999] [fun v _ _ => v = v11, fun v _ _ => v = v34, fun v o w9 => ∃ vl, v = adr vl ((0 : Int).toNat * Rp.sz Int) ∧ RdL zt w vl x28, fun v _ _ => v = (.int .i64 x36), fun v o w9 => ∃ vl, v = adr vl (x36.toNat * Rp.sz Int) ∧ Ow w.heap.size 3 12 o w9 vl y14, fun v _ _ => v = (.int .i64 x39), fun v _ _ => v = v34, fun v o w9 => ∃ vl, v = adr vl ((1 : Int).toNat * Rp.sz Int) ∧ RdL zt w vl x28, fun v _ _ => v = (.int .i64 x42), fun v _ _ => v = (.int .i64 x45)] (fun o8 w8 => Bs oo o8 w w8 ∧ Ow w.heap.size 3 12 o8 w8 v11 y14) follows_mixed (by kernel_rfl) rfl ⟨rfl, rfl, rfl, rfl, rfl, trivial⟩ ⟨hB, h15⟩ ?_ ⟨st_eq _, st_eq _, fun _ _ _ _ _ _ h0 hb ⟨vl, e, h⟩ hs => ⟨vl, e, h⟩, st_eq _, fun _ _ _ _ _ _ h0 hb ⟨vl, e, h⟩ hs => ⟨vl, e, h.stp hs h0.1 (Ne.symm hb)⟩, st_eq _, st_eq _, fun _ _ _ _ _ _ h0 hb ⟨vl, e, h⟩ hs => ⟨vl, e, h⟩, st_eq _, st_eq _, trivial⟩ ?_ ?_
      · rintro t9 o1 w1 o2 w2 ht9 ⟨hB, h15⟩ hs9
        have ht9 : t9 = 999 := by simpa using ht9
        subst ht9
        all_goals exact ⟨hB.stp hs9 (by decide), h15.stp hs9 (by decide) (by decide)⟩
      · refine ⟨?_, ?_, ?_, ?_, ?_, ?_, ?_, ?_, ?_, ?_, trivial⟩
        · rintro o46 w47 a48 ha ⟨hB, h15⟩ -
          refine opS_of ha (trivial) ?_
          refine op1_val (ex_move rfl) ?_
          exact ⟨_, Stp.refl _ _ _, rfl⟩
        · rintro o49 w50 a51 ha ⟨hB, h15⟩ -
          refine opS_of ha (trivial) ?_
          refine op1_val (ex_move rfl) ?_
          exact ⟨_, Stp.refl _ _ _, rfl⟩
        · rintro o52 w53 a54 ha ⟨hB, h15⟩ ⟨r55, -⟩
          have ha := Fr.cons (d := 17) ha r55
          refine opS_of ha (trivial) ?_
          refine wd_indexR h35 hx36 rfl rfl Try.underlying26 Try.sizeOf3 ?_
          exact ⟨_, Stp.refl _ _ _, ⟨_, rfl, h35⟩⟩
        · rintro o56 w57 a58 ha ⟨hB, h15⟩ ⟨r59, -⟩
          obtain ⟨v60, e61, h62⟩ := r59
          have ha := Fr.cons (d := 18) ha e61
          refine opS_of ha (trivial) ?_
          refine wd_load1Z h62 hx36 hB rfl rfl Try.isAgg3 ?_
          intro c63 h64
          cases h64
          exact ⟨_, Stp.refl _ _ _, rfl⟩
        · rintro o65 w66 a67 ha ⟨hB, h15⟩ ⟨r68, r69, -⟩
          have ha := Fr.cons (d := 16) ha r68
          have ha := Fr.cons (d := 19) ha r69
          refine opS_of ha (trivial) ?_
          refine wd_indexW h15 hx39 rfl rfl Try.underlying26 Try.sizeOf3 ?_
          exact ⟨_, Stp.refl _ _ _, ⟨_, rfl, h15⟩⟩
        · rintro o70 w71 a72 ha ⟨hB, h15⟩ ⟨r73, -⟩
          obtain ⟨v74, e75, h76⟩ := r73
          have ha := Fr.cons (d := 20) ha e75
          refine opS_of ha (trivial) ?_
          refine wd_load1W h76 hx39 rfl rfl Try.isAgg3 ?_
          intro c77 h78
          cases h78
          exact ⟨_, Stp.refl _ _ _, rfl⟩
        · rintro o79 w80 a81 ha ⟨hB, h15⟩ -
          refine opS_of ha (trivial) ?_
          refine op1_val (ex_move rfl) ?_
          exact ⟨_, Stp.refl _ _ _, rfl⟩
        · rintro o82 w83 a84 ha ⟨hB, h15⟩ ⟨r85, -⟩
          have ha := Fr.cons (d := 22) ha r85
          refine opS_of ha (trivial) ?_
          refine wd_indexR h35 hx42 rfl rfl Try.underlying26 Try.sizeOf3 ?_
          exact ⟨_, Stp.refl _ _ _, ⟨_, rfl, h35⟩⟩
        · rintro o86 w87 a88 ha ⟨hB, h15⟩ ⟨r89, -⟩
          obtain ⟨v90, e91, h92⟩ := r89
          have ha := Fr.cons (d := 23) ha e91
          refine opS_of ha (trivial) ?_
          refine wd_load1Z h92 hx42 hB rfl rfl Try.isAgg3 ?_
          intro c93 h94
          cases h94
          exact ⟨_, Stp.refl _ _ _, rfl⟩
        · rintro o95 w96 a97 ha ⟨hB, h15⟩ ⟨r98, -⟩
          have ha := Fr.cons (d := 24) ha r98
          refine opS_of ha (trivial) ?_
          refine op1_val (ex_shl rfl rfl hx45) ?_
          exact ⟨_, Stp.refl _ _ _, rfl⟩
      rintro o99 w100 a101 ha ⟨hB, h15⟩ ⟨r102, -, -, r103, -, r104, -, -, -, r105, -⟩
      have ha := Fr.cons (d := 16) ha r102
      have ha := Fr.cons (d := 19) ha r103
      have ha := Fr.cons (d := 21) ha r104
      have ha := Fr.cons (d := 25) ha r105
      refine wl_of ha ?_
      simp only [List.length_cons, List.length_nil, Nat.zero_add, Nat.reduceAdd, List.drop_succ_cons, List.drop_zero]
      refine st_val (ex_or rfl rfl) (by decide) trivial ?_
      obtain ⟨x106, hx106, b25⟩ := bind_some b25
      refine st_op (by decide) trivial ?_
      refine wf_atP h15 hx106 rfl rfl Try.underlying26 Try.sizeOf3 ?_
      intro b107 c109 h112 h110 h111
      cases h111
      obtain ⟨x115, hx115, b25⟩ := bind_some b25
      refine st_op0 trivial ?_
      refine wf_storeW h15 h112 hx115 rfl (by decide) rfl rfl rfl Try.sizeOf3 rfl ?_
      intro w113 h116 s114
      replace hB := hB.stp s114 (by decide)
      refine wpF_end (r := [(3, v11), (10, v1), (11, (.int .i64 (p0.Arcs.length : Int))), (12, (.int .i64 i18))]) ⟨rfl, rfl, rfl, rfl, trivial⟩ ?_
      refine nb_norm ?_
      refine nx ?_
      refine wpC_region ?_
      refine st_val (ex_add rfl rfl (ck_in (by omega) (by omega))) (by decide) trivial ?_
      refine st_val (ex_move rfl) (by decide) trivial ?_
      refine wpF_end (r := [(3, v11), (10, v1), (11, (.int .i64 (p0.Arcs.length : Int))), (12, (.int .i64 (i18 + 1)))]) ⟨rfl, rfl, rfl, rfl, trivial⟩ ?_
      refine nt_norm ?_
      have e117 := Option.some.inj b25
      subst e117
      refine to_k (r := [(3, v11), (10, v1), (11, (.int .i64 (p0.Arcs.length : Int))), (12, (.int .i64 (i18 + 1)))]) ⟨rfl, rfl, rfl, rfl, trivial⟩ ?_
      intro a ha
      exact ⟨_, (by rw [← m22]; simp only [List.length_drop]; omega), i18 + 1, x115, o99, n26, rfl, (by omega), ha, hB, h116⟩
    · have r118 := forI_done t27 l20
      refine wp_of ha ?_
      refine wpC_seq ?_
      refine wpC_region ?_
      refine st_val (ex_lss rfl rfl) (by decide) trivial ?_
      refine wpF_end (r := [(3, v11), (10, v1), (11, (.int .i64 (p0.Arcs.length : Int))), (12, (.int .i64 i18)), (13, (.bool (decide (i18 < (p0.Arcs.length : Int)))))]) ⟨rfl, rfl, rfl, rfl, rfl, trivial⟩ ?_
      refine nx ?_
      refine wpC_seq ?_
      refine wpC_false (congrArg (fun b => some (Value.bool b)) (decide_eq_false t27)) ?_
      refine wpC_exit ?_
      refine nt_exit ?_
      refine nt_exit ?_
      refine nb_hit ?_
      refine np_norm ?_
      refine to_k (r := [(3, v11)]) ⟨rfl, trivial⟩ ?_
      intro a ha
      exact ⟨y14, o16, r118, ha, hB, h15⟩
  · rintro a w17 ⟨y14, o16, rfl, ha, hB, h15⟩
    dsimp only at hF
    refine ap_k ha ?_
    refine nx ?_
    refine wpC_seq ?_
    refine wpC_region ?_
    refine st_val (ex_move rfl) (by decide) trivial ?_
    refine st_val (ex_assign rfl) (by decide) trivial ?_
    refine wpF_end (r := [(2, v11)]) ⟨rfl, trivial⟩ ?_
    refine nx ?_
    refine wpC_ret ?_
    have e119 := Option.some.inj hF
    subst e119
    refine ret_post (P := Try.prog) (vs := [v11]) Try.results80 ⟨rfl, trivial⟩ ?_
    exact ⟨_, rt oo o16 w.heap.size 12 t, rfl, h15.rt hB (by decide) t, hB.keeps, rt_old _ _ _ _ _⟩
  · exact fun _ _ h => h.elim

def fI_WalkProblem_reached_s2 (x8 : List Int) : Int → Int → Int → Option (Lp Int Int (List Int)) := fun (i58 : Int) (x68 : Int) (s : Int) =>
  (ix x8 x68) >>= fun x74 =>
  some (.go (bor s x74))
def fI_WalkProblem_reached_s1 (fuel : Nat) (x8 : List Int) : Int → (List Int) → Option (Lp (List Int) (List Int) (List Int)) := fun (i28 : Int) (s : List Int) =>
  (ix s i28) >>= fun x40 =>
  (fI_labelsIn fuel x40) >>= fun x46 =>
  (forI (fI_WalkProblem_reached_s2 x8) x46 0 0) >>= fun q59 =>
  match q59 with
  | .inl y55 =>
    (push s y55) >>= fun x88 =>
    some (.go x88)
  | .inr _ => none
def fI_WalkProblem_reached (fuel : Nat) (p0 : T_WalkProblem) (p1 : Int) (p2 : Int) : Option (List Int) :=
  (fI_WalkProblem_after p0) >>= fun x8 =>
  (shl 1 p1) >>= fun x17 =>
  ck p2 >>= fun _ =>
  (forN (fI_WalkProblem_reached_s1 fuel x8) (p2).toNat 0 ([x17] : List Int)) >>= fun q29 =>
  match q29 with
  | .inl y23 =>
    some y23
  | .inr _ => none

def pI_WalkProblem_reached (oo : Tg) (t : Nat) (w : World) (r : List Int) : Ending → World → Prop := fun e w' => ∃ (v0 : Value) (o' : Tg), e = .returned (v0) ∧ Ow w.heap.size 3 t o' w' v0 r ∧ Keeps w w' ∧ ∀ b, b < w.heap.size → o' b = oo b
set_option maxRecDepth 100000 in
set_option maxHeartbeats 2000000 in
theorem cI_WalkProblem_reached (fuel : Nat) (w : World) (oo : Tg) (t : Nat) (ht : 2 ≤ t) (u0 : List Value) (p0 : T_WalkProblem) (g0 : Rp.rd zt w u0 p0) (p1 : Int) (p2 : Int) (r : List Int) (hF : fI_WalkProblem_reached fuel p0 p1 p2 = some r) :
    Calls Try.prog 101 #[.agg u0.toArray, .int .i64 p1, .int .i64 p2] w (pI_WalkProblem_reached oo t w r) := by
  unfold fI_WalkProblem_reached at hF
  obtain ⟨v1, rfl, h2⟩ := g0
  have hB : Bs oo (col oo) w w := Bs.start _ _
  refine calls_start (n := 45) (vs := [(.agg #[(.int .i64 p0.Labels), v1]), (.int .i64 p1), (.int .i64 p2)]) Try.func101 rfl rfl ?_
  generalize col oo = o at *
  refine wpC_seq ?_
  refine wpC_region ?_
  refine st_op (by decide) trivial ?_
  refine wf_box (o := o) w.heap.size 11 hB.keeps.size (cs := [(.int .i64 p0.Labels), v1]) rfl rfl ?_
  intro o3 w4 b5 h6 s7
  replace hB := hB.stp s7 (by decide)
  refine st_val (ex_assign rfl) (by decide) trivial ?_
  refine wpF_end (r := [(1, (.int .i64 p1)), (2, (.int .i64 p2)), (3, (.pointer (some ⟨b5, 0, none⟩)))]) ⟨rfl, rfl, rfl, trivial⟩ ?_
  refine nx ?_
  refine wpC_seq ?_
  refine wpC_region ?_
  refine st_val (ex_loadA rfl Try.isAgg29 Try.sizeOf29 rfl h6.cells) (by decide) trivial ?_
  obtain ⟨x8, hx8, hF⟩ := bind_some hF
  refine st_op (by decide) trivial ?_
  refine wf_call (cI_WalkProblem_after w4 o3 12 (by decide) _ p0 (⟨_, rfl, (h2.keep hB.keeps)⟩) x8 hx8) Try.call80 ⟨rfl, trivial⟩ ?_
  rintro e15 w9 ⟨v10, o16, rfl, h11, k12, k13⟩
  have s14 := k12.stp' 12 k13
  replace h11 := h11.mono hB.keeps.size
  refine ⟨_, rfl, ?_⟩
  replace h6 := h6.stp s14 (by decide)
  replace hB := hB.stp s14 (by decide)
  refine st_val (ex_assign rfl) (by decide) trivial ?_
  refine wpF_end (r := [(1, (.int .i64 p1)), (2, (.int .i64 p2)), (7, v10)]) ⟨rfl, rfl, rfl, trivial⟩ ?_
  refine nx ?_
  refine wpC_seq ?_
  refine wpC_region ?_
  refine st_val (ex_move rfl) (by decide) trivial ?_
  obtain ⟨x17, hx17, hF⟩ := bind_some hF
  refine st_val (ex_shl rfl rfl hx17) (by decide) trivial ?_
  refine st_op (by decide) trivial ?_
  refine wf_litW w.heap.size 13 hB.keeps.size (o := o16) (cs := [(.int .i64 x17)]) (xs := ([x17] : List Int)) (vs := [(0, (.int .i64 x17))]) ⟨_, _, rfl, rfl, rfl⟩ rfl ⟨rfl, rfl, trivial⟩ Try.underlying26 Try.sizeOf3 Try.zeroValue3 (by decide) (fill1 rfl) (by simp) ?_
  intro o18 w19 v20 h21 s22
  replace h11 := h11.stp s22 (by decide) (by decide)
  replace h6 := h6.stp s22 (by decide)
  replace hB := hB.stp s22 (by decide)
  refine st_val (ex_assign rfl) (by decide) trivial ?_
  refine wpF_end (r := [(2, (.int .i64 p2)), (7, v10), (8, v20)]) ⟨rfl, rfl, rfl, trivial⟩ ?_
  refine nx ?_
  refine wpC_seq ?_
  refine wpC_seq ?_
  refine wpC_region ?_
  refine st_val (ex_move rfl) (by decide) trivial ?_
  refine st_val (ex_move rfl) (by decide) trivial ?_
  refine wpF_end (r := [(7, v10), (8, v20), (18, (.int .i64 p2)), (19, (.int .i64 0))]) ⟨rfl, rfl, rfl, rfl, trivial⟩ ?_
  refine nx ?_
  obtain ⟨u31, h30, hF⟩ := bind_some hF
  obtain ⟨-, h30a, h30b⟩ := ck_some h30
  obtain ⟨q29, hq29, hF⟩ := bind_some hF
  refine wpC_cutN (fun a w27 => ∃ (y23 : List Int) (v24 : Value) (o26 : Tg), q29 = .inl y23 ∧ Fr a 45 [(8, v24)] ∧ Bs oo o26 w w27 ∧ Ow w.heap.size 3 13 o26 w27 v24 y23) (fun _ _ => False) ?_ ?_ ?_
  · refine wpC_block ?_
    refine wpC_loop (fun (K : Nat) a w27 => ∃ (i28 : Int) (y23 : List Int) (v24 : Value) (o26 : Tg), forN (fI_WalkProblem_reached_s1 fuel x8) (p2 - i28).toNat i28 y23 = some q29 ∧ (p2 - i28).toNat = K ∧ 0 ≤ i28 ∧ Fr a 45 [(7, v10), (8, v24), (18, (.int .i64 p2)), (19, (.int .i64 i28))] ∧ Bs oo o26 w w27 ∧ Ow w.heap.size 3 12 o26 w27 v10 x8 ∧ Ow w.heap.size 3 13 o26 w27 v24 y23) _ (fun a ha => ⟨0, ([x17] : List Int), v20, o18, (by rw [Int.sub_zero]; exact hq29), rfl, Int.le_refl 0, ha.sub (r := [(7, v10), (8, v20), (18, (.int .i64 p2)), (19, (.int .i64 0))]) ⟨rfl, rfl, rfl, rfl, trivial⟩, hB, h11, h21⟩) ?_
    rintro K35 a w27 ⟨i28, y23, v24, o26, l32, m34, z33, ha, hB, h11, h25⟩
    by_cases t39 : i28 < p2
    · obtain ⟨q36, b37, n38⟩ := forN_cons t39 l32
      dsimp only [fI_WalkProblem_reached_s1] at b37
      refine wp_of ha ?_
      refine wpC_seq ?_
      refine wpC_region ?_
      refine st_val (ex_lss rfl rfl) (by decide) trivial ?_
      refine wpF_end (r := [(7, v10), (8, v24), (18, (.int .i64 p2)), (19, (.int .i64 i28)), (20, (.bool (decide (i28 < p2))))]) ⟨rfl, rfl, rfl, rfl, rfl, trivial⟩ ?_
      refine nx ?_
      refine wpC_seq ?_
      refine wpC_true (congrArg (fun b => some (Value.bool b)) (decide_eq_true t39)) ?_
      refine wpC_skip ?_
      refine nx ?_
      refine wpC_seq ?_
      refine wpC_block ?_
      refine wpC_seq ?_
      refine wpC_region ?_
      refine st_val (ex_move rfl) (by decide) trivial ?_
      refine st_val (ex_assign rfl) (by decide) trivial ?_
      refine wpF_end (r := [(7, v10), (8, v24), (9, (.int .i64 i28)), (18, (.int .i64 p2)), (19, (.int .i64 i28))]) ⟨rfl, rfl, rfl, rfl, rfl, trivial⟩ ?_
      refine nx ?_
      refine wpC_seq ?_
      refine wpC_region ?_
      refine st_val (ex_assign rfl) (by decide) trivial ?_
      refine wpF_end (r := [(7, v10), (8, v24), (9, (.int .i64 i28)), (10, (.int .i64 0)), (18, (.int .i64 p2)), (19, (.int .i64 i28))]) ⟨rfl, rfl, rfl, rfl, rfl, rfl, trivial⟩ ?_
      refine nx ?_
      refine wpC_seq ?_
      refine wpC_seq ?_
      refine wpC_region ?_
      refine st_val (ex_move rfl) (by decide) trivial ?_
      refine st_val (ex_move rfl) (by decide) trivial ?_
      obtain ⟨x40, hx40, b37⟩ := bind_some b37
      refine st_op (by decide) trivial ?_
      refine wf_atW h25 hx40 rfl rfl Try.underlying26 Try.sizeOf3 ?_
      intro b41 f42 c43 h44 h45
      cases h45
      refine st_val (ex_load1 rfl Try.isAgg3 (cell_of_cells h44)) (by decide) trivial ?_
      obtain ⟨x46, hx46, b37⟩ := bind_some b37
      refine st_op (by decide) trivial ?_
      refine wf_call (cI_labelsIn fuel w27 o26 14 (by decide) x40 x46 hx46) Try.call60 ⟨rfl, trivial⟩ ?_
      rintro e53 w47 ⟨v48, o54, rfl, h49, k50, k51⟩
      have s52 := k50.stp' 14 k51
      replace h49 := h49.mono hB.keeps.size
      refine ⟨_, rfl, ?_⟩
      replace h11 := h11.stp s52 (by decide) (by decide)
      replace h25 := h25.stp s52 (by decide) (by decide)
      replace hB := hB.stp s52 (by decide)
      refine st_val (ex_lenO rfl h49 Try.underlying26) (by decide) trivial ?_
      refine st_val (ex_move rfl) (by decide) trivial ?_
      refine wpF_end (r := [(7, v10), (8, v24), (10, (.int .i64 0)), (18, (.int .i64 p2)), (19, (.int .i64 i28)), (26, v48), (27, (.int .i64 (x46.length : Int))), (28, (.int .i64 0))]) ⟨rfl, rfl, rfl, rfl, rfl, rfl, rfl, rfl, trivial⟩ ?_
      refine nx ?_
      obtain ⟨q59, hq59, b37⟩ := bind_some b37
      refine wpC_cutN (fun a w57 => ∃ (y55 : Int) (o56 : Tg), q59 = .inl y55 ∧ Fr a 45 [(7, v10), (8, v24), (10, (.int .i64 y55)), (18, (.int .i64 p2)), (19, (.int .i64 i28))] ∧ Bs oo o56 w w57 ∧ Ow w.heap.size 3 12 o56 w57 v10 x8 ∧ Ow w.heap.size 3 13 o56 w57 v24 y23) (fun _ _ => False) ?_ ?_ ?_
      · refine wpC_block ?_
        refine wpC_loop (fun (K : Nat) a w57 => ∃ (i58 : Int) (y55 : Int) (o56 : Tg), forI (fI_WalkProblem_reached_s2 x8) (x46.drop i58.toNat) i58 y55 = some q59 ∧ (x46.drop i58.toNat).length = K ∧ 0 ≤ i58 ∧ Fr a 45 [(7, v10), (8, v24), (10, (.int .i64 y55)), (18, (.int .i64 p2)), (19, (.int .i64 i28)), (26, v48), (27, (.int .i64 (x46.length : Int))), (28, (.int .i64 i58))] ∧ Bs oo o56 w w57 ∧ Ow w.heap.size 3 12 o56 w57 v10 x8 ∧ Ow w.heap.size 3 13 o56 w57 v24 y23 ∧ Ow w.heap.size 3 14 o56 w57 v48 x46) _ (fun a ha => ⟨0, 0, o54, hq59, rfl, Int.le_refl 0, ha.sub (r := [(7, v10), (8, v24), (10, (.int .i64 0)), (18, (.int .i64 p2)), (19, (.int .i64 i28)), (26, v48), (27, (.int .i64 (x46.length : Int))), (28, (.int .i64 0))]) ⟨rfl, rfl, rfl, rfl, rfl, rfl, rfl, rfl, trivial⟩, hB, h11, h25, h49⟩) ?_
        rintro K63 a w57 ⟨i58, y55, o56, l60, m62, z61, ha, hB, h11, h25, h49⟩
        by_cases t67 : i58 < (x46.length : Int)
        · obtain ⟨x68, q64, hx68, b65, n66⟩ := forI_cons z61 t67 l60
          have hle := h49.len_le
          dsimp only [fI_WalkProblem_reached_s2] at b65
          refine wp_of ha ?_
          refine wpC_seq ?_
          refine wpC_region ?_
          refine st_val (ex_lss rfl rfl) (by decide) trivial ?_
          refine wpF_end (r := [(7, v10), (8, v24), (10, (.int .i64 y55)), (18, (.int .i64 p2)), (19, (.int .i64 i28)), (26, v48), (27, (.int .i64 (x46.length : Int))), (28, (.int .i64 i58)), (29, (.bool (decide (i58 < (x46.length : Int)))))]) ⟨rfl, rfl, rfl, rfl, rfl, rfl, rfl, rfl, rfl, trivial⟩ ?_
          refine nx ?_
          refine wpC_seq ?_
          refine wpC_true (congrArg (fun b => some (Value.bool b)) (decide_eq_true t67)) ?_
          refine wpC_skip ?_
          refine nx ?_
          refine wpC_seq ?_
          refine wpC_block ?_
          refine wpC_seq ?_
          refine wpC_region ?_
          refine st_op (by decide) trivial ?_
          refine wf_atW h49 hx68 rfl rfl Try.underlying26 Try.sizeOf3 ?_
          intro b69 f70 c71 h72 h73
          cases h73
          refine st_val (ex_load1 rfl Try.isAgg3 (cell_of_cells h72)) (by decide) trivial ?_
          refine st_val (ex_assign rfl) (by decide) trivial ?_
          refine wpF_end (r := [(7, v10), (8, v24), (10, (.int .i64 y55)), (12, (.int .i64 x68)), (18, (.int .i64 p2)), (19, (.int .i64 i28)), (26, v48), (27, (.int .i64 (x46.length : Int))), (28, (.int .i64 i58))]) ⟨rfl, rfl, rfl, rfl, rfl, rfl, rfl, rfl, rfl, trivial⟩ ?_
          refine nx ?_
          refine wpC_region ?_
          refine st_val (ex_move rfl) (by decide) trivial ?_
          refine st_val (ex_move rfl) (by decide) trivial ?_
          refine st_val (ex_move rfl) (by decide) trivial ?_
          obtain ⟨x74, hx74, b65⟩ := bind_some b65
          refine st_op (by decide) trivial ?_
          refine wf_atW h11 hx74 rfl rfl Try.underlying26 Try.sizeOf3 ?_
          intro b75 f76 c77 h78 h79
          cases h79
          refine st_val (ex_load1 rfl Try.isAgg3 (cell_of_cells h78)) (by decide) trivial ?_
          refine st_val (ex_or rfl rfl) (by decide) trivial ?_
          refine st_val (ex_assign rfl) (by decide) trivial ?_
          refine wpF_end (r := [(7, v10), (8, v24), (10, (.int .i64 (bor y55 x74))), (18, (.int .i64 p2)), (19, (.int .i64 i28)), (26, v48), (27, (.int .i64 (x46.length : Int))), (28, (.int .i64 i58))]) ⟨rfl, rfl, rfl, rfl, rfl, rfl, rfl, rfl, trivial⟩ ?_
          refine nb_norm ?_
          refine nx ?_
          refine wpC_region ?_
          refine st_val (ex_add rfl rfl (ck_in (by omega) (by omega))) (by decide) trivial ?_
          refine st_val (ex_move rfl) (by decide) trivial ?_
          refine wpF_end (r := [(7, v10), (8, v24), (10, (.int .i64 (bor y55 x74))), (18, (.int .i64 p2)), (19, (.int .i64 i28)), (26, v48), (27, (.int .i64 (x46.length : Int))), (28, (.int .i64 (i58 + 1)))]) ⟨rfl, rfl, rfl, rfl, rfl, rfl, rfl, rfl, trivial⟩ ?_
          refine nt_norm ?_
          have e80 := Option.some.inj b65
          subst e80
          refine to_k (r := [(7, v10), (8, v24), (10, (.int .i64 (bor y55 x74))), (18, (.int .i64 p2)), (19, (.int .i64 i28)), (26, v48), (27, (.int .i64 (x46.length : Int))), (28, (.int .i64 (i58 + 1)))]) ⟨rfl, rfl, rfl, rfl, rfl, rfl, rfl, rfl, trivial⟩ ?_
          intro a ha
          exact ⟨_, (by rw [← m62]; simp only [List.length_drop]; omega), i58 + 1, bor y55 x74, o56, n66, rfl, (by omega), ha, hB, h11, h25, h49⟩
        · have r81 := forI_done t67 l60
          refine wp_of ha ?_
          refine wpC_seq ?_
          refine wpC_region ?_
          refine st_val (ex_lss rfl rfl) (by decide) trivial ?_
          refine wpF_end (r := [(7, v10), (8, v24), (10, (.int .i64 y55)), (18, (.int .i64 p2)), (19, (.int .i64 i28)), (26, v48), (27, (.int .i64 (x46.length : Int))), (28, (.int .i64 i58)), (29, (.bool (decide (i58 < (x46.length : Int)))))]) ⟨rfl, rfl, rfl, rfl, rfl, rfl, rfl, rfl, rfl, trivial⟩ ?_
          refine nx ?_
          refine wpC_seq ?_
          refine wpC_false (congrArg (fun b => some (Value.bool b)) (decide_eq_false t67)) ?_
          refine wpC_exit ?_
          refine nt_exit ?_
          refine nt_exit ?_
          refine nb_hit ?_
          refine np_norm ?_
          refine to_k (r := [(7, v10), (8, v24), (10, (.int .i64 y55)), (18, (.int .i64 p2)), (19, (.int .i64 i28))]) ⟨rfl, rfl, rfl, rfl, rfl, trivial⟩ ?_
          intro a ha
          exact ⟨y55, o56, r81, ha, hB, h11, h25⟩
      · rintro a w57 ⟨y55, o56, rfl, ha, hB, h11, h25⟩
        dsimp only at b37
        refine ap_k ha ?_
        refine nx ?_
        refine wpC_region ?_
        refine st_val (ex_move rfl) (by decide) trivial ?_
        refine st_val (ex_move rfl) (by decide) trivial ?_
        refine st_op (by decide) trivial ?_
        refine wf_litR (o := o56) (cs := [(.int .i64 y55)]) (xs := ([y55] : List Int)) (vs := [(0, (.int .i64 y55))]) ⟨_, _, rfl, rfl, rfl⟩ rfl ⟨rfl, rfl, trivial⟩ Try.underlying26 Try.sizeOf3 Try.zeroValue3 (by decide) (fill1 rfl) (by simp) ?_
        intro o82 w83 v84 h85 s86 k87
        replace h11 := h11.stp s86 (by decide) (by decide)
        replace h25 := h25.stp s86 (by decide) (by decide)
        replace hB := hB.stp s86 (by decide)
        obtain ⟨x88, hx88, b37⟩ := bind_some b37
        refine st_op (by decide) trivial ?_
        refine wf_cat h25 h85 (push_cat hx88) (by decide) hB.keeps.size rfl rfl Try.underlying26 info2_t_int_I rfl (by decide) ?_
        intro o89 w90 v91 h92 s93
        replace h11 := h11.stp s93 (by decide) (by decide)
        replace h85 := h85.stp s93 (by decide)
        replace hB := hB.stp s93 (by decide)
        refine st_val (ex_assign rfl) (by decide) trivial ?_
        refine wpF_end (r := [(7, v10), (8, v91), (18, (.int .i64 p2)), (19, (.int .i64 i28))]) ⟨rfl, rfl, rfl, rfl, trivial⟩ ?_
        refine nb_norm ?_
        refine nx ?_
        refine wpC_region ?_
        refine st_val (ex_add rfl rfl (ck_in (by omega) (by omega))) (by decide) trivial ?_
        refine st_val (ex_move rfl) (by decide) trivial ?_
        refine wpF_end (r := [(7, v10), (8, v91), (18, (.int .i64 p2)), (19, (.int .i64 (i28 + 1)))]) ⟨rfl, rfl, rfl, rfl, trivial⟩ ?_
        refine nt_norm ?_
        have e94 := Option.some.inj b37
        subst e94
        refine to_k (r := [(7, v10), (8, v91), (18, (.int .i64 p2)), (19, (.int .i64 (i28 + 1)))]) ⟨rfl, rfl, rfl, rfl, trivial⟩ ?_
        intro a ha
        exact ⟨_, (by rw [← m34]; omega), i28 + 1, x88, v91, o89, n38, rfl, (by omega), ha, hB, h11, h92⟩
      · exact fun _ _ h => h.elim
    · have r95 := forN_done t39 l32
      refine wp_of ha ?_
      refine wpC_seq ?_
      refine wpC_region ?_
      refine st_val (ex_lss rfl rfl) (by decide) trivial ?_
      refine wpF_end (r := [(7, v10), (8, v24), (18, (.int .i64 p2)), (19, (.int .i64 i28)), (20, (.bool (decide (i28 < p2))))]) ⟨rfl, rfl, rfl, rfl, rfl, trivial⟩ ?_
      refine nx ?_
      refine wpC_seq ?_
      refine wpC_false (congrArg (fun b => some (Value.bool b)) (decide_eq_false t39)) ?_
      refine wpC_exit ?_
      refine nt_exit ?_
      refine nt_exit ?_
      refine nb_hit ?_
      refine np_norm ?_
      refine to_k (r := [(8, v24)]) ⟨rfl, trivial⟩ ?_
      intro a ha
      exact ⟨y23, v24, o26, r95, ha, hB, h25⟩
  · rintro a w27 ⟨y23, v24, o26, rfl, ha, hB, h25⟩
    dsimp only at hF
    refine ap_k ha ?_
    refine nx ?_
    refine wpC_seq ?_
    refine wpC_region ?_
    refine st_val (ex_move rfl) (by decide) trivial ?_
    refine st_val (ex_assign rfl) (by decide) trivial ?_
    refine wpF_end (r := [(6, v24)]) ⟨rfl, trivial⟩ ?_
    refine nx ?_
    refine wpC_ret ?_
    have e96 := Option.some.inj hF
    subst e96
    refine ret_post (P := Try.prog) (vs := [v24]) Try.results101 ⟨rfl, trivial⟩ ?_
    exact ⟨_, rt oo o26 w.heap.size 13 t, rfl, h25.rt hB (by decide) t, hB.keeps, rt_old _ _ _ _ _⟩
  · exact fun _ _ h => h.elim

end Go.Proofs.Ytffgdhbhlcifmaa
