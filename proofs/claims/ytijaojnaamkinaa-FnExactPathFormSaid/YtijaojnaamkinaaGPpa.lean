/- spec.prInsert, spec.roPath, spec.PathForm: plain functions, and the walks that show that the program computes them (printed by gen.py). -/
import Derived.Test.YtijaojnaamkinaaGC
import Derived.Test.YtijaojnaamkinaaKg
import Derived.Test.YtijaojnaamkinaaKh
namespace Go.Proofs.Ytijaojnaamkinaa
open Go.RowKit
set_option linter.unusedSimpArgs false
set_option linter.unusedVariables false

theorem info2_t_Lint_Ppa : Inf Try.prog 23 (.slice none 0 0) 1 24 := by unfold Inf; kernel_rfl

theorem info1_t_impl_WalkProblem_Ppa : (Try.prog.info? 46).map (·.size) = some 2 := by kernel_rfl

def fS_prInsert_s1 (p0 : List (List Int)) (p1 : List Int) : Int → Option (Lp Int Int (List (List Int))) := fun (s : Int) =>
  (
    if decide (s < (p0.length : Int)) then
      (ix p0 s) >>= fun x18 =>
      (fS_prOrder x18 p1) >>= fun x26 =>
      some (decide (x26 < 0))
    else
      some false) >>= fun q14 =>
  if q14 then
    (ck (s + 1)) >>= fun x36 =>
    some (.go x36)
  else
    some (.out s)
def fS_prInsert (fuel : Nat) (p0 : List (List Int)) (p1 : List Int) : Option (List (List Int)) :=
  (loopF (fS_prInsert_s1 p0 p1) fuel 0) >>= fun q4 =>
  match q4 with
  | .inl y1 =>
    (
      if decide (y1 < (p0.length : Int)) then
        (ix p0 y1) >>= fun x43 =>
        (fS_l1Same x43 p1) >>= fun x51 =>
        some x51
      else
        some false) >>= fun q39 =>
    if q39 then
      some p0
    else
      (cut p0 0 y1) >>= fun x67 =>
      (cat ([] : List (List Int)) x67) >>= fun x70 =>
      (push x70 p1) >>= fun x82 =>
      (cut p0 y1 p0.length) >>= fun x88 =>
      (cat x82 x88) >>= fun x91 =>
      some x91
  | .inr _ => none

def pS_prInsert (oo : Tg) (t : Nat) (w : World) (r : List (List Int)) : Ending → World → Prop := fun e w' => ∃ (v0 : Value) (o' : Tg), e = .returned (v0) ∧ RdL o' w' v0 r ∧ Keeps w w' ∧ ∀ b, b < w.heap.size → o' b = oo b
set_option maxRecDepth 100000 in
set_option maxHeartbeats 2000000 in
theorem cS_prInsert (fuel : Nat) (w : World) (oo : Tg) (t : Nat) (ht : 2 ≤ t) (u0 : Value) (p0 : List (List Int)) (g0 : RdL oo w u0 p0) (u1 : Value) (p1 : List Int) (g1 : RdL oo w u1 p1) (r : List (List Int)) (hF : fS_prInsert fuel p0 p1 = some r) :
    Calls Try.prog 104 #[u0, u1] w (pS_prInsert oo t w r) := by
  unfold fS_prInsert at hF
  replace g0 := RdL.col g0
  replace g1 := RdL.col g1
  have hB : Bs oo (col oo) w w := Bs.start _ _
  refine calls_start (n := 49) (vs := [u0, u1]) Try.func104 rfl rfl ?_
  generalize col oo = o at *
  refine wpC_seq ?_
  refine wpC_region ?_
  refine st_val (ex_assign rfl) (by decide) trivial ?_
  refine wpF_end (r := [(0, u0), (1, u1)]) ⟨rfl, rfl, trivial⟩ ?_
  refine nx ?_
  refine wpC_seq ?_
  refine wpC_region ?_
  refine st_val (ex_assign rfl) (by decide) trivial ?_
  refine wpF_end (r := [(0, u0), (1, u1), (5, (.int .i64 0))]) ⟨rfl, rfl, rfl, trivial⟩ ?_
  refine nx ?_
  obtain ⟨q4, hq4, hF⟩ := bind_some hF
  refine wpC_cutP (fun a w3 => ∃ (y1 : Int) (o2 : Tg), q4 = .inl y1 ∧ Fr a 49 [(0, u0), (1, u1), (5, (.int .i64 y1))] ∧ Bs oo o2 w w3 ∧ RdL o2 w3 u0 p0 ∧ RdL o2 w3 u1 p1) (fun _ _ => False) ?_ ?_ ?_
  · refine wpC_block ?_
    refine wpC_loop (fun (K : Nat) a w3 => ∃ (y1 : Int) (o2 : Tg), loopF (fS_prInsert_s1 p0 p1) K y1 = some q4 ∧ Fr a 49 [(0, u0), (1, u1), (5, (.int .i64 y1))] ∧ Bs oo o2 w w3 ∧ RdL o2 w3 u0 p0 ∧ RdL o2 w3 u1 p1) fuel (fun a ha => ⟨0, o, hq4, ha.sub (r := [(0, u0), (1, u1), (5, (.int .i64 0))]) ⟨rfl, rfl, rfl, trivial⟩, hB, g0, g1⟩) ?_
    rintro K8 a w3 ⟨y1, o2, l5, ha, hB, g0, g1⟩
    obtain ⟨K12, q9, e13, b10, n11⟩ := loopF_cons l5
    dsimp only [fS_prInsert_s1] at b10
    refine wp_of ha ?_
    refine wpC_seq ?_
    refine wpC_seq ?_
    refine wpC_region ?_
    refine st_val (ex_move rfl) (by decide) trivial ?_
    refine st_val (ex_move rfl) (by decide) trivial ?_
    refine st_val (ex_lenR rfl g0 Try.underlying41) (by decide) trivial ?_
    refine st_val (ex_lss rfl rfl) (by decide) trivial ?_
    refine st_val (ex_move rfl) (by decide) trivial ?_
    obtain ⟨q14, hq14, b10⟩ := bind_some b10
    refine wpF_cutAt 8 (fun a16 w15 => Fr a16 49 [(0, u0), (1, u1), (5, (.int .i64 y1)), (19, (.bool q14))] ∧ Keeps w3 w15) ?_ ?_
    all_goals simp only [List.take_succ_cons, List.take_zero, List.drop_succ_cons, List.drop_zero]
    · have kp : Keeps w3 w3 := Keeps.refl _
      rcases Bool.eq_false_or_eq_true (decide (y1 < (p0.length : Int))) with t17 | t17
      · rw [if_pos t17] at hq14
        refine st_val (ex_move rfl) (by decide) ⟨_, rfl, (congrArg (fun b => some (Value.bool b)) t17)⟩ ?_
        refine st_val (ex_move rfl) (by decide) ⟨_, rfl, (congrArg (fun b => some (Value.bool b)) t17)⟩ ?_
        obtain ⟨x18, hx18, hq14⟩ := bind_some hq14
        refine st_op (by decide) ⟨_, rfl, (congrArg (fun b => some (Value.bool b)) t17)⟩ ?_
        refine wf_atO g0 hx18 rfl rfl Try.underlying41 Try.sizeOf23 ?_
        intro b19 f20 c21 h22 h23
        obtain ⟨v24, rfl, h25⟩ := h23
        refine st_val (ex_load1 rfl Try.isAgg23 (cell_of_cells h22)) (by decide) ⟨_, rfl, (congrArg (fun b => some (Value.bool b)) t17)⟩ ?_
        refine st_val (ex_move rfl) (by decide) ⟨_, rfl, (congrArg (fun b => some (Value.bool b)) t17)⟩ ?_
        obtain ⟨x26, hx26, hq14⟩ := bind_some hq14
        refine st_op (by decide) ⟨_, rfl, (congrArg (fun b => some (Value.bool b)) t17)⟩ ?_
        refine wf_call (cS_prOrder w3 _ x18 h25.z _ p1 g1.z x26 hx26) Try.call102 ⟨rfl, rfl, trivial⟩ ?_
        rintro e31 w27 ⟨rfl, k28⟩
        have s30 := k28.stp 999 o2
        refine ⟨_, rfl, ?_⟩
        replace g0 := g0.stp s30 (by decide)
        replace g1 := g1.stp s30 (by decide)
        replace h25 := h25.stp s30 (by decide)
        replace hB := hB.stp s30 (by decide)
        replace kp := Keeps.trans kp k28
        refine st_val (ex_lss rfl rfl) (by decide) ⟨_, rfl, (congrArg (fun b => some (Value.bool b)) t17)⟩ ?_
        refine st_val (ex_pick_t (congrArg (fun b => some (Value.bool b)) t17) rfl) (by decide) trivial ?_
        have hq142 := Option.some.inj hq14
        refine wpF_end (r := [(0, u0), (1, u1), (5, (.int .i64 y1)), (19, (.bool (decide (x26 < 0))))]) ⟨rfl, rfl, rfl, rfl, trivial⟩ ?_
        subst hq142
        refine np_norm (fun a ha => ⟨ha, kp⟩)
      · rw [if_neg (by rw [t17]; decide)] at hq14
        refine st_no rfl rfl (by rw [t17]; rfl) (by decide) ?_
        refine st_no rfl rfl (by rw [t17]; rfl) (by decide) ?_
        refine st_no rfl rfl (by rw [t17]; rfl) (by decide) ?_
        refine st_no rfl rfl (by rw [t17]; rfl) (by decide) ?_
        refine st_no rfl rfl (by rw [t17]; rfl) (by decide) ?_
        refine st_no rfl rfl (by rw [t17]; rfl) (by decide) ?_
        refine st_no rfl rfl (by rw [t17]; rfl) (by decide) ?_
        refine st_val (ex_pick_f (congrArg (fun b => some (Value.bool b)) t17) rfl) (by decide) trivial ?_
        have hq142 := Option.some.inj hq14
        refine wpF_end (r := [(0, u0), (1, u1), (5, (.int .i64 y1)), (19, (.bool false))]) ⟨rfl, rfl, rfl, rfl, trivial⟩ ?_
        subst hq142
        refine np_norm (fun a ha => ⟨ha, kp⟩)
    rintro a34 w15 ⟨ha, k32⟩
    have s33 := k32.stp 999 o2
    replace g0 := g0.stp s33 (by decide)
    replace g1 := g1.stp s33 (by decide)
    replace hB := hB.stp s33 (by decide)
    refine wl_of ha ?_
    refine wpF_end (r := [(0, u0), (1, u1), (5, (.int .i64 y1)), (19, (.bool q14))]) ⟨rfl, rfl, rfl, rfl, trivial⟩ ?_
    refine nx ?_
    refine wpC_cond rfl (fun t35 => ?_) (fun t35 => ?_)
    · rw [if_pos t35] at b10
      refine wpC_skip ?_
      refine nx ?_
      refine wpC_block ?_
      refine wpC_region ?_
      refine st_val (ex_move rfl) (by decide) trivial ?_
      obtain ⟨x36, hx36, b10⟩ := bind_some b10
      refine st_val (ex_add rfl rfl hx36) (by decide) trivial ?_
      refine st_val (ex_assign rfl) (by decide) trivial ?_
      refine wpF_end (r := [(0, u0), (1, u1), (5, (.int .i64 x36))]) ⟨rfl, rfl, rfl, trivial⟩ ?_
      refine nb_norm ?_
      refine nt_norm ?_
      have e37 := Option.some.inj b10
      subst e37
      refine to_k (r := [(0, u0), (1, u1), (5, (.int .i64 x36))]) ⟨rfl, rfl, rfl, trivial⟩ ?_
      intro a ha
      exact ⟨K12, by omega, x36, o2, n11, ha, hB, g0, g1⟩
    · rw [if_neg (by rw [t35]; decide)] at b10
      refine wpC_exit ?_
      refine nt_exit ?_
      refine nt_exit ?_
      refine nb_hit ?_
      refine np_norm ?_
      have e38 := Option.some.inj b10
      subst e38
      refine to_k (r := [(0, u0), (1, u1), (5, (.int .i64 y1))]) ⟨rfl, rfl, rfl, trivial⟩ ?_
      intro a ha
      exact ⟨y1, o2, n11, ha, hB, g0, g1⟩
  · rintro a w3 ⟨y1, o2, rfl, ha, hB, g0, g1⟩
    dsimp only at hF
    refine wp_of ha ?_
    refine wpC_seq ?_
    refine wpC_seq ?_
    refine wpC_region ?_
    refine st_val (ex_move rfl) (by decide) trivial ?_
    refine st_val (ex_move rfl) (by decide) trivial ?_
    refine st_val (ex_lenR rfl g0 Try.underlying41) (by decide) trivial ?_
    refine st_val (ex_lss rfl rfl) (by decide) trivial ?_
    refine st_val (ex_move rfl) (by decide) trivial ?_
    obtain ⟨q39, hq39, hF⟩ := bind_some hF
    refine wpF_cutAt 7 (fun a41 w40 => Fr a41 49 [(0, u0), (1, u1), (5, (.int .i64 y1)), (33, (.bool q39))] ∧ Keeps w3 w40) ?_ ?_
    all_goals simp only [List.take_succ_cons, List.take_zero, List.drop_succ_cons, List.drop_zero]
    · have kp : Keeps w3 w3 := Keeps.refl _
      rcases Bool.eq_false_or_eq_true (decide (y1 < (p0.length : Int))) with t42 | t42
      · rw [if_pos t42] at hq39
        refine st_val (ex_move rfl) (by decide) ⟨_, rfl, (congrArg (fun b => some (Value.bool b)) t42)⟩ ?_
        refine st_val (ex_move rfl) (by decide) ⟨_, rfl, (congrArg (fun b => some (Value.bool b)) t42)⟩ ?_
        obtain ⟨x43, hx43, hq39⟩ := bind_some hq39
        refine st_op (by decide) ⟨_, rfl, (congrArg (fun b => some (Value.bool b)) t42)⟩ ?_
        refine wf_atO g0 hx43 rfl rfl Try.underlying41 Try.sizeOf23 ?_
        intro b44 f45 c46 h47 h48
        obtain ⟨v49, rfl, h50⟩ := h48
        refine st_val (ex_load1 rfl Try.isAgg23 (cell_of_cells h47)) (by decide) ⟨_, rfl, (congrArg (fun b => some (Value.bool b)) t42)⟩ ?_
        refine st_val (ex_move rfl) (by decide) ⟨_, rfl, (congrArg (fun b => some (Value.bool b)) t42)⟩ ?_
        obtain ⟨x51, hx51, hq39⟩ := bind_some hq39
        refine st_op (by decide) ⟨_, rfl, (congrArg (fun b => some (Value.bool b)) t42)⟩ ?_
        refine wf_call (cS_l1Same w3 _ x43 h50.z _ p1 g1.z x51 hx51) Try.call56 ⟨rfl, rfl, trivial⟩ ?_
        rintro e56 w52 ⟨rfl, k53⟩
        have s55 := k53.stp 999 o2
        refine ⟨_, rfl, ?_⟩
        replace g0 := g0.stp s55 (by decide)
        replace g1 := g1.stp s55 (by decide)
        replace h50 := h50.stp s55 (by decide)
        replace hB := hB.stp s55 (by decide)
        replace kp := Keeps.trans kp k53
        refine st_val (ex_pick_t (congrArg (fun b => some (Value.bool b)) t42) rfl) (by decide) trivial ?_
        have hq392 := Option.some.inj hq39
        refine wpF_end (r := [(0, u0), (1, u1), (5, (.int .i64 y1)), (33, (.bool x51))]) ⟨rfl, rfl, rfl, rfl, trivial⟩ ?_
        subst hq392
        refine np_norm (fun a ha => ⟨ha, kp⟩)
      · rw [if_neg (by rw [t42]; decide)] at hq39
        refine st_no rfl rfl (by rw [t42]; rfl) (by decide) ?_
        refine st_no rfl rfl (by rw [t42]; rfl) (by decide) ?_
        refine st_no rfl rfl (by rw [t42]; rfl) (by decide) ?_
        refine st_no rfl rfl (by rw [t42]; rfl) (by decide) ?_
        refine st_no rfl rfl (by rw [t42]; rfl) (by decide) ?_
        refine st_no rfl rfl (by rw [t42]; rfl) (by decide) ?_
        refine st_val (ex_pick_f (congrArg (fun b => some (Value.bool b)) t42) rfl) (by decide) trivial ?_
        have hq392 := Option.some.inj hq39
        refine wpF_end (r := [(0, u0), (1, u1), (5, (.int .i64 y1)), (33, (.bool false))]) ⟨rfl, rfl, rfl, rfl, trivial⟩ ?_
        subst hq392
        refine np_norm (fun a ha => ⟨ha, kp⟩)
    rintro a59 w40 ⟨ha, k57⟩
    have s58 := k57.stp 999 o2
    replace g0 := g0.stp s58 (by decide)
    replace g1 := g1.stp s58 (by decide)
    replace hB := hB.stp s58 (by decide)
    refine wl_of ha ?_
    refine wpF_end (r := [(0, u0), (1, u1), (5, (.int .i64 y1)), (33, (.bool q39))]) ⟨rfl, rfl, rfl, rfl, trivial⟩ ?_
    refine nx ?_
    refine wpC_cond rfl (fun t60 => ?_) (fun t60 => ?_)
    · rw [if_pos t60] at hF
      refine wpC_seq ?_
      refine wpC_region ?_
      refine st_val (ex_move rfl) (by decide) trivial ?_
      refine st_val (ex_assign rfl) (by decide) trivial ?_
      refine wpF_end (r := [(4, u0)]) ⟨rfl, trivial⟩ ?_
      refine nx ?_
      refine wpC_ret ?_
      refine nt_ret ?_
      have e61 := Option.some.inj hF
      subst e61
      refine ret_post (P := Try.prog) (vs := [u0]) Try.results104 ⟨rfl, trivial⟩ ?_
      exact ⟨_, rt oo o2 w.heap.size 9 t, rfl, g0.rt hB 9 t (by decide), hB.keeps, rt_old _ _ _ _ _⟩
    · rw [if_neg (by rw [t60]; decide)] at hF
      refine wpC_skip ?_
      refine nx ?_
      refine wpC_seq ?_
      refine wpC_region ?_
      refine st_op (by decide) trivial ?_
      refine wf_litW w.heap.size 13 hB.keeps.size (o := o2) (cs := []) (xs := ([] : List (List Int))) (vs := []) rfl rfl trivial Try.underlying41 Try.sizeOf23 Try.zeroValue23 (by decide) fill0 (by simp) ?_
      intro o62 w63 v64 h65 s66
      replace g0 := g0.stp s66 (by decide)
      replace g1 := g1.stp s66 (by decide)
      replace hB := hB.stp s66 (by decide)
      refine st_val (ex_move rfl) (by decide) trivial ?_
      refine st_val (ex_move rfl) (by decide) trivial ?_
      obtain ⟨x67, hx67, hF⟩ := bind_some hF
      refine st_op (by decide) trivial ?_
      refine wf_cutO g0 hx67 rfl rfl rfl Try.underlying41 Try.sizeOf23 ?_
      intro v68 h69
      obtain ⟨x70, hx70, hF⟩ := bind_some hF
      refine st_op (by decide) trivial ?_
      refine wf_cat h65 h69 hx70 (by decide) hB.keeps.size rfl rfl Try.underlying41 info2_t_Lint_Ppa rfl (by decide) ?_
      intro o71 w72 v73 h74 s75
      replace g0 := g0.stp s75 (by decide)
      replace g1 := g1.stp s75 (by decide)
      replace h69 := h69.stp s75 (by decide)
      replace hB := hB.stp s75 (by decide)
      refine st_val (ex_assign rfl) (by decide) trivial ?_
      refine wpF_end (r := [(0, u0), (1, u1), (5, (.int .i64 y1)), (6, v73)]) ⟨rfl, rfl, rfl, rfl, trivial⟩ ?_
      refine nx ?_
      refine wpC_seq ?_
      refine wpC_region ?_
      refine st_val (ex_move rfl) (by decide) trivial ?_
      refine st_val (ex_move rfl) (by decide) trivial ?_
      refine st_op (by decide) trivial ?_
      refine wf_litR (o := o71) (cs := [u1]) (xs := ([p1] : List (List Int))) (vs := [(0, u1)]) ⟨_, _, rfl, (rd_list g1), rfl⟩ rfl ⟨rfl, rfl, trivial⟩ Try.underlying41 Try.sizeOf23 Try.zeroValue23 (by decide) (fill1 g1.cells1) (by simp) ?_
      intro o76 w77 v78 h79 s80 k81
      replace g0 := g0.stp s80 (by decide)
      replace g1 := g1.stp s80 (by decide)
      replace h74 := h74.stp s80 (by decide) (by decide)
      replace hB := hB.stp s80 (by decide)
      obtain ⟨x82, hx82, hF⟩ := bind_some hF
      refine st_op (by decide) trivial ?_
      refine wf_cat h74 h79 (push_cat hx82) (by decide) hB.keeps.size rfl rfl Try.underlying41 info2_t_Lint_Ppa rfl (by decide) ?_
      intro o83 w84 v85 h86 s87
      replace g0 := g0.stp s87 (by decide)
      replace g1 := g1.stp s87 (by decide)
      replace h79 := h79.stp s87 (by decide)
      replace hB := hB.stp s87 (by decide)
      refine st_val (ex_assign rfl) (by decide) trivial ?_
      refine wpF_end (r := [(0, u0), (5, (.int .i64 y1)), (6, v85)]) ⟨rfl, rfl, rfl, trivial⟩ ?_
      refine nx ?_
      refine wpC_seq ?_
      refine wpC_region ?_
      refine st_val (ex_move rfl) (by decide) trivial ?_
      refine st_val (ex_move rfl) (by decide) trivial ?_
      refine st_val (ex_move rfl) (by decide) trivial ?_
      obtain ⟨x88, hx88, hF⟩ := bind_some hF
      refine st_op (by decide) trivial ?_
      refine wf_cutO g0 hx88 rfl rfl rfl Try.underlying41 Try.sizeOf23 ?_
      intro v89 h90
      obtain ⟨x91, hx91, hF⟩ := bind_some hF
      refine st_op (by decide) trivial ?_
      refine wf_cat h86 h90 hx91 (by decide) hB.keeps.size rfl rfl Try.underlying41 info2_t_Lint_Ppa rfl (by decide) ?_
      intro o92 w93 v94 h95 s96
      replace g0 := g0.stp s96 (by decide)
      replace h90 := h90.stp s96 (by decide)
      replace hB := hB.stp s96 (by decide)
      refine st_val (ex_assign rfl) (by decide) trivial ?_
      refine wpF_end (r := [(4, v94)]) ⟨rfl, trivial⟩ ?_
      refine nx ?_
      refine wpC_ret ?_
      have h97 := h95.frzF
      replace h95 := h95.frz
      replace hB := hB.frz 13 (by decide)
      generalize (frz 13 o92) = o98 at *
      have e99 := Option.some.inj hF
      subst e99
      refine ret_post (P := Try.prog) (vs := [v94]) Try.results104 ⟨rfl, trivial⟩ ?_
      exact ⟨_, rt oo o98 w.heap.size 9 t, rfl, h95.rt hB 9 t (by decide), hB.keeps, rt_old _ _ _ _ _⟩
  · exact fun _ _ h => h.elim

def fS_roPath_s2 (fuel : Nat) (x37 : List Int) : Int → Int → (List (List Int)) → Option (Lp (List (List Int)) (List (List Int)) T_WalkProblem) := fun (i61 : Int) (x71 : Int) (s : List (List Int)) =>
  (ix x37 0) >>= fun x77 =>
  (fS_prInsert fuel s ([x77, x71] : List Int)) >>= fun x130 =>
  some (.go x130)
def fS_roPath_s1 (fuel : Nat) (p1 : List Int) : Int → (List Int) → (List (List Int)) → Option (Lp (List (List Int)) (List (List Int)) T_WalkProblem) := fun (i27 : Int) (x37 : List Int) (s : List (List Int)) =>
  (fS_prAll x37 p1) >>= fun x45 =>
  if !x45 then
    some (.go s)
  else
    (cut x37 1 x37.length) >>= fun x53 =>
    (forI (fS_roPath_s2 fuel x37) x53 0 s) >>= fun q62 =>
    match q62 with
    | .inl y56 =>
      some (.go y56)
    | .inr _ => none
def fS_roPath (fuel : Nat) (p0 : T_RootedProblem) (p1 : List Int) : Option T_WalkProblem :=
  (forI (fS_roPath_s1 fuel p1) p0.Lines 0 []) >>= fun q28 =>
  match q28 with
  | .inl y22 =>
    some (⟨p0.Labels, y22⟩ : T_WalkProblem)
  | .inr _ => none

def pS_roPath (oo : Tg) (t : Nat) (w : World) (r : T_WalkProblem) : Ending → World → Prop := fun e w' => ∃ (v0 : List Value) (o' : Tg), e = .returned (.agg v0.toArray) ∧ Rp.rd o' w' v0 r ∧ Keeps w w' ∧ ∀ b, b < w.heap.size → o' b = oo b
set_option maxRecDepth 100000 in
set_option maxHeartbeats 2000000 in
theorem cS_roPath (fuel : Nat) (w : World) (oo : Tg) (t : Nat) (ht : 2 ≤ t) (u0 : List Value) (p0 : T_RootedProblem) (g0 : Rp.rd zt w u0 p0) (u1 : Value) (p1 : List Int) (g1 : RdL zt w u1 p1) (r : T_WalkProblem) (hF : fS_roPath fuel p0 p1 = some r) :
    Calls Try.prog 70 #[.agg u0.toArray, u1] w (pS_roPath oo t w r) := by
  unfold fS_roPath at hF
  obtain ⟨v1, rfl, h2⟩ := g0
  have hB : Bs oo (col oo) w w := Bs.start _ _
  refine calls_start (n := 43) (vs := [(.agg #[(.int .i64 p0.Labels), (.int .i64 p0.Children), v1]), u1]) Try.func70 rfl rfl ?_
  generalize col oo = o at *
  refine wpC_seq ?_
  refine wpC_region ?_
  refine st_op (by decide) trivial ?_
  refine wf_box (o := o) w.heap.size 11 hB.keeps.size (cs := [(.int .i64 p0.Labels), (.int .i64 p0.Children), v1]) rfl rfl ?_
  intro o3 w4 b5 h6 s7
  replace hB := hB.stp s7 (by decide)
  refine st_op (by decide) trivial ?_
  refine wf_alloc (o := o3) w.heap.size 12 hB.keeps.size (cs := [(.int .i64 0), (.slice none 0 0)]) Try.zeroValue46 rfl ?_
  intro o8 w9 b10 h11 s12
  replace h6 := h6.stp s12 (by decide)
  replace hB := hB.stp s12 (by decide)
  refine wpF_end (r := [(1, u1), (2, (.pointer (some ⟨b5, 0, none⟩))), (4, (.pointer (some ⟨b10, 0, none⟩)))]) ⟨rfl, rfl, rfl, trivial⟩ ?_
  refine nx ?_
  refine wpC_seq ?_
  refine wpC_region ?_
  refine st_val (ex_field rfl Try.underlying49 rfl Try.sizeOf3) (by decide) trivial ?_
  refine st_val (ex_load1 rfl Try.isAgg3 (h6.cell rfl)) (by decide) trivial ?_
  refine st_val (ex_build (vs := [(0, (.int .i64 p0.Labels))]) (cs := [(.int .i64 p0.Labels), (.slice none 0 0)]) ⟨rfl, rfl, trivial⟩ (by kernel_rfl)) (by decide) trivial ?_
  refine st_op (by decide) trivial ?_
  refine wf_alloc (o := o8) w.heap.size 13 hB.keeps.size (cs := [(.int .i64 0), (.slice none 0 0)]) Try.zeroValue46 rfl ?_
  intro o13 w14 b15 h16 s17
  replace h6 := h6.stp s17 (by decide)
  replace h11 := h11.stp s17 (by decide)
  replace hB := hB.stp s17 (by decide)
  refine st_op0 trivial ?_
  refine wf_storeA h16 rfl rfl rfl info1_t_impl_WalkProblem_Ppa (by intro c hc; simp only [List.mem_cons, List.not_mem_nil, or_false] at hc; rcases hc with rfl | rfl <;> first | rfl) ?_
  intro w18 h20 s19
  replace h6 := h6.stp s19 (by decide)
  replace h11 := h11.stp s19 (by decide)
  replace hB := hB.stp s19 (by decide)
  refine wpF_end (r := [(1, u1), (2, (.pointer (some ⟨b5, 0, none⟩))), (4, (.pointer (some ⟨b10, 0, none⟩))), (5, (.pointer (some ⟨b15, 0, none⟩)))]) ⟨rfl, rfl, rfl, rfl, trivial⟩ ?_
  refine nx ?_
  refine wpC_seq ?_
  refine wpC_seq ?_
  refine wpC_region ?_
  refine st_val (ex_field rfl Try.underlying49 rfl Try.sizeOf41) (by decide) trivial ?_
  refine st_val (ex_load1 rfl Try.isAgg41 (h6.cell rfl)) (by decide) trivial ?_
  refine st_val (ex_lenR rfl h2 Try.underlying41) (by decide) trivial ?_
  refine st_val (ex_move rfl) (by decide) trivial ?_
  refine wpF_end (r := [(1, u1), (4, (.pointer (some ⟨b10, 0, none⟩))), (5, (.pointer (some ⟨b15, 0, none⟩))), (14, v1), (15, (.int .i64 (p0.Lines.length : Int))), (16, (.int .i64 0))]) ⟨rfl, rfl, rfl, rfl, rfl, rfl, trivial⟩ ?_
  refine nx ?_
  have h21 : RdL o13 w18 (.slice none 0 0) ([] : List (List Int)) := RdL.nil _ _
  obtain ⟨q28, hq28, hF⟩ := bind_some hF
  refine wpC_cutN (fun a w26 => ∃ (y22 : List (List Int)) (v23 : Value) (o25 : Tg), q28 = .inl y22 ∧ Fr a 43 [(4, (.pointer (some ⟨b10, 0, none⟩))), (5, (.pointer (some ⟨b15, 0, none⟩)))] ∧ Bs oo o25 w w26 ∧ Bx w.heap.size 12 o25 w26 b10 46 [(.int .i64 0), (.slice none 0 0)] ∧ Bx w.heap.size 13 o25 w26 b15 46 [(.int .i64 p0.Labels), v23] ∧ RdL o25 w26 v23 y22) (fun _ _ => False) ?_ ?_ ?_
  · refine wpC_block ?_
    refine wpC_loop (fun (K : Nat) a w26 => ∃ (i27 : Int) (y22 : List (List Int)) (v23 : Value) (o25 : Tg), forI (fS_roPath_s1 fuel p1) (p0.Lines.drop i27.toNat) i27 y22 = some q28 ∧ (p0.Lines.drop i27.toNat).length = K ∧ 0 ≤ i27 ∧ Fr a 43 [(1, u1), (4, (.pointer (some ⟨b10, 0, none⟩))), (5, (.pointer (some ⟨b15, 0, none⟩))), (14, v1), (15, (.int .i64 (p0.Lines.length : Int))), (16, (.int .i64 i27))] ∧ Bs oo o25 w w26 ∧ Bx w.heap.size 12 o25 w26 b10 46 [(.int .i64 0), (.slice none 0 0)] ∧ Bx w.heap.size 13 o25 w26 b15 46 [(.int .i64 p0.Labels), v23] ∧ RdL o25 w26 v23 y22) _ (fun a ha => ⟨0, [], (.slice none 0 0), o13, hq28, rfl, Int.le_refl 0, ha.sub (r := [(1, u1), (4, (.pointer (some ⟨b10, 0, none⟩))), (5, (.pointer (some ⟨b15, 0, none⟩))), (14, v1), (15, (.int .i64 (p0.Lines.length : Int))), (16, (.int .i64 0))]) ⟨rfl, rfl, rfl, rfl, rfl, rfl, trivial⟩, hB, h11, h20, h21⟩) ?_
    rintro K32 a w26 ⟨i27, y22, v23, o25, l29, m31, z30, ha, hB, h11, h20, h24⟩
    by_cases t36 : i27 < (p0.Lines.length : Int)
    · obtain ⟨x37, q33, hx37, b34, n35⟩ := forI_cons z30 t36 l29
      have hle := h2.len_le
      dsimp only [fS_roPath_s1] at b34
      refine wp_of ha ?_
      refine wpC_seq ?_
      refine wpC_region ?_
      refine st_val (ex_lss rfl rfl) (by decide) trivial ?_
      refine wpF_end (r := [(1, u1), (4, (.pointer (some ⟨b10, 0, none⟩))), (5, (.pointer (some ⟨b15, 0, none⟩))), (14, v1), (15, (.int .i64 (p0.Lines.length : Int))), (16, (.int .i64 i27)), (17, (.bool (decide (i27 < (p0.Lines.length : Int)))))]) ⟨rfl, rfl, rfl, rfl, rfl, rfl, rfl, trivial⟩ ?_
      refine nx ?_
      refine wpC_seq ?_
      refine wpC_true (congrArg (fun b => some (Value.bool b)) (decide_eq_true t36)) ?_
      refine wpC_skip ?_
      refine nx ?_
      refine wpC_seq ?_
      refine wpC_block ?_
      refine wpC_seq ?_
      refine wpC_region ?_
      refine st_op (by decide) trivial ?_
      refine wf_atZ h2 hx37 hB rfl rfl Try.underlying41 Try.sizeOf23 ?_
      intro b38 f39 c40 h41 h42
      obtain ⟨v43, rfl, h44⟩ := h42
      refine st_val (ex_load1 rfl Try.isAgg23 (cell_of_cells h41)) (by decide) trivial ?_
      refine st_val (ex_assign rfl) (by decide) trivial ?_
      refine wpF_end (r := [(1, u1), (4, (.pointer (some ⟨b10, 0, none⟩))), (5, (.pointer (some ⟨b15, 0, none⟩))), (7, v43), (14, v1), (15, (.int .i64 (p0.Lines.length : Int))), (16, (.int .i64 i27))]) ⟨rfl, rfl, rfl, rfl, rfl, rfl, rfl, trivial⟩ ?_
      refine nx ?_
      refine wpC_seq ?_
      refine wpC_seq ?_
      refine wpC_region ?_
      refine st_val (ex_move rfl) (by decide) trivial ?_
      refine st_val (ex_move rfl) (by decide) trivial ?_
      obtain ⟨x45, hx45, b34⟩ := bind_some b34
      refine st_op (by decide) trivial ?_
      refine wf_call (cS_prAll w26 _ x37 (h44.keep hB.keeps) _ p1 (g1.keep hB.keeps) x45 hx45) Try.call103 ⟨rfl, rfl, trivial⟩ ?_
      rintro e50 w46 ⟨rfl, k47⟩
      have s49 := k47.stp 999 o25
      refine ⟨_, rfl, ?_⟩
      replace h11 := h11.stp s49 (by decide)
      replace h20 := h20.stp s49 (by decide)
      replace h24 := h24.stp s49 (by decide)
      replace hB := hB.stp s49 (by decide)
      refine st_val (ex_not rfl) (by decide) trivial ?_
      refine wpF_end (r := [(1, u1), (4, (.pointer (some ⟨b10, 0, none⟩))), (5, (.pointer (some ⟨b15, 0, none⟩))), (7, v43), (14, v1), (15, (.int .i64 (p0.Lines.length : Int))), (16, (.int .i64 i27)), (23, (.bool (!x45)))]) ⟨rfl, rfl, rfl, rfl, rfl, rfl, rfl, rfl, trivial⟩ ?_
      refine nx ?_
      refine wpC_cond rfl (fun t51 => ?_) (fun t51 => ?_)
      · rw [if_pos t51] at b34
        refine wpC_exit ?_
        refine nt_exit ?_
        refine nb_hit ?_
        refine nx ?_
        refine wpC_region ?_
        refine st_val (ex_add rfl rfl (ck_in (by omega) (by omega))) (by decide) trivial ?_
        refine st_val (ex_move rfl) (by decide) trivial ?_
        refine wpF_end (r := [(1, u1), (4, (.pointer (some ⟨b10, 0, none⟩))), (5, (.pointer (some ⟨b15, 0, none⟩))), (14, v1), (15, (.int .i64 (p0.Lines.length : Int))), (16, (.int .i64 (i27 + 1)))]) ⟨rfl, rfl, rfl, rfl, rfl, rfl, trivial⟩ ?_
        refine nt_norm ?_
        have e52 := Option.some.inj b34
        subst e52
        refine to_k (r := [(1, u1), (4, (.pointer (some ⟨b10, 0, none⟩))), (5, (.pointer (some ⟨b15, 0, none⟩))), (14, v1), (15, (.int .i64 (p0.Lines.length : Int))), (16, (.int .i64 (i27 + 1)))]) ⟨rfl, rfl, rfl, rfl, rfl, rfl, trivial⟩ ?_
        intro a ha
        exact ⟨_, (by rw [← m31]; simp only [List.length_drop]; omega), i27 + 1, y22, v23, o25, n35, rfl, (by omega), ha, hB, h11, h20, h24⟩
      · rw [if_neg (by rw [t51]; decide)] at b34
        refine wpC_skip ?_
        refine nx ?_
        refine wpC_seq ?_
        refine wpC_region ?_
        refine st_val (ex_move rfl) (by decide) trivial ?_
        obtain ⟨x53, hx53, b34⟩ := bind_some b34
        refine st_op (by decide) trivial ?_
        refine wf_cutZ h44 hx53 rfl rfl rfl Try.underlying23 Try.sizeOf3 ?_
        intro v54 h55
        refine st_val (ex_lenR rfl h55 Try.underlying23) (by decide) trivial ?_
        refine st_val (ex_move rfl) (by decide) trivial ?_
        refine wpF_end (r := [(1, u1), (4, (.pointer (some ⟨b10, 0, none⟩))), (5, (.pointer (some ⟨b15, 0, none⟩))), (7, v43), (14, v1), (15, (.int .i64 (p0.Lines.length : Int))), (16, (.int .i64 i27)), (25, v54), (26, (.int .i64 (x53.length : Int))), (27, (.int .i64 0))]) ⟨rfl, rfl, rfl, rfl, rfl, rfl, rfl, rfl, rfl, rfl, trivial⟩ ?_
        refine nx ?_
        obtain ⟨q62, hq62, b34⟩ := bind_some b34
        refine wpC_cutN (fun a w60 => ∃ (y56 : List (List Int)) (v57 : Value) (o59 : Tg), q62 = .inl y56 ∧ Fr a 43 [(1, u1), (4, (.pointer (some ⟨b10, 0, none⟩))), (5, (.pointer (some ⟨b15, 0, none⟩))), (14, v1), (15, (.int .i64 (p0.Lines.length : Int))), (16, (.int .i64 i27))] ∧ Bs oo o59 w w60 ∧ Bx w.heap.size 12 o59 w60 b10 46 [(.int .i64 0), (.slice none 0 0)] ∧ Bx w.heap.size 13 o59 w60 b15 46 [(.int .i64 p0.Labels), v57] ∧ RdL o59 w60 v57 y56) (fun _ _ => False) ?_ ?_ ?_
        · refine wpC_block ?_
          refine wpC_loop (fun (K : Nat) a w60 => ∃ (i61 : Int) (y56 : List (List Int)) (v57 : Value) (o59 : Tg), forI (fS_roPath_s2 fuel x37) (x53.drop i61.toNat) i61 y56 = some q62 ∧ (x53.drop i61.toNat).length = K ∧ 0 ≤ i61 ∧ Fr a 43 [(1, u1), (4, (.pointer (some ⟨b10, 0, none⟩))), (5, (.pointer (some ⟨b15, 0, none⟩))), (7, v43), (14, v1), (15, (.int .i64 (p0.Lines.length : Int))), (16, (.int .i64 i27)), (25, v54), (26, (.int .i64 (x53.length : Int))), (27, (.int .i64 i61))] ∧ Bs oo o59 w w60 ∧ Bx w.heap.size 12 o59 w60 b10 46 [(.int .i64 0), (.slice none 0 0)] ∧ Bx w.heap.size 13 o59 w60 b15 46 [(.int .i64 p0.Labels), v57] ∧ RdL o59 w60 v57 y56) _ (fun a ha => ⟨0, y22, v23, o25, hq62, rfl, Int.le_refl 0, ha.sub (r := [(1, u1), (4, (.pointer (some ⟨b10, 0, none⟩))), (5, (.pointer (some ⟨b15, 0, none⟩))), (7, v43), (14, v1), (15, (.int .i64 (p0.Lines.length : Int))), (16, (.int .i64 i27)), (25, v54), (26, (.int .i64 (x53.length : Int))), (27, (.int .i64 0))]) ⟨rfl, rfl, rfl, rfl, rfl, rfl, rfl, rfl, rfl, rfl, trivial⟩, hB, h11, h20, h24⟩) ?_
          rintro K66 a w60 ⟨i61, y56, v57, o59, l63, m65, z64, ha, hB, h11, h20, h58⟩
          by_cases t70 : i61 < (x53.length : Int)
          · obtain ⟨x71, q67, hx71, b68, n69⟩ := forI_cons z64 t70 l63
            have hle := h55.len_le
            dsimp only [fS_roPath_s2] at b68
            refine wp_of ha ?_
            refine wpC_seq ?_
            refine wpC_region ?_
            refine st_val (ex_lss rfl rfl) (by decide) trivial ?_
            refine wpF_end (r := [(1, u1), (4, (.pointer (some ⟨b10, 0, none⟩))), (5, (.pointer (some ⟨b15, 0, none⟩))), (7, v43), (14, v1), (15, (.int .i64 (p0.Lines.length : Int))), (16, (.int .i64 i27)), (25, v54), (26, (.int .i64 (x53.length : Int))), (27, (.int .i64 i61)), (28, (.bool (decide (i61 < (x53.length : Int)))))]) ⟨rfl, rfl, rfl, rfl, rfl, rfl, rfl, rfl, rfl, rfl, rfl, trivial⟩ ?_
            refine nx ?_
            refine wpC_seq ?_
            refine wpC_true (congrArg (fun b => some (Value.bool b)) (decide_eq_true t70)) ?_
            refine wpC_skip ?_
            refine nx ?_
            refine wpC_seq ?_
            refine wpC_block ?_
            refine wpC_seq ?_
            refine wpC_region ?_
            refine st_op (by decide) trivial ?_
            refine wf_atZ h55 hx71 hB rfl rfl Try.underlying23 Try.sizeOf3 ?_
            intro b72 f73 c74 h75 h76
            cases h76
            refine st_val (ex_load1 rfl Try.isAgg3 (cell_of_cells h75)) (by decide) trivial ?_
            refine st_val (ex_assign rfl) (by decide) trivial ?_
            refine wpF_end (r := [(1, u1), (4, (.pointer (some ⟨b10, 0, none⟩))), (5, (.pointer (some ⟨b15, 0, none⟩))), (7, v43), (9, (.int .i64 x71)), (14, v1), (15, (.int .i64 (p0.Lines.length : Int))), (16, (.int .i64 i27)), (25, v54), (26, (.int .i64 (x53.length : Int))), (27, (.int .i64 i61))]) ⟨rfl, rfl, rfl, rfl, rfl, rfl, rfl, rfl, rfl, rfl, rfl, trivial⟩ ?_
            refine nx ?_
            obtain ⟨x77, hx77, b68⟩ := bind_some b68
            refine wpC_drawn (o := o59) [(1, u1), (4, (.pointer (some ⟨b10, 0, none⟩))), (5, (.pointer (some ⟨b15, 0, none⟩))), (7, v43), (9, (.int .i64 x71)), (14, v1), (15, (.int .i64 (p0.Lines.length : Int))), (16, (.int .i64 i27)), (25, v54), (26, (.int .i64 (x53.length : Int))), (27, (.int .i64 i61))] [1, 4, 5, 7, 9, 14, 15, 16, 25, 26, 27] [31, 32, 33, 34, 35, 36, 37] [[], [0], [], [2], [3], [], [4, 5]] [none, none, none, none, none, none, none] [999, 999, 999, 999, 999, 999, 999] [0, 0, 0, 0, 0, 0, 0] [999] [fun v _ _ => v = (.pointer (some ⟨b15, 0 + 1, none⟩)), fun v _ _ => v = v57, fun v _ _ => v = v43, fun v o w9 => ∃ vl, v = adr vl ((0 : Int).toNat * Rp.sz Int) ∧ RdL zt w vl x37, fun v _ _ => v = (.int .i64 x77), fun v _ _ => v = (.int .i64 x71), fun v o w9 => RdL o w9 v (([x77, x71] : List Int) : List Int)] (fun o8 w8 => Bs oo o8 w w8 ∧ Bx w.heap.size 12 o8 w8 b10 46 [(.int .i64 0), (.slice none 0 0)] ∧ Bx w.heap.size 13 o8 w8 b15 46 [(.int .i64 p0.Labels), v57] ∧ RdL o8 w8 v57 y56) follows_mixed (by kernel_rfl) rfl ⟨rfl, rfl, rfl, rfl, rfl, rfl, rfl, rfl, rfl, rfl, rfl, trivial⟩ ⟨hB, h11, h20, h58⟩ ?_ ⟨st_eq _, st_eq _, st_eq _, fun _ _ _ _ _ _ h0 hb ⟨vl, e, h⟩ hs => ⟨vl, e, h⟩, st_eq _, st_eq _, fun _ _ _ _ _ _ h0 hb h hs => h.stp hs h0.1, trivial⟩ ?_ ?_
            · rintro t9 o1 w1 o2 w2 ht9 ⟨hB, h11, h20, h58⟩ hs9
              have ht9 : t9 = 999 := by simpa using ht9
              subst ht9
              all_goals exact ⟨hB.stp hs9 (by decide), h11.stp hs9 (by decide), h20.stp hs9 (by decide), h58.stp hs9 (by decide)⟩
            · refine ⟨?_, ?_, ?_, ?_, ?_, ?_, ?_, trivial⟩
              · rintro o86 w87 a88 ha ⟨hB, h11, h20, h58⟩ -
                refine opS_of ha (trivial) ?_
                refine op1_val (ex_field rfl Try.underlying46 rfl Try.sizeOf41) ?_
                exact ⟨_, Stp.refl _ _ _, rfl⟩
              · rintro o89 w90 a91 ha ⟨hB, h11, h20, h58⟩ ⟨r92, -⟩
                have ha := Fr.cons (d := 31) ha r92
                refine opS_of ha (trivial) ?_
                refine op1_val (ex_load1 rfl Try.isAgg41 (h20.cell rfl)) ?_
                exact ⟨_, Stp.refl _ _ _, rfl⟩
              · rintro o93 w94 a95 ha ⟨hB, h11, h20, h58⟩ -
                refine opS_of ha (trivial) ?_
                refine op1_val (ex_move rfl) ?_
                exact ⟨_, Stp.refl _ _ _, rfl⟩
              · rintro o96 w97 a98 ha ⟨hB, h11, h20, h58⟩ ⟨r99, -⟩
                have ha := Fr.cons (d := 33) ha r99
                refine opS_of ha (trivial) ?_
                refine wd_indexR h44 hx77 rfl rfl Try.underlying23 Try.sizeOf3 ?_
                exact ⟨_, Stp.refl _ _ _, ⟨_, rfl, h44⟩⟩
              · rintro o100 w101 a102 ha ⟨hB, h11, h20, h58⟩ ⟨r103, -⟩
                obtain ⟨v104, e105, h106⟩ := r103
                have ha := Fr.cons (d := 34) ha e105
                refine opS_of ha (trivial) ?_
                refine wd_load1Z h106 hx77 hB rfl rfl Try.isAgg3 ?_
                intro c107 h108
                cases h108
                exact ⟨_, Stp.refl _ _ _, rfl⟩
              · rintro o109 w110 a111 ha ⟨hB, h11, h20, h58⟩ -
                refine opS_of ha (trivial) ?_
                refine op1_val (ex_move rfl) ?_
                exact ⟨_, Stp.refl _ _ _, rfl⟩
              · rintro o112 w113 a114 ha ⟨hB, h11, h20, h58⟩ ⟨r115, r116, -⟩
                have ha := Fr.cons (d := 35) ha r115
                have ha := Fr.cons (d := 36) ha r116
                refine opS_of ha (trivial) ?_
                refine wf_litR (o := o112) (cs := [(.int .i64 x77), (.int .i64 x71)]) (xs := ([x77, x71] : List Int)) (vs := [(0, (.int .i64 x77)), (1, (.int .i64 x71))]) ⟨_, _, rfl, rfl, ⟨_, _, rfl, rfl, rfl⟩⟩ rfl ⟨rfl, rfl, rfl, rfl, trivial⟩ Try.underlying23 Try.sizeOf3 Try.zeroValue3 (by decide) (fill2 rfl rfl) (by simp) ?_
                intro o117 w118 v119 h120 s121 k122
                replace h11 := h11.stp s121 (by decide)
                replace h20 := h20.stp s121 (by decide)
                replace h58 := h58.stp s121 (by decide)
                replace hB := hB.stp s121 (by decide)
                exact ⟨_, s121, h120⟩
            rintro o123 w124 a125 ha ⟨hB, h11, h20, h58⟩ ⟨-, r126, -, -, -, -, r127, -⟩
            have ha := Fr.cons (d := 32) ha r126
            replace r127 : RdL o123 w124 (a125.tmps.getD 37 undef) (([x77, x71] : List Int) : List Int) := r127
            generalize e129 : a125.tmps.getD 37 undef = v128 at r127
            have ha := Fr.cons (d := 37) ha e129
            refine wl_of ha ?_
            simp only [List.length_cons, List.length_nil, Nat.zero_add, Nat.reduceAdd, List.drop_succ_cons, List.drop_zero]
            obtain ⟨x130, hx130, b68⟩ := bind_some b68
            refine st_op (by decide) trivial ?_
            refine wf_call (cS_prInsert fuel w124 o123 15 (by decide) _ y56 h58 _ ([x77, x71] : List Int) r127 x130 hx130) Try.call104 ⟨rfl, rfl, trivial⟩ ?_
            rintro e137 w131 ⟨v132, o138, rfl, h133, k134, k135⟩
            have s136 := k134.stp' 15 k135
            refine ⟨_, rfl, ?_⟩
            replace h58 := h58.stp s136 (by decide)
            replace r127 := r127.stp s136 (by decide)
            replace h11 := h11.stp s136 (by decide)
            replace h20 := h20.stp s136 (by decide)
            replace hB := hB.stp s136 (by decide)
            refine st_val (ex_field rfl Try.underlying46 rfl Try.sizeOf41) (by decide) trivial ?_
            refine st_op0 trivial ?_
            refine wf_storeB h20 rfl rfl (of_decide_eq_true rfl) Try.sizeOf41 h133.cells1 h133.one1 ?_
            intro w139 h141 s140
            replace h58 := h58.stp s140 (by decide)
            replace r127 := r127.stp s140 (by decide)
            replace h133 := h133.stp s140 (by decide)
            replace h11 := h11.stp s140 (by decide)
            replace hB := hB.stp s140 (by decide)
            replace h141 : Bx w.heap.size 13 o138 w139 b15 46 [(.int .i64 p0.Labels), v132] := h141
            refine wpF_end (r := [(1, u1), (4, (.pointer (some ⟨b10, 0, none⟩))), (5, (.pointer (some ⟨b15, 0, none⟩))), (7, v43), (14, v1), (15, (.int .i64 (p0.Lines.length : Int))), (16, (.int .i64 i27)), (25, v54), (26, (.int .i64 (x53.length : Int))), (27, (.int .i64 i61))]) ⟨rfl, rfl, rfl, rfl, rfl, rfl, rfl, rfl, rfl, rfl, trivial⟩ ?_
            refine nb_norm ?_
            refine nx ?_
            refine wpC_region ?_
            refine st_val (ex_add rfl rfl (ck_in (by omega) (by omega))) (by decide) trivial ?_
            refine st_val (ex_move rfl) (by decide) trivial ?_
            refine wpF_end (r := [(1, u1), (4, (.pointer (some ⟨b10, 0, none⟩))), (5, (.pointer (some ⟨b15, 0, none⟩))), (7, v43), (14, v1), (15, (.int .i64 (p0.Lines.length : Int))), (16, (.int .i64 i27)), (25, v54), (26, (.int .i64 (x53.length : Int))), (27, (.int .i64 (i61 + 1)))]) ⟨rfl, rfl, rfl, rfl, rfl, rfl, rfl, rfl, rfl, rfl, trivial⟩ ?_
            refine nt_norm ?_
            have e142 := Option.some.inj b68
            subst e142
            refine to_k (r := [(1, u1), (4, (.pointer (some ⟨b10, 0, none⟩))), (5, (.pointer (some ⟨b15, 0, none⟩))), (7, v43), (14, v1), (15, (.int .i64 (p0.Lines.length : Int))), (16, (.int .i64 i27)), (25, v54), (26, (.int .i64 (x53.length : Int))), (27, (.int .i64 (i61 + 1)))]) ⟨rfl, rfl, rfl, rfl, rfl, rfl, rfl, rfl, rfl, rfl, trivial⟩ ?_
            intro a ha
            exact ⟨_, (by rw [← m65]; simp only [List.length_drop]; omega), i61 + 1, x130, v132, o138, n69, rfl, (by omega), ha, hB, h11, h141, h133⟩
          · have r143 := forI_done t70 l63
            refine wp_of ha ?_
            refine wpC_seq ?_
            refine wpC_region ?_
            refine st_val (ex_lss rfl rfl) (by decide) trivial ?_
            refine wpF_end (r := [(1, u1), (4, (.pointer (some ⟨b10, 0, none⟩))), (5, (.pointer (some ⟨b15, 0, none⟩))), (7, v43), (14, v1), (15, (.int .i64 (p0.Lines.length : Int))), (16, (.int .i64 i27)), (25, v54), (26, (.int .i64 (x53.length : Int))), (27, (.int .i64 i61)), (28, (.bool (decide (i61 < (x53.length : Int)))))]) ⟨rfl, rfl, rfl, rfl, rfl, rfl, rfl, rfl, rfl, rfl, rfl, trivial⟩ ?_
            refine nx ?_
            refine wpC_seq ?_
            refine wpC_false (congrArg (fun b => some (Value.bool b)) (decide_eq_false t70)) ?_
            refine wpC_exit ?_
            refine nt_exit ?_
            refine nt_exit ?_
            refine nb_hit ?_
            refine np_norm ?_
            refine to_k (r := [(1, u1), (4, (.pointer (some ⟨b10, 0, none⟩))), (5, (.pointer (some ⟨b15, 0, none⟩))), (14, v1), (15, (.int .i64 (p0.Lines.length : Int))), (16, (.int .i64 i27))]) ⟨rfl, rfl, rfl, rfl, rfl, rfl, trivial⟩ ?_
            intro a ha
            exact ⟨y56, v57, o59, r143, ha, hB, h11, h20, h58⟩
        · rintro a w60 ⟨y56, v57, o59, rfl, ha, hB, h11, h20, h58⟩
          dsimp only at b34
          refine ap_k ha ?_
          refine nb_norm ?_
          refine nx ?_
          refine wpC_region ?_
          refine st_val (ex_add rfl rfl (ck_in (by omega) (by omega))) (by decide) trivial ?_
          refine st_val (ex_move rfl) (by decide) trivial ?_
          refine wpF_end (r := [(1, u1), (4, (.pointer (some ⟨b10, 0, none⟩))), (5, (.pointer (some ⟨b15, 0, none⟩))), (14, v1), (15, (.int .i64 (p0.Lines.length : Int))), (16, (.int .i64 (i27 + 1)))]) ⟨rfl, rfl, rfl, rfl, rfl, rfl, trivial⟩ ?_
          refine nt_norm ?_
          have e144 := Option.some.inj b34
          subst e144
          refine to_k (r := [(1, u1), (4, (.pointer (some ⟨b10, 0, none⟩))), (5, (.pointer (some ⟨b15, 0, none⟩))), (14, v1), (15, (.int .i64 (p0.Lines.length : Int))), (16, (.int .i64 (i27 + 1)))]) ⟨rfl, rfl, rfl, rfl, rfl, rfl, trivial⟩ ?_
          intro a ha
          exact ⟨_, (by rw [← m31]; simp only [List.length_drop]; omega), i27 + 1, y56, v57, o59, n35, rfl, (by omega), ha, hB, h11, h20, h58⟩
        · exact fun _ _ h => h.elim
    · have r145 := forI_done t36 l29
      refine wp_of ha ?_
      refine wpC_seq ?_
      refine wpC_region ?_
      refine st_val (ex_lss rfl rfl) (by decide) trivial ?_
      refine wpF_end (r := [(1, u1), (4, (.pointer (some ⟨b10, 0, none⟩))), (5, (.pointer (some ⟨b15, 0, none⟩))), (14, v1), (15, (.int .i64 (p0.Lines.length : Int))), (16, (.int .i64 i27)), (17, (.bool (decide (i27 < (p0.Lines.length : Int)))))]) ⟨rfl, rfl, rfl, rfl, rfl, rfl, rfl, trivial⟩ ?_
      refine nx ?_
      refine wpC_seq ?_
      refine wpC_false (congrArg (fun b => some (Value.bool b)) (decide_eq_false t36)) ?_
      refine wpC_exit ?_
      refine nt_exit ?_
      refine nt_exit ?_
      refine nb_hit ?_
      refine np_norm ?_
      refine to_k (r := [(4, (.pointer (some ⟨b10, 0, none⟩))), (5, (.pointer (some ⟨b15, 0, none⟩)))]) ⟨rfl, rfl, trivial⟩ ?_
      intro a ha
      exact ⟨y22, v23, o25, r145, ha, hB, h11, h20, h24⟩
  · rintro a w26 ⟨y22, v23, o25, rfl, ha, hB, h11, h20, h24⟩
    dsimp only at hF
    refine ap_k ha ?_
    refine nx ?_
    refine wpC_seq ?_
    refine wpC_region ?_
    refine st_val (ex_loadA rfl Try.isAgg46 Try.sizeOf46 rfl h20.cells) (by decide) trivial ?_
    refine st_op0 trivial ?_
    refine wf_storeA h11 rfl rfl rfl info1_t_impl_WalkProblem_Ppa (by intro c hc; simp only [List.mem_cons, List.not_mem_nil, or_false] at hc; rcases hc with rfl | rfl <;> first | rfl | exact h24.one1) ?_
    intro w146 h148 s147
    replace h24 := h24.stp s147 (by decide)
    replace h20 := h20.stp s147 (by decide)
    replace hB := hB.stp s147 (by decide)
    refine wpF_end (r := [(4, (.pointer (some ⟨b10, 0, none⟩)))]) ⟨rfl, trivial⟩ ?_
    refine nx ?_
    refine wpC_ret ?_
    have e149 := Option.some.inj hF
    subst e149
    refine ret_post (P := Try.prog) (vs := [(.agg #[(.int .i64 p0.Labels), v23])]) Try.results70 ⟨⟨_, rfl, run_loadA Try.isAgg46 Try.sizeOf46 rfl h148.cells⟩, trivial⟩ ?_
    exact ⟨[(.int .i64 p0.Labels), v23], rt oo o25 w.heap.size 9 t, rfl, ⟨_, rfl, h24.rt hB 9 t (by decide)⟩, hB.keeps, rt_old _ _ _ _ _⟩
  · exact fun _ _ h => h.elim

def fS_PathForm (fuel : Nat) (p0 : T_RootedProblem) : Option (T_WalkProblem × Bool) :=
  (fS_roGood fuel p0) >>= fun x13 =>
  if !x13 then
    some ((⟨0, []⟩ : T_WalkProblem), false)
  else
    (fS_roAll fuel p0) >>= fun x24 =>
    (fS_roPath fuel p0 x24) >>= fun x58 =>
    some (x58, true)

def pS_PathForm (oo : Tg) (t : Nat) (w : World) (r : T_WalkProblem × Bool) : Ending → World → Prop := fun e w' => ∃ (v0 : List Value) (o' : Tg), e = .returned (.tuple #[.agg v0.toArray, .bool r.2]) ∧ Rp.rd o' w' v0 r.1 ∧ Keeps w w' ∧ ∀ b, b < w.heap.size → o' b = oo b
set_option maxRecDepth 100000 in
set_option maxHeartbeats 2000000 in
theorem cS_PathForm (fuel : Nat) (w : World) (oo : Tg) (t : Nat) (ht : 2 ≤ t) (u0 : List Value) (p0 : T_RootedProblem) (g0 : Rp.rd zt w u0 p0) (r : T_WalkProblem × Bool) (hF : fS_PathForm fuel p0 = some r) :
    Calls Try.prog 25 #[.agg u0.toArray] w (pS_PathForm oo t w r) := by
  unfold fS_PathForm at hF
  obtain ⟨v1, rfl, h2⟩ := g0
  have hB : Bs oo (col oo) w w := Bs.start _ _
  refine calls_start (n := 12) (vs := [(.agg #[(.int .i64 p0.Labels), (.int .i64 p0.Children), v1])]) Try.func25 rfl rfl ?_
  generalize col oo = o at *
  refine wpC_seq ?_
  refine wpC_region ?_
  refine st_op (by decide) trivial ?_
  refine wf_box (o := o) w.heap.size 11 hB.keeps.size (cs := [(.int .i64 p0.Labels), (.int .i64 p0.Children), v1]) rfl rfl ?_
  intro o3 w4 b5 h6 s7
  replace hB := hB.stp s7 (by decide)
  refine st_op (by decide) trivial ?_
  refine wf_alloc (o := o3) w.heap.size 12 hB.keeps.size (cs := [(.int .i64 0), (.slice none 0 0)]) Try.zeroValue46 rfl ?_
  intro o8 w9 b10 h11 s12
  replace h6 := h6.stp s12 (by decide)
  replace hB := hB.stp s12 (by decide)
  refine st_val (ex_assign rfl) (by decide) trivial ?_
  refine wpF_end (r := [(1, (.pointer (some ⟨b5, 0, none⟩))), (2, (.pointer (some ⟨b10, 0, none⟩)))]) ⟨rfl, rfl, trivial⟩ ?_
  refine nx ?_
  refine wpC_seq ?_
  refine wpC_seq ?_
  refine wpC_region ?_
  refine st_val (ex_loadA rfl Try.isAgg49 Try.sizeOf49 rfl h6.cells) (by decide) trivial ?_
  obtain ⟨x13, hx13, hF⟩ := bind_some hF
  refine st_op (by decide) trivial ?_
  refine wf_call (cS_roGood fuel w9 _ p0 (⟨_, rfl, (h2.keep hB.keeps)⟩) x13 hx13) Try.call69 ⟨rfl, trivial⟩ ?_
  rintro e18 w14 ⟨rfl, k15⟩
  have s17 := k15.stp 999 o8
  refine ⟨_, rfl, ?_⟩
  replace h6 := h6.stp s17 (by decide)
  replace h11 := h11.stp s17 (by decide)
  replace hB := hB.stp s17 (by decide)
  refine st_val (ex_not rfl) (by decide) trivial ?_
  refine wpF_end (r := [(1, (.pointer (some ⟨b5, 0, none⟩))), (2, (.pointer (some ⟨b10, 0, none⟩))), (6, (.bool (!x13)))]) ⟨rfl, rfl, rfl, trivial⟩ ?_
  refine nx ?_
  refine wpC_cond rfl (fun t19 => ?_) (fun t19 => ?_)
  · rw [if_pos t19] at hF
    refine wpC_seq ?_
    refine wpC_region ?_
    refine st_val (ex_build (vs := []) (cs := [(.int .i64 0), (.slice none 0 0)]) trivial (by kernel_rfl)) (by decide) trivial ?_
    refine st_op0 trivial ?_
    refine wf_storeA h11 rfl rfl rfl info1_t_impl_WalkProblem_Ppa (by intro c hc; simp only [List.mem_cons, List.not_mem_nil, or_false] at hc; rcases hc with rfl | rfl <;> first | rfl) ?_
    intro w20 h22 s21
    replace h6 := h6.stp s21 (by decide)
    replace hB := hB.stp s21 (by decide)
    refine st_val (ex_assign rfl) (by decide) trivial ?_
    refine wpF_end (r := [(2, (.pointer (some ⟨b10, 0, none⟩))), (3, (.bool false))]) ⟨rfl, rfl, trivial⟩ ?_
    refine nx ?_
    refine wpC_ret ?_
    refine nt_ret ?_
    have e23 := Option.some.inj hF
    subst e23
    refine ret_post (P := Try.prog) (vs := [(.agg #[(.int .i64 0), (.slice none 0 0)]), (.bool false)]) Try.results25 ⟨⟨_, rfl, run_loadA Try.isAgg46 Try.sizeOf46 rfl h22.cells⟩, rfl, trivial⟩ ?_
    exact ⟨[(.int .i64 0), (.slice none 0 0)], rt oo o8 w.heap.size 9 t, rfl, ⟨_, rfl, RdL.nil _ _⟩, hB.keeps, rt_old _ _ _ _ _⟩
  · rw [if_neg (by rw [t19]; decide)] at hF
    refine wpC_skip ?_
    refine nx ?_
    refine wpC_seq ?_
    obtain ⟨x24, hx24, hF⟩ := bind_some hF
    refine wpC_drawn (o := o8) [(1, (.pointer (some ⟨b5, 0, none⟩))), (2, (.pointer (some ⟨b10, 0, none⟩)))] [1, 2] [8, 9, 10] [[], [], [1]] [none, none, none] [999, 999, 999] [0, 0, 14] [999] [fun v _ _ => v = (.agg #[(.int .i64 p0.Labels), (.int .i64 p0.Children), v1]), fun v _ _ => v = (.agg #[(.int .i64 p0.Labels), (.int .i64 p0.Children), v1]), fun v o w9 => Ow w.heap.size 3 14 o w9 v x24] (fun o8 w8 => Bs oo o8 w w8 ∧ Bx w.heap.size 11 o8 w8 b5 49 [(.int .i64 p0.Labels), (.int .i64 p0.Children), v1] ∧ Bx w.heap.size 12 o8 w8 b10 46 [(.int .i64 0), (.slice none 0 0)]) follows_mixed (by kernel_rfl) rfl ⟨rfl, rfl, trivial⟩ ⟨hB, h6, h11⟩ ?_ ⟨st_eq _, st_eq _, fun _ _ _ _ _ _ h0 hb h hs => h.stp hs h0.1 (Ne.symm hb), trivial⟩ ?_ ?_
    · rintro t9 o1 w1 o2 w2 ht9 ⟨hB, h6, h11⟩ hs9
      have ht9 : t9 = 999 := by simpa using ht9
      subst ht9
      all_goals exact ⟨hB.stp hs9 (by decide), h6.stp hs9 (by decide), h11.stp hs9 (by decide)⟩
    · refine ⟨?_, ?_, ?_, trivial⟩
      · rintro o33 w34 a35 ha ⟨hB, h6, h11⟩ -
        refine opS_of ha (trivial) ?_
        refine op1_val (ex_loadA rfl Try.isAgg49 Try.sizeOf49 rfl h6.cells) ?_
        exact ⟨_, Stp.refl _ _ _, rfl⟩
      · rintro o36 w37 a38 ha ⟨hB, h6, h11⟩ -
        refine opS_of ha (trivial) ?_
        refine op1_val (ex_loadA rfl Try.isAgg49 Try.sizeOf49 rfl h6.cells) ?_
        exact ⟨_, Stp.refl _ _ _, rfl⟩
      · rintro o39 w40 a41 ha ⟨hB, h6, h11⟩ ⟨r42, -⟩
        have ha := Fr.cons (d := 9) ha r42
        refine opS_of ha (trivial) ?_
        refine wf_call (cS_roAll fuel w40 o39 14 (by decide) _ p0 (⟨_, rfl, (h2.keep hB.keeps)⟩) x24 hx24) Try.call71 ⟨rfl, trivial⟩ ?_
        rintro e49 w43 ⟨v44, o50, rfl, h45, k46, k47⟩
        have s48 := k46.stp' 999 k47
        replace h45 := h45.mono hB.keeps.size
        refine ⟨_, rfl, ?_⟩
        replace h6 := h6.stp s48 (by decide)
        replace h11 := h11.stp s48 (by decide)
        replace hB := hB.stp s48 (by decide)
        exact ⟨_, s48, h45⟩
    rintro o51 w52 a53 ha ⟨hB, h6, h11⟩ ⟨r54, -, r55, -⟩
    have ha := Fr.cons (d := 8) ha r54
    replace r55 : Ow w.heap.size 3 14 o51 w52 (a53.tmps.getD 10 undef) x24 := r55
    generalize e57 : a53.tmps.getD 10 undef = v56 at r55
    have ha := Fr.cons (d := 10) ha e57
    refine wl_of ha ?_
    simp only [List.length_cons, List.length_nil, Nat.zero_add, Nat.reduceAdd, List.drop_succ_cons, List.drop_zero]
    obtain ⟨x58, hx58, hF⟩ := bind_some hF
    refine st_op (by decide) trivial ?_
    refine wf_call (cS_roPath fuel w52 o51 15 (by decide) _ p0 (⟨_, rfl, (h2.keep hB.keeps)⟩) _ x24 r55.z x58 hx58) Try.call70 ⟨rfl, rfl, trivial⟩ ?_
    rintro e65 w59 ⟨c60, o66, rfl, h61, k62, k63⟩
    have s64 := k62.stp' 15 k63
    refine ⟨_, rfl, ?_⟩
    obtain ⟨v67, rfl, h68⟩ := h61
    replace r55 := r55.stp s64 (by decide) (by decide)
    replace h6 := h6.stp s64 (by decide)
    replace h11 := h11.stp s64 (by decide)
    replace hB := hB.stp s64 (by decide)
    refine st_op0 trivial ?_
    refine wf_storeA h11 rfl rfl rfl info1_t_impl_WalkProblem_Ppa (by intro c hc; simp only [List.mem_cons, List.not_mem_nil, or_false] at hc; rcases hc with rfl | rfl <;> first | rfl | exact h68.one1) ?_
    intro w69 h71 s70
    replace r55 := r55.stp s70 (by decide) (by decide)
    replace h68 := h68.stp s70 (by decide)
    replace h6 := h6.stp s70 (by decide)
    replace hB := hB.stp s70 (by decide)
    refine st_val (ex_assign rfl) (by decide) trivial ?_
    refine wpF_end (r := [(2, (.pointer (some ⟨b10, 0, none⟩))), (3, (.bool true))]) ⟨rfl, rfl, trivial⟩ ?_
    refine nx ?_
    refine wpC_ret ?_
    have e72 := Option.some.inj hF
    subst e72
    refine ret_post (P := Try.prog) (vs := [(.agg #[(.int .i64 x58.Labels), v67]), (.bool true)]) Try.results25 ⟨⟨_, rfl, run_loadA Try.isAgg46 Try.sizeOf46 rfl h71.cells⟩, rfl, trivial⟩ ?_
    exact ⟨[(.int .i64 x58.Labels), v67], rt oo o66 w.heap.size 9 t, rfl, ⟨_, rfl, h68.rt hB 9 t (by decide)⟩, hB.keeps, rt_old _ _ _ _ _⟩

end Go.Proofs.Ytijaojnaamkinaa
