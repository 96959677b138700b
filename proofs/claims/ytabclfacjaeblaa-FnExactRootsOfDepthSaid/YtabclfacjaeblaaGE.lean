/- spec.RootsOfDepth, impl.RootsOfDepth: plain functions, and the walks that show that the program computes them (printed by gen.py). -/
import Derived.Test.YtabclfacjaeblaaGC
namespace Go.Proofs.Ytabclfacjaeblaa
open Go.RowKit
set_option linter.unusedSimpArgs false
set_option linter.unusedVariables false

def fS_RootsOfDepth (fuel : Nat) (p0 : T_RootedProblem) (p1 : Int) : Option ((List Int) × Bool) :=
  (fS_roGood fuel p0) >>= fun x8 =>
  (
    if !x8 then
      some true
    else
      (fS_l1In p1 0 1000) >>= fun x18 =>
      some (!x18)) >>= fun q14 =>
  if q14 then
    some ([], false)
  else
    (fS_roRoots fuel p0 p1) >>= fun x29 =>
    some (x29, true)

def pS_RootsOfDepth (oo : Tg) (t : Nat) (w : World) (r : (List Int) × Bool) : Ending → World → Prop := fun e w' => ∃ (v0 : Value) (o' : Tg), e = .returned (.tuple #[v0, .bool r.2]) ∧ Of 3 o' w' v0 r.1 ∧ Keeps w w' ∧ ∀ b, b < w.heap.size → o' b = oo b
set_option maxRecDepth 100000 in
set_option maxHeartbeats 2000000 in
theorem cS_RootsOfDepth (fuel : Nat) (w : World) (oo : Tg) (t : Nat) (ht : 2 ≤ t) (u0 : List Value) (p0 : T_RootedProblem) (g0 : Rp.rd zt w u0 p0) (p1 : Int) (r : (List Int) × Bool) (hF : fS_RootsOfDepth fuel p0 p1 = some r) :
    Calls Try.prog 13 #[.agg u0.toArray, .int .i64 p1] w (pS_RootsOfDepth oo t w r) := by
  unfold fS_RootsOfDepth at hF
  obtain ⟨v1, rfl, h2⟩ := g0
  have hB : Bs oo (col oo) w w := Bs.start _ _
  refine calls_start (n := 17) (vs := [(.agg #[(.int .i64 p0.Labels), (.int .i64 p0.Children), v1]), (.int .i64 p1)]) Try.func13 rfl rfl ?_
  generalize col oo = o at *
  refine wpC_seq ?_
  refine wpC_region ?_
  refine st_op (by decide) trivial ?_
  refine wf_box (o := o) w.heap.size 11 hB.keeps.size (cs := [(.int .i64 p0.Labels), (.int .i64 p0.Children), v1]) rfl rfl ?_
  intro o3 w4 b5 h6 s7
  replace hB := hB.stp s7 (by decide)
  refine st_val (ex_assign rfl) (by decide) trivial ?_
  refine st_val (ex_assign rfl) (by decide) trivial ?_
  refine wpF_end (r := [(1, (.int .i64 p1)), (2, (.pointer (some ⟨b5, 0, none⟩)))]) ⟨rfl, rfl, trivial⟩ ?_
  refine nx ?_
  refine wpC_seq ?_
  refine wpC_seq ?_
  refine wpC_region ?_
  refine st_val (ex_loadA rfl Try.isAgg29 Try.sizeOf29 rfl h6.cells) (by decide) trivial ?_
  obtain ⟨x8, hx8, hF⟩ := bind_some hF
  refine st_op (by decide) trivial ?_
  refine wf_call (cS_roGood fuel w4 _ p0 (⟨_, rfl, (h2.keep hB.keeps)⟩) x8 hx8) Try.call52 ⟨rfl, trivial⟩ ?_
  rintro e13 w9 ⟨rfl, k10⟩
  have s12 := k10.stp 999 o3
  refine ⟨_, rfl, ?_⟩
  replace h6 := h6.stp s12 (by decide)
  replace hB := hB.stp s12 (by decide)
  refine st_val (ex_not rfl) (by decide) trivial ?_
  refine st_val (ex_move rfl) (by decide) trivial ?_
  obtain ⟨q14, hq14, hF⟩ := bind_some hF
  refine wpF_cutAt 4 (fun a16 w15 => Fr a16 17 [(1, (.int .i64 p1)), (2, (.pointer (some ⟨b5, 0, none⟩))), (13, (.bool q14))] ∧ Keeps w9 w15) ?_ ?_
  all_goals simp only [List.take_succ_cons, List.take_zero, List.drop_succ_cons, List.drop_zero]
  · have kp : Keeps w9 w9 := Keeps.refl _
    rcases Bool.eq_false_or_eq_true (!x8) with t17 | t17
    · rw [if_pos t17] at hq14
      refine st_no rfl rfl (by rw [t17]; rfl) (by decide) ?_
      refine st_no rfl rfl (by rw [t17]; rfl) (by decide) ?_
      refine st_no rfl rfl (by rw [t17]; rfl) (by decide) ?_
      refine st_val (ex_pick_t (congrArg (fun b => some (Value.bool b)) t17) rfl) (by decide) trivial ?_
      have hq142 := Option.some.inj hq14
      refine wpF_end (r := [(1, (.int .i64 p1)), (2, (.pointer (some ⟨b5, 0, none⟩))), (13, (.bool true))]) ⟨rfl, rfl, rfl, trivial⟩ ?_
      subst hq142
      refine np_norm (fun a ha => ⟨ha, kp⟩)
    · rw [if_neg (by rw [t17]; decide)] at hq14
      refine st_val (ex_move rfl) (by decide) ⟨_, rfl, (congrArg (fun b => some (Value.bool b)) t17)⟩ ?_
      obtain ⟨x18, hx18, hq14⟩ := bind_some hq14
      refine st_op (by decide) ⟨_, rfl, (congrArg (fun b => some (Value.bool b)) t17)⟩ ?_
      refine wf_call (cS_l1In w9 p1 0 1000 x18 hx18) Try.call53 ⟨rfl, rfl, rfl, trivial⟩ ?_
      rintro e23 w19 ⟨rfl, k20⟩
      have s22 := k20.stp 999 o3
      refine ⟨_, rfl, ?_⟩
      replace h6 := h6.stp s22 (by decide)
      replace hB := hB.stp s22 (by decide)
      replace kp := Keeps.trans kp k20
      refine st_val (ex_not rfl) (by decide) ⟨_, rfl, (congrArg (fun b => some (Value.bool b)) t17)⟩ ?_
      refine st_val (ex_pick_f (congrArg (fun b => some (Value.bool b)) t17) rfl) (by decide) trivial ?_
      have hq142 := Option.some.inj hq14
      refine wpF_end (r := [(1, (.int .i64 p1)), (2, (.pointer (some ⟨b5, 0, none⟩))), (13, (.bool (!x18)))]) ⟨rfl, rfl, rfl, trivial⟩ ?_
      subst hq142
      refine np_norm (fun a ha => ⟨ha, kp⟩)
  rintro a26 w15 ⟨ha, k24⟩
  have s25 := k24.stp 999 o3
  replace h6 := h6.stp s25 (by decide)
  replace hB := hB.stp s25 (by decide)
  refine wl_of ha ?_
  refine wpF_end (r := [(1, (.int .i64 p1)), (2, (.pointer (some ⟨b5, 0, none⟩))), (13, (.bool q14))]) ⟨rfl, rfl, rfl, trivial⟩ ?_
  refine nx ?_
  refine wpC_cond rfl (fun t27 => ?_) (fun t27 => ?_)
  · rw [if_pos t27] at hF
    refine wpC_seq ?_
    refine wpC_region ?_
    refine st_val (ex_assign rfl) (by decide) trivial ?_
    refine st_val (ex_assign rfl) (by decide) trivial ?_
    refine wpF_end (r := [(4, (.slice none 0 0)), (5, (.bool false))]) ⟨rfl, rfl, trivial⟩ ?_
    refine nx ?_
    refine wpC_ret ?_
    refine nt_ret ?_
    have e28 := Option.some.inj hF
    subst e28
    refine ret_post (P := Try.prog) (vs := [(.slice none 0 0), (.bool false)]) Try.results13 ⟨rfl, rfl, trivial⟩ ?_
    exact ⟨_, rt oo o3 w.heap.size 9 t, rfl, (Of.nil _ _ _), hB.keeps, rt_old _ _ _ _ _⟩
  · rw [if_neg (by rw [t27]; decide)] at hF
    refine wpC_skip ?_
    refine nx ?_
    refine wpC_seq ?_
    refine wpC_region ?_
    refine st_val (ex_loadA rfl Try.isAgg29 Try.sizeOf29 rfl h6.cells) (by decide) trivial ?_
    refine st_val (ex_move rfl) (by decide) trivial ?_
    obtain ⟨x29, hx29, hF⟩ := bind_some hF
    refine st_op (by decide) trivial ?_
    refine wf_call (cS_roRoots fuel w15 o3 14 (by decide) _ p0 (⟨_, rfl, (h2.keep hB.keeps)⟩) p1 x29 hx29) Try.call54 ⟨rfl, rfl, trivial⟩ ?_
    rintro e37 w30 ⟨v31, o38, rfl, h32, k34, k35⟩
    have s36 := k34.stp' 14 k35
    have h33 := h32.rd
    refine ⟨_, rfl, ?_⟩
    replace h6 := h6.stp s36 (by decide)
    replace hB := hB.stp s36 (by decide)
    refine st_val (ex_assign rfl) (by decide) trivial ?_
    refine st_val (ex_assign rfl) (by decide) trivial ?_
    refine wpF_end (r := [(4, v31), (5, (.bool true))]) ⟨rfl, rfl, trivial⟩ ?_
    refine nx ?_
    refine wpC_ret ?_
    have e39 := Option.some.inj hF
    subst e39
    refine ret_post (P := Try.prog) (vs := [v31, (.bool true)]) Try.results13 ⟨rfl, rfl, trivial⟩ ?_
    exact ⟨_, rt oo o38 w.heap.size 9 t, rfl, h32.rt hB 9 t (by decide), hB.keeps, rt_old _ _ _ _ _⟩

def fI_RootsOfDepth (fuel : Nat) (p0 : T_RootedProblem) (p1 : Int) : Option ((List Int) × Bool) :=
  (fI_IsRootedProblem fuel p0) >>= fun x8 =>
  (
    if !x8 then
      some true
    else
      (fI_within p1 0 1000) >>= fun x18 =>
      some (!x18)) >>= fun q14 =>
  if q14 then
    some ([], false)
  else
    (fI_RootedProblem_rootsOfDepth fuel p0 p1) >>= fun x29 =>
    (fI_labelsIn fuel x29) >>= fun x35 =>
    some (x35, true)

def pI_RootsOfDepth (oo : Tg) (t : Nat) (w : World) (r : (List Int) × Bool) : Ending → World → Prop := fun e w' => ∃ (v0 : Value) (o' : Tg), e = .returned (.tuple #[v0, .bool r.2]) ∧ Ow w.heap.size 3 t o' w' v0 r.1 ∧ Keeps w w' ∧ ∀ b, b < w.heap.size → o' b = oo b
set_option maxRecDepth 100000 in
set_option maxHeartbeats 2000000 in
theorem cI_RootsOfDepth (fuel : Nat) (w : World) (oo : Tg) (t : Nat) (ht : 2 ≤ t) (u0 : List Value) (p0 : T_RootedProblem) (g0 : Rp.rd zt w u0 p0) (p1 : Int) (r : (List Int) × Bool) (hF : fI_RootsOfDepth fuel p0 p1 = some r) :
    Calls Try.prog 15 #[.agg u0.toArray, .int .i64 p1] w (pI_RootsOfDepth oo t w r) := by
  unfold fI_RootsOfDepth at hF
  obtain ⟨v1, rfl, h2⟩ := g0
  have hB : Bs oo (col oo) w w := Bs.start _ _
  refine calls_start (n := 18) (vs := [(.agg #[(.int .i64 p0.Labels), (.int .i64 p0.Children), v1]), (.int .i64 p1)]) Try.func15 rfl rfl ?_
  generalize col oo = o at *
  refine wpC_seq ?_
  refine wpC_region ?_
  refine st_op (by decide) trivial ?_
  refine wf_box (o := o) w.heap.size 11 hB.keeps.size (cs := [(.int .i64 p0.Labels), (.int .i64 p0.Children), v1]) rfl rfl ?_
  intro o3 w4 b5 h6 s7
  replace hB := hB.stp s7 (by decide)
  refine st_val (ex_assign rfl) (by decide) trivial ?_
  refine st_val (ex_assign rfl) (by decide) trivial ?_
  refine wpF_end (r := [(1, (.int .i64 p1)), (2, (.pointer (some ⟨b5, 0, none⟩)))]) ⟨rfl, rfl, trivial⟩ ?_
  refine nx ?_
  refine wpC_seq ?_
  refine wpC_seq ?_
  refine wpC_region ?_
  refine st_val (ex_loadA rfl Try.isAgg29 Try.sizeOf29 rfl h6.cells) (by decide) trivial ?_
  obtain ⟨x8, hx8, hF⟩ := bind_some hF
  refine st_op (by decide) trivial ?_
  refine wf_call (cI_IsRootedProblem fuel w4 _ p0 (⟨_, rfl, (h2.keep hB.keeps)⟩) x8 hx8) Try.call56 ⟨rfl, trivial⟩ ?_
  rintro e13 w9 ⟨rfl, k10⟩
  have s12 := k10.stp 999 o3
  refine ⟨_, rfl, ?_⟩
  replace h6 := h6.stp s12 (by decide)
  replace hB := hB.stp s12 (by decide)
  refine st_val (ex_not rfl) (by decide) trivial ?_
  refine st_val (ex_move rfl) (by decide) trivial ?_
  obtain ⟨q14, hq14, hF⟩ := bind_some hF
  refine wpF_cutAt 4 (fun a16 w15 => Fr a16 18 [(1, (.int .i64 p1)), (2, (.pointer (some ⟨b5, 0, none⟩))), (13, (.bool q14))] ∧ Keeps w9 w15) ?_ ?_
  all_goals simp only [List.take_succ_cons, List.take_zero, List.drop_succ_cons, List.drop_zero]
  · have kp : Keeps w9 w9 := Keeps.refl _
    rcases Bool.eq_false_or_eq_true (!x8) with t17 | t17
    · rw [if_pos t17] at hq14
      refine st_no rfl rfl (by rw [t17]; rfl) (by decide) ?_
      refine st_no rfl rfl (by rw [t17]; rfl) (by decide) ?_
      refine st_no rfl rfl (by rw [t17]; rfl) (by decide) ?_
      refine st_val (ex_pick_t (congrArg (fun b => some (Value.bool b)) t17) rfl) (by decide) trivial ?_
      have hq142 := Option.some.inj hq14
      refine wpF_end (r := [(1, (.int .i64 p1)), (2, (.pointer (some ⟨b5, 0, none⟩))), (13, (.bool true))]) ⟨rfl, rfl, rfl, trivial⟩ ?_
      subst hq142
      refine np_norm (fun a ha => ⟨ha, kp⟩)
    · rw [if_neg (by rw [t17]; decide)] at hq14
      refine st_val (ex_move rfl) (by decide) ⟨_, rfl, (congrArg (fun b => some (Value.bool b)) t17)⟩ ?_
      obtain ⟨x18, hx18, hq14⟩ := bind_some hq14
      refine st_op (by decide) ⟨_, rfl, (congrArg (fun b => some (Value.bool b)) t17)⟩ ?_
      refine wf_call (cI_within w9 p1 0 1000 x18 hx18) Try.call57 ⟨rfl, rfl, rfl, trivial⟩ ?_
      rintro e23 w19 ⟨rfl, k20⟩
      have s22 := k20.stp 999 o3
      refine ⟨_, rfl, ?_⟩
      replace h6 := h6.stp s22 (by decide)
      replace hB := hB.stp s22 (by decide)
      replace kp := Keeps.trans kp k20
      refine st_val (ex_not rfl) (by decide) ⟨_, rfl, (congrArg (fun b => some (Value.bool b)) t17)⟩ ?_
      refine st_val (ex_pick_f (congrArg (fun b => some (Value.bool b)) t17) rfl) (by decide) trivial ?_
      have hq142 := Option.some.inj hq14
      refine wpF_end (r := [(1, (.int .i64 p1)), (2, (.pointer (some ⟨b5, 0, none⟩))), (13, (.bool (!x18)))]) ⟨rfl, rfl, rfl, trivial⟩ ?_
      subst hq142
      refine np_norm (fun a ha => ⟨ha, kp⟩)
  rintro a26 w15 ⟨ha, k24⟩
  have s25 := k24.stp 999 o3
  replace h6 := h6.stp s25 (by decide)
  replace hB := hB.stp s25 (by decide)
  refine wl_of ha ?_
  refine wpF_end (r := [(1, (.int .i64 p1)), (2, (.pointer (some ⟨b5, 0, none⟩))), (13, (.bool q14))]) ⟨rfl, rfl, rfl, trivial⟩ ?_
  refine nx ?_
  refine wpC_cond rfl (fun t27 => ?_) (fun t27 => ?_)
  · rw [if_pos t27] at hF
    refine wpC_seq ?_
    refine wpC_region ?_
    refine st_val (ex_assign rfl) (by decide) trivial ?_
    refine st_val (ex_assign rfl) (by decide) trivial ?_
    refine wpF_end (r := [(4, (.slice none 0 0)), (5, (.bool false))]) ⟨rfl, rfl, trivial⟩ ?_
    refine nx ?_
    refine wpC_ret ?_
    refine nt_ret ?_
    have e28 := Option.some.inj hF
    subst e28
    refine ret_post (P := Try.prog) (vs := [(.slice none 0 0), (.bool false)]) Try.results15 ⟨rfl, rfl, trivial⟩ ?_
    exact ⟨_, rt oo o3 w.heap.size 9 t, rfl, (Ow.nil _ _ _ _ _), hB.keeps, rt_old _ _ _ _ _⟩
  · rw [if_neg (by rw [t27]; decide)] at hF
    refine wpC_skip ?_
    refine nx ?_
    refine wpC_seq ?_
    refine wpC_region ?_
    refine st_val (ex_loadA rfl Try.isAgg29 Try.sizeOf29 rfl h6.cells) (by decide) trivial ?_
    refine st_val (ex_move rfl) (by decide) trivial ?_
    obtain ⟨x29, hx29, hF⟩ := bind_some hF
    refine st_op (by decide) trivial ?_
    refine wf_call (cI_RootedProblem_rootsOfDepth fuel w15 _ p0 (⟨_, rfl, (h2.keep hB.keeps)⟩) p1 x29 hx29) Try.call59 ⟨rfl, rfl, trivial⟩ ?_
    rintro e34 w30 ⟨rfl, k31⟩
    have s33 := k31.stp 999 o3
    refine ⟨_, rfl, ?_⟩
    replace h6 := h6.stp s33 (by decide)
    replace hB := hB.stp s33 (by decide)
    obtain ⟨x35, hx35, hF⟩ := bind_some hF
    refine st_op (by decide) trivial ?_
    refine wf_call (cI_labelsIn fuel w30 o3 15 (by decide) x29 x35 hx35) Try.call58 ⟨rfl, trivial⟩ ?_
    rintro e42 w36 ⟨v37, o43, rfl, h38, k39, k40⟩
    have s41 := k39.stp' 15 k40
    replace h38 := h38.mono hB.keeps.size
    refine ⟨_, rfl, ?_⟩
    replace h6 := h6.stp s41 (by decide)
    replace hB := hB.stp s41 (by decide)
    refine st_val (ex_assign rfl) (by decide) trivial ?_
    refine st_val (ex_assign rfl) (by decide) trivial ?_
    refine wpF_end (r := [(4, v37), (5, (.bool true))]) ⟨rfl, rfl, trivial⟩ ?_
    refine nx ?_
    refine wpC_ret ?_
    have e44 := Option.some.inj hF
    subst e44
    refine ret_post (P := Try.prog) (vs := [v37, (.bool true)]) Try.results15 ⟨rfl, rfl, trivial⟩ ?_
    exact ⟨_, rt oo o43 w.heap.size 15 t, rfl, h38.rt hB (by decide) t, hB.keeps, rt_old _ _ _ _ _⟩

end Go.Proofs.Ytabclfacjaeblaa
