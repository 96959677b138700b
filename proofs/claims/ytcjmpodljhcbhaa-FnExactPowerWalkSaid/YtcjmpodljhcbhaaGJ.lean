/- spec.PowerWalk, impl.PowerWalk: plain functions, and the walks that show that the program computes them (printed by gen.py). -/
import Derived.Test.YtcjmpodljhcbhaaGH
import Derived.Test.YtcjmpodljhcbhaaGI
namespace Go.Proofs.Ytcjmpodljhcbhaa
open Go.RowKit
set_option linter.unusedSimpArgs false
set_option linter.unusedVariables false

theorem info2_t_Lint_J : Inf Try.prog 43 (.slice none 0 0) 1 24 := by unfold Inf; kernel_rfl

theorem info1_t_impl_WalkProblem_J : (Try.prog.info? 27).map (·.size) = some 2 := by kernel_rfl

def fS_PowerWalk_s2 (i71 : Int) : Int → Bool → (List (List Int)) → Option (Lp (List (List Int)) (List (List Int)) (T_WalkProblem × Bool)) := fun (i98 : Int) (x108 : Bool) (s : List (List Int)) =>
  if x108 then
    (push s ([i71, i98] : List Int)) >>= fun x126 =>
    some (.go x126)
  else
    some (.go s)
def fS_PowerWalk_s1 (x54 : List (List Bool)) : Int → (List (List Int)) → Option (Lp (List (List Int)) (List (List Int)) (T_WalkProblem × Bool)) := fun (i71 : Int) (s : List (List Int)) =>
  (ix x54 i71) >>= fun x83 =>
  (forI (fS_PowerWalk_s2 i71) x83 0 s) >>= fun q99 =>
  match q99 with
  | .inl y91 =>
    some (.go y91)
  | .inr _ => none
def fS_PowerWalk (fuel : Nat) (p0 : T_WalkProblem) (p1 : Int) : Option (T_WalkProblem × Bool) :=
  (fS_waGood p0) >>= fun x13 =>
  (
    if !x13 then
      some true
    else
      (fS_l1In p1 1 200) >>= fun x23 =>
      some (!x23)) >>= fun q19 =>
  if q19 then
    some ((⟨0, []⟩ : T_WalkProblem), false)
  else
    (fS_waPowers fuel p0 p1) >>= fun x45 =>
    (ix x45 p1) >>= fun x54 =>
    ck (x54.length : Int) >>= fun _ =>
    (forN (fS_PowerWalk_s1 x54) ((x54.length : Int)).toNat 0 []) >>= fun q72 =>
    match q72 with
    | .inl y64 =>
      some ((⟨p0.Labels, y64⟩ : T_WalkProblem), true)
    | .inr _ => none

def pS_PowerWalk (oo : Tg) (t : Nat) (w : World) (r : T_WalkProblem × Bool) : Ending → World → Prop := fun e w' => ∃ (v0 : List Value) (o' : Tg), e = .returned (.tuple #[.agg v0.toArray, .bool r.2]) ∧ Rp.rd o' w' v0 r.1 ∧ Dz 43 3 o' w' (v0.getD 1 undef) r.1.Arcs ∧ Keeps w w' ∧ ∀ b, b < w.heap.size → o' b = oo b
set_option maxRecDepth 100000 in
set_option maxHeartbeats 2000000 in
theorem cS_PowerWalk (fuel : Nat) (w : World) (oo : Tg) (t : Nat) (ht : 2 ≤ t) (u0 : List Value) (p0 : T_WalkProblem) (g0 : Rp.rd zt w u0 p0) (p1 : Int) (r : T_WalkProblem × Bool) (hF : fS_PowerWalk fuel p0 p1 = some r) :
    Calls Try.prog 42 #[.agg u0.toArray, .int .i64 p1] w (pS_PowerWalk oo t w r) := by
  unfold fS_PowerWalk at hF
  obtain ⟨v1, rfl, h2⟩ := g0
  have hB : Bs oo (col oo) w w := Bs.start _ _
  refine calls_start (n := 56) (vs := [(.agg #[(.int .i64 p0.Labels), v1]), (.int .i64 p1)]) Try.func42 rfl rfl ?_
  generalize col oo = o at *
  refine wpC_seq ?_
  refine wpC_region ?_
  refine st_op (by decide) trivial ?_
  refine wf_box (o := o) w.heap.size 11 hB.keeps.size (cs := [(.int .i64 p0.Labels), v1]) rfl rfl ?_
  intro o3 w4 b5 h6 s7
  replace hB := hB.stp s7 (by decide)
  refine st_op (by decide) trivial ?_
  refine wf_alloc (o := o3) w.heap.size 12 hB.keeps.size (cs := [(.int .i64 0), (.slice none 0 0)]) Try.zeroValue27 rfl ?_
  intro o8 w9 b10 h11 s12
  replace h6 := h6.stp s12 (by decide)
  replace hB := hB.stp s12 (by decide)
  refine st_val (ex_assign rfl) (by decide) trivial ?_
  refine wpF_end (r := [(1, (.int .i64 p1)), (2, (.pointer (some ⟨b5, 0, none⟩))), (4, (.pointer (some ⟨b10, 0, none⟩)))]) ⟨rfl, rfl, rfl, trivial⟩ ?_
  refine nx ?_
  refine wpC_seq ?_
  refine wpC_seq ?_
  refine wpC_region ?_
  refine st_val (ex_loadA rfl Try.isAgg27 Try.sizeOf27 rfl h6.cells) (by decide) trivial ?_
  obtain ⟨x13, hx13, hF⟩ := bind_some hF
  refine st_op (by decide) trivial ?_
  refine wf_call (cS_waGood w9 _ p0 (⟨_, rfl, (h2.keep hB.keeps)⟩) x13 hx13) Try.call54 ⟨rfl, trivial⟩ ?_
  rintro e18 w14 ⟨rfl, k15⟩
  have s17 := k15.stp 999 o8
  refine ⟨_, rfl, ?_⟩
  replace h6 := h6.stp s17 (by decide)
  replace h11 := h11.stp s17 (by decide)
  replace hB := hB.stp s17 (by decide)
  refine st_val (ex_not rfl) (by decide) trivial ?_
  refine st_val (ex_move rfl) (by decide) trivial ?_
  obtain ⟨q19, hq19, hF⟩ := bind_some hF
  refine wpF_cutAt 4 (fun a21 w20 => Fr a21 56 [(1, (.int .i64 p1)), (2, (.pointer (some ⟨b5, 0, none⟩))), (4, (.pointer (some ⟨b10, 0, none⟩))), (18, (.bool q19))] ∧ Keeps w14 w20) ?_ ?_
  all_goals simp only [List.take_succ_cons, List.take_zero, List.drop_succ_cons, List.drop_zero]
  · have kp : Keeps w14 w14 := Keeps.refl _
    rcases Bool.eq_false_or_eq_true (!x13) with t22 | t22
    · rw [if_pos t22] at hq19
      refine st_no rfl rfl (by rw [t22]; rfl) (by decide) ?_
      refine st_no rfl rfl (by rw [t22]; rfl) (by decide) ?_
      refine st_no rfl rfl (by rw [t22]; rfl) (by decide) ?_
      refine st_val (ex_pick_t (congrArg (fun b => some (Value.bool b)) t22) rfl) (by decide) trivial ?_
      have hq192 := Option.some.inj hq19
      refine wpF_end (r := [(1, (.int .i64 p1)), (2, (.pointer (some ⟨b5, 0, none⟩))), (4, (.pointer (some ⟨b10, 0, none⟩))), (18, (.bool true))]) ⟨rfl, rfl, rfl, rfl, trivial⟩ ?_
      subst hq192
      refine np_norm (fun a ha => ⟨ha, kp⟩)
    · rw [if_neg (by rw [t22]; decide)] at hq19
      refine st_val (ex_move rfl) (by decide) ⟨_, rfl, (congrArg (fun b => some (Value.bool b)) t22)⟩ ?_
      obtain ⟨x23, hx23, hq19⟩ := bind_some hq19
      refine st_op (by decide) ⟨_, rfl, (congrArg (fun b => some (Value.bool b)) t22)⟩ ?_
      refine wf_call (cS_l1In w14 p1 1 200 x23 hx23) Try.call65 ⟨rfl, rfl, rfl, trivial⟩ ?_
      rintro e28 w24 ⟨rfl, k25⟩
      have s27 := k25.stp 999 o8
      refine ⟨_, rfl, ?_⟩
      replace h6 := h6.stp s27 (by decide)
      replace h11 := h11.stp s27 (by decide)
      replace hB := hB.stp s27 (by decide)
      replace kp := Keeps.trans kp k25
      refine st_val (ex_not rfl) (by decide) ⟨_, rfl, (congrArg (fun b => some (Value.bool b)) t22)⟩ ?_
      refine st_val (ex_pick_f (congrArg (fun b => some (Value.bool b)) t22) rfl) (by decide) trivial ?_
      have hq192 := Option.some.inj hq19
      refine wpF_end (r := [(1, (.int .i64 p1)), (2, (.pointer (some ⟨b5, 0, none⟩))), (4, (.pointer (some ⟨b10, 0, none⟩))), (18, (.bool (!x23)))]) ⟨rfl, rfl, rfl, rfl, trivial⟩ ?_
      subst hq192
      refine np_norm (fun a ha => ⟨ha, kp⟩)
  rintro a31 w20 ⟨ha, k29⟩
  have s30 := k29.stp 999 o8
  replace h6 := h6.stp s30 (by decide)
  replace h11 := h11.stp s30 (by decide)
  replace hB := hB.stp s30 (by decide)
  refine wl_of ha ?_
  refine wpF_end (r := [(1, (.int .i64 p1)), (2, (.pointer (some ⟨b5, 0, none⟩))), (4, (.pointer (some ⟨b10, 0, none⟩))), (18, (.bool q19))]) ⟨rfl, rfl, rfl, rfl, trivial⟩ ?_
  refine nx ?_
  refine wpC_cond rfl (fun t32 => ?_) (fun t32 => ?_)
  · rw [if_pos t32] at hF
    refine wpC_seq ?_
    refine wpC_region ?_
    refine st_val (ex_build (vs := []) (cs := [(.int .i64 0), (.slice none 0 0)]) trivial (by kernel_rfl)) (by decide) trivial ?_
    refine st_op0 trivial ?_
    refine wf_storeA h11 rfl rfl rfl info1_t_impl_WalkProblem_J (by intro c hc; simp only [List.mem_cons, List.not_mem_nil, or_false] at hc; rcases hc with rfl | rfl <;> first | rfl) ?_
    intro w33 h35 s34
    replace h6 := h6.stp s34 (by decide)
    replace hB := hB.stp s34 (by decide)
    refine st_val (ex_assign rfl) (by decide) trivial ?_
    refine wpF_end (r := [(4, (.pointer (some ⟨b10, 0, none⟩))), (5, (.bool false))]) ⟨rfl, rfl, trivial⟩ ?_
    refine nx ?_
    refine wpC_ret ?_
    refine nt_ret ?_
    have e36 := Option.some.inj hF
    subst e36
    refine ret_post (P := Try.prog) (vs := [(.agg #[(.int .i64 0), (.slice none 0 0)]), (.bool false)]) Try.results42 ⟨⟨_, rfl, run_loadA Try.isAgg27 Try.sizeOf27 rfl h35.cells⟩, rfl, trivial⟩ ?_
    exact ⟨[(.int .i64 0), (.slice none 0 0)], rt oo o8 w.heap.size 9 t, rfl, ⟨_, rfl, RdL.nil _ _⟩, (Dz.nil _ _ _ _), hB.keeps, rt_old _ _ _ _ _⟩
  · rw [if_neg (by rw [t32]; decide)] at hF
    refine wpC_skip ?_
    refine nx ?_
    refine wpC_seq ?_
    refine wpC_region ?_
    refine st_val (ex_field rfl Try.underlying27 rfl Try.sizeOf3) (by decide) trivial ?_
    refine st_val (ex_load1 rfl Try.isAgg3 (h6.cell rfl)) (by decide) trivial ?_
    refine st_val (ex_build (vs := [(0, (.int .i64 p0.Labels))]) (cs := [(.int .i64 p0.Labels), (.slice none 0 0)]) ⟨rfl, rfl, trivial⟩ (by kernel_rfl)) (by decide) trivial ?_
    refine st_op (by decide) trivial ?_
    refine wf_alloc (o := o8) w.heap.size 15 hB.keeps.size (cs := [(.int .i64 0), (.slice none 0 0)]) Try.zeroValue27 rfl ?_
    intro o37 w38 b39 h40 s41
    replace h6 := h6.stp s41 (by decide)
    replace h11 := h11.stp s41 (by decide)
    replace hB := hB.stp s41 (by decide)
    refine st_op0 trivial ?_
    refine wf_storeA h40 rfl rfl rfl info1_t_impl_WalkProblem_J (by intro c hc; simp only [List.mem_cons, List.not_mem_nil, or_false] at hc; rcases hc with rfl | rfl <;> first | rfl) ?_
    intro w42 h44 s43
    replace h6 := h6.stp s43 (by decide)
    replace h11 := h11.stp s43 (by decide)
    replace hB := hB.stp s43 (by decide)
    refine wpF_end (r := [(1, (.int .i64 p1)), (2, (.pointer (some ⟨b5, 0, none⟩))), (4, (.pointer (some ⟨b10, 0, none⟩))), (6, (.pointer (some ⟨b39, 0, none⟩)))]) ⟨rfl, rfl, rfl, rfl, trivial⟩ ?_
    refine nx ?_
    refine wpC_seq ?_
    refine wpC_region ?_
    refine st_val (ex_loadA rfl Try.isAgg27 Try.sizeOf27 rfl h6.cells) (by decide) trivial ?_
    refine st_val (ex_move rfl) (by decide) trivial ?_
    obtain ⟨x45, hx45, hF⟩ := bind_some hF
    refine st_op (by decide) trivial ?_
    refine wf_call (cS_waPowers fuel w42 o37 16 (by decide) _ p0 (⟨_, rfl, (h2.keep hB.keeps)⟩) p1 x45 hx45) Try.call73 ⟨rfl, rfl, trivial⟩ ?_
    rintro e52 w46 ⟨v47, o53, rfl, h48, k49, k50⟩
    have s51 := k49.stp' 16 k50
    replace h48 := h48.mono hB.keeps.size
    refine ⟨_, rfl, ?_⟩
    replace h6 := h6.stp s51 (by decide)
    replace h11 := h11.stp s51 (by decide)
    replace h44 := h44.stp s51 (by decide)
    replace hB := hB.stp s51 (by decide)
    refine st_val (ex_move rfl) (by decide) trivial ?_
    obtain ⟨x54, hx54, hF⟩ := bind_some hF
    refine st_op (by decide) trivial ?_
    refine wf_atW h48 hx54 rfl rfl Try.underlying73 Try.sizeOf75 ?_
    intro b55 f56 c57 h58 h59
    obtain ⟨v60, rfl, h61⟩ := h59
    refine st_val (ex_load1 rfl Try.isAgg75 (cell_of_cells h58)) (by decide) trivial ?_
    refine st_val (ex_assign rfl) (by decide) trivial ?_
    refine wpF_end (r := [(4, (.pointer (some ⟨b10, 0, none⟩))), (6, (.pointer (some ⟨b39, 0, none⟩))), (7, v60)]) ⟨rfl, rfl, rfl, trivial⟩ ?_
    refine nx ?_
    refine wpC_seq ?_
    refine wpC_seq ?_
    refine wpC_region ?_
    refine st_val (ex_move rfl) (by decide) trivial ?_
    refine st_val (ex_lenR rfl h61 Try.underlying75) (by decide) trivial ?_
    refine st_val (ex_move rfl) (by decide) trivial ?_
    refine wpF_end (r := [(4, (.pointer (some ⟨b10, 0, none⟩))), (6, (.pointer (some ⟨b39, 0, none⟩))), (7, v60), (30, (.int .i64 (x54.length : Int))), (31, (.int .i64 0))]) ⟨rfl, rfl, rfl, rfl, rfl, trivial⟩ ?_
    refine nx ?_
    have h62 : Ow w.heap.size 43 17 o53 w46 (.slice none 0 0) ([] : List Hv) := Ow.nil _ _ _ _ _
    have h63 : Rws w.heap.size 3 18 o53 w46 [] ([] : List (List Int)) := Rws.nil _ _ _ _ _
    obtain ⟨u74, h73, hF⟩ := bind_some hF
    obtain ⟨-, h73a, h73b⟩ := ck_some h73
    obtain ⟨q72, hq72, hF⟩ := bind_some hF
    refine wpC_cutN (fun a w70 => ∃ (y64 : List (List Int)) (v65 : Value) (g68 : List Hv) (o69 : Tg), q72 = .inl y64 ∧ Fr a 56 [(4, (.pointer (some ⟨b10, 0, none⟩))), (6, (.pointer (some ⟨b39, 0, none⟩)))] ∧ Bs oo o69 w w70 ∧ Bx w.heap.size 12 o69 w70 b10 27 [(.int .i64 0), (.slice none 0 0)] ∧ Bx w.heap.size 15 o69 w70 b39 27 [(.int .i64 p0.Labels), v65] ∧ Ow w.heap.size 43 17 o69 w70 v65 g68 ∧ Rws w.heap.size 3 18 o69 w70 g68 y64) (fun _ _ => False) ?_ ?_ ?_
    · refine wpC_block ?_
      refine wpC_loop (fun (K : Nat) a w70 => ∃ (i71 : Int) (y64 : List (List Int)) (v65 : Value) (g68 : List Hv) (o69 : Tg), forN (fS_PowerWalk_s1 x54) ((x54.length : Int) - i71).toNat i71 y64 = some q72 ∧ ((x54.length : Int) - i71).toNat = K ∧ 0 ≤ i71 ∧ Fr a 56 [(4, (.pointer (some ⟨b10, 0, none⟩))), (6, (.pointer (some ⟨b39, 0, none⟩))), (7, v60), (30, (.int .i64 (x54.length : Int))), (31, (.int .i64 i71))] ∧ Bs oo o69 w w70 ∧ RdL o69 w70 v60 x54 ∧ Bx w.heap.size 12 o69 w70 b10 27 [(.int .i64 0), (.slice none 0 0)] ∧ Bx w.heap.size 15 o69 w70 b39 27 [(.int .i64 p0.Labels), v65] ∧ Ow w.heap.size 43 17 o69 w70 v65 g68 ∧ Rws w.heap.size 3 18 o69 w70 g68 y64) _ (fun a ha => ⟨0, [], (.slice none 0 0), [], o53, (by rw [Int.sub_zero]; exact hq72), rfl, Int.le_refl 0, ha.sub (r := [(4, (.pointer (some ⟨b10, 0, none⟩))), (6, (.pointer (some ⟨b39, 0, none⟩))), (7, v60), (30, (.int .i64 (x54.length : Int))), (31, (.int .i64 0))]) ⟨rfl, rfl, rfl, rfl, rfl, trivial⟩, hB, h61, h11, h44, h62, h63⟩) ?_
      rintro K78 a w70 ⟨i71, y64, v65, g68, o69, l75, m77, z76, ha, hB, h61, h11, h44, h66, h67⟩
      by_cases t82 : i71 < (x54.length : Int)
      · obtain ⟨q79, b80, n81⟩ := forN_cons t82 l75
        dsimp only [fS_PowerWalk_s1] at b80
        refine wp_of ha ?_
        refine wpC_seq ?_
        refine wpC_region ?_
        refine st_val (ex_lss rfl rfl) (by decide) trivial ?_
        refine wpF_end (r := [(4, (.pointer (some ⟨b10, 0, none⟩))), (6, (.pointer (some ⟨b39, 0, none⟩))), (7, v60), (30, (.int .i64 (x54.length : Int))), (31, (.int .i64 i71)), (32, (.bool (decide (i71 < (x54.length : Int)))))]) ⟨rfl, rfl, rfl, rfl, rfl, rfl, trivial⟩ ?_
        refine nx ?_
        refine wpC_seq ?_
        refine wpC_true (congrArg (fun b => some (Value.bool b)) (decide_eq_true t82)) ?_
        refine wpC_skip ?_
        refine nx ?_
        refine wpC_seq ?_
        refine wpC_block ?_
        refine wpC_seq ?_
        refine wpC_region ?_
        refine st_val (ex_move rfl) (by decide) trivial ?_
        refine st_val (ex_assign rfl) (by decide) trivial ?_
        refine wpF_end (r := [(4, (.pointer (some ⟨b10, 0, none⟩))), (6, (.pointer (some ⟨b39, 0, none⟩))), (7, v60), (8, (.int .i64 i71)), (30, (.int .i64 (x54.length : Int))), (31, (.int .i64 i71))]) ⟨rfl, rfl, rfl, rfl, rfl, rfl, trivial⟩ ?_
        refine nx ?_
        refine wpC_seq ?_
        refine wpC_region ?_
        refine st_val (ex_move rfl) (by decide) trivial ?_
        refine st_val (ex_move rfl) (by decide) trivial ?_
        obtain ⟨x83, hx83, b80⟩ := bind_some b80
        refine st_op (by decide) trivial ?_
        refine wf_atO h61 hx83 rfl rfl Try.underlying75 Try.sizeOf77 ?_
        intro b84 f85 c86 h87 h88
        obtain ⟨v89, rfl, h90⟩ := h88
        refine st_val (ex_load1 rfl Try.isAgg77 (cell_of_cells h87)) (by decide) trivial ?_
        refine st_val (ex_lenR rfl h90 Try.underlying77) (by decide) trivial ?_
        refine st_val (ex_move rfl) (by decide) trivial ?_
        refine wpF_end (r := [(4, (.pointer (some ⟨b10, 0, none⟩))), (6, (.pointer (some ⟨b39, 0, none⟩))), (7, v60), (8, (.int .i64 i71)), (30, (.int .i64 (x54.length : Int))), (31, (.int .i64 i71)), (37, v89), (38, (.int .i64 (x83.length : Int))), (39, (.int .i64 0))]) ⟨rfl, rfl, rfl, rfl, rfl, rfl, rfl, rfl, rfl, trivial⟩ ?_
        refine nx ?_
        obtain ⟨q99, hq99, b80⟩ := bind_some b80
        refine wpC_cutN (fun a w97 => ∃ (y91 : List (List Int)) (v92 : Value) (g95 : List Hv) (o96 : Tg), q99 = .inl y91 ∧ Fr a 56 [(4, (.pointer (some ⟨b10, 0, none⟩))), (6, (.pointer (some ⟨b39, 0, none⟩))), (7, v60), (30, (.int .i64 (x54.length : Int))), (31, (.int .i64 i71))] ∧ Bs oo o96 w w97 ∧ RdL o96 w97 v60 x54 ∧ Bx w.heap.size 12 o96 w97 b10 27 [(.int .i64 0), (.slice none 0 0)] ∧ Bx w.heap.size 15 o96 w97 b39 27 [(.int .i64 p0.Labels), v92] ∧ Ow w.heap.size 43 17 o96 w97 v92 g95 ∧ Rws w.heap.size 3 18 o96 w97 g95 y91) (fun _ _ => False) ?_ ?_ ?_
        · refine wpC_block ?_
          refine wpC_loop (fun (K : Nat) a w97 => ∃ (i98 : Int) (y91 : List (List Int)) (v92 : Value) (g95 : List Hv) (o96 : Tg), forI (fS_PowerWalk_s2 i71) (x83.drop i98.toNat) i98 y91 = some q99 ∧ (x83.drop i98.toNat).length = K ∧ 0 ≤ i98 ∧ Fr a 56 [(4, (.pointer (some ⟨b10, 0, none⟩))), (6, (.pointer (some ⟨b39, 0, none⟩))), (7, v60), (8, (.int .i64 i71)), (30, (.int .i64 (x54.length : Int))), (31, (.int .i64 i71)), (37, v89), (38, (.int .i64 (x83.length : Int))), (39, (.int .i64 i98))] ∧ Bs oo o96 w w97 ∧ RdL o96 w97 v60 x54 ∧ RdL o96 w97 v89 x83 ∧ Bx w.heap.size 12 o96 w97 b10 27 [(.int .i64 0), (.slice none 0 0)] ∧ Bx w.heap.size 15 o96 w97 b39 27 [(.int .i64 p0.Labels), v92] ∧ Ow w.heap.size 43 17 o96 w97 v92 g95 ∧ Rws w.heap.size 3 18 o96 w97 g95 y91) _ (fun a ha => ⟨0, y64, v65, g68, o69, hq99, rfl, Int.le_refl 0, ha.sub (r := [(4, (.pointer (some ⟨b10, 0, none⟩))), (6, (.pointer (some ⟨b39, 0, none⟩))), (7, v60), (8, (.int .i64 i71)), (30, (.int .i64 (x54.length : Int))), (31, (.int .i64 i71)), (37, v89), (38, (.int .i64 (x83.length : Int))), (39, (.int .i64 0))]) ⟨rfl, rfl, rfl, rfl, rfl, rfl, rfl, rfl, rfl, trivial⟩, hB, h61, h90, h11, h44, h66, h67⟩) ?_
          rintro K103 a w97 ⟨i98, y91, v92, g95, o96, l100, m102, z101, ha, hB, h61, h90, h11, h44, h93, h94⟩
          by_cases t107 : i98 < (x83.length : Int)
          · obtain ⟨x108, q104, hx108, b105, n106⟩ := forI_cons z101 t107 l100
            have hle := h90.len_le
            dsimp only [fS_PowerWalk_s2] at b105
            refine wp_of ha ?_
            refine wpC_seq ?_
            refine wpC_region ?_
            refine st_val (ex_lss rfl rfl) (by decide) trivial ?_
            refine wpF_end (r := [(4, (.pointer (some ⟨b10, 0, none⟩))), (6, (.pointer (some ⟨b39, 0, none⟩))), (7, v60), (8, (.int .i64 i71)), (30, (.int .i64 (x54.length : Int))), (31, (.int .i64 i71)), (37, v89), (38, (.int .i64 (x83.length : Int))), (39, (.int .i64 i98)), (40, (.bool (decide (i98 < (x83.length : Int)))))]) ⟨rfl, rfl, rfl, rfl, rfl, rfl, rfl, rfl, rfl, rfl, trivial⟩ ?_
            refine nx ?_
            refine wpC_seq ?_
            refine wpC_true (congrArg (fun b => some (Value.bool b)) (decide_eq_true t107)) ?_
            refine wpC_skip ?_
            refine nx ?_
            refine wpC_seq ?_
            refine wpC_block ?_
            refine wpC_seq ?_
            refine wpC_region ?_
            refine st_val (ex_move rfl) (by decide) trivial ?_
            refine st_op (by decide) trivial ?_
            refine wf_atO h90 hx108 rfl rfl Try.underlying77 Try.sizeOf4 ?_
            intro b109 f110 c111 h112 h113
            cases h113
            refine st_val (ex_load1 rfl Try.isAgg4 (cell_of_cells h112)) (by decide) trivial ?_
            refine st_val (ex_assign rfl) (by decide) trivial ?_
            refine st_val (ex_assign rfl) (by decide) trivial ?_
            refine wpF_end (r := [(4, (.pointer (some ⟨b10, 0, none⟩))), (6, (.pointer (some ⟨b39, 0, none⟩))), (7, v60), (8, (.int .i64 i71)), (9, (.int .i64 i98)), (10, (.bool x108)), (30, (.int .i64 (x54.length : Int))), (31, (.int .i64 i71)), (37, v89), (38, (.int .i64 (x83.length : Int))), (39, (.int .i64 i98))]) ⟨rfl, rfl, rfl, rfl, rfl, rfl, rfl, rfl, rfl, rfl, rfl, trivial⟩ ?_
            refine nx ?_
            refine wpC_seq ?_
            refine wpC_region ?_
            refine st_val (ex_move rfl) (by decide) trivial ?_
            refine wpF_end (r := [(4, (.pointer (some ⟨b10, 0, none⟩))), (6, (.pointer (some ⟨b39, 0, none⟩))), (7, v60), (8, (.int .i64 i71)), (9, (.int .i64 i98)), (30, (.int .i64 (x54.length : Int))), (31, (.int .i64 i71)), (37, v89), (38, (.int .i64 (x83.length : Int))), (39, (.int .i64 i98)), (44, (.bool x108))]) ⟨rfl, rfl, rfl, rfl, rfl, rfl, rfl, rfl, rfl, rfl, rfl, trivial⟩ ?_
            refine nx ?_
            refine wpC_cond rfl (fun t114 => ?_) (fun t114 => ?_)
            · rw [if_pos t114] at b105
              refine wpC_region ?_
              refine st_val (ex_field rfl Try.underlying27 rfl Try.sizeOf22) (by decide) trivial ?_
              refine st_val (ex_load1 rfl Try.isAgg22 (h44.cell rfl)) (by decide) trivial ?_
              refine st_val (ex_move rfl) (by decide) trivial ?_
              refine st_val (ex_move rfl) (by decide) trivial ?_
              refine st_op (by decide) trivial ?_
              refine wf_litW w.heap.size 19 hB.keeps.size (o := o96) (cs := [(.int .i64 i71), (.int .i64 i98)]) (xs := ([i71, i98] : List Int)) (vs := [(0, (.int .i64 i71)), (1, (.int .i64 i98))]) ⟨_, _, rfl, rfl, ⟨_, _, rfl, rfl, rfl⟩⟩ rfl ⟨rfl, rfl, rfl, rfl, trivial⟩ Try.underlying43 Try.sizeOf3 Try.zeroValue3 (by decide) (fill2 rfl rfl) (by simp) ?_
              intro o115 w116 v117 h118 s119
              replace h61 := h61.stp s119 (by decide)
              replace h90 := h90.stp s119 (by decide)
              replace h93 := h93.stp s119 (by decide) (by decide)
              replace h94 := h94.stp s119 (by decide) (by decide)
              replace h11 := h11.stp s119 (by decide)
              replace h44 := h44.stp s119 (by decide)
              replace hB := hB.stp s119 (by decide)
              refine st_op (by decide) trivial ?_
              refine wf_litR (o := o115) (cs := [v117]) (xs := ([⟨v117⟩] : List Hv)) (vs := [(0, v117)]) ⟨_, _, rfl, rd_hv h118, rfl⟩ rfl ⟨rfl, rfl, trivial⟩ Try.underlying22 Try.sizeOf43 Try.zeroValue43 (by decide) (fill1 h118.cells1) (by simp) ?_
              intro o120 w121 v122 h123 s124 k125
              replace h61 := h61.stp s124 (by decide)
              replace h90 := h90.stp s124 (by decide)
              replace h93 := h93.stp s124 (by decide) (by decide)
              replace h94 := h94.stp s124 (by decide) (by decide)
              replace h118 := h118.stp s124 (by decide) (by decide)
              replace h11 := h11.stp s124 (by decide)
              replace h44 := h44.stp s124 (by decide)
              replace hB := hB.stp s124 (by decide)
              obtain ⟨x126, hx126, b105⟩ := bind_some b105
              obtain ⟨h127, h128⟩ := h94.pushV hx126 v117
              refine st_op (by decide) trivial ?_
              refine wf_cat h93 h123 (push_cat h127) (by decide) hB.keeps.size rfl rfl Try.underlying22 info2_t_Lint_J rfl (by decide) ?_
              intro o129 w130 v131 h132 s133
              replace h61 := h61.stp s133 (by decide)
              replace h90 := h90.stp s133 (by decide)
              replace h94 := h94.stp s133 (by decide) (by decide)
              replace h118 := h118.stp s133 (by decide) (by decide)
              replace h11 := h11.stp s133 (by decide)
              replace h44 := h44.stp s133 (by decide)
              replace hB := hB.stp s133 (by decide)
              have h134 := h94.push h118 (by decide) (by decide)
              rw [← h128] at h134
              clear h94 h118
              have r135 := mrg_rc 19 18 o129
              replace h61 := h61.rc r135 (by decide)
              replace h90 := h90.rc r135 (by decide)
              replace h132 := h132.rc r135 (by decide) (by decide)
              replace h11 := h11.rc r135 (by decide)
              replace h44 := h44.rc r135 (by decide)
              replace hB := hB.rc r135 (by decide)
              generalize mrg 19 18 o129 = o136 at *
              refine st_val (ex_field rfl Try.underlying27 rfl Try.sizeOf22) (by decide) trivial ?_
              refine st_op0 trivial ?_
              refine wf_storeB h44 rfl rfl (of_decide_eq_true rfl) Try.sizeOf22 h132.cells1 h132.one1 ?_
              intro w137 h139 s138
              replace h61 := h61.stp s138 (by decide)
              replace h90 := h90.stp s138 (by decide)
              replace h132 := h132.stp s138 (by decide) (by decide)
              replace h134 := h134.stp s138 (by decide) (by decide)
              replace h11 := h11.stp s138 (by decide)
              replace hB := hB.stp s138 (by decide)
              replace h139 : Bx w.heap.size 15 o136 w137 b39 27 [(.int .i64 p0.Labels), v131] := h139
              refine wpF_end (r := [(4, (.pointer (some ⟨b10, 0, none⟩))), (6, (.pointer (some ⟨b39, 0, none⟩))), (7, v60), (8, (.int .i64 i71)), (30, (.int .i64 (x54.length : Int))), (31, (.int .i64 i71)), (37, v89), (38, (.int .i64 (x83.length : Int))), (39, (.int .i64 i98))]) ⟨rfl, rfl, rfl, rfl, rfl, rfl, rfl, rfl, rfl, trivial⟩ ?_
              refine nb_norm ?_
              refine nx ?_
              refine wpC_region ?_
              refine st_val (ex_add rfl rfl (ck_in (by omega) (by omega))) (by decide) trivial ?_
              refine st_val (ex_move rfl) (by decide) trivial ?_
              refine wpF_end (r := [(4, (.pointer (some ⟨b10, 0, none⟩))), (6, (.pointer (some ⟨b39, 0, none⟩))), (7, v60), (8, (.int .i64 i71)), (30, (.int .i64 (x54.length : Int))), (31, (.int .i64 i71)), (37, v89), (38, (.int .i64 (x83.length : Int))), (39, (.int .i64 (i98 + 1)))]) ⟨rfl, rfl, rfl, rfl, rfl, rfl, rfl, rfl, rfl, trivial⟩ ?_
              refine nt_norm ?_
              have e140 := Option.some.inj b105
              subst e140
              refine to_k (r := [(4, (.pointer (some ⟨b10, 0, none⟩))), (6, (.pointer (some ⟨b39, 0, none⟩))), (7, v60), (8, (.int .i64 i71)), (30, (.int .i64 (x54.length : Int))), (31, (.int .i64 i71)), (37, v89), (38, (.int .i64 (x83.length : Int))), (39, (.int .i64 (i98 + 1)))]) ⟨rfl, rfl, rfl, rfl, rfl, rfl, rfl, rfl, rfl, trivial⟩ ?_
              intro a ha
              exact ⟨_, (by rw [← m102]; simp only [List.length_drop]; omega), i98 + 1, x126, v131, (g95 ++ [⟨v117⟩]), o136, n106, rfl, (by omega), ha, hB, h61, h90, h11, h139, h132, h134⟩
            · rw [if_neg (by rw [t114]; decide)] at b105
              refine wpC_skip ?_
              refine nb_norm ?_
              refine nx ?_
              refine wpC_region ?_
              refine st_val (ex_add rfl rfl (ck_in (by omega) (by omega))) (by decide) trivial ?_
              refine st_val (ex_move rfl) (by decide) trivial ?_
              refine wpF_end (r := [(4, (.pointer (some ⟨b10, 0, none⟩))), (6, (.pointer (some ⟨b39, 0, none⟩))), (7, v60), (8, (.int .i64 i71)), (30, (.int .i64 (x54.length : Int))), (31, (.int .i64 i71)), (37, v89), (38, (.int .i64 (x83.length : Int))), (39, (.int .i64 (i98 + 1)))]) ⟨rfl, rfl, rfl, rfl, rfl, rfl, rfl, rfl, rfl, trivial⟩ ?_
              refine nt_norm ?_
              have e141 := Option.some.inj b105
              subst e141
              refine to_k (r := [(4, (.pointer (some ⟨b10, 0, none⟩))), (6, (.pointer (some ⟨b39, 0, none⟩))), (7, v60), (8, (.int .i64 i71)), (30, (.int .i64 (x54.length : Int))), (31, (.int .i64 i71)), (37, v89), (38, (.int .i64 (x83.length : Int))), (39, (.int .i64 (i98 + 1)))]) ⟨rfl, rfl, rfl, rfl, rfl, rfl, rfl, rfl, rfl, trivial⟩ ?_
              intro a ha
              exact ⟨_, (by rw [← m102]; simp only [List.length_drop]; omega), i98 + 1, y91, v92, g95, o96, n106, rfl, (by omega), ha, hB, h61, h90, h11, h44, h93, h94⟩
          · have r142 := forI_done t107 l100
            refine wp_of ha ?_
            refine wpC_seq ?_
            refine wpC_region ?_
            refine st_val (ex_lss rfl rfl) (by decide) trivial ?_
            refine wpF_end (r := [(4, (.pointer (some ⟨b10, 0, none⟩))), (6, (.pointer (some ⟨b39, 0, none⟩))), (7, v60), (8, (.int .i64 i71)), (30, (.int .i64 (x54.length : Int))), (31, (.int .i64 i71)), (37, v89), (38, (.int .i64 (x83.length : Int))), (39, (.int .i64 i98)), (40, (.bool (decide (i98 < (x83.length : Int)))))]) ⟨rfl, rfl, rfl, rfl, rfl, rfl, rfl, rfl, rfl, rfl, trivial⟩ ?_
            refine nx ?_
            refine wpC_seq ?_
            refine wpC_false (congrArg (fun b => some (Value.bool b)) (decide_eq_false t107)) ?_
            refine wpC_exit ?_
            refine nt_exit ?_
            refine nt_exit ?_
            refine nb_hit ?_
            refine np_norm ?_
            refine to_k (r := [(4, (.pointer (some ⟨b10, 0, none⟩))), (6, (.pointer (some ⟨b39, 0, none⟩))), (7, v60), (30, (.int .i64 (x54.length : Int))), (31, (.int .i64 i71))]) ⟨rfl, rfl, rfl, rfl, rfl, trivial⟩ ?_
            intro a ha
            exact ⟨y91, v92, g95, o96, r142, ha, hB, h61, h11, h44, h93, h94⟩
        · rintro a w97 ⟨y91, v92, g95, o96, rfl, ha, hB, h61, h11, h44, h93, h94⟩
          dsimp only at b80
          refine ap_k ha ?_
          refine nb_norm ?_
          refine nx ?_
          refine wpC_region ?_
          refine st_val (ex_add rfl rfl (ck_in (by omega) (by omega))) (by decide) trivial ?_
          refine st_val (ex_move rfl) (by decide) trivial ?_
          refine wpF_end (r := [(4, (.pointer (some ⟨b10, 0, none⟩))), (6, (.pointer (some ⟨b39, 0, none⟩))), (7, v60), (30, (.int .i64 (x54.length : Int))), (31, (.int .i64 (i71 + 1)))]) ⟨rfl, rfl, rfl, rfl, rfl, trivial⟩ ?_
          refine nt_norm ?_
          have e143 := Option.some.inj b80
          subst e143
          refine to_k (r := [(4, (.pointer (some ⟨b10, 0, none⟩))), (6, (.pointer (some ⟨b39, 0, none⟩))), (7, v60), (30, (.int .i64 (x54.length : Int))), (31, (.int .i64 (i71 + 1)))]) ⟨rfl, rfl, rfl, rfl, rfl, trivial⟩ ?_
          intro a ha
          exact ⟨_, (by rw [← m77]; omega), i71 + 1, y91, v92, g95, o96, n81, rfl, (by omega), ha, hB, h61, h11, h44, h93, h94⟩
        · exact fun _ _ h => h.elim
      · have r144 := forN_done t82 l75
        refine wp_of ha ?_
        refine wpC_seq ?_
        refine wpC_region ?_
        refine st_val (ex_lss rfl rfl) (by decide) trivial ?_
        refine wpF_end (r := [(4, (.pointer (some ⟨b10, 0, none⟩))), (6, (.pointer (some ⟨b39, 0, none⟩))), (7, v60), (30, (.int .i64 (x54.length : Int))), (31, (.int .i64 i71)), (32, (.bool (decide (i71 < (x54.length : Int)))))]) ⟨rfl, rfl, rfl, rfl, rfl, rfl, trivial⟩ ?_
        refine nx ?_
        refine wpC_seq ?_
        refine wpC_false (congrArg (fun b => some (Value.bool b)) (decide_eq_false t82)) ?_
        refine wpC_exit ?_
        refine nt_exit ?_
        refine nt_exit ?_
        refine nb_hit ?_
        refine np_norm ?_
        refine to_k (r := [(4, (.pointer (some ⟨b10, 0, none⟩))), (6, (.pointer (some ⟨b39, 0, none⟩)))]) ⟨rfl, rfl, trivial⟩ ?_
        intro a ha
        exact ⟨y64, v65, g68, o69, r144, ha, hB, h11, h44, h66, h67⟩
    · rintro a w70 ⟨y64, v65, g68, o69, rfl, ha, hB, h11, h44, h66, h67⟩
      dsimp only at hF
      refine ap_k ha ?_
      refine nx ?_
      refine wpC_seq ?_
      refine wpC_region ?_
      refine st_val (ex_loadA rfl Try.isAgg27 Try.sizeOf27 rfl h44.cells) (by decide) trivial ?_
      refine st_op0 trivial ?_
      refine wf_storeA h11 rfl rfl rfl info1_t_impl_WalkProblem_J (by intro c hc; simp only [List.mem_cons, List.not_mem_nil, or_false] at hc; rcases hc with rfl | rfl <;> first | rfl | exact h66.one1) ?_
      intro w145 h147 s146
      replace h66 := h66.stp s146 (by decide) (by decide)
      replace h67 := h67.stp s146 (by decide) (by decide)
      replace h44 := h44.stp s146 (by decide)
      replace hB := hB.stp s146 (by decide)
      refine st_val (ex_assign rfl) (by decide) trivial ?_
      refine wpF_end (r := [(4, (.pointer (some ⟨b10, 0, none⟩))), (5, (.bool true))]) ⟨rfl, rfl, trivial⟩ ?_
      refine nx ?_
      refine wpC_ret ?_
      have h148 := Dz.of h66 h67 (by decide) (by decide) (by decide)
      have r149 := frz_rc 17 o69
      have r150 := frz_rc 18 (frz 17 o69)
      replace h147 := (h147.rc r149 (by decide)).rc r150 (by decide)
      replace h44 := (h44.rc r149 (by decide)).rc r150 (by decide)
      replace hB := (hB.rc r149 (by decide)).rc r150 (by decide)
      clear r149 r150
      generalize frz 18 (frz 17 o69) = o152 at *
      have h151 := h148.rd
      have e153 := Option.some.inj hF
      subst e153
      refine ret_post (P := Try.prog) (vs := [(.agg #[(.int .i64 p0.Labels), v65]), (.bool true)]) Try.results42 ⟨⟨_, rfl, run_loadA Try.isAgg27 Try.sizeOf27 rfl h147.cells⟩, rfl, trivial⟩ ?_
      exact ⟨[(.int .i64 p0.Labels), v65], rt oo o152 w.heap.size 9 t, rfl, ⟨_, rfl, h151.rt hB 9 t (by decide)⟩, h148.rt hB 9 t (by decide), hB.keeps, rt_old _ _ _ _ _⟩
    · exact fun _ _ h => h.elim

def fI_PowerWalk_s2 (i54 : Int) : Int → Int → (List (List Int)) → Option (Lp (List (List Int)) (List (List Int)) (T_WalkProblem × Bool)) := fun (i97 : Int) (x107 : Int) (s : List (List Int)) =>
  (push s ([i54, x107] : List Int)) >>= fun x124 =>
  some (.go x124)
def fI_PowerWalk_s1 (fuel : Nat) (p0 : T_WalkProblem) (p1 : Int) : Int → (List (List Int)) → Option (Lp (List (List Int)) (List (List Int)) (T_WalkProblem × Bool)) := fun (i54 : Int) (s : List (List Int)) =>
  (fI_WalkProblem_reached fuel p0 i54 p1) >>= fun x66 =>
  (ix x66 p1) >>= fun x75 =>
  (fI_labelsIn fuel x75) >>= fun x81 =>
  (forI (fI_PowerWalk_s2 i54) x81 0 s) >>= fun q98 =>
  match q98 with
  | .inl y90 =>
    some (.go y90)
  | .inr _ => none
def fI_PowerWalk (fuel : Nat) (p0 : T_WalkProblem) (p1 : Int) : Option (T_WalkProblem × Bool) :=
  (fI_IsWalkProblem p0) >>= fun x13 =>
  (
    if !x13 then
      some true
    else
      (fI_within p1 1 200) >>= fun x23 =>
      some (!x23)) >>= fun q19 =>
  if q19 then
    some ((⟨0, []⟩ : T_WalkProblem), false)
  else
    ck p0.Labels >>= fun _ =>
    (forN (fI_PowerWalk_s1 fuel p0 p1) (p0.Labels).toNat 0 []) >>= fun q55 =>
    match q55 with
    | .inl y47 =>
      some ((⟨p0.Labels, y47⟩ : T_WalkProblem), true)
    | .inr _ => none

def pI_PowerWalk (oo : Tg) (t : Nat) (w : World) (r : T_WalkProblem × Bool) : Ending → World → Prop := fun e w' => ∃ (v0 : List Value) (o' : Tg), e = .returned (.tuple #[.agg v0.toArray, .bool r.2]) ∧ Rp.rd o' w' v0 r.1 ∧ Dz 43 3 o' w' (v0.getD 1 undef) r.1.Arcs ∧ Keeps w w' ∧ ∀ b, b < w.heap.size → o' b = oo b
set_option maxRecDepth 100000 in
set_option maxHeartbeats 2000000 in
theorem cI_PowerWalk (fuel : Nat) (w : World) (oo : Tg) (t : Nat) (ht : 2 ≤ t) (u0 : List Value) (p0 : T_WalkProblem) (g0 : Rp.rd zt w u0 p0) (p1 : Int) (r : T_WalkProblem × Bool) (hF : fI_PowerWalk fuel p0 p1 = some r) :
    Calls Try.prog 43 #[.agg u0.toArray, .int .i64 p1] w (pI_PowerWalk oo t w r) := by
  unfold fI_PowerWalk at hF
  obtain ⟨v1, rfl, h2⟩ := g0
  have hB : Bs oo (col oo) w w := Bs.start _ _
  refine calls_start (n := 51) (vs := [(.agg #[(.int .i64 p0.Labels), v1]), (.int .i64 p1)]) Try.func43 rfl rfl ?_
  generalize col oo = o at *
  refine wpC_seq ?_
  refine wpC_region ?_
  refine st_op (by decide) trivial ?_
  refine wf_box (o := o) w.heap.size 11 hB.keeps.size (cs := [(.int .i64 p0.Labels), v1]) rfl rfl ?_
  intro o3 w4 b5 h6 s7
  replace hB := hB.stp s7 (by decide)
  refine st_op (by decide) trivial ?_
  refine wf_alloc (o := o3) w.heap.size 12 hB.keeps.size (cs := [(.int .i64 0), (.slice none 0 0)]) Try.zeroValue27 rfl ?_
  intro o8 w9 b10 h11 s12
  replace h6 := h6.stp s12 (by decide)
  replace hB := hB.stp s12 (by decide)
  refine st_val (ex_assign rfl) (by decide) trivial ?_
  refine wpF_end (r := [(1, (.int .i64 p1)), (2, (.pointer (some ⟨b5, 0, none⟩))), (4, (.pointer (some ⟨b10, 0, none⟩)))]) ⟨rfl, rfl, rfl, trivial⟩ ?_
  refine nx ?_
  refine wpC_seq ?_
  refine wpC_seq ?_
  refine wpC_region ?_
  refine st_val (ex_loadA rfl Try.isAgg27 Try.sizeOf27 rfl h6.cells) (by decide) trivial ?_
  obtain ⟨x13, hx13, hF⟩ := bind_some hF
  refine st_op (by decide) trivial ?_
  refine wf_call (cI_IsWalkProblem w9 _ p0 (⟨_, rfl, (h2.keep hB.keeps)⟩) x13 hx13) Try.call18 ⟨rfl, trivial⟩ ?_
  rintro e18 w14 ⟨rfl, k15⟩
  have s17 := k15.stp 999 o8
  refine ⟨_, rfl, ?_⟩
  replace h6 := h6.stp s17 (by decide)
  replace h11 := h11.stp s17 (by decide)
  replace hB := hB.stp s17 (by decide)
  refine st_val (ex_not rfl) (by decide) trivial ?_
  refine st_val (ex_move rfl) (by decide) trivial ?_
  obtain ⟨q19, hq19, hF⟩ := bind_some hF
  refine wpF_cutAt 4 (fun a21 w20 => Fr a21 51 [(1, (.int .i64 p1)), (2, (.pointer (some ⟨b5, 0, none⟩))), (4, (.pointer (some ⟨b10, 0, none⟩))), (17, (.bool q19))] ∧ Keeps w14 w20) ?_ ?_
  all_goals simp only [List.take_succ_cons, List.take_zero, List.drop_succ_cons, List.drop_zero]
  · have kp : Keeps w14 w14 := Keeps.refl _
    rcases Bool.eq_false_or_eq_true (!x13) with t22 | t22
    · rw [if_pos t22] at hq19
      refine st_no rfl rfl (by rw [t22]; rfl) (by decide) ?_
      refine st_no rfl rfl (by rw [t22]; rfl) (by decide) ?_
      refine st_no rfl rfl (by rw [t22]; rfl) (by decide) ?_
      refine st_val (ex_pick_t (congrArg (fun b => some (Value.bool b)) t22) rfl) (by decide) trivial ?_
      have hq192 := Option.some.inj hq19
      refine wpF_end (r := [(1, (.int .i64 p1)), (2, (.pointer (some ⟨b5, 0, none⟩))), (4, (.pointer (some ⟨b10, 0, none⟩))), (17, (.bool true))]) ⟨rfl, rfl, rfl, rfl, trivial⟩ ?_
      subst hq192
      refine np_norm (fun a ha => ⟨ha, kp⟩)
    · rw [if_neg (by rw [t22]; decide)] at hq19
      refine st_val (ex_move rfl) (by decide) ⟨_, rfl, (congrArg (fun b => some (Value.bool b)) t22)⟩ ?_
      obtain ⟨x23, hx23, hq19⟩ := bind_some hq19
      refine st_op (by decide) ⟨_, rfl, (congrArg (fun b => some (Value.bool b)) t22)⟩ ?_
      refine wf_call (cI_within w14 p1 1 200 x23 hx23) Try.call56 ⟨rfl, rfl, rfl, trivial⟩ ?_
      rintro e28 w24 ⟨rfl, k25⟩
      have s27 := k25.stp 999 o8
      refine ⟨_, rfl, ?_⟩
      replace h6 := h6.stp s27 (by decide)
      replace h11 := h11.stp s27 (by decide)
      replace hB := hB.stp s27 (by decide)
      replace kp := Keeps.trans kp k25
      refine st_val (ex_not rfl) (by decide) ⟨_, rfl, (congrArg (fun b => some (Value.bool b)) t22)⟩ ?_
      refine st_val (ex_pick_f (congrArg (fun b => some (Value.bool b)) t22) rfl) (by decide) trivial ?_
      have hq192 := Option.some.inj hq19
      refine wpF_end (r := [(1, (.int .i64 p1)), (2, (.pointer (some ⟨b5, 0, none⟩))), (4, (.pointer (some ⟨b10, 0, none⟩))), (17, (.bool (!x23)))]) ⟨rfl, rfl, rfl, rfl, trivial⟩ ?_
      subst hq192
      refine np_norm (fun a ha => ⟨ha, kp⟩)
  rintro a31 w20 ⟨ha, k29⟩
  have s30 := k29.stp 999 o8
  replace h6 := h6.stp s30 (by decide)
  replace h11 := h11.stp s30 (by decide)
  replace hB := hB.stp s30 (by decide)
  refine wl_of ha ?_
  refine wpF_end (r := [(1, (.int .i64 p1)), (2, (.pointer (some ⟨b5, 0, none⟩))), (4, (.pointer (some ⟨b10, 0, none⟩))), (17, (.bool q19))]) ⟨rfl, rfl, rfl, rfl, trivial⟩ ?_
  refine nx ?_
  refine wpC_cond rfl (fun t32 => ?_) (fun t32 => ?_)
  · rw [if_pos t32] at hF
    refine wpC_seq ?_
    refine wpC_region ?_
    refine st_val (ex_build (vs := []) (cs := [(.int .i64 0), (.slice none 0 0)]) trivial (by kernel_rfl)) (by decide) trivial ?_
    refine st_op0 trivial ?_
    refine wf_storeA h11 rfl rfl rfl info1_t_impl_WalkProblem_J (by intro c hc; simp only [List.mem_cons, List.not_mem_nil, or_false] at hc; rcases hc with rfl | rfl <;> first | rfl) ?_
    intro w33 h35 s34
    replace h6 := h6.stp s34 (by decide)
    replace hB := hB.stp s34 (by decide)
    refine st_val (ex_assign rfl) (by decide) trivial ?_
    refine wpF_end (r := [(4, (.pointer (some ⟨b10, 0, none⟩))), (5, (.bool false))]) ⟨rfl, rfl, trivial⟩ ?_
    refine nx ?_
    refine wpC_ret ?_
    refine nt_ret ?_
    have e36 := Option.some.inj hF
    subst e36
    refine ret_post (P := Try.prog) (vs := [(.agg #[(.int .i64 0), (.slice none 0 0)]), (.bool false)]) Try.results43 ⟨⟨_, rfl, run_loadA Try.isAgg27 Try.sizeOf27 rfl h35.cells⟩, rfl, trivial⟩ ?_
    exact ⟨[(.int .i64 0), (.slice none 0 0)], rt oo o8 w.heap.size 9 t, rfl, ⟨_, rfl, RdL.nil _ _⟩, (Dz.nil _ _ _ _), hB.keeps, rt_old _ _ _ _ _⟩
  · rw [if_neg (by rw [t32]; decide)] at hF
    refine wpC_skip ?_
    refine nx ?_
    refine wpC_seq ?_
    refine wpC_region ?_
    refine st_val (ex_field rfl Try.underlying27 rfl Try.sizeOf3) (by decide) trivial ?_
    refine st_val (ex_load1 rfl Try.isAgg3 (h6.cell rfl)) (by decide) trivial ?_
    refine st_val (ex_build (vs := [(0, (.int .i64 p0.Labels))]) (cs := [(.int .i64 p0.Labels), (.slice none 0 0)]) ⟨rfl, rfl, trivial⟩ (by kernel_rfl)) (by decide) trivial ?_
    refine st_op (by decide) trivial ?_
    refine wf_alloc (o := o8) w.heap.size 15 hB.keeps.size (cs := [(.int .i64 0), (.slice none 0 0)]) Try.zeroValue27 rfl ?_
    intro o37 w38 b39 h40 s41
    replace h6 := h6.stp s41 (by decide)
    replace h11 := h11.stp s41 (by decide)
    replace hB := hB.stp s41 (by decide)
    refine st_op0 trivial ?_
    refine wf_storeA h40 rfl rfl rfl info1_t_impl_WalkProblem_J (by intro c hc; simp only [List.mem_cons, List.not_mem_nil, or_false] at hc; rcases hc with rfl | rfl <;> first | rfl) ?_
    intro w42 h44 s43
    replace h6 := h6.stp s43 (by decide)
    replace h11 := h11.stp s43 (by decide)
    replace hB := hB.stp s43 (by decide)
    refine wpF_end (r := [(1, (.int .i64 p1)), (2, (.pointer (some ⟨b5, 0, none⟩))), (4, (.pointer (some ⟨b10, 0, none⟩))), (6, (.pointer (some ⟨b39, 0, none⟩)))]) ⟨rfl, rfl, rfl, rfl, trivial⟩ ?_
    refine nx ?_
    refine wpC_seq ?_
    refine wpC_seq ?_
    refine wpC_region ?_
    refine st_val (ex_field rfl Try.underlying27 rfl Try.sizeOf3) (by decide) trivial ?_
    refine st_val (ex_load1 rfl Try.isAgg3 (h6.cell rfl)) (by decide) trivial ?_
    refine st_val (ex_move rfl) (by decide) trivial ?_
    refine wpF_end (r := [(1, (.int .i64 p1)), (2, (.pointer (some ⟨b5, 0, none⟩))), (4, (.pointer (some ⟨b10, 0, none⟩))), (6, (.pointer (some ⟨b39, 0, none⟩))), (23, (.int .i64 p0.Labels)), (24, (.int .i64 0))]) ⟨rfl, rfl, rfl, rfl, rfl, rfl, trivial⟩ ?_
    refine nx ?_
    have h45 : Ow w.heap.size 43 16 o37 w42 (.slice none 0 0) ([] : List Hv) := Ow.nil _ _ _ _ _
    have h46 : Rws w.heap.size 3 17 o37 w42 [] ([] : List (List Int)) := Rws.nil _ _ _ _ _
    obtain ⟨u57, h56, hF⟩ := bind_some hF
    obtain ⟨-, h56a, h56b⟩ := ck_some h56
    obtain ⟨q55, hq55, hF⟩ := bind_some hF
    refine wpC_cutN (fun a w53 => ∃ (y47 : List (List Int)) (v48 : Value) (g51 : List Hv) (o52 : Tg), q55 = .inl y47 ∧ Fr a 51 [(4, (.pointer (some ⟨b10, 0, none⟩))), (6, (.pointer (some ⟨b39, 0, none⟩)))] ∧ Bs oo o52 w w53 ∧ Bx w.heap.size 12 o52 w53 b10 27 [(.int .i64 0), (.slice none 0 0)] ∧ Bx w.heap.size 15 o52 w53 b39 27 [(.int .i64 p0.Labels), v48] ∧ Ow w.heap.size 43 16 o52 w53 v48 g51 ∧ Rws w.heap.size 3 17 o52 w53 g51 y47) (fun _ _ => False) ?_ ?_ ?_
    · refine wpC_block ?_
      refine wpC_loop (fun (K : Nat) a w53 => ∃ (i54 : Int) (y47 : List (List Int)) (v48 : Value) (g51 : List Hv) (o52 : Tg), forN (fI_PowerWalk_s1 fuel p0 p1) (p0.Labels - i54).toNat i54 y47 = some q55 ∧ (p0.Labels - i54).toNat = K ∧ 0 ≤ i54 ∧ Fr a 51 [(1, (.int .i64 p1)), (2, (.pointer (some ⟨b5, 0, none⟩))), (4, (.pointer (some ⟨b10, 0, none⟩))), (6, (.pointer (some ⟨b39, 0, none⟩))), (23, (.int .i64 p0.Labels)), (24, (.int .i64 i54))] ∧ Bs oo o52 w w53 ∧ Bx w.heap.size 11 o52 w53 b5 27 [(.int .i64 p0.Labels), v1] ∧ Bx w.heap.size 12 o52 w53 b10 27 [(.int .i64 0), (.slice none 0 0)] ∧ Bx w.heap.size 15 o52 w53 b39 27 [(.int .i64 p0.Labels), v48] ∧ Ow w.heap.size 43 16 o52 w53 v48 g51 ∧ Rws w.heap.size 3 17 o52 w53 g51 y47) _ (fun a ha => ⟨0, [], (.slice none 0 0), [], o37, (by rw [Int.sub_zero]; exact hq55), rfl, Int.le_refl 0, ha.sub (r := [(1, (.int .i64 p1)), (2, (.pointer (some ⟨b5, 0, none⟩))), (4, (.pointer (some ⟨b10, 0, none⟩))), (6, (.pointer (some ⟨b39, 0, none⟩))), (23, (.int .i64 p0.Labels)), (24, (.int .i64 0))]) ⟨rfl, rfl, rfl, rfl, rfl, rfl, trivial⟩, hB, h6, h11, h44, h45, h46⟩) ?_
      rintro K61 a w53 ⟨i54, y47, v48, g51, o52, l58, m60, z59, ha, hB, h6, h11, h44, h49, h50⟩
      by_cases t65 : i54 < p0.Labels
      · obtain ⟨q62, b63, n64⟩ := forN_cons t65 l58
        dsimp only [fI_PowerWalk_s1] at b63
        refine wp_of ha ?_
        refine wpC_seq ?_
        refine wpC_region ?_
        refine st_val (ex_lss rfl rfl) (by decide) trivial ?_
        refine wpF_end (r := [(1, (.int .i64 p1)), (2, (.pointer (some ⟨b5, 0, none⟩))), (4, (.pointer (some ⟨b10, 0, none⟩))), (6, (.pointer (some ⟨b39, 0, none⟩))), (23, (.int .i64 p0.Labels)), (24, (.int .i64 i54)), (25, (.bool (decide (i54 < p0.Labels))))]) ⟨rfl, rfl, rfl, rfl, rfl, rfl, rfl, trivial⟩ ?_
        refine nx ?_
        refine wpC_seq ?_
        refine wpC_true (congrArg (fun b => some (Value.bool b)) (decide_eq_true t65)) ?_
        refine wpC_skip ?_
        refine nx ?_
        refine wpC_seq ?_
        refine wpC_block ?_
        refine wpC_seq ?_
        refine wpC_region ?_
        refine st_val (ex_move rfl) (by decide) trivial ?_
        refine st_val (ex_assign rfl) (by decide) trivial ?_
        refine wpF_end (r := [(1, (.int .i64 p1)), (2, (.pointer (some ⟨b5, 0, none⟩))), (4, (.pointer (some ⟨b10, 0, none⟩))), (6, (.pointer (some ⟨b39, 0, none⟩))), (7, (.int .i64 i54)), (23, (.int .i64 p0.Labels)), (24, (.int .i64 i54))]) ⟨rfl, rfl, rfl, rfl, rfl, rfl, rfl, trivial⟩ ?_
        refine nx ?_
        refine wpC_seq ?_
        refine wpC_region ?_
        refine st_val (ex_loadA rfl Try.isAgg27 Try.sizeOf27 rfl h6.cells) (by decide) trivial ?_
        refine st_val (ex_move rfl) (by decide) trivial ?_
        refine st_val (ex_move rfl) (by decide) trivial ?_
        obtain ⟨x66, hx66, b63⟩ := bind_some b63
        refine st_op (by decide) trivial ?_
        refine wf_call (cI_WalkProblem_reached fuel w53 o52 18 (by decide) _ p0 (⟨_, rfl, (h2.keep hB.keeps)⟩) i54 p1 x66 hx66) Try.call75 ⟨rfl, rfl, rfl, trivial⟩ ?_
        rintro e73 w67 ⟨v68, o74, rfl, h69, k70, k71⟩
        have s72 := k70.stp' 18 k71
        replace h69 := h69.mono hB.keeps.size
        refine ⟨_, rfl, ?_⟩
        replace h6 := h6.stp s72 (by decide)
        replace h11 := h11.stp s72 (by decide)
        replace h44 := h44.stp s72 (by decide)
        replace h49 := h49.stp s72 (by decide) (by decide)
        replace h50 := h50.stp s72 (by decide) (by decide)
        replace hB := hB.stp s72 (by decide)
        refine st_val (ex_move rfl) (by decide) trivial ?_
        obtain ⟨x75, hx75, b63⟩ := bind_some b63
        refine st_op (by decide) trivial ?_
        refine wf_atW h69 hx75 rfl rfl Try.underlying43 Try.sizeOf3 ?_
        intro b76 f77 c78 h79 h80
        cases h80
        refine st_val (ex_load1 rfl Try.isAgg3 (cell_of_cells h79)) (by decide) trivial ?_
        obtain ⟨x81, hx81, b63⟩ := bind_some b63
        refine st_op (by decide) trivial ?_
        refine wf_call (cI_labelsIn fuel w67 o74 19 (by decide) x75 x81 hx81) Try.call80 ⟨rfl, trivial⟩ ?_
        rintro e88 w82 ⟨v83, o89, rfl, h84, k85, k86⟩
        have s87 := k85.stp' 19 k86
        replace h84 := h84.mono hB.keeps.size
        refine ⟨_, rfl, ?_⟩
        replace h69 := h69.stp s87 (by decide) (by decide)
        replace h6 := h6.stp s87 (by decide)
        replace h11 := h11.stp s87 (by decide)
        replace h44 := h44.stp s87 (by decide)
        replace h49 := h49.stp s87 (by decide) (by decide)
        replace h50 := h50.stp s87 (by decide) (by decide)
        replace hB := hB.stp s87 (by decide)
        refine st_val (ex_lenO rfl h84 Try.underlying43) (by decide) trivial ?_
        refine st_val (ex_move rfl) (by decide) trivial ?_
        refine wpF_end (r := [(1, (.int .i64 p1)), (2, (.pointer (some ⟨b5, 0, none⟩))), (4, (.pointer (some ⟨b10, 0, none⟩))), (6, (.pointer (some ⟨b39, 0, none⟩))), (7, (.int .i64 i54)), (23, (.int .i64 p0.Labels)), (24, (.int .i64 i54)), (34, v83), (35, (.int .i64 (x81.length : Int))), (36, (.int .i64 0))]) ⟨rfl, rfl, rfl, rfl, rfl, rfl, rfl, rfl, rfl, rfl, trivial⟩ ?_
        refine nx ?_
        obtain ⟨q98, hq98, b63⟩ := bind_some b63
        refine wpC_cutN (fun a w96 => ∃ (y90 : List (List Int)) (v91 : Value) (g94 : List Hv) (o95 : Tg), q98 = .inl y90 ∧ Fr a 51 [(1, (.int .i64 p1)), (2, (.pointer (some ⟨b5, 0, none⟩))), (4, (.pointer (some ⟨b10, 0, none⟩))), (6, (.pointer (some ⟨b39, 0, none⟩))), (23, (.int .i64 p0.Labels)), (24, (.int .i64 i54))] ∧ Bs oo o95 w w96 ∧ Bx w.heap.size 11 o95 w96 b5 27 [(.int .i64 p0.Labels), v1] ∧ Bx w.heap.size 12 o95 w96 b10 27 [(.int .i64 0), (.slice none 0 0)] ∧ Bx w.heap.size 15 o95 w96 b39 27 [(.int .i64 p0.Labels), v91] ∧ Ow w.heap.size 43 16 o95 w96 v91 g94 ∧ Rws w.heap.size 3 17 o95 w96 g94 y90) (fun _ _ => False) ?_ ?_ ?_
        · refine wpC_block ?_
          refine wpC_loop (fun (K : Nat) a w96 => ∃ (i97 : Int) (y90 : List (List Int)) (v91 : Value) (g94 : List Hv) (o95 : Tg), forI (fI_PowerWalk_s2 i54) (x81.drop i97.toNat) i97 y90 = some q98 ∧ (x81.drop i97.toNat).length = K ∧ 0 ≤ i97 ∧ Fr a 51 [(1, (.int .i64 p1)), (2, (.pointer (some ⟨b5, 0, none⟩))), (4, (.pointer (some ⟨b10, 0, none⟩))), (6, (.pointer (some ⟨b39, 0, none⟩))), (7, (.int .i64 i54)), (23, (.int .i64 p0.Labels)), (24, (.int .i64 i54)), (34, v83), (35, (.int .i64 (x81.length : Int))), (36, (.int .i64 i97))] ∧ Bs oo o95 w w96 ∧ Ow w.heap.size 3 19 o95 w96 v83 x81 ∧ Bx w.heap.size 11 o95 w96 b5 27 [(.int .i64 p0.Labels), v1] ∧ Bx w.heap.size 12 o95 w96 b10 27 [(.int .i64 0), (.slice none 0 0)] ∧ Bx w.heap.size 15 o95 w96 b39 27 [(.int .i64 p0.Labels), v91] ∧ Ow w.heap.size 43 16 o95 w96 v91 g94 ∧ Rws w.heap.size 3 17 o95 w96 g94 y90) _ (fun a ha => ⟨0, y47, v48, g51, o89, hq98, rfl, Int.le_refl 0, ha.sub (r := [(1, (.int .i64 p1)), (2, (.pointer (some ⟨b5, 0, none⟩))), (4, (.pointer (some ⟨b10, 0, none⟩))), (6, (.pointer (some ⟨b39, 0, none⟩))), (7, (.int .i64 i54)), (23, (.int .i64 p0.Labels)), (24, (.int .i64 i54)), (34, v83), (35, (.int .i64 (x81.length : Int))), (36, (.int .i64 0))]) ⟨rfl, rfl, rfl, rfl, rfl, rfl, rfl, rfl, rfl, rfl, trivial⟩, hB, h84, h6, h11, h44, h49, h50⟩) ?_
          rintro K102 a w96 ⟨i97, y90, v91, g94, o95, l99, m101, z100, ha, hB, h84, h6, h11, h44, h92, h93⟩
          by_cases t106 : i97 < (x81.length : Int)
          · obtain ⟨x107, q103, hx107, b104, n105⟩ := forI_cons z100 t106 l99
            have hle := h84.len_le
            dsimp only [fI_PowerWalk_s2] at b104
            refine wp_of ha ?_
            refine wpC_seq ?_
            refine wpC_region ?_
            refine st_val (ex_lss rfl rfl) (by decide) trivial ?_
            refine wpF_end (r := [(1, (.int .i64 p1)), (2, (.pointer (some ⟨b5, 0, none⟩))), (4, (.pointer (some ⟨b10, 0, none⟩))), (6, (.pointer (some ⟨b39, 0, none⟩))), (7, (.int .i64 i54)), (23, (.int .i64 p0.Labels)), (24, (.int .i64 i54)), (34, v83), (35, (.int .i64 (x81.length : Int))), (36, (.int .i64 i97)), (37, (.bool (decide (i97 < (x81.length : Int)))))]) ⟨rfl, rfl, rfl, rfl, rfl, rfl, rfl, rfl, rfl, rfl, rfl, trivial⟩ ?_
            refine nx ?_
            refine wpC_seq ?_
            refine wpC_true (congrArg (fun b => some (Value.bool b)) (decide_eq_true t106)) ?_
            refine wpC_skip ?_
            refine nx ?_
            refine wpC_seq ?_
            refine wpC_block ?_
            refine wpC_seq ?_
            refine wpC_region ?_
            refine st_op (by decide) trivial ?_
            refine wf_atW h84 hx107 rfl rfl Try.underlying43 Try.sizeOf3 ?_
            intro b108 f109 c110 h111 h112
            cases h112
            refine st_val (ex_load1 rfl Try.isAgg3 (cell_of_cells h111)) (by decide) trivial ?_
            refine st_val (ex_assign rfl) (by decide) trivial ?_
            refine wpF_end (r := [(1, (.int .i64 p1)), (2, (.pointer (some ⟨b5, 0, none⟩))), (4, (.pointer (some ⟨b10, 0, none⟩))), (6, (.pointer (some ⟨b39, 0, none⟩))), (7, (.int .i64 i54)), (9, (.int .i64 x107)), (23, (.int .i64 p0.Labels)), (24, (.int .i64 i54)), (34, v83), (35, (.int .i64 (x81.length : Int))), (36, (.int .i64 i97))]) ⟨rfl, rfl, rfl, rfl, rfl, rfl, rfl, rfl, rfl, rfl, rfl, trivial⟩ ?_
            refine nx ?_
            refine wpC_region ?_
            refine st_val (ex_field rfl Try.underlying27 rfl Try.sizeOf22) (by decide) trivial ?_
            refine st_val (ex_load1 rfl Try.isAgg22 (h44.cell rfl)) (by decide) trivial ?_
            refine st_val (ex_move rfl) (by decide) trivial ?_
            refine st_val (ex_move rfl) (by decide) trivial ?_
            refine st_op (by decide) trivial ?_
            refine wf_litW w.heap.size 20 hB.keeps.size (o := o95) (cs := [(.int .i64 i54), (.int .i64 x107)]) (xs := ([i54, x107] : List Int)) (vs := [(0, (.int .i64 i54)), (1, (.int .i64 x107))]) ⟨_, _, rfl, rfl, ⟨_, _, rfl, rfl, rfl⟩⟩ rfl ⟨rfl, rfl, rfl, rfl, trivial⟩ Try.underlying43 Try.sizeOf3 Try.zeroValue3 (by decide) (fill2 rfl rfl) (by simp) ?_
            intro o113 w114 v115 h116 s117
            replace h84 := h84.stp s117 (by decide) (by decide)
            replace h92 := h92.stp s117 (by decide) (by decide)
            replace h93 := h93.stp s117 (by decide) (by decide)
            replace h6 := h6.stp s117 (by decide)
            replace h11 := h11.stp s117 (by decide)
            replace h44 := h44.stp s117 (by decide)
            replace hB := hB.stp s117 (by decide)
            refine st_op (by decide) trivial ?_
            refine wf_litR (o := o113) (cs := [v115]) (xs := ([⟨v115⟩] : List Hv)) (vs := [(0, v115)]) ⟨_, _, rfl, rd_hv h116, rfl⟩ rfl ⟨rfl, rfl, trivial⟩ Try.underlying22 Try.sizeOf43 Try.zeroValue43 (by decide) (fill1 h116.cells1) (by simp) ?_
            intro o118 w119 v120 h121 s122 k123
            replace h84 := h84.stp s122 (by decide) (by decide)
            replace h92 := h92.stp s122 (by decide) (by decide)
            replace h93 := h93.stp s122 (by decide) (by decide)
            replace h116 := h116.stp s122 (by decide) (by decide)
            replace h6 := h6.stp s122 (by decide)
            replace h11 := h11.stp s122 (by decide)
            replace h44 := h44.stp s122 (by decide)
            replace hB := hB.stp s122 (by decide)
            obtain ⟨x124, hx124, b104⟩ := bind_some b104
            obtain ⟨h125, h126⟩ := h93.pushV hx124 v115
            refine st_op (by decide) trivial ?_
            refine wf_cat h92 h121 (push_cat h125) (by decide) hB.keeps.size rfl rfl Try.underlying22 info2_t_Lint_J rfl (by decide) ?_
            intro o127 w128 v129 h130 s131
            replace h84 := h84.stp s131 (by decide) (by decide)
            replace h93 := h93.stp s131 (by decide) (by decide)
            replace h116 := h116.stp s131 (by decide) (by decide)
            replace h6 := h6.stp s131 (by decide)
            replace h11 := h11.stp s131 (by decide)
            replace h44 := h44.stp s131 (by decide)
            replace hB := hB.stp s131 (by decide)
            have h132 := h93.push h116 (by decide) (by decide)
            rw [← h126] at h132
            clear h93 h116
            have r133 := mrg_rc 20 17 o127
            replace h84 := h84.rc r133 (by decide) (by decide)
            replace h130 := h130.rc r133 (by decide) (by decide)
            replace h6 := h6.rc r133 (by decide)
            replace h11 := h11.rc r133 (by decide)
            replace h44 := h44.rc r133 (by decide)
            replace hB := hB.rc r133 (by decide)
            generalize mrg 20 17 o127 = o134 at *
            refine st_val (ex_field rfl Try.underlying27 rfl Try.sizeOf22) (by decide) trivial ?_
            refine st_op0 trivial ?_
            refine wf_storeB h44 rfl rfl (of_decide_eq_true rfl) Try.sizeOf22 h130.cells1 h130.one1 ?_
            intro w135 h137 s136
            replace h84 := h84.stp s136 (by decide) (by decide)
            replace h130 := h130.stp s136 (by decide) (by decide)
            replace h132 := h132.stp s136 (by decide) (by decide)
            replace h6 := h6.stp s136 (by decide)
            replace h11 := h11.stp s136 (by decide)
            replace hB := hB.stp s136 (by decide)
            replace h137 : Bx w.heap.size 15 o134 w135 b39 27 [(.int .i64 p0.Labels), v129] := h137
            refine wpF_end (r := [(1, (.int .i64 p1)), (2, (.pointer (some ⟨b5, 0, none⟩))), (4, (.pointer (some ⟨b10, 0, none⟩))), (6, (.pointer (some ⟨b39, 0, none⟩))), (7, (.int .i64 i54)), (23, (.int .i64 p0.Labels)), (24, (.int .i64 i54)), (34, v83), (35, (.int .i64 (x81.length : Int))), (36, (.int .i64 i97))]) ⟨rfl, rfl, rfl, rfl, rfl, rfl, rfl, rfl, rfl, rfl, trivial⟩ ?_
            refine nb_norm ?_
            refine nx ?_
            refine wpC_region ?_
            refine st_val (ex_add rfl rfl (ck_in (by omega) (by omega))) (by decide) trivial ?_
            refine st_val (ex_move rfl) (by decide) trivial ?_
            refine wpF_end (r := [(1, (.int .i64 p1)), (2, (.pointer (some ⟨b5, 0, none⟩))), (4, (.pointer (some ⟨b10, 0, none⟩))), (6, (.pointer (some ⟨b39, 0, none⟩))), (7, (.int .i64 i54)), (23, (.int .i64 p0.Labels)), (24, (.int .i64 i54)), (34, v83), (35, (.int .i64 (x81.length : Int))), (36, (.int .i64 (i97 + 1)))]) ⟨rfl, rfl, rfl, rfl, rfl, rfl, rfl, rfl, rfl, rfl, trivial⟩ ?_
            refine nt_norm ?_
            have e138 := Option.some.inj b104
            subst e138
            refine to_k (r := [(1, (.int .i64 p1)), (2, (.pointer (some ⟨b5, 0, none⟩))), (4, (.pointer (some ⟨b10, 0, none⟩))), (6, (.pointer (some ⟨b39, 0, none⟩))), (7, (.int .i64 i54)), (23, (.int .i64 p0.Labels)), (24, (.int .i64 i54)), (34, v83), (35, (.int .i64 (x81.length : Int))), (36, (.int .i64 (i97 + 1)))]) ⟨rfl, rfl, rfl, rfl, rfl, rfl, rfl, rfl, rfl, rfl, trivial⟩ ?_
            intro a ha
            exact ⟨_, (by rw [← m101]; simp only [List.length_drop]; omega), i97 + 1, x124, v129, (g94 ++ [⟨v115⟩]), o134, n105, rfl, (by omega), ha, hB, h84, h6, h11, h137, h130, h132⟩
          · have r139 := forI_done t106 l99
            refine wp_of ha ?_
            refine wpC_seq ?_
            refine wpC_region ?_
            refine st_val (ex_lss rfl rfl) (by decide) trivial ?_
            refine wpF_end (r := [(1, (.int .i64 p1)), (2, (.pointer (some ⟨b5, 0, none⟩))), (4, (.pointer (some ⟨b10, 0, none⟩))), (6, (.pointer (some ⟨b39, 0, none⟩))), (7, (.int .i64 i54)), (23, (.int .i64 p0.Labels)), (24, (.int .i64 i54)), (34, v83), (35, (.int .i64 (x81.length : Int))), (36, (.int .i64 i97)), (37, (.bool (decide (i97 < (x81.length : Int)))))]) ⟨rfl, rfl, rfl, rfl, rfl, rfl, rfl, rfl, rfl, rfl, rfl, trivial⟩ ?_
            refine nx ?_
            refine wpC_seq ?_
            refine wpC_false (congrArg (fun b => some (Value.bool b)) (decide_eq_false t106)) ?_
            refine wpC_exit ?_
            refine nt_exit ?_
            refine nt_exit ?_
            refine nb_hit ?_
            refine np_norm ?_
            refine to_k (r := [(1, (.int .i64 p1)), (2, (.pointer (some ⟨b5, 0, none⟩))), (4, (.pointer (some ⟨b10, 0, none⟩))), (6, (.pointer (some ⟨b39, 0, none⟩))), (23, (.int .i64 p0.Labels)), (24, (.int .i64 i54))]) ⟨rfl, rfl, rfl, rfl, rfl, rfl, trivial⟩ ?_
            intro a ha
            exact ⟨y90, v91, g94, o95, r139, ha, hB, h6, h11, h44, h92, h93⟩
        · rintro a w96 ⟨y90, v91, g94, o95, rfl, ha, hB, h6, h11, h44, h92, h93⟩
          dsimp only at b63
          refine ap_k ha ?_
          refine nb_norm ?_
          refine nx ?_
          refine wpC_region ?_
          refine st_val (ex_add rfl rfl (ck_in (by omega) (by omega))) (by decide) trivial ?_
          refine st_val (ex_move rfl) (by decide) trivial ?_
          refine wpF_end (r := [(1, (.int .i64 p1)), (2, (.pointer (some ⟨b5, 0, none⟩))), (4, (.pointer (some ⟨b10, 0, none⟩))), (6, (.pointer (some ⟨b39, 0, none⟩))), (23, (.int .i64 p0.Labels)), (24, (.int .i64 (i54 + 1)))]) ⟨rfl, rfl, rfl, rfl, rfl, rfl, trivial⟩ ?_
          refine nt_norm ?_
          have e140 := Option.some.inj b63
          subst e140
          refine to_k (r := [(1, (.int .i64 p1)), (2, (.pointer (some ⟨b5, 0, none⟩))), (4, (.pointer (some ⟨b10, 0, none⟩))), (6, (.pointer (some ⟨b39, 0, none⟩))), (23, (.int .i64 p0.Labels)), (24, (.int .i64 (i54 + 1)))]) ⟨rfl, rfl, rfl, rfl, rfl, rfl, trivial⟩ ?_
          intro a ha
          exact ⟨_, (by rw [← m60]; omega), i54 + 1, y90, v91, g94, o95, n64, rfl, (by omega), ha, hB, h6, h11, h44, h92, h93⟩
        · exact fun _ _ h => h.elim
      · have r141 := forN_done t65 l58
        refine wp_of ha ?_
        refine wpC_seq ?_
        refine wpC_region ?_
        refine st_val (ex_lss rfl rfl) (by decide) trivial ?_
        refine wpF_end (r := [(1, (.int .i64 p1)), (2, (.pointer (some ⟨b5, 0, none⟩))), (4, (.pointer (some ⟨b10, 0, none⟩))), (6, (.pointer (some ⟨b39, 0, none⟩))), (23, (.int .i64 p0.Labels)), (24, (.int .i64 i54)), (25, (.bool (decide (i54 < p0.Labels))))]) ⟨rfl, rfl, rfl, rfl, rfl, rfl, rfl, trivial⟩ ?_
        refine nx ?_
        refine wpC_seq ?_
        refine wpC_false (congrArg (fun b => some (Value.bool b)) (decide_eq_false t65)) ?_
        refine wpC_exit ?_
        refine nt_exit ?_
        refine nt_exit ?_
        refine nb_hit ?_
        refine np_norm ?_
        refine to_k (r := [(4, (.pointer (some ⟨b10, 0, none⟩))), (6, (.pointer (some ⟨b39, 0, none⟩)))]) ⟨rfl, rfl, trivial⟩ ?_
        intro a ha
        exact ⟨y47, v48, g51, o52, r141, ha, hB, h11, h44, h49, h50⟩
    · rintro a w53 ⟨y47, v48, g51, o52, rfl, ha, hB, h11, h44, h49, h50⟩
      dsimp only at hF
      refine ap_k ha ?_
      refine nx ?_
      refine wpC_seq ?_
      refine wpC_region ?_
      refine st_val (ex_loadA rfl Try.isAgg27 Try.sizeOf27 rfl h44.cells) (by decide) trivial ?_
      refine st_op0 trivial ?_
      refine wf_storeA h11 rfl rfl rfl info1_t_impl_WalkProblem_J (by intro c hc; simp only [List.mem_cons, List.not_mem_nil, or_false] at hc; rcases hc with rfl | rfl <;> first | rfl | exact h49.one1) ?_
      intro w142 h144 s143
      replace h49 := h49.stp s143 (by decide) (by decide)
      replace h50 := h50.stp s143 (by decide) (by decide)
      replace h44 := h44.stp s143 (by decide)
      replace hB := hB.stp s143 (by decide)
      refine st_val (ex_assign rfl) (by decide) trivial ?_
      refine wpF_end (r := [(4, (.pointer (some ⟨b10, 0, none⟩))), (5, (.bool true))]) ⟨rfl, rfl, trivial⟩ ?_
      refine nx ?_
      refine wpC_ret ?_
      have h145 := Dz.of h49 h50 (by decide) (by decide) (by decide)
      have r146 := frz_rc 16 o52
      have r147 := frz_rc 17 (frz 16 o52)
      replace h144 := (h144.rc r146 (by decide)).rc r147 (by decide)
      replace h44 := (h44.rc r146 (by decide)).rc r147 (by decide)
      replace hB := (hB.rc r146 (by decide)).rc r147 (by decide)
      clear r146 r147
      generalize frz 17 (frz 16 o52) = o149 at *
      have h148 := h145.rd
      have e150 := Option.some.inj hF
      subst e150
      refine ret_post (P := Try.prog) (vs := [(.agg #[(.int .i64 p0.Labels), v48]), (.bool true)]) Try.results43 ⟨⟨_, rfl, run_loadA Try.isAgg27 Try.sizeOf27 rfl h144.cells⟩, rfl, trivial⟩ ?_
      exact ⟨[(.int .i64 p0.Labels), v48], rt oo o149 w.heap.size 9 t, rfl, ⟨_, rfl, h148.rt hB 9 t (by decide)⟩, h145.rt hB 9 t (by decide), hB.keeps, rt_old _ _ _ _ _⟩
    · exact fun _ _ h => h.elim

end Go.Proofs.Ytcjmpodljhcbhaa
