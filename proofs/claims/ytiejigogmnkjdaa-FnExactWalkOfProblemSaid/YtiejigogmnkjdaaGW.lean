/- spec.WalkOfProblem, impl.WalkOfProblem: plain functions, and the walks that show that the program computes them (printed by gen.py). -/
import Derived.Test.YtiejigogmnkjdaaGR
import Derived.Test.YtiejigogmnkjdaaKh
namespace Go.Proofs.Ytiejigogmnkjdaa
open Go.RowKit
set_option linter.unusedSimpArgs false
set_option linter.unusedVariables false

theorem info2_t_Lint_W : Inf Try.prog 25 (.slice none 0 0) 1 24 := by unfold Inf; kernel_rfl

theorem info1_t_impl_WalkProblem_W : (Try.prog.info? 74).map (·.size) = some 2 := by kernel_rfl

def fS_WalkOfProblem_s2 (fuel : Nat) (p0 : T_Problem) (y40 : Int) : ((List (List Int)) × Int) → Option (Lp ((List (List Int)) × Int) ((List (List Int)) × Int) (T_WalkProblem × (List (List Int)) × Bool)) := fun (s : (List (List Int)) × Int) =>
  if decide (s.2 < p0.Labels) then
    (fS_prNode fuel p0 ([y40, s.2] : List Int)) >>= fun x79 =>
    if x79 then
      (push s.1 ([y40, s.2] : List Int)) >>= fun x97 =>
      (ck (s.2 + 1)) >>= fun x108 =>
      some (.go (x97, x108))
    else
      (ck (s.2 + 1)) >>= fun x110 =>
      some (.go (s.1, x110))
  else
    some (.out (s.1, s.2))
def fS_WalkOfProblem_s1 (fuel : Nat) (p0 : T_Problem) : ((List (List Int)) × Int) → Option (Lp ((List (List Int)) × Int) ((List (List Int)) × Int) (T_WalkProblem × (List (List Int)) × Bool)) := fun (s : (List (List Int)) × Int) =>
  if decide (s.2 < p0.Labels) then
    (loopF (fS_WalkOfProblem_s2 fuel p0 s.2) fuel (s.1, 0)) >>= fun q62 =>
    match q62 with
    | .inl (y54, y59) =>
      (ck (s.2 + 1)) >>= fun x113 =>
      some (.go (y54, x113))
    | .inr _ => none
  else
    some (.out (s.1, s.2))
def fS_WalkOfProblem_s4 (p0 : T_Problem) (i144 : Int) (x154 : List Int) : Int → (List Int) → (List (List Int)) → Option (Lp (List (List Int)) (List (List Int)) (T_WalkProblem × (List (List Int)) × Bool)) := fun (i171 : Int) (x181 : List Int) (s : List (List Int)) =>
  (ix x154 0) >>= fun x191 =>
  (ix x181 1) >>= fun x194 =>
  (fS_prEdge p0 x191 x194) >>= fun x238 =>
  if x238 then
    (push s ([i144, i171] : List Int)) >>= fun x256 =>
    some (.go x256)
  else
    some (.go s)
def fS_WalkOfProblem_s3 (p0 : T_Problem) (y35 : List (List Int)) : Int → (List Int) → (List (List Int)) → Option (Lp (List (List Int)) (List (List Int)) (T_WalkProblem × (List (List Int)) × Bool)) := fun (i144 : Int) (x154 : List Int) (s : List (List Int)) =>
  (forI (fS_WalkOfProblem_s4 p0 i144 x154) y35 0 s) >>= fun q172 =>
  match q172 with
  | .inl y164 =>
    some (.go y164)
  | .inr _ => none
def fS_WalkOfProblem (fuel : Nat) (p0 : T_Problem) : Option (T_WalkProblem × (List (List Int)) × Bool) :=
  (fS_prGood fuel p0) >>= fun x15 =>
  (
    if !x15 then
      some true
    else
      some (p0.Degree != 2)) >>= fun q21 =>
  if q21 then
    some ((⟨0, []⟩ : T_WalkProblem), [], false)
  else
    (loopF (fS_WalkOfProblem_s1 fuel p0) fuel ([], 0)) >>= fun q43 =>
    match q43 with
    | .inl (y35, y40) =>
      (fS_l1In (y35.length : Int) 1 12) >>= fun x116 =>
      if !x116 then
        some ((⟨0, []⟩ : T_WalkProblem), [], false)
      else
        (forI (fS_WalkOfProblem_s3 p0 y35) y35 0 []) >>= fun q145 =>
        match q145 with
        | .inl y137 =>
          some ((⟨(y35.length : Int), y137⟩ : T_WalkProblem), y35, true)
        | .inr _ => none
    | .inr _ => none

def pS_WalkOfProblem (oo : Tg) (t : Nat) (w : World) (r : T_WalkProblem × (List (List Int)) × Bool) : Ending → World → Prop := fun e w' => ∃ (v0 : List Value) (v1 : Value) (g1 : List Hv) (o' : Tg), e = .returned (.tuple #[.agg v0.toArray, v1, .bool r.2.2]) ∧ Rp.rd o' w' v0 r.1 ∧ Dz 25 3 o' w' (v0.getD 1 undef) r.1.Arcs ∧ Ow w.heap.size 25 t o' w' v1 g1 ∧ Rws w.heap.size 3 (t + 1) o' w' g1 r.2.1 ∧ Keeps w w' ∧ ∀ b, b < w.heap.size → o' b = oo b
set_option maxRecDepth 100000 in
set_option maxHeartbeats 2000000 in
theorem cS_WalkOfProblem (fuel : Nat) (w : World) (oo : Tg) (t : Nat) (ht : 2 ≤ t) (u0 : List Value) (p0 : T_Problem) (g0 : Rp.rd zt w u0 p0) (r : T_WalkProblem × (List (List Int)) × Bool) (hF : fS_WalkOfProblem fuel p0 = some r) :
    Calls Try.prog 61 #[.agg u0.toArray] w (pS_WalkOfProblem oo t w r) := by
  unfold fS_WalkOfProblem at hF
  obtain ⟨v1, v3, rfl, h2, h4⟩ := g0
  have hB : Bs oo (col oo) w w := Bs.start _ _
  refine calls_start (n := 87) (vs := [(.agg #[(.int .i64 p0.Labels), (.int .i64 p0.Degree), v1, v3])]) Try.func61 rfl rfl ?_
  generalize col oo = o at *
  refine wpC_seq ?_
  refine wpC_region ?_
  refine st_op (by decide) trivial ?_
  refine wf_box (o := o) w.heap.size 11 hB.keeps.size (cs := [(.int .i64 p0.Labels), (.int .i64 p0.Degree), v1, v3]) rfl rfl ?_
  intro o5 w6 b7 h8 s9
  replace hB := hB.stp s9 (by decide)
  refine st_op (by decide) trivial ?_
  refine wf_alloc (o := o5) w.heap.size 12 hB.keeps.size (cs := [(.int .i64 0), (.slice none 0 0)]) Try.zeroValue74 rfl ?_
  intro o10 w11 b12 h13 s14
  replace h8 := h8.stp s14 (by decide)
  replace hB := hB.stp s14 (by decide)
  refine st_val (ex_assign rfl) (by decide) trivial ?_
  refine st_val (ex_assign rfl) (by decide) trivial ?_
  refine wpF_end (r := [(1, (.pointer (some ⟨b7, 0, none⟩))), (2, (.pointer (some ⟨b12, 0, none⟩)))]) ⟨rfl, rfl, trivial⟩ ?_
  refine nx ?_
  refine wpC_seq ?_
  refine wpC_seq ?_
  refine wpC_region ?_
  refine st_val (ex_loadA rfl Try.isAgg29 Try.sizeOf29 rfl h8.cells) (by decide) trivial ?_
  obtain ⟨x15, hx15, hF⟩ := bind_some hF
  refine st_op (by decide) trivial ?_
  refine wf_call (cS_prGood fuel w11 _ p0 (⟨_, _, rfl, (h2.keep hB.keeps), (h4.keep hB.keeps)⟩) x15 hx15) Try.call78 ⟨rfl, trivial⟩ ?_
  rintro e20 w16 ⟨rfl, k17⟩
  have s19 := k17.stp 999 o10
  refine ⟨_, rfl, ?_⟩
  replace h8 := h8.stp s19 (by decide)
  replace h13 := h13.stp s19 (by decide)
  replace hB := hB.stp s19 (by decide)
  refine st_val (ex_not rfl) (by decide) trivial ?_
  refine st_val (ex_move rfl) (by decide) trivial ?_
  obtain ⟨q21, hq21, hF⟩ := bind_some hF
  refine wpF_cutAt 4 (fun a23 w22 => Fr a23 87 [(1, (.pointer (some ⟨b7, 0, none⟩))), (2, (.pointer (some ⟨b12, 0, none⟩))), (20, (.bool q21))] ∧ Keeps w16 w22) ?_ ?_
  all_goals simp only [List.take_succ_cons, List.take_zero, List.drop_succ_cons, List.drop_zero]
  · have kp : Keeps w16 w16 := Keeps.refl _
    rcases Bool.eq_false_or_eq_true (!x15) with t24 | t24
    · rw [if_pos t24] at hq21
      refine st_no rfl rfl (by rw [t24]; rfl) (by decide) ?_
      refine st_no rfl rfl (by rw [t24]; rfl) (by decide) ?_
      refine st_no rfl rfl (by rw [t24]; rfl) (by decide) ?_
      refine st_val (ex_pick_t (congrArg (fun b => some (Value.bool b)) t24) rfl) (by decide) trivial ?_
      have hq212 := Option.some.inj hq21
      refine wpF_end (r := [(1, (.pointer (some ⟨b7, 0, none⟩))), (2, (.pointer (some ⟨b12, 0, none⟩))), (20, (.bool true))]) ⟨rfl, rfl, rfl, trivial⟩ ?_
      subst hq212
      refine np_norm (fun a ha => ⟨ha, kp⟩)
    · rw [if_neg (by rw [t24]; decide)] at hq21
      refine st_val (ex_field rfl Try.underlying29 rfl Try.sizeOf3) (by decide) ⟨_, rfl, (congrArg (fun b => some (Value.bool b)) t24)⟩ ?_
      refine st_val (ex_load1 rfl Try.isAgg3 (h8.cell rfl)) (by decide) ⟨_, rfl, (congrArg (fun b => some (Value.bool b)) t24)⟩ ?_
      refine st_val (ex_neq rfl rfl) (by decide) ⟨_, rfl, (congrArg (fun b => some (Value.bool b)) t24)⟩ ?_
      refine st_val (ex_pick_f (congrArg (fun b => some (Value.bool b)) t24) rfl) (by decide) trivial ?_
      have hq212 := Option.some.inj hq21
      refine wpF_end (r := [(1, (.pointer (some ⟨b7, 0, none⟩))), (2, (.pointer (some ⟨b12, 0, none⟩))), (20, (.bool (p0.Degree != 2)))]) ⟨rfl, rfl, rfl, trivial⟩ ?_
      subst hq212
      refine np_norm (fun a ha => ⟨ha, kp⟩)
  rintro a27 w22 ⟨ha, k25⟩
  have s26 := k25.stp 999 o10
  replace h8 := h8.stp s26 (by decide)
  replace h13 := h13.stp s26 (by decide)
  replace hB := hB.stp s26 (by decide)
  refine wl_of ha ?_
  refine wpF_end (r := [(1, (.pointer (some ⟨b7, 0, none⟩))), (2, (.pointer (some ⟨b12, 0, none⟩))), (20, (.bool q21))]) ⟨rfl, rfl, rfl, trivial⟩ ?_
  refine nx ?_
  refine wpC_cond rfl (fun t28 => ?_) (fun t28 => ?_)
  · rw [if_pos t28] at hF
    refine wpC_seq ?_
    refine wpC_region ?_
    refine st_val (ex_build (vs := []) (cs := [(.int .i64 0), (.slice none 0 0)]) trivial (by kernel_rfl)) (by decide) trivial ?_
    refine st_op0 trivial ?_
    refine wf_storeA h13 rfl rfl rfl info1_t_impl_WalkProblem_W (by intro c hc; simp only [List.mem_cons, List.not_mem_nil, or_false] at hc; rcases hc with rfl | rfl <;> first | rfl) ?_
    intro w29 h31 s30
    replace h8 := h8.stp s30 (by decide)
    replace hB := hB.stp s30 (by decide)
    refine st_val (ex_assign rfl) (by decide) trivial ?_
    refine st_val (ex_assign rfl) (by decide) trivial ?_
    refine wpF_end (r := [(2, (.pointer (some ⟨b12, 0, none⟩))), (3, (.slice none 0 0)), (4, (.bool false))]) ⟨rfl, rfl, rfl, trivial⟩ ?_
    refine nx ?_
    refine wpC_ret ?_
    refine nt_ret ?_
    have e32 := Option.some.inj hF
    subst e32
    refine ret_post (P := Try.prog) (vs := [(.agg #[(.int .i64 0), (.slice none 0 0)]), (.slice none 0 0), (.bool false)]) Try.results61 ⟨⟨_, rfl, run_loadA Try.isAgg74 Try.sizeOf74 rfl h31.cells⟩, rfl, rfl, trivial⟩ ?_
    exact ⟨[(.int .i64 0), (.slice none 0 0)], _, [], rt2 oo o10 w.heap.size 9 8 t, rfl, ⟨_, rfl, RdL.nil _ _⟩, (Dz.nil _ _ _ _), (Ow.nil _ _ _ _ _), (Rws.nil _ _ _ _ _), hB.keeps, rt2_old _ _ _ _ _ _⟩
  · rw [if_neg (by rw [t28]; decide)] at hF
    refine wpC_skip ?_
    refine nx ?_
    refine wpC_seq ?_
    refine wpC_region ?_
    refine st_val (ex_assign rfl) (by decide) trivial ?_
    refine wpF_end (r := [(1, (.pointer (some ⟨b7, 0, none⟩))), (2, (.pointer (some ⟨b12, 0, none⟩))), (5, (.slice none 0 0))]) ⟨rfl, rfl, rfl, trivial⟩ ?_
    refine nx ?_
    refine wpC_seq ?_
    refine wpC_seq ?_
    refine wpC_region ?_
    refine st_val (ex_assign rfl) (by decide) trivial ?_
    refine wpF_end (r := [(1, (.pointer (some ⟨b7, 0, none⟩))), (2, (.pointer (some ⟨b12, 0, none⟩))), (5, (.slice none 0 0)), (6, (.int .i64 0))]) ⟨rfl, rfl, rfl, rfl, trivial⟩ ?_
    refine nx ?_
    have h33 : Ow w.heap.size 25 14 o10 w22 (.slice none 0 0) ([] : List Hv) := Ow.nil _ _ _ _ _
    have h34 : Rws w.heap.size 3 15 o10 w22 [] ([] : List (List Int)) := Rws.nil _ _ _ _ _
    obtain ⟨q43, hq43, hF⟩ := bind_some hF
    refine wpC_cutN (fun a w42 => ∃ (y35 : List (List Int)) (y40 : Int) (v36 : Value) (g39 : List Hv) (o41 : Tg), q43 = .inl (y35, y40) ∧ Fr a 87 [(1, (.pointer (some ⟨b7, 0, none⟩))), (2, (.pointer (some ⟨b12, 0, none⟩))), (5, v36)] ∧ Bs oo o41 w w42 ∧ Ow w.heap.size 25 14 o41 w42 v36 g39 ∧ Rws w.heap.size 3 15 o41 w42 g39 y35 ∧ Bx w.heap.size 11 o41 w42 b7 29 [(.int .i64 p0.Labels), (.int .i64 p0.Degree), v1, v3] ∧ Bx w.heap.size 12 o41 w42 b12 74 [(.int .i64 0), (.slice none 0 0)]) (fun _ _ => False) ?_ ?_ ?_
    · refine wpC_block ?_
      refine wpC_loop (fun (K : Nat) a w42 => ∃ (y35 : List (List Int)) (y40 : Int) (v36 : Value) (g39 : List Hv) (o41 : Tg), loopF (fS_WalkOfProblem_s1 fuel p0) K (y35, y40) = some q43 ∧ Fr a 87 [(1, (.pointer (some ⟨b7, 0, none⟩))), (2, (.pointer (some ⟨b12, 0, none⟩))), (5, v36), (6, (.int .i64 y40))] ∧ Bs oo o41 w w42 ∧ Ow w.heap.size 25 14 o41 w42 v36 g39 ∧ Rws w.heap.size 3 15 o41 w42 g39 y35 ∧ Bx w.heap.size 11 o41 w42 b7 29 [(.int .i64 p0.Labels), (.int .i64 p0.Degree), v1, v3] ∧ Bx w.heap.size 12 o41 w42 b12 74 [(.int .i64 0), (.slice none 0 0)]) fuel (fun a ha => ⟨[], 0, (.slice none 0 0), [], o10, hq43, ha.sub (r := [(1, (.pointer (some ⟨b7, 0, none⟩))), (2, (.pointer (some ⟨b12, 0, none⟩))), (5, (.slice none 0 0)), (6, (.int .i64 0))]) ⟨rfl, rfl, rfl, rfl, trivial⟩, hB, h33, h34, h8, h13⟩) ?_
      rintro K47 a w42 ⟨y35, y40, v36, g39, o41, l44, ha, hB, h37, h38, h8, h13⟩
      obtain ⟨K51, q48, e52, b49, n50⟩ := loopF_cons l44
      dsimp only [fS_WalkOfProblem_s1] at b49
      refine wp_of ha ?_
      refine wpC_seq ?_
      refine wpC_seq ?_
      refine wpC_region ?_
      refine st_val (ex_move rfl) (by decide) trivial ?_
      refine st_val (ex_field rfl Try.underlying29 rfl Try.sizeOf3) (by decide) trivial ?_
      refine st_val (ex_load1 rfl Try.isAgg3 (h8.cell rfl)) (by decide) trivial ?_
      refine st_val (ex_lss rfl rfl) (by decide) trivial ?_
      refine wpF_end (r := [(1, (.pointer (some ⟨b7, 0, none⟩))), (2, (.pointer (some ⟨b12, 0, none⟩))), (5, v36), (6, (.int .i64 y40)), (25, (.bool (decide (y40 < p0.Labels))))]) ⟨rfl, rfl, rfl, rfl, rfl, trivial⟩ ?_
      refine nx ?_
      refine wpC_cond rfl (fun t53 => ?_) (fun t53 => ?_)
      · rw [if_pos t53] at b49
        refine wpC_skip ?_
        refine nx ?_
        refine wpC_seq ?_
        refine wpC_block ?_
        refine wpC_seq ?_
        refine wpC_region ?_
        refine st_val (ex_assign rfl) (by decide) trivial ?_
        refine wpF_end (r := [(1, (.pointer (some ⟨b7, 0, none⟩))), (2, (.pointer (some ⟨b12, 0, none⟩))), (5, v36), (6, (.int .i64 y40)), (7, (.int .i64 0))]) ⟨rfl, rfl, rfl, rfl, rfl, trivial⟩ ?_
        refine nx ?_
        obtain ⟨q62, hq62, b49⟩ := bind_some b49
        refine wpC_cutN (fun a w61 => ∃ (y54 : List (List Int)) (y59 : Int) (v55 : Value) (g58 : List Hv) (o60 : Tg), q62 = .inl (y54, y59) ∧ Fr a 87 [(1, (.pointer (some ⟨b7, 0, none⟩))), (2, (.pointer (some ⟨b12, 0, none⟩))), (5, v55), (6, (.int .i64 y40))] ∧ Bs oo o60 w w61 ∧ Ow w.heap.size 25 14 o60 w61 v55 g58 ∧ Rws w.heap.size 3 15 o60 w61 g58 y54 ∧ Bx w.heap.size 11 o60 w61 b7 29 [(.int .i64 p0.Labels), (.int .i64 p0.Degree), v1, v3] ∧ Bx w.heap.size 12 o60 w61 b12 74 [(.int .i64 0), (.slice none 0 0)]) (fun _ _ => False) ?_ ?_ ?_
        · refine wpC_block ?_
          refine wpC_loop (fun (K : Nat) a w61 => ∃ (y54 : List (List Int)) (y59 : Int) (v55 : Value) (g58 : List Hv) (o60 : Tg), loopF (fS_WalkOfProblem_s2 fuel p0 y40) K (y54, y59) = some q62 ∧ Fr a 87 [(1, (.pointer (some ⟨b7, 0, none⟩))), (2, (.pointer (some ⟨b12, 0, none⟩))), (5, v55), (6, (.int .i64 y40)), (7, (.int .i64 y59))] ∧ Bs oo o60 w w61 ∧ Ow w.heap.size 25 14 o60 w61 v55 g58 ∧ Rws w.heap.size 3 15 o60 w61 g58 y54 ∧ Bx w.heap.size 11 o60 w61 b7 29 [(.int .i64 p0.Labels), (.int .i64 p0.Degree), v1, v3] ∧ Bx w.heap.size 12 o60 w61 b12 74 [(.int .i64 0), (.slice none 0 0)]) fuel (fun a ha => ⟨y35, 0, v36, g39, o41, hq62, ha.sub (r := [(1, (.pointer (some ⟨b7, 0, none⟩))), (2, (.pointer (some ⟨b12, 0, none⟩))), (5, v36), (6, (.int .i64 y40)), (7, (.int .i64 0))]) ⟨rfl, rfl, rfl, rfl, rfl, trivial⟩, hB, h37, h38, h8, h13⟩) ?_
          rintro K66 a w61 ⟨y54, y59, v55, g58, o60, l63, ha, hB, h56, h57, h8, h13⟩
          obtain ⟨K70, q67, e71, b68, n69⟩ := loopF_cons l63
          dsimp only [fS_WalkOfProblem_s2] at b68
          refine wp_of ha ?_
          refine wpC_seq ?_
          refine wpC_seq ?_
          refine wpC_region ?_
          refine st_val (ex_move rfl) (by decide) trivial ?_
          refine st_val (ex_field rfl Try.underlying29 rfl Try.sizeOf3) (by decide) trivial ?_
          refine st_val (ex_load1 rfl Try.isAgg3 (h8.cell rfl)) (by decide) trivial ?_
          refine st_val (ex_lss rfl rfl) (by decide) trivial ?_
          refine wpF_end (r := [(1, (.pointer (some ⟨b7, 0, none⟩))), (2, (.pointer (some ⟨b12, 0, none⟩))), (5, v55), (6, (.int .i64 y40)), (7, (.int .i64 y59)), (31, (.bool (decide (y59 < p0.Labels))))]) ⟨rfl, rfl, rfl, rfl, rfl, rfl, trivial⟩ ?_
          refine nx ?_
          refine wpC_cond rfl (fun t72 => ?_) (fun t72 => ?_)
          · rw [if_pos t72] at b68
            refine wpC_skip ?_
            refine nx ?_
            refine wpC_seq ?_
            refine wpC_block ?_
            refine wpC_seq ?_
            refine wpC_region ?_
            refine st_val (ex_loadA rfl Try.isAgg29 Try.sizeOf29 rfl h8.cells) (by decide) trivial ?_
            refine st_val (ex_move rfl) (by decide) trivial ?_
            refine st_val (ex_move rfl) (by decide) trivial ?_
            refine st_op (by decide) trivial ?_
            refine wf_litR (o := o60) (cs := [(.int .i64 y40), (.int .i64 y59)]) (xs := ([y40, y59] : List Int)) (vs := [(0, (.int .i64 y40)), (1, (.int .i64 y59))]) ⟨_, _, rfl, rfl, ⟨_, _, rfl, rfl, rfl⟩⟩ rfl ⟨rfl, rfl, rfl, rfl, trivial⟩ Try.underlying25 Try.sizeOf3 Try.zeroValue3 (by decide) (fill2 rfl rfl) (by simp) ?_
            intro o73 w74 v75 h76 s77 k78
            replace h56 := h56.stp s77 (by decide) (by decide)
            replace h57 := h57.stp s77 (by decide) (by decide)
            replace h8 := h8.stp s77 (by decide)
            replace h13 := h13.stp s77 (by decide)
            replace hB := hB.stp s77 (by decide)
            obtain ⟨x79, hx79, b68⟩ := bind_some b68
            refine st_op (by decide) trivial ?_
            refine wf_call (cS_prNode fuel w74 _ p0 (⟨_, _, rfl, (h2.keep hB.keeps), (h4.keep hB.keeps)⟩) _ ([y40, y59] : List Int) h76.z x79 hx79) Try.call115 ⟨rfl, rfl, trivial⟩ ?_
            rintro e84 w80 ⟨rfl, k81⟩
            have s83 := k81.stp 999 o73
            refine ⟨_, rfl, ?_⟩
            replace h56 := h56.stp s83 (by decide) (by decide)
            replace h57 := h57.stp s83 (by decide) (by decide)
            replace h76 := h76.stp s83 (by decide)
            replace h8 := h8.stp s83 (by decide)
            replace h13 := h13.stp s83 (by decide)
            replace hB := hB.stp s83 (by decide)
            refine wpF_end (r := [(1, (.pointer (some ⟨b7, 0, none⟩))), (2, (.pointer (some ⟨b12, 0, none⟩))), (5, v55), (6, (.int .i64 y40)), (7, (.int .i64 y59)), (38, (.bool x79))]) ⟨rfl, rfl, rfl, rfl, rfl, rfl, trivial⟩ ?_
            refine nx ?_
            refine wpC_cond rfl (fun t85 => ?_) (fun t85 => ?_)
            · rw [if_pos t85] at b68
              refine wpC_region ?_
              refine st_val (ex_move rfl) (by decide) trivial ?_
              refine st_val (ex_move rfl) (by decide) trivial ?_
              refine st_val (ex_move rfl) (by decide) trivial ?_
              refine st_op (by decide) trivial ?_
              refine wf_litW w.heap.size 17 hB.keeps.size (o := o73) (cs := [(.int .i64 y40), (.int .i64 y59)]) (xs := ([y40, y59] : List Int)) (vs := [(0, (.int .i64 y40)), (1, (.int .i64 y59))]) ⟨_, _, rfl, rfl, ⟨_, _, rfl, rfl, rfl⟩⟩ rfl ⟨rfl, rfl, rfl, rfl, trivial⟩ Try.underlying25 Try.sizeOf3 Try.zeroValue3 (by decide) (fill2 rfl rfl) (by simp) ?_
              intro o86 w87 v88 h89 s90
              replace h56 := h56.stp s90 (by decide) (by decide)
              replace h57 := h57.stp s90 (by decide) (by decide)
              replace h8 := h8.stp s90 (by decide)
              replace h13 := h13.stp s90 (by decide)
              replace hB := hB.stp s90 (by decide)
              refine st_op (by decide) trivial ?_
              refine wf_litR (o := o86) (cs := [v88]) (xs := ([⟨v88⟩] : List Hv)) (vs := [(0, v88)]) ⟨_, _, rfl, rd_hv h89, rfl⟩ rfl ⟨rfl, rfl, trivial⟩ Try.underlying22 Try.sizeOf25 Try.zeroValue25 (by decide) (fill1 h89.cells1) (by simp) ?_
              intro o91 w92 v93 h94 s95 k96
              replace h56 := h56.stp s95 (by decide) (by decide)
              replace h57 := h57.stp s95 (by decide) (by decide)
              replace h89 := h89.stp s95 (by decide) (by decide)
              replace h8 := h8.stp s95 (by decide)
              replace h13 := h13.stp s95 (by decide)
              replace hB := hB.stp s95 (by decide)
              obtain ⟨x97, hx97, b68⟩ := bind_some b68
              obtain ⟨h98, h99⟩ := h57.pushV hx97 v88
              refine st_op (by decide) trivial ?_
              refine wf_cat h56 h94 (push_cat h98) (by decide) hB.keeps.size rfl rfl Try.underlying22 info2_t_Lint_W rfl (by decide) ?_
              intro o100 w101 v102 h103 s104
              replace h57 := h57.stp s104 (by decide) (by decide)
              replace h89 := h89.stp s104 (by decide) (by decide)
              replace h8 := h8.stp s104 (by decide)
              replace h13 := h13.stp s104 (by decide)
              replace hB := hB.stp s104 (by decide)
              have h105 := h57.push h89 (by decide) (by decide)
              rw [← h99] at h105
              clear h57 h89
              have r106 := mrg_rc 17 15 o100
              replace h103 := h103.rc r106 (by decide) (by decide)
              replace h8 := h8.rc r106 (by decide)
              replace h13 := h13.rc r106 (by decide)
              replace hB := hB.rc r106 (by decide)
              generalize mrg 17 15 o100 = o107 at *
              refine st_val (ex_assign rfl) (by decide) trivial ?_
              refine wpF_end (r := [(1, (.pointer (some ⟨b7, 0, none⟩))), (2, (.pointer (some ⟨b12, 0, none⟩))), (5, v102), (6, (.int .i64 y40)), (7, (.int .i64 y59))]) ⟨rfl, rfl, rfl, rfl, rfl, trivial⟩ ?_
              refine nb_norm ?_
              refine nx ?_
              refine wpC_region ?_
              refine st_val (ex_move rfl) (by decide) trivial ?_
              obtain ⟨x108, hx108, b68⟩ := bind_some b68
              refine st_val (ex_add rfl rfl hx108) (by decide) trivial ?_
              refine st_val (ex_assign rfl) (by decide) trivial ?_
              refine wpF_end (r := [(1, (.pointer (some ⟨b7, 0, none⟩))), (2, (.pointer (some ⟨b12, 0, none⟩))), (5, v102), (6, (.int .i64 y40)), (7, (.int .i64 x108))]) ⟨rfl, rfl, rfl, rfl, rfl, trivial⟩ ?_
              refine nt_norm ?_
              have e109 := Option.some.inj b68
              subst e109
              refine to_k (r := [(1, (.pointer (some ⟨b7, 0, none⟩))), (2, (.pointer (some ⟨b12, 0, none⟩))), (5, v102), (6, (.int .i64 y40)), (7, (.int .i64 x108))]) ⟨rfl, rfl, rfl, rfl, rfl, trivial⟩ ?_
              intro a ha
              exact ⟨K70, by omega, x97, x108, v102, (g58 ++ [⟨v88⟩]), o107, n69, ha, hB, h103, h105, h8, h13⟩
            · rw [if_neg (by rw [t85]; decide)] at b68
              refine wpC_skip ?_
              refine nb_norm ?_
              refine nx ?_
              refine wpC_region ?_
              refine st_val (ex_move rfl) (by decide) trivial ?_
              obtain ⟨x110, hx110, b68⟩ := bind_some b68
              refine st_val (ex_add rfl rfl hx110) (by decide) trivial ?_
              refine st_val (ex_assign rfl) (by decide) trivial ?_
              refine wpF_end (r := [(1, (.pointer (some ⟨b7, 0, none⟩))), (2, (.pointer (some ⟨b12, 0, none⟩))), (5, v55), (6, (.int .i64 y40)), (7, (.int .i64 x110))]) ⟨rfl, rfl, rfl, rfl, rfl, trivial⟩ ?_
              refine nt_norm ?_
              have e111 := Option.some.inj b68
              subst e111
              refine to_k (r := [(1, (.pointer (some ⟨b7, 0, none⟩))), (2, (.pointer (some ⟨b12, 0, none⟩))), (5, v55), (6, (.int .i64 y40)), (7, (.int .i64 x110))]) ⟨rfl, rfl, rfl, rfl, rfl, trivial⟩ ?_
              intro a ha
              exact ⟨K70, by omega, y54, x110, v55, g58, o73, n69, ha, hB, h56, h57, h8, h13⟩
          · rw [if_neg (by rw [t72]; decide)] at b68
            refine wpC_exit ?_
            refine nt_exit ?_
            refine nt_exit ?_
            refine nb_hit ?_
            refine np_norm ?_
            have e112 := Option.some.inj b68
            subst e112
            refine to_k (r := [(1, (.pointer (some ⟨b7, 0, none⟩))), (2, (.pointer (some ⟨b12, 0, none⟩))), (5, v55), (6, (.int .i64 y40))]) ⟨rfl, rfl, rfl, rfl, trivial⟩ ?_
            intro a ha
            exact ⟨y54, y59, v55, g58, o60, n69, ha, hB, h56, h57, h8, h13⟩
        · rintro a w61 ⟨y54, y59, v55, g58, o60, rfl, ha, hB, h56, h57, h8, h13⟩
          dsimp only at b49
          refine ap_k ha ?_
          refine nb_norm ?_
          refine nx ?_
          refine wpC_region ?_
          refine st_val (ex_move rfl) (by decide) trivial ?_
          obtain ⟨x113, hx113, b49⟩ := bind_some b49
          refine st_val (ex_add rfl rfl hx113) (by decide) trivial ?_
          refine st_val (ex_assign rfl) (by decide) trivial ?_
          refine wpF_end (r := [(1, (.pointer (some ⟨b7, 0, none⟩))), (2, (.pointer (some ⟨b12, 0, none⟩))), (5, v55), (6, (.int .i64 x113))]) ⟨rfl, rfl, rfl, rfl, trivial⟩ ?_
          refine nt_norm ?_
          have e114 := Option.some.inj b49
          subst e114
          refine to_k (r := [(1, (.pointer (some ⟨b7, 0, none⟩))), (2, (.pointer (some ⟨b12, 0, none⟩))), (5, v55), (6, (.int .i64 x113))]) ⟨rfl, rfl, rfl, rfl, trivial⟩ ?_
          intro a ha
          exact ⟨K51, by omega, y54, x113, v55, g58, o60, n50, ha, hB, h56, h57, h8, h13⟩
        · exact fun _ _ h => h.elim
      · rw [if_neg (by rw [t53]; decide)] at b49
        refine wpC_exit ?_
        refine nt_exit ?_
        refine nt_exit ?_
        refine nb_hit ?_
        refine np_norm ?_
        have e115 := Option.some.inj b49
        subst e115
        refine to_k (r := [(1, (.pointer (some ⟨b7, 0, none⟩))), (2, (.pointer (some ⟨b12, 0, none⟩))), (5, v36)]) ⟨rfl, rfl, rfl, trivial⟩ ?_
        intro a ha
        exact ⟨y35, y40, v36, g39, o41, n50, ha, hB, h37, h38, h8, h13⟩
    · rintro a w42 ⟨y35, y40, v36, g39, o41, rfl, ha, hB, h37, h38, h8, h13⟩
      dsimp only at hF
      refine ap_k ha ?_
      refine nx ?_
      refine wpC_seq ?_
      refine wpC_seq ?_
      refine wpC_region ?_
      refine st_val (ex_move rfl) (by decide) trivial ?_
      refine st_val (ex_lenR rfl (h38.z h37) Try.underlying22) (by decide) trivial ?_
      obtain ⟨x116, hx116, hF⟩ := bind_some hF
      refine st_op (by decide) trivial ?_
      refine wf_call (cS_l1In w42 (y35.length : Int) 1 12 x116 hx116) Try.call100 ⟨rfl, rfl, rfl, trivial⟩ ?_
      rintro e121 w117 ⟨rfl, k118⟩
      have s120 := k118.stp 999 o41
      refine ⟨_, rfl, ?_⟩
      replace h37 := h37.stp s120 (by decide) (by decide)
      replace h38 := h38.stp s120 (by decide) (by decide)
      replace h8 := h8.stp s120 (by decide)
      replace h13 := h13.stp s120 (by decide)
      replace hB := hB.stp s120 (by decide)
      refine st_val (ex_not rfl) (by decide) trivial ?_
      refine wpF_end (r := [(1, (.pointer (some ⟨b7, 0, none⟩))), (2, (.pointer (some ⟨b12, 0, none⟩))), (5, v36), (48, (.bool (!x116)))]) ⟨rfl, rfl, rfl, rfl, trivial⟩ ?_
      refine nx ?_
      refine wpC_cond rfl (fun t122 => ?_) (fun t122 => ?_)
      · rw [if_pos t122] at hF
        refine wpC_seq ?_
        refine wpC_region ?_
        refine st_val (ex_build (vs := []) (cs := [(.int .i64 0), (.slice none 0 0)]) trivial (by kernel_rfl)) (by decide) trivial ?_
        refine st_op0 trivial ?_
        refine wf_storeA h13 rfl rfl rfl info1_t_impl_WalkProblem_W (by intro c hc; simp only [List.mem_cons, List.not_mem_nil, or_false] at hc; rcases hc with rfl | rfl <;> first | rfl) ?_
        intro w123 h125 s124
        replace h37 := h37.stp s124 (by decide) (by decide)
        replace h38 := h38.stp s124 (by decide) (by decide)
        replace h8 := h8.stp s124 (by decide)
        replace hB := hB.stp s124 (by decide)
        refine st_val (ex_assign rfl) (by decide) trivial ?_
        refine st_val (ex_assign rfl) (by decide) trivial ?_
        refine wpF_end (r := [(2, (.pointer (some ⟨b12, 0, none⟩))), (3, (.slice none 0 0)), (4, (.bool false))]) ⟨rfl, rfl, rfl, trivial⟩ ?_
        refine nx ?_
        refine wpC_ret ?_
        refine nt_ret ?_
        have e126 := Option.some.inj hF
        subst e126
        refine ret_post (P := Try.prog) (vs := [(.agg #[(.int .i64 0), (.slice none 0 0)]), (.slice none 0 0), (.bool false)]) Try.results61 ⟨⟨_, rfl, run_loadA Try.isAgg74 Try.sizeOf74 rfl h125.cells⟩, rfl, rfl, trivial⟩ ?_
        exact ⟨[(.int .i64 0), (.slice none 0 0)], _, [], rt2 oo o41 w.heap.size 9 8 t, rfl, ⟨_, rfl, RdL.nil _ _⟩, (Dz.nil _ _ _ _), (Ow.nil _ _ _ _ _), (Rws.nil _ _ _ _ _), hB.keeps, rt2_old _ _ _ _ _ _⟩
      · rw [if_neg (by rw [t122]; decide)] at hF
        refine wpC_skip ?_
        refine nx ?_
        refine wpC_seq ?_
        refine wpC_region ?_
        refine st_val (ex_move rfl) (by decide) trivial ?_
        refine st_val (ex_lenR rfl (h38.z h37) Try.underlying22) (by decide) trivial ?_
        refine st_val (ex_build (vs := [(0, (.int .i64 (y35.length : Int)))]) (cs := [(.int .i64 (y35.length : Int)), (.slice none 0 0)]) ⟨rfl, rfl, trivial⟩ (by kernel_rfl)) (by decide) trivial ?_
        refine st_op (by decide) trivial ?_
        refine wf_alloc (o := o41) w.heap.size 19 hB.keeps.size (cs := [(.int .i64 0), (.slice none 0 0)]) Try.zeroValue74 rfl ?_
        intro o127 w128 b129 h130 s131
        replace h37 := h37.stp s131 (by decide) (by decide)
        replace h38 := h38.stp s131 (by decide) (by decide)
        replace h8 := h8.stp s131 (by decide)
        replace h13 := h13.stp s131 (by decide)
        replace hB := hB.stp s131 (by decide)
        refine st_op0 trivial ?_
        refine wf_storeA h130 rfl rfl rfl info1_t_impl_WalkProblem_W (by intro c hc; simp only [List.mem_cons, List.not_mem_nil, or_false] at hc; rcases hc with rfl | rfl <;> first | rfl) ?_
        intro w132 h134 s133
        replace h37 := h37.stp s133 (by decide) (by decide)
        replace h38 := h38.stp s133 (by decide) (by decide)
        replace h8 := h8.stp s133 (by decide)
        replace h13 := h13.stp s133 (by decide)
        replace hB := hB.stp s133 (by decide)
        refine wpF_end (r := [(1, (.pointer (some ⟨b7, 0, none⟩))), (2, (.pointer (some ⟨b12, 0, none⟩))), (5, v36), (8, (.pointer (some ⟨b129, 0, none⟩)))]) ⟨rfl, rfl, rfl, rfl, trivial⟩ ?_
        refine nx ?_
        refine wpC_seq ?_
        refine wpC_seq ?_
        refine wpC_region ?_
        refine st_val (ex_move rfl) (by decide) trivial ?_
        refine st_val (ex_lenR rfl (h38.z h37) Try.underlying22) (by decide) trivial ?_
        refine st_val (ex_move rfl) (by decide) trivial ?_
        refine wpF_end (r := [(1, (.pointer (some ⟨b7, 0, none⟩))), (2, (.pointer (some ⟨b12, 0, none⟩))), (5, v36), (8, (.pointer (some ⟨b129, 0, none⟩))), (53, v36), (54, (.int .i64 (y35.length : Int))), (55, (.int .i64 0))]) ⟨rfl, rfl, rfl, rfl, rfl, rfl, rfl, trivial⟩ ?_
        refine nx ?_
        have h135 : Ow w.heap.size 25 20 o127 w132 (.slice none 0 0) ([] : List Hv) := Ow.nil _ _ _ _ _
        have h136 : Rws w.heap.size 3 21 o127 w132 [] ([] : List (List Int)) := Rws.nil _ _ _ _ _
        obtain ⟨q145, hq145, hF⟩ := bind_some hF
        refine wpC_cutN (fun a w143 => ∃ (y137 : List (List Int)) (v138 : Value) (g141 : List Hv) (o142 : Tg), q145 = .inl y137 ∧ Fr a 87 [(2, (.pointer (some ⟨b12, 0, none⟩))), (5, v36), (8, (.pointer (some ⟨b129, 0, none⟩)))] ∧ Bs oo o142 w w143 ∧ Ow w.heap.size 25 14 o142 w143 v36 g39 ∧ Rws w.heap.size 3 15 o142 w143 g39 y35 ∧ Bx w.heap.size 12 o142 w143 b12 74 [(.int .i64 0), (.slice none 0 0)] ∧ Bx w.heap.size 19 o142 w143 b129 74 [(.int .i64 (y35.length : Int)), v138] ∧ Ow w.heap.size 25 20 o142 w143 v138 g141 ∧ Rws w.heap.size 3 21 o142 w143 g141 y137) (fun _ _ => False) ?_ ?_ ?_
        · refine wpC_block ?_
          refine wpC_loop (fun (K : Nat) a w143 => ∃ (i144 : Int) (y137 : List (List Int)) (v138 : Value) (g141 : List Hv) (o142 : Tg), forI (fS_WalkOfProblem_s3 p0 y35) (y35.drop i144.toNat) i144 y137 = some q145 ∧ (y35.drop i144.toNat).length = K ∧ 0 ≤ i144 ∧ Fr a 87 [(1, (.pointer (some ⟨b7, 0, none⟩))), (2, (.pointer (some ⟨b12, 0, none⟩))), (5, v36), (8, (.pointer (some ⟨b129, 0, none⟩))), (53, v36), (54, (.int .i64 (y35.length : Int))), (55, (.int .i64 i144))] ∧ Bs oo o142 w w143 ∧ Ow w.heap.size 25 14 o142 w143 v36 g39 ∧ Rws w.heap.size 3 15 o142 w143 g39 y35 ∧ Bx w.heap.size 11 o142 w143 b7 29 [(.int .i64 p0.Labels), (.int .i64 p0.Degree), v1, v3] ∧ Bx w.heap.size 12 o142 w143 b12 74 [(.int .i64 0), (.slice none 0 0)] ∧ Bx w.heap.size 19 o142 w143 b129 74 [(.int .i64 (y35.length : Int)), v138] ∧ Ow w.heap.size 25 20 o142 w143 v138 g141 ∧ Rws w.heap.size 3 21 o142 w143 g141 y137) _ (fun a ha => ⟨0, [], (.slice none 0 0), [], o127, hq145, rfl, Int.le_refl 0, ha.sub (r := [(1, (.pointer (some ⟨b7, 0, none⟩))), (2, (.pointer (some ⟨b12, 0, none⟩))), (5, v36), (8, (.pointer (some ⟨b129, 0, none⟩))), (53, v36), (54, (.int .i64 (y35.length : Int))), (55, (.int .i64 0))]) ⟨rfl, rfl, rfl, rfl, rfl, rfl, rfl, trivial⟩, hB, h37, h38, h8, h13, h134, h135, h136⟩) ?_
          rintro K149 a w143 ⟨i144, y137, v138, g141, o142, l146, m148, z147, ha, hB, h37, h38, h8, h13, h134, h139, h140⟩
          by_cases t153 : i144 < (y35.length : Int)
          · obtain ⟨x154, q150, hx154, b151, n152⟩ := forI_cons z147 t153 l146
            have hle := (h38.z h37).len_le
            dsimp only [fS_WalkOfProblem_s3] at b151
            refine wp_of ha ?_
            refine wpC_seq ?_
            refine wpC_region ?_
            refine st_val (ex_lss rfl rfl) (by decide) trivial ?_
            refine wpF_end (r := [(1, (.pointer (some ⟨b7, 0, none⟩))), (2, (.pointer (some ⟨b12, 0, none⟩))), (5, v36), (8, (.pointer (some ⟨b129, 0, none⟩))), (53, v36), (54, (.int .i64 (y35.length : Int))), (55, (.int .i64 i144)), (56, (.bool (decide (i144 < (y35.length : Int)))))]) ⟨rfl, rfl, rfl, rfl, rfl, rfl, rfl, rfl, trivial⟩ ?_
            refine nx ?_
            refine wpC_seq ?_
            refine wpC_true (congrArg (fun b => some (Value.bool b)) (decide_eq_true t153)) ?_
            refine wpC_skip ?_
            refine nx ?_
            refine wpC_seq ?_
            refine wpC_block ?_
            refine wpC_seq ?_
            refine wpC_region ?_
            refine st_val (ex_move rfl) (by decide) trivial ?_
            obtain ⟨v155, h156, h157, h158⟩ := h38.ix hx154
            refine st_op (by decide) trivial ?_
            refine wf_atW h37 h156 rfl rfl Try.underlying22 Try.sizeOf25 ?_
            intro b159 f160 c161 h162 h163
            obtain ⟨rfl, -⟩ := h163
            refine st_val (ex_load1 rfl Try.isAgg25 (cell_of_cells h162)) (by decide) trivial ?_
            refine st_val (ex_assign rfl) (by decide) trivial ?_
            refine st_val (ex_assign rfl) (by decide) trivial ?_
            refine wpF_end (r := [(1, (.pointer (some ⟨b7, 0, none⟩))), (2, (.pointer (some ⟨b12, 0, none⟩))), (5, v36), (8, (.pointer (some ⟨b129, 0, none⟩))), (9, (.int .i64 i144)), (10, v155), (53, v36), (54, (.int .i64 (y35.length : Int))), (55, (.int .i64 i144))]) ⟨rfl, rfl, rfl, rfl, rfl, rfl, rfl, rfl, rfl, trivial⟩ ?_
            refine nx ?_
            refine wpC_seq ?_
            refine wpC_region ?_
            refine st_val (ex_move rfl) (by decide) trivial ?_
            refine st_val (ex_lenR rfl (h38.z h37) Try.underlying22) (by decide) trivial ?_
            refine st_val (ex_move rfl) (by decide) trivial ?_
            refine wpF_end (r := [(1, (.pointer (some ⟨b7, 0, none⟩))), (2, (.pointer (some ⟨b12, 0, none⟩))), (5, v36), (8, (.pointer (some ⟨b129, 0, none⟩))), (9, (.int .i64 i144)), (10, v155), (53, v36), (54, (.int .i64 (y35.length : Int))), (55, (.int .i64 i144)), (60, v36), (61, (.int .i64 (y35.length : Int))), (62, (.int .i64 0))]) ⟨rfl, rfl, rfl, rfl, rfl, rfl, rfl, rfl, rfl, rfl, rfl, rfl, trivial⟩ ?_
            refine nx ?_
            obtain ⟨q172, hq172, b151⟩ := bind_some b151
            refine wpC_cutN (fun a w170 => ∃ (y164 : List (List Int)) (v165 : Value) (g168 : List Hv) (o169 : Tg), q172 = .inl y164 ∧ Fr a 87 [(1, (.pointer (some ⟨b7, 0, none⟩))), (2, (.pointer (some ⟨b12, 0, none⟩))), (5, v36), (8, (.pointer (some ⟨b129, 0, none⟩))), (53, v36), (54, (.int .i64 (y35.length : Int))), (55, (.int .i64 i144))] ∧ Bs oo o169 w w170 ∧ Ow w.heap.size 25 14 o169 w170 v36 g39 ∧ Rws w.heap.size 3 15 o169 w170 g39 y35 ∧ Bx w.heap.size 11 o169 w170 b7 29 [(.int .i64 p0.Labels), (.int .i64 p0.Degree), v1, v3] ∧ Bx w.heap.size 12 o169 w170 b12 74 [(.int .i64 0), (.slice none 0 0)] ∧ Bx w.heap.size 19 o169 w170 b129 74 [(.int .i64 (y35.length : Int)), v165] ∧ Ow w.heap.size 25 20 o169 w170 v165 g168 ∧ Rws w.heap.size 3 21 o169 w170 g168 y164) (fun _ _ => False) ?_ ?_ ?_
            · refine wpC_block ?_
              refine wpC_loop (fun (K : Nat) a w170 => ∃ (i171 : Int) (y164 : List (List Int)) (v165 : Value) (g168 : List Hv) (o169 : Tg), forI (fS_WalkOfProblem_s4 p0 i144 x154) (y35.drop i171.toNat) i171 y164 = some q172 ∧ (y35.drop i171.toNat).length = K ∧ 0 ≤ i171 ∧ Fr a 87 [(1, (.pointer (some ⟨b7, 0, none⟩))), (2, (.pointer (some ⟨b12, 0, none⟩))), (5, v36), (8, (.pointer (some ⟨b129, 0, none⟩))), (9, (.int .i64 i144)), (10, v155), (53, v36), (54, (.int .i64 (y35.length : Int))), (55, (.int .i64 i144)), (60, v36), (61, (.int .i64 (y35.length : Int))), (62, (.int .i64 i171))] ∧ Bs oo o169 w w170 ∧ Ow w.heap.size 25 14 o169 w170 v36 g39 ∧ Rws w.heap.size 3 15 o169 w170 g39 y35 ∧ Bx w.heap.size 11 o169 w170 b7 29 [(.int .i64 p0.Labels), (.int .i64 p0.Degree), v1, v3] ∧ Bx w.heap.size 12 o169 w170 b12 74 [(.int .i64 0), (.slice none 0 0)] ∧ Bx w.heap.size 19 o169 w170 b129 74 [(.int .i64 (y35.length : Int)), v165] ∧ Ow w.heap.size 25 20 o169 w170 v165 g168 ∧ Rws w.heap.size 3 21 o169 w170 g168 y164) _ (fun a ha => ⟨0, y137, v138, g141, o142, hq172, rfl, Int.le_refl 0, ha.sub (r := [(1, (.pointer (some ⟨b7, 0, none⟩))), (2, (.pointer (some ⟨b12, 0, none⟩))), (5, v36), (8, (.pointer (some ⟨b129, 0, none⟩))), (9, (.int .i64 i144)), (10, v155), (53, v36), (54, (.int .i64 (y35.length : Int))), (55, (.int .i64 i144)), (60, v36), (61, (.int .i64 (y35.length : Int))), (62, (.int .i64 0))]) ⟨rfl, rfl, rfl, rfl, rfl, rfl, rfl, rfl, rfl, rfl, rfl, rfl, trivial⟩, hB, h37, h38, h8, h13, h134, h139, h140⟩) ?_
              rintro K176 a w170 ⟨i171, y164, v165, g168, o169, l173, m175, z174, ha, hB, h37, h38, h8, h13, h134, h166, h167⟩
              by_cases t180 : i171 < (y35.length : Int)
              · obtain ⟨x181, q177, hx181, b178, n179⟩ := forI_cons z174 t180 l173
                have hle := (h38.z h37).len_le
                dsimp only [fS_WalkOfProblem_s4] at b178
                refine wp_of ha ?_
                refine wpC_seq ?_
                refine wpC_region ?_
                refine st_val (ex_lss rfl rfl) (by decide) trivial ?_
                refine wpF_end (r := [(1, (.pointer (some ⟨b7, 0, none⟩))), (2, (.pointer (some ⟨b12, 0, none⟩))), (5, v36), (8, (.pointer (some ⟨b129, 0, none⟩))), (9, (.int .i64 i144)), (10, v155), (53, v36), (54, (.int .i64 (y35.length : Int))), (55, (.int .i64 i144)), (60, v36), (61, (.int .i64 (y35.length : Int))), (62, (.int .i64 i171)), (63, (.bool (decide (i171 < (y35.length : Int)))))]) ⟨rfl, rfl, rfl, rfl, rfl, rfl, rfl, rfl, rfl, rfl, rfl, rfl, rfl, trivial⟩ ?_
                refine nx ?_
                refine wpC_seq ?_
                refine wpC_true (congrArg (fun b => some (Value.bool b)) (decide_eq_true t180)) ?_
                refine wpC_skip ?_
                refine nx ?_
                refine wpC_seq ?_
                refine wpC_block ?_
                refine wpC_seq ?_
                refine wpC_region ?_
                refine st_val (ex_move rfl) (by decide) trivial ?_
                obtain ⟨v182, h183, h184, h185⟩ := h38.ix hx181
                refine st_op (by decide) trivial ?_
                refine wf_atW h37 h183 rfl rfl Try.underlying22 Try.sizeOf25 ?_
                intro b186 f187 c188 h189 h190
                obtain ⟨rfl, -⟩ := h190
                refine st_val (ex_load1 rfl Try.isAgg25 (cell_of_cells h189)) (by decide) trivial ?_
                refine st_val (ex_assign rfl) (by decide) trivial ?_
                refine st_val (ex_assign rfl) (by decide) trivial ?_
                refine wpF_end (r := [(1, (.pointer (some ⟨b7, 0, none⟩))), (2, (.pointer (some ⟨b12, 0, none⟩))), (5, v36), (8, (.pointer (some ⟨b129, 0, none⟩))), (9, (.int .i64 i144)), (10, v155), (11, (.int .i64 i171)), (12, v182), (53, v36), (54, (.int .i64 (y35.length : Int))), (55, (.int .i64 i144)), (60, v36), (61, (.int .i64 (y35.length : Int))), (62, (.int .i64 i171))]) ⟨rfl, rfl, rfl, rfl, rfl, rfl, rfl, rfl, rfl, rfl, rfl, rfl, rfl, rfl, trivial⟩ ?_
                refine nx ?_
                refine wpC_seq ?_
                obtain ⟨x191, hx191, b178⟩ := bind_some b178
                obtain ⟨x194, hx194, b178⟩ := bind_some b178
                refine wpC_drawn (o := o169) [(1, (.pointer (some ⟨b7, 0, none⟩))), (2, (.pointer (some ⟨b12, 0, none⟩))), (5, v36), (8, (.pointer (some ⟨b129, 0, none⟩))), (9, (.int .i64 i144)), (10, v155), (11, (.int .i64 i171)), (12, v182), (53, v36), (54, (.int .i64 (y35.length : Int))), (55, (.int .i64 i144)), (60, v36), (61, (.int .i64 (y35.length : Int))), (62, (.int .i64 i171))] [1, 2, 5, 8, 9, 10, 11, 12, 53, 54, 55, 60, 61, 62] [67, 68, 69, 70, 71, 72, 73] [[], [], [1], [2], [], [4], [5]] [none, none, none, none, none, none, none] [999, 999, 999, 999, 999, 999, 999] [0, 0, 15, 0, 0, 15, 0] [999] [fun v _ _ => v = (.agg #[(.int .i64 p0.Labels), (.int .i64 p0.Degree), v1, v3]), fun v _ _ => v = v155, fun v o w9 => ∃ vl, v = adr vl ((0 : Int).toNat * Rp.sz Int) ∧ Ow w.heap.size 3 15 o w9 vl x154, fun v _ _ => v = (.int .i64 x191), fun v _ _ => v = v182, fun v o w9 => ∃ vl, v = adr vl ((1 : Int).toNat * Rp.sz Int) ∧ Ow w.heap.size 3 15 o w9 vl x181, fun v _ _ => v = (.int .i64 x194)] (fun o8 w8 => Bs oo o8 w w8 ∧ Ow w.heap.size 25 14 o8 w8 v36 g39 ∧ Rws w.heap.size 3 15 o8 w8 g39 y35 ∧ Bx w.heap.size 11 o8 w8 b7 29 [(.int .i64 p0.Labels), (.int .i64 p0.Degree), v1, v3] ∧ Bx w.heap.size 12 o8 w8 b12 74 [(.int .i64 0), (.slice none 0 0)] ∧ Bx w.heap.size 19 o8 w8 b129 74 [(.int .i64 (y35.length : Int)), v165] ∧ Ow w.heap.size 25 20 o8 w8 v165 g168 ∧ Rws w.heap.size 3 21 o8 w8 g168 y164) follows_mixed (by kernel_rfl) rfl ⟨rfl, rfl, rfl, rfl, rfl, rfl, rfl, rfl, rfl, rfl, rfl, rfl, rfl, rfl, trivial⟩ ⟨hB, h37, h38, h8, h13, h134, h166, h167⟩ ?_ ⟨st_eq _, st_eq _, fun _ _ _ _ _ _ h0 hb ⟨vl, e, h⟩ hs => ⟨vl, e, h.stp hs h0.1 (Ne.symm hb)⟩, st_eq _, st_eq _, fun _ _ _ _ _ _ h0 hb ⟨vl, e, h⟩ hs => ⟨vl, e, h.stp hs h0.1 (Ne.symm hb)⟩, st_eq _, trivial⟩ ?_ ?_
                · rintro t9 o1 w1 o2 w2 ht9 ⟨hB, h37, h38, h8, h13, h134, h166, h167⟩ hs9
                  have ht9 : t9 = 999 := by simpa using ht9
                  subst ht9
                  all_goals exact ⟨hB.stp hs9 (by decide), h37.stp hs9 (by decide) (by decide), h38.stp hs9 (by decide) (by decide), h8.stp hs9 (by decide), h13.stp hs9 (by decide), h134.stp hs9 (by decide), h166.stp hs9 (by decide) (by decide), h167.stp hs9 (by decide) (by decide)⟩
                · refine ⟨?_, ?_, ?_, ?_, ?_, ?_, ?_, trivial⟩
                  · rintro o197 w198 a199 ha ⟨hB, h37, h38, h8, h13, h134, h166, h167⟩ -
                    refine opS_of ha (trivial) ?_
                    refine op1_val (ex_loadA rfl Try.isAgg29 Try.sizeOf29 rfl h8.cells) ?_
                    exact ⟨_, Stp.refl _ _ _, rfl⟩
                  · rintro o200 w201 a202 ha ⟨hB, h37, h38, h8, h13, h134, h166, h167⟩ -
                    refine opS_of ha (trivial) ?_
                    refine op1_val (ex_move rfl) ?_
                    exact ⟨_, Stp.refl _ _ _, rfl⟩
                  · rintro o203 w204 a205 ha ⟨hB, h37, h38, h8, h13, h134, h166, h167⟩ ⟨r206, -⟩
                    have ha := Fr.cons (d := 68) ha r206
                    refine opS_of ha (trivial) ?_
                    refine wd_indexW (h38.at h157 h158) hx191 rfl rfl Try.underlying25 Try.sizeOf3 ?_
                    exact ⟨_, Stp.refl _ _ _, ⟨_, rfl, (h38.at h157 h158)⟩⟩
                  · rintro o207 w208 a209 ha ⟨hB, h37, h38, h8, h13, h134, h166, h167⟩ ⟨r210, -⟩
                    obtain ⟨v211, e212, h213⟩ := r210
                    have ha := Fr.cons (d := 69) ha e212
                    refine opS_of ha (trivial) ?_
                    refine wd_load1W h213 hx191 rfl rfl Try.isAgg3 ?_
                    intro c214 h215
                    cases h215
                    exact ⟨_, Stp.refl _ _ _, rfl⟩
                  · rintro o216 w217 a218 ha ⟨hB, h37, h38, h8, h13, h134, h166, h167⟩ -
                    refine opS_of ha (trivial) ?_
                    refine op1_val (ex_move rfl) ?_
                    exact ⟨_, Stp.refl _ _ _, rfl⟩
                  · rintro o219 w220 a221 ha ⟨hB, h37, h38, h8, h13, h134, h166, h167⟩ ⟨r222, -⟩
                    have ha := Fr.cons (d := 71) ha r222
                    refine opS_of ha (trivial) ?_
                    refine wd_indexW (h38.at h184 h185) hx194 rfl rfl Try.underlying25 Try.sizeOf3 ?_
                    exact ⟨_, Stp.refl _ _ _, ⟨_, rfl, (h38.at h184 h185)⟩⟩
                  · rintro o223 w224 a225 ha ⟨hB, h37, h38, h8, h13, h134, h166, h167⟩ ⟨r226, -⟩
                    obtain ⟨v227, e228, h229⟩ := r226
                    have ha := Fr.cons (d := 72) ha e228
                    refine opS_of ha (trivial) ?_
                    refine wd_load1W h229 hx194 rfl rfl Try.isAgg3 ?_
                    intro c230 h231
                    cases h231
                    exact ⟨_, Stp.refl _ _ _, rfl⟩
                rintro o232 w233 a234 ha ⟨hB, h37, h38, h8, h13, h134, h166, h167⟩ ⟨r235, -, -, r236, -, -, r237, -⟩
                have ha := Fr.cons (d := 67) ha r235
                have ha := Fr.cons (d := 70) ha r236
                have ha := Fr.cons (d := 73) ha r237
                refine wl_of ha ?_
                simp only [List.length_cons, List.length_nil, Nat.zero_add, Nat.reduceAdd, List.drop_succ_cons, List.drop_zero]
                obtain ⟨x238, hx238, b178⟩ := bind_some b178
                refine st_op (by decide) trivial ?_
                refine wf_call (cS_prEdge w233 _ p0 (⟨_, _, rfl, (h2.keep hB.keeps), (h4.keep hB.keeps)⟩) x191 x194 x238 hx238) Try.call116 ⟨rfl, rfl, rfl, trivial⟩ ?_
                rintro e243 w239 ⟨rfl, k240⟩
                have s242 := k240.stp 999 o232
                refine ⟨_, rfl, ?_⟩
                replace h37 := h37.stp s242 (by decide) (by decide)
                replace h38 := h38.stp s242 (by decide) (by decide)
                replace h8 := h8.stp s242 (by decide)
                replace h13 := h13.stp s242 (by decide)
                replace h134 := h134.stp s242 (by decide)
                replace h166 := h166.stp s242 (by decide) (by decide)
                replace h167 := h167.stp s242 (by decide) (by decide)
                replace hB := hB.stp s242 (by decide)
                refine wpF_end (r := [(1, (.pointer (some ⟨b7, 0, none⟩))), (2, (.pointer (some ⟨b12, 0, none⟩))), (5, v36), (8, (.pointer (some ⟨b129, 0, none⟩))), (9, (.int .i64 i144)), (10, v155), (11, (.int .i64 i171)), (53, v36), (54, (.int .i64 (y35.length : Int))), (55, (.int .i64 i144)), (60, v36), (61, (.int .i64 (y35.length : Int))), (62, (.int .i64 i171)), (74, (.bool x238))]) ⟨rfl, rfl, rfl, rfl, rfl, rfl, rfl, rfl, rfl, rfl, rfl, rfl, rfl, rfl, trivial⟩ ?_
                refine nx ?_
                refine wpC_cond rfl (fun t244 => ?_) (fun t244 => ?_)
                · rw [if_pos t244] at b178
                  refine wpC_region ?_
                  refine st_val (ex_field rfl Try.underlying74 rfl Try.sizeOf22) (by decide) trivial ?_
                  refine st_val (ex_load1 rfl Try.isAgg22 (h134.cell rfl)) (by decide) trivial ?_
                  refine st_val (ex_move rfl) (by decide) trivial ?_
                  refine st_val (ex_move rfl) (by decide) trivial ?_
                  refine st_op (by decide) trivial ?_
                  refine wf_litW w.heap.size 23 hB.keeps.size (o := o232) (cs := [(.int .i64 i144), (.int .i64 i171)]) (xs := ([i144, i171] : List Int)) (vs := [(0, (.int .i64 i144)), (1, (.int .i64 i171))]) ⟨_, _, rfl, rfl, ⟨_, _, rfl, rfl, rfl⟩⟩ rfl ⟨rfl, rfl, rfl, rfl, trivial⟩ Try.underlying25 Try.sizeOf3 Try.zeroValue3 (by decide) (fill2 rfl rfl) (by simp) ?_
                  intro o245 w246 v247 h248 s249
                  replace h37 := h37.stp s249 (by decide) (by decide)
                  replace h38 := h38.stp s249 (by decide) (by decide)
                  replace h166 := h166.stp s249 (by decide) (by decide)
                  replace h167 := h167.stp s249 (by decide) (by decide)
                  replace h8 := h8.stp s249 (by decide)
                  replace h13 := h13.stp s249 (by decide)
                  replace h134 := h134.stp s249 (by decide)
                  replace hB := hB.stp s249 (by decide)
                  refine st_op (by decide) trivial ?_
                  refine wf_litR (o := o245) (cs := [v247]) (xs := ([⟨v247⟩] : List Hv)) (vs := [(0, v247)]) ⟨_, _, rfl, rd_hv h248, rfl⟩ rfl ⟨rfl, rfl, trivial⟩ Try.underlying22 Try.sizeOf25 Try.zeroValue25 (by decide) (fill1 h248.cells1) (by simp) ?_
                  intro o250 w251 v252 h253 s254 k255
                  replace h37 := h37.stp s254 (by decide) (by decide)
                  replace h38 := h38.stp s254 (by decide) (by decide)
                  replace h166 := h166.stp s254 (by decide) (by decide)
                  replace h167 := h167.stp s254 (by decide) (by decide)
                  replace h248 := h248.stp s254 (by decide) (by decide)
                  replace h8 := h8.stp s254 (by decide)
                  replace h13 := h13.stp s254 (by decide)
                  replace h134 := h134.stp s254 (by decide)
                  replace hB := hB.stp s254 (by decide)
                  obtain ⟨x256, hx256, b178⟩ := bind_some b178
                  obtain ⟨h257, h258⟩ := h167.pushV hx256 v247
                  refine st_op (by decide) trivial ?_
                  refine wf_cat h166 h253 (push_cat h257) (by decide) hB.keeps.size rfl rfl Try.underlying22 info2_t_Lint_W rfl (by decide) ?_
                  intro o259 w260 v261 h262 s263
                  replace h37 := h37.stp s263 (by decide) (by decide)
                  replace h38 := h38.stp s263 (by decide) (by decide)
                  replace h167 := h167.stp s263 (by decide) (by decide)
                  replace h248 := h248.stp s263 (by decide) (by decide)
                  replace h8 := h8.stp s263 (by decide)
                  replace h13 := h13.stp s263 (by decide)
                  replace h134 := h134.stp s263 (by decide)
                  replace hB := hB.stp s263 (by decide)
                  have h264 := h167.push h248 (by decide) (by decide)
                  rw [← h258] at h264
                  clear h167 h248
                  have r265 := mrg_rc 23 21 o259
                  replace h37 := h37.rc r265 (by decide) (by decide)
                  replace h38 := h38.rc r265 (by decide) (by decide)
                  replace h262 := h262.rc r265 (by decide) (by decide)
                  replace h8 := h8.rc r265 (by decide)
                  replace h13 := h13.rc r265 (by decide)
                  replace h134 := h134.rc r265 (by decide)
                  replace hB := hB.rc r265 (by decide)
                  generalize mrg 23 21 o259 = o266 at *
                  refine st_val (ex_field rfl Try.underlying74 rfl Try.sizeOf22) (by decide) trivial ?_
                  refine st_op0 trivial ?_
                  refine wf_storeB h134 rfl rfl (of_decide_eq_true rfl) Try.sizeOf22 h262.cells1 h262.one1 ?_
                  intro w267 h269 s268
                  replace h37 := h37.stp s268 (by decide) (by decide)
                  replace h38 := h38.stp s268 (by decide) (by decide)
                  replace h262 := h262.stp s268 (by decide) (by decide)
                  replace h264 := h264.stp s268 (by decide) (by decide)
                  replace h8 := h8.stp s268 (by decide)
                  replace h13 := h13.stp s268 (by decide)
                  replace hB := hB.stp s268 (by decide)
                  replace h269 : Bx w.heap.size 19 o266 w267 b129 74 [(.int .i64 (y35.length : Int)), v261] := h269
                  refine wpF_end (r := [(1, (.pointer (some ⟨b7, 0, none⟩))), (2, (.pointer (some ⟨b12, 0, none⟩))), (5, v36), (8, (.pointer (some ⟨b129, 0, none⟩))), (9, (.int .i64 i144)), (10, v155), (53, v36), (54, (.int .i64 (y35.length : Int))), (55, (.int .i64 i144)), (60, v36), (61, (.int .i64 (y35.length : Int))), (62, (.int .i64 i171))]) ⟨rfl, rfl, rfl, rfl, rfl, rfl, rfl, rfl, rfl, rfl, rfl, rfl, trivial⟩ ?_
                  refine nb_norm ?_
                  refine nx ?_
                  refine wpC_region ?_
                  refine st_val (ex_add rfl rfl (ck_in (by omega) (by omega))) (by decide) trivial ?_
                  refine st_val (ex_move rfl) (by decide) trivial ?_
                  refine wpF_end (r := [(1, (.pointer (some ⟨b7, 0, none⟩))), (2, (.pointer (some ⟨b12, 0, none⟩))), (5, v36), (8, (.pointer (some ⟨b129, 0, none⟩))), (9, (.int .i64 i144)), (10, v155), (53, v36), (54, (.int .i64 (y35.length : Int))), (55, (.int .i64 i144)), (60, v36), (61, (.int .i64 (y35.length : Int))), (62, (.int .i64 (i171 + 1)))]) ⟨rfl, rfl, rfl, rfl, rfl, rfl, rfl, rfl, rfl, rfl, rfl, rfl, trivial⟩ ?_
                  refine nt_norm ?_
                  have e270 := Option.some.inj b178
                  subst e270
                  refine to_k (r := [(1, (.pointer (some ⟨b7, 0, none⟩))), (2, (.pointer (some ⟨b12, 0, none⟩))), (5, v36), (8, (.pointer (some ⟨b129, 0, none⟩))), (9, (.int .i64 i144)), (10, v155), (53, v36), (54, (.int .i64 (y35.length : Int))), (55, (.int .i64 i144)), (60, v36), (61, (.int .i64 (y35.length : Int))), (62, (.int .i64 (i171 + 1)))]) ⟨rfl, rfl, rfl, rfl, rfl, rfl, rfl, rfl, rfl, rfl, rfl, rfl, trivial⟩ ?_
                  intro a ha
                  exact ⟨_, (by rw [← m175]; simp only [List.length_drop]; omega), i171 + 1, x256, v261, (g168 ++ [⟨v247⟩]), o266, n179, rfl, (by omega), ha, hB, h37, h38, h8, h13, h269, h262, h264⟩
                · rw [if_neg (by rw [t244]; decide)] at b178
                  refine wpC_skip ?_
                  refine nb_norm ?_
                  refine nx ?_
                  refine wpC_region ?_
                  refine st_val (ex_add rfl rfl (ck_in (by omega) (by omega))) (by decide) trivial ?_
                  refine st_val (ex_move rfl) (by decide) trivial ?_
                  refine wpF_end (r := [(1, (.pointer (some ⟨b7, 0, none⟩))), (2, (.pointer (some ⟨b12, 0, none⟩))), (5, v36), (8, (.pointer (some ⟨b129, 0, none⟩))), (9, (.int .i64 i144)), (10, v155), (53, v36), (54, (.int .i64 (y35.length : Int))), (55, (.int .i64 i144)), (60, v36), (61, (.int .i64 (y35.length : Int))), (62, (.int .i64 (i171 + 1)))]) ⟨rfl, rfl, rfl, rfl, rfl, rfl, rfl, rfl, rfl, rfl, rfl, rfl, trivial⟩ ?_
                  refine nt_norm ?_
                  have e271 := Option.some.inj b178
                  subst e271
                  refine to_k (r := [(1, (.pointer (some ⟨b7, 0, none⟩))), (2, (.pointer (some ⟨b12, 0, none⟩))), (5, v36), (8, (.pointer (some ⟨b129, 0, none⟩))), (9, (.int .i64 i144)), (10, v155), (53, v36), (54, (.int .i64 (y35.length : Int))), (55, (.int .i64 i144)), (60, v36), (61, (.int .i64 (y35.length : Int))), (62, (.int .i64 (i171 + 1)))]) ⟨rfl, rfl, rfl, rfl, rfl, rfl, rfl, rfl, rfl, rfl, rfl, rfl, trivial⟩ ?_
                  intro a ha
                  exact ⟨_, (by rw [← m175]; simp only [List.length_drop]; omega), i171 + 1, y164, v165, g168, o232, n179, rfl, (by omega), ha, hB, h37, h38, h8, h13, h134, h166, h167⟩
              · have r272 := forI_done t180 l173
                refine wp_of ha ?_
                refine wpC_seq ?_
                refine wpC_region ?_
                refine st_val (ex_lss rfl rfl) (by decide) trivial ?_
                refine wpF_end (r := [(1, (.pointer (some ⟨b7, 0, none⟩))), (2, (.pointer (some ⟨b12, 0, none⟩))), (5, v36), (8, (.pointer (some ⟨b129, 0, none⟩))), (9, (.int .i64 i144)), (10, v155), (53, v36), (54, (.int .i64 (y35.length : Int))), (55, (.int .i64 i144)), (60, v36), (61, (.int .i64 (y35.length : Int))), (62, (.int .i64 i171)), (63, (.bool (decide (i171 < (y35.length : Int)))))]) ⟨rfl, rfl, rfl, rfl, rfl, rfl, rfl, rfl, rfl, rfl, rfl, rfl, rfl, trivial⟩ ?_
                refine nx ?_
                refine wpC_seq ?_
                refine wpC_false (congrArg (fun b => some (Value.bool b)) (decide_eq_false t180)) ?_
                refine wpC_exit ?_
                refine nt_exit ?_
                refine nt_exit ?_
                refine nb_hit ?_
                refine np_norm ?_
                refine to_k (r := [(1, (.pointer (some ⟨b7, 0, none⟩))), (2, (.pointer (some ⟨b12, 0, none⟩))), (5, v36), (8, (.pointer (some ⟨b129, 0, none⟩))), (53, v36), (54, (.int .i64 (y35.length : Int))), (55, (.int .i64 i144))]) ⟨rfl, rfl, rfl, rfl, rfl, rfl, rfl, trivial⟩ ?_
                intro a ha
                exact ⟨y164, v165, g168, o169, r272, ha, hB, h37, h38, h8, h13, h134, h166, h167⟩
            · rintro a w170 ⟨y164, v165, g168, o169, rfl, ha, hB, h37, h38, h8, h13, h134, h166, h167⟩
              dsimp only at b151
              refine ap_k ha ?_
              refine nb_norm ?_
              refine nx ?_
              refine wpC_region ?_
              refine st_val (ex_add rfl rfl (ck_in (by omega) (by omega))) (by decide) trivial ?_
              refine st_val (ex_move rfl) (by decide) trivial ?_
              refine wpF_end (r := [(1, (.pointer (some ⟨b7, 0, none⟩))), (2, (.pointer (some ⟨b12, 0, none⟩))), (5, v36), (8, (.pointer (some ⟨b129, 0, none⟩))), (53, v36), (54, (.int .i64 (y35.length : Int))), (55, (.int .i64 (i144 + 1)))]) ⟨rfl, rfl, rfl, rfl, rfl, rfl, rfl, trivial⟩ ?_
              refine nt_norm ?_
              have e273 := Option.some.inj b151
              subst e273
              refine to_k (r := [(1, (.pointer (some ⟨b7, 0, none⟩))), (2, (.pointer (some ⟨b12, 0, none⟩))), (5, v36), (8, (.pointer (some ⟨b129, 0, none⟩))), (53, v36), (54, (.int .i64 (y35.length : Int))), (55, (.int .i64 (i144 + 1)))]) ⟨rfl, rfl, rfl, rfl, rfl, rfl, rfl, trivial⟩ ?_
              intro a ha
              exact ⟨_, (by rw [← m148]; simp only [List.length_drop]; omega), i144 + 1, y164, v165, g168, o169, n152, rfl, (by omega), ha, hB, h37, h38, h8, h13, h134, h166, h167⟩
            · exact fun _ _ h => h.elim
          · have r274 := forI_done t153 l146
            refine wp_of ha ?_
            refine wpC_seq ?_
            refine wpC_region ?_
            refine st_val (ex_lss rfl rfl) (by decide) trivial ?_
            refine wpF_end (r := [(1, (.pointer (some ⟨b7, 0, none⟩))), (2, (.pointer (some ⟨b12, 0, none⟩))), (5, v36), (8, (.pointer (some ⟨b129, 0, none⟩))), (53, v36), (54, (.int .i64 (y35.length : Int))), (55, (.int .i64 i144)), (56, (.bool (decide (i144 < (y35.length : Int)))))]) ⟨rfl, rfl, rfl, rfl, rfl, rfl, rfl, rfl, trivial⟩ ?_
            refine nx ?_
            refine wpC_seq ?_
            refine wpC_false (congrArg (fun b => some (Value.bool b)) (decide_eq_false t153)) ?_
            refine wpC_exit ?_
            refine nt_exit ?_
            refine nt_exit ?_
            refine nb_hit ?_
            refine np_norm ?_
            refine to_k (r := [(2, (.pointer (some ⟨b12, 0, none⟩))), (5, v36), (8, (.pointer (some ⟨b129, 0, none⟩)))]) ⟨rfl, rfl, rfl, trivial⟩ ?_
            intro a ha
            exact ⟨y137, v138, g141, o142, r274, ha, hB, h37, h38, h13, h134, h139, h140⟩
        · rintro a w143 ⟨y137, v138, g141, o142, rfl, ha, hB, h37, h38, h13, h134, h139, h140⟩
          dsimp only at hF
          refine ap_k ha ?_
          refine nx ?_
          refine wpC_seq ?_
          refine wpC_region ?_
          refine st_val (ex_loadA rfl Try.isAgg74 Try.sizeOf74 rfl h134.cells) (by decide) trivial ?_
          refine st_val (ex_move rfl) (by decide) trivial ?_
          refine st_op0 trivial ?_
          refine wf_storeA h13 rfl rfl rfl info1_t_impl_WalkProblem_W (by intro c hc; simp only [List.mem_cons, List.not_mem_nil, or_false] at hc; rcases hc with rfl | rfl <;> first | rfl | exact h139.one1) ?_
          intro w275 h277 s276
          replace h37 := h37.stp s276 (by decide) (by decide)
          replace h38 := h38.stp s276 (by decide) (by decide)
          replace h139 := h139.stp s276 (by decide) (by decide)
          replace h140 := h140.stp s276 (by decide) (by decide)
          replace h134 := h134.stp s276 (by decide)
          replace hB := hB.stp s276 (by decide)
          refine st_val (ex_assign rfl) (by decide) trivial ?_
          refine st_val (ex_assign rfl) (by decide) trivial ?_
          refine wpF_end (r := [(2, (.pointer (some ⟨b12, 0, none⟩))), (3, v36), (4, (.bool true))]) ⟨rfl, rfl, rfl, trivial⟩ ?_
          refine nx ?_
          refine wpC_ret ?_
          have h278 := Dz.of h139 h140 (by decide) (by decide) (by decide)
          have r279 := frz_rc 20 o142
          have r280 := frz_rc 21 (frz 20 o142)
          replace h37 := (h37.rc r279 (by decide) (by decide)).rc r280 (by decide) (by decide)
          replace h38 := (h38.rc r279 (by decide) (by decide)).rc r280 (by decide) (by decide)
          replace h277 := (h277.rc r279 (by decide)).rc r280 (by decide)
          replace h134 := (h134.rc r279 (by decide)).rc r280 (by decide)
          replace hB := (hB.rc r279 (by decide)).rc r280 (by decide)
          clear r279 r280
          generalize frz 21 (frz 20 o142) = o282 at *
          have h281 := h278.rd
          have e283 := Option.some.inj hF
          subst e283
          refine ret_post (P := Try.prog) (vs := [(.agg #[(.int .i64 (y35.length : Int)), v138]), v36, (.bool true)]) Try.results61 ⟨⟨_, rfl, run_loadA Try.isAgg74 Try.sizeOf74 rfl h277.cells⟩, rfl, rfl, trivial⟩ ?_
          exact ⟨[(.int .i64 (y35.length : Int)), v138], _, g39, rt2 oo o282 w.heap.size 14 15 t, rfl, ⟨_, rfl, h281.rt2 hB 14 15 t (by decide) (by decide)⟩, h278.rt2 hB 14 15 t (by decide) (by decide), h37.rt2 hB (by decide) (by decide) t, h38.rt2 hB (by decide) (by decide) (by decide) t, hB.keeps, rt2_old _ _ _ _ _ _⟩
        · exact fun _ _ h => h.elim
    · exact fun _ _ h => h.elim

def fI_WalkOfProblem_s2 (fuel : Nat) (p0 : T_Problem) (i42 : Int) : Int → (List (List Int)) → Option (Lp (List (List Int)) (List (List Int)) (T_WalkProblem × (List (List Int)) × Bool)) := fun (i61 : Int) (s : List (List Int)) =>
  (fI_Problem_node fuel p0 ([i42, i61] : List Int)) >>= fun x79 =>
  if x79 then
    (push s ([i42, i61] : List Int)) >>= fun x97 =>
    some (.go x97)
  else
    some (.go s)
def fI_WalkOfProblem_s1 (fuel : Nat) (p0 : T_Problem) : Int → (List (List Int)) → Option (Lp (List (List Int)) (List (List Int)) (T_WalkProblem × (List (List Int)) × Bool)) := fun (i42 : Int) (s : List (List Int)) =>
  ck p0.Labels >>= fun _ =>
  (forN (fI_WalkOfProblem_s2 fuel p0 i42) (p0.Labels).toNat 0 s) >>= fun q62 =>
  match q62 with
  | .inl y54 =>
    some (.go y54)
  | .inr _ => none
def fI_WalkOfProblem_s4 (fuel : Nat) (p0 : T_Problem) (i141 : Int) (x151 : List Int) : Int → (List Int) → (List (List Int)) → Option (Lp (List (List Int)) (List (List Int)) (T_WalkProblem × (List (List Int)) × Bool)) := fun (i168 : Int) (x178 : List Int) (s : List (List Int)) =>
  (ix x151 0) >>= fun x188 =>
  (ix x178 1) >>= fun x191 =>
  (fI_Problem_edge fuel p0 x188 x191) >>= fun x235 =>
  if x235 then
    (push s ([i141, i168] : List Int)) >>= fun x253 =>
    some (.go x253)
  else
    some (.go s)
def fI_WalkOfProblem_s3 (fuel : Nat) (p0 : T_Problem) (y35 : List (List Int)) : Int → (List Int) → (List (List Int)) → Option (Lp (List (List Int)) (List (List Int)) (T_WalkProblem × (List (List Int)) × Bool)) := fun (i141 : Int) (x151 : List Int) (s : List (List Int)) =>
  (forI (fI_WalkOfProblem_s4 fuel p0 i141 x151) y35 0 s) >>= fun q169 =>
  match q169 with
  | .inl y161 =>
    some (.go y161)
  | .inr _ => none
def fI_WalkOfProblem (fuel : Nat) (p0 : T_Problem) : Option (T_WalkProblem × (List (List Int)) × Bool) :=
  (fI_IsProblem fuel p0) >>= fun x15 =>
  (
    if !x15 then
      some true
    else
      some (p0.Degree != 2)) >>= fun q21 =>
  if q21 then
    some ((⟨0, []⟩ : T_WalkProblem), [], false)
  else
    ck p0.Labels >>= fun _ =>
    (forN (fI_WalkOfProblem_s1 fuel p0) (p0.Labels).toNat 0 []) >>= fun q43 =>
    match q43 with
    | .inl y35 =>
      (fI_within (y35.length : Int) 1 12) >>= fun x113 =>
      if !x113 then
        some ((⟨0, []⟩ : T_WalkProblem), [], false)
      else
        (forI (fI_WalkOfProblem_s3 fuel p0 y35) y35 0 []) >>= fun q142 =>
        match q142 with
        | .inl y134 =>
          some ((⟨(y35.length : Int), y134⟩ : T_WalkProblem), y35, true)
        | .inr _ => none
    | .inr _ => none

def pI_WalkOfProblem (oo : Tg) (t : Nat) (w : World) (r : T_WalkProblem × (List (List Int)) × Bool) : Ending → World → Prop := fun e w' => ∃ (v0 : List Value) (v1 : Value) (g1 : List Hv) (o' : Tg), e = .returned (.tuple #[.agg v0.toArray, v1, .bool r.2.2]) ∧ Rp.rd o' w' v0 r.1 ∧ Dz 25 3 o' w' (v0.getD 1 undef) r.1.Arcs ∧ Ow w.heap.size 25 t o' w' v1 g1 ∧ Rws w.heap.size 3 (t + 1) o' w' g1 r.2.1 ∧ Keeps w w' ∧ ∀ b, b < w.heap.size → o' b = oo b
set_option maxRecDepth 100000 in
set_option maxHeartbeats 2000000 in
theorem cI_WalkOfProblem (fuel : Nat) (w : World) (oo : Tg) (t : Nat) (ht : 2 ≤ t) (u0 : List Value) (p0 : T_Problem) (g0 : Rp.rd zt w u0 p0) (r : T_WalkProblem × (List (List Int)) × Bool) (hF : fI_WalkOfProblem fuel p0 = some r) :
    Calls Try.prog 62 #[.agg u0.toArray] w (pI_WalkOfProblem oo t w r) := by
  unfold fI_WalkOfProblem at hF
  obtain ⟨v1, v3, rfl, h2, h4⟩ := g0
  have hB : Bs oo (col oo) w w := Bs.start _ _
  refine calls_start (n := 87) (vs := [(.agg #[(.int .i64 p0.Labels), (.int .i64 p0.Degree), v1, v3])]) Try.func62 rfl rfl ?_
  generalize col oo = o at *
  refine wpC_seq ?_
  refine wpC_region ?_
  refine st_op (by decide) trivial ?_
  refine wf_box (o := o) w.heap.size 11 hB.keeps.size (cs := [(.int .i64 p0.Labels), (.int .i64 p0.Degree), v1, v3]) rfl rfl ?_
  intro o5 w6 b7 h8 s9
  replace hB := hB.stp s9 (by decide)
  refine st_op (by decide) trivial ?_
  refine wf_alloc (o := o5) w.heap.size 12 hB.keeps.size (cs := [(.int .i64 0), (.slice none 0 0)]) Try.zeroValue74 rfl ?_
  intro o10 w11 b12 h13 s14
  replace h8 := h8.stp s14 (by decide)
  replace hB := hB.stp s14 (by decide)
  refine st_val (ex_assign rfl) (by decide) trivial ?_
  refine st_val (ex_assign rfl) (by decide) trivial ?_
  refine wpF_end (r := [(1, (.pointer (some ⟨b7, 0, none⟩))), (2, (.pointer (some ⟨b12, 0, none⟩)))]) ⟨rfl, rfl, trivial⟩ ?_
  refine nx ?_
  refine wpC_seq ?_
  refine wpC_seq ?_
  refine wpC_region ?_
  refine st_val (ex_loadA rfl Try.isAgg29 Try.sizeOf29 rfl h8.cells) (by decide) trivial ?_
  obtain ⟨x15, hx15, hF⟩ := bind_some hF
  refine st_op (by decide) trivial ?_
  refine wf_call (cI_IsProblem fuel w11 _ p0 (⟨_, _, rfl, (h2.keep hB.keeps), (h4.keep hB.keeps)⟩) x15 hx15) Try.call82 ⟨rfl, trivial⟩ ?_
  rintro e20 w16 ⟨rfl, k17⟩
  have s19 := k17.stp 999 o10
  refine ⟨_, rfl, ?_⟩
  replace h8 := h8.stp s19 (by decide)
  replace h13 := h13.stp s19 (by decide)
  replace hB := hB.stp s19 (by decide)
  refine st_val (ex_not rfl) (by decide) trivial ?_
  refine st_val (ex_move rfl) (by decide) trivial ?_
  obtain ⟨q21, hq21, hF⟩ := bind_some hF
  refine wpF_cutAt 4 (fun a23 w22 => Fr a23 87 [(1, (.pointer (some ⟨b7, 0, none⟩))), (2, (.pointer (some ⟨b12, 0, none⟩))), (20, (.bool q21))] ∧ Keeps w16 w22) ?_ ?_
  all_goals simp only [List.take_succ_cons, List.take_zero, List.drop_succ_cons, List.drop_zero]
  · have kp : Keeps w16 w16 := Keeps.refl _
    rcases Bool.eq_false_or_eq_true (!x15) with t24 | t24
    · rw [if_pos t24] at hq21
      refine st_no rfl rfl (by rw [t24]; rfl) (by decide) ?_
      refine st_no rfl rfl (by rw [t24]; rfl) (by decide) ?_
      refine st_no rfl rfl (by rw [t24]; rfl) (by decide) ?_
      refine st_val (ex_pick_t (congrArg (fun b => some (Value.bool b)) t24) rfl) (by decide) trivial ?_
      have hq212 := Option.some.inj hq21
      refine wpF_end (r := [(1, (.pointer (some ⟨b7, 0, none⟩))), (2, (.pointer (some ⟨b12, 0, none⟩))), (20, (.bool true))]) ⟨rfl, rfl, rfl, trivial⟩ ?_
      subst hq212
      refine np_norm (fun a ha => ⟨ha, kp⟩)
    · rw [if_neg (by rw [t24]; decide)] at hq21
      refine st_val (ex_field rfl Try.underlying29 rfl Try.sizeOf3) (by decide) ⟨_, rfl, (congrArg (fun b => some (Value.bool b)) t24)⟩ ?_
      refine st_val (ex_load1 rfl Try.isAgg3 (h8.cell rfl)) (by decide) ⟨_, rfl, (congrArg (fun b => some (Value.bool b)) t24)⟩ ?_
      refine st_val (ex_neq rfl rfl) (by decide) ⟨_, rfl, (congrArg (fun b => some (Value.bool b)) t24)⟩ ?_
      refine st_val (ex_pick_f (congrArg (fun b => some (Value.bool b)) t24) rfl) (by decide) trivial ?_
      have hq212 := Option.some.inj hq21
      refine wpF_end (r := [(1, (.pointer (some ⟨b7, 0, none⟩))), (2, (.pointer (some ⟨b12, 0, none⟩))), (20, (.bool (p0.Degree != 2)))]) ⟨rfl, rfl, rfl, trivial⟩ ?_
      subst hq212
      refine np_norm (fun a ha => ⟨ha, kp⟩)
  rintro a27 w22 ⟨ha, k25⟩
  have s26 := k25.stp 999 o10
  replace h8 := h8.stp s26 (by decide)
  replace h13 := h13.stp s26 (by decide)
  replace hB := hB.stp s26 (by decide)
  refine wl_of ha ?_
  refine wpF_end (r := [(1, (.pointer (some ⟨b7, 0, none⟩))), (2, (.pointer (some ⟨b12, 0, none⟩))), (20, (.bool q21))]) ⟨rfl, rfl, rfl, trivial⟩ ?_
  refine nx ?_
  refine wpC_cond rfl (fun t28 => ?_) (fun t28 => ?_)
  · rw [if_pos t28] at hF
    refine wpC_seq ?_
    refine wpC_region ?_
    refine st_val (ex_build (vs := []) (cs := [(.int .i64 0), (.slice none 0 0)]) trivial (by kernel_rfl)) (by decide) trivial ?_
    refine st_op0 trivial ?_
    refine wf_storeA h13 rfl rfl rfl info1_t_impl_WalkProblem_W (by intro c hc; simp only [List.mem_cons, List.not_mem_nil, or_false] at hc; rcases hc with rfl | rfl <;> first | rfl) ?_
    intro w29 h31 s30
    replace h8 := h8.stp s30 (by decide)
    replace hB := hB.stp s30 (by decide)
    refine st_val (ex_assign rfl) (by decide) trivial ?_
    refine st_val (ex_assign rfl) (by decide) trivial ?_
    refine wpF_end (r := [(2, (.pointer (some ⟨b12, 0, none⟩))), (3, (.slice none 0 0)), (4, (.bool false))]) ⟨rfl, rfl, rfl, trivial⟩ ?_
    refine nx ?_
    refine wpC_ret ?_
    refine nt_ret ?_
    have e32 := Option.some.inj hF
    subst e32
    refine ret_post (P := Try.prog) (vs := [(.agg #[(.int .i64 0), (.slice none 0 0)]), (.slice none 0 0), (.bool false)]) Try.results62 ⟨⟨_, rfl, run_loadA Try.isAgg74 Try.sizeOf74 rfl h31.cells⟩, rfl, rfl, trivial⟩ ?_
    exact ⟨[(.int .i64 0), (.slice none 0 0)], _, [], rt2 oo o10 w.heap.size 9 8 t, rfl, ⟨_, rfl, RdL.nil _ _⟩, (Dz.nil _ _ _ _), (Ow.nil _ _ _ _ _), (Rws.nil _ _ _ _ _), hB.keeps, rt2_old _ _ _ _ _ _⟩
  · rw [if_neg (by rw [t28]; decide)] at hF
    refine wpC_skip ?_
    refine nx ?_
    refine wpC_seq ?_
    refine wpC_region ?_
    refine st_val (ex_assign rfl) (by decide) trivial ?_
    refine wpF_end (r := [(1, (.pointer (some ⟨b7, 0, none⟩))), (2, (.pointer (some ⟨b12, 0, none⟩))), (5, (.slice none 0 0))]) ⟨rfl, rfl, rfl, trivial⟩ ?_
    refine nx ?_
    refine wpC_seq ?_
    refine wpC_seq ?_
    refine wpC_region ?_
    refine st_val (ex_field rfl Try.underlying29 rfl Try.sizeOf3) (by decide) trivial ?_
    refine st_val (ex_load1 rfl Try.isAgg3 (h8.cell rfl)) (by decide) trivial ?_
    refine st_val (ex_move rfl) (by decide) trivial ?_
    refine wpF_end (r := [(1, (.pointer (some ⟨b7, 0, none⟩))), (2, (.pointer (some ⟨b12, 0, none⟩))), (5, (.slice none 0 0)), (23, (.int .i64 p0.Labels)), (24, (.int .i64 0))]) ⟨rfl, rfl, rfl, rfl, rfl, trivial⟩ ?_
    refine nx ?_
    have h33 : Ow w.heap.size 25 14 o10 w22 (.slice none 0 0) ([] : List Hv) := Ow.nil _ _ _ _ _
    have h34 : Rws w.heap.size 3 15 o10 w22 [] ([] : List (List Int)) := Rws.nil _ _ _ _ _
    obtain ⟨u45, h44, hF⟩ := bind_some hF
    obtain ⟨-, h44a, h44b⟩ := ck_some h44
    obtain ⟨q43, hq43, hF⟩ := bind_some hF
    refine wpC_cutN (fun a w41 => ∃ (y35 : List (List Int)) (v36 : Value) (g39 : List Hv) (o40 : Tg), q43 = .inl y35 ∧ Fr a 87 [(1, (.pointer (some ⟨b7, 0, none⟩))), (2, (.pointer (some ⟨b12, 0, none⟩))), (5, v36)] ∧ Bs oo o40 w w41 ∧ Ow w.heap.size 25 14 o40 w41 v36 g39 ∧ Rws w.heap.size 3 15 o40 w41 g39 y35 ∧ Bx w.heap.size 11 o40 w41 b7 29 [(.int .i64 p0.Labels), (.int .i64 p0.Degree), v1, v3] ∧ Bx w.heap.size 12 o40 w41 b12 74 [(.int .i64 0), (.slice none 0 0)]) (fun _ _ => False) ?_ ?_ ?_
    · refine wpC_block ?_
      refine wpC_loop (fun (K : Nat) a w41 => ∃ (i42 : Int) (y35 : List (List Int)) (v36 : Value) (g39 : List Hv) (o40 : Tg), forN (fI_WalkOfProblem_s1 fuel p0) (p0.Labels - i42).toNat i42 y35 = some q43 ∧ (p0.Labels - i42).toNat = K ∧ 0 ≤ i42 ∧ Fr a 87 [(1, (.pointer (some ⟨b7, 0, none⟩))), (2, (.pointer (some ⟨b12, 0, none⟩))), (5, v36), (23, (.int .i64 p0.Labels)), (24, (.int .i64 i42))] ∧ Bs oo o40 w w41 ∧ Ow w.heap.size 25 14 o40 w41 v36 g39 ∧ Rws w.heap.size 3 15 o40 w41 g39 y35 ∧ Bx w.heap.size 11 o40 w41 b7 29 [(.int .i64 p0.Labels), (.int .i64 p0.Degree), v1, v3] ∧ Bx w.heap.size 12 o40 w41 b12 74 [(.int .i64 0), (.slice none 0 0)]) _ (fun a ha => ⟨0, [], (.slice none 0 0), [], o10, (by rw [Int.sub_zero]; exact hq43), rfl, Int.le_refl 0, ha.sub (r := [(1, (.pointer (some ⟨b7, 0, none⟩))), (2, (.pointer (some ⟨b12, 0, none⟩))), (5, (.slice none 0 0)), (23, (.int .i64 p0.Labels)), (24, (.int .i64 0))]) ⟨rfl, rfl, rfl, rfl, rfl, trivial⟩, hB, h33, h34, h8, h13⟩) ?_
      rintro K49 a w41 ⟨i42, y35, v36, g39, o40, l46, m48, z47, ha, hB, h37, h38, h8, h13⟩
      by_cases t53 : i42 < p0.Labels
      · obtain ⟨q50, b51, n52⟩ := forN_cons t53 l46
        dsimp only [fI_WalkOfProblem_s1] at b51
        refine wp_of ha ?_
        refine wpC_seq ?_
        refine wpC_region ?_
        refine st_val (ex_lss rfl rfl) (by decide) trivial ?_
        refine wpF_end (r := [(1, (.pointer (some ⟨b7, 0, none⟩))), (2, (.pointer (some ⟨b12, 0, none⟩))), (5, v36), (23, (.int .i64 p0.Labels)), (24, (.int .i64 i42)), (25, (.bool (decide (i42 < p0.Labels))))]) ⟨rfl, rfl, rfl, rfl, rfl, rfl, trivial⟩ ?_
        refine nx ?_
        refine wpC_seq ?_
        refine wpC_true (congrArg (fun b => some (Value.bool b)) (decide_eq_true t53)) ?_
        refine wpC_skip ?_
        refine nx ?_
        refine wpC_seq ?_
        refine wpC_block ?_
        refine wpC_seq ?_
        refine wpC_region ?_
        refine st_val (ex_move rfl) (by decide) trivial ?_
        refine st_val (ex_assign rfl) (by decide) trivial ?_
        refine wpF_end (r := [(1, (.pointer (some ⟨b7, 0, none⟩))), (2, (.pointer (some ⟨b12, 0, none⟩))), (5, v36), (6, (.int .i64 i42)), (23, (.int .i64 p0.Labels)), (24, (.int .i64 i42))]) ⟨rfl, rfl, rfl, rfl, rfl, rfl, trivial⟩ ?_
        refine nx ?_
        refine wpC_seq ?_
        refine wpC_region ?_
        refine st_val (ex_field rfl Try.underlying29 rfl Try.sizeOf3) (by decide) trivial ?_
        refine st_val (ex_load1 rfl Try.isAgg3 (h8.cell rfl)) (by decide) trivial ?_
        refine st_val (ex_move rfl) (by decide) trivial ?_
        refine wpF_end (r := [(1, (.pointer (some ⟨b7, 0, none⟩))), (2, (.pointer (some ⟨b12, 0, none⟩))), (5, v36), (6, (.int .i64 i42)), (23, (.int .i64 p0.Labels)), (24, (.int .i64 i42)), (28, (.int .i64 p0.Labels)), (29, (.int .i64 0))]) ⟨rfl, rfl, rfl, rfl, rfl, rfl, rfl, rfl, trivial⟩ ?_
        refine nx ?_
        obtain ⟨u64, h63, b51⟩ := bind_some b51
        obtain ⟨-, h63a, h63b⟩ := ck_some h63
        obtain ⟨q62, hq62, b51⟩ := bind_some b51
        refine wpC_cutN (fun a w60 => ∃ (y54 : List (List Int)) (v55 : Value) (g58 : List Hv) (o59 : Tg), q62 = .inl y54 ∧ Fr a 87 [(1, (.pointer (some ⟨b7, 0, none⟩))), (2, (.pointer (some ⟨b12, 0, none⟩))), (5, v55), (23, (.int .i64 p0.Labels)), (24, (.int .i64 i42))] ∧ Bs oo o59 w w60 ∧ Ow w.heap.size 25 14 o59 w60 v55 g58 ∧ Rws w.heap.size 3 15 o59 w60 g58 y54 ∧ Bx w.heap.size 11 o59 w60 b7 29 [(.int .i64 p0.Labels), (.int .i64 p0.Degree), v1, v3] ∧ Bx w.heap.size 12 o59 w60 b12 74 [(.int .i64 0), (.slice none 0 0)]) (fun _ _ => False) ?_ ?_ ?_
        · refine wpC_block ?_
          refine wpC_loop (fun (K : Nat) a w60 => ∃ (i61 : Int) (y54 : List (List Int)) (v55 : Value) (g58 : List Hv) (o59 : Tg), forN (fI_WalkOfProblem_s2 fuel p0 i42) (p0.Labels - i61).toNat i61 y54 = some q62 ∧ (p0.Labels - i61).toNat = K ∧ 0 ≤ i61 ∧ Fr a 87 [(1, (.pointer (some ⟨b7, 0, none⟩))), (2, (.pointer (some ⟨b12, 0, none⟩))), (5, v55), (6, (.int .i64 i42)), (23, (.int .i64 p0.Labels)), (24, (.int .i64 i42)), (28, (.int .i64 p0.Labels)), (29, (.int .i64 i61))] ∧ Bs oo o59 w w60 ∧ Ow w.heap.size 25 14 o59 w60 v55 g58 ∧ Rws w.heap.size 3 15 o59 w60 g58 y54 ∧ Bx w.heap.size 11 o59 w60 b7 29 [(.int .i64 p0.Labels), (.int .i64 p0.Degree), v1, v3] ∧ Bx w.heap.size 12 o59 w60 b12 74 [(.int .i64 0), (.slice none 0 0)]) _ (fun a ha => ⟨0, y35, v36, g39, o40, (by rw [Int.sub_zero]; exact hq62), rfl, Int.le_refl 0, ha.sub (r := [(1, (.pointer (some ⟨b7, 0, none⟩))), (2, (.pointer (some ⟨b12, 0, none⟩))), (5, v36), (6, (.int .i64 i42)), (23, (.int .i64 p0.Labels)), (24, (.int .i64 i42)), (28, (.int .i64 p0.Labels)), (29, (.int .i64 0))]) ⟨rfl, rfl, rfl, rfl, rfl, rfl, rfl, rfl, trivial⟩, hB, h37, h38, h8, h13⟩) ?_
          rintro K68 a w60 ⟨i61, y54, v55, g58, o59, l65, m67, z66, ha, hB, h56, h57, h8, h13⟩
          by_cases t72 : i61 < p0.Labels
          · obtain ⟨q69, b70, n71⟩ := forN_cons t72 l65
            dsimp only [fI_WalkOfProblem_s2] at b70
            refine wp_of ha ?_
            refine wpC_seq ?_
            refine wpC_region ?_
            refine st_val (ex_lss rfl rfl) (by decide) trivial ?_
            refine wpF_end (r := [(1, (.pointer (some ⟨b7, 0, none⟩))), (2, (.pointer (some ⟨b12, 0, none⟩))), (5, v55), (6, (.int .i64 i42)), (23, (.int .i64 p0.Labels)), (24, (.int .i64 i42)), (28, (.int .i64 p0.Labels)), (29, (.int .i64 i61)), (30, (.bool (decide (i61 < p0.Labels))))]) ⟨rfl, rfl, rfl, rfl, rfl, rfl, rfl, rfl, rfl, trivial⟩ ?_
            refine nx ?_
            refine wpC_seq ?_
            refine wpC_true (congrArg (fun b => some (Value.bool b)) (decide_eq_true t72)) ?_
            refine wpC_skip ?_
            refine nx ?_
            refine wpC_seq ?_
            refine wpC_block ?_
            refine wpC_seq ?_
            refine wpC_region ?_
            refine st_val (ex_move rfl) (by decide) trivial ?_
            refine st_val (ex_assign rfl) (by decide) trivial ?_
            refine wpF_end (r := [(1, (.pointer (some ⟨b7, 0, none⟩))), (2, (.pointer (some ⟨b12, 0, none⟩))), (5, v55), (6, (.int .i64 i42)), (7, (.int .i64 i61)), (23, (.int .i64 p0.Labels)), (24, (.int .i64 i42)), (28, (.int .i64 p0.Labels)), (29, (.int .i64 i61))]) ⟨rfl, rfl, rfl, rfl, rfl, rfl, rfl, rfl, rfl, trivial⟩ ?_
            refine nx ?_
            refine wpC_seq ?_
            refine wpC_region ?_
            refine st_val (ex_loadA rfl Try.isAgg29 Try.sizeOf29 rfl h8.cells) (by decide) trivial ?_
            refine st_val (ex_move rfl) (by decide) trivial ?_
            refine st_val (ex_move rfl) (by decide) trivial ?_
            refine st_op (by decide) trivial ?_
            refine wf_litR (o := o59) (cs := [(.int .i64 i42), (.int .i64 i61)]) (xs := ([i42, i61] : List Int)) (vs := [(0, (.int .i64 i42)), (1, (.int .i64 i61))]) ⟨_, _, rfl, rfl, ⟨_, _, rfl, rfl, rfl⟩⟩ rfl ⟨rfl, rfl, rfl, rfl, trivial⟩ Try.underlying25 Try.sizeOf3 Try.zeroValue3 (by decide) (fill2 rfl rfl) (by simp) ?_
            intro o73 w74 v75 h76 s77 k78
            replace h56 := h56.stp s77 (by decide) (by decide)
            replace h57 := h57.stp s77 (by decide) (by decide)
            replace h8 := h8.stp s77 (by decide)
            replace h13 := h13.stp s77 (by decide)
            replace hB := hB.stp s77 (by decide)
            obtain ⟨x79, hx79, b70⟩ := bind_some b70
            refine st_op (by decide) trivial ?_
            refine wf_call (cI_Problem_node fuel w74 _ p0 (⟨_, _, rfl, (h2.keep hB.keeps), (h4.keep hB.keeps)⟩) _ ([i42, i61] : List Int) h76.z x79 hx79) Try.call117 ⟨rfl, rfl, trivial⟩ ?_
            rintro e84 w80 ⟨rfl, k81⟩
            have s83 := k81.stp 999 o73
            refine ⟨_, rfl, ?_⟩
            replace h56 := h56.stp s83 (by decide) (by decide)
            replace h57 := h57.stp s83 (by decide) (by decide)
            replace h76 := h76.stp s83 (by decide)
            replace h8 := h8.stp s83 (by decide)
            replace h13 := h13.stp s83 (by decide)
            replace hB := hB.stp s83 (by decide)
            refine wpF_end (r := [(1, (.pointer (some ⟨b7, 0, none⟩))), (2, (.pointer (some ⟨b12, 0, none⟩))), (5, v55), (6, (.int .i64 i42)), (7, (.int .i64 i61)), (23, (.int .i64 p0.Labels)), (24, (.int .i64 i42)), (28, (.int .i64 p0.Labels)), (29, (.int .i64 i61)), (36, (.bool x79))]) ⟨rfl, rfl, rfl, rfl, rfl, rfl, rfl, rfl, rfl, rfl, trivial⟩ ?_
            refine nx ?_
            refine wpC_cond rfl (fun t85 => ?_) (fun t85 => ?_)
            · rw [if_pos t85] at b70
              refine wpC_region ?_
              refine st_val (ex_move rfl) (by decide) trivial ?_
              refine st_val (ex_move rfl) (by decide) trivial ?_
              refine st_val (ex_move rfl) (by decide) trivial ?_
              refine st_op (by decide) trivial ?_
              refine wf_litW w.heap.size 17 hB.keeps.size (o := o73) (cs := [(.int .i64 i42), (.int .i64 i61)]) (xs := ([i42, i61] : List Int)) (vs := [(0, (.int .i64 i42)), (1, (.int .i64 i61))]) ⟨_, _, rfl, rfl, ⟨_, _, rfl, rfl, rfl⟩⟩ rfl ⟨rfl, rfl, rfl, rfl, trivial⟩ Try.underlying25 Try.sizeOf3 Try.zeroValue3 (by decide) (fill2 rfl rfl) (by simp) ?_
              intro o86 w87 v88 h89 s90
              replace h56 := h56.stp s90 (by decide) (by decide)
              replace h57 := h57.stp s90 (by decide) (by decide)
              replace h8 := h8.stp s90 (by decide)
              replace h13 := h13.stp s90 (by decide)
              replace hB := hB.stp s90 (by decide)
              refine st_op (by decide) trivial ?_
              refine wf_litR (o := o86) (cs := [v88]) (xs := ([⟨v88⟩] : List Hv)) (vs := [(0, v88)]) ⟨_, _, rfl, rd_hv h89, rfl⟩ rfl ⟨rfl, rfl, trivial⟩ Try.underlying22 Try.sizeOf25 Try.zeroValue25 (by decide) (fill1 h89.cells1) (by simp) ?_
              intro o91 w92 v93 h94 s95 k96
              replace h56 := h56.stp s95 (by decide) (by decide)
              replace h57 := h57.stp s95 (by decide) (by decide)
              replace h89 := h89.stp s95 (by decide) (by decide)
              replace h8 := h8.stp s95 (by decide)
              replace h13 := h13.stp s95 (by decide)
              replace hB := hB.stp s95 (by decide)
              obtain ⟨x97, hx97, b70⟩ := bind_some b70
              obtain ⟨h98, h99⟩ := h57.pushV hx97 v88
              refine st_op (by decide) trivial ?_
              refine wf_cat h56 h94 (push_cat h98) (by decide) hB.keeps.size rfl rfl Try.underlying22 info2_t_Lint_W rfl (by decide) ?_
              intro o100 w101 v102 h103 s104
              replace h57 := h57.stp s104 (by decide) (by decide)
              replace h89 := h89.stp s104 (by decide) (by decide)
              replace h8 := h8.stp s104 (by decide)
              replace h13 := h13.stp s104 (by decide)
              replace hB := hB.stp s104 (by decide)
              have h105 := h57.push h89 (by decide) (by decide)
              rw [← h99] at h105
              clear h57 h89
              have r106 := mrg_rc 17 15 o100
              replace h103 := h103.rc r106 (by decide) (by decide)
              replace h8 := h8.rc r106 (by decide)
              replace h13 := h13.rc r106 (by decide)
              replace hB := hB.rc r106 (by decide)
              generalize mrg 17 15 o100 = o107 at *
              refine st_val (ex_assign rfl) (by decide) trivial ?_
              refine wpF_end (r := [(1, (.pointer (some ⟨b7, 0, none⟩))), (2, (.pointer (some ⟨b12, 0, none⟩))), (5, v102), (6, (.int .i64 i42)), (23, (.int .i64 p0.Labels)), (24, (.int .i64 i42)), (28, (.int .i64 p0.Labels)), (29, (.int .i64 i61))]) ⟨rfl, rfl, rfl, rfl, rfl, rfl, rfl, rfl, trivial⟩ ?_
              refine nb_norm ?_
              refine nx ?_
              refine wpC_region ?_
              refine st_val (ex_add rfl rfl (ck_in (by omega) (by omega))) (by decide) trivial ?_
              refine st_val (ex_move rfl) (by decide) trivial ?_
              refine wpF_end (r := [(1, (.pointer (some ⟨b7, 0, none⟩))), (2, (.pointer (some ⟨b12, 0, none⟩))), (5, v102), (6, (.int .i64 i42)), (23, (.int .i64 p0.Labels)), (24, (.int .i64 i42)), (28, (.int .i64 p0.Labels)), (29, (.int .i64 (i61 + 1)))]) ⟨rfl, rfl, rfl, rfl, rfl, rfl, rfl, rfl, trivial⟩ ?_
              refine nt_norm ?_
              have e108 := Option.some.inj b70
              subst e108
              refine to_k (r := [(1, (.pointer (some ⟨b7, 0, none⟩))), (2, (.pointer (some ⟨b12, 0, none⟩))), (5, v102), (6, (.int .i64 i42)), (23, (.int .i64 p0.Labels)), (24, (.int .i64 i42)), (28, (.int .i64 p0.Labels)), (29, (.int .i64 (i61 + 1)))]) ⟨rfl, rfl, rfl, rfl, rfl, rfl, rfl, rfl, trivial⟩ ?_
              intro a ha
              exact ⟨_, (by rw [← m67]; omega), i61 + 1, x97, v102, (g58 ++ [⟨v88⟩]), o107, n71, rfl, (by omega), ha, hB, h103, h105, h8, h13⟩
            · rw [if_neg (by rw [t85]; decide)] at b70
              refine wpC_skip ?_
              refine nb_norm ?_
              refine nx ?_
              refine wpC_region ?_
              refine st_val (ex_add rfl rfl (ck_in (by omega) (by omega))) (by decide) trivial ?_
              refine st_val (ex_move rfl) (by decide) trivial ?_
              refine wpF_end (r := [(1, (.pointer (some ⟨b7, 0, none⟩))), (2, (.pointer (some ⟨b12, 0, none⟩))), (5, v55), (6, (.int .i64 i42)), (23, (.int .i64 p0.Labels)), (24, (.int .i64 i42)), (28, (.int .i64 p0.Labels)), (29, (.int .i64 (i61 + 1)))]) ⟨rfl, rfl, rfl, rfl, rfl, rfl, rfl, rfl, trivial⟩ ?_
              refine nt_norm ?_
              have e109 := Option.some.inj b70
              subst e109
              refine to_k (r := [(1, (.pointer (some ⟨b7, 0, none⟩))), (2, (.pointer (some ⟨b12, 0, none⟩))), (5, v55), (6, (.int .i64 i42)), (23, (.int .i64 p0.Labels)), (24, (.int .i64 i42)), (28, (.int .i64 p0.Labels)), (29, (.int .i64 (i61 + 1)))]) ⟨rfl, rfl, rfl, rfl, rfl, rfl, rfl, rfl, trivial⟩ ?_
              intro a ha
              exact ⟨_, (by rw [← m67]; omega), i61 + 1, y54, v55, g58, o73, n71, rfl, (by omega), ha, hB, h56, h57, h8, h13⟩
          · have r110 := forN_done t72 l65
            refine wp_of ha ?_
            refine wpC_seq ?_
            refine wpC_region ?_
            refine st_val (ex_lss rfl rfl) (by decide) trivial ?_
            refine wpF_end (r := [(1, (.pointer (some ⟨b7, 0, none⟩))), (2, (.pointer (some ⟨b12, 0, none⟩))), (5, v55), (6, (.int .i64 i42)), (23, (.int .i64 p0.Labels)), (24, (.int .i64 i42)), (28, (.int .i64 p0.Labels)), (29, (.int .i64 i61)), (30, (.bool (decide (i61 < p0.Labels))))]) ⟨rfl, rfl, rfl, rfl, rfl, rfl, rfl, rfl, rfl, trivial⟩ ?_
            refine nx ?_
            refine wpC_seq ?_
            refine wpC_false (congrArg (fun b => some (Value.bool b)) (decide_eq_false t72)) ?_
            refine wpC_exit ?_
            refine nt_exit ?_
            refine nt_exit ?_
            refine nb_hit ?_
            refine np_norm ?_
            refine to_k (r := [(1, (.pointer (some ⟨b7, 0, none⟩))), (2, (.pointer (some ⟨b12, 0, none⟩))), (5, v55), (23, (.int .i64 p0.Labels)), (24, (.int .i64 i42))]) ⟨rfl, rfl, rfl, rfl, rfl, trivial⟩ ?_
            intro a ha
            exact ⟨y54, v55, g58, o59, r110, ha, hB, h56, h57, h8, h13⟩
        · rintro a w60 ⟨y54, v55, g58, o59, rfl, ha, hB, h56, h57, h8, h13⟩
          dsimp only at b51
          refine ap_k ha ?_
          refine nb_norm ?_
          refine nx ?_
          refine wpC_region ?_
          refine st_val (ex_add rfl rfl (ck_in (by omega) (by omega))) (by decide) trivial ?_
          refine st_val (ex_move rfl) (by decide) trivial ?_
          refine wpF_end (r := [(1, (.pointer (some ⟨b7, 0, none⟩))), (2, (.pointer (some ⟨b12, 0, none⟩))), (5, v55), (23, (.int .i64 p0.Labels)), (24, (.int .i64 (i42 + 1)))]) ⟨rfl, rfl, rfl, rfl, rfl, trivial⟩ ?_
          refine nt_norm ?_
          have e111 := Option.some.inj b51
          subst e111
          refine to_k (r := [(1, (.pointer (some ⟨b7, 0, none⟩))), (2, (.pointer (some ⟨b12, 0, none⟩))), (5, v55), (23, (.int .i64 p0.Labels)), (24, (.int .i64 (i42 + 1)))]) ⟨rfl, rfl, rfl, rfl, rfl, trivial⟩ ?_
          intro a ha
          exact ⟨_, (by rw [← m48]; omega), i42 + 1, y54, v55, g58, o59, n52, rfl, (by omega), ha, hB, h56, h57, h8, h13⟩
        · exact fun _ _ h => h.elim
      · have r112 := forN_done t53 l46
        refine wp_of ha ?_
        refine wpC_seq ?_
        refine wpC_region ?_
        refine st_val (ex_lss rfl rfl) (by decide) trivial ?_
        refine wpF_end (r := [(1, (.pointer (some ⟨b7, 0, none⟩))), (2, (.pointer (some ⟨b12, 0, none⟩))), (5, v36), (23, (.int .i64 p0.Labels)), (24, (.int .i64 i42)), (25, (.bool (decide (i42 < p0.Labels))))]) ⟨rfl, rfl, rfl, rfl, rfl, rfl, trivial⟩ ?_
        refine nx ?_
        refine wpC_seq ?_
        refine wpC_false (congrArg (fun b => some (Value.bool b)) (decide_eq_false t53)) ?_
        refine wpC_exit ?_
        refine nt_exit ?_
        refine nt_exit ?_
        refine nb_hit ?_
        refine np_norm ?_
        refine to_k (r := [(1, (.pointer (some ⟨b7, 0, none⟩))), (2, (.pointer (some ⟨b12, 0, none⟩))), (5, v36)]) ⟨rfl, rfl, rfl, trivial⟩ ?_
        intro a ha
        exact ⟨y35, v36, g39, o40, r112, ha, hB, h37, h38, h8, h13⟩
    · rintro a w41 ⟨y35, v36, g39, o40, rfl, ha, hB, h37, h38, h8, h13⟩
      dsimp only at hF
      refine ap_k ha ?_
      refine nx ?_
      refine wpC_seq ?_
      refine wpC_seq ?_
      refine wpC_region ?_
      refine st_val (ex_move rfl) (by decide) trivial ?_
      refine st_val (ex_lenR rfl (h38.z h37) Try.underlying22) (by decide) trivial ?_
      obtain ⟨x113, hx113, hF⟩ := bind_some hF
      refine st_op (by decide) trivial ?_
      refine wf_call (cI_within w41 (y35.length : Int) 1 12 x113 hx113) Try.call118 ⟨rfl, rfl, rfl, trivial⟩ ?_
      rintro e118 w114 ⟨rfl, k115⟩
      have s117 := k115.stp 999 o40
      refine ⟨_, rfl, ?_⟩
      replace h37 := h37.stp s117 (by decide) (by decide)
      replace h38 := h38.stp s117 (by decide) (by decide)
      replace h8 := h8.stp s117 (by decide)
      replace h13 := h13.stp s117 (by decide)
      replace hB := hB.stp s117 (by decide)
      refine st_val (ex_not rfl) (by decide) trivial ?_
      refine wpF_end (r := [(1, (.pointer (some ⟨b7, 0, none⟩))), (2, (.pointer (some ⟨b12, 0, none⟩))), (5, v36), (48, (.bool (!x113)))]) ⟨rfl, rfl, rfl, rfl, trivial⟩ ?_
      refine nx ?_
      refine wpC_cond rfl (fun t119 => ?_) (fun t119 => ?_)
      · rw [if_pos t119] at hF
        refine wpC_seq ?_
        refine wpC_region ?_
        refine st_val (ex_build (vs := []) (cs := [(.int .i64 0), (.slice none 0 0)]) trivial (by kernel_rfl)) (by decide) trivial ?_
        refine st_op0 trivial ?_
        refine wf_storeA h13 rfl rfl rfl info1_t_impl_WalkProblem_W (by intro c hc; simp only [List.mem_cons, List.not_mem_nil, or_false] at hc; rcases hc with rfl | rfl <;> first | rfl) ?_
        intro w120 h122 s121
        replace h37 := h37.stp s121 (by decide) (by decide)
        replace h38 := h38.stp s121 (by decide) (by decide)
        replace h8 := h8.stp s121 (by decide)
        replace hB := hB.stp s121 (by decide)
        refine st_val (ex_assign rfl) (by decide) trivial ?_
        refine st_val (ex_assign rfl) (by decide) trivial ?_
        refine wpF_end (r := [(2, (.pointer (some ⟨b12, 0, none⟩))), (3, (.slice none 0 0)), (4, (.bool false))]) ⟨rfl, rfl, rfl, trivial⟩ ?_
        refine nx ?_
        refine wpC_ret ?_
        refine nt_ret ?_
        have e123 := Option.some.inj hF
        subst e123
        refine ret_post (P := Try.prog) (vs := [(.agg #[(.int .i64 0), (.slice none 0 0)]), (.slice none 0 0), (.bool false)]) Try.results62 ⟨⟨_, rfl, run_loadA Try.isAgg74 Try.sizeOf74 rfl h122.cells⟩, rfl, rfl, trivial⟩ ?_
        exact ⟨[(.int .i64 0), (.slice none 0 0)], _, [], rt2 oo o40 w.heap.size 9 8 t, rfl, ⟨_, rfl, RdL.nil _ _⟩, (Dz.nil _ _ _ _), (Ow.nil _ _ _ _ _), (Rws.nil _ _ _ _ _), hB.keeps, rt2_old _ _ _ _ _ _⟩
      · rw [if_neg (by rw [t119]; decide)] at hF
        refine wpC_skip ?_
        refine nx ?_
        refine wpC_seq ?_
        refine wpC_region ?_
        refine st_val (ex_move rfl) (by decide) trivial ?_
        refine st_val (ex_lenR rfl (h38.z h37) Try.underlying22) (by decide) trivial ?_
        refine st_val (ex_build (vs := [(0, (.int .i64 (y35.length : Int)))]) (cs := [(.int .i64 (y35.length : Int)), (.slice none 0 0)]) ⟨rfl, rfl, trivial⟩ (by kernel_rfl)) (by decide) trivial ?_
        refine st_op (by decide) trivial ?_
        refine wf_alloc (o := o40) w.heap.size 19 hB.keeps.size (cs := [(.int .i64 0), (.slice none 0 0)]) Try.zeroValue74 rfl ?_
        intro o124 w125 b126 h127 s128
        replace h37 := h37.stp s128 (by decide) (by decide)
        replace h38 := h38.stp s128 (by decide) (by decide)
        replace h8 := h8.stp s128 (by decide)
        replace h13 := h13.stp s128 (by decide)
        replace hB := hB.stp s128 (by decide)
        refine st_op0 trivial ?_
        refine wf_storeA h127 rfl rfl rfl info1_t_impl_WalkProblem_W (by intro c hc; simp only [List.mem_cons, List.not_mem_nil, or_false] at hc; rcases hc with rfl | rfl <;> first | rfl) ?_
        intro w129 h131 s130
        replace h37 := h37.stp s130 (by decide) (by decide)
        replace h38 := h38.stp s130 (by decide) (by decide)
        replace h8 := h8.stp s130 (by decide)
        replace h13 := h13.stp s130 (by decide)
        replace hB := hB.stp s130 (by decide)
        refine wpF_end (r := [(1, (.pointer (some ⟨b7, 0, none⟩))), (2, (.pointer (some ⟨b12, 0, none⟩))), (5, v36), (8, (.pointer (some ⟨b126, 0, none⟩)))]) ⟨rfl, rfl, rfl, rfl, trivial⟩ ?_
        refine nx ?_
        refine wpC_seq ?_
        refine wpC_seq ?_
        refine wpC_region ?_
        refine st_val (ex_move rfl) (by decide) trivial ?_
        refine st_val (ex_lenR rfl (h38.z h37) Try.underlying22) (by decide) trivial ?_
        refine st_val (ex_move rfl) (by decide) trivial ?_
        refine wpF_end (r := [(1, (.pointer (some ⟨b7, 0, none⟩))), (2, (.pointer (some ⟨b12, 0, none⟩))), (5, v36), (8, (.pointer (some ⟨b126, 0, none⟩))), (53, v36), (54, (.int .i64 (y35.length : Int))), (55, (.int .i64 0))]) ⟨rfl, rfl, rfl, rfl, rfl, rfl, rfl, trivial⟩ ?_
        refine nx ?_
        have h132 : Ow w.heap.size 25 20 o124 w129 (.slice none 0 0) ([] : List Hv) := Ow.nil _ _ _ _ _
        have h133 : Rws w.heap.size 3 21 o124 w129 [] ([] : List (List Int)) := Rws.nil _ _ _ _ _
        obtain ⟨q142, hq142, hF⟩ := bind_some hF
        refine wpC_cutN (fun a w140 => ∃ (y134 : List (List Int)) (v135 : Value) (g138 : List Hv) (o139 : Tg), q142 = .inl y134 ∧ Fr a 87 [(2, (.pointer (some ⟨b12, 0, none⟩))), (5, v36), (8, (.pointer (some ⟨b126, 0, none⟩)))] ∧ Bs oo o139 w w140 ∧ Ow w.heap.size 25 14 o139 w140 v36 g39 ∧ Rws w.heap.size 3 15 o139 w140 g39 y35 ∧ Bx w.heap.size 12 o139 w140 b12 74 [(.int .i64 0), (.slice none 0 0)] ∧ Bx w.heap.size 19 o139 w140 b126 74 [(.int .i64 (y35.length : Int)), v135] ∧ Ow w.heap.size 25 20 o139 w140 v135 g138 ∧ Rws w.heap.size 3 21 o139 w140 g138 y134) (fun _ _ => False) ?_ ?_ ?_
        · refine wpC_block ?_
          refine wpC_loop (fun (K : Nat) a w140 => ∃ (i141 : Int) (y134 : List (List Int)) (v135 : Value) (g138 : List Hv) (o139 : Tg), forI (fI_WalkOfProblem_s3 fuel p0 y35) (y35.drop i141.toNat) i141 y134 = some q142 ∧ (y35.drop i141.toNat).length = K ∧ 0 ≤ i141 ∧ Fr a 87 [(1, (.pointer (some ⟨b7, 0, none⟩))), (2, (.pointer (some ⟨b12, 0, none⟩))), (5, v36), (8, (.pointer (some ⟨b126, 0, none⟩))), (53, v36), (54, (.int .i64 (y35.length : Int))), (55, (.int .i64 i141))] ∧ Bs oo o139 w w140 ∧ Ow w.heap.size 25 14 o139 w140 v36 g39 ∧ Rws w.heap.size 3 15 o139 w140 g39 y35 ∧ Bx w.heap.size 11 o139 w140 b7 29 [(.int .i64 p0.Labels), (.int .i64 p0.Degree), v1, v3] ∧ Bx w.heap.size 12 o139 w140 b12 74 [(.int .i64 0), (.slice none 0 0)] ∧ Bx w.heap.size 19 o139 w140 b126 74 [(.int .i64 (y35.length : Int)), v135] ∧ Ow w.heap.size 25 20 o139 w140 v135 g138 ∧ Rws w.heap.size 3 21 o139 w140 g138 y134) _ (fun a ha => ⟨0, [], (.slice none 0 0), [], o124, hq142, rfl, Int.le_refl 0, ha.sub (r := [(1, (.pointer (some ⟨b7, 0, none⟩))), (2, (.pointer (some ⟨b12, 0, none⟩))), (5, v36), (8, (.pointer (some ⟨b126, 0, none⟩))), (53, v36), (54, (.int .i64 (y35.length : Int))), (55, (.int .i64 0))]) ⟨rfl, rfl, rfl, rfl, rfl, rfl, rfl, trivial⟩, hB, h37, h38, h8, h13, h131, h132, h133⟩) ?_
          rintro K146 a w140 ⟨i141, y134, v135, g138, o139, l143, m145, z144, ha, hB, h37, h38, h8, h13, h131, h136, h137⟩
          by_cases t150 : i141 < (y35.length : Int)
          · obtain ⟨x151, q147, hx151, b148, n149⟩ := forI_cons z144 t150 l143
            have hle := (h38.z h37).len_le
            dsimp only [fI_WalkOfProblem_s3] at b148
            refine wp_of ha ?_
            refine wpC_seq ?_
            refine wpC_region ?_
            refine st_val (ex_lss rfl rfl) (by decide) trivial ?_
            refine wpF_end (r := [(1, (.pointer (some ⟨b7, 0, none⟩))), (2, (.pointer (some ⟨b12, 0, none⟩))), (5, v36), (8, (.pointer (some ⟨b126, 0, none⟩))), (53, v36), (54, (.int .i64 (y35.length : Int))), (55, (.int .i64 i141)), (56, (.bool (decide (i141 < (y35.length : Int)))))]) ⟨rfl, rfl, rfl, rfl, rfl, rfl, rfl, rfl, trivial⟩ ?_
            refine nx ?_
            refine wpC_seq ?_
            refine wpC_true (congrArg (fun b => some (Value.bool b)) (decide_eq_true t150)) ?_
            refine wpC_skip ?_
            refine nx ?_
            refine wpC_seq ?_
            refine wpC_block ?_
            refine wpC_seq ?_
            refine wpC_region ?_
            refine st_val (ex_move rfl) (by decide) trivial ?_
            obtain ⟨v152, h153, h154, h155⟩ := h38.ix hx151
            refine st_op (by decide) trivial ?_
            refine wf_atW h37 h153 rfl rfl Try.underlying22 Try.sizeOf25 ?_
            intro b156 f157 c158 h159 h160
            obtain ⟨rfl, -⟩ := h160
            refine st_val (ex_load1 rfl Try.isAgg25 (cell_of_cells h159)) (by decide) trivial ?_
            refine st_val (ex_assign rfl) (by decide) trivial ?_
            refine st_val (ex_assign rfl) (by decide) trivial ?_
            refine wpF_end (r := [(1, (.pointer (some ⟨b7, 0, none⟩))), (2, (.pointer (some ⟨b12, 0, none⟩))), (5, v36), (8, (.pointer (some ⟨b126, 0, none⟩))), (9, (.int .i64 i141)), (10, v152), (53, v36), (54, (.int .i64 (y35.length : Int))), (55, (.int .i64 i141))]) ⟨rfl, rfl, rfl, rfl, rfl, rfl, rfl, rfl, rfl, trivial⟩ ?_
            refine nx ?_
            refine wpC_seq ?_
            refine wpC_region ?_
            refine st_val (ex_move rfl) (by decide) trivial ?_
            refine st_val (ex_lenR rfl (h38.z h37) Try.underlying22) (by decide) trivial ?_
            refine st_val (ex_move rfl) (by decide) trivial ?_
            refine wpF_end (r := [(1, (.pointer (some ⟨b7, 0, none⟩))), (2, (.pointer (some ⟨b12, 0, none⟩))), (5, v36), (8, (.pointer (some ⟨b126, 0, none⟩))), (9, (.int .i64 i141)), (10, v152), (53, v36), (54, (.int .i64 (y35.length : Int))), (55, (.int .i64 i141)), (60, v36), (61, (.int .i64 (y35.length : Int))), (62, (.int .i64 0))]) ⟨rfl, rfl, rfl, rfl, rfl, rfl, rfl, rfl, rfl, rfl, rfl, rfl, trivial⟩ ?_
            refine nx ?_
            obtain ⟨q169, hq169, b148⟩ := bind_some b148
            refine wpC_cutN (fun a w167 => ∃ (y161 : List (List Int)) (v162 : Value) (g165 : List Hv) (o166 : Tg), q169 = .inl y161 ∧ Fr a 87 [(1, (.pointer (some ⟨b7, 0, none⟩))), (2, (.pointer (some ⟨b12, 0, none⟩))), (5, v36), (8, (.pointer (some ⟨b126, 0, none⟩))), (53, v36), (54, (.int .i64 (y35.length : Int))), (55, (.int .i64 i141))] ∧ Bs oo o166 w w167 ∧ Ow w.heap.size 25 14 o166 w167 v36 g39 ∧ Rws w.heap.size 3 15 o166 w167 g39 y35 ∧ Bx w.heap.size 11 o166 w167 b7 29 [(.int .i64 p0.Labels), (.int .i64 p0.Degree), v1, v3] ∧ Bx w.heap.size 12 o166 w167 b12 74 [(.int .i64 0), (.slice none 0 0)] ∧ Bx w.heap.size 19 o166 w167 b126 74 [(.int .i64 (y35.length : Int)), v162] ∧ Ow w.heap.size 25 20 o166 w167 v162 g165 ∧ Rws w.heap.size 3 21 o166 w167 g165 y161) (fun _ _ => False) ?_ ?_ ?_
            · refine wpC_block ?_
              refine wpC_loop (fun (K : Nat) a w167 => ∃ (i168 : Int) (y161 : List (List Int)) (v162 : Value) (g165 : List Hv) (o166 : Tg), forI (fI_WalkOfProblem_s4 fuel p0 i141 x151) (y35.drop i168.toNat) i168 y161 = some q169 ∧ (y35.drop i168.toNat).length = K ∧ 0 ≤ i168 ∧ Fr a 87 [(1, (.pointer (some ⟨b7, 0, none⟩))), (2, (.pointer (some ⟨b12, 0, none⟩))), (5, v36), (8, (.pointer (some ⟨b126, 0, none⟩))), (9, (.int .i64 i141)), (10, v152), (53, v36), (54, (.int .i64 (y35.length : Int))), (55, (.int .i64 i141)), (60, v36), (61, (.int .i64 (y35.length : Int))), (62, (.int .i64 i168))] ∧ Bs oo o166 w w167 ∧ Ow w.heap.size 25 14 o166 w167 v36 g39 ∧ Rws w.heap.size 3 15 o166 w167 g39 y35 ∧ Bx w.heap.size 11 o166 w167 b7 29 [(.int .i64 p0.Labels), (.int .i64 p0.Degree), v1, v3] ∧ Bx w.heap.size 12 o166 w167 b12 74 [(.int .i64 0), (.slice none 0 0)] ∧ Bx w.heap.size 19 o166 w167 b126 74 [(.int .i64 (y35.length : Int)), v162] ∧ Ow w.heap.size 25 20 o166 w167 v162 g165 ∧ Rws w.heap.size 3 21 o166 w167 g165 y161) _ (fun a ha => ⟨0, y134, v135, g138, o139, hq169, rfl, Int.le_refl 0, ha.sub (r := [(1, (.pointer (some ⟨b7, 0, none⟩))), (2, (.pointer (some ⟨b12, 0, none⟩))), (5, v36), (8, (.pointer (some ⟨b126, 0, none⟩))), (9, (.int .i64 i141)), (10, v152), (53, v36), (54, (.int .i64 (y35.length : Int))), (55, (.int .i64 i141)), (60, v36), (61, (.int .i64 (y35.length : Int))), (62, (.int .i64 0))]) ⟨rfl, rfl, rfl, rfl, rfl, rfl, rfl, rfl, rfl, rfl, rfl, rfl, trivial⟩, hB, h37, h38, h8, h13, h131, h136, h137⟩) ?_
              rintro K173 a w167 ⟨i168, y161, v162, g165, o166, l170, m172, z171, ha, hB, h37, h38, h8, h13, h131, h163, h164⟩
              by_cases t177 : i168 < (y35.length : Int)
              · obtain ⟨x178, q174, hx178, b175, n176⟩ := forI_cons z171 t177 l170
                have hle := (h38.z h37).len_le
                dsimp only [fI_WalkOfProblem_s4] at b175
                refine wp_of ha ?_
                refine wpC_seq ?_
                refine wpC_region ?_
                refine st_val (ex_lss rfl rfl) (by decide) trivial ?_
                refine wpF_end (r := [(1, (.pointer (some ⟨b7, 0, none⟩))), (2, (.pointer (some ⟨b12, 0, none⟩))), (5, v36), (8, (.pointer (some ⟨b126, 0, none⟩))), (9, (.int .i64 i141)), (10, v152), (53, v36), (54, (.int .i64 (y35.length : Int))), (55, (.int .i64 i141)), (60, v36), (61, (.int .i64 (y35.length : Int))), (62, (.int .i64 i168)), (63, (.bool (decide (i168 < (y35.length : Int)))))]) ⟨rfl, rfl, rfl, rfl, rfl, rfl, rfl, rfl, rfl, rfl, rfl, rfl, rfl, trivial⟩ ?_
                refine nx ?_
                refine wpC_seq ?_
                refine wpC_true (congrArg (fun b => some (Value.bool b)) (decide_eq_true t177)) ?_
                refine wpC_skip ?_
                refine nx ?_
                refine wpC_seq ?_
                refine wpC_block ?_
                refine wpC_seq ?_
                refine wpC_region ?_
                refine st_val (ex_move rfl) (by decide) trivial ?_
                obtain ⟨v179, h180, h181, h182⟩ := h38.ix hx178
                refine st_op (by decide) trivial ?_
                refine wf_atW h37 h180 rfl rfl Try.underlying22 Try.sizeOf25 ?_
                intro b183 f184 c185 h186 h187
                obtain ⟨rfl, -⟩ := h187
                refine st_val (ex_load1 rfl Try.isAgg25 (cell_of_cells h186)) (by decide) trivial ?_
                refine st_val (ex_assign rfl) (by decide) trivial ?_
                refine st_val (ex_assign rfl) (by decide) trivial ?_
                refine wpF_end (r := [(1, (.pointer (some ⟨b7, 0, none⟩))), (2, (.pointer (some ⟨b12, 0, none⟩))), (5, v36), (8, (.pointer (some ⟨b126, 0, none⟩))), (9, (.int .i64 i141)), (10, v152), (11, (.int .i64 i168)), (12, v179), (53, v36), (54, (.int .i64 (y35.length : Int))), (55, (.int .i64 i141)), (60, v36), (61, (.int .i64 (y35.length : Int))), (62, (.int .i64 i168))]) ⟨rfl, rfl, rfl, rfl, rfl, rfl, rfl, rfl, rfl, rfl, rfl, rfl, rfl, rfl, trivial⟩ ?_
                refine nx ?_
                refine wpC_seq ?_
                obtain ⟨x188, hx188, b175⟩ := bind_some b175
                obtain ⟨x191, hx191, b175⟩ := bind_some b175
                refine wpC_drawn (o := o166) [(1, (.pointer (some ⟨b7, 0, none⟩))), (2, (.pointer (some ⟨b12, 0, none⟩))), (5, v36), (8, (.pointer (some ⟨b126, 0, none⟩))), (9, (.int .i64 i141)), (10, v152), (11, (.int .i64 i168)), (12, v179), (53, v36), (54, (.int .i64 (y35.length : Int))), (55, (.int .i64 i141)), (60, v36), (61, (.int .i64 (y35.length : Int))), (62, (.int .i64 i168))] [1, 2, 5, 8, 9, 10, 11, 12, 53, 54, 55, 60, 61, 62] [67, 68, 69, 70, 71, 72, 73] [[], [], [1], [2], [], [4], [5]] [none, none, none, none, none, none, none] [999, 999, 999, 999, 999, 999, 999] [0, 0, 15, 0, 0, 15, 0] [999] [fun v _ _ => v = (.agg #[(.int .i64 p0.Labels), (.int .i64 p0.Degree), v1, v3]), fun v _ _ => v = v152, fun v o w9 => ∃ vl, v = adr vl ((0 : Int).toNat * Rp.sz Int) ∧ Ow w.heap.size 3 15 o w9 vl x151, fun v _ _ => v = (.int .i64 x188), fun v _ _ => v = v179, fun v o w9 => ∃ vl, v = adr vl ((1 : Int).toNat * Rp.sz Int) ∧ Ow w.heap.size 3 15 o w9 vl x178, fun v _ _ => v = (.int .i64 x191)] (fun o8 w8 => Bs oo o8 w w8 ∧ Ow w.heap.size 25 14 o8 w8 v36 g39 ∧ Rws w.heap.size 3 15 o8 w8 g39 y35 ∧ Bx w.heap.size 11 o8 w8 b7 29 [(.int .i64 p0.Labels), (.int .i64 p0.Degree), v1, v3] ∧ Bx w.heap.size 12 o8 w8 b12 74 [(.int .i64 0), (.slice none 0 0)] ∧ Bx w.heap.size 19 o8 w8 b126 74 [(.int .i64 (y35.length : Int)), v162] ∧ Ow w.heap.size 25 20 o8 w8 v162 g165 ∧ Rws w.heap.size 3 21 o8 w8 g165 y161) follows_mixed (by kernel_rfl) rfl ⟨rfl, rfl, rfl, rfl, rfl, rfl, rfl, rfl, rfl, rfl, rfl, rfl, rfl, rfl, trivial⟩ ⟨hB, h37, h38, h8, h13, h131, h163, h164⟩ ?_ ⟨st_eq _, st_eq _, fun _ _ _ _ _ _ h0 hb ⟨vl, e, h⟩ hs => ⟨vl, e, h.stp hs h0.1 (Ne.symm hb)⟩, st_eq _, st_eq _, fun _ _ _ _ _ _ h0 hb ⟨vl, e, h⟩ hs => ⟨vl, e, h.stp hs h0.1 (Ne.symm hb)⟩, st_eq _, trivial⟩ ?_ ?_
                · rintro t9 o1 w1 o2 w2 ht9 ⟨hB, h37, h38, h8, h13, h131, h163, h164⟩ hs9
                  have ht9 : t9 = 999 := by simpa using ht9
                  subst ht9
                  all_goals exact ⟨hB.stp hs9 (by decide), h37.stp hs9 (by decide) (by decide), h38.stp hs9 (by decide) (by decide), h8.stp hs9 (by decide), h13.stp hs9 (by decide), h131.stp hs9 (by decide), h163.stp hs9 (by decide) (by decide), h164.stp hs9 (by decide) (by decide)⟩
                · refine ⟨?_, ?_, ?_, ?_, ?_, ?_, ?_, trivial⟩
                  · rintro o194 w195 a196 ha ⟨hB, h37, h38, h8, h13, h131, h163, h164⟩ -
                    refine opS_of ha (trivial) ?_
                    refine op1_val (ex_loadA rfl Try.isAgg29 Try.sizeOf29 rfl h8.cells) ?_
                    exact ⟨_, Stp.refl _ _ _, rfl⟩
                  · rintro o197 w198 a199 ha ⟨hB, h37, h38, h8, h13, h131, h163, h164⟩ -
                    refine opS_of ha (trivial) ?_
                    refine op1_val (ex_move rfl) ?_
                    exact ⟨_, Stp.refl _ _ _, rfl⟩
                  · rintro o200 w201 a202 ha ⟨hB, h37, h38, h8, h13, h131, h163, h164⟩ ⟨r203, -⟩
                    have ha := Fr.cons (d := 68) ha r203
                    refine opS_of ha (trivial) ?_
                    refine wd_indexW (h38.at h154 h155) hx188 rfl rfl Try.underlying25 Try.sizeOf3 ?_
                    exact ⟨_, Stp.refl _ _ _, ⟨_, rfl, (h38.at h154 h155)⟩⟩
                  · rintro o204 w205 a206 ha ⟨hB, h37, h38, h8, h13, h131, h163, h164⟩ ⟨r207, -⟩
                    obtain ⟨v208, e209, h210⟩ := r207
                    have ha := Fr.cons (d := 69) ha e209
                    refine opS_of ha (trivial) ?_
                    refine wd_load1W h210 hx188 rfl rfl Try.isAgg3 ?_
                    intro c211 h212
                    cases h212
                    exact ⟨_, Stp.refl _ _ _, rfl⟩
                  · rintro o213 w214 a215 ha ⟨hB, h37, h38, h8, h13, h131, h163, h164⟩ -
                    refine opS_of ha (trivial) ?_
                    refine op1_val (ex_move rfl) ?_
                    exact ⟨_, Stp.refl _ _ _, rfl⟩
                  · rintro o216 w217 a218 ha ⟨hB, h37, h38, h8, h13, h131, h163, h164⟩ ⟨r219, -⟩
                    have ha := Fr.cons (d := 71) ha r219
                    refine opS_of ha (trivial) ?_
                    refine wd_indexW (h38.at h181 h182) hx191 rfl rfl Try.underlying25 Try.sizeOf3 ?_
                    exact ⟨_, Stp.refl _ _ _, ⟨_, rfl, (h38.at h181 h182)⟩⟩
                  · rintro o220 w221 a222 ha ⟨hB, h37, h38, h8, h13, h131, h163, h164⟩ ⟨r223, -⟩
                    obtain ⟨v224, e225, h226⟩ := r223
                    have ha := Fr.cons (d := 72) ha e225
                    refine opS_of ha (trivial) ?_
                    refine wd_load1W h226 hx191 rfl rfl Try.isAgg3 ?_
                    intro c227 h228
                    cases h228
                    exact ⟨_, Stp.refl _ _ _, rfl⟩
                rintro o229 w230 a231 ha ⟨hB, h37, h38, h8, h13, h131, h163, h164⟩ ⟨r232, -, -, r233, -, -, r234, -⟩
                have ha := Fr.cons (d := 67) ha r232
                have ha := Fr.cons (d := 70) ha r233
                have ha := Fr.cons (d := 73) ha r234
                refine wl_of ha ?_
                simp only [List.length_cons, List.length_nil, Nat.zero_add, Nat.reduceAdd, List.drop_succ_cons, List.drop_zero]
                obtain ⟨x235, hx235, b175⟩ := bind_some b175
                refine st_op (by decide) trivial ?_
                refine wf_call (cI_Problem_edge fuel w230 _ p0 (⟨_, _, rfl, (h2.keep hB.keeps), (h4.keep hB.keeps)⟩) x188 x191 x235 hx235) Try.call119 ⟨rfl, rfl, rfl, trivial⟩ ?_
                rintro e240 w236 ⟨rfl, k237⟩
                have s239 := k237.stp 999 o229
                refine ⟨_, rfl, ?_⟩
                replace h37 := h37.stp s239 (by decide) (by decide)
                replace h38 := h38.stp s239 (by decide) (by decide)
                replace h8 := h8.stp s239 (by decide)
                replace h13 := h13.stp s239 (by decide)
                replace h131 := h131.stp s239 (by decide)
                replace h163 := h163.stp s239 (by decide) (by decide)
                replace h164 := h164.stp s239 (by decide) (by decide)
                replace hB := hB.stp s239 (by decide)
                refine wpF_end (r := [(1, (.pointer (some ⟨b7, 0, none⟩))), (2, (.pointer (some ⟨b12, 0, none⟩))), (5, v36), (8, (.pointer (some ⟨b126, 0, none⟩))), (9, (.int .i64 i141)), (10, v152), (11, (.int .i64 i168)), (53, v36), (54, (.int .i64 (y35.length : Int))), (55, (.int .i64 i141)), (60, v36), (61, (.int .i64 (y35.length : Int))), (62, (.int .i64 i168)), (74, (.bool x235))]) ⟨rfl, rfl, rfl, rfl, rfl, rfl, rfl, rfl, rfl, rfl, rfl, rfl, rfl, rfl, trivial⟩ ?_
                refine nx ?_
                refine wpC_cond rfl (fun t241 => ?_) (fun t241 => ?_)
                · rw [if_pos t241] at b175
                  refine wpC_region ?_
                  refine st_val (ex_field rfl Try.underlying74 rfl Try.sizeOf22) (by decide) trivial ?_
                  refine st_val (ex_load1 rfl Try.isAgg22 (h131.cell rfl)) (by decide) trivial ?_
                  refine st_val (ex_move rfl) (by decide) trivial ?_
                  refine st_val (ex_move rfl) (by decide) trivial ?_
                  refine st_op (by decide) trivial ?_
                  refine wf_litW w.heap.size 23 hB.keeps.size (o := o229) (cs := [(.int .i64 i141), (.int .i64 i168)]) (xs := ([i141, i168] : List Int)) (vs := [(0, (.int .i64 i141)), (1, (.int .i64 i168))]) ⟨_, _, rfl, rfl, ⟨_, _, rfl, rfl, rfl⟩⟩ rfl ⟨rfl, rfl, rfl, rfl, trivial⟩ Try.underlying25 Try.sizeOf3 Try.zeroValue3 (by decide) (fill2 rfl rfl) (by simp) ?_
                  intro o242 w243 v244 h245 s246
                  replace h37 := h37.stp s246 (by decide) (by decide)
                  replace h38 := h38.stp s246 (by decide) (by decide)
                  replace h163 := h163.stp s246 (by decide) (by decide)
                  replace h164 := h164.stp s246 (by decide) (by decide)
                  replace h8 := h8.stp s246 (by decide)
                  replace h13 := h13.stp s246 (by decide)
                  replace h131 := h131.stp s246 (by decide)
                  replace hB := hB.stp s246 (by decide)
                  refine st_op (by decide) trivial ?_
                  refine wf_litR (o := o242) (cs := [v244]) (xs := ([⟨v244⟩] : List Hv)) (vs := [(0, v244)]) ⟨_, _, rfl, rd_hv h245, rfl⟩ rfl ⟨rfl, rfl, trivial⟩ Try.underlying22 Try.sizeOf25 Try.zeroValue25 (by decide) (fill1 h245.cells1) (by simp) ?_
                  intro o247 w248 v249 h250 s251 k252
                  replace h37 := h37.stp s251 (by decide) (by decide)
                  replace h38 := h38.stp s251 (by decide) (by decide)
                  replace h163 := h163.stp s251 (by decide) (by decide)
                  replace h164 := h164.stp s251 (by decide) (by decide)
                  replace h245 := h245.stp s251 (by decide) (by decide)
                  replace h8 := h8.stp s251 (by decide)
                  replace h13 := h13.stp s251 (by decide)
                  replace h131 := h131.stp s251 (by decide)
                  replace hB := hB.stp s251 (by decide)
                  obtain ⟨x253, hx253, b175⟩ := bind_some b175
                  obtain ⟨h254, h255⟩ := h164.pushV hx253 v244
                  refine st_op (by decide) trivial ?_
                  refine wf_cat h163 h250 (push_cat h254) (by decide) hB.keeps.size rfl rfl Try.underlying22 info2_t_Lint_W rfl (by decide) ?_
                  intro o256 w257 v258 h259 s260
                  replace h37 := h37.stp s260 (by decide) (by decide)
                  replace h38 := h38.stp s260 (by decide) (by decide)
                  replace h164 := h164.stp s260 (by decide) (by decide)
                  replace h245 := h245.stp s260 (by decide) (by decide)
                  replace h8 := h8.stp s260 (by decide)
                  replace h13 := h13.stp s260 (by decide)
                  replace h131 := h131.stp s260 (by decide)
                  replace hB := hB.stp s260 (by decide)
                  have h261 := h164.push h245 (by decide) (by decide)
                  rw [← h255] at h261
                  clear h164 h245
                  have r262 := mrg_rc 23 21 o256
                  replace h37 := h37.rc r262 (by decide) (by decide)
                  replace h38 := h38.rc r262 (by decide) (by decide)
                  replace h259 := h259.rc r262 (by decide) (by decide)
                  replace h8 := h8.rc r262 (by decide)
                  replace h13 := h13.rc r262 (by decide)
                  replace h131 := h131.rc r262 (by decide)
                  replace hB := hB.rc r262 (by decide)
                  generalize mrg 23 21 o256 = o263 at *
                  refine st_val (ex_field rfl Try.underlying74 rfl Try.sizeOf22) (by decide) trivial ?_
                  refine st_op0 trivial ?_
                  refine wf_storeB h131 rfl rfl (of_decide_eq_true rfl) Try.sizeOf22 h259.cells1 h259.one1 ?_
                  intro w264 h266 s265
                  replace h37 := h37.stp s265 (by decide) (by decide)
                  replace h38 := h38.stp s265 (by decide) (by decide)
                  replace h259 := h259.stp s265 (by decide) (by decide)
                  replace h261 := h261.stp s265 (by decide) (by decide)
                  replace h8 := h8.stp s265 (by decide)
                  replace h13 := h13.stp s265 (by decide)
                  replace hB := hB.stp s265 (by decide)
                  replace h266 : Bx w.heap.size 19 o263 w264 b126 74 [(.int .i64 (y35.length : Int)), v258] := h266
                  refine wpF_end (r := [(1, (.pointer (some ⟨b7, 0, none⟩))), (2, (.pointer (some ⟨b12, 0, none⟩))), (5, v36), (8, (.pointer (some ⟨b126, 0, none⟩))), (9, (.int .i64 i141)), (10, v152), (53, v36), (54, (.int .i64 (y35.length : Int))), (55, (.int .i64 i141)), (60, v36), (61, (.int .i64 (y35.length : Int))), (62, (.int .i64 i168))]) ⟨rfl, rfl, rfl, rfl, rfl, rfl, rfl, rfl, rfl, rfl, rfl, rfl, trivial⟩ ?_
                  refine nb_norm ?_
                  refine nx ?_
                  refine wpC_region ?_
                  refine st_val (ex_add rfl rfl (ck_in (by omega) (by omega))) (by decide) trivial ?_
                  refine st_val (ex_move rfl) (by decide) trivial ?_
                  refine wpF_end (r := [(1, (.pointer (some ⟨b7, 0, none⟩))), (2, (.pointer (some ⟨b12, 0, none⟩))), (5, v36), (8, (.pointer (some ⟨b126, 0, none⟩))), (9, (.int .i64 i141)), (10, v152), (53, v36), (54, (.int .i64 (y35.length : Int))), (55, (.int .i64 i141)), (60, v36), (61, (.int .i64 (y35.length : Int))), (62, (.int .i64 (i168 + 1)))]) ⟨rfl, rfl, rfl, rfl, rfl, rfl, rfl, rfl, rfl, rfl, rfl, rfl, trivial⟩ ?_
                  refine nt_norm ?_
                  have e267 := Option.some.inj b175
                  subst e267
                  refine to_k (r := [(1, (.pointer (some ⟨b7, 0, none⟩))), (2, (.pointer (some ⟨b12, 0, none⟩))), (5, v36), (8, (.pointer (some ⟨b126, 0, none⟩))), (9, (.int .i64 i141)), (10, v152), (53, v36), (54, (.int .i64 (y35.length : Int))), (55, (.int .i64 i141)), (60, v36), (61, (.int .i64 (y35.length : Int))), (62, (.int .i64 (i168 + 1)))]) ⟨rfl, rfl, rfl, rfl, rfl, rfl, rfl, rfl, rfl, rfl, rfl, rfl, trivial⟩ ?_
                  intro a ha
                  exact ⟨_, (by rw [← m172]; simp only [List.length_drop]; omega), i168 + 1, x253, v258, (g165 ++ [⟨v244⟩]), o263, n176, rfl, (by omega), ha, hB, h37, h38, h8, h13, h266, h259, h261⟩
                · rw [if_neg (by rw [t241]; decide)] at b175
                  refine wpC_skip ?_
                  refine nb_norm ?_
                  refine nx ?_
                  refine wpC_region ?_
                  refine st_val (ex_add rfl rfl (ck_in (by omega) (by omega))) (by decide) trivial ?_
                  refine st_val (ex_move rfl) (by decide) trivial ?_
                  refine wpF_end (r := [(1, (.pointer (some ⟨b7, 0, none⟩))), (2, (.pointer (some ⟨b12, 0, none⟩))), (5, v36), (8, (.pointer (some ⟨b126, 0, none⟩))), (9, (.int .i64 i141)), (10, v152), (53, v36), (54, (.int .i64 (y35.length : Int))), (55, (.int .i64 i141)), (60, v36), (61, (.int .i64 (y35.length : Int))), (62, (.int .i64 (i168 + 1)))]) ⟨rfl, rfl, rfl, rfl, rfl, rfl, rfl, rfl, rfl, rfl, rfl, rfl, trivial⟩ ?_
                  refine nt_norm ?_
                  have e268 := Option.some.inj b175
                  subst e268
                  refine to_k (r := [(1, (.pointer (some ⟨b7, 0, none⟩))), (2, (.pointer (some ⟨b12, 0, none⟩))), (5, v36), (8, (.pointer (some ⟨b126, 0, none⟩))), (9, (.int .i64 i141)), (10, v152), (53, v36), (54, (.int .i64 (y35.length : Int))), (55, (.int .i64 i141)), (60, v36), (61, (.int .i64 (y35.length : Int))), (62, (.int .i64 (i168 + 1)))]) ⟨rfl, rfl, rfl, rfl, rfl, rfl, rfl, rfl, rfl, rfl, rfl, rfl, trivial⟩ ?_
                  intro a ha
                  exact ⟨_, (by rw [← m172]; simp only [List.length_drop]; omega), i168 + 1, y161, v162, g165, o229, n176, rfl, (by omega), ha, hB, h37, h38, h8, h13, h131, h163, h164⟩
              · have r269 := forI_done t177 l170
                refine wp_of ha ?_
                refine wpC_seq ?_
                refine wpC_region ?_
                refine st_val (ex_lss rfl rfl) (by decide) trivial ?_
                refine wpF_end (r := [(1, (.pointer (some ⟨b7, 0, none⟩))), (2, (.pointer (some ⟨b12, 0, none⟩))), (5, v36), (8, (.pointer (some ⟨b126, 0, none⟩))), (9, (.int .i64 i141)), (10, v152), (53, v36), (54, (.int .i64 (y35.length : Int))), (55, (.int .i64 i141)), (60, v36), (61, (.int .i64 (y35.length : Int))), (62, (.int .i64 i168)), (63, (.bool (decide (i168 < (y35.length : Int)))))]) ⟨rfl, rfl, rfl, rfl, rfl, rfl, rfl, rfl, rfl, rfl, rfl, rfl, rfl, trivial⟩ ?_
                refine nx ?_
                refine wpC_seq ?_
                refine wpC_false (congrArg (fun b => some (Value.bool b)) (decide_eq_false t177)) ?_
                refine wpC_exit ?_
                refine nt_exit ?_
                refine nt_exit ?_
                refine nb_hit ?_
                refine np_norm ?_
                refine to_k (r := [(1, (.pointer (some ⟨b7, 0, none⟩))), (2, (.pointer (some ⟨b12, 0, none⟩))), (5, v36), (8, (.pointer (some ⟨b126, 0, none⟩))), (53, v36), (54, (.int .i64 (y35.length : Int))), (55, (.int .i64 i141))]) ⟨rfl, rfl, rfl, rfl, rfl, rfl, rfl, trivial⟩ ?_
                intro a ha
                exact ⟨y161, v162, g165, o166, r269, ha, hB, h37, h38, h8, h13, h131, h163, h164⟩
            · rintro a w167 ⟨y161, v162, g165, o166, rfl, ha, hB, h37, h38, h8, h13, h131, h163, h164⟩
              dsimp only at b148
              refine ap_k ha ?_
              refine nb_norm ?_
              refine nx ?_
              refine wpC_region ?_
              refine st_val (ex_add rfl rfl (ck_in (by omega) (by omega))) (by decide) trivial ?_
              refine st_val (ex_move rfl) (by decide) trivial ?_
              refine wpF_end (r := [(1, (.pointer (some ⟨b7, 0, none⟩))), (2, (.pointer (some ⟨b12, 0, none⟩))), (5, v36), (8, (.pointer (some ⟨b126, 0, none⟩))), (53, v36), (54, (.int .i64 (y35.length : Int))), (55, (.int .i64 (i141 + 1)))]) ⟨rfl, rfl, rfl, rfl, rfl, rfl, rfl, trivial⟩ ?_
              refine nt_norm ?_
              have e270 := Option.some.inj b148
              subst e270
              refine to_k (r := [(1, (.pointer (some ⟨b7, 0, none⟩))), (2, (.pointer (some ⟨b12, 0, none⟩))), (5, v36), (8, (.pointer (some ⟨b126, 0, none⟩))), (53, v36), (54, (.int .i64 (y35.length : Int))), (55, (.int .i64 (i141 + 1)))]) ⟨rfl, rfl, rfl, rfl, rfl, rfl, rfl, trivial⟩ ?_
              intro a ha
              exact ⟨_, (by rw [← m145]; simp only [List.length_drop]; omega), i141 + 1, y161, v162, g165, o166, n149, rfl, (by omega), ha, hB, h37, h38, h8, h13, h131, h163, h164⟩
            · exact fun _ _ h => h.elim
          · have r271 := forI_done t150 l143
            refine wp_of ha ?_
            refine wpC_seq ?_
            refine wpC_region ?_
            refine st_val (ex_lss rfl rfl) (by decide) trivial ?_
            refine wpF_end (r := [(1, (.pointer (some ⟨b7, 0, none⟩))), (2, (.pointer (some ⟨b12, 0, none⟩))), (5, v36), (8, (.pointer (some ⟨b126, 0, none⟩))), (53, v36), (54, (.int .i64 (y35.length : Int))), (55, (.int .i64 i141)), (56, (.bool (decide (i141 < (y35.length : Int)))))]) ⟨rfl, rfl, rfl, rfl, rfl, rfl, rfl, rfl, trivial⟩ ?_
            refine nx ?_
            refine wpC_seq ?_
            refine wpC_false (congrArg (fun b => some (Value.bool b)) (decide_eq_false t150)) ?_
            refine wpC_exit ?_
            refine nt_exit ?_
            refine nt_exit ?_
            refine nb_hit ?_
            refine np_norm ?_
            refine to_k (r := [(2, (.pointer (some ⟨b12, 0, none⟩))), (5, v36), (8, (.pointer (some ⟨b126, 0, none⟩)))]) ⟨rfl, rfl, rfl, trivial⟩ ?_
            intro a ha
            exact ⟨y134, v135, g138, o139, r271, ha, hB, h37, h38, h13, h131, h136, h137⟩
        · rintro a w140 ⟨y134, v135, g138, o139, rfl, ha, hB, h37, h38, h13, h131, h136, h137⟩
          dsimp only at hF
          refine ap_k ha ?_
          refine nx ?_
          refine wpC_seq ?_
          refine wpC_region ?_
          refine st_val (ex_loadA rfl Try.isAgg74 Try.sizeOf74 rfl h131.cells) (by decide) trivial ?_
          refine st_val (ex_move rfl) (by decide) trivial ?_
          refine st_op0 trivial ?_
          refine wf_storeA h13 rfl rfl rfl info1_t_impl_WalkProblem_W (by intro c hc; simp only [List.mem_cons, List.not_mem_nil, or_false] at hc; rcases hc with rfl | rfl <;> first | rfl | exact h136.one1) ?_
          intro w272 h274 s273
          replace h37 := h37.stp s273 (by decide) (by decide)
          replace h38 := h38.stp s273 (by decide) (by decide)
          replace h136 := h136.stp s273 (by decide) (by decide)
          replace h137 := h137.stp s273 (by decide) (by decide)
          replace h131 := h131.stp s273 (by decide)
          replace hB := hB.stp s273 (by decide)
          refine st_val (ex_assign rfl) (by decide) trivial ?_
          refine st_val (ex_assign rfl) (by decide) trivial ?_
          refine wpF_end (r := [(2, (.pointer (some ⟨b12, 0, none⟩))), (3, v36), (4, (.bool true))]) ⟨rfl, rfl, rfl, trivial⟩ ?_
          refine nx ?_
          refine wpC_ret ?_
          have h275 := Dz.of h136 h137 (by decide) (by decide) (by decide)
          have r276 := frz_rc 20 o139
          have r277 := frz_rc 21 (frz 20 o139)
          replace h37 := (h37.rc r276 (by decide) (by decide)).rc r277 (by decide) (by decide)
          replace h38 := (h38.rc r276 (by decide) (by decide)).rc r277 (by decide) (by decide)
          replace h274 := (h274.rc r276 (by decide)).rc r277 (by decide)
          replace h131 := (h131.rc r276 (by decide)).rc r277 (by decide)
          replace hB := (hB.rc r276 (by decide)).rc r277 (by decide)
          clear r276 r277
          generalize frz 21 (frz 20 o139) = o279 at *
          have h278 := h275.rd
          have e280 := Option.some.inj hF
          subst e280
          refine ret_post (P := Try.prog) (vs := [(.agg #[(.int .i64 (y35.length : Int)), v135]), v36, (.bool true)]) Try.results62 ⟨⟨_, rfl, run_loadA Try.isAgg74 Try.sizeOf74 rfl h274.cells⟩, rfl, rfl, trivial⟩ ?_
          exact ⟨[(.int .i64 (y35.length : Int)), v135], _, g39, rt2 oo o279 w.heap.size 14 15 t, rfl, ⟨_, rfl, h278.rt2 hB 14 15 t (by decide) (by decide)⟩, h275.rt2 hB 14 15 t (by decide) (by decide), h37.rt2 hB (by decide) (by decide) t, h38.rt2 hB (by decide) (by decide) (by decide) t, hB.keeps, rt2_old _ _ _ _ _ _⟩
        · exact fun _ _ h => h.elim
    · exact fun _ _ h => h.elim

end Go.Proofs.Ytiejigogmnkjdaa
