/- slices.isNaN[int], slices.Clone[[]int,int], slices.BinarySearch[[]int,int], slices.BinarySearchFunc[[][]int,[]int,[]int], impl.hasConfiguration: plain functions, and the walks that show that the program computes them (printed by gen.py). -/
import Derived.Test.YtjmhjobfiemmnaaGB
import Derived.Test.YtjmhjobfiemmnaaKc
import Derived.Test.YtjmhjobfiemmnaaVals
namespace Go.Proofs.Ytjmhjobfiemmnaa
open Go.RowKit
set_option linter.unusedSimpArgs false
set_option linter.unusedVariables false

theorem info2_t_int_N : Inf Try.prog 3 (.int .i64 0) 1 8 := by unfold Inf; kernel_rfl

def fX_slices_isNaN_int (p0 : Int) : Option Bool :=
  some (p0 != p0)

def fX_slices_Clone_int_int (p0 : List Int) : Option (List Int) :=
  (cat ([] : List Int) p0) >>= fun x9 =>
  some x9

def fX_slices_BinarySearch_int_int_s1 (p0 : List Int) (p1 : Int) : (Int × Int) → Option (Lp (Int × Int) (Int × Int) (Int × Bool)) := fun (s : Int × Int) =>
  if decide (s.1 < s.2) then
    (ck (s.1 + s.2)) >>= fun x16 =>
    (cvU x16) >>= fun x17 =>
    (shr x17 1) >>= fun x18 =>
    (cvU x18) >>= fun x19 =>
    (ix p0 x19) >>= fun x20 =>
    (fX_cmp_Less_int x20 p1) >>= fun x26 =>
    if x26 then
      (ck (x19 + 1)) >>= fun x33 =>
      some (.go (x33, s.2))
    else
      some (.go (s.1, x19))
  else
    some (.out (s.1, s.2))
def fX_slices_BinarySearch_int_int (fuel : Nat) (p0 : List Int) (p1 : Int) : Option (Int × Bool) :=
  (loopF (fX_slices_BinarySearch_int_int_s1 p0 p1) fuel (0, (p0.length : Int))) >>= fun q5 =>
  match q5 with
  | .inl (y1, y2) =>
    (
      if decide (y1 < (p0.length : Int)) then
        (ix p0 y1) >>= fun x41 =>
        if x41 == p1 then
          some true
        else
          (ix p0 y1) >>= fun x48 =>
          (fX_slices_isNaN_int x48) >>= fun x54 =>
          if x54 then
            (fX_slices_isNaN_int p1) >>= fun x61 =>
            some x61
          else
            some false
      else
        some false) >>= fun q37 =>
    some (y1, q37)
  | .inr _ => none

def fX_slices_BinarySearchFunc_LLint_int_int_s1 (p0 : List (List Int)) (p1 : List Int) (p2 : ((List Int) × (List Int)) → Option Int) : (Int × Int) → Option (Lp (Int × Int) (Int × Int) (Int × Bool)) := fun (s : Int × Int) =>
  if decide (s.1 < s.2) then
    (ck (s.1 + s.2)) >>= fun x16 =>
    (cvU x16) >>= fun x17 =>
    (shr x17 1) >>= fun x18 =>
    (cvU x18) >>= fun x19 =>
    (ix p0 x19) >>= fun x20 =>
    (p2 (x20, p1)) >>= fun x28 =>
    if decide (x28 < 0) then
      (ck (x19 + 1)) >>= fun x33 =>
      some (.go (x33, s.2))
    else
      some (.go (s.1, x19))
  else
    some (.out (s.1, s.2))
def fX_slices_BinarySearchFunc_LLint_int_int (fuel : Nat) (p0 : List (List Int)) (p1 : List Int) (p2 : ((List Int) × (List Int)) → Option Int) : Option (Int × Bool) :=
  (loopF (fX_slices_BinarySearchFunc_LLint_int_int_s1 p0 p1 p2) fuel (0, (p0.length : Int))) >>= fun q5 =>
  match q5 with
  | .inl (y1, y2) =>
    (
      if decide (y1 < (p0.length : Int)) then
        (ix p0 y1) >>= fun x41 =>
        (p2 (x41, p1)) >>= fun x49 =>
        some (x49 == 0)
      else
        some false) >>= fun q37 =>
    some (y1, q37)
  | .inr _ => none

def pX_slices_BinarySearchFunc_LLint_int_int (w : World) (r : Int × Bool) : Ending → World → Prop := fun e w' => e = .returned (.tuple #[.int .i64 r.1, .bool r.2]) ∧ Keeps w w'
set_option maxRecDepth 100000 in
set_option maxHeartbeats 2000000 in
theorem cX_slices_BinarySearchFunc_LLint_int_int (fuel : Nat) (w : World) (u0 : Value) (p0 : List (List Int)) (g0 : RdL zt w u0 p0) (u1 : Value) (p1 : List Int) (g1 : RdL zt w u1 p1) (u2 : Value) (p2 : ((List Int) × (List Int)) → Option Int) (g2 : FnV Try.prog w u2 p2) (r : Int × Bool) (hF : fX_slices_BinarySearchFunc_LLint_int_int fuel p0 p1 p2 = some r) :
    Calls Try.prog 50 #[u0, u1, u2] w (pX_slices_BinarySearchFunc_LLint_int_int w r) := by
  unfold fX_slices_BinarySearchFunc_LLint_int_int at hF
  have hB : Bs (fun _ => 1) (col (fun _ => 1)) w w := Bs.start _ _
  refine calls_start (n := 49) (vs := [u0, u1, u2]) Try.func50 rfl rfl ?_
  refine wpC_seq ?_
  refine wpC_region ?_
  refine st_val (ex_assign rfl) (by decide) trivial ?_
  refine st_val (ex_assign rfl) (by decide) trivial ?_
  refine wpF_end (r := [(0, u0), (1, u1), (2, u2)]) ⟨rfl, rfl, rfl, trivial⟩ ?_
  refine nx ?_
  refine wpC_seq ?_
  refine wpC_region ?_
  refine st_val (ex_move rfl) (by decide) trivial ?_
  refine st_val (ex_lenR rfl g0 Try.underlying22) (by decide) trivial ?_
  refine st_val (ex_assign rfl) (by decide) trivial ?_
  refine wpF_end (r := [(0, u0), (1, u1), (2, u2), (8, (.int .i64 (p0.length : Int)))]) ⟨rfl, rfl, rfl, rfl, trivial⟩ ?_
  refine nx ?_
  refine wpC_seq ?_
  refine wpC_region ?_
  refine st_val (ex_move rfl) (by decide) trivial ?_
  refine st_val (ex_assign rfl) (by decide) trivial ?_
  refine st_val (ex_assign rfl) (by decide) trivial ?_
  refine wpF_end (r := [(0, u0), (1, u1), (2, u2), (8, (.int .i64 (p0.length : Int))), (9, (.int .i64 0)), (10, (.int .i64 (p0.length : Int)))]) ⟨rfl, rfl, rfl, rfl, rfl, rfl, trivial⟩ ?_
  refine nx ?_
  obtain ⟨q5, hq5, hF⟩ := bind_some hF
  refine wpC_cutP (fun a w4 => ∃ (y1 : Int) (y2 : Int) (o3 : Tg), q5 = .inl (y1, y2) ∧ Fr a 49 [(0, u0), (1, u1), (2, u2), (8, (.int .i64 (p0.length : Int))), (9, (.int .i64 y1))] ∧ Bs (fun _ => 1) o3 w w4) (fun _ _ => False) ?_ ?_ ?_
  · refine wpC_block ?_
    refine wpC_loop (fun (K : Nat) a w4 => ∃ (y1 : Int) (y2 : Int) (o3 : Tg), loopF (fX_slices_BinarySearchFunc_LLint_int_int_s1 p0 p1 p2) K (y1, y2) = some q5 ∧ Fr a 49 [(0, u0), (1, u1), (2, u2), (8, (.int .i64 (p0.length : Int))), (9, (.int .i64 y1)), (10, (.int .i64 y2))] ∧ Bs (fun _ => 1) o3 w w4) fuel (fun a ha => ⟨0, (p0.length : Int), (col (fun _ => 1)), hq5, ha.sub (r := [(0, u0), (1, u1), (2, u2), (8, (.int .i64 (p0.length : Int))), (9, (.int .i64 0)), (10, (.int .i64 (p0.length : Int)))]) ⟨rfl, rfl, rfl, rfl, rfl, rfl, trivial⟩, hB⟩) ?_
    rintro K9 a w4 ⟨y1, y2, o3, l6, ha, hB⟩
    obtain ⟨K13, q10, e14, b11, n12⟩ := loopF_cons l6
    dsimp only [fX_slices_BinarySearchFunc_LLint_int_int_s1] at b11
    refine wp_of ha ?_
    refine wpC_seq ?_
    refine wpC_seq ?_
    refine wpC_region ?_
    refine st_val (ex_move rfl) (by decide) trivial ?_
    refine st_val (ex_move rfl) (by decide) trivial ?_
    refine st_val (ex_lss rfl rfl) (by decide) trivial ?_
    refine wpF_end (r := [(0, u0), (1, u1), (2, u2), (8, (.int .i64 (p0.length : Int))), (9, (.int .i64 y1)), (10, (.int .i64 y2)), (17, (.bool (decide (y1 < y2))))]) ⟨rfl, rfl, rfl, rfl, rfl, rfl, rfl, trivial⟩ ?_
    refine nx ?_
    refine wpC_cond rfl (fun t15 => ?_) (fun t15 => ?_)
    · rw [if_pos t15] at b11
      refine wpC_skip ?_
      refine nx ?_
      refine wpC_block ?_
      refine wpC_seq ?_
      refine wpC_region ?_
      refine st_val (ex_move rfl) (by decide) trivial ?_
      refine st_val (ex_move rfl) (by decide) trivial ?_
      obtain ⟨x16, hx16, b11⟩ := bind_some b11
      refine st_val (ex_add rfl rfl hx16) (by decide) trivial ?_
      obtain ⟨x17, hx17, b11⟩ := bind_some b11
      refine st_val (ex_convU hx17 rfl Try.underlying3 Try.underlying58) (by decide) trivial ?_
      obtain ⟨x18, hx18, b11⟩ := bind_some b11
      refine st_val (ex_shrU rfl rfl hx18) (by decide) trivial ?_
      obtain ⟨x19, hx19, b11⟩ := bind_some b11
      refine st_val (ex_convI hx19 rfl Try.underlying58 Try.underlying3) (by decide) trivial ?_
      refine st_val (ex_assign rfl) (by decide) trivial ?_
      refine wpF_end (r := [(0, u0), (1, u1), (2, u2), (8, (.int .i64 (p0.length : Int))), (9, (.int .i64 y1)), (10, (.int .i64 y2)), (11, (.int .i64 x19))]) ⟨rfl, rfl, rfl, rfl, rfl, rfl, rfl, trivial⟩ ?_
      refine nx ?_
      refine wpC_seq ?_
      refine wpC_region ?_
      refine st_val (ex_move rfl) (by decide) trivial ?_
      refine st_val (ex_move rfl) (by decide) trivial ?_
      refine st_val (ex_move rfl) (by decide) trivial ?_
      obtain ⟨x20, hx20, b11⟩ := bind_some b11
      refine st_op (by decide) trivial ?_
      refine wf_atZ g0 hx20 hB rfl rfl Try.underlying22 Try.sizeOf25 ?_
      intro b21 f22 c23 h24 h25
      obtain ⟨v26, rfl, h27⟩ := h25
      refine st_val (ex_load1 rfl Try.isAgg25 (cell_of_cells h24)) (by decide) trivial ?_
      refine st_val (ex_move rfl) (by decide) trivial ?_
      obtain ⟨x28, hx28, b11⟩ := bind_some b11
      refine st_op (by decide) trivial ?_
      refine wf_callv (x := (x20, p1)) (vs := [v26, u1]) (g2.keep hB.keeps) hx28 ⟨[v26], [u1], rfl, ⟨_, rfl, (h27.keep hB.keeps)⟩, ⟨_, rfl, (g1.keep hB.keeps)⟩⟩ rfl ⟨rfl, rfl, trivial⟩ ?_
      intro w29 k30
      have s31 := k30.stp 999 o3
      replace hB := hB.stp s31 (by decide)
      refine st_val (ex_lss rfl rfl) (by decide) trivial ?_
      refine wpF_end (r := [(0, u0), (1, u1), (2, u2), (8, (.int .i64 (p0.length : Int))), (9, (.int .i64 y1)), (10, (.int .i64 y2)), (11, (.int .i64 x19)), (31, (.bool (decide (x28 < 0))))]) ⟨rfl, rfl, rfl, rfl, rfl, rfl, rfl, rfl, trivial⟩ ?_
      refine nx ?_
      refine wpC_cond rfl (fun t32 => ?_) (fun t32 => ?_)
      · rw [if_pos t32] at b11
        refine wpC_region ?_
        refine st_val (ex_move rfl) (by decide) trivial ?_
        obtain ⟨x33, hx33, b11⟩ := bind_some b11
        refine st_val (ex_add rfl rfl hx33) (by decide) trivial ?_
        refine st_val (ex_assign rfl) (by decide) trivial ?_
        refine wpF_end (r := [(0, u0), (1, u1), (2, u2), (8, (.int .i64 (p0.length : Int))), (9, (.int .i64 x33)), (10, (.int .i64 y2))]) ⟨rfl, rfl, rfl, rfl, rfl, rfl, trivial⟩ ?_
        refine nb_norm ?_
        refine nt_norm ?_
        have e34 := Option.some.inj b11
        subst e34
        refine to_k (r := [(0, u0), (1, u1), (2, u2), (8, (.int .i64 (p0.length : Int))), (9, (.int .i64 x33)), (10, (.int .i64 y2))]) ⟨rfl, rfl, rfl, rfl, rfl, rfl, trivial⟩ ?_
        intro a ha
        exact ⟨K13, by omega, x33, y2, o3, n12, ha, hB⟩
      · rw [if_neg (by rw [t32]; decide)] at b11
        refine wpC_region ?_
        refine st_val (ex_move rfl) (by decide) trivial ?_
        refine st_val (ex_assign rfl) (by decide) trivial ?_
        refine wpF_end (r := [(0, u0), (1, u1), (2, u2), (8, (.int .i64 (p0.length : Int))), (9, (.int .i64 y1)), (10, (.int .i64 x19))]) ⟨rfl, rfl, rfl, rfl, rfl, rfl, trivial⟩ ?_
        refine nb_norm ?_
        refine nt_norm ?_
        have e35 := Option.some.inj b11
        subst e35
        refine to_k (r := [(0, u0), (1, u1), (2, u2), (8, (.int .i64 (p0.length : Int))), (9, (.int .i64 y1)), (10, (.int .i64 x19))]) ⟨rfl, rfl, rfl, rfl, rfl, rfl, trivial⟩ ?_
        intro a ha
        exact ⟨K13, by omega, y1, x19, o3, n12, ha, hB⟩
    · rw [if_neg (by rw [t15]; decide)] at b11
      refine wpC_exit ?_
      refine nt_exit ?_
      refine nt_exit ?_
      refine nb_hit ?_
      refine np_norm ?_
      have e36 := Option.some.inj b11
      subst e36
      refine to_k (r := [(0, u0), (1, u1), (2, u2), (8, (.int .i64 (p0.length : Int))), (9, (.int .i64 y1))]) ⟨rfl, rfl, rfl, rfl, rfl, trivial⟩ ?_
      intro a ha
      exact ⟨y1, y2, o3, n12, ha, hB⟩
  · rintro a w4 ⟨y1, y2, o3, rfl, ha, hB⟩
    dsimp only at hF
    refine wp_of ha ?_
    refine wpC_seq ?_
    refine wpC_region ?_
    refine st_val (ex_move rfl) (by decide) trivial ?_
    refine st_val (ex_move rfl) (by decide) trivial ?_
    refine st_val (ex_move rfl) (by decide) trivial ?_
    refine st_val (ex_lss rfl rfl) (by decide) trivial ?_
    refine st_val (ex_move rfl) (by decide) trivial ?_
    obtain ⟨q37, hq37, hF⟩ := bind_some hF
    refine wpF_cutAt 9 (fun a39 w38 => Fr a39 49 [(35, (.int .i64 y1)), (48, (.bool q37))] ∧ Keeps w4 w38) ?_ ?_
    all_goals simp only [List.take_succ_cons, List.take_zero, List.drop_succ_cons, List.drop_zero]
    · have kp : Keeps w4 w4 := Keeps.refl _
      rcases Bool.eq_false_or_eq_true (decide (y1 < (p0.length : Int))) with t40 | t40
      · rw [if_pos t40] at hq37
        refine st_val (ex_move rfl) (by decide) ⟨_, rfl, (congrArg (fun b => some (Value.bool b)) t40)⟩ ?_
        refine st_val (ex_move rfl) (by decide) ⟨_, rfl, (congrArg (fun b => some (Value.bool b)) t40)⟩ ?_
        refine st_val (ex_move rfl) (by decide) ⟨_, rfl, (congrArg (fun b => some (Value.bool b)) t40)⟩ ?_
        obtain ⟨x41, hx41, hq37⟩ := bind_some hq37
        refine st_op (by decide) ⟨_, rfl, (congrArg (fun b => some (Value.bool b)) t40)⟩ ?_
        refine wf_atZ g0 hx41 hB rfl rfl Try.underlying22 Try.sizeOf25 ?_
        intro b42 f43 c44 h45 h46
        obtain ⟨v47, rfl, h48⟩ := h46
        refine st_val (ex_load1 rfl Try.isAgg25 (cell_of_cells h45)) (by decide) ⟨_, rfl, (congrArg (fun b => some (Value.bool b)) t40)⟩ ?_
        refine st_val (ex_move rfl) (by decide) ⟨_, rfl, (congrArg (fun b => some (Value.bool b)) t40)⟩ ?_
        obtain ⟨x49, hx49, hq37⟩ := bind_some hq37
        refine st_op (by decide) ⟨_, rfl, (congrArg (fun b => some (Value.bool b)) t40)⟩ ?_
        refine wf_callv (x := (x41, p1)) (vs := [v47, u1]) (g2.keep hB.keeps) hx49 ⟨[v47], [u1], rfl, ⟨_, rfl, (h48.keep hB.keeps)⟩, ⟨_, rfl, (g1.keep hB.keeps)⟩⟩ rfl ⟨rfl, rfl, trivial⟩ ?_
        intro w50 k51
        have s52 := k51.stp 999 o3
        replace hB := hB.stp s52 (by decide)
        replace kp := Keeps.trans kp k51
        refine st_val (ex_eql rfl rfl) (by decide) ⟨_, rfl, (congrArg (fun b => some (Value.bool b)) t40)⟩ ?_
        refine st_val (ex_pick_t (congrArg (fun b => some (Value.bool b)) t40) rfl) (by decide) trivial ?_
        have hq372 := Option.some.inj hq37
        refine wpF_end (r := [(35, (.int .i64 y1)), (48, (.bool (x49 == 0)))]) ⟨rfl, rfl, trivial⟩ ?_
        subst hq372
        refine np_norm (fun a ha => ⟨ha, kp⟩)
      · rw [if_neg (by rw [t40]; decide)] at hq37
        refine st_no rfl rfl (by rw [t40]; rfl) (by decide) ?_
        refine st_no rfl rfl (by rw [t40]; rfl) (by decide) ?_
        refine st_no rfl rfl (by rw [t40]; rfl) (by decide) ?_
        refine st_no rfl rfl (by rw [t40]; rfl) (by decide) ?_
        refine st_no rfl rfl (by rw [t40]; rfl) (by decide) ?_
        refine st_no rfl rfl (by rw [t40]; rfl) (by decide) ?_
        refine st_no rfl rfl (by rw [t40]; rfl) (by decide) ?_
        refine st_no rfl rfl (by rw [t40]; rfl) (by decide) ?_
        refine st_val (ex_pick_f (congrArg (fun b => some (Value.bool b)) t40) rfl) (by decide) trivial ?_
        have hq372 := Option.some.inj hq37
        refine wpF_end (r := [(35, (.int .i64 y1)), (48, (.bool false))]) ⟨rfl, rfl, trivial⟩ ?_
        subst hq372
        refine np_norm (fun a ha => ⟨ha, kp⟩)
    rintro a55 w38 ⟨ha, k53⟩
    have s54 := k53.stp 999 o3
    replace hB := hB.stp s54 (by decide)
    refine wl_of ha ?_
    refine st_val (ex_assign rfl) (by decide) trivial ?_
    refine st_val (ex_assign rfl) (by decide) trivial ?_
    refine wpF_end (r := [(6, (.int .i64 y1)), (7, (.bool q37))]) ⟨rfl, rfl, trivial⟩ ?_
    refine nx ?_
    refine wpC_ret ?_
    have e56 := Option.some.inj hF
    subst e56
    refine ret_post (P := Try.prog) (vs := [(.int .i64 y1), (.bool q37)]) Try.results50 ⟨rfl, rfl, trivial⟩ ?_
    exact ⟨rfl, hB.keeps⟩
  · exact fun _ _ h => h.elim

def fI_hasConfiguration (fuel : Nat) (p0 : List (List Int)) (p1 : List Int) : Option Bool :=
  (srtO p1) >>= fun x15 =>
  (fX_slices_BinarySearchFunc_LLint_int_int fuel p0 x15 (fun (z18 : (List Int) × (List Int)) => fX_slices_Compare_int_int z18.1 z18.2)) >>= fun x27 =>
  some x27.2

end Go.Proofs.Ytjmhjobfiemmnaa
