/- spec.soInside, spec.FittingNodes, impl.includes, (impl.Problem).fitting, impl.FittingNodes: plain functions, and the walks that show that the program computes them (printed by gen.py). -/
import Derived.Test.YtiejigogmnkjdaaGR
namespace Go.Proofs.Ytiejigogmnkjdaa
open Go.RowKit
set_option linter.unusedSimpArgs false
set_option linter.unusedVariables false

theorem info2_t_Lint_V : Inf Try.prog 25 (.slice none 0 0) 1 24 := by unfold Inf; kernel_rfl

def fS_soInside_s2 (p0 : List Int) (x23 : Int) : Int → Option (Lp Int Int Bool) := fun (s : Int) =>
  (
    if decide (s < (p0.length : Int)) then
      (ix p0 s) >>= fun x48 =>
      some (decide (x48 < x23))
    else
      some false) >>= fun q44 =>
  if q44 then
    (ck (s + 1)) >>= fun x58 =>
    some (.go x58)
  else
    some (.out s)
def fS_soInside_s1 (fuel : Nat) (p0 : List Int) : Int → Int → Int → Option (Lp Int Int Bool) := fun (i13 : Int) (x23 : Int) (s : Int) =>
  if decide (x23 < 0) then
    some (.go s)
  else
    (loopF (fS_soInside_s2 p0 x23) fuel s) >>= fun q34 =>
    match q34 with
    | .inl y31 =>
      (
        if y31 == (p0.length : Int) then
          some true
        else
          (ix p0 y31) >>= fun x65 =>
          some (x65 != x23)) >>= fun q61 =>
      if q61 then
        some (.ret false)
      else
        (ck (y31 + 1)) >>= fun x76 =>
        some (.go x76)
    | .inr _ => none
def fS_soInside (fuel : Nat) (p0 : List Int) (p1 : List Int) : Option Bool :=
  (fS_prSorted fuel p1) >>= fun x1 =>
  (forI (fS_soInside_s1 fuel p0) x1 0 0) >>= fun q14 =>
  match q14 with
  | .inl y10 =>
    some true
  | .inr r' => some r'

def pS_soInside (w : World) (r : Bool) : Ending → World → Prop := fun e w' => e = .returned (.bool r) ∧ Keeps w w'
set_option maxRecDepth 100000 in
set_option maxHeartbeats 2000000 in
theorem cS_soInside (fuel : Nat) (w : World) (u0 : Value) (p0 : List Int) (g0 : RdL zt w u0 p0) (u1 : Value) (p1 : List Int) (g1 : RdL zt w u1 p1) (r : Bool) (hF : fS_soInside fuel p0 p1 = some r) :
    Calls Try.prog 80 #[u0, u1] w (pS_soInside w r) := by
  unfold fS_soInside at hF
  have hB : Bs (fun _ => 1) (col (fun _ => 1)) w w := Bs.start _ _
  refine calls_start (n := 46) (vs := [u0, u1]) Try.func80 rfl rfl ?_
  refine wpC_seq ?_
  refine wpC_region ?_
  refine st_val (ex_assign rfl) (by decide) trivial ?_
  refine wpF_end (r := [(0, u0), (1, u1)]) ⟨rfl, rfl, trivial⟩ ?_
  refine nx ?_
  refine wpC_seq ?_
  refine wpC_region ?_
  refine st_val (ex_assign rfl) (by decide) trivial ?_
  refine wpF_end (r := [(0, u0), (1, u1), (5, (.int .i64 0))]) ⟨rfl, rfl, rfl, trivial⟩ ?_
  refine nx ?_
  refine wpC_seq ?_
  refine wpC_seq ?_
  refine wpC_region ?_
  refine st_val (ex_move rfl) (by decide) trivial ?_
  obtain ⟨x1, hx1, hF⟩ := bind_some hF
  refine st_op (by decide) trivial ?_
  refine wf_call (cS_prSorted fuel w (col (fun _ => 1)) 11 (by decide) _ p1 (g1.keep hB.keeps) x1 hx1) Try.call129 ⟨rfl, trivial⟩ ?_
  rintro e8 w2 ⟨v3, o9, rfl, h4, k5, k6⟩
  have s7 := k5.stp' 11 k6
  replace h4 := h4.mono hB.keeps.size
  refine ⟨_, rfl, ?_⟩
  replace hB := hB.stp s7 (by decide)
  refine st_val (ex_lenO rfl h4 Try.underlying25) (by decide) trivial ?_
  refine st_val (ex_move rfl) (by decide) trivial ?_
  refine wpF_end (r := [(0, u0), (5, (.int .i64 0)), (9, v3), (10, (.int .i64 (x1.length : Int))), (11, (.int .i64 0))]) ⟨rfl, rfl, rfl, rfl, rfl, trivial⟩ ?_
  refine nx ?_
  obtain ⟨q14, hq14, hF⟩ := bind_some hF
  refine wpC_cutN (fun a w12 => ∃ (y10 : Int) (o11 : Tg), q14 = .inl y10 ∧ Fr a 46 [] ∧ Bs (fun _ => 1) o11 w w12) (fun a w' => ∃ r', q14 = .inr r' ∧ bodyPost Try.prog Try.f80 (pS_soInside w r') .ret a w') ?_ ?_ ?_
  · refine wpC_block ?_
    refine wpC_loop (fun (K : Nat) a w12 => ∃ (i13 : Int) (y10 : Int) (o11 : Tg), forI (fS_soInside_s1 fuel p0) (x1.drop i13.toNat) i13 y10 = some q14 ∧ (x1.drop i13.toNat).length = K ∧ 0 ≤ i13 ∧ Fr a 46 [(0, u0), (5, (.int .i64 y10)), (9, v3), (10, (.int .i64 (x1.length : Int))), (11, (.int .i64 i13))] ∧ Bs (fun _ => 1) o11 w w12 ∧ Ow w.heap.size 3 11 o11 w12 v3 x1) _ (fun a ha => ⟨0, 0, o9, hq14, rfl, Int.le_refl 0, ha.sub (r := [(0, u0), (5, (.int .i64 0)), (9, v3), (10, (.int .i64 (x1.length : Int))), (11, (.int .i64 0))]) ⟨rfl, rfl, rfl, rfl, rfl, trivial⟩, hB, h4⟩) ?_
    rintro K18 a w12 ⟨i13, y10, o11, l15, m17, z16, ha, hB, h4⟩
    by_cases t22 : i13 < (x1.length : Int)
    · obtain ⟨x23, q19, hx23, b20, n21⟩ := forI_cons z16 t22 l15
      have hle := h4.len_le
      dsimp only [fS_soInside_s1] at b20
      refine wp_of ha ?_
      refine wpC_seq ?_
      refine wpC_region ?_
      refine st_val (ex_lss rfl rfl) (by decide) trivial ?_
      refine wpF_end (r := [(0, u0), (5, (.int .i64 y10)), (9, v3), (10, (.int .i64 (x1.length : Int))), (11, (.int .i64 i13)), (12, (.bool (decide (i13 < (x1.length : Int)))))]) ⟨rfl, rfl, rfl, rfl, rfl, rfl, trivial⟩ ?_
      refine nx ?_
      refine wpC_seq ?_
      refine wpC_true (congrArg (fun b => some (Value.bool b)) (decide_eq_true t22)) ?_
      refine wpC_skip ?_
      refine nx ?_
      refine wpC_seq ?_
      refine wpC_block ?_
      refine wpC_seq ?_
      refine wpC_region ?_
      refine st_op (by decide) trivial ?_
      refine wf_atW h4 hx23 rfl rfl Try.underlying25 Try.sizeOf3 ?_
      intro b24 f25 c26 h27 h28
      cases h28
      refine st_val (ex_load1 rfl Try.isAgg3 (cell_of_cells h27)) (by decide) trivial ?_
      refine st_val (ex_assign rfl) (by decide) trivial ?_
      refine wpF_end (r := [(0, u0), (5, (.int .i64 y10)), (7, (.int .i64 x23)), (9, v3), (10, (.int .i64 (x1.length : Int))), (11, (.int .i64 i13))]) ⟨rfl, rfl, rfl, rfl, rfl, rfl, trivial⟩ ?_
      refine nx ?_
      refine wpC_seq ?_
      refine wpC_seq ?_
      refine wpC_region ?_
      refine st_val (ex_move rfl) (by decide) trivial ?_
      refine st_val (ex_lss rfl rfl) (by decide) trivial ?_
      refine wpF_end (r := [(0, u0), (5, (.int .i64 y10)), (7, (.int .i64 x23)), (9, v3), (10, (.int .i64 (x1.length : Int))), (11, (.int .i64 i13)), (16, (.bool (decide (x23 < 0))))]) ⟨rfl, rfl, rfl, rfl, rfl, rfl, rfl, trivial⟩ ?_
      refine nx ?_
      refine wpC_cond rfl (fun t29 => ?_) (fun t29 => ?_)
      · rw [if_pos t29] at b20
        refine wpC_exit ?_
        refine nt_exit ?_
        refine nb_hit ?_
        refine nx ?_
        refine wpC_region ?_
        refine st_val (ex_add rfl rfl (ck_in (by omega) (by omega))) (by decide) trivial ?_
        refine st_val (ex_move rfl) (by decide) trivial ?_
        refine wpF_end (r := [(0, u0), (5, (.int .i64 y10)), (9, v3), (10, (.int .i64 (x1.length : Int))), (11, (.int .i64 (i13 + 1)))]) ⟨rfl, rfl, rfl, rfl, rfl, trivial⟩ ?_
        refine nt_norm ?_
        have e30 := Option.some.inj b20
        subst e30
        refine to_k (r := [(0, u0), (5, (.int .i64 y10)), (9, v3), (10, (.int .i64 (x1.length : Int))), (11, (.int .i64 (i13 + 1)))]) ⟨rfl, rfl, rfl, rfl, rfl, trivial⟩ ?_
        intro a ha
        exact ⟨_, (by rw [← m17]; simp only [List.length_drop]; omega), i13 + 1, y10, o11, n21, rfl, (by omega), ha, hB, h4⟩
      · rw [if_neg (by rw [t29]; decide)] at b20
        refine wpC_skip ?_
        refine nx ?_
        obtain ⟨q34, hq34, b20⟩ := bind_some b20
        refine wpC_cutP (fun a w33 => ∃ (y31 : Int) (o32 : Tg), q34 = .inl y31 ∧ Fr a 46 [(0, u0), (5, (.int .i64 y31)), (7, (.int .i64 x23)), (9, v3), (10, (.int .i64 (x1.length : Int))), (11, (.int .i64 i13))] ∧ Bs (fun _ => 1) o32 w w33 ∧ Ow w.heap.size 3 11 o32 w33 v3 x1) (fun _ _ => False) ?_ ?_ ?_
        · refine wpC_block ?_
          refine wpC_loop (fun (K : Nat) a w33 => ∃ (y31 : Int) (o32 : Tg), loopF (fS_soInside_s2 p0 x23) K y31 = some q34 ∧ Fr a 46 [(0, u0), (5, (.int .i64 y31)), (7, (.int .i64 x23)), (9, v3), (10, (.int .i64 (x1.length : Int))), (11, (.int .i64 i13))] ∧ Bs (fun _ => 1) o32 w w33 ∧ Ow w.heap.size 3 11 o32 w33 v3 x1) fuel (fun a ha => ⟨y10, o11, hq34, ha.sub (r := [(0, u0), (5, (.int .i64 y10)), (7, (.int .i64 x23)), (9, v3), (10, (.int .i64 (x1.length : Int))), (11, (.int .i64 i13))]) ⟨rfl, rfl, rfl, rfl, rfl, rfl, trivial⟩, hB, h4⟩) ?_
          rintro K38 a w33 ⟨y31, o32, l35, ha, hB, h4⟩
          obtain ⟨K42, q39, e43, b40, n41⟩ := loopF_cons l35
          dsimp only [fS_soInside_s2] at b40
          refine wp_of ha ?_
          refine wpC_seq ?_
          refine wpC_seq ?_
          refine wpC_region ?_
          refine st_val (ex_move rfl) (by decide) trivial ?_
          refine st_val (ex_move rfl) (by decide) trivial ?_
          refine st_val (ex_lenR rfl g0 Try.underlying25) (by decide) trivial ?_
          refine st_val (ex_lss rfl rfl) (by decide) trivial ?_
          refine st_val (ex_move rfl) (by decide) trivial ?_
          obtain ⟨q44, hq44, b40⟩ := bind_some b40
          refine wpF_cutAt 7 (fun a46 w45 => Fr a46 46 [(0, u0), (5, (.int .i64 y31)), (7, (.int .i64 x23)), (9, v3), (10, (.int .i64 (x1.length : Int))), (11, (.int .i64 i13)), (28, (.bool q44))] ∧ Keeps w33 w45) ?_ ?_
          all_goals simp only [List.take_succ_cons, List.take_zero, List.drop_succ_cons, List.drop_zero]
          · have kp : Keeps w33 w33 := Keeps.refl _
            rcases Bool.eq_false_or_eq_true (decide (y31 < (p0.length : Int))) with t47 | t47
            · rw [if_pos t47] at hq44
              refine st_val (ex_move rfl) (by decide) ⟨_, rfl, (congrArg (fun b => some (Value.bool b)) t47)⟩ ?_
              refine st_val (ex_move rfl) (by decide) ⟨_, rfl, (congrArg (fun b => some (Value.bool b)) t47)⟩ ?_
              obtain ⟨x48, hx48, hq44⟩ := bind_some hq44
              refine st_op (by decide) ⟨_, rfl, (congrArg (fun b => some (Value.bool b)) t47)⟩ ?_
              refine wf_atZ g0 hx48 hB rfl rfl Try.underlying25 Try.sizeOf3 ?_
              intro b49 f50 c51 h52 h53
              cases h53
              refine st_val (ex_load1 rfl Try.isAgg3 (cell_of_cells h52)) (by decide) ⟨_, rfl, (congrArg (fun b => some (Value.bool b)) t47)⟩ ?_
              refine st_val (ex_move rfl) (by decide) ⟨_, rfl, (congrArg (fun b => some (Value.bool b)) t47)⟩ ?_
              refine st_val (ex_lss rfl rfl) (by decide) ⟨_, rfl, (congrArg (fun b => some (Value.bool b)) t47)⟩ ?_
              refine st_val (ex_pick_t (congrArg (fun b => some (Value.bool b)) t47) rfl) (by decide) trivial ?_
              have hq442 := Option.some.inj hq44
              refine wpF_end (r := [(0, u0), (5, (.int .i64 y31)), (7, (.int .i64 x23)), (9, v3), (10, (.int .i64 (x1.length : Int))), (11, (.int .i64 i13)), (28, (.bool (decide (x48 < x23))))]) ⟨rfl, rfl, rfl, rfl, rfl, rfl, rfl, trivial⟩ ?_
              subst hq442
              refine np_norm (fun a ha => ⟨ha, kp⟩)
            · rw [if_neg (by rw [t47]; decide)] at hq44
              refine st_no rfl rfl (by rw [t47]; rfl) (by decide) ?_
              refine st_no rfl rfl (by rw [t47]; rfl) (by decide) ?_
              refine st_no rfl rfl (by rw [t47]; rfl) (by decide) ?_
              refine st_no rfl rfl (by rw [t47]; rfl) (by decide) ?_
              refine st_no rfl rfl (by rw [t47]; rfl) (by decide) ?_
              refine st_no rfl rfl (by rw [t47]; rfl) (by decide) ?_
              refine st_val (ex_pick_f (congrArg (fun b => some (Value.bool b)) t47) rfl) (by decide) trivial ?_
              have hq442 := Option.some.inj hq44
              refine wpF_end (r := [(0, u0), (5, (.int .i64 y31)), (7, (.int .i64 x23)), (9, v3), (10, (.int .i64 (x1.length : Int))), (11, (.int .i64 i13)), (28, (.bool false))]) ⟨rfl, rfl, rfl, rfl, rfl, rfl, rfl, trivial⟩ ?_
              subst hq442
              refine np_norm (fun a ha => ⟨ha, kp⟩)
          rintro a56 w45 ⟨ha, k54⟩
          have s55 := k54.stp 999 o32
          replace h4 := h4.stp s55 (by decide) (by decide)
          replace hB := hB.stp s55 (by decide)
          refine wl_of ha ?_
          refine wpF_end (r := [(0, u0), (5, (.int .i64 y31)), (7, (.int .i64 x23)), (9, v3), (10, (.int .i64 (x1.length : Int))), (11, (.int .i64 i13)), (28, (.bool q44))]) ⟨rfl, rfl, rfl, rfl, rfl, rfl, rfl, trivial⟩ ?_
          refine nx ?_
          refine wpC_cond rfl (fun t57 => ?_) (fun t57 => ?_)
          · rw [if_pos t57] at b40
            refine wpC_skip ?_
            refine nx ?_
            refine wpC_block ?_
            refine wpC_region ?_
            refine st_val (ex_move rfl) (by decide) trivial ?_
            obtain ⟨x58, hx58, b40⟩ := bind_some b40
            refine st_val (ex_add rfl rfl hx58) (by decide) trivial ?_
            refine st_val (ex_assign rfl) (by decide) trivial ?_
            refine wpF_end (r := [(0, u0), (5, (.int .i64 x58)), (7, (.int .i64 x23)), (9, v3), (10, (.int .i64 (x1.length : Int))), (11, (.int .i64 i13))]) ⟨rfl, rfl, rfl, rfl, rfl, rfl, trivial⟩ ?_
            refine nb_norm ?_
            refine nt_norm ?_
            have e59 := Option.some.inj b40
            subst e59
            refine to_k (r := [(0, u0), (5, (.int .i64 x58)), (7, (.int .i64 x23)), (9, v3), (10, (.int .i64 (x1.length : Int))), (11, (.int .i64 i13))]) ⟨rfl, rfl, rfl, rfl, rfl, rfl, trivial⟩ ?_
            intro a ha
            exact ⟨K42, by omega, x58, o32, n41, ha, hB, h4⟩
          · rw [if_neg (by rw [t57]; decide)] at b40
            refine wpC_exit ?_
            refine nt_exit ?_
            refine nt_exit ?_
            refine nb_hit ?_
            refine np_norm ?_
            have e60 := Option.some.inj b40
            subst e60
            refine to_k (r := [(0, u0), (5, (.int .i64 y31)), (7, (.int .i64 x23)), (9, v3), (10, (.int .i64 (x1.length : Int))), (11, (.int .i64 i13))]) ⟨rfl, rfl, rfl, rfl, rfl, rfl, trivial⟩ ?_
            intro a ha
            exact ⟨y31, o32, n41, ha, hB, h4⟩
        · rintro a w33 ⟨y31, o32, rfl, ha, hB, h4⟩
          dsimp only at b20
          refine wp_of ha ?_
          refine wpC_seq ?_
          refine wpC_seq ?_
          refine wpC_region ?_
          refine st_val (ex_move rfl) (by decide) trivial ?_
          refine st_val (ex_move rfl) (by decide) trivial ?_
          refine st_val (ex_lenR rfl g0 Try.underlying25) (by decide) trivial ?_
          refine st_val (ex_eql rfl rfl) (by decide) trivial ?_
          refine st_val (ex_move rfl) (by decide) trivial ?_
          obtain ⟨q61, hq61, b20⟩ := bind_some b20
          refine wpF_cutAt 7 (fun a63 w62 => Fr a63 46 [(0, u0), (5, (.int .i64 y31)), (9, v3), (10, (.int .i64 (x1.length : Int))), (11, (.int .i64 i13)), (42, (.bool q61))] ∧ Keeps w33 w62) ?_ ?_
          all_goals simp only [List.take_succ_cons, List.take_zero, List.drop_succ_cons, List.drop_zero]
          · have kp : Keeps w33 w33 := Keeps.refl _
            rcases Bool.eq_false_or_eq_true (y31 == (p0.length : Int)) with t64 | t64
            · rw [if_pos t64] at hq61
              refine st_no rfl rfl (by rw [t64]; rfl) (by decide) ?_
              refine st_no rfl rfl (by rw [t64]; rfl) (by decide) ?_
              refine st_no rfl rfl (by rw [t64]; rfl) (by decide) ?_
              refine st_no rfl rfl (by rw [t64]; rfl) (by decide) ?_
              refine st_no rfl rfl (by rw [t64]; rfl) (by decide) ?_
              refine st_no rfl rfl (by rw [t64]; rfl) (by decide) ?_
              refine st_val (ex_pick_t (congrArg (fun b => some (Value.bool b)) t64) rfl) (by decide) trivial ?_
              have hq612 := Option.some.inj hq61
              refine wpF_end (r := [(0, u0), (5, (.int .i64 y31)), (9, v3), (10, (.int .i64 (x1.length : Int))), (11, (.int .i64 i13)), (42, (.bool true))]) ⟨rfl, rfl, rfl, rfl, rfl, rfl, trivial⟩ ?_
              subst hq612
              refine np_norm (fun a ha => ⟨ha, kp⟩)
            · rw [if_neg (by rw [t64]; decide)] at hq61
              refine st_val (ex_move rfl) (by decide) ⟨_, rfl, (congrArg (fun b => some (Value.bool b)) t64)⟩ ?_
              refine st_val (ex_move rfl) (by decide) ⟨_, rfl, (congrArg (fun b => some (Value.bool b)) t64)⟩ ?_
              obtain ⟨x65, hx65, hq61⟩ := bind_some hq61
              refine st_op (by decide) ⟨_, rfl, (congrArg (fun b => some (Value.bool b)) t64)⟩ ?_
              refine wf_atZ g0 hx65 hB rfl rfl Try.underlying25 Try.sizeOf3 ?_
              intro b66 f67 c68 h69 h70
              cases h70
              refine st_val (ex_load1 rfl Try.isAgg3 (cell_of_cells h69)) (by decide) ⟨_, rfl, (congrArg (fun b => some (Value.bool b)) t64)⟩ ?_
              refine st_val (ex_move rfl) (by decide) ⟨_, rfl, (congrArg (fun b => some (Value.bool b)) t64)⟩ ?_
              refine st_val (ex_neq rfl rfl) (by decide) ⟨_, rfl, (congrArg (fun b => some (Value.bool b)) t64)⟩ ?_
              refine st_val (ex_pick_f (congrArg (fun b => some (Value.bool b)) t64) rfl) (by decide) trivial ?_
              have hq612 := Option.some.inj hq61
              refine wpF_end (r := [(0, u0), (5, (.int .i64 y31)), (9, v3), (10, (.int .i64 (x1.length : Int))), (11, (.int .i64 i13)), (42, (.bool (x65 != x23)))]) ⟨rfl, rfl, rfl, rfl, rfl, rfl, trivial⟩ ?_
              subst hq612
              refine np_norm (fun a ha => ⟨ha, kp⟩)
          rintro a73 w62 ⟨ha, k71⟩
          have s72 := k71.stp 999 o32
          replace h4 := h4.stp s72 (by decide) (by decide)
          replace hB := hB.stp s72 (by decide)
          refine wl_of ha ?_
          refine wpF_end (r := [(0, u0), (5, (.int .i64 y31)), (9, v3), (10, (.int .i64 (x1.length : Int))), (11, (.int .i64 i13)), (42, (.bool q61))]) ⟨rfl, rfl, rfl, rfl, rfl, rfl, trivial⟩ ?_
          refine nx ?_
          refine wpC_cond rfl (fun t74 => ?_) (fun t74 => ?_)
          · rw [if_pos t74] at b20
            refine wpC_seq ?_
            refine wpC_region ?_
            refine st_val (ex_assign rfl) (by decide) trivial ?_
            refine wpF_end (r := [(4, (.bool false))]) ⟨rfl, trivial⟩ ?_
            refine nx ?_
            refine wpC_ret ?_
            refine nt_ret ?_
            refine nb_ret ?_
            refine nt_ret ?_
            refine nt_ret ?_
            refine nb_ret ?_
            refine np_ret ?_
            have e75 := Option.some.inj b20
            subst e75
            refine fun a ha => ⟨_, n21, ?_⟩
            refine ret_post (P := Try.prog) (vs := [(.bool false)]) Try.results80 ⟨rfl, trivial⟩ ?_ a ha
            exact ⟨rfl, hB.keeps⟩
          · rw [if_neg (by rw [t74]; decide)] at b20
            refine wpC_skip ?_
            refine nx ?_
            refine wpC_region ?_
            refine st_val (ex_move rfl) (by decide) trivial ?_
            obtain ⟨x76, hx76, b20⟩ := bind_some b20
            refine st_val (ex_add rfl rfl hx76) (by decide) trivial ?_
            refine st_val (ex_assign rfl) (by decide) trivial ?_
            refine wpF_end (r := [(0, u0), (5, (.int .i64 x76)), (9, v3), (10, (.int .i64 (x1.length : Int))), (11, (.int .i64 i13))]) ⟨rfl, rfl, rfl, rfl, rfl, trivial⟩ ?_
            refine nb_norm ?_
            refine nx ?_
            refine wpC_region ?_
            refine st_val (ex_add rfl rfl (ck_in (by omega) (by omega))) (by decide) trivial ?_
            refine st_val (ex_move rfl) (by decide) trivial ?_
            refine wpF_end (r := [(0, u0), (5, (.int .i64 x76)), (9, v3), (10, (.int .i64 (x1.length : Int))), (11, (.int .i64 (i13 + 1)))]) ⟨rfl, rfl, rfl, rfl, rfl, trivial⟩ ?_
            refine nt_norm ?_
            have e77 := Option.some.inj b20
            subst e77
            refine to_k (r := [(0, u0), (5, (.int .i64 x76)), (9, v3), (10, (.int .i64 (x1.length : Int))), (11, (.int .i64 (i13 + 1)))]) ⟨rfl, rfl, rfl, rfl, rfl, trivial⟩ ?_
            intro a ha
            exact ⟨_, (by rw [← m17]; simp only [List.length_drop]; omega), i13 + 1, x76, o32, n21, rfl, (by omega), ha, hB, h4⟩
        · exact fun _ _ h => h.elim
    · have r78 := forI_done t22 l15
      refine wp_of ha ?_
      refine wpC_seq ?_
      refine wpC_region ?_
      refine st_val (ex_lss rfl rfl) (by decide) trivial ?_
      refine wpF_end (r := [(0, u0), (5, (.int .i64 y10)), (9, v3), (10, (.int .i64 (x1.length : Int))), (11, (.int .i64 i13)), (12, (.bool (decide (i13 < (x1.length : Int)))))]) ⟨rfl, rfl, rfl, rfl, rfl, rfl, trivial⟩ ?_
      refine nx ?_
      refine wpC_seq ?_
      refine wpC_false (congrArg (fun b => some (Value.bool b)) (decide_eq_false t22)) ?_
      refine wpC_exit ?_
      refine nt_exit ?_
      refine nt_exit ?_
      refine nb_hit ?_
      refine np_norm ?_
      refine to_k (r := []) trivial ?_
      intro a ha
      exact ⟨y10, o11, r78, ha, hB⟩
  · rintro a w12 ⟨y10, o11, rfl, ha, hB⟩
    dsimp only at hF
    refine ap_k ha ?_
    refine nx ?_
    refine wpC_seq ?_
    refine wpC_region ?_
    refine st_val (ex_assign rfl) (by decide) trivial ?_
    refine wpF_end (r := [(4, (.bool true))]) ⟨rfl, trivial⟩ ?_
    refine nx ?_
    refine wpC_ret ?_
    have e79 := Option.some.inj hF
    subst e79
    refine ret_post (P := Try.prog) (vs := [(.bool true)]) Try.results80 ⟨rfl, trivial⟩ ?_
    exact ⟨rfl, hB.keeps⟩
  · rintro a w12 ⟨r', rfl, b80⟩
    dsimp only at hF
    have e81 := Option.some.inj hF
    subst e81
    exact b80

def fS_FittingNodes_s1 (fuel : Nat) (p1 : List Int) : Int → (List Int) → (List (List Int)) → Option (Lp (List (List Int)) (List (List Int)) ((List (List Int)) × Bool)) := fun (i42 : Int) (x52 : List Int) (s : List (List Int)) =>
  (fS_soInside fuel x52 p1) >>= fun x60 =>
  if x60 then
    (fS_l1Own x52) >>= fun x67 =>
    (push s x67) >>= fun x82 =>
    some (.go x82)
  else
    some (.go s)
def fS_FittingNodes (fuel : Nat) (p0 : T_Problem) (p1 : List Int) : Option ((List (List Int)) × Bool) :=
  (fS_prGood fuel p0) >>= fun x10 =>
  (
    if !x10 then
      some true
    else
      if decide ((p1.length : Int) > p0.Degree) then
        some true
      else
        (ck (p0.Labels - 1)) >>= fun x21 =>
        (fS_l1All p1 0 x21) >>= fun x22 =>
        some (!x22)) >>= fun q16 =>
  if q16 then
    some ([], false)
  else
    (forI (fS_FittingNodes_s1 fuel p1) p0.Nodes 0 []) >>= fun q43 =>
    match q43 with
    | .inl y35 =>
      some (y35, true)
    | .inr _ => none

def pS_FittingNodes (oo : Tg) (t : Nat) (w : World) (r : (List (List Int)) × Bool) : Ending → World → Prop := fun e w' => ∃ (v0 : Value) (g0 : List Hv) (o' : Tg), e = .returned (.tuple #[v0, .bool r.2]) ∧ Ow w.heap.size 25 t o' w' v0 g0 ∧ Rws w.heap.size 3 (t + 1) o' w' g0 r.1 ∧ Keeps w w' ∧ ∀ b, b < w.heap.size → o' b = oo b
set_option maxRecDepth 100000 in
set_option maxHeartbeats 2000000 in
theorem cS_FittingNodes (fuel : Nat) (w : World) (oo : Tg) (t : Nat) (ht : 2 ≤ t) (u0 : List Value) (p0 : T_Problem) (g0 : Rp.rd zt w u0 p0) (u1 : Value) (p1 : List Int) (g1 : RdL zt w u1 p1) (r : (List (List Int)) × Bool) (hF : fS_FittingNodes fuel p0 p1 = some r) :
    Calls Try.prog 27 #[.agg u0.toArray, u1] w (pS_FittingNodes oo t w r) := by
  unfold fS_FittingNodes at hF
  obtain ⟨v1, v3, rfl, h2, h4⟩ := g0
  have hB : Bs oo (col oo) w w := Bs.start _ _
  refine calls_start (n := 44) (vs := [(.agg #[(.int .i64 p0.Labels), (.int .i64 p0.Degree), v1, v3]), u1]) Try.func27 rfl rfl ?_
  generalize col oo = o at *
  refine wpC_seq ?_
  refine wpC_region ?_
  refine st_op (by decide) trivial ?_
  refine wf_box (o := o) w.heap.size 11 hB.keeps.size (cs := [(.int .i64 p0.Labels), (.int .i64 p0.Degree), v1, v3]) rfl rfl ?_
  intro o5 w6 b7 h8 s9
  replace hB := hB.stp s9 (by decide)
  refine st_val (ex_assign rfl) (by decide) trivial ?_
  refine st_val (ex_assign rfl) (by decide) trivial ?_
  refine wpF_end (r := [(1, u1), (2, (.pointer (some ⟨b7, 0, none⟩)))]) ⟨rfl, rfl, trivial⟩ ?_
  refine nx ?_
  refine wpC_seq ?_
  refine wpC_seq ?_
  refine wpC_region ?_
  refine st_val (ex_loadA rfl Try.isAgg29 Try.sizeOf29 rfl h8.cells) (by decide) trivial ?_
  obtain ⟨x10, hx10, hF⟩ := bind_some hF
  refine st_op (by decide) trivial ?_
  refine wf_call (cS_prGood fuel w6 _ p0 (⟨_, _, rfl, (h2.keep hB.keeps), (h4.keep hB.keeps)⟩) x10 hx10) Try.call78 ⟨rfl, trivial⟩ ?_
  rintro e15 w11 ⟨rfl, k12⟩
  have s14 := k12.stp 999 o5
  refine ⟨_, rfl, ?_⟩
  replace h8 := h8.stp s14 (by decide)
  replace hB := hB.stp s14 (by decide)
  refine st_val (ex_not rfl) (by decide) trivial ?_
  refine st_val (ex_move rfl) (by decide) trivial ?_
  obtain ⟨q16, hq16, hF⟩ := bind_some hF
  refine wpF_cutAt 14 (fun a18 w17 => Fr a18 44 [(1, u1), (2, (.pointer (some ⟨b7, 0, none⟩))), (26, (.bool q16))] ∧ Keeps w11 w17) ?_ ?_
  all_goals simp only [List.take_succ_cons, List.take_zero, List.drop_succ_cons, List.drop_zero]
  · have kp : Keeps w11 w11 := Keeps.refl _
    rcases Bool.eq_false_or_eq_true (!x10) with t19 | t19
    · rw [if_pos t19] at hq16
      refine st_no rfl rfl (by rw [t19]; rfl) (by decide) ?_
      refine st_no rfl rfl (by rw [t19]; rfl) (by decide) ?_
      refine st_no rfl rfl (by rw [t19]; rfl) (by decide) ?_
      refine st_no rfl rfl (by rw [t19]; rfl) (by decide) ?_
      refine st_no rfl rfl (by rw [t19]; rfl) (by decide) ?_
      refine st_val (ex_pick_t (congrArg (fun b => some (Value.bool b)) t19) rfl) (by decide) trivial ?_
      refine st_val (ex_move rfl) (by decide) trivial ?_
      refine st_no rfl rfl rfl (by decide) ?_
      refine st_no rfl rfl rfl (by decide) ?_
      refine st_no rfl rfl rfl (by decide) ?_
      refine st_no rfl rfl rfl (by decide) ?_
      refine st_no rfl rfl rfl (by decide) ?_
      refine st_no rfl rfl rfl (by decide) ?_
      refine st_val (ex_pick_t rfl rfl) (by decide) trivial ?_
      have hq162 := Option.some.inj hq16
      refine wpF_end (r := [(1, u1), (2, (.pointer (some ⟨b7, 0, none⟩))), (26, (.bool true))]) ⟨rfl, rfl, rfl, trivial⟩ ?_
      subst hq162
      refine np_norm (fun a ha => ⟨ha, kp⟩)
    · rw [if_neg (by rw [t19]; decide)] at hq16
      refine st_val (ex_move rfl) (by decide) ⟨_, rfl, (congrArg (fun b => some (Value.bool b)) t19)⟩ ?_
      refine st_val (ex_lenR rfl g1 Try.underlying25) (by decide) ⟨_, rfl, (congrArg (fun b => some (Value.bool b)) t19)⟩ ?_
      refine st_val (ex_field rfl Try.underlying29 rfl Try.sizeOf3) (by decide) ⟨_, rfl, (congrArg (fun b => some (Value.bool b)) t19)⟩ ?_
      refine st_val (ex_load1 rfl Try.isAgg3 (h8.cell rfl)) (by decide) ⟨_, rfl, (congrArg (fun b => some (Value.bool b)) t19)⟩ ?_
      refine st_val (ex_gtr rfl rfl) (by decide) ⟨_, rfl, (congrArg (fun b => some (Value.bool b)) t19)⟩ ?_
      refine st_val (ex_pick_f (congrArg (fun b => some (Value.bool b)) t19) rfl) (by decide) trivial ?_
      refine st_val (ex_move rfl) (by decide) trivial ?_
      rcases Bool.eq_false_or_eq_true (decide ((p1.length : Int) > p0.Degree)) with t20 | t20
      · rw [if_pos t20] at hq16
        refine st_no rfl rfl (by rw [t20]; rfl) (by decide) ?_
        refine st_no rfl rfl (by rw [t20]; rfl) (by decide) ?_
        refine st_no rfl rfl (by rw [t20]; rfl) (by decide) ?_
        refine st_no rfl rfl (by rw [t20]; rfl) (by decide) ?_
        refine st_no rfl rfl (by rw [t20]; rfl) (by decide) ?_
        refine st_no rfl rfl (by rw [t20]; rfl) (by decide) ?_
        refine st_val (ex_pick_t (congrArg (fun b => some (Value.bool b)) t20) rfl) (by decide) trivial ?_
        have hq162 := Option.some.inj hq16
        refine wpF_end (r := [(1, u1), (2, (.pointer (some ⟨b7, 0, none⟩))), (26, (.bool true))]) ⟨rfl, rfl, rfl, trivial⟩ ?_
        subst hq162
        refine np_norm (fun a ha => ⟨ha, kp⟩)
      · rw [if_neg (by rw [t20]; decide)] at hq16
        refine st_val (ex_move rfl) (by decide) ⟨_, rfl, (congrArg (fun b => some (Value.bool b)) t20)⟩ ?_
        refine st_val (ex_field rfl Try.underlying29 rfl Try.sizeOf3) (by decide) ⟨_, rfl, (congrArg (fun b => some (Value.bool b)) t20)⟩ ?_
        refine st_val (ex_load1 rfl Try.isAgg3 (h8.cell rfl)) (by decide) ⟨_, rfl, (congrArg (fun b => some (Value.bool b)) t20)⟩ ?_
        obtain ⟨x21, hx21, hq16⟩ := bind_some hq16
        refine st_val (ex_sub rfl rfl hx21) (by decide) ⟨_, rfl, (congrArg (fun b => some (Value.bool b)) t20)⟩ ?_
        obtain ⟨x22, hx22, hq16⟩ := bind_some hq16
        refine st_op (by decide) ⟨_, rfl, (congrArg (fun b => some (Value.bool b)) t20)⟩ ?_
        refine wf_call (cS_l1All w11 _ p1 (g1.keep hB.keeps) 0 x21 x22 hx22) Try.call79 ⟨rfl, rfl, rfl, trivial⟩ ?_
        rintro e27 w23 ⟨rfl, k24⟩
        have s26 := k24.stp 999 o5
        refine ⟨_, rfl, ?_⟩
        replace h8 := h8.stp s26 (by decide)
        replace hB := hB.stp s26 (by decide)
        replace kp := Keeps.trans kp k24
        refine st_val (ex_not rfl) (by decide) ⟨_, rfl, (congrArg (fun b => some (Value.bool b)) t20)⟩ ?_
        refine st_val (ex_pick_f (congrArg (fun b => some (Value.bool b)) t20) rfl) (by decide) trivial ?_
        have hq162 := Option.some.inj hq16
        refine wpF_end (r := [(1, u1), (2, (.pointer (some ⟨b7, 0, none⟩))), (26, (.bool (!x22)))]) ⟨rfl, rfl, rfl, trivial⟩ ?_
        subst hq162
        refine np_norm (fun a ha => ⟨ha, kp⟩)
  rintro a30 w17 ⟨ha, k28⟩
  have s29 := k28.stp 999 o5
  replace h8 := h8.stp s29 (by decide)
  replace hB := hB.stp s29 (by decide)
  refine wl_of ha ?_
  refine wpF_end (r := [(1, u1), (2, (.pointer (some ⟨b7, 0, none⟩))), (26, (.bool q16))]) ⟨rfl, rfl, rfl, trivial⟩ ?_
  refine nx ?_
  refine wpC_cond rfl (fun t31 => ?_) (fun t31 => ?_)
  · rw [if_pos t31] at hF
    refine wpC_seq ?_
    refine wpC_region ?_
    refine st_val (ex_assign rfl) (by decide) trivial ?_
    refine st_val (ex_assign rfl) (by decide) trivial ?_
    refine wpF_end (r := [(4, (.slice none 0 0)), (5, (.bool false))]) ⟨rfl, rfl, trivial⟩ ?_
    refine nx ?_
    refine wpC_ret ?_
    refine nt_ret ?_
    have e32 := Option.some.inj hF
    subst e32
    refine ret_post (P := Try.prog) (vs := [(.slice none 0 0), (.bool false)]) Try.results27 ⟨rfl, rfl, trivial⟩ ?_
    exact ⟨_, [], rt2 oo o5 w.heap.size 9 8 t, rfl, (Ow.nil _ _ _ _ _), (Rws.nil _ _ _ _ _), hB.keeps, rt2_old _ _ _ _ _ _⟩
  · rw [if_neg (by rw [t31]; decide)] at hF
    refine wpC_skip ?_
    refine nx ?_
    refine wpC_seq ?_
    refine wpC_region ?_
    refine st_val (ex_assign rfl) (by decide) trivial ?_
    refine wpF_end (r := [(1, u1), (2, (.pointer (some ⟨b7, 0, none⟩))), (6, (.slice none 0 0))]) ⟨rfl, rfl, rfl, trivial⟩ ?_
    refine nx ?_
    refine wpC_seq ?_
    refine wpC_seq ?_
    refine wpC_region ?_
    refine st_val (ex_field rfl Try.underlying29 rfl Try.sizeOf22) (by decide) trivial ?_
    refine st_val (ex_load1 rfl Try.isAgg22 (h8.cell rfl)) (by decide) trivial ?_
    refine st_val (ex_lenR rfl h2 Try.underlying22) (by decide) trivial ?_
    refine st_val (ex_move rfl) (by decide) trivial ?_
    refine wpF_end (r := [(1, u1), (6, (.slice none 0 0)), (28, v1), (29, (.int .i64 (p0.Nodes.length : Int))), (30, (.int .i64 0))]) ⟨rfl, rfl, rfl, rfl, rfl, trivial⟩ ?_
    refine nx ?_
    have h33 : Ow w.heap.size 25 14 o5 w17 (.slice none 0 0) ([] : List Hv) := Ow.nil _ _ _ _ _
    have h34 : Rws w.heap.size 3 15 o5 w17 [] ([] : List (List Int)) := Rws.nil _ _ _ _ _
    obtain ⟨q43, hq43, hF⟩ := bind_some hF
    refine wpC_cutN (fun a w41 => ∃ (y35 : List (List Int)) (v36 : Value) (g39 : List Hv) (o40 : Tg), q43 = .inl y35 ∧ Fr a 44 [(6, v36)] ∧ Bs oo o40 w w41 ∧ Ow w.heap.size 25 14 o40 w41 v36 g39 ∧ Rws w.heap.size 3 15 o40 w41 g39 y35) (fun _ _ => False) ?_ ?_ ?_
    · refine wpC_block ?_
      refine wpC_loop (fun (K : Nat) a w41 => ∃ (i42 : Int) (y35 : List (List Int)) (v36 : Value) (g39 : List Hv) (o40 : Tg), forI (fS_FittingNodes_s1 fuel p1) (p0.Nodes.drop i42.toNat) i42 y35 = some q43 ∧ (p0.Nodes.drop i42.toNat).length = K ∧ 0 ≤ i42 ∧ Fr a 44 [(1, u1), (6, v36), (28, v1), (29, (.int .i64 (p0.Nodes.length : Int))), (30, (.int .i64 i42))] ∧ Bs oo o40 w w41 ∧ Ow w.heap.size 25 14 o40 w41 v36 g39 ∧ Rws w.heap.size 3 15 o40 w41 g39 y35) _ (fun a ha => ⟨0, [], (.slice none 0 0), [], o5, hq43, rfl, Int.le_refl 0, ha.sub (r := [(1, u1), (6, (.slice none 0 0)), (28, v1), (29, (.int .i64 (p0.Nodes.length : Int))), (30, (.int .i64 0))]) ⟨rfl, rfl, rfl, rfl, rfl, trivial⟩, hB, h33, h34⟩) ?_
      rintro K47 a w41 ⟨i42, y35, v36, g39, o40, l44, m46, z45, ha, hB, h37, h38⟩
      by_cases t51 : i42 < (p0.Nodes.length : Int)
      · obtain ⟨x52, q48, hx52, b49, n50⟩ := forI_cons z45 t51 l44
        have hle := h2.len_le
        dsimp only [fS_FittingNodes_s1] at b49
        refine wp_of ha ?_
        refine wpC_seq ?_
        refine wpC_region ?_
        refine st_val (ex_lss rfl rfl) (by decide) trivial ?_
        refine wpF_end (r := [(1, u1), (6, v36), (28, v1), (29, (.int .i64 (p0.Nodes.length : Int))), (30, (.int .i64 i42)), (31, (.bool (decide (i42 < (p0.Nodes.length : Int)))))]) ⟨rfl, rfl, rfl, rfl, rfl, rfl, trivial⟩ ?_
        refine nx ?_
        refine wpC_seq ?_
        refine wpC_true (congrArg (fun b => some (Value.bool b)) (decide_eq_true t51)) ?_
        refine wpC_skip ?_
        refine nx ?_
        refine wpC_seq ?_
        refine wpC_block ?_
        refine wpC_seq ?_
        refine wpC_region ?_
        refine st_op (by decide) trivial ?_
        refine wf_atZ h2 hx52 hB rfl rfl Try.underlying22 Try.sizeOf25 ?_
        intro b53 f54 c55 h56 h57
        obtain ⟨v58, rfl, h59⟩ := h57
        refine st_val (ex_load1 rfl Try.isAgg25 (cell_of_cells h56)) (by decide) trivial ?_
        refine st_val (ex_assign rfl) (by decide) trivial ?_
        refine wpF_end (r := [(1, u1), (6, v36), (8, v58), (28, v1), (29, (.int .i64 (p0.Nodes.length : Int))), (30, (.int .i64 i42))]) ⟨rfl, rfl, rfl, rfl, rfl, rfl, trivial⟩ ?_
        refine nx ?_
        refine wpC_seq ?_
        refine wpC_region ?_
        refine st_val (ex_move rfl) (by decide) trivial ?_
        refine st_val (ex_move rfl) (by decide) trivial ?_
        obtain ⟨x60, hx60, b49⟩ := bind_some b49
        refine st_op (by decide) trivial ?_
        refine wf_call (cS_soInside fuel w41 _ x52 (h59.keep hB.keeps) _ p1 (g1.keep hB.keeps) x60 hx60) Try.call80 ⟨rfl, rfl, trivial⟩ ?_
        rintro e65 w61 ⟨rfl, k62⟩
        have s64 := k62.stp 999 o40
        refine ⟨_, rfl, ?_⟩
        replace h37 := h37.stp s64 (by decide) (by decide)
        replace h38 := h38.stp s64 (by decide) (by decide)
        replace hB := hB.stp s64 (by decide)
        refine wpF_end (r := [(1, u1), (6, v36), (8, v58), (28, v1), (29, (.int .i64 (p0.Nodes.length : Int))), (30, (.int .i64 i42)), (36, (.bool x60))]) ⟨rfl, rfl, rfl, rfl, rfl, rfl, rfl, trivial⟩ ?_
        refine nx ?_
        refine wpC_cond rfl (fun t66 => ?_) (fun t66 => ?_)
        · rw [if_pos t66] at b49
          refine wpC_region ?_
          refine st_val (ex_move rfl) (by decide) trivial ?_
          refine st_val (ex_move rfl) (by decide) trivial ?_
          obtain ⟨x67, hx67, b49⟩ := bind_some b49
          refine st_op (by decide) trivial ?_
          refine wf_call (cS_l1Own w61 o40 17 (by decide) _ x52 (h59.keep hB.keeps) x67 hx67) Try.call81 ⟨rfl, trivial⟩ ?_
          rintro e74 w68 ⟨v69, o75, rfl, h70, k71, k72⟩
          have s73 := k71.stp' 17 k72
          replace h70 := h70.mono hB.keeps.size
          refine ⟨_, rfl, ?_⟩
          replace h37 := h37.stp s73 (by decide) (by decide)
          replace h38 := h38.stp s73 (by decide) (by decide)
          replace hB := hB.stp s73 (by decide)
          refine st_op (by decide) trivial ?_
          refine wf_litR (o := o75) (cs := [v69]) (xs := ([⟨v69⟩] : List Hv)) (vs := [(0, v69)]) ⟨_, _, rfl, rd_hv h70, rfl⟩ rfl ⟨rfl, rfl, trivial⟩ Try.underlying22 Try.sizeOf25 Try.zeroValue25 (by decide) (fill1 h70.cells1) (by simp) ?_
          intro o76 w77 v78 h79 s80 k81
          replace h37 := h37.stp s80 (by decide) (by decide)
          replace h38 := h38.stp s80 (by decide) (by decide)
          replace h70 := h70.stp s80 (by decide) (by decide)
          replace hB := hB.stp s80 (by decide)
          obtain ⟨x82, hx82, b49⟩ := bind_some b49
          obtain ⟨h83, h84⟩ := h38.pushV hx82 v69
          refine st_op (by decide) trivial ?_
          refine wf_cat h37 h79 (push_cat h83) (by decide) hB.keeps.size rfl rfl Try.underlying22 info2_t_Lint_V rfl (by decide) ?_
          intro o85 w86 v87 h88 s89
          replace h38 := h38.stp s89 (by decide) (by decide)
          replace h70 := h70.stp s89 (by decide) (by decide)
          replace hB := hB.stp s89 (by decide)
          have h90 := h38.push h70 (by decide) (by decide)
          rw [← h84] at h90
          clear h38 h70
          have r91 := mrg_rc 17 15 o85
          replace h88 := h88.rc r91 (by decide) (by decide)
          replace hB := hB.rc r91 (by decide)
          generalize mrg 17 15 o85 = o92 at *
          refine st_val (ex_assign rfl) (by decide) trivial ?_
          refine wpF_end (r := [(1, u1), (6, v87), (28, v1), (29, (.int .i64 (p0.Nodes.length : Int))), (30, (.int .i64 i42))]) ⟨rfl, rfl, rfl, rfl, rfl, trivial⟩ ?_
          refine nb_norm ?_
          refine nx ?_
          refine wpC_region ?_
          refine st_val (ex_add rfl rfl (ck_in (by omega) (by omega))) (by decide) trivial ?_
          refine st_val (ex_move rfl) (by decide) trivial ?_
          refine wpF_end (r := [(1, u1), (6, v87), (28, v1), (29, (.int .i64 (p0.Nodes.length : Int))), (30, (.int .i64 (i42 + 1)))]) ⟨rfl, rfl, rfl, rfl, rfl, trivial⟩ ?_
          refine nt_norm ?_
          have e93 := Option.some.inj b49
          subst e93
          refine to_k (r := [(1, u1), (6, v87), (28, v1), (29, (.int .i64 (p0.Nodes.length : Int))), (30, (.int .i64 (i42 + 1)))]) ⟨rfl, rfl, rfl, rfl, rfl, trivial⟩ ?_
          intro a ha
          exact ⟨_, (by rw [← m46]; simp only [List.length_drop]; omega), i42 + 1, x82, v87, (g39 ++ [⟨v69⟩]), o92, n50, rfl, (by omega), ha, hB, h88, h90⟩
        · rw [if_neg (by rw [t66]; decide)] at b49
          refine wpC_skip ?_
          refine nb_norm ?_
          refine nx ?_
          refine wpC_region ?_
          refine st_val (ex_add rfl rfl (ck_in (by omega) (by omega))) (by decide) trivial ?_
          refine st_val (ex_move rfl) (by decide) trivial ?_
          refine wpF_end (r := [(1, u1), (6, v36), (28, v1), (29, (.int .i64 (p0.Nodes.length : Int))), (30, (.int .i64 (i42 + 1)))]) ⟨rfl, rfl, rfl, rfl, rfl, trivial⟩ ?_
          refine nt_norm ?_
          have e94 := Option.some.inj b49
          subst e94
          refine to_k (r := [(1, u1), (6, v36), (28, v1), (29, (.int .i64 (p0.Nodes.length : Int))), (30, (.int .i64 (i42 + 1)))]) ⟨rfl, rfl, rfl, rfl, rfl, trivial⟩ ?_
          intro a ha
          exact ⟨_, (by rw [← m46]; simp only [List.length_drop]; omega), i42 + 1, y35, v36, g39, o40, n50, rfl, (by omega), ha, hB, h37, h38⟩
      · have r95 := forI_done t51 l44
        refine wp_of ha ?_
        refine wpC_seq ?_
        refine wpC_region ?_
        refine st_val (ex_lss rfl rfl) (by decide) trivial ?_
        refine wpF_end (r := [(1, u1), (6, v36), (28, v1), (29, (.int .i64 (p0.Nodes.length : Int))), (30, (.int .i64 i42)), (31, (.bool (decide (i42 < (p0.Nodes.length : Int)))))]) ⟨rfl, rfl, rfl, rfl, rfl, rfl, trivial⟩ ?_
        refine nx ?_
        refine wpC_seq ?_
        refine wpC_false (congrArg (fun b => some (Value.bool b)) (decide_eq_false t51)) ?_
        refine wpC_exit ?_
        refine nt_exit ?_
        refine nt_exit ?_
        refine nb_hit ?_
        refine np_norm ?_
        refine to_k (r := [(6, v36)]) ⟨rfl, trivial⟩ ?_
        intro a ha
        exact ⟨y35, v36, g39, o40, r95, ha, hB, h37, h38⟩
    · rintro a w41 ⟨y35, v36, g39, o40, rfl, ha, hB, h37, h38⟩
      dsimp only at hF
      refine ap_k ha ?_
      refine nx ?_
      refine wpC_seq ?_
      refine wpC_region ?_
      refine st_val (ex_move rfl) (by decide) trivial ?_
      refine st_val (ex_assign rfl) (by decide) trivial ?_
      refine st_val (ex_assign rfl) (by decide) trivial ?_
      refine wpF_end (r := [(4, v36), (5, (.bool true))]) ⟨rfl, rfl, trivial⟩ ?_
      refine nx ?_
      refine wpC_ret ?_
      have e96 := Option.some.inj hF
      subst e96
      refine ret_post (P := Try.prog) (vs := [v36, (.bool true)]) Try.results27 ⟨rfl, rfl, trivial⟩ ?_
      exact ⟨_, g39, rt2 oo o40 w.heap.size 14 15 t, rfl, h37.rt2 hB (by decide) (by decide) t, h38.rt2 hB (by decide) (by decide) (by decide) t, hB.keeps, rt2_old _ _ _ _ _ _⟩
    · exact fun _ _ h => h.elim

def fI_includes_s2 (p0 : List Int) (x14 : Int) : Int → Option (Lp Int Int Bool) := fun (s : Int) =>
  (
    if decide (s < (p0.length : Int)) then
      (ix p0 s) >>= fun x37 =>
      some (decide (x37 < x14))
    else
      some false) >>= fun q33 =>
  if q33 then
    (ck (s + 1)) >>= fun x47 =>
    some (.go x47)
  else
    some (.out s)
def fI_includes_s1 (fuel : Nat) (p0 : List Int) : Int → Int → Int → Option (Lp Int Int Bool) := fun (i4 : Int) (x14 : Int) (s : Int) =>
  (loopF (fI_includes_s2 p0 x14) fuel s) >>= fun q23 =>
  match q23 with
  | .inl y20 =>
    (
      if y20 == (p0.length : Int) then
        some true
      else
        (ix p0 y20) >>= fun x54 =>
        some (x54 != x14)) >>= fun q50 =>
    if q50 then
      some (.ret false)
    else
      (ck (y20 + 1)) >>= fun x65 =>
      some (.go x65)
  | .inr _ => none
def fI_includes (fuel : Nat) (p0 : List Int) (p1 : List Int) : Option Bool :=
  (forI (fI_includes_s1 fuel p0) p1 0 0) >>= fun q5 =>
  match q5 with
  | .inl y1 =>
    some true
  | .inr r' => some r'

def pI_includes (w : World) (r : Bool) : Ending → World → Prop := fun e w' => e = .returned (.bool r) ∧ Keeps w w'
set_option maxRecDepth 100000 in
set_option maxHeartbeats 2000000 in
theorem cI_includes (fuel : Nat) (w : World) (u0 : Value) (p0 : List Int) (g0 : RdL zt w u0 p0) (u1 : Value) (p1 : List Int) (g1 : RdL zt w u1 p1) (r : Bool) (hF : fI_includes fuel p0 p1 = some r) :
    Calls Try.prog 134 #[u0, u1] w (pI_includes w r) := by
  unfold fI_includes at hF
  have hB : Bs (fun _ => 1) (col (fun _ => 1)) w w := Bs.start _ _
  refine calls_start (n := 43) (vs := [u0, u1]) Try.func134 rfl rfl ?_
  refine wpC_seq ?_
  refine wpC_region ?_
  refine st_val (ex_assign rfl) (by decide) trivial ?_
  refine wpF_end (r := [(0, u0), (1, u1)]) ⟨rfl, rfl, trivial⟩ ?_
  refine nx ?_
  refine wpC_seq ?_
  refine wpC_region ?_
  refine st_val (ex_assign rfl) (by decide) trivial ?_
  refine wpF_end (r := [(0, u0), (1, u1), (5, (.int .i64 0))]) ⟨rfl, rfl, rfl, trivial⟩ ?_
  refine nx ?_
  refine wpC_seq ?_
  refine wpC_seq ?_
  refine wpC_region ?_
  refine st_val (ex_move rfl) (by decide) trivial ?_
  refine st_val (ex_lenR rfl g1 Try.underlying25) (by decide) trivial ?_
  refine st_val (ex_move rfl) (by decide) trivial ?_
  refine wpF_end (r := [(0, u0), (5, (.int .i64 0)), (8, u1), (9, (.int .i64 (p1.length : Int))), (10, (.int .i64 0))]) ⟨rfl, rfl, rfl, rfl, rfl, trivial⟩ ?_
  refine nx ?_
  obtain ⟨q5, hq5, hF⟩ := bind_some hF
  refine wpC_cutN (fun a w3 => ∃ (y1 : Int) (o2 : Tg), q5 = .inl y1 ∧ Fr a 43 [] ∧ Bs (fun _ => 1) o2 w w3) (fun a w' => ∃ r', q5 = .inr r' ∧ bodyPost Try.prog Try.f134 (pI_includes w r') .ret a w') ?_ ?_ ?_
  · refine wpC_block ?_
    refine wpC_loop (fun (K : Nat) a w3 => ∃ (i4 : Int) (y1 : Int) (o2 : Tg), forI (fI_includes_s1 fuel p0) (p1.drop i4.toNat) i4 y1 = some q5 ∧ (p1.drop i4.toNat).length = K ∧ 0 ≤ i4 ∧ Fr a 43 [(0, u0), (5, (.int .i64 y1)), (8, u1), (9, (.int .i64 (p1.length : Int))), (10, (.int .i64 i4))] ∧ Bs (fun _ => 1) o2 w w3) _ (fun a ha => ⟨0, 0, (col (fun _ => 1)), hq5, rfl, Int.le_refl 0, ha.sub (r := [(0, u0), (5, (.int .i64 0)), (8, u1), (9, (.int .i64 (p1.length : Int))), (10, (.int .i64 0))]) ⟨rfl, rfl, rfl, rfl, rfl, trivial⟩, hB⟩) ?_
    rintro K9 a w3 ⟨i4, y1, o2, l6, m8, z7, ha, hB⟩
    by_cases t13 : i4 < (p1.length : Int)
    · obtain ⟨x14, q10, hx14, b11, n12⟩ := forI_cons z7 t13 l6
      have hle := g1.len_le
      dsimp only [fI_includes_s1] at b11
      refine wp_of ha ?_
      refine wpC_seq ?_
      refine wpC_region ?_
      refine st_val (ex_lss rfl rfl) (by decide) trivial ?_
      refine wpF_end (r := [(0, u0), (5, (.int .i64 y1)), (8, u1), (9, (.int .i64 (p1.length : Int))), (10, (.int .i64 i4)), (11, (.bool (decide (i4 < (p1.length : Int)))))]) ⟨rfl, rfl, rfl, rfl, rfl, rfl, trivial⟩ ?_
      refine nx ?_
      refine wpC_seq ?_
      refine wpC_true (congrArg (fun b => some (Value.bool b)) (decide_eq_true t13)) ?_
      refine wpC_skip ?_
      refine nx ?_
      refine wpC_seq ?_
      refine wpC_block ?_
      refine wpC_seq ?_
      refine wpC_region ?_
      refine st_op (by decide) trivial ?_
      refine wf_atZ g1 hx14 hB rfl rfl Try.underlying25 Try.sizeOf3 ?_
      intro b15 f16 c17 h18 h19
      cases h19
      refine st_val (ex_load1 rfl Try.isAgg3 (cell_of_cells h18)) (by decide) trivial ?_
      refine st_val (ex_assign rfl) (by decide) trivial ?_
      refine wpF_end (r := [(0, u0), (5, (.int .i64 y1)), (7, (.int .i64 x14)), (8, u1), (9, (.int .i64 (p1.length : Int))), (10, (.int .i64 i4))]) ⟨rfl, rfl, rfl, rfl, rfl, rfl, trivial⟩ ?_
      refine nx ?_
      obtain ⟨q23, hq23, b11⟩ := bind_some b11
      refine wpC_cutP (fun a w22 => ∃ (y20 : Int) (o21 : Tg), q23 = .inl y20 ∧ Fr a 43 [(0, u0), (5, (.int .i64 y20)), (7, (.int .i64 x14)), (8, u1), (9, (.int .i64 (p1.length : Int))), (10, (.int .i64 i4))] ∧ Bs (fun _ => 1) o21 w w22) (fun _ _ => False) ?_ ?_ ?_
      · refine wpC_block ?_
        refine wpC_loop (fun (K : Nat) a w22 => ∃ (y20 : Int) (o21 : Tg), loopF (fI_includes_s2 p0 x14) K y20 = some q23 ∧ Fr a 43 [(0, u0), (5, (.int .i64 y20)), (7, (.int .i64 x14)), (8, u1), (9, (.int .i64 (p1.length : Int))), (10, (.int .i64 i4))] ∧ Bs (fun _ => 1) o21 w w22) fuel (fun a ha => ⟨y1, o2, hq23, ha.sub (r := [(0, u0), (5, (.int .i64 y1)), (7, (.int .i64 x14)), (8, u1), (9, (.int .i64 (p1.length : Int))), (10, (.int .i64 i4))]) ⟨rfl, rfl, rfl, rfl, rfl, rfl, trivial⟩, hB⟩) ?_
        rintro K27 a w22 ⟨y20, o21, l24, ha, hB⟩
        obtain ⟨K31, q28, e32, b29, n30⟩ := loopF_cons l24
        dsimp only [fI_includes_s2] at b29
        refine wp_of ha ?_
        refine wpC_seq ?_
        refine wpC_seq ?_
        refine wpC_region ?_
        refine st_val (ex_move rfl) (by decide) trivial ?_
        refine st_val (ex_move rfl) (by decide) trivial ?_
        refine st_val (ex_lenR rfl g0 Try.underlying25) (by decide) trivial ?_
        refine st_val (ex_lss rfl rfl) (by decide) trivial ?_
        refine st_val (ex_move rfl) (by decide) trivial ?_
        obtain ⟨q33, hq33, b29⟩ := bind_some b29
        refine wpF_cutAt 7 (fun a35 w34 => Fr a35 43 [(0, u0), (5, (.int .i64 y20)), (7, (.int .i64 x14)), (8, u1), (9, (.int .i64 (p1.length : Int))), (10, (.int .i64 i4)), (25, (.bool q33))] ∧ Keeps w22 w34) ?_ ?_
        all_goals simp only [List.take_succ_cons, List.take_zero, List.drop_succ_cons, List.drop_zero]
        · have kp : Keeps w22 w22 := Keeps.refl _
          rcases Bool.eq_false_or_eq_true (decide (y20 < (p0.length : Int))) with t36 | t36
          · rw [if_pos t36] at hq33
            refine st_val (ex_move rfl) (by decide) ⟨_, rfl, (congrArg (fun b => some (Value.bool b)) t36)⟩ ?_
            refine st_val (ex_move rfl) (by decide) ⟨_, rfl, (congrArg (fun b => some (Value.bool b)) t36)⟩ ?_
            obtain ⟨x37, hx37, hq33⟩ := bind_some hq33
            refine st_op (by decide) ⟨_, rfl, (congrArg (fun b => some (Value.bool b)) t36)⟩ ?_
            refine wf_atZ g0 hx37 hB rfl rfl Try.underlying25 Try.sizeOf3 ?_
            intro b38 f39 c40 h41 h42
            cases h42
            refine st_val (ex_load1 rfl Try.isAgg3 (cell_of_cells h41)) (by decide) ⟨_, rfl, (congrArg (fun b => some (Value.bool b)) t36)⟩ ?_
            refine st_val (ex_move rfl) (by decide) ⟨_, rfl, (congrArg (fun b => some (Value.bool b)) t36)⟩ ?_
            refine st_val (ex_lss rfl rfl) (by decide) ⟨_, rfl, (congrArg (fun b => some (Value.bool b)) t36)⟩ ?_
            refine st_val (ex_pick_t (congrArg (fun b => some (Value.bool b)) t36) rfl) (by decide) trivial ?_
            have hq332 := Option.some.inj hq33
            refine wpF_end (r := [(0, u0), (5, (.int .i64 y20)), (7, (.int .i64 x14)), (8, u1), (9, (.int .i64 (p1.length : Int))), (10, (.int .i64 i4)), (25, (.bool (decide (x37 < x14))))]) ⟨rfl, rfl, rfl, rfl, rfl, rfl, rfl, trivial⟩ ?_
            subst hq332
            refine np_norm (fun a ha => ⟨ha, kp⟩)
          · rw [if_neg (by rw [t36]; decide)] at hq33
            refine st_no rfl rfl (by rw [t36]; rfl) (by decide) ?_
            refine st_no rfl rfl (by rw [t36]; rfl) (by decide) ?_
            refine st_no rfl rfl (by rw [t36]; rfl) (by decide) ?_
            refine st_no rfl rfl (by rw [t36]; rfl) (by decide) ?_
            refine st_no rfl rfl (by rw [t36]; rfl) (by decide) ?_
            refine st_no rfl rfl (by rw [t36]; rfl) (by decide) ?_
            refine st_val (ex_pick_f (congrArg (fun b => some (Value.bool b)) t36) rfl) (by decide) trivial ?_
            have hq332 := Option.some.inj hq33
            refine wpF_end (r := [(0, u0), (5, (.int .i64 y20)), (7, (.int .i64 x14)), (8, u1), (9, (.int .i64 (p1.length : Int))), (10, (.int .i64 i4)), (25, (.bool false))]) ⟨rfl, rfl, rfl, rfl, rfl, rfl, rfl, trivial⟩ ?_
            subst hq332
            refine np_norm (fun a ha => ⟨ha, kp⟩)
        rintro a45 w34 ⟨ha, k43⟩
        have s44 := k43.stp 999 o21
        replace hB := hB.stp s44 (by decide)
        refine wl_of ha ?_
        refine wpF_end (r := [(0, u0), (5, (.int .i64 y20)), (7, (.int .i64 x14)), (8, u1), (9, (.int .i64 (p1.length : Int))), (10, (.int .i64 i4)), (25, (.bool q33))]) ⟨rfl, rfl, rfl, rfl, rfl, rfl, rfl, trivial⟩ ?_
        refine nx ?_
        refine wpC_cond rfl (fun t46 => ?_) (fun t46 => ?_)
        · rw [if_pos t46] at b29
          refine wpC_skip ?_
          refine nx ?_
          refine wpC_block ?_
          refine wpC_region ?_
          refine st_val (ex_move rfl) (by decide) trivial ?_
          obtain ⟨x47, hx47, b29⟩ := bind_some b29
          refine st_val (ex_add rfl rfl hx47) (by decide) trivial ?_
          refine st_val (ex_assign rfl) (by decide) trivial ?_
          refine wpF_end (r := [(0, u0), (5, (.int .i64 x47)), (7, (.int .i64 x14)), (8, u1), (9, (.int .i64 (p1.length : Int))), (10, (.int .i64 i4))]) ⟨rfl, rfl, rfl, rfl, rfl, rfl, trivial⟩ ?_
          refine nb_norm ?_
          refine nt_norm ?_
          have e48 := Option.some.inj b29
          subst e48
          refine to_k (r := [(0, u0), (5, (.int .i64 x47)), (7, (.int .i64 x14)), (8, u1), (9, (.int .i64 (p1.length : Int))), (10, (.int .i64 i4))]) ⟨rfl, rfl, rfl, rfl, rfl, rfl, trivial⟩ ?_
          intro a ha
          exact ⟨K31, by omega, x47, o21, n30, ha, hB⟩
        · rw [if_neg (by rw [t46]; decide)] at b29
          refine wpC_exit ?_
          refine nt_exit ?_
          refine nt_exit ?_
          refine nb_hit ?_
          refine np_norm ?_
          have e49 := Option.some.inj b29
          subst e49
          refine to_k (r := [(0, u0), (5, (.int .i64 y20)), (7, (.int .i64 x14)), (8, u1), (9, (.int .i64 (p1.length : Int))), (10, (.int .i64 i4))]) ⟨rfl, rfl, rfl, rfl, rfl, rfl, trivial⟩ ?_
          intro a ha
          exact ⟨y20, o21, n30, ha, hB⟩
      · rintro a w22 ⟨y20, o21, rfl, ha, hB⟩
        dsimp only at b11
        refine wp_of ha ?_
        refine wpC_seq ?_
        refine wpC_seq ?_
        refine wpC_region ?_
        refine st_val (ex_move rfl) (by decide) trivial ?_
        refine st_val (ex_move rfl) (by decide) trivial ?_
        refine st_val (ex_lenR rfl g0 Try.underlying25) (by decide) trivial ?_
        refine st_val (ex_eql rfl rfl) (by decide) trivial ?_
        refine st_val (ex_move rfl) (by decide) trivial ?_
        obtain ⟨q50, hq50, b11⟩ := bind_some b11
        refine wpF_cutAt 7 (fun a52 w51 => Fr a52 43 [(0, u0), (5, (.int .i64 y20)), (8, u1), (9, (.int .i64 (p1.length : Int))), (10, (.int .i64 i4)), (39, (.bool q50))] ∧ Keeps w22 w51) ?_ ?_
        all_goals simp only [List.take_succ_cons, List.take_zero, List.drop_succ_cons, List.drop_zero]
        · have kp : Keeps w22 w22 := Keeps.refl _
          rcases Bool.eq_false_or_eq_true (y20 == (p0.length : Int)) with t53 | t53
          · rw [if_pos t53] at hq50
            refine st_no rfl rfl (by rw [t53]; rfl) (by decide) ?_
            refine st_no rfl rfl (by rw [t53]; rfl) (by decide) ?_
            refine st_no rfl rfl (by rw [t53]; rfl) (by decide) ?_
            refine st_no rfl rfl (by rw [t53]; rfl) (by decide) ?_
            refine st_no rfl rfl (by rw [t53]; rfl) (by decide) ?_
            refine st_no rfl rfl (by rw [t53]; rfl) (by decide) ?_
            refine st_val (ex_pick_t (congrArg (fun b => some (Value.bool b)) t53) rfl) (by decide) trivial ?_
            have hq502 := Option.some.inj hq50
            refine wpF_end (r := [(0, u0), (5, (.int .i64 y20)), (8, u1), (9, (.int .i64 (p1.length : Int))), (10, (.int .i64 i4)), (39, (.bool true))]) ⟨rfl, rfl, rfl, rfl, rfl, rfl, trivial⟩ ?_
            subst hq502
            refine np_norm (fun a ha => ⟨ha, kp⟩)
          · rw [if_neg (by rw [t53]; decide)] at hq50
            refine st_val (ex_move rfl) (by decide) ⟨_, rfl, (congrArg (fun b => some (Value.bool b)) t53)⟩ ?_
            refine st_val (ex_move rfl) (by decide) ⟨_, rfl, (congrArg (fun b => some (Value.bool b)) t53)⟩ ?_
            obtain ⟨x54, hx54, hq50⟩ := bind_some hq50
            refine st_op (by decide) ⟨_, rfl, (congrArg (fun b => some (Value.bool b)) t53)⟩ ?_
            refine wf_atZ g0 hx54 hB rfl rfl Try.underlying25 Try.sizeOf3 ?_
            intro b55 f56 c57 h58 h59
            cases h59
            refine st_val (ex_load1 rfl Try.isAgg3 (cell_of_cells h58)) (by decide) ⟨_, rfl, (congrArg (fun b => some (Value.bool b)) t53)⟩ ?_
            refine st_val (ex_move rfl) (by decide) ⟨_, rfl, (congrArg (fun b => some (Value.bool b)) t53)⟩ ?_
            refine st_val (ex_neq rfl rfl) (by decide) ⟨_, rfl, (congrArg (fun b => some (Value.bool b)) t53)⟩ ?_
            refine st_val (ex_pick_f (congrArg (fun b => some (Value.bool b)) t53) rfl) (by decide) trivial ?_
            have hq502 := Option.some.inj hq50
            refine wpF_end (r := [(0, u0), (5, (.int .i64 y20)), (8, u1), (9, (.int .i64 (p1.length : Int))), (10, (.int .i64 i4)), (39, (.bool (x54 != x14)))]) ⟨rfl, rfl, rfl, rfl, rfl, rfl, trivial⟩ ?_
            subst hq502
            refine np_norm (fun a ha => ⟨ha, kp⟩)
        rintro a62 w51 ⟨ha, k60⟩
        have s61 := k60.stp 999 o21
        replace hB := hB.stp s61 (by decide)
        refine wl_of ha ?_
        refine wpF_end (r := [(0, u0), (5, (.int .i64 y20)), (8, u1), (9, (.int .i64 (p1.length : Int))), (10, (.int .i64 i4)), (39, (.bool q50))]) ⟨rfl, rfl, rfl, rfl, rfl, rfl, trivial⟩ ?_
        refine nx ?_
        refine wpC_cond rfl (fun t63 => ?_) (fun t63 => ?_)
        · rw [if_pos t63] at b11
          refine wpC_seq ?_
          refine wpC_region ?_
          refine st_val (ex_assign rfl) (by decide) trivial ?_
          refine wpF_end (r := [(4, (.bool false))]) ⟨rfl, trivial⟩ ?_
          refine nx ?_
          refine wpC_ret ?_
          refine nt_ret ?_
          refine nb_ret ?_
          refine nt_ret ?_
          refine nt_ret ?_
          refine nb_ret ?_
          refine np_ret ?_
          have e64 := Option.some.inj b11
          subst e64
          refine fun a ha => ⟨_, n12, ?_⟩
          refine ret_post (P := Try.prog) (vs := [(.bool false)]) Try.results134 ⟨rfl, trivial⟩ ?_ a ha
          exact ⟨rfl, hB.keeps⟩
        · rw [if_neg (by rw [t63]; decide)] at b11
          refine wpC_skip ?_
          refine nx ?_
          refine wpC_region ?_
          refine st_val (ex_move rfl) (by decide) trivial ?_
          obtain ⟨x65, hx65, b11⟩ := bind_some b11
          refine st_val (ex_add rfl rfl hx65) (by decide) trivial ?_
          refine st_val (ex_assign rfl) (by decide) trivial ?_
          refine wpF_end (r := [(0, u0), (5, (.int .i64 x65)), (8, u1), (9, (.int .i64 (p1.length : Int))), (10, (.int .i64 i4))]) ⟨rfl, rfl, rfl, rfl, rfl, trivial⟩ ?_
          refine nb_norm ?_
          refine nx ?_
          refine wpC_region ?_
          refine st_val (ex_add rfl rfl (ck_in (by omega) (by omega))) (by decide) trivial ?_
          refine st_val (ex_move rfl) (by decide) trivial ?_
          refine wpF_end (r := [(0, u0), (5, (.int .i64 x65)), (8, u1), (9, (.int .i64 (p1.length : Int))), (10, (.int .i64 (i4 + 1)))]) ⟨rfl, rfl, rfl, rfl, rfl, trivial⟩ ?_
          refine nt_norm ?_
          have e66 := Option.some.inj b11
          subst e66
          refine to_k (r := [(0, u0), (5, (.int .i64 x65)), (8, u1), (9, (.int .i64 (p1.length : Int))), (10, (.int .i64 (i4 + 1)))]) ⟨rfl, rfl, rfl, rfl, rfl, trivial⟩ ?_
          intro a ha
          exact ⟨_, (by rw [← m8]; simp only [List.length_drop]; omega), i4 + 1, x65, o21, n12, rfl, (by omega), ha, hB⟩
      · exact fun _ _ h => h.elim
    · have r67 := forI_done t13 l6
      refine wp_of ha ?_
      refine wpC_seq ?_
      refine wpC_region ?_
      refine st_val (ex_lss rfl rfl) (by decide) trivial ?_
      refine wpF_end (r := [(0, u0), (5, (.int .i64 y1)), (8, u1), (9, (.int .i64 (p1.length : Int))), (10, (.int .i64 i4)), (11, (.bool (decide (i4 < (p1.length : Int)))))]) ⟨rfl, rfl, rfl, rfl, rfl, rfl, trivial⟩ ?_
      refine nx ?_
      refine wpC_seq ?_
      refine wpC_false (congrArg (fun b => some (Value.bool b)) (decide_eq_false t13)) ?_
      refine wpC_exit ?_
      refine nt_exit ?_
      refine nt_exit ?_
      refine nb_hit ?_
      refine np_norm ?_
      refine to_k (r := []) trivial ?_
      intro a ha
      exact ⟨y1, o2, r67, ha, hB⟩
  · rintro a w3 ⟨y1, o2, rfl, ha, hB⟩
    dsimp only at hF
    refine ap_k ha ?_
    refine nx ?_
    refine wpC_seq ?_
    refine wpC_region ?_
    refine st_val (ex_assign rfl) (by decide) trivial ?_
    refine wpF_end (r := [(4, (.bool true))]) ⟨rfl, trivial⟩ ?_
    refine nx ?_
    refine wpC_ret ?_
    have e68 := Option.some.inj hF
    subst e68
    refine ret_post (P := Try.prog) (vs := [(.bool true)]) Try.results134 ⟨rfl, trivial⟩ ?_
    exact ⟨rfl, hB.keeps⟩
  · rintro a w3 ⟨r', rfl, b69⟩
    dsimp only at hF
    have e70 := Option.some.inj hF
    subst e70
    exact b69

def fI_Problem_fitting_s1 (fuel : Nat) (x24 : List Int) : Int → (List Int) → (List (List Int)) → Option (Lp (List (List Int)) (List (List Int)) (List (List Int))) := fun (i36 : Int) (x46 : List Int) (s : List (List Int)) =>
  (fI_includes fuel x46 x24) >>= fun x54 =>
  if x54 then
    (fX_slices_Clone_int_int x46) >>= fun x61 =>
    (push s x61) >>= fun x76 =>
    some (.go x76)
  else
    some (.go s)
def fI_Problem_fitting (fuel : Nat) (p0 : T_Problem) (p1 : List Int) : Option (List (List Int)) :=
  (srtO p1) >>= fun x24 =>
  (forI (fI_Problem_fitting_s1 fuel x24) p0.Nodes 0 []) >>= fun q37 =>
  match q37 with
  | .inl y29 =>
    some y29
  | .inr _ => none

def pI_Problem_fitting (oo : Tg) (t : Nat) (w : World) (r : List (List Int)) : Ending → World → Prop := fun e w' => ∃ (v0 : Value) (g0 : List Hv) (o' : Tg), e = .returned (v0) ∧ Ow w.heap.size 25 t o' w' v0 g0 ∧ Rws w.heap.size 3 (t + 1) o' w' g0 r ∧ Keeps w w' ∧ ∀ b, b < w.heap.size → o' b = oo b
set_option maxRecDepth 100000 in
set_option maxHeartbeats 2000000 in
theorem cI_Problem_fitting (fuel : Nat) (w : World) (oo : Tg) (t : Nat) (ht : 2 ≤ t) (u0 : List Value) (p0 : T_Problem) (g0 : Rp.rd zt w u0 p0) (u1 : Value) (p1 : List Int) (g1 : RdL zt w u1 p1) (r : List (List Int)) (hF : fI_Problem_fitting fuel p0 p1 = some r) :
    Calls Try.prog 84 #[.agg u0.toArray, u1] w (pI_Problem_fitting oo t w r) := by
  unfold fI_Problem_fitting at hF
  obtain ⟨v1, v3, rfl, h2, h4⟩ := g0
  have hB : Bs oo (col oo) w w := Bs.start _ _
  refine calls_start (n := 29) (vs := [(.agg #[(.int .i64 p0.Labels), (.int .i64 p0.Degree), v1, v3]), u1]) Try.func84 rfl rfl ?_
  generalize col oo = o at *
  refine wpC_seq ?_
  refine wpC_region ?_
  refine st_op (by decide) trivial ?_
  refine wf_box (o := o) w.heap.size 11 hB.keeps.size (cs := [(.int .i64 p0.Labels), (.int .i64 p0.Degree), v1, v3]) rfl rfl ?_
  intro o5 w6 b7 h8 s9
  replace hB := hB.stp s9 (by decide)
  refine st_val (ex_assign rfl) (by decide) trivial ?_
  refine wpF_end (r := [(1, u1), (2, (.pointer (some ⟨b7, 0, none⟩)))]) ⟨rfl, rfl, trivial⟩ ?_
  refine nx ?_
  refine wpC_seq ?_
  refine wpC_region ?_
  refine st_val (ex_move rfl) (by decide) trivial ?_
  refine st_op (by decide) trivial ?_
  refine wf_call (cX_Values w6 o5 u1 p1 (g1.keep hB.keeps)) Try.call133 ⟨rfl, trivial⟩ ?_
  rintro e11 w10 ⟨v16, o15, rfl, h17, k12, k13⟩
  have s14 := k12.stp' 999 k13
  refine ⟨_, rfl, ?_⟩
  replace h8 := h8.stp s14 (by decide)
  replace hB := hB.stp s14 (by decide)
  obtain ⟨x24, hx24, hF⟩ := bind_some hF
  refine st_op (by decide) trivial ?_
  refine wf_call (cX_Sorted w10 o15 12 v16 u1 _ h17 p1 (g1.keep hB.keeps) x24 hx24) Try.call132 ⟨rfl, trivial⟩ ?_
  rintro e19 w18 ⟨v25, o23, rfl, h26, k20, k21⟩
  have s22 := k20.stp' 12 k21
  replace h26 := h26.mono hB.keeps.size
  refine ⟨_, rfl, ?_⟩
  replace h17 := h17.stp s22 (by decide)
  replace h8 := h8.stp s22 (by decide)
  replace hB := hB.stp s22 (by decide)
  refine st_val (ex_assign rfl) (by decide) trivial ?_
  refine wpF_end (r := [(2, (.pointer (some ⟨b7, 0, none⟩))), (5, v25)]) ⟨rfl, rfl, trivial⟩ ?_
  refine nx ?_
  refine wpC_seq ?_
  refine wpC_region ?_
  refine st_val (ex_assign rfl) (by decide) trivial ?_
  refine wpF_end (r := [(2, (.pointer (some ⟨b7, 0, none⟩))), (5, v25), (6, (.slice none 0 0))]) ⟨rfl, rfl, rfl, trivial⟩ ?_
  refine nx ?_
  refine wpC_seq ?_
  refine wpC_seq ?_
  refine wpC_region ?_
  refine st_val (ex_field rfl Try.underlying29 rfl Try.sizeOf22) (by decide) trivial ?_
  refine st_val (ex_load1 rfl Try.isAgg22 (h8.cell rfl)) (by decide) trivial ?_
  refine st_val (ex_lenR rfl h2 Try.underlying22) (by decide) trivial ?_
  refine st_val (ex_move rfl) (by decide) trivial ?_
  refine wpF_end (r := [(5, v25), (6, (.slice none 0 0)), (13, v1), (14, (.int .i64 (p0.Nodes.length : Int))), (15, (.int .i64 0))]) ⟨rfl, rfl, rfl, rfl, rfl, trivial⟩ ?_
  refine nx ?_
  have h27 : Ow w.heap.size 25 13 o23 w18 (.slice none 0 0) ([] : List Hv) := Ow.nil _ _ _ _ _
  have h28 : Rws w.heap.size 3 14 o23 w18 [] ([] : List (List Int)) := Rws.nil _ _ _ _ _
  obtain ⟨q37, hq37, hF⟩ := bind_some hF
  refine wpC_cutN (fun a w35 => ∃ (y29 : List (List Int)) (v30 : Value) (g33 : List Hv) (o34 : Tg), q37 = .inl y29 ∧ Fr a 29 [(6, v30)] ∧ Bs oo o34 w w35 ∧ Ow w.heap.size 25 13 o34 w35 v30 g33 ∧ Rws w.heap.size 3 14 o34 w35 g33 y29) (fun _ _ => False) ?_ ?_ ?_
  · refine wpC_block ?_
    refine wpC_loop (fun (K : Nat) a w35 => ∃ (i36 : Int) (y29 : List (List Int)) (v30 : Value) (g33 : List Hv) (o34 : Tg), forI (fI_Problem_fitting_s1 fuel x24) (p0.Nodes.drop i36.toNat) i36 y29 = some q37 ∧ (p0.Nodes.drop i36.toNat).length = K ∧ 0 ≤ i36 ∧ Fr a 29 [(5, v25), (6, v30), (13, v1), (14, (.int .i64 (p0.Nodes.length : Int))), (15, (.int .i64 i36))] ∧ Bs oo o34 w w35 ∧ Ow w.heap.size 3 12 o34 w35 v25 x24 ∧ Ow w.heap.size 25 13 o34 w35 v30 g33 ∧ Rws w.heap.size 3 14 o34 w35 g33 y29) _ (fun a ha => ⟨0, [], (.slice none 0 0), [], o23, hq37, rfl, Int.le_refl 0, ha.sub (r := [(5, v25), (6, (.slice none 0 0)), (13, v1), (14, (.int .i64 (p0.Nodes.length : Int))), (15, (.int .i64 0))]) ⟨rfl, rfl, rfl, rfl, rfl, trivial⟩, hB, h26, h27, h28⟩) ?_
    rintro K41 a w35 ⟨i36, y29, v30, g33, o34, l38, m40, z39, ha, hB, h26, h31, h32⟩
    by_cases t45 : i36 < (p0.Nodes.length : Int)
    · obtain ⟨x46, q42, hx46, b43, n44⟩ := forI_cons z39 t45 l38
      have hle := h2.len_le
      dsimp only [fI_Problem_fitting_s1] at b43
      refine wp_of ha ?_
      refine wpC_seq ?_
      refine wpC_region ?_
      refine st_val (ex_lss rfl rfl) (by decide) trivial ?_
      refine wpF_end (r := [(5, v25), (6, v30), (13, v1), (14, (.int .i64 (p0.Nodes.length : Int))), (15, (.int .i64 i36)), (16, (.bool (decide (i36 < (p0.Nodes.length : Int)))))]) ⟨rfl, rfl, rfl, rfl, rfl, rfl, trivial⟩ ?_
      refine nx ?_
      refine wpC_seq ?_
      refine wpC_true (congrArg (fun b => some (Value.bool b)) (decide_eq_true t45)) ?_
      refine wpC_skip ?_
      refine nx ?_
      refine wpC_seq ?_
      refine wpC_block ?_
      refine wpC_seq ?_
      refine wpC_region ?_
      refine st_op (by decide) trivial ?_
      refine wf_atZ h2 hx46 hB rfl rfl Try.underlying22 Try.sizeOf25 ?_
      intro b47 f48 c49 h50 h51
      obtain ⟨v52, rfl, h53⟩ := h51
      refine st_val (ex_load1 rfl Try.isAgg25 (cell_of_cells h50)) (by decide) trivial ?_
      refine st_val (ex_assign rfl) (by decide) trivial ?_
      refine wpF_end (r := [(5, v25), (6, v30), (8, v52), (13, v1), (14, (.int .i64 (p0.Nodes.length : Int))), (15, (.int .i64 i36))]) ⟨rfl, rfl, rfl, rfl, rfl, rfl, trivial⟩ ?_
      refine nx ?_
      refine wpC_seq ?_
      refine wpC_region ?_
      refine st_val (ex_move rfl) (by decide) trivial ?_
      refine st_val (ex_move rfl) (by decide) trivial ?_
      obtain ⟨x54, hx54, b43⟩ := bind_some b43
      refine st_op (by decide) trivial ?_
      refine wf_call (cI_includes fuel w35 _ x46 (h53.keep hB.keeps) _ x24 h26.z x54 hx54) Try.call134 ⟨rfl, rfl, trivial⟩ ?_
      rintro e59 w55 ⟨rfl, k56⟩
      have s58 := k56.stp 999 o34
      refine ⟨_, rfl, ?_⟩
      replace h26 := h26.stp s58 (by decide) (by decide)
      replace h31 := h31.stp s58 (by decide) (by decide)
      replace h32 := h32.stp s58 (by decide) (by decide)
      replace hB := hB.stp s58 (by decide)
      refine wpF_end (r := [(5, v25), (6, v30), (8, v52), (13, v1), (14, (.int .i64 (p0.Nodes.length : Int))), (15, (.int .i64 i36)), (21, (.bool x54))]) ⟨rfl, rfl, rfl, rfl, rfl, rfl, rfl, trivial⟩ ?_
      refine nx ?_
      refine wpC_cond rfl (fun t60 => ?_) (fun t60 => ?_)
      · rw [if_pos t60] at b43
        refine wpC_region ?_
        refine st_val (ex_move rfl) (by decide) trivial ?_
        refine st_val (ex_move rfl) (by decide) trivial ?_
        obtain ⟨x61, hx61, b43⟩ := bind_some b43
        refine st_op (by decide) trivial ?_
        refine wf_call (cX_slices_Clone_int_int w55 o34 16 (by decide) _ x46 (h53.keep hB.keeps) x61 hx61) Try.call135 ⟨rfl, trivial⟩ ?_
        rintro e68 w62 ⟨v63, o69, rfl, h64, k65, k66⟩
        have s67 := k65.stp' 16 k66
        replace h64 := h64.mono hB.keeps.size
        refine ⟨_, rfl, ?_⟩
        replace h26 := h26.stp s67 (by decide) (by decide)
        replace h31 := h31.stp s67 (by decide) (by decide)
        replace h32 := h32.stp s67 (by decide) (by decide)
        replace hB := hB.stp s67 (by decide)
        refine st_op (by decide) trivial ?_
        refine wf_litR (o := o69) (cs := [v63]) (xs := ([⟨v63⟩] : List Hv)) (vs := [(0, v63)]) ⟨_, _, rfl, rd_hv h64, rfl⟩ rfl ⟨rfl, rfl, trivial⟩ Try.underlying22 Try.sizeOf25 Try.zeroValue25 (by decide) (fill1 h64.cells1) (by simp) ?_
        intro o70 w71 v72 h73 s74 k75
        replace h26 := h26.stp s74 (by decide) (by decide)
        replace h31 := h31.stp s74 (by decide) (by decide)
        replace h32 := h32.stp s74 (by decide) (by decide)
        replace h64 := h64.stp s74 (by decide) (by decide)
        replace hB := hB.stp s74 (by decide)
        obtain ⟨x76, hx76, b43⟩ := bind_some b43
        obtain ⟨h77, h78⟩ := h32.pushV hx76 v63
        refine st_op (by decide) trivial ?_
        refine wf_cat h31 h73 (push_cat h77) (by decide) hB.keeps.size rfl rfl Try.underlying22 info2_t_Lint_V rfl (by decide) ?_
        intro o79 w80 v81 h82 s83
        replace h26 := h26.stp s83 (by decide) (by decide)
        replace h32 := h32.stp s83 (by decide) (by decide)
        replace h64 := h64.stp s83 (by decide) (by decide)
        replace hB := hB.stp s83 (by decide)
        have h84 := h32.push h64 (by decide) (by decide)
        rw [← h78] at h84
        clear h32 h64
        have r85 := mrg_rc 16 14 o79
        replace h26 := h26.rc r85 (by decide) (by decide)
        replace h82 := h82.rc r85 (by decide) (by decide)
        replace hB := hB.rc r85 (by decide)
        generalize mrg 16 14 o79 = o86 at *
        refine st_val (ex_assign rfl) (by decide) trivial ?_
        refine wpF_end (r := [(5, v25), (6, v81), (13, v1), (14, (.int .i64 (p0.Nodes.length : Int))), (15, (.int .i64 i36))]) ⟨rfl, rfl, rfl, rfl, rfl, trivial⟩ ?_
        refine nb_norm ?_
        refine nx ?_
        refine wpC_region ?_
        refine st_val (ex_add rfl rfl (ck_in (by omega) (by omega))) (by decide) trivial ?_
        refine st_val (ex_move rfl) (by decide) trivial ?_
        refine wpF_end (r := [(5, v25), (6, v81), (13, v1), (14, (.int .i64 (p0.Nodes.length : Int))), (15, (.int .i64 (i36 + 1)))]) ⟨rfl, rfl, rfl, rfl, rfl, trivial⟩ ?_
        refine nt_norm ?_
        have e87 := Option.some.inj b43
        subst e87
        refine to_k (r := [(5, v25), (6, v81), (13, v1), (14, (.int .i64 (p0.Nodes.length : Int))), (15, (.int .i64 (i36 + 1)))]) ⟨rfl, rfl, rfl, rfl, rfl, trivial⟩ ?_
        intro a ha
        exact ⟨_, (by rw [← m40]; simp only [List.length_drop]; omega), i36 + 1, x76, v81, (g33 ++ [⟨v63⟩]), o86, n44, rfl, (by omega), ha, hB, h26, h82, h84⟩
      · rw [if_neg (by rw [t60]; decide)] at b43
        refine wpC_skip ?_
        refine nb_norm ?_
        refine nx ?_
        refine wpC_region ?_
        refine st_val (ex_add rfl rfl (ck_in (by omega) (by omega))) (by decide) trivial ?_
        refine st_val (ex_move rfl) (by decide) trivial ?_
        refine wpF_end (r := [(5, v25), (6, v30), (13, v1), (14, (.int .i64 (p0.Nodes.length : Int))), (15, (.int .i64 (i36 + 1)))]) ⟨rfl, rfl, rfl, rfl, rfl, trivial⟩ ?_
        refine nt_norm ?_
        have e88 := Option.some.inj b43
        subst e88
        refine to_k (r := [(5, v25), (6, v30), (13, v1), (14, (.int .i64 (p0.Nodes.length : Int))), (15, (.int .i64 (i36 + 1)))]) ⟨rfl, rfl, rfl, rfl, rfl, trivial⟩ ?_
        intro a ha
        exact ⟨_, (by rw [← m40]; simp only [List.length_drop]; omega), i36 + 1, y29, v30, g33, o34, n44, rfl, (by omega), ha, hB, h26, h31, h32⟩
    · have r89 := forI_done t45 l38
      refine wp_of ha ?_
      refine wpC_seq ?_
      refine wpC_region ?_
      refine st_val (ex_lss rfl rfl) (by decide) trivial ?_
      refine wpF_end (r := [(5, v25), (6, v30), (13, v1), (14, (.int .i64 (p0.Nodes.length : Int))), (15, (.int .i64 i36)), (16, (.bool (decide (i36 < (p0.Nodes.length : Int)))))]) ⟨rfl, rfl, rfl, rfl, rfl, rfl, trivial⟩ ?_
      refine nx ?_
      refine wpC_seq ?_
      refine wpC_false (congrArg (fun b => some (Value.bool b)) (decide_eq_false t45)) ?_
      refine wpC_exit ?_
      refine nt_exit ?_
      refine nt_exit ?_
      refine nb_hit ?_
      refine np_norm ?_
      refine to_k (r := [(6, v30)]) ⟨rfl, trivial⟩ ?_
      intro a ha
      exact ⟨y29, v30, g33, o34, r89, ha, hB, h31, h32⟩
  · rintro a w35 ⟨y29, v30, g33, o34, rfl, ha, hB, h31, h32⟩
    dsimp only at hF
    refine ap_k ha ?_
    refine nx ?_
    refine wpC_seq ?_
    refine wpC_region ?_
    refine st_val (ex_move rfl) (by decide) trivial ?_
    refine st_val (ex_assign rfl) (by decide) trivial ?_
    refine wpF_end (r := [(4, v30)]) ⟨rfl, trivial⟩ ?_
    refine nx ?_
    refine wpC_ret ?_
    have e90 := Option.some.inj hF
    subst e90
    refine ret_post (P := Try.prog) (vs := [v30]) Try.results84 ⟨rfl, trivial⟩ ?_
    exact ⟨_, g33, rt2 oo o34 w.heap.size 13 14 t, rfl, h31.rt2 hB (by decide) (by decide) t, h32.rt2 hB (by decide) (by decide) (by decide) t, hB.keeps, rt2_old _ _ _ _ _ _⟩
  · exact fun _ _ h => h.elim

def fI_FittingNodes (fuel : Nat) (p0 : T_Problem) (p1 : List Int) : Option ((List (List Int)) × Bool) :=
  (fI_IsProblem fuel p0) >>= fun x10 =>
  (
    if !x10 then
      some true
    else
      if decide ((p1.length : Int) > p0.Degree) then
        some true
      else
        (fI_Problem_hasLabels p0 p1) >>= fun x21 =>
        some (!x21)) >>= fun q16 =>
  if q16 then
    some ([], false)
  else
    (fI_Problem_fitting fuel p0 p1) >>= fun x32 =>
    some (x32, true)

def pI_FittingNodes (oo : Tg) (t : Nat) (w : World) (r : (List (List Int)) × Bool) : Ending → World → Prop := fun e w' => ∃ (v0 : Value) (g0 : List Hv) (o' : Tg), e = .returned (.tuple #[v0, .bool r.2]) ∧ Ow w.heap.size 25 t o' w' v0 g0 ∧ Rws w.heap.size 3 (t + 1) o' w' g0 r.1 ∧ Keeps w w' ∧ ∀ b, b < w.heap.size → o' b = oo b
set_option maxRecDepth 100000 in
set_option maxHeartbeats 2000000 in
theorem cI_FittingNodes (fuel : Nat) (w : World) (oo : Tg) (t : Nat) (ht : 2 ≤ t) (u0 : List Value) (p0 : T_Problem) (g0 : Rp.rd zt w u0 p0) (u1 : Value) (p1 : List Int) (g1 : RdL zt w u1 p1) (r : (List (List Int)) × Bool) (hF : fI_FittingNodes fuel p0 p1 = some r) :
    Calls Try.prog 28 #[.agg u0.toArray, u1] w (pI_FittingNodes oo t w r) := by
  unfold fI_FittingNodes at hF
  obtain ⟨v1, v3, rfl, h2, h4⟩ := g0
  have hB : Bs oo (col oo) w w := Bs.start _ _
  refine calls_start (n := 25) (vs := [(.agg #[(.int .i64 p0.Labels), (.int .i64 p0.Degree), v1, v3]), u1]) Try.func28 rfl rfl ?_
  generalize col oo = o at *
  refine wpC_seq ?_
  refine wpC_region ?_
  refine st_op (by decide) trivial ?_
  refine wf_box (o := o) w.heap.size 11 hB.keeps.size (cs := [(.int .i64 p0.Labels), (.int .i64 p0.Degree), v1, v3]) rfl rfl ?_
  intro o5 w6 b7 h8 s9
  replace hB := hB.stp s9 (by decide)
  refine st_val (ex_assign rfl) (by decide) trivial ?_
  refine st_val (ex_assign rfl) (by decide) trivial ?_
  refine wpF_end (r := [(1, u1), (2, (.pointer (some ⟨b7, 0, none⟩)))]) ⟨rfl, rfl, trivial⟩ ?_
  refine nx ?_
  refine wpC_seq ?_
  refine wpC_seq ?_
  refine wpC_region ?_
  refine st_val (ex_loadA rfl Try.isAgg29 Try.sizeOf29 rfl h8.cells) (by decide) trivial ?_
  obtain ⟨x10, hx10, hF⟩ := bind_some hF
  refine st_op (by decide) trivial ?_
  refine wf_call (cI_IsProblem fuel w6 _ p0 (⟨_, _, rfl, (h2.keep hB.keeps), (h4.keep hB.keeps)⟩) x10 hx10) Try.call82 ⟨rfl, trivial⟩ ?_
  rintro e15 w11 ⟨rfl, k12⟩
  have s14 := k12.stp 999 o5
  refine ⟨_, rfl, ?_⟩
  replace h8 := h8.stp s14 (by decide)
  replace hB := hB.stp s14 (by decide)
  refine st_val (ex_not rfl) (by decide) trivial ?_
  refine st_val (ex_move rfl) (by decide) trivial ?_
  obtain ⟨q16, hq16, hF⟩ := bind_some hF
  refine wpF_cutAt 12 (fun a18 w17 => Fr a18 25 [(1, u1), (2, (.pointer (some ⟨b7, 0, none⟩))), (21, (.bool q16))] ∧ Keeps w11 w17) ?_ ?_
  all_goals simp only [List.take_succ_cons, List.take_zero, List.drop_succ_cons, List.drop_zero]
  · have kp : Keeps w11 w11 := Keeps.refl _
    rcases Bool.eq_false_or_eq_true (!x10) with t19 | t19
    · rw [if_pos t19] at hq16
      refine st_no rfl rfl (by rw [t19]; rfl) (by decide) ?_
      refine st_no rfl rfl (by rw [t19]; rfl) (by decide) ?_
      refine st_no rfl rfl (by rw [t19]; rfl) (by decide) ?_
      refine st_no rfl rfl (by rw [t19]; rfl) (by decide) ?_
      refine st_no rfl rfl (by rw [t19]; rfl) (by decide) ?_
      refine st_val (ex_pick_t (congrArg (fun b => some (Value.bool b)) t19) rfl) (by decide) trivial ?_
      refine st_val (ex_move rfl) (by decide) trivial ?_
      refine st_no rfl rfl rfl (by decide) ?_
      refine st_no rfl rfl rfl (by decide) ?_
      refine st_no rfl rfl rfl (by decide) ?_
      refine st_no rfl rfl rfl (by decide) ?_
      refine st_val (ex_pick_t rfl rfl) (by decide) trivial ?_
      have hq162 := Option.some.inj hq16
      refine wpF_end (r := [(1, u1), (2, (.pointer (some ⟨b7, 0, none⟩))), (21, (.bool true))]) ⟨rfl, rfl, rfl, trivial⟩ ?_
      subst hq162
      refine np_norm (fun a ha => ⟨ha, kp⟩)
    · rw [if_neg (by rw [t19]; decide)] at hq16
      refine st_val (ex_move rfl) (by decide) ⟨_, rfl, (congrArg (fun b => some (Value.bool b)) t19)⟩ ?_
      refine st_val (ex_lenR rfl g1 Try.underlying25) (by decide) ⟨_, rfl, (congrArg (fun b => some (Value.bool b)) t19)⟩ ?_
      refine st_val (ex_field rfl Try.underlying29 rfl Try.sizeOf3) (by decide) ⟨_, rfl, (congrArg (fun b => some (Value.bool b)) t19)⟩ ?_
      refine st_val (ex_load1 rfl Try.isAgg3 (h8.cell rfl)) (by decide) ⟨_, rfl, (congrArg (fun b => some (Value.bool b)) t19)⟩ ?_
      refine st_val (ex_gtr rfl rfl) (by decide) ⟨_, rfl, (congrArg (fun b => some (Value.bool b)) t19)⟩ ?_
      refine st_val (ex_pick_f (congrArg (fun b => some (Value.bool b)) t19) rfl) (by decide) trivial ?_
      refine st_val (ex_move rfl) (by decide) trivial ?_
      rcases Bool.eq_false_or_eq_true (decide ((p1.length : Int) > p0.Degree)) with t20 | t20
      · rw [if_pos t20] at hq16
        refine st_no rfl rfl (by rw [t20]; rfl) (by decide) ?_
        refine st_no rfl rfl (by rw [t20]; rfl) (by decide) ?_
        refine st_no rfl rfl (by rw [t20]; rfl) (by decide) ?_
        refine st_no rfl rfl (by rw [t20]; rfl) (by decide) ?_
        refine st_val (ex_pick_t (congrArg (fun b => some (Value.bool b)) t20) rfl) (by decide) trivial ?_
        have hq162 := Option.some.inj hq16
        refine wpF_end (r := [(1, u1), (2, (.pointer (some ⟨b7, 0, none⟩))), (21, (.bool true))]) ⟨rfl, rfl, rfl, trivial⟩ ?_
        subst hq162
        refine np_norm (fun a ha => ⟨ha, kp⟩)
      · rw [if_neg (by rw [t20]; decide)] at hq16
        refine st_val (ex_loadA rfl Try.isAgg29 Try.sizeOf29 rfl h8.cells) (by decide) ⟨_, rfl, (congrArg (fun b => some (Value.bool b)) t20)⟩ ?_
        refine st_val (ex_move rfl) (by decide) ⟨_, rfl, (congrArg (fun b => some (Value.bool b)) t20)⟩ ?_
        obtain ⟨x21, hx21, hq16⟩ := bind_some hq16
        refine st_op (by decide) ⟨_, rfl, (congrArg (fun b => some (Value.bool b)) t20)⟩ ?_
        refine wf_call (cI_Problem_hasLabels w11 _ p0 (⟨_, _, rfl, (h2.keep hB.keeps), (h4.keep hB.keeps)⟩) _ p1 (g1.keep hB.keeps) x21 hx21) Try.call83 ⟨rfl, rfl, trivial⟩ ?_
        rintro e26 w22 ⟨rfl, k23⟩
        have s25 := k23.stp 999 o5
        refine ⟨_, rfl, ?_⟩
        replace h8 := h8.stp s25 (by decide)
        replace hB := hB.stp s25 (by decide)
        replace kp := Keeps.trans kp k23
        refine st_val (ex_not rfl) (by decide) ⟨_, rfl, (congrArg (fun b => some (Value.bool b)) t20)⟩ ?_
        refine st_val (ex_pick_f (congrArg (fun b => some (Value.bool b)) t20) rfl) (by decide) trivial ?_
        have hq162 := Option.some.inj hq16
        refine wpF_end (r := [(1, u1), (2, (.pointer (some ⟨b7, 0, none⟩))), (21, (.bool (!x21)))]) ⟨rfl, rfl, rfl, trivial⟩ ?_
        subst hq162
        refine np_norm (fun a ha => ⟨ha, kp⟩)
  rintro a29 w17 ⟨ha, k27⟩
  have s28 := k27.stp 999 o5
  replace h8 := h8.stp s28 (by decide)
  replace hB := hB.stp s28 (by decide)
  refine wl_of ha ?_
  refine wpF_end (r := [(1, u1), (2, (.pointer (some ⟨b7, 0, none⟩))), (21, (.bool q16))]) ⟨rfl, rfl, rfl, trivial⟩ ?_
  refine nx ?_
  refine wpC_cond rfl (fun t30 => ?_) (fun t30 => ?_)
  · rw [if_pos t30] at hF
    refine wpC_seq ?_
    refine wpC_region ?_
    refine st_val (ex_assign rfl) (by decide) trivial ?_
    refine st_val (ex_assign rfl) (by decide) trivial ?_
    refine wpF_end (r := [(4, (.slice none 0 0)), (5, (.bool false))]) ⟨rfl, rfl, trivial⟩ ?_
    refine nx ?_
    refine wpC_ret ?_
    refine nt_ret ?_
    have e31 := Option.some.inj hF
    subst e31
    refine ret_post (P := Try.prog) (vs := [(.slice none 0 0), (.bool false)]) Try.results28 ⟨rfl, rfl, trivial⟩ ?_
    exact ⟨_, [], rt2 oo o5 w.heap.size 9 8 t, rfl, (Ow.nil _ _ _ _ _), (Rws.nil _ _ _ _ _), hB.keeps, rt2_old _ _ _ _ _ _⟩
  · rw [if_neg (by rw [t30]; decide)] at hF
    refine wpC_skip ?_
    refine nx ?_
    refine wpC_seq ?_
    refine wpC_region ?_
    refine st_val (ex_loadA rfl Try.isAgg29 Try.sizeOf29 rfl h8.cells) (by decide) trivial ?_
    refine st_val (ex_move rfl) (by decide) trivial ?_
    obtain ⟨x32, hx32, hF⟩ := bind_some hF
    refine st_op (by decide) trivial ?_
    refine wf_call (cI_Problem_fitting fuel w17 o5 14 (by decide) _ p0 (⟨_, _, rfl, (h2.keep hB.keeps), (h4.keep hB.keeps)⟩) _ p1 (g1.keep hB.keeps) x32 hx32) Try.call84 ⟨rfl, rfl, trivial⟩ ?_
    rintro e41 w33 ⟨v34, g36, o42, rfl, h35, h37, k38, k39⟩
    have s40 := k38.stp' 14 k39
    replace h35 := h35.mono hB.keeps.size
    replace h37 := h37.mono hB.keeps.size
    refine ⟨_, rfl, ?_⟩
    replace h8 := h8.stp s40 (by decide)
    replace hB := hB.stp s40 (by decide)
    refine st_val (ex_assign rfl) (by decide) trivial ?_
    refine st_val (ex_assign rfl) (by decide) trivial ?_
    refine wpF_end (r := [(4, v34), (5, (.bool true))]) ⟨rfl, rfl, trivial⟩ ?_
    refine nx ?_
    refine wpC_ret ?_
    have e43 := Option.some.inj hF
    subst e43
    refine ret_post (P := Try.prog) (vs := [v34, (.bool true)]) Try.results28 ⟨rfl, rfl, trivial⟩ ?_
    exact ⟨_, g36, rt2 oo o42 w.heap.size 14 15 t, rfl, h35.rt2 hB (by decide) (by decide) t, h37.rt2 hB (by decide) (by decide) (by decide) t, hB.keeps, rt2_old _ _ _ _ _ _⟩

end Go.Proofs.Ytiejigogmnkjdaa
