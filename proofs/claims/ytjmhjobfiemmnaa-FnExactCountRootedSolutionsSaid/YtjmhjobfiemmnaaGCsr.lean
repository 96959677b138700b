/- spec.roFree, spec.CountRootedSolutions: plain functions, and the walks that show that the program computes them (printed by gen.py). -/
import Derived.Test.YtjmhjobfiemmnaaGM
import Derived.Test.YtjmhjobfiemmnaaKpy
namespace Go.Proofs.Ytjmhjobfiemmnaa
set_option linter.unusedSimpArgs false
set_option linter.unusedVariables false

open Go.RowKit
theorem info2_t_int_Rw : Inf Try.prog 3 (.int .i64 0) 1 8 := by unfold Inf; kernel_rfl

theorem info2_t_Lint_Rw : Inf Try.prog 25 (.slice none 0 0) 1 24 := by unfold Inf; kernel_rfl

def fS_roWays_s1 (p0 : List Int) (p1 : List (List Int)) (self : (List Int) → (List (List Int)) → Option Int) : Int → Int → Int → Option (Lp Int Int Int) := fun (i6 : Int) (x16 : Int) (s : Int) =>
  (
    if decide (i6 > 0) then
      (ck (i6 - 1)) >>= fun x26 =>
      (ix p0 x26) >>= fun x27 =>
      some (x27 == x16)
    else
      some false) >>= fun q22 =>
  if q22 then
    some (.go s)
  else
    (cut p0 0 i6) >>= fun x38 =>
    (fS_l1Own x38) >>= fun x41 =>
    (ck (i6 + 1)) >>= fun x50 =>
    (cut p0 x50 p0.length) >>= fun x51 =>
    (cat x41 x51) >>= fun x107 =>
    (cut p1 1 p1.length) >>= fun x113 =>
    (self x107 x113) >>= fun x116 =>
    (ix p1 0) >>= fun x122 =>
    (ix x122 x16) >>= fun x130 =>
    (
      if decide (x130 > 0) then
        (ix p1 0) >>= fun x140 =>
        (ix x140 x16) >>= fun x148 =>
        (quo 1000000000000 x148) >>= fun x154 =>
        some (decide (x116 > x154))
      else
        some false) >>= fun q136 =>
    if q136 then
      some (.ret 1000000000001)
    else
      (ix p1 0) >>= fun x160 =>
      (ix x160 x16) >>= fun x168 =>
      (ck (x116 * x168)) >>= fun x174 =>
      (ck (s + x174)) >>= fun x175 =>
      (fS_l1Least x175 1000000000001) >>= fun x176 =>
      some (.go x176)
def fS_roWays : Nat → (List Int) → (List (List Int)) → Option Int
  | 0 => fun _ _ => none
  | fuel + 1 => fun p0 p1 =>
    if (p1.length : Int) == 0 then
      some 1
    else
      (forI (fS_roWays_s1 p0 p1 (fS_roWays fuel)) p0 0 0) >>= fun q7 =>
      match q7 with
      | .inl y3 =>
        some y3
      | .inr r' => some r'

def pS_roWays (w : World) (r : Int) : Ending → World → Prop := fun e w' => e = .returned (.int .i64 r) ∧ Keeps w w'
set_option maxRecDepth 100000 in
set_option maxHeartbeats 2000000 in
theorem cS_roWays (fuel : Nat) : ∀ (w : World) (u0 : Value) (p0 : List Int) (g0 : RdL zt w u0 p0) (u1 : Value) (p1 : List (List Int)) (g1 : RdL zt w u1 p1) (r : Int) (hF : fS_roWays fuel p0 p1 = some r), Calls Try.prog 43 #[u0, u1] w (pS_roWays w r) := by
  induction fuel with
  | zero =>
    intro w u0 p0 g0 u1 p1 g1 r hF
    unfold fS_roWays at hF
    cases hF
  | succ fuel ih =>
    intro w u0 p0 g0 u1 p1 g1 r hF
    unfold fS_roWays at hF
    have hB : Bs (fun _ => 1) (col (fun _ => 1)) w w := Bs.start _ _
    refine calls_start (n := 75) (vs := [u0, u1]) Try.func43 rfl rfl ?_
    refine wpC_seq ?_
    refine wpC_region ?_
    refine st_val (ex_assign rfl) (by decide) trivial ?_
    refine wpF_end (r := [(0, u0), (1, u1)]) ⟨rfl, rfl, trivial⟩ ?_
    refine nx ?_
    refine wpC_seq ?_
    refine wpC_seq ?_
    refine wpC_region ?_
    refine st_val (ex_move rfl) (by decide) trivial ?_
    refine st_val (ex_lenR rfl g1 Try.underlying22) (by decide) trivial ?_
    refine st_val (ex_eql rfl rfl) (by decide) trivial ?_
    refine wpF_end (r := [(0, u0), (1, u1), (12, (.bool ((p1.length : Int) == 0)))]) ⟨rfl, rfl, rfl, trivial⟩ ?_
    refine nx ?_
    refine wpC_cond rfl (fun t1 => ?_) (fun t1 => ?_)
    · rw [if_pos t1] at hF
      refine wpC_seq ?_
      refine wpC_region ?_
      refine st_val (ex_assign rfl) (by decide) trivial ?_
      refine wpF_end (r := [(4, (.int .i64 1))]) ⟨rfl, trivial⟩ ?_
      refine nx ?_
      refine wpC_ret ?_
      refine nt_ret ?_
      have e2 := Option.some.inj hF
      subst e2
      refine ret_post (P := Try.prog) (vs := [(.int .i64 1)]) Try.results43 ⟨rfl, trivial⟩ ?_
      exact ⟨rfl, hB.keeps⟩
    · rw [if_neg (by rw [t1]; decide)] at hF
      refine wpC_skip ?_
      refine nx ?_
      refine wpC_seq ?_
      refine wpC_region ?_
      refine st_val (ex_assign rfl) (by decide) trivial ?_
      refine wpF_end (r := [(0, u0), (1, u1), (5, (.int .i64 0))]) ⟨rfl, rfl, rfl, trivial⟩ ?_
      refine nx ?_
      refine wpC_seq ?_
      refine wpC_seq ?_
      refine wpC_region ?_
      refine st_val (ex_move rfl) (by decide) trivial ?_
      refine st_val (ex_lenR rfl g0 Try.underlying25) (by decide) trivial ?_
      refine st_val (ex_move rfl) (by decide) trivial ?_
      refine wpF_end (r := [(0, u0), (1, u1), (5, (.int .i64 0)), (13, u0), (14, (.int .i64 (p0.length : Int))), (15, (.int .i64 0))]) ⟨rfl, rfl, rfl, rfl, rfl, rfl, trivial⟩ ?_
      refine nx ?_
      obtain ⟨q7, hq7, hF⟩ := bind_some hF
      refine wpC_cutN (fun a w5 => ∃ (y3 : Int) (o4 : Tg), q7 = .inl y3 ∧ Fr a 75 [(5, (.int .i64 y3))] ∧ Bs (fun _ => 1) o4 w w5) (fun a w' => ∃ r', q7 = .inr r' ∧ bodyPost Try.prog Try.f43 (pS_roWays w r') .ret a w') ?_ ?_ ?_
      · refine wpC_block ?_
        refine wpC_loop (fun (K : Nat) a w5 => ∃ (i6 : Int) (y3 : Int) (o4 : Tg), forI (fS_roWays_s1 p0 p1 (fS_roWays fuel)) (p0.drop i6.toNat) i6 y3 = some q7 ∧ (p0.drop i6.toNat).length = K ∧ 0 ≤ i6 ∧ Fr a 75 [(0, u0), (1, u1), (5, (.int .i64 y3)), (13, u0), (14, (.int .i64 (p0.length : Int))), (15, (.int .i64 i6))] ∧ Bs (fun _ => 1) o4 w w5) _ (fun a ha => ⟨0, 0, (col (fun _ => 1)), hq7, rfl, Int.le_refl 0, ha.sub (r := [(0, u0), (1, u1), (5, (.int .i64 0)), (13, u0), (14, (.int .i64 (p0.length : Int))), (15, (.int .i64 0))]) ⟨rfl, rfl, rfl, rfl, rfl, rfl, trivial⟩, hB⟩) ?_
        rintro K11 a w5 ⟨i6, y3, o4, l8, m10, z9, ha, hB⟩
        by_cases t15 : i6 < (p0.length : Int)
        · obtain ⟨x16, q12, hx16, b13, n14⟩ := forI_cons z9 t15 l8
          have hle := g0.len_le
          dsimp only [fS_roWays_s1] at b13
          refine wp_of ha ?_
          refine wpC_seq ?_
          refine wpC_region ?_
          refine st_val (ex_lss rfl rfl) (by decide) trivial ?_
          refine wpF_end (r := [(0, u0), (1, u1), (5, (.int .i64 y3)), (13, u0), (14, (.int .i64 (p0.length : Int))), (15, (.int .i64 i6)), (16, (.bool (decide (i6 < (p0.length : Int)))))]) ⟨rfl, rfl, rfl, rfl, rfl, rfl, rfl, trivial⟩ ?_
          refine nx ?_
          refine wpC_seq ?_
          refine wpC_true (congrArg (fun b => some (Value.bool b)) (decide_eq_true t15)) ?_
          refine wpC_skip ?_
          refine nx ?_
          refine wpC_seq ?_
          refine wpC_block ?_
          refine wpC_seq ?_
          refine wpC_region ?_
          refine st_val (ex_move rfl) (by decide) trivial ?_
          refine st_op (by decide) trivial ?_
          refine wf_atZ g0 hx16 hB rfl rfl Try.underlying25 Try.sizeOf3 ?_
          intro b17 f18 c19 h20 h21
          cases h21
          refine st_val (ex_load1 rfl Try.isAgg3 (cell_of_cells h20)) (by decide) trivial ?_
          refine st_val (ex_assign rfl) (by decide) trivial ?_
          refine st_val (ex_assign rfl) (by decide) trivial ?_
          refine wpF_end (r := [(0, u0), (1, u1), (5, (.int .i64 y3)), (6, (.int .i64 i6)), (7, (.int .i64 x16)), (13, u0), (14, (.int .i64 (p0.length : Int))), (15, (.int .i64 i6))]) ⟨rfl, rfl, rfl, rfl, rfl, rfl, rfl, rfl, trivial⟩ ?_
          refine nx ?_
          refine wpC_seq ?_
          refine wpC_seq ?_
          refine wpC_region ?_
          refine st_val (ex_move rfl) (by decide) trivial ?_
          refine st_val (ex_gtr rfl rfl) (by decide) trivial ?_
          refine st_val (ex_move rfl) (by decide) trivial ?_
          obtain ⟨q22, hq22, b13⟩ := bind_some b13
          refine wpF_cutAt 8 (fun a24 w23 => Fr a24 75 [(0, u0), (1, u1), (5, (.int .i64 y3)), (6, (.int .i64 i6)), (7, (.int .i64 x16)), (13, u0), (14, (.int .i64 (p0.length : Int))), (15, (.int .i64 i6)), (30, (.bool q22))] ∧ Keeps w5 w23) ?_ ?_
          all_goals simp only [List.take_succ_cons, List.take_zero, List.drop_succ_cons, List.drop_zero]
          · have kp : Keeps w5 w5 := Keeps.refl _
            rcases Bool.eq_false_or_eq_true (decide (i6 > 0)) with t25 | t25
            · rw [if_pos t25] at hq22
              refine st_val (ex_move rfl) (by decide) ⟨_, rfl, (congrArg (fun b => some (Value.bool b)) t25)⟩ ?_
              refine st_val (ex_move rfl) (by decide) ⟨_, rfl, (congrArg (fun b => some (Value.bool b)) t25)⟩ ?_
              obtain ⟨x26, hx26, hq22⟩ := bind_some hq22
              refine st_val (ex_sub rfl rfl hx26) (by decide) ⟨_, rfl, (congrArg (fun b => some (Value.bool b)) t25)⟩ ?_
              obtain ⟨x27, hx27, hq22⟩ := bind_some hq22
              refine st_op (by decide) ⟨_, rfl, (congrArg (fun b => some (Value.bool b)) t25)⟩ ?_
              refine wf_atZ g0 hx27 hB rfl rfl Try.underlying25 Try.sizeOf3 ?_
              intro b28 f29 c30 h31 h32
              cases h32
              refine st_val (ex_load1 rfl Try.isAgg3 (cell_of_cells h31)) (by decide) ⟨_, rfl, (congrArg (fun b => some (Value.bool b)) t25)⟩ ?_
              refine st_val (ex_move rfl) (by decide) ⟨_, rfl, (congrArg (fun b => some (Value.bool b)) t25)⟩ ?_
              refine st_val (ex_eql rfl rfl) (by decide) ⟨_, rfl, (congrArg (fun b => some (Value.bool b)) t25)⟩ ?_
              refine st_val (ex_pick_t (congrArg (fun b => some (Value.bool b)) t25) rfl) (by decide) trivial ?_
              have hq222 := Option.some.inj hq22
              refine wpF_end (r := [(0, u0), (1, u1), (5, (.int .i64 y3)), (6, (.int .i64 i6)), (7, (.int .i64 x16)), (13, u0), (14, (.int .i64 (p0.length : Int))), (15, (.int .i64 i6)), (30, (.bool (x27 == x16)))]) ⟨rfl, rfl, rfl, rfl, rfl, rfl, rfl, rfl, rfl, trivial⟩ ?_
              subst hq222
              refine np_norm (fun a ha => ⟨ha, kp⟩)
            · rw [if_neg (by rw [t25]; decide)] at hq22
              refine st_no rfl rfl (by rw [t25]; rfl) (by decide) ?_
              refine st_no rfl rfl (by rw [t25]; rfl) (by decide) ?_
              refine st_no rfl rfl (by rw [t25]; rfl) (by decide) ?_
              refine st_no rfl rfl (by rw [t25]; rfl) (by decide) ?_
              refine st_no rfl rfl (by rw [t25]; rfl) (by decide) ?_
              refine st_no rfl rfl (by rw [t25]; rfl) (by decide) ?_
              refine st_no rfl rfl (by rw [t25]; rfl) (by decide) ?_
              refine st_val (ex_pick_f (congrArg (fun b => some (Value.bool b)) t25) rfl) (by decide) trivial ?_
              have hq222 := Option.some.inj hq22
              refine wpF_end (r := [(0, u0), (1, u1), (5, (.int .i64 y3)), (6, (.int .i64 i6)), (7, (.int .i64 x16)), (13, u0), (14, (.int .i64 (p0.length : Int))), (15, (.int .i64 i6)), (30, (.bool false))]) ⟨rfl, rfl, rfl, rfl, rfl, rfl, rfl, rfl, rfl, trivial⟩ ?_
              subst hq222
              refine np_norm (fun a ha => ⟨ha, kp⟩)
          rintro a35 w23 ⟨ha, k33⟩
          have s34 := k33.stp 999 o4
          replace hB := hB.stp s34 (by decide)
          refine wl_of ha ?_
          refine wpF_end (r := [(0, u0), (1, u1), (5, (.int .i64 y3)), (6, (.int .i64 i6)), (7, (.int .i64 x16)), (13, u0), (14, (.int .i64 (p0.length : Int))), (15, (.int .i64 i6)), (30, (.bool q22))]) ⟨rfl, rfl, rfl, rfl, rfl, rfl, rfl, rfl, rfl, trivial⟩ ?_
          refine nx ?_
          refine wpC_cond rfl (fun t36 => ?_) (fun t36 => ?_)
          · rw [if_pos t36] at b13
            refine wpC_exit ?_
            refine nt_exit ?_
            refine nb_hit ?_
            refine nx ?_
            refine wpC_region ?_
            refine st_val (ex_add rfl rfl (ck_in (by omega) (by omega))) (by decide) trivial ?_
            refine st_val (ex_move rfl) (by decide) trivial ?_
            refine wpF_end (r := [(0, u0), (1, u1), (5, (.int .i64 y3)), (13, u0), (14, (.int .i64 (p0.length : Int))), (15, (.int .i64 (i6 + 1)))]) ⟨rfl, rfl, rfl, rfl, rfl, rfl, trivial⟩ ?_
            refine nt_norm ?_
            have e37 := Option.some.inj b13
            subst e37
            refine to_k (r := [(0, u0), (1, u1), (5, (.int .i64 y3)), (13, u0), (14, (.int .i64 (p0.length : Int))), (15, (.int .i64 (i6 + 1)))]) ⟨rfl, rfl, rfl, rfl, rfl, rfl, trivial⟩ ?_
            intro a ha
            exact ⟨_, (by rw [← m10]; simp only [List.length_drop]; omega), i6 + 1, y3, o4, n14, rfl, (by omega), ha, hB⟩
          · rw [if_neg (by rw [t36]; decide)] at b13
            refine wpC_skip ?_
            refine nx ?_
            refine wpC_seq ?_
            obtain ⟨x38, hx38, b13⟩ := bind_some b13
            obtain ⟨x41, hx41, b13⟩ := bind_some b13
            obtain ⟨x50, hx50, b13⟩ := bind_some b13
            obtain ⟨x51, hx51, b13⟩ := bind_some b13
            refine wpC_drawn (o := o4) [(0, u0), (1, u1), (5, (.int .i64 y3)), (6, (.int .i64 i6)), (7, (.int .i64 x16)), (13, u0), (14, (.int .i64 (p0.length : Int))), (15, (.int .i64 i6))] [0, 1, 5, 6, 7, 13, 14, 15] [31, 32, 33, 34, 35, 36, 37, 38] [[], [], [0, 1], [2], [], [], [5], [4, 6]] [none, none, none, none, none, none, none, none] [999, 999, 999, 999, 999, 999, 999, 999] [0, 0, 0, 11, 0, 0, 0, 0] [999] [fun v _ _ => v = u0, fun v _ _ => v = (.int .i64 i6), fun v o w9 => RdL zt w v x38, fun v o w9 => Ow w.heap.size 3 11 o w9 v x41, fun v _ _ => v = u0, fun v _ _ => v = (.int .i64 i6), fun v _ _ => v = (.int .i64 x50), fun v o w9 => RdL zt w v x51] (fun o8 w8 => Bs (fun _ => 1) o8 w w8) follows_mixed (by kernel_rfl) rfl ⟨rfl, rfl, rfl, rfl, rfl, rfl, rfl, rfl, trivial⟩ hB ?_ ⟨st_eq _, st_eq _, fun _ _ _ _ _ _ h0 hb h hs => h, fun _ _ _ _ _ _ h0 hb h hs => h.stp hs h0.1 (Ne.symm hb), st_eq _, st_eq _, st_eq _, fun _ _ _ _ _ _ h0 hb h hs => h, trivial⟩ ?_ ?_
            · rintro t9 o1 w1 o2 w2 ht9 hB hs9
              have ht9 : t9 = 999 := by simpa using ht9
              subst ht9
              all_goals exact hB.stp hs9 (by decide)
            · refine ⟨?_, ?_, ?_, ?_, ?_, ?_, ?_, ?_, trivial⟩
              · rintro o54 w55 a56 ha hB -
                refine opS_of ha (trivial) ?_
                refine op1_val (ex_move rfl) ?_
                exact ⟨_, Stp.refl _ _ _, rfl⟩
              · rintro o57 w58 a59 ha hB -
                refine opS_of ha (trivial) ?_
                refine op1_val (ex_move rfl) ?_
                exact ⟨_, Stp.refl _ _ _, rfl⟩
              · rintro o60 w61 a62 ha hB ⟨r63, r64, -⟩
                have ha := Fr.cons (d := 31) ha r63
                have ha := Fr.cons (d := 32) ha r64
                refine opS_of ha (trivial) ?_
                refine wf_cutZ g0 hx38 rfl rfl rfl Try.underlying25 Try.sizeOf3 ?_
                intro v65 h66
                exact ⟨_, Stp.refl _ _ _, h66⟩
              · rintro o67 w68 a69 ha hB ⟨r70, -⟩
                replace r70 : RdL zt w (a69.tmps.getD 33 undef) x38 := r70
                generalize e72 : a69.tmps.getD 33 undef = v71 at r70
                have ha := Fr.cons (d := 33) ha e72
                refine opS_of ha (trivial) ?_
                refine wf_call (cS_l1Own w68 o67 11 (by decide) _ x38 (r70.keep hB.keeps) x41 hx41) Try.call61 ⟨rfl, trivial⟩ ?_
                rintro e79 w73 ⟨v74, o80, rfl, h75, k76, k77⟩
                have s78 := k76.stp' 999 k77
                replace h75 := h75.mono hB.keeps.size
                refine ⟨_, rfl, ?_⟩
                replace hB := hB.stp s78 (by decide)
                exact ⟨_, s78, h75⟩
              · rintro o81 w82 a83 ha hB -
                refine opS_of ha (trivial) ?_
                refine op1_val (ex_move rfl) ?_
                exact ⟨_, Stp.refl _ _ _, rfl⟩
              · rintro o84 w85 a86 ha hB -
                refine opS_of ha (trivial) ?_
                refine op1_val (ex_move rfl) ?_
                exact ⟨_, Stp.refl _ _ _, rfl⟩
              · rintro o87 w88 a89 ha hB ⟨r90, -⟩
                have ha := Fr.cons (d := 36) ha r90
                refine opS_of ha (trivial) ?_
                refine op1_val (ex_add rfl rfl hx50) ?_
                exact ⟨_, Stp.refl _ _ _, rfl⟩
              · rintro o91 w92 a93 ha hB ⟨r94, r95, -⟩
                have ha := Fr.cons (d := 35) ha r94
                have ha := Fr.cons (d := 37) ha r95
                refine opS_of ha (trivial) ?_
                refine wf_cutZ g0 hx51 rfl rfl rfl Try.underlying25 Try.sizeOf3 ?_
                intro v96 h97
                exact ⟨_, Stp.refl _ _ _, h97⟩
            rintro o98 w99 a100 ha hB ⟨-, -, -, r101, -, -, -, r102, -⟩
            replace r101 : Ow w.heap.size 3 11 o98 w99 (a100.tmps.getD 34 undef) x41 := r101
            generalize e104 : a100.tmps.getD 34 undef = v103 at r101
            have ha := Fr.cons (d := 34) ha e104
            replace r102 : RdL zt w (a100.tmps.getD 38 undef) x51 := r102
            generalize e106 : a100.tmps.getD 38 undef = v105 at r102
            have ha := Fr.cons (d := 38) ha e106
            refine wl_of ha ?_
            simp only [List.length_cons, List.length_nil, Nat.zero_add, Nat.reduceAdd, List.drop_succ_cons, List.drop_zero]
            obtain ⟨x107, hx107, b13⟩ := bind_some b13
            refine st_op (by decide) trivial ?_
            refine wf_catZ r101 ((r102.keep hB.keeps)) hx107 (by decide) hB.keeps.size (fun _ _ h => h) rfl rfl Try.underlying25 info2_t_int_Rw rfl (by decide) ?_
            intro o108 w109 v110 h111 s112
            replace hB := hB.stp s112 (by decide)
            refine st_val (ex_assign rfl) (by decide) trivial ?_
            refine wpF_end (r := [(0, u0), (1, u1), (5, (.int .i64 y3)), (7, (.int .i64 x16)), (8, v110), (13, u0), (14, (.int .i64 (p0.length : Int))), (15, (.int .i64 i6))]) ⟨rfl, rfl, rfl, rfl, rfl, rfl, rfl, rfl, trivial⟩ ?_
            refine nx ?_
            refine wpC_seq ?_
            refine wpC_region ?_
            refine st_val (ex_move rfl) (by decide) trivial ?_
            refine st_val (ex_move rfl) (by decide) trivial ?_
            obtain ⟨x113, hx113, b13⟩ := bind_some b13
            refine st_op (by decide) trivial ?_
            refine wf_cutZ g1 hx113 rfl rfl rfl Try.underlying22 Try.sizeOf25 ?_
            intro v114 h115
            obtain ⟨x116, hx116, b13⟩ := bind_some b13
            refine st_op (by decide) trivial ?_
            refine wf_call (ih w109 _ x107 h111.z _ x113 (h115.keep hB.keeps) x116 hx116) Try.call43 ⟨rfl, rfl, trivial⟩ ?_
            rintro e121 w117 ⟨rfl, k118⟩
            have s120 := k118.stp 999 o108
            refine ⟨_, rfl, ?_⟩
            replace h111 := h111.stp s120 (by decide) (by decide)
            replace hB := hB.stp s120 (by decide)
            refine st_val (ex_assign rfl) (by decide) trivial ?_
            refine wpF_end (r := [(0, u0), (1, u1), (5, (.int .i64 y3)), (7, (.int .i64 x16)), (9, (.int .i64 x116)), (13, u0), (14, (.int .i64 (p0.length : Int))), (15, (.int .i64 i6))]) ⟨rfl, rfl, rfl, rfl, rfl, rfl, rfl, rfl, trivial⟩ ?_
            refine nx ?_
            refine wpC_seq ?_
            refine wpC_seq ?_
            refine wpC_region ?_
            refine st_val (ex_move rfl) (by decide) trivial ?_
            obtain ⟨x122, hx122, b13⟩ := bind_some b13
            refine st_op (by decide) trivial ?_
            refine wf_atZ g1 hx122 hB rfl rfl Try.underlying22 Try.sizeOf25 ?_
            intro b123 f124 c125 h126 h127
            obtain ⟨v128, rfl, h129⟩ := h127
            refine st_val (ex_load1 rfl Try.isAgg25 (cell_of_cells h126)) (by decide) trivial ?_
            refine st_val (ex_move rfl) (by decide) trivial ?_
            obtain ⟨x130, hx130, b13⟩ := bind_some b13
            refine st_op (by decide) trivial ?_
            refine wf_atZ h129 hx130 hB rfl rfl Try.underlying25 Try.sizeOf3 ?_
            intro b131 f132 c133 h134 h135
            cases h135
            refine st_val (ex_load1 rfl Try.isAgg3 (cell_of_cells h134)) (by decide) trivial ?_
            refine st_val (ex_gtr rfl rfl) (by decide) trivial ?_
            refine st_val (ex_move rfl) (by decide) trivial ?_
            obtain ⟨q136, hq136, b13⟩ := bind_some b13
            refine wpF_cutAt 10 (fun a138 w137 => Fr a138 75 [(0, u0), (1, u1), (5, (.int .i64 y3)), (7, (.int .i64 x16)), (9, (.int .i64 x116)), (13, u0), (14, (.int .i64 (p0.length : Int))), (15, (.int .i64 i6)), (61, (.bool q136))] ∧ Keeps w117 w137) ?_ ?_
            all_goals simp only [List.take_succ_cons, List.take_zero, List.drop_succ_cons, List.drop_zero]
            · have kp : Keeps w117 w117 := Keeps.refl _
              rcases Bool.eq_false_or_eq_true (decide (x130 > 0)) with t139 | t139
              · rw [if_pos t139] at hq136
                refine st_val (ex_move rfl) (by decide) ⟨_, rfl, (congrArg (fun b => some (Value.bool b)) t139)⟩ ?_
                refine st_val (ex_move rfl) (by decide) ⟨_, rfl, (congrArg (fun b => some (Value.bool b)) t139)⟩ ?_
                obtain ⟨x140, hx140, hq136⟩ := bind_some hq136
                refine st_op (by decide) ⟨_, rfl, (congrArg (fun b => some (Value.bool b)) t139)⟩ ?_
                refine wf_atZ g1 hx140 hB rfl rfl Try.underlying22 Try.sizeOf25 ?_
                intro b141 f142 c143 h144 h145
                obtain ⟨v146, rfl, h147⟩ := h145
                refine st_val (ex_load1 rfl Try.isAgg25 (cell_of_cells h144)) (by decide) ⟨_, rfl, (congrArg (fun b => some (Value.bool b)) t139)⟩ ?_
                refine st_val (ex_move rfl) (by decide) ⟨_, rfl, (congrArg (fun b => some (Value.bool b)) t139)⟩ ?_
                obtain ⟨x148, hx148, hq136⟩ := bind_some hq136
                refine st_op (by decide) ⟨_, rfl, (congrArg (fun b => some (Value.bool b)) t139)⟩ ?_
                refine wf_atZ h147 hx148 hB rfl rfl Try.underlying25 Try.sizeOf3 ?_
                intro b149 f150 c151 h152 h153
                cases h153
                refine st_val (ex_load1 rfl Try.isAgg3 (cell_of_cells h152)) (by decide) ⟨_, rfl, (congrArg (fun b => some (Value.bool b)) t139)⟩ ?_
                obtain ⟨x154, hx154, hq136⟩ := bind_some hq136
                refine st_val (ex_quo rfl rfl hx154) (by decide) ⟨_, rfl, (congrArg (fun b => some (Value.bool b)) t139)⟩ ?_
                refine st_val (ex_gtr rfl rfl) (by decide) ⟨_, rfl, (congrArg (fun b => some (Value.bool b)) t139)⟩ ?_
                refine st_val (ex_pick_t (congrArg (fun b => some (Value.bool b)) t139) rfl) (by decide) trivial ?_
                have hq1362 := Option.some.inj hq136
                refine wpF_end (r := [(0, u0), (1, u1), (5, (.int .i64 y3)), (7, (.int .i64 x16)), (9, (.int .i64 x116)), (13, u0), (14, (.int .i64 (p0.length : Int))), (15, (.int .i64 i6)), (61, (.bool (decide (x116 > x154))))]) ⟨rfl, rfl, rfl, rfl, rfl, rfl, rfl, rfl, rfl, trivial⟩ ?_
                subst hq1362
                refine np_norm (fun a ha => ⟨ha, kp⟩)
              · rw [if_neg (by rw [t139]; decide)] at hq136
                refine st_no rfl rfl (by rw [t139]; rfl) (by decide) ?_
                refine st_no rfl rfl (by rw [t139]; rfl) (by decide) ?_
                refine st_no rfl rfl (by rw [t139]; rfl) (by decide) ?_
                refine st_no rfl rfl (by rw [t139]; rfl) (by decide) ?_
                refine st_no rfl rfl (by rw [t139]; rfl) (by decide) ?_
                refine st_no rfl rfl (by rw [t139]; rfl) (by decide) ?_
                refine st_no rfl rfl (by rw [t139]; rfl) (by decide) ?_
                refine st_no rfl rfl (by rw [t139]; rfl) (by decide) ?_
                refine st_no rfl rfl (by rw [t139]; rfl) (by decide) ?_
                refine st_val (ex_pick_f (congrArg (fun b => some (Value.bool b)) t139) rfl) (by decide) trivial ?_
                have hq1362 := Option.some.inj hq136
                refine wpF_end (r := [(0, u0), (1, u1), (5, (.int .i64 y3)), (7, (.int .i64 x16)), (9, (.int .i64 x116)), (13, u0), (14, (.int .i64 (p0.length : Int))), (15, (.int .i64 i6)), (61, (.bool false))]) ⟨rfl, rfl, rfl, rfl, rfl, rfl, rfl, rfl, rfl, trivial⟩ ?_
                subst hq1362
                refine np_norm (fun a ha => ⟨ha, kp⟩)
            rintro a157 w137 ⟨ha, k155⟩
            have s156 := k155.stp 999 o108
            replace hB := hB.stp s156 (by decide)
            refine wl_of ha ?_
            refine wpF_end (r := [(0, u0), (1, u1), (5, (.int .i64 y3)), (7, (.int .i64 x16)), (9, (.int .i64 x116)), (13, u0), (14, (.int .i64 (p0.length : Int))), (15, (.int .i64 i6)), (61, (.bool q136))]) ⟨rfl, rfl, rfl, rfl, rfl, rfl, rfl, rfl, rfl, trivial⟩ ?_
            refine nx ?_
            refine wpC_cond rfl (fun t158 => ?_) (fun t158 => ?_)
            · rw [if_pos t158] at b13
              refine wpC_seq ?_
              refine wpC_region ?_
              refine st_val (ex_assign rfl) (by decide) trivial ?_
              refine wpF_end (r := [(4, (.int .i64 1000000000001))]) ⟨rfl, trivial⟩ ?_
              refine nx ?_
              refine wpC_ret ?_
              refine nt_ret ?_
              refine nb_ret ?_
              refine nt_ret ?_
              refine nt_ret ?_
              refine nb_ret ?_
              refine np_ret ?_
              have e159 := Option.some.inj b13
              subst e159
              refine fun a ha => ⟨_, n14, ?_⟩
              refine ret_post (P := Try.prog) (vs := [(.int .i64 1000000000001)]) Try.results43 ⟨rfl, trivial⟩ ?_ a ha
              exact ⟨rfl, hB.keeps⟩
            · rw [if_neg (by rw [t158]; decide)] at b13
              refine wpC_skip ?_
              refine nx ?_
              refine wpC_region ?_
              refine st_val (ex_move rfl) (by decide) trivial ?_
              refine st_val (ex_move rfl) (by decide) trivial ?_
              refine st_val (ex_move rfl) (by decide) trivial ?_
              obtain ⟨x160, hx160, b13⟩ := bind_some b13
              refine st_op (by decide) trivial ?_
              refine wf_atZ g1 hx160 hB rfl rfl Try.underlying22 Try.sizeOf25 ?_
              intro b161 f162 c163 h164 h165
              obtain ⟨v166, rfl, h167⟩ := h165
              refine st_val (ex_load1 rfl Try.isAgg25 (cell_of_cells h164)) (by decide) trivial ?_
              refine st_val (ex_move rfl) (by decide) trivial ?_
              obtain ⟨x168, hx168, b13⟩ := bind_some b13
              refine st_op (by decide) trivial ?_
              refine wf_atZ h167 hx168 hB rfl rfl Try.underlying25 Try.sizeOf3 ?_
              intro b169 f170 c171 h172 h173
              cases h173
              refine st_val (ex_load1 rfl Try.isAgg3 (cell_of_cells h172)) (by decide) trivial ?_
              obtain ⟨x174, hx174, b13⟩ := bind_some b13
              refine st_val (ex_mul rfl rfl hx174) (by decide) trivial ?_
              obtain ⟨x175, hx175, b13⟩ := bind_some b13
              refine st_val (ex_add rfl rfl hx175) (by decide) trivial ?_
              obtain ⟨x176, hx176, b13⟩ := bind_some b13
              refine st_op (by decide) trivial ?_
              refine wf_call (cS_l1Least w137 x175 1000000000001 x176 hx176) Try.call21 ⟨rfl, rfl, trivial⟩ ?_
              rintro e181 w177 ⟨rfl, k178⟩
              have s180 := k178.stp 999 o108
              refine ⟨_, rfl, ?_⟩
              replace hB := hB.stp s180 (by decide)
              refine st_val (ex_assign rfl) (by decide) trivial ?_
              refine wpF_end (r := [(0, u0), (1, u1), (5, (.int .i64 x176)), (13, u0), (14, (.int .i64 (p0.length : Int))), (15, (.int .i64 i6))]) ⟨rfl, rfl, rfl, rfl, rfl, rfl, trivial⟩ ?_
              refine nb_norm ?_
              refine nx ?_
              refine wpC_region ?_
              refine st_val (ex_add rfl rfl (ck_in (by omega) (by omega))) (by decide) trivial ?_
              refine st_val (ex_move rfl) (by decide) trivial ?_
              refine wpF_end (r := [(0, u0), (1, u1), (5, (.int .i64 x176)), (13, u0), (14, (.int .i64 (p0.length : Int))), (15, (.int .i64 (i6 + 1)))]) ⟨rfl, rfl, rfl, rfl, rfl, rfl, trivial⟩ ?_
              refine nt_norm ?_
              have e182 := Option.some.inj b13
              subst e182
              refine to_k (r := [(0, u0), (1, u1), (5, (.int .i64 x176)), (13, u0), (14, (.int .i64 (p0.length : Int))), (15, (.int .i64 (i6 + 1)))]) ⟨rfl, rfl, rfl, rfl, rfl, rfl, trivial⟩ ?_
              intro a ha
              exact ⟨_, (by rw [← m10]; simp only [List.length_drop]; omega), i6 + 1, x176, o108, n14, rfl, (by omega), ha, hB⟩
        · have r183 := forI_done t15 l8
          refine wp_of ha ?_
          refine wpC_seq ?_
          refine wpC_region ?_
          refine st_val (ex_lss rfl rfl) (by decide) trivial ?_
          refine wpF_end (r := [(0, u0), (1, u1), (5, (.int .i64 y3)), (13, u0), (14, (.int .i64 (p0.length : Int))), (15, (.int .i64 i6)), (16, (.bool (decide (i6 < (p0.length : Int)))))]) ⟨rfl, rfl, rfl, rfl, rfl, rfl, rfl, trivial⟩ ?_
          refine nx ?_
          refine wpC_seq ?_
          refine wpC_false (congrArg (fun b => some (Value.bool b)) (decide_eq_false t15)) ?_
          refine wpC_exit ?_
          refine nt_exit ?_
          refine nt_exit ?_
          refine nb_hit ?_
          refine np_norm ?_
          refine to_k (r := [(5, (.int .i64 y3))]) ⟨rfl, trivial⟩ ?_
          intro a ha
          exact ⟨y3, o4, r183, ha, hB⟩
      · rintro a w5 ⟨y3, o4, rfl, ha, hB⟩
        dsimp only at hF
        refine ap_k ha ?_
        refine nx ?_
        refine wpC_seq ?_
        refine wpC_region ?_
        refine st_val (ex_move rfl) (by decide) trivial ?_
        refine st_val (ex_assign rfl) (by decide) trivial ?_
        refine wpF_end (r := [(4, (.int .i64 y3))]) ⟨rfl, trivial⟩ ?_
        refine nx ?_
        refine wpC_ret ?_
        have e184 := Option.some.inj hF
        subst e184
        refine ret_post (P := Try.prog) (vs := [(.int .i64 y3)]) Try.results43 ⟨rfl, trivial⟩ ?_
        exact ⟨rfl, hB.keeps⟩
      · rintro a w5 ⟨r', rfl, b185⟩
        dsimp only at hF
        have e186 := Option.some.inj hF
        subst e186
        exact b185

def fS_roMay_s1 (fuel : Nat) (p1 : Int) (p2 : List (List Int)) : Int → (List Int) → Unit → Option (Lp Unit Unit Bool) := fun (i10 : Int) (x20 : List Int) (s : Unit) =>
  (ix x20 0) >>= fun x28 =>
  (
    if x28 == p1 then
      (cut x20 1 x20.length) >>= fun x38 =>
      (fS_roWays fuel x38 p2) >>= fun x41 =>
      some (decide (x41 > 0))
    else
      some false) >>= fun q34 =>
  if q34 then
    some (.ret true)
  else
    some (.go ())
def fS_roMay (fuel : Nat) (p0 : T_RootedProblem) (p1 : Int) (p2 : List (List Int)) : Option Bool :=
  (forI (fS_roMay_s1 fuel p1 p2) p0.Lines 0 ()) >>= fun q11 =>
  match q11 with
  | .inl _ =>
    some false
  | .inr r' => some r'

def pS_roMay (w : World) (r : Bool) : Ending → World → Prop := fun e w' => e = .returned (.bool r) ∧ Keeps w w'
set_option maxRecDepth 100000 in
set_option maxHeartbeats 2000000 in
theorem cS_roMay (fuel : Nat) (w : World) (u0 : List Value) (p0 : T_RootedProblem) (g0 : Rp.rd zt w u0 p0) (p1 : Int) (u2 : Value) (p2 : List (List Int)) (g2 : RdL zt w u2 p2) (r : Bool) (hF : fS_roMay fuel p0 p1 p2 = some r) :
    Calls Try.prog 34 #[.agg u0.toArray, .int .i64 p1, u2] w (pS_roMay w r) := by
  unfold fS_roMay at hF
  obtain ⟨v1, rfl, h2⟩ := g0
  have hB : Bs (fun _ => 1) (col (fun _ => 1)) w w := Bs.start _ _
  refine calls_start (n := 29) (vs := [(.agg #[(.int .i64 p0.Labels), (.int .i64 p0.Children), v1]), (.int .i64 p1), u2]) Try.func34 rfl rfl ?_
  refine wpC_seq ?_
  refine wpC_region ?_
  refine st_op (by decide) trivial ?_
  refine wf_box (o := (col (fun _ => 1))) w.heap.size 11 hB.keeps.size (cs := [(.int .i64 p0.Labels), (.int .i64 p0.Children), v1]) rfl rfl ?_
  intro o3 w4 b5 h6 s7
  replace hB := hB.stp s7 (by decide)
  refine st_val (ex_assign rfl) (by decide) trivial ?_
  refine wpF_end (r := [(1, (.int .i64 p1)), (2, u2), (3, (.pointer (some ⟨b5, 0, none⟩)))]) ⟨rfl, rfl, rfl, trivial⟩ ?_
  refine nx ?_
  refine wpC_seq ?_
  refine wpC_seq ?_
  refine wpC_region ?_
  refine st_val (ex_field rfl Try.underlying29 rfl Try.sizeOf22) (by decide) trivial ?_
  refine st_val (ex_load1 rfl Try.isAgg22 (h6.cell rfl)) (by decide) trivial ?_
  refine st_val (ex_lenR rfl h2 Try.underlying22) (by decide) trivial ?_
  refine st_val (ex_move rfl) (by decide) trivial ?_
  refine wpF_end (r := [(1, (.int .i64 p1)), (2, u2), (10, v1), (11, (.int .i64 (p0.Lines.length : Int))), (12, (.int .i64 0))]) ⟨rfl, rfl, rfl, rfl, rfl, trivial⟩ ?_
  refine nx ?_
  obtain ⟨q11, hq11, hF⟩ := bind_some hF
  refine wpC_cutN (fun a w9 => ∃ (o8 : Tg), q11 = .inl () ∧ Fr a 29 [] ∧ Bs (fun _ => 1) o8 w w9) (fun a w' => ∃ r', q11 = .inr r' ∧ bodyPost Try.prog Try.f34 (pS_roMay w r') .ret a w') ?_ ?_ ?_
  · refine wpC_block ?_
    refine wpC_loop (fun (K : Nat) a w9 => ∃ (i10 : Int) (o8 : Tg), forI (fS_roMay_s1 fuel p1 p2) (p0.Lines.drop i10.toNat) i10 () = some q11 ∧ (p0.Lines.drop i10.toNat).length = K ∧ 0 ≤ i10 ∧ Fr a 29 [(1, (.int .i64 p1)), (2, u2), (10, v1), (11, (.int .i64 (p0.Lines.length : Int))), (12, (.int .i64 i10))] ∧ Bs (fun _ => 1) o8 w w9) _ (fun a ha => ⟨0, o3, hq11, rfl, Int.le_refl 0, ha.sub (r := [(1, (.int .i64 p1)), (2, u2), (10, v1), (11, (.int .i64 (p0.Lines.length : Int))), (12, (.int .i64 0))]) ⟨rfl, rfl, rfl, rfl, rfl, trivial⟩, hB⟩) ?_
    rintro K15 a w9 ⟨i10, o8, l12, m14, z13, ha, hB⟩
    by_cases t19 : i10 < (p0.Lines.length : Int)
    · obtain ⟨x20, q16, hx20, b17, n18⟩ := forI_cons z13 t19 l12
      have hle := h2.len_le
      dsimp only [fS_roMay_s1] at b17
      refine wp_of ha ?_
      refine wpC_seq ?_
      refine wpC_region ?_
      refine st_val (ex_lss rfl rfl) (by decide) trivial ?_
      refine wpF_end (r := [(1, (.int .i64 p1)), (2, u2), (10, v1), (11, (.int .i64 (p0.Lines.length : Int))), (12, (.int .i64 i10)), (13, (.bool (decide (i10 < (p0.Lines.length : Int)))))]) ⟨rfl, rfl, rfl, rfl, rfl, rfl, trivial⟩ ?_
      refine nx ?_
      refine wpC_seq ?_
      refine wpC_true (congrArg (fun b => some (Value.bool b)) (decide_eq_true t19)) ?_
      refine wpC_skip ?_
      refine nx ?_
      refine wpC_seq ?_
      refine wpC_block ?_
      refine wpC_seq ?_
      refine wpC_region ?_
      refine st_op (by decide) trivial ?_
      refine wf_atZ h2 hx20 hB rfl rfl Try.underlying22 Try.sizeOf25 ?_
      intro b21 f22 c23 h24 h25
      obtain ⟨v26, rfl, h27⟩ := h25
      refine st_val (ex_load1 rfl Try.isAgg25 (cell_of_cells h24)) (by decide) trivial ?_
      refine st_val (ex_assign rfl) (by decide) trivial ?_
      refine wpF_end (r := [(1, (.int .i64 p1)), (2, u2), (8, v26), (10, v1), (11, (.int .i64 (p0.Lines.length : Int))), (12, (.int .i64 i10))]) ⟨rfl, rfl, rfl, rfl, rfl, rfl, trivial⟩ ?_
      refine nx ?_
      refine wpC_seq ?_
      refine wpC_region ?_
      refine st_val (ex_move rfl) (by decide) trivial ?_
      obtain ⟨x28, hx28, b17⟩ := bind_some b17
      refine st_op (by decide) trivial ?_
      refine wf_atZ h27 hx28 hB rfl rfl Try.underlying25 Try.sizeOf3 ?_
      intro b29 f30 c31 h32 h33
      cases h33
      refine st_val (ex_load1 rfl Try.isAgg3 (cell_of_cells h32)) (by decide) trivial ?_
      refine st_val (ex_move rfl) (by decide) trivial ?_
      refine st_val (ex_eql rfl rfl) (by decide) trivial ?_
      refine st_val (ex_move rfl) (by decide) trivial ?_
      obtain ⟨q34, hq34, b17⟩ := bind_some b17
      refine wpF_cutAt 6 (fun a36 w35 => Fr a36 29 [(1, (.int .i64 p1)), (2, u2), (10, v1), (11, (.int .i64 (p0.Lines.length : Int))), (12, (.int .i64 i10)), (27, (.bool q34))] ∧ Keeps w9 w35) ?_ ?_
      all_goals simp only [List.take_succ_cons, List.take_zero, List.drop_succ_cons, List.drop_zero]
      · have kp : Keeps w9 w9 := Keeps.refl _
        rcases Bool.eq_false_or_eq_true (x28 == p1) with t37 | t37
        · rw [if_pos t37] at hq34
          refine st_val (ex_move rfl) (by decide) ⟨_, rfl, (congrArg (fun b => some (Value.bool b)) t37)⟩ ?_
          obtain ⟨x38, hx38, hq34⟩ := bind_some hq34
          refine st_op (by decide) ⟨_, rfl, (congrArg (fun b => some (Value.bool b)) t37)⟩ ?_
          refine wf_cutZ h27 hx38 rfl rfl rfl Try.underlying25 Try.sizeOf3 ?_
          intro v39 h40
          refine st_val (ex_move rfl) (by decide) ⟨_, rfl, (congrArg (fun b => some (Value.bool b)) t37)⟩ ?_
          obtain ⟨x41, hx41, hq34⟩ := bind_some hq34
          refine st_op (by decide) ⟨_, rfl, (congrArg (fun b => some (Value.bool b)) t37)⟩ ?_
          refine wf_call (cS_roWays fuel w9 _ x38 (h40.keep hB.keeps) _ p2 (g2.keep hB.keeps) x41 hx41) Try.call43 ⟨rfl, rfl, trivial⟩ ?_
          rintro e46 w42 ⟨rfl, k43⟩
          have s45 := k43.stp 999 o8
          refine ⟨_, rfl, ?_⟩
          replace hB := hB.stp s45 (by decide)
          replace kp := Keeps.trans kp k43
          refine st_val (ex_gtr rfl rfl) (by decide) ⟨_, rfl, (congrArg (fun b => some (Value.bool b)) t37)⟩ ?_
          refine st_val (ex_pick_t (congrArg (fun b => some (Value.bool b)) t37) rfl) (by decide) trivial ?_
          have hq342 := Option.some.inj hq34
          refine wpF_end (r := [(1, (.int .i64 p1)), (2, u2), (10, v1), (11, (.int .i64 (p0.Lines.length : Int))), (12, (.int .i64 i10)), (27, (.bool (decide (x41 > 0))))]) ⟨rfl, rfl, rfl, rfl, rfl, rfl, trivial⟩ ?_
          subst hq342
          refine np_norm (fun a ha => ⟨ha, kp⟩)
        · rw [if_neg (by rw [t37]; decide)] at hq34
          refine st_no rfl rfl (by rw [t37]; rfl) (by decide) ?_
          refine st_no rfl rfl (by rw [t37]; rfl) (by decide) ?_
          refine st_no rfl rfl (by rw [t37]; rfl) (by decide) ?_
          refine st_no rfl rfl (by rw [t37]; rfl) (by decide) ?_
          refine st_no rfl rfl (by rw [t37]; rfl) (by decide) ?_
          refine st_val (ex_pick_f (congrArg (fun b => some (Value.bool b)) t37) rfl) (by decide) trivial ?_
          have hq342 := Option.some.inj hq34
          refine wpF_end (r := [(1, (.int .i64 p1)), (2, u2), (10, v1), (11, (.int .i64 (p0.Lines.length : Int))), (12, (.int .i64 i10)), (27, (.bool false))]) ⟨rfl, rfl, rfl, rfl, rfl, rfl, trivial⟩ ?_
          subst hq342
          refine np_norm (fun a ha => ⟨ha, kp⟩)
      rintro a49 w35 ⟨ha, k47⟩
      have s48 := k47.stp 999 o8
      replace hB := hB.stp s48 (by decide)
      refine wl_of ha ?_
      refine wpF_end (r := [(1, (.int .i64 p1)), (2, u2), (10, v1), (11, (.int .i64 (p0.Lines.length : Int))), (12, (.int .i64 i10)), (27, (.bool q34))]) ⟨rfl, rfl, rfl, rfl, rfl, rfl, trivial⟩ ?_
      refine nx ?_
      refine wpC_cond rfl (fun t50 => ?_) (fun t50 => ?_)
      · rw [if_pos t50] at b17
        refine wpC_seq ?_
        refine wpC_region ?_
        refine st_val (ex_assign rfl) (by decide) trivial ?_
        refine wpF_end (r := [(6, (.bool true))]) ⟨rfl, trivial⟩ ?_
        refine nx ?_
        refine wpC_ret ?_
        refine nb_ret ?_
        refine nt_ret ?_
        refine nt_ret ?_
        refine nb_ret ?_
        refine np_ret ?_
        have e51 := Option.some.inj b17
        subst e51
        refine fun a ha => ⟨_, n18, ?_⟩
        refine ret_post (P := Try.prog) (vs := [(.bool true)]) Try.results34 ⟨rfl, trivial⟩ ?_ a ha
        exact ⟨rfl, hB.keeps⟩
      · rw [if_neg (by rw [t50]; decide)] at b17
        refine wpC_skip ?_
        refine nb_norm ?_
        refine nx ?_
        refine wpC_region ?_
        refine st_val (ex_add rfl rfl (ck_in (by omega) (by omega))) (by decide) trivial ?_
        refine st_val (ex_move rfl) (by decide) trivial ?_
        refine wpF_end (r := [(1, (.int .i64 p1)), (2, u2), (10, v1), (11, (.int .i64 (p0.Lines.length : Int))), (12, (.int .i64 (i10 + 1)))]) ⟨rfl, rfl, rfl, rfl, rfl, trivial⟩ ?_
        refine nt_norm ?_
        have e52 := Option.some.inj b17
        subst e52
        refine to_k (r := [(1, (.int .i64 p1)), (2, u2), (10, v1), (11, (.int .i64 (p0.Lines.length : Int))), (12, (.int .i64 (i10 + 1)))]) ⟨rfl, rfl, rfl, rfl, rfl, trivial⟩ ?_
        intro a ha
        exact ⟨_, (by rw [← m14]; simp only [List.length_drop]; omega), i10 + 1, o8, n18, rfl, (by omega), ha, hB⟩
    · have r53 := forI_done t19 l12
      refine wp_of ha ?_
      refine wpC_seq ?_
      refine wpC_region ?_
      refine st_val (ex_lss rfl rfl) (by decide) trivial ?_
      refine wpF_end (r := [(1, (.int .i64 p1)), (2, u2), (10, v1), (11, (.int .i64 (p0.Lines.length : Int))), (12, (.int .i64 i10)), (13, (.bool (decide (i10 < (p0.Lines.length : Int)))))]) ⟨rfl, rfl, rfl, rfl, rfl, rfl, trivial⟩ ?_
      refine nx ?_
      refine wpC_seq ?_
      refine wpC_false (congrArg (fun b => some (Value.bool b)) (decide_eq_false t19)) ?_
      refine wpC_exit ?_
      refine nt_exit ?_
      refine nt_exit ?_
      refine nb_hit ?_
      refine np_norm ?_
      refine to_k (r := []) trivial ?_
      intro a ha
      exact ⟨o8, r53, ha, hB⟩
  · rintro a w9 ⟨o8, rfl, ha, hB⟩
    dsimp only at hF
    refine ap_k ha ?_
    refine nx ?_
    refine wpC_seq ?_
    refine wpC_region ?_
    refine st_val (ex_assign rfl) (by decide) trivial ?_
    refine wpF_end (r := [(6, (.bool false))]) ⟨rfl, trivial⟩ ?_
    refine nx ?_
    refine wpC_ret ?_
    have e54 := Option.some.inj hF
    subst e54
    refine ret_post (P := Try.prog) (vs := [(.bool false)]) Try.results34 ⟨rfl, trivial⟩ ?_
    exact ⟨rfl, hB.keeps⟩
  · rintro a w9 ⟨r', rfl, b55⟩
    dsimp only at hF
    have e56 := Option.some.inj hF
    subst e56
    exact b55

def fS_roCounts_s2 (y28 : Int) (x59 : List (List Int)) : Int → Int → (List (List Int)) → Option (Lp (List (List Int)) (List (List Int)) (List (List Int))) := fun (i77 : Int) (x87 : Int) (s : List (List Int)) =>
  (ix x59 x87) >>= fun x93 =>
  (nei x87 y28) >>= fun x94 =>
  (push s x93) >>= fun x108 =>
  some (.go x108)
def fS_roCounts_s4 (fuel : Nat) (x8 : List (List Int)) (y28 : Int) (y72 : List (List Int)) (i125 : Int) : Int → (List Int) → (List Int) → Option (Lp (List Int) (List Int) (List (List Int))) := fun (i189 : Int) (x199 : List Int) (s : List Int) =>
  (ix x199 0) >>= fun x207 =>
  (
    if x207 == i125 then
      (ix x8 y28) >>= fun x217 =>
      some (decide ((x217.length : Int) > 0))
    else
      some false) >>= fun q213 =>
  if q213 then
    (ix s i125) >>= fun x237 =>
    (cut x199 1 x199.length) >>= fun x240 =>
    (fS_roWays fuel x240 y72) >>= fun x243 =>
    (ck (x237 + x243)) >>= fun x249 =>
    (fS_l1Least x249 1000000000001) >>= fun x250 =>
    (ix s i125) >>= fun x356 =>
    (st s i125 x250) >>= fun x365 =>
    some (.go x365)
  else
    some (.go s)
def fS_roCounts_s5 (fuel : Nat) (x8 : List (List Int)) (y28 : Int) (y72 : List (List Int)) (i125 : Int) : Int → (List Int) → (List Int) → Option (Lp (List Int) (List Int) (List (List Int))) := fun (i375 : Int) (x385 : List Int) (s : List Int) =>
  (ix x385 0) >>= fun x393 =>
  (
    if x393 == i125 then
      (ix x8 y28) >>= fun x403 =>
      some (decide ((x403.length : Int) > 0))
    else
      some false) >>= fun q399 =>
  if q399 then
    (ix s i125) >>= fun x423 =>
    (cut x385 1 x385.length) >>= fun x426 =>
    (fS_roWays fuel x426 y72) >>= fun x429 =>
    (ck (x423 + x429)) >>= fun x435 =>
    (fS_l1Least x435 1000000000001) >>= fun x436 =>
    (ix s i125) >>= fun x542 =>
    (st s i125 x436) >>= fun x551 =>
    some (.go x551)
  else
    some (.go s)
def fS_roCounts_s3 (fuel : Nat) (p0 : T_RootedProblem) (p2 : List Int) (x8 : List (List Int)) (y28 : Int) (y72 : List (List Int)) : Int → (List Int) → Option (Lp (List Int) (List Int) (List (List Int))) := fun (i125 : Int) (s : List Int) =>
  (ix p2 y28) >>= fun x137 =>
  (
    if decide (x137 ≥ 0) then
      (ix p2 y28) >>= fun x147 =>
      some (x147 != i125)
    else
      some false) >>= fun q143 =>
  if q143 then
    some (.go s)
  else
    (ix x8 y28) >>= fun x158 =>
    if (x158.length : Int) == 0 then
      (ix s i125) >>= fun x174 =>
      (st s i125 1) >>= fun x183 =>
      (forI (fS_roCounts_s4 fuel x8 y28 y72 i125) p0.Lines 0 x183) >>= fun q190 =>
      match q190 with
      | .inl y185 =>
        some (.go y185)
      | .inr _ => none
    else
      (forI (fS_roCounts_s5 fuel x8 y28 y72 i125) p0.Lines 0 s) >>= fun q376 =>
      match q376 with
      | .inl y371 =>
        some (.go y371)
      | .inr _ => none
def fS_roCounts_s1 (fuel : Nat) (p0 : T_RootedProblem) (p2 : List Int) (x8 : List (List Int)) : ((List (List Int)) × Int) → Option (Lp ((List (List Int)) × Int) ((List (List Int)) × Int) (List (List Int))) := fun (s : (List (List Int)) × Int) =>
  if decide (s.2 ≥ 0) then
    (mk (Rz.z : Int) p0.Labels) >>= fun x42 =>
    (ix s.1 s.2) >>= fun x48 =>
    (st s.1 s.2 x42) >>= fun x59 =>
    (ix x8 s.2) >>= fun x61 =>
    (forI (fS_roCounts_s2 s.2 x59) x61 0 []) >>= fun q78 =>
    match q78 with
    | .inl y72 =>
      ck (x42.length : Int) >>= fun _ =>
      (forN (fS_roCounts_s3 fuel p0 p2 x8 s.2 y72) ((x42.length : Int)).toNat 0 x42) >>= fun q126 =>
      match q126 with
      | .inl y121 =>
        (ck (s.2 - 1)) >>= fun x558 =>
        some (.go ((x59.set s.2.toNat y121), x558))
      | .inr _ => none
    | .inr _ => none
  else
    some (.out (s.1, s.2))
def fS_roCounts (fuel : Nat) (p0 : T_RootedProblem) (p1 : List Int) (p2 : List Int) : Option (List (List Int)) :=
  (fS_roBelow p1) >>= fun x8 =>
  (mk (Rz.z : List Int) (p1.length : Int)) >>= fun x19 =>
  (ck ((p1.length : Int) - 1)) >>= fun x25 =>
  (loopF (fS_roCounts_s1 fuel p0 p2 x8) fuel (x19, x25)) >>= fun q31 =>
  match q31 with
  | .inl (y26, y28) =>
    some y26
  | .inr _ => none

def pS_roCounts (oo : Tg) (t : Nat) (w : World) (r : List (List Int)) : Ending → World → Prop := fun e w' => ∃ (v0 : Value) (o' : Tg), e = .returned (v0) ∧ Ow w.heap.size 25 t o' w' v0 r ∧ Keeps w w' ∧ ∀ b, b < w.heap.size → o' b = oo b
set_option maxRecDepth 100000 in
set_option maxHeartbeats 2000000 in
theorem cS_roCounts (fuel : Nat) (w : World) (oo : Tg) (t : Nat) (ht : 2 ≤ t) (u0 : List Value) (p0 : T_RootedProblem) (g0 : Rp.rd zt w u0 p0) (u1 : Value) (p1 : List Int) (g1 : RdL zt w u1 p1) (u2 : Value) (p2 : List Int) (g2 : RdL zt w u2 p2) (r : List (List Int)) (hF : fS_roCounts fuel p0 p1 p2 = some r) :
    Calls Try.prog 19 #[.agg u0.toArray, u1, u2] w (pS_roCounts oo t w r) := by
  unfold fS_roCounts at hF
  obtain ⟨v1, rfl, h2⟩ := g0
  have hB : Bs oo (col oo) w w := Bs.start _ _
  refine calls_start (n := 126) (vs := [(.agg #[(.int .i64 p0.Labels), (.int .i64 p0.Children), v1]), u1, u2]) Try.func19 rfl rfl ?_
  generalize col oo = o at *
  refine wpC_seq ?_
  refine wpC_region ?_
  refine st_op (by decide) trivial ?_
  refine wf_box (o := o) w.heap.size 11 hB.keeps.size (cs := [(.int .i64 p0.Labels), (.int .i64 p0.Children), v1]) rfl rfl ?_
  intro o3 w4 b5 h6 s7
  replace hB := hB.stp s7 (by decide)
  refine st_val (ex_assign rfl) (by decide) trivial ?_
  refine wpF_end (r := [(1, u1), (2, u2), (3, (.pointer (some ⟨b5, 0, none⟩)))]) ⟨rfl, rfl, rfl, trivial⟩ ?_
  refine nx ?_
  refine wpC_seq ?_
  refine wpC_region ?_
  refine st_val (ex_move rfl) (by decide) trivial ?_
  obtain ⟨x8, hx8, hF⟩ := bind_some hF
  refine st_op (by decide) trivial ?_
  refine wf_call (cS_roBelow w4 o3 12 (by decide) _ p1 (g1.keep hB.keeps) x8 hx8) Try.call33 ⟨rfl, trivial⟩ ?_
  rintro e17 w9 ⟨v10, g12, o18, rfl, h11, h13, k14, k15⟩
  have s16 := k14.stp' 12 k15
  replace h11 := h11.mono hB.keeps.size
  replace h13 := h13.mono hB.keeps.size
  refine ⟨_, rfl, ?_⟩
  replace h6 := h6.stp s16 (by decide)
  replace hB := hB.stp s16 (by decide)
  refine st_val (ex_assign rfl) (by decide) trivial ?_
  refine wpF_end (r := [(1, u1), (2, u2), (3, (.pointer (some ⟨b5, 0, none⟩))), (7, v10)]) ⟨rfl, rfl, rfl, rfl, trivial⟩ ?_
  refine nx ?_
  refine wpC_seq ?_
  refine wpC_region ?_
  refine st_val (ex_move rfl) (by decide) trivial ?_
  refine st_val (ex_lenR rfl g1 Try.underlying25) (by decide) trivial ?_
  obtain ⟨x19, hx19, hF⟩ := bind_some hF
  refine st_op (by decide) trivial ?_
  refine wf_make (o := o18) w.heap.size 14 hB.keeps.size hx19 rfl rfl Try.underlying22 info2_t_Lint_Rw rfl (by decide) ?_
  intro o20 w21 v22 h23 s24
  replace h11 := h11.stp s24 (by decide) (by decide)
  replace h13 := h13.stp s24 (by decide) (by decide)
  replace h6 := h6.stp s24 (by decide)
  replace hB := hB.stp s24 (by decide)
  refine st_val (ex_assign rfl) (by decide) trivial ?_
  refine wpF_end (r := [(1, u1), (2, u2), (3, (.pointer (some ⟨b5, 0, none⟩))), (7, v10), (8, v22)]) ⟨rfl, rfl, rfl, rfl, rfl, trivial⟩ ?_
  refine nx ?_
  refine wpC_seq ?_
  refine wpC_seq ?_
  refine wpC_region ?_
  refine st_val (ex_move rfl) (by decide) trivial ?_
  refine st_val (ex_lenR rfl g1 Try.underlying25) (by decide) trivial ?_
  obtain ⟨x25, hx25, hF⟩ := bind_some hF
  refine st_val (ex_sub rfl rfl hx25) (by decide) trivial ?_
  refine st_val (ex_assign rfl) (by decide) trivial ?_
  refine wpF_end (r := [(2, u2), (3, (.pointer (some ⟨b5, 0, none⟩))), (7, v10), (8, v22), (9, (.int .i64 x25))]) ⟨rfl, rfl, rfl, rfl, rfl, trivial⟩ ?_
  refine nx ?_
  obtain ⟨q31, hq31, hF⟩ := bind_some hF
  refine wpC_cutN (fun a w30 => ∃ (y26 : List (List Int)) (y28 : Int) (o29 : Tg), q31 = .inl (y26, y28) ∧ Fr a 126 [(8, v22)] ∧ Bs oo o29 w w30 ∧ Ow w.heap.size 25 14 o29 w30 v22 y26) (fun _ _ => False) ?_ ?_ ?_
  · refine wpC_block ?_
    refine wpC_loop (fun (K : Nat) a w30 => ∃ (y26 : List (List Int)) (y28 : Int) (o29 : Tg), loopF (fS_roCounts_s1 fuel p0 p2 x8) K (y26, y28) = some q31 ∧ Fr a 126 [(2, u2), (3, (.pointer (some ⟨b5, 0, none⟩))), (7, v10), (8, v22), (9, (.int .i64 y28))] ∧ Bs oo o29 w w30 ∧ Ow w.heap.size 25 12 o29 w30 v10 g12 ∧ Rws w.heap.size 3 13 o29 w30 g12 x8 ∧ Ow w.heap.size 25 14 o29 w30 v22 y26 ∧ Bx w.heap.size 11 o29 w30 b5 29 [(.int .i64 p0.Labels), (.int .i64 p0.Children), v1]) fuel (fun a ha => ⟨x19, x25, o20, hq31, ha.sub (r := [(2, u2), (3, (.pointer (some ⟨b5, 0, none⟩))), (7, v10), (8, v22), (9, (.int .i64 x25))]) ⟨rfl, rfl, rfl, rfl, rfl, trivial⟩, hB, h11, h13, h23, h6⟩) ?_
    rintro K35 a w30 ⟨y26, y28, o29, l32, ha, hB, h11, h13, h27, h6⟩
    obtain ⟨K39, q36, e40, b37, n38⟩ := loopF_cons l32
    dsimp only [fS_roCounts_s1] at b37
    refine wp_of ha ?_
    refine wpC_seq ?_
    refine wpC_seq ?_
    refine wpC_region ?_
    refine st_val (ex_move rfl) (by decide) trivial ?_
    refine st_val (ex_geq rfl rfl) (by decide) trivial ?_
    refine wpF_end (r := [(2, u2), (3, (.pointer (some ⟨b5, 0, none⟩))), (7, v10), (8, v22), (9, (.int .i64 y28)), (25, (.bool (decide (y28 ≥ 0))))]) ⟨rfl, rfl, rfl, rfl, rfl, rfl, trivial⟩ ?_
    refine nx ?_
    refine wpC_cond rfl (fun t41 => ?_) (fun t41 => ?_)
    · rw [if_pos t41] at b37
      refine wpC_skip ?_
      refine nx ?_
      refine wpC_seq ?_
      refine wpC_block ?_
      refine wpC_seq ?_
      refine wpC_region ?_
      refine st_val (ex_move rfl) (by decide) trivial ?_
      refine st_val (ex_move rfl) (by decide) trivial ?_
      refine st_val (ex_field rfl Try.underlying29 rfl Try.sizeOf3) (by decide) trivial ?_
      refine st_val (ex_load1 rfl Try.isAgg3 (h6.cell rfl)) (by decide) trivial ?_
      obtain ⟨x42, hx42, b37⟩ := bind_some b37
      refine st_op (by decide) trivial ?_
      refine wf_make (o := o29) w.heap.size 15 hB.keeps.size hx42 rfl rfl Try.underlying25 info2_t_int_Rw rfl (by decide) ?_
      intro o43 w44 v45 h46 s47
      replace h11 := h11.stp s47 (by decide) (by decide)
      replace h13 := h13.stp s47 (by decide) (by decide)
      replace h27 := h27.stp s47 (by decide) (by decide)
      replace h6 := h6.stp s47 (by decide)
      replace hB := hB.stp s47 (by decide)
      obtain ⟨x48, hx48, b37⟩ := bind_some b37
      refine st_op (by decide) trivial ?_
      refine wf_atP h27 hx48 rfl rfl Try.underlying22 Try.sizeOf25 ?_
      intro b49 c51 h54 h52 h53
      obtain ⟨v55, rfl, h56⟩ := h53
      obtain ⟨x59, hx59, b37⟩ := bind_some b37
      refine st_op0 trivial ?_
      refine wf_storeH h27 h54 hx59 h46 (by decide) rfl rfl Try.sizeOf25 ?_
      intro w57 h60 s58
      replace h11 := h11.stp s58 (by decide) (by decide)
      replace h13 := h13.stp s58 (by decide) (by decide)
      replace h46 := h46.stp s58 (by decide) (by decide)
      replace h56 := h56.stp s58 (by decide)
      replace h6 := h6.stp s58 (by decide)
      replace hB := hB.stp s58 (by decide)
      refine wpF_end (r := [(2, u2), (3, (.pointer (some ⟨b5, 0, none⟩))), (7, v10), (8, v22), (9, (.int .i64 y28))]) ⟨rfl, rfl, rfl, rfl, rfl, trivial⟩ ?_
      refine nx ?_
      refine wpC_seq ?_
      refine wpC_region ?_
      refine st_val (ex_assign rfl) (by decide) trivial ?_
      refine wpF_end (r := [(2, u2), (3, (.pointer (some ⟨b5, 0, none⟩))), (7, v10), (8, v22), (9, (.int .i64 y28)), (10, (.slice none 0 0))]) ⟨rfl, rfl, rfl, rfl, rfl, rfl, trivial⟩ ?_
      refine nx ?_
      refine wpC_seq ?_
      refine wpC_seq ?_
      refine wpC_region ?_
      refine st_val (ex_move rfl) (by decide) trivial ?_
      refine st_val (ex_move rfl) (by decide) trivial ?_
      obtain ⟨x61, hx61, b37⟩ := bind_some b37
      obtain ⟨v62, h63, h64, h65⟩ := h13.ix hx61
      refine st_op (by decide) trivial ?_
      refine wf_atW h11 h63 rfl rfl Try.underlying22 Try.sizeOf25 ?_
      intro b66 f67 c68 h69 h70
      obtain ⟨rfl, -⟩ := h70
      refine st_val (ex_load1 rfl Try.isAgg25 (cell_of_cells h69)) (by decide) trivial ?_
      refine st_val (ex_lenO rfl (h13.at h64 h65) Try.underlying25) (by decide) trivial ?_
      refine st_val (ex_move rfl) (by decide) trivial ?_
      refine wpF_end (r := [(2, u2), (3, (.pointer (some ⟨b5, 0, none⟩))), (7, v10), (8, v22), (9, (.int .i64 y28)), (10, (.slice none 0 0)), (37, v62), (38, (.int .i64 (x61.length : Int))), (39, (.int .i64 0))]) ⟨rfl, rfl, rfl, rfl, rfl, rfl, rfl, rfl, rfl, trivial⟩ ?_
      refine nx ?_
      have h71 : Ow w.heap.size 25 16 o43 w57 (.slice none 0 0) ([] : List (List Int)) := Ow.nil _ _ _ _ _
      obtain ⟨q78, hq78, b37⟩ := bind_some b37
      refine wpC_cutN (fun a w76 => ∃ (y72 : List (List Int)) (v73 : Value) (o75 : Tg), q78 = .inl y72 ∧ Fr a 126 [(2, u2), (3, (.pointer (some ⟨b5, 0, none⟩))), (7, v10), (8, v22), (9, (.int .i64 y28)), (10, v73)] ∧ Bs oo o75 w w76 ∧ Ow w.heap.size 3 15 o75 w76 v45 x42 ∧ Ow w.heap.size 25 12 o75 w76 v10 g12 ∧ Rws w.heap.size 3 13 o75 w76 g12 x8 ∧ Ow w.heap.size 25 14 o75 w76 v22 (hsx x59 y28 v45) ∧ Ow w.heap.size 25 16 o75 w76 v73 y72 ∧ Bx w.heap.size 11 o75 w76 b5 29 [(.int .i64 p0.Labels), (.int .i64 p0.Children), v1]) (fun _ _ => False) ?_ ?_ ?_
      · refine wpC_block ?_
        refine wpC_loop (fun (K : Nat) a w76 => ∃ (i77 : Int) (y72 : List (List Int)) (v73 : Value) (o75 : Tg), forI (fS_roCounts_s2 y28 x59) (x61.drop i77.toNat) i77 y72 = some q78 ∧ (x61.drop i77.toNat).length = K ∧ 0 ≤ i77 ∧ Fr a 126 [(2, u2), (3, (.pointer (some ⟨b5, 0, none⟩))), (7, v10), (8, v22), (9, (.int .i64 y28)), (10, v73), (37, v62), (38, (.int .i64 (x61.length : Int))), (39, (.int .i64 i77))] ∧ Bs oo o75 w w76 ∧ Ow w.heap.size 3 15 o75 w76 v45 x42 ∧ Ow w.heap.size 25 12 o75 w76 v10 g12 ∧ Rws w.heap.size 3 13 o75 w76 g12 x8 ∧ Ow w.heap.size 25 14 o75 w76 v22 (hsx x59 y28 v45) ∧ Ow w.heap.size 25 16 o75 w76 v73 y72 ∧ Bx w.heap.size 11 o75 w76 b5 29 [(.int .i64 p0.Labels), (.int .i64 p0.Children), v1]) _ (fun a ha => ⟨0, [], (.slice none 0 0), o43, hq78, rfl, Int.le_refl 0, ha.sub (r := [(2, u2), (3, (.pointer (some ⟨b5, 0, none⟩))), (7, v10), (8, v22), (9, (.int .i64 y28)), (10, (.slice none 0 0)), (37, v62), (38, (.int .i64 (x61.length : Int))), (39, (.int .i64 0))]) ⟨rfl, rfl, rfl, rfl, rfl, rfl, rfl, rfl, rfl, trivial⟩, hB, h46, h11, h13, h60, h71, h6⟩) ?_
        rintro K82 a w76 ⟨i77, y72, v73, o75, l79, m81, z80, ha, hB, h46, h11, h13, h60, h74, h6⟩
        by_cases t86 : i77 < (x61.length : Int)
        · obtain ⟨x87, q83, hx87, b84, n85⟩ := forI_cons z80 t86 l79
          have hle := (h13.at h64 h65).len_le
          dsimp only [fS_roCounts_s2] at b84
          refine wp_of ha ?_
          refine wpC_seq ?_
          refine wpC_region ?_
          refine st_val (ex_lss rfl rfl) (by decide) trivial ?_
          refine wpF_end (r := [(2, u2), (3, (.pointer (some ⟨b5, 0, none⟩))), (7, v10), (8, v22), (9, (.int .i64 y28)), (10, v73), (37, v62), (38, (.int .i64 (x61.length : Int))), (39, (.int .i64 i77)), (40, (.bool (decide (i77 < (x61.length : Int)))))]) ⟨rfl, rfl, rfl, rfl, rfl, rfl, rfl, rfl, rfl, rfl, trivial⟩ ?_
          refine nx ?_
          refine wpC_seq ?_
          refine wpC_true (congrArg (fun b => some (Value.bool b)) (decide_eq_true t86)) ?_
          refine wpC_skip ?_
          refine nx ?_
          refine wpC_seq ?_
          refine wpC_block ?_
          refine wpC_seq ?_
          refine wpC_region ?_
          refine st_op (by decide) trivial ?_
          refine wf_atW (h13.at h64 h65) hx87 rfl rfl Try.underlying25 Try.sizeOf3 ?_
          intro b88 f89 c90 h91 h92
          cases h92
          refine st_val (ex_load1 rfl Try.isAgg3 (cell_of_cells h91)) (by decide) trivial ?_
          refine st_val (ex_assign rfl) (by decide) trivial ?_
          refine wpF_end (r := [(2, u2), (3, (.pointer (some ⟨b5, 0, none⟩))), (7, v10), (8, v22), (9, (.int .i64 y28)), (10, v73), (12, (.int .i64 x87)), (37, v62), (38, (.int .i64 (x61.length : Int))), (39, (.int .i64 i77))]) ⟨rfl, rfl, rfl, rfl, rfl, rfl, rfl, rfl, rfl, rfl, trivial⟩ ?_
          refine nx ?_
          refine wpC_region ?_
          refine st_val (ex_move rfl) (by decide) trivial ?_
          refine st_val (ex_move rfl) (by decide) trivial ?_
          refine st_val (ex_move rfl) (by decide) trivial ?_
          obtain ⟨x93, hx93, b84⟩ := bind_some b84
          obtain ⟨x94, hx94, b84⟩ := bind_some b84
          refine st_op (by decide) trivial ?_
          refine wf_atW h60 (hsx_ne hx93 hx94 (st_lo hx59) v45) rfl rfl Try.underlying22 Try.sizeOf25 ?_
          intro b95 f96 c97 h98 h99
          replace h99 : Rp.rd o75 w76 c97 x93 := h99
          obtain ⟨v100, rfl, h101⟩ := h99
          refine st_val (ex_load1 rfl Try.isAgg25 (cell_of_cells h98)) (by decide) trivial ?_
          refine st_op (by decide) trivial ?_
          refine wf_litR (o := o75) (cs := [v100]) (xs := ([x93] : List (List Int))) (vs := [(0, v100)]) ⟨_, _, rfl, (rd_list h101), rfl⟩ rfl ⟨rfl, rfl, trivial⟩ Try.underlying22 Try.sizeOf25 Try.zeroValue25 (by decide) (fill1 h101.cells1) (by simp) ?_
          intro o102 w103 v104 h105 s106 k107
          replace h46 := h46.stp s106 (by decide) (by decide)
          replace h11 := h11.stp s106 (by decide) (by decide)
          replace h13 := h13.stp s106 (by decide) (by decide)
          replace h60 := h60.stp s106 (by decide) (by decide)
          replace h74 := h74.stp s106 (by decide) (by decide)
          replace h101 := h101.stp s106 (by decide)
          replace h6 := h6.stp s106 (by decide)
          replace hB := hB.stp s106 (by decide)
          obtain ⟨x108, hx108, b84⟩ := bind_some b84
          refine st_op (by decide) trivial ?_
          refine wf_cat h74 h105 (push_cat hx108) (by decide) hB.keeps.size rfl rfl Try.underlying22 info2_t_Lint_Rw rfl (by decide) ?_
          intro o109 w110 v111 h112 s113
          replace h46 := h46.stp s113 (by decide) (by decide)
          replace h11 := h11.stp s113 (by decide) (by decide)
          replace h13 := h13.stp s113 (by decide) (by decide)
          replace h60 := h60.stp s113 (by decide) (by decide)
          replace h101 := h101.stp s113 (by decide)
          replace h105 := h105.stp s113 (by decide)
          replace h6 := h6.stp s113 (by decide)
          replace hB := hB.stp s113 (by decide)
          refine st_val (ex_assign rfl) (by decide) trivial ?_
          refine wpF_end (r := [(2, u2), (3, (.pointer (some ⟨b5, 0, none⟩))), (7, v10), (8, v22), (9, (.int .i64 y28)), (10, v111), (37, v62), (38, (.int .i64 (x61.length : Int))), (39, (.int .i64 i77))]) ⟨rfl, rfl, rfl, rfl, rfl, rfl, rfl, rfl, rfl, trivial⟩ ?_
          refine nb_norm ?_
          refine nx ?_
          refine wpC_region ?_
          refine st_val (ex_add rfl rfl (ck_in (by omega) (by omega))) (by decide) trivial ?_
          refine st_val (ex_move rfl) (by decide) trivial ?_
          refine wpF_end (r := [(2, u2), (3, (.pointer (some ⟨b5, 0, none⟩))), (7, v10), (8, v22), (9, (.int .i64 y28)), (10, v111), (37, v62), (38, (.int .i64 (x61.length : Int))), (39, (.int .i64 (i77 + 1)))]) ⟨rfl, rfl, rfl, rfl, rfl, rfl, rfl, rfl, rfl, trivial⟩ ?_
          refine nt_norm ?_
          have e114 := Option.some.inj b84
          subst e114
          refine to_k (r := [(2, u2), (3, (.pointer (some ⟨b5, 0, none⟩))), (7, v10), (8, v22), (9, (.int .i64 y28)), (10, v111), (37, v62), (38, (.int .i64 (x61.length : Int))), (39, (.int .i64 (i77 + 1)))]) ⟨rfl, rfl, rfl, rfl, rfl, rfl, rfl, rfl, rfl, trivial⟩ ?_
          intro a ha
          exact ⟨_, (by rw [← m81]; simp only [List.length_drop]; omega), i77 + 1, x108, v111, o109, n85, rfl, (by omega), ha, hB, h46, h11, h13, h60, h112, h6⟩
        · have r115 := forI_done t86 l79
          refine wp_of ha ?_
          refine wpC_seq ?_
          refine wpC_region ?_
          refine st_val (ex_lss rfl rfl) (by decide) trivial ?_
          refine wpF_end (r := [(2, u2), (3, (.pointer (some ⟨b5, 0, none⟩))), (7, v10), (8, v22), (9, (.int .i64 y28)), (10, v73), (37, v62), (38, (.int .i64 (x61.length : Int))), (39, (.int .i64 i77)), (40, (.bool (decide (i77 < (x61.length : Int)))))]) ⟨rfl, rfl, rfl, rfl, rfl, rfl, rfl, rfl, rfl, rfl, trivial⟩ ?_
          refine nx ?_
          refine wpC_seq ?_
          refine wpC_false (congrArg (fun b => some (Value.bool b)) (decide_eq_false t86)) ?_
          refine wpC_exit ?_
          refine nt_exit ?_
          refine nt_exit ?_
          refine nb_hit ?_
          refine np_norm ?_
          refine to_k (r := [(2, u2), (3, (.pointer (some ⟨b5, 0, none⟩))), (7, v10), (8, v22), (9, (.int .i64 y28)), (10, v73)]) ⟨rfl, rfl, rfl, rfl, rfl, rfl, trivial⟩ ?_
          intro a ha
          exact ⟨y72, v73, o75, r115, ha, hB, h46, h11, h13, h60, h74, h6⟩
      · rintro a w76 ⟨y72, v73, o75, rfl, ha, hB, h46, h11, h13, h60, h74, h6⟩
        dsimp only at b37
        refine ap_k ha ?_
        refine nx ?_
        refine wpC_seq ?_
        refine wpC_region ?_
        refine st_val (ex_move rfl) (by decide) trivial ?_
        refine st_val (ex_move rfl) (by decide) trivial ?_
        refine st_op (by decide) trivial ?_
        refine wf_atW h60 (hsx_at hx59 v45) rfl rfl Try.underlying22 Try.sizeOf25 ?_
        intro b116 f117 c118 h119 h120
        obtain ⟨rfl, -⟩ := h120
        refine st_val (ex_load1 rfl Try.isAgg25 (cell_of_cells h119)) (by decide) trivial ?_
        refine st_val (ex_lenO rfl h46 Try.underlying25) (by decide) trivial ?_
        refine st_val (ex_move rfl) (by decide) trivial ?_
        refine wpF_end (r := [(2, u2), (3, (.pointer (some ⟨b5, 0, none⟩))), (7, v10), (8, v22), (9, (.int .i64 y28)), (10, v73), (55, (.int .i64 (x42.length : Int))), (56, (.int .i64 0))]) ⟨rfl, rfl, rfl, rfl, rfl, rfl, rfl, rfl, trivial⟩ ?_
        refine nx ?_
        obtain ⟨u128, h127, b37⟩ := bind_some b37
        obtain ⟨-, h127a, h127b⟩ := ck_some h127
        obtain ⟨q126, hq126, b37⟩ := bind_some b37
        refine wpC_cutN (fun a w124 => ∃ (y121 : List Int) (o123 : Tg), q126 = .inl y121 ∧ Fr a 126 [(2, u2), (3, (.pointer (some ⟨b5, 0, none⟩))), (7, v10), (8, v22), (9, (.int .i64 y28))] ∧ Bs oo o123 w w124 ∧ Ow w.heap.size 3 15 o123 w124 v45 y121 ∧ Ow w.heap.size 25 12 o123 w124 v10 g12 ∧ Rws w.heap.size 3 13 o123 w124 g12 x8 ∧ Ow w.heap.size 25 14 o123 w124 v22 (hsx x59 y28 v45) ∧ Bx w.heap.size 11 o123 w124 b5 29 [(.int .i64 p0.Labels), (.int .i64 p0.Children), v1]) (fun _ _ => False) ?_ ?_ ?_
        · refine wpC_block ?_
          refine wpC_loop (fun (K : Nat) a w124 => ∃ (i125 : Int) (y121 : List Int) (o123 : Tg), forN (fS_roCounts_s3 fuel p0 p2 x8 y28 y72) ((x42.length : Int) - i125).toNat i125 y121 = some q126 ∧ ((x42.length : Int) - i125).toNat = K ∧ 0 ≤ i125 ∧ Fr a 126 [(2, u2), (3, (.pointer (some ⟨b5, 0, none⟩))), (7, v10), (8, v22), (9, (.int .i64 y28)), (10, v73), (55, (.int .i64 (x42.length : Int))), (56, (.int .i64 i125))] ∧ Bs oo o123 w w124 ∧ Ow w.heap.size 3 15 o123 w124 v45 y121 ∧ Ow w.heap.size 25 12 o123 w124 v10 g12 ∧ Rws w.heap.size 3 13 o123 w124 g12 x8 ∧ Ow w.heap.size 25 14 o123 w124 v22 (hsx x59 y28 v45) ∧ Ow w.heap.size 25 16 o123 w124 v73 y72 ∧ Bx w.heap.size 11 o123 w124 b5 29 [(.int .i64 p0.Labels), (.int .i64 p0.Children), v1]) _ (fun a ha => ⟨0, x42, o75, (by rw [Int.sub_zero]; exact hq126), rfl, Int.le_refl 0, ha.sub (r := [(2, u2), (3, (.pointer (some ⟨b5, 0, none⟩))), (7, v10), (8, v22), (9, (.int .i64 y28)), (10, v73), (55, (.int .i64 (x42.length : Int))), (56, (.int .i64 0))]) ⟨rfl, rfl, rfl, rfl, rfl, rfl, rfl, rfl, trivial⟩, hB, h46, h11, h13, h60, h74, h6⟩) ?_
          rintro K132 a w124 ⟨i125, y121, o123, l129, m131, z130, ha, hB, h122, h11, h13, h60, h74, h6⟩
          by_cases t136 : i125 < (x42.length : Int)
          · obtain ⟨q133, b134, n135⟩ := forN_cons t136 l129
            dsimp only [fS_roCounts_s3] at b134
            refine wp_of ha ?_
            refine wpC_seq ?_
            refine wpC_region ?_
            refine st_val (ex_lss rfl rfl) (by decide) trivial ?_
            refine wpF_end (r := [(2, u2), (3, (.pointer (some ⟨b5, 0, none⟩))), (7, v10), (8, v22), (9, (.int .i64 y28)), (10, v73), (55, (.int .i64 (x42.length : Int))), (56, (.int .i64 i125)), (57, (.bool (decide (i125 < (x42.length : Int)))))]) ⟨rfl, rfl, rfl, rfl, rfl, rfl, rfl, rfl, rfl, trivial⟩ ?_
            refine nx ?_
            refine wpC_seq ?_
            refine wpC_true (congrArg (fun b => some (Value.bool b)) (decide_eq_true t136)) ?_
            refine wpC_skip ?_
            refine nx ?_
            refine wpC_seq ?_
            refine wpC_block ?_
            refine wpC_seq ?_
            refine wpC_region ?_
            refine st_val (ex_move rfl) (by decide) trivial ?_
            refine st_val (ex_assign rfl) (by decide) trivial ?_
            refine wpF_end (r := [(2, u2), (3, (.pointer (some ⟨b5, 0, none⟩))), (7, v10), (8, v22), (9, (.int .i64 y28)), (10, v73), (13, (.int .i64 i125)), (55, (.int .i64 (x42.length : Int))), (56, (.int .i64 i125))]) ⟨rfl, rfl, rfl, rfl, rfl, rfl, rfl, rfl, rfl, trivial⟩ ?_
            refine nx ?_
            refine wpC_seq ?_
            refine wpC_seq ?_
            refine wpC_region ?_
            refine st_val (ex_move rfl) (by decide) trivial ?_
            refine st_val (ex_move rfl) (by decide) trivial ?_
            obtain ⟨x137, hx137, b134⟩ := bind_some b134
            refine st_op (by decide) trivial ?_
            refine wf_atZ g2 hx137 hB rfl rfl Try.underlying25 Try.sizeOf3 ?_
            intro b138 f139 c140 h141 h142
            cases h142
            refine st_val (ex_load1 rfl Try.isAgg3 (cell_of_cells h141)) (by decide) trivial ?_
            refine st_val (ex_geq rfl rfl) (by decide) trivial ?_
            refine st_val (ex_move rfl) (by decide) trivial ?_
            obtain ⟨q143, hq143, b134⟩ := bind_some b134
            refine wpF_cutAt 7 (fun a145 w144 => Fr a145 126 [(2, u2), (3, (.pointer (some ⟨b5, 0, none⟩))), (7, v10), (8, v22), (9, (.int .i64 y28)), (10, v73), (13, (.int .i64 i125)), (55, (.int .i64 (x42.length : Int))), (56, (.int .i64 i125)), (71, (.bool q143))] ∧ Keeps w124 w144) ?_ ?_
            all_goals simp only [List.take_succ_cons, List.take_zero, List.drop_succ_cons, List.drop_zero]
            · have kp : Keeps w124 w124 := Keeps.refl _
              rcases Bool.eq_false_or_eq_true (decide (x137 ≥ 0)) with t146 | t146
              · rw [if_pos t146] at hq143
                refine st_val (ex_move rfl) (by decide) ⟨_, rfl, (congrArg (fun b => some (Value.bool b)) t146)⟩ ?_
                refine st_val (ex_move rfl) (by decide) ⟨_, rfl, (congrArg (fun b => some (Value.bool b)) t146)⟩ ?_
                obtain ⟨x147, hx147, hq143⟩ := bind_some hq143
                refine st_op (by decide) ⟨_, rfl, (congrArg (fun b => some (Value.bool b)) t146)⟩ ?_
                refine wf_atZ g2 hx147 hB rfl rfl Try.underlying25 Try.sizeOf3 ?_
                intro b148 f149 c150 h151 h152
                cases h152
                refine st_val (ex_load1 rfl Try.isAgg3 (cell_of_cells h151)) (by decide) ⟨_, rfl, (congrArg (fun b => some (Value.bool b)) t146)⟩ ?_
                refine st_val (ex_move rfl) (by decide) ⟨_, rfl, (congrArg (fun b => some (Value.bool b)) t146)⟩ ?_
                refine st_val (ex_neq rfl rfl) (by decide) ⟨_, rfl, (congrArg (fun b => some (Value.bool b)) t146)⟩ ?_
                refine st_val (ex_pick_t (congrArg (fun b => some (Value.bool b)) t146) rfl) (by decide) trivial ?_
                have hq1432 := Option.some.inj hq143
                refine wpF_end (r := [(2, u2), (3, (.pointer (some ⟨b5, 0, none⟩))), (7, v10), (8, v22), (9, (.int .i64 y28)), (10, v73), (13, (.int .i64 i125)), (55, (.int .i64 (x42.length : Int))), (56, (.int .i64 i125)), (71, (.bool (x147 != i125)))]) ⟨rfl, rfl, rfl, rfl, rfl, rfl, rfl, rfl, rfl, rfl, trivial⟩ ?_
                subst hq1432
                refine np_norm (fun a ha => ⟨ha, kp⟩)
              · rw [if_neg (by rw [t146]; decide)] at hq143
                refine st_no rfl rfl (by rw [t146]; rfl) (by decide) ?_
                refine st_no rfl rfl (by rw [t146]; rfl) (by decide) ?_
                refine st_no rfl rfl (by rw [t146]; rfl) (by decide) ?_
                refine st_no rfl rfl (by rw [t146]; rfl) (by decide) ?_
                refine st_no rfl rfl (by rw [t146]; rfl) (by decide) ?_
                refine st_no rfl rfl (by rw [t146]; rfl) (by decide) ?_
                refine st_val (ex_pick_f (congrArg (fun b => some (Value.bool b)) t146) rfl) (by decide) trivial ?_
                have hq1432 := Option.some.inj hq143
                refine wpF_end (r := [(2, u2), (3, (.pointer (some ⟨b5, 0, none⟩))), (7, v10), (8, v22), (9, (.int .i64 y28)), (10, v73), (13, (.int .i64 i125)), (55, (.int .i64 (x42.length : Int))), (56, (.int .i64 i125)), (71, (.bool false))]) ⟨rfl, rfl, rfl, rfl, rfl, rfl, rfl, rfl, rfl, rfl, trivial⟩ ?_
                subst hq1432
                refine np_norm (fun a ha => ⟨ha, kp⟩)
            rintro a155 w144 ⟨ha, k153⟩
            have s154 := k153.stp 999 o123
            replace h122 := h122.stp s154 (by decide) (by decide)
            replace h11 := h11.stp s154 (by decide) (by decide)
            replace h13 := h13.stp s154 (by decide) (by decide)
            replace h60 := h60.stp s154 (by decide) (by decide)
            replace h74 := h74.stp s154 (by decide) (by decide)
            replace h6 := h6.stp s154 (by decide)
            replace hB := hB.stp s154 (by decide)
            refine wl_of ha ?_
            refine wpF_end (r := [(2, u2), (3, (.pointer (some ⟨b5, 0, none⟩))), (7, v10), (8, v22), (9, (.int .i64 y28)), (10, v73), (13, (.int .i64 i125)), (55, (.int .i64 (x42.length : Int))), (56, (.int .i64 i125)), (71, (.bool q143))]) ⟨rfl, rfl, rfl, rfl, rfl, rfl, rfl, rfl, rfl, rfl, trivial⟩ ?_
            refine nx ?_
            refine wpC_cond rfl (fun t156 => ?_) (fun t156 => ?_)
            · rw [if_pos t156] at b134
              refine wpC_exit ?_
              refine nt_exit ?_
              refine nb_hit ?_
              refine nx ?_
              refine wpC_region ?_
              refine st_val (ex_add rfl rfl (ck_in (by omega) (by omega))) (by decide) trivial ?_
              refine st_val (ex_move rfl) (by decide) trivial ?_
              refine wpF_end (r := [(2, u2), (3, (.pointer (some ⟨b5, 0, none⟩))), (7, v10), (8, v22), (9, (.int .i64 y28)), (10, v73), (55, (.int .i64 (x42.length : Int))), (56, (.int .i64 (i125 + 1)))]) ⟨rfl, rfl, rfl, rfl, rfl, rfl, rfl, rfl, trivial⟩ ?_
              refine nt_norm ?_
              have e157 := Option.some.inj b134
              subst e157
              refine to_k (r := [(2, u2), (3, (.pointer (some ⟨b5, 0, none⟩))), (7, v10), (8, v22), (9, (.int .i64 y28)), (10, v73), (55, (.int .i64 (x42.length : Int))), (56, (.int .i64 (i125 + 1)))]) ⟨rfl, rfl, rfl, rfl, rfl, rfl, rfl, rfl, trivial⟩ ?_
              intro a ha
              exact ⟨_, (by rw [← m131]; omega), i125 + 1, y121, o123, n135, rfl, (by omega), ha, hB, h122, h11, h13, h60, h74, h6⟩
            · rw [if_neg (by rw [t156]; decide)] at b134
              refine wpC_skip ?_
              refine nx ?_
              refine wpC_seq ?_
              refine wpC_seq ?_
              refine wpC_region ?_
              refine st_val (ex_move rfl) (by decide) trivial ?_
              refine st_val (ex_move rfl) (by decide) trivial ?_
              obtain ⟨x158, hx158, b134⟩ := bind_some b134
              obtain ⟨v159, h160, h161, h162⟩ := h13.ix hx158
              refine st_op (by decide) trivial ?_
              refine wf_atW h11 h160 rfl rfl Try.underlying22 Try.sizeOf25 ?_
              intro b163 f164 c165 h166 h167
              obtain ⟨rfl, -⟩ := h167
              refine st_val (ex_load1 rfl Try.isAgg25 (cell_of_cells h166)) (by decide) trivial ?_
              refine st_val (ex_lenO rfl (h13.at h161 h162) Try.underlying25) (by decide) trivial ?_
              refine st_val (ex_eql rfl rfl) (by decide) trivial ?_
              refine wpF_end (r := [(2, u2), (3, (.pointer (some ⟨b5, 0, none⟩))), (7, v10), (8, v22), (9, (.int .i64 y28)), (10, v73), (13, (.int .i64 i125)), (55, (.int .i64 (x42.length : Int))), (56, (.int .i64 i125)), (77, (.bool ((x158.length : Int) == 0)))]) ⟨rfl, rfl, rfl, rfl, rfl, rfl, rfl, rfl, rfl, rfl, trivial⟩ ?_
              refine nx ?_
              refine wpC_cond rfl (fun t168 => ?_) (fun t168 => ?_)
              · rw [if_pos t168] at b134
                refine wpC_region ?_
                refine st_val (ex_move rfl) (by decide) trivial ?_
                refine st_val (ex_move rfl) (by decide) trivial ?_
                refine st_op (by decide) trivial ?_
                refine wf_atW h60 (hsx_at hx59 v45) rfl rfl Try.underlying22 Try.sizeOf25 ?_
                intro b169 f170 c171 h172 h173
                obtain ⟨rfl, -⟩ := h173
                refine st_val (ex_load1 rfl Try.isAgg25 (cell_of_cells h172)) (by decide) trivial ?_
                refine st_val (ex_move rfl) (by decide) trivial ?_
                obtain ⟨x174, hx174, b134⟩ := bind_some b134
                refine st_op (by decide) trivial ?_
                refine wf_atP h122 hx174 rfl rfl Try.underlying25 Try.sizeOf3 ?_
                intro b175 c177 h180 h178 h179
                cases h179
                obtain ⟨x183, hx183, b134⟩ := bind_some b134
                refine st_op0 trivial ?_
                refine wf_storeW h122 h180 hx183 rfl (by decide) rfl rfl rfl Try.sizeOf3 rfl ?_
                intro w181 h184 s182
                replace h11 := h11.stp s182 (by decide) (by decide)
                replace h13 := h13.stp s182 (by decide) (by decide)
                replace h60 := h60.stp s182 (by decide) (by decide)
                replace h74 := h74.stp s182 (by decide) (by decide)
                replace h6 := h6.stp s182 (by decide)
                replace hB := hB.stp s182 (by decide)
                refine wpF_end (r := [(2, u2), (3, (.pointer (some ⟨b5, 0, none⟩))), (7, v10), (8, v22), (9, (.int .i64 y28)), (10, v73), (13, (.int .i64 i125)), (55, (.int .i64 (x42.length : Int))), (56, (.int .i64 i125))]) ⟨rfl, rfl, rfl, rfl, rfl, rfl, rfl, rfl, rfl, trivial⟩ ?_
                refine nx ?_
                refine wpC_seq ?_
                refine wpC_region ?_
                refine st_val (ex_field rfl Try.underlying29 rfl Try.sizeOf22) (by decide) trivial ?_
                refine st_val (ex_load1 rfl Try.isAgg22 (h6.cell rfl)) (by decide) trivial ?_
                refine st_val (ex_lenR rfl h2 Try.underlying22) (by decide) trivial ?_
                refine st_val (ex_move rfl) (by decide) trivial ?_
                refine wpF_end (r := [(2, u2), (3, (.pointer (some ⟨b5, 0, none⟩))), (7, v10), (8, v22), (9, (.int .i64 y28)), (10, v73), (13, (.int .i64 i125)), (55, (.int .i64 (x42.length : Int))), (56, (.int .i64 i125)), (85, v1), (86, (.int .i64 (p0.Lines.length : Int))), (87, (.int .i64 0))]) ⟨rfl, rfl, rfl, rfl, rfl, rfl, rfl, rfl, rfl, rfl, rfl, rfl, trivial⟩ ?_
                refine nx ?_
                obtain ⟨q190, hq190, b134⟩ := bind_some b134
                refine wpC_cutN (fun a w188 => ∃ (y185 : List Int) (o187 : Tg), q190 = .inl y185 ∧ Fr a 126 [(2, u2), (3, (.pointer (some ⟨b5, 0, none⟩))), (7, v10), (8, v22), (9, (.int .i64 y28)), (10, v73), (55, (.int .i64 (x42.length : Int))), (56, (.int .i64 i125))] ∧ Bs oo o187 w w188 ∧ Ow w.heap.size 3 15 o187 w188 v45 y185 ∧ Ow w.heap.size 25 12 o187 w188 v10 g12 ∧ Rws w.heap.size 3 13 o187 w188 g12 x8 ∧ Ow w.heap.size 25 14 o187 w188 v22 (hsx x59 y28 v45) ∧ Ow w.heap.size 25 16 o187 w188 v73 y72 ∧ Bx w.heap.size 11 o187 w188 b5 29 [(.int .i64 p0.Labels), (.int .i64 p0.Children), v1]) (fun _ _ => False) ?_ ?_ ?_
                · refine wpC_block ?_
                  refine wpC_loop (fun (K : Nat) a w188 => ∃ (i189 : Int) (y185 : List Int) (o187 : Tg), forI (fS_roCounts_s4 fuel x8 y28 y72 i125) (p0.Lines.drop i189.toNat) i189 y185 = some q190 ∧ (p0.Lines.drop i189.toNat).length = K ∧ 0 ≤ i189 ∧ Fr a 126 [(2, u2), (3, (.pointer (some ⟨b5, 0, none⟩))), (7, v10), (8, v22), (9, (.int .i64 y28)), (10, v73), (13, (.int .i64 i125)), (55, (.int .i64 (x42.length : Int))), (56, (.int .i64 i125)), (85, v1), (86, (.int .i64 (p0.Lines.length : Int))), (87, (.int .i64 i189))] ∧ Bs oo o187 w w188 ∧ Ow w.heap.size 3 15 o187 w188 v45 y185 ∧ Ow w.heap.size 25 12 o187 w188 v10 g12 ∧ Rws w.heap.size 3 13 o187 w188 g12 x8 ∧ Ow w.heap.size 25 14 o187 w188 v22 (hsx x59 y28 v45) ∧ Ow w.heap.size 25 16 o187 w188 v73 y72 ∧ Bx w.heap.size 11 o187 w188 b5 29 [(.int .i64 p0.Labels), (.int .i64 p0.Children), v1]) _ (fun a ha => ⟨0, x183, o123, hq190, rfl, Int.le_refl 0, ha.sub (r := [(2, u2), (3, (.pointer (some ⟨b5, 0, none⟩))), (7, v10), (8, v22), (9, (.int .i64 y28)), (10, v73), (13, (.int .i64 i125)), (55, (.int .i64 (x42.length : Int))), (56, (.int .i64 i125)), (85, v1), (86, (.int .i64 (p0.Lines.length : Int))), (87, (.int .i64 0))]) ⟨rfl, rfl, rfl, rfl, rfl, rfl, rfl, rfl, rfl, rfl, rfl, rfl, trivial⟩, hB, h184, h11, h13, h60, h74, h6⟩) ?_
                  rintro K194 a w188 ⟨i189, y185, o187, l191, m193, z192, ha, hB, h186, h11, h13, h60, h74, h6⟩
                  by_cases t198 : i189 < (p0.Lines.length : Int)
                  · obtain ⟨x199, q195, hx199, b196, n197⟩ := forI_cons z192 t198 l191
                    have hle := h2.len_le
                    dsimp only [fS_roCounts_s4] at b196
                    refine wp_of ha ?_
                    refine wpC_seq ?_
                    refine wpC_region ?_
                    refine st_val (ex_lss rfl rfl) (by decide) trivial ?_
                    refine wpF_end (r := [(2, u2), (3, (.pointer (some ⟨b5, 0, none⟩))), (7, v10), (8, v22), (9, (.int .i64 y28)), (10, v73), (13, (.int .i64 i125)), (55, (.int .i64 (x42.length : Int))), (56, (.int .i64 i125)), (85, v1), (86, (.int .i64 (p0.Lines.length : Int))), (87, (.int .i64 i189)), (88, (.bool (decide (i189 < (p0.Lines.length : Int)))))]) ⟨rfl, rfl, rfl, rfl, rfl, rfl, rfl, rfl, rfl, rfl, rfl, rfl, rfl, trivial⟩ ?_
                    refine nx ?_
                    refine wpC_seq ?_
                    refine wpC_true (congrArg (fun b => some (Value.bool b)) (decide_eq_true t198)) ?_
                    refine wpC_skip ?_
                    refine nx ?_
                    refine wpC_seq ?_
                    refine wpC_block ?_
                    refine wpC_seq ?_
                    refine wpC_region ?_
                    refine st_op (by decide) trivial ?_
                    refine wf_atZ h2 hx199 hB rfl rfl Try.underlying22 Try.sizeOf25 ?_
                    intro b200 f201 c202 h203 h204
                    obtain ⟨v205, rfl, h206⟩ := h204
                    refine st_val (ex_load1 rfl Try.isAgg25 (cell_of_cells h203)) (by decide) trivial ?_
                    refine st_val (ex_assign rfl) (by decide) trivial ?_
                    refine wpF_end (r := [(2, u2), (3, (.pointer (some ⟨b5, 0, none⟩))), (7, v10), (8, v22), (9, (.int .i64 y28)), (10, v73), (13, (.int .i64 i125)), (15, v205), (55, (.int .i64 (x42.length : Int))), (56, (.int .i64 i125)), (85, v1), (86, (.int .i64 (p0.Lines.length : Int))), (87, (.int .i64 i189))]) ⟨rfl, rfl, rfl, rfl, rfl, rfl, rfl, rfl, rfl, rfl, rfl, rfl, rfl, trivial⟩ ?_
                    refine nx ?_
                    refine wpC_seq ?_
                    refine wpC_region ?_
                    refine st_val (ex_move rfl) (by decide) trivial ?_
                    obtain ⟨x207, hx207, b196⟩ := bind_some b196
                    refine st_op (by decide) trivial ?_
                    refine wf_atZ h206 hx207 hB rfl rfl Try.underlying25 Try.sizeOf3 ?_
                    intro b208 f209 c210 h211 h212
                    cases h212
                    refine st_val (ex_load1 rfl Try.isAgg3 (cell_of_cells h211)) (by decide) trivial ?_
                    refine st_val (ex_move rfl) (by decide) trivial ?_
                    refine st_val (ex_eql rfl rfl) (by decide) trivial ?_
                    refine st_val (ex_move rfl) (by decide) trivial ?_
                    obtain ⟨q213, hq213, b196⟩ := bind_some b196
                    refine wpF_cutAt 7 (fun a215 w214 => Fr a215 126 [(2, u2), (3, (.pointer (some ⟨b5, 0, none⟩))), (7, v10), (8, v22), (9, (.int .i64 y28)), (10, v73), (13, (.int .i64 i125)), (15, v205), (55, (.int .i64 (x42.length : Int))), (56, (.int .i64 i125)), (85, v1), (86, (.int .i64 (p0.Lines.length : Int))), (87, (.int .i64 i189)), (103, (.bool q213))] ∧ Keeps w188 w214) ?_ ?_
                    all_goals simp only [List.take_succ_cons, List.take_zero, List.drop_succ_cons, List.drop_zero]
                    · have kp : Keeps w188 w188 := Keeps.refl _
                      rcases Bool.eq_false_or_eq_true (x207 == i125) with t216 | t216
                      · rw [if_pos t216] at hq213
                        refine st_val (ex_move rfl) (by decide) ⟨_, rfl, (congrArg (fun b => some (Value.bool b)) t216)⟩ ?_
                        refine st_val (ex_move rfl) (by decide) ⟨_, rfl, (congrArg (fun b => some (Value.bool b)) t216)⟩ ?_
                        obtain ⟨x217, hx217, hq213⟩ := bind_some hq213
                        obtain ⟨v218, h219, h220, h221⟩ := h13.ix hx217
                        refine st_op (by decide) ⟨_, rfl, (congrArg (fun b => some (Value.bool b)) t216)⟩ ?_
                        refine wf_atW h11 h219 rfl rfl Try.underlying22 Try.sizeOf25 ?_
                        intro b222 f223 c224 h225 h226
                        obtain ⟨rfl, -⟩ := h226
                        refine st_val (ex_load1 rfl Try.isAgg25 (cell_of_cells h225)) (by decide) ⟨_, rfl, (congrArg (fun b => some (Value.bool b)) t216)⟩ ?_
                        refine st_val (ex_lenO rfl (h13.at h220 h221) Try.underlying25) (by decide) ⟨_, rfl, (congrArg (fun b => some (Value.bool b)) t216)⟩ ?_
                        refine st_val (ex_gtr rfl rfl) (by decide) ⟨_, rfl, (congrArg (fun b => some (Value.bool b)) t216)⟩ ?_
                        refine st_val (ex_pick_t (congrArg (fun b => some (Value.bool b)) t216) rfl) (by decide) trivial ?_
                        have hq2132 := Option.some.inj hq213
                        refine wpF_end (r := [(2, u2), (3, (.pointer (some ⟨b5, 0, none⟩))), (7, v10), (8, v22), (9, (.int .i64 y28)), (10, v73), (13, (.int .i64 i125)), (15, v205), (55, (.int .i64 (x42.length : Int))), (56, (.int .i64 i125)), (85, v1), (86, (.int .i64 (p0.Lines.length : Int))), (87, (.int .i64 i189)), (103, (.bool (decide ((x217.length : Int) > 0))))]) ⟨rfl, rfl, rfl, rfl, rfl, rfl, rfl, rfl, rfl, rfl, rfl, rfl, rfl, rfl, trivial⟩ ?_
                        subst hq2132
                        refine np_norm (fun a ha => ⟨ha, kp⟩)
                      · rw [if_neg (by rw [t216]; decide)] at hq213
                        refine st_no rfl rfl (by rw [t216]; rfl) (by decide) ?_
                        refine st_no rfl rfl (by rw [t216]; rfl) (by decide) ?_
                        refine st_no rfl rfl (by rw [t216]; rfl) (by decide) ?_
                        refine st_no rfl rfl (by rw [t216]; rfl) (by decide) ?_
                        refine st_no rfl rfl (by rw [t216]; rfl) (by decide) ?_
                        refine st_no rfl rfl (by rw [t216]; rfl) (by decide) ?_
                        refine st_val (ex_pick_f (congrArg (fun b => some (Value.bool b)) t216) rfl) (by decide) trivial ?_
                        have hq2132 := Option.some.inj hq213
                        refine wpF_end (r := [(2, u2), (3, (.pointer (some ⟨b5, 0, none⟩))), (7, v10), (8, v22), (9, (.int .i64 y28)), (10, v73), (13, (.int .i64 i125)), (15, v205), (55, (.int .i64 (x42.length : Int))), (56, (.int .i64 i125)), (85, v1), (86, (.int .i64 (p0.Lines.length : Int))), (87, (.int .i64 i189)), (103, (.bool false))]) ⟨rfl, rfl, rfl, rfl, rfl, rfl, rfl, rfl, rfl, rfl, rfl, rfl, rfl, rfl, trivial⟩ ?_
                        subst hq2132
                        refine np_norm (fun a ha => ⟨ha, kp⟩)
                    rintro a229 w214 ⟨ha, k227⟩
                    have s228 := k227.stp 999 o187
                    replace h186 := h186.stp s228 (by decide) (by decide)
                    replace h11 := h11.stp s228 (by decide) (by decide)
                    replace h13 := h13.stp s228 (by decide) (by decide)
                    replace h60 := h60.stp s228 (by decide) (by decide)
                    replace h74 := h74.stp s228 (by decide) (by decide)
                    replace h6 := h6.stp s228 (by decide)
                    replace hB := hB.stp s228 (by decide)
                    refine wl_of ha ?_
                    refine wpF_end (r := [(2, u2), (3, (.pointer (some ⟨b5, 0, none⟩))), (7, v10), (8, v22), (9, (.int .i64 y28)), (10, v73), (13, (.int .i64 i125)), (15, v205), (55, (.int .i64 (x42.length : Int))), (56, (.int .i64 i125)), (85, v1), (86, (.int .i64 (p0.Lines.length : Int))), (87, (.int .i64 i189)), (103, (.bool q213))]) ⟨rfl, rfl, rfl, rfl, rfl, rfl, rfl, rfl, rfl, rfl, rfl, rfl, rfl, rfl, trivial⟩ ?_
                    refine nx ?_
                    refine wpC_cond rfl (fun t230 => ?_) (fun t230 => ?_)
                    · rw [if_pos t230] at b196
                      obtain ⟨x237, hx237, b196⟩ := bind_some b196
                      obtain ⟨x240, hx240, b196⟩ := bind_some b196
                      obtain ⟨x243, hx243, b196⟩ := bind_some b196
                      obtain ⟨x249, hx249, b196⟩ := bind_some b196
                      obtain ⟨x250, hx250, b196⟩ := bind_some b196
                      refine wpC_drawn (o := o187) [(2, u2), (3, (.pointer (some ⟨b5, 0, none⟩))), (7, v10), (8, v22), (9, (.int .i64 y28)), (10, v73), (13, (.int .i64 i125)), (15, v205), (55, (.int .i64 (x42.length : Int))), (56, (.int .i64 i125)), (85, v1), (86, (.int .i64 (p0.Lines.length : Int))), (87, (.int .i64 i189))] [2, 3, 7, 8, 9, 10, 13, 15, 55, 56, 85, 86, 87] [104, 105, 106, 107, 108, 109, 110, 111, 112, 113, 114, 115, 116, 117, 118, 119, 120, 121] [[], [], [0, 1], [2], [], [], [], [5, 6], [7], [], [8, 9], [10], [], [12], [], [13, 14], [11, 15], [16]] [none, none, none, none, none, none, none, none, none, none, none, none, none, none, none, none, none, none] [999, 999, 999, 999, 999, 999, 999, 999, 999, 999, 999, 999, 999, 999, 999, 999, 999, 999] [0, 0, 0, 0, 0, 0, 0, 0, 0, 0, 15, 0, 0, 0, 0, 0, 0, 0] [999] [fun v _ _ => v = v22, fun v _ _ => v = (.int .i64 y28), fun v _ _ => v = adr v22 (y28.toNat * Rp.sz HRow), fun v _ _ => v = v45, fun v _ _ => v = (.int .i64 i125), fun v _ _ => v = v22, fun v _ _ => v = (.int .i64 y28), fun v _ _ => v = adr v22 (y28.toNat * Rp.sz HRow), fun v _ _ => v = v45, fun v _ _ => v = (.int .i64 i125), fun v o w9 => ∃ vl, v = adr vl (i125.toNat * Rp.sz Int) ∧ Ow w.heap.size 3 15 o w9 vl y185, fun v _ _ => v = (.int .i64 x237), fun v _ _ => v = v205, fun v o w9 => RdL zt w v x240, fun v _ _ => v = v73, fun v _ _ => v = (.int .i64 x243), fun v _ _ => v = (.int .i64 x249), fun v _ _ => v = (.int .i64 x250)] (fun o8 w8 => Bs oo o8 w w8 ∧ Ow w.heap.size 3 15 o8 w8 v45 y185 ∧ Ow w.heap.size 25 12 o8 w8 v10 g12 ∧ Rws w.heap.size 3 13 o8 w8 g12 x8 ∧ Ow w.heap.size 25 14 o8 w8 v22 (hsx x59 y28 v45) ∧ Ow w.heap.size 25 16 o8 w8 v73 y72 ∧ Bx w.heap.size 11 o8 w8 b5 29 [(.int .i64 p0.Labels), (.int .i64 p0.Children), v1]) follows_mixed (by kernel_rfl) rfl ⟨rfl, rfl, rfl, rfl, rfl, rfl, rfl, rfl, rfl, rfl, rfl, rfl, rfl, trivial⟩ ⟨hB, h186, h11, h13, h60, h74, h6⟩ ?_ ⟨st_eq _, st_eq _, st_eq _, st_eq _, st_eq _, st_eq _, st_eq _, st_eq _, st_eq _, st_eq _, fun _ _ _ _ _ _ h0 hb ⟨vl, e, h⟩ hs => ⟨vl, e, h.stp hs h0.1 (Ne.symm hb)⟩, st_eq _, st_eq _, fun _ _ _ _ _ _ h0 hb h hs => h, st_eq _, st_eq _, st_eq _, st_eq _, trivial⟩ ?_ ?_
                      · rintro t9 o1 w1 o2 w2 ht9 ⟨hB, h186, h11, h13, h60, h74, h6⟩ hs9
                        have ht9 : t9 = 999 := by simpa using ht9
                        subst ht9
                        all_goals exact ⟨hB.stp hs9 (by decide), h186.stp hs9 (by decide) (by decide), h11.stp hs9 (by decide) (by decide), h13.stp hs9 (by decide) (by decide), h60.stp hs9 (by decide) (by decide), h74.stp hs9 (by decide) (by decide), h6.stp hs9 (by decide)⟩
                      · refine ⟨?_, ?_, ?_, ?_, ?_, ?_, ?_, ?_, ?_, ?_, ?_, ?_, ?_, ?_, ?_, ?_, ?_, ?_, trivial⟩
                        · rintro o256 w257 a258 ha ⟨hB, h186, h11, h13, h60, h74, h6⟩ -
                          refine opS_of ha (trivial) ?_
                          refine op1_val (ex_move rfl) ?_
                          exact ⟨_, Stp.refl _ _ _, rfl⟩
                        · rintro o259 w260 a261 ha ⟨hB, h186, h11, h13, h60, h74, h6⟩ -
                          refine opS_of ha (trivial) ?_
                          refine op1_val (ex_move rfl) ?_
                          exact ⟨_, Stp.refl _ _ _, rfl⟩
                        · rintro o262 w263 a264 ha ⟨hB, h186, h11, h13, h60, h74, h6⟩ ⟨r265, r266, -⟩
                          have ha := Fr.cons (d := 104) ha r265
                          have ha := Fr.cons (d := 105) ha r266
                          refine opS_of ha (trivial) ?_
                          refine wd_indexW h60 (hsx_at hx59 v45) rfl rfl Try.underlying22 Try.sizeOf25 ?_
                          exact ⟨_, Stp.refl _ _ _, rfl⟩
                        · rintro o267 w268 a269 ha ⟨hB, h186, h11, h13, h60, h74, h6⟩ ⟨r270, -⟩
                          have ha := Fr.cons (d := 106) ha r270
                          refine opS_of ha (trivial) ?_
                          refine wd_load1W h60 (hsx_at hx59 v45) rfl rfl Try.isAgg25 ?_
                          intro c271 h272
                          obtain ⟨e273, -⟩ := h272
                          cases e273
                          exact ⟨_, Stp.refl _ _ _, rfl⟩
                        · rintro o274 w275 a276 ha ⟨hB, h186, h11, h13, h60, h74, h6⟩ -
                          refine opS_of ha (trivial) ?_
                          refine op1_val (ex_move rfl) ?_
                          exact ⟨_, Stp.refl _ _ _, rfl⟩
                        · rintro o277 w278 a279 ha ⟨hB, h186, h11, h13, h60, h74, h6⟩ -
                          refine opS_of ha (trivial) ?_
                          refine op1_val (ex_move rfl) ?_
                          exact ⟨_, Stp.refl _ _ _, rfl⟩
                        · rintro o280 w281 a282 ha ⟨hB, h186, h11, h13, h60, h74, h6⟩ -
                          refine opS_of ha (trivial) ?_
                          refine op1_val (ex_move rfl) ?_
                          exact ⟨_, Stp.refl _ _ _, rfl⟩
                        · rintro o283 w284 a285 ha ⟨hB, h186, h11, h13, h60, h74, h6⟩ ⟨r286, r287, -⟩
                          have ha := Fr.cons (d := 109) ha r286
                          have ha := Fr.cons (d := 110) ha r287
                          refine opS_of ha (trivial) ?_
                          refine wd_indexW h60 (hsx_at hx59 v45) rfl rfl Try.underlying22 Try.sizeOf25 ?_
                          exact ⟨_, Stp.refl _ _ _, rfl⟩
                        · rintro o288 w289 a290 ha ⟨hB, h186, h11, h13, h60, h74, h6⟩ ⟨r291, -⟩
                          have ha := Fr.cons (d := 111) ha r291
                          refine opS_of ha (trivial) ?_
                          refine wd_load1W h60 (hsx_at hx59 v45) rfl rfl Try.isAgg25 ?_
                          intro c292 h293
                          obtain ⟨e294, -⟩ := h293
                          cases e294
                          exact ⟨_, Stp.refl _ _ _, rfl⟩
                        · rintro o295 w296 a297 ha ⟨hB, h186, h11, h13, h60, h74, h6⟩ -
                          refine opS_of ha (trivial) ?_
                          refine op1_val (ex_move rfl) ?_
                          exact ⟨_, Stp.refl _ _ _, rfl⟩
                        · rintro o298 w299 a300 ha ⟨hB, h186, h11, h13, h60, h74, h6⟩ ⟨r301, r302, -⟩
                          have ha := Fr.cons (d := 112) ha r301
                          have ha := Fr.cons (d := 113) ha r302
                          refine opS_of ha (trivial) ?_
                          refine wd_indexW h186 hx237 rfl rfl Try.underlying25 Try.sizeOf3 ?_
                          exact ⟨_, Stp.refl _ _ _, ⟨_, rfl, h186⟩⟩
                        · rintro o303 w304 a305 ha ⟨hB, h186, h11, h13, h60, h74, h6⟩ ⟨r306, -⟩
                          obtain ⟨v307, e308, h309⟩ := r306
                          have ha := Fr.cons (d := 114) ha e308
                          refine opS_of ha (trivial) ?_
                          refine wd_load1W h309 hx237 rfl rfl Try.isAgg3 ?_
                          intro c310 h311
                          cases h311
                          exact ⟨_, Stp.refl _ _ _, rfl⟩
                        · rintro o312 w313 a314 ha ⟨hB, h186, h11, h13, h60, h74, h6⟩ -
                          refine opS_of ha (trivial) ?_
                          refine op1_val (ex_move rfl) ?_
                          exact ⟨_, Stp.refl _ _ _, rfl⟩
                        · rintro o315 w316 a317 ha ⟨hB, h186, h11, h13, h60, h74, h6⟩ ⟨r318, -⟩
                          have ha := Fr.cons (d := 116) ha r318
                          refine opS_of ha (trivial) ?_
                          refine wf_cutZ h206 hx240 rfl rfl rfl Try.underlying25 Try.sizeOf3 ?_
                          intro v319 h320
                          exact ⟨_, Stp.refl _ _ _, h320⟩
                        · rintro o321 w322 a323 ha ⟨hB, h186, h11, h13, h60, h74, h6⟩ -
                          refine opS_of ha (trivial) ?_
                          refine op1_val (ex_move rfl) ?_
                          exact ⟨_, Stp.refl _ _ _, rfl⟩
                        · rintro o324 w325 a326 ha ⟨hB, h186, h11, h13, h60, h74, h6⟩ ⟨r327, r328, -⟩
                          replace r327 : RdL zt w (a326.tmps.getD 117 undef) x240 := r327
                          generalize e330 : a326.tmps.getD 117 undef = v329 at r327
                          have ha := Fr.cons (d := 117) ha e330
                          have ha := Fr.cons (d := 118) ha r328
                          refine opS_of ha (trivial) ?_
                          refine wf_call (cS_roWays fuel w325 _ x240 (r327.keep hB.keeps) _ y72 h74.z x243 hx243) Try.call43 ⟨rfl, rfl, trivial⟩ ?_
                          rintro e335 w331 ⟨rfl, k332⟩
                          have s334 := k332.stp 999 o324
                          refine ⟨_, rfl, ?_⟩
                          replace h186 := h186.stp s334 (by decide) (by decide)
                          replace h11 := h11.stp s334 (by decide) (by decide)
                          replace h13 := h13.stp s334 (by decide) (by decide)
                          replace h60 := h60.stp s334 (by decide) (by decide)
                          replace h74 := h74.stp s334 (by decide) (by decide)
                          replace h6 := h6.stp s334 (by decide)
                          replace hB := hB.stp s334 (by decide)
                          exact ⟨_, s334, rfl⟩
                        · rintro o336 w337 a338 ha ⟨hB, h186, h11, h13, h60, h74, h6⟩ ⟨r339, r340, -⟩
                          have ha := Fr.cons (d := 115) ha r339
                          have ha := Fr.cons (d := 119) ha r340
                          refine opS_of ha (trivial) ?_
                          refine op1_val (ex_add rfl rfl hx249) ?_
                          exact ⟨_, Stp.refl _ _ _, rfl⟩
                        · rintro o341 w342 a343 ha ⟨hB, h186, h11, h13, h60, h74, h6⟩ ⟨r344, -⟩
                          have ha := Fr.cons (d := 120) ha r344
                          refine opS_of ha (trivial) ?_
                          refine wf_call (cS_l1Least w342 x249 1000000000001 x250 hx250) Try.call21 ⟨rfl, rfl, trivial⟩ ?_
                          rintro e349 w345 ⟨rfl, k346⟩
                          have s348 := k346.stp 999 o341
                          refine ⟨_, rfl, ?_⟩
                          replace h186 := h186.stp s348 (by decide) (by decide)
                          replace h11 := h11.stp s348 (by decide) (by decide)
                          replace h13 := h13.stp s348 (by decide) (by decide)
                          replace h60 := h60.stp s348 (by decide) (by decide)
                          replace h74 := h74.stp s348 (by decide) (by decide)
                          replace h6 := h6.stp s348 (by decide)
                          replace hB := hB.stp s348 (by decide)
                          exact ⟨_, s348, rfl⟩
                      rintro o350 w351 a352 ha ⟨hB, h186, h11, h13, h60, h74, h6⟩ ⟨-, -, -, r353, r354, -, -, -, -, -, -, -, -, -, -, -, -, r355, -⟩
                      have ha := Fr.cons (d := 107) ha r353
                      have ha := Fr.cons (d := 108) ha r354
                      have ha := Fr.cons (d := 121) ha r355
                      refine wl_of ha ?_
                      simp only [List.length_cons, List.length_nil, Nat.zero_add, Nat.reduceAdd, List.drop_succ_cons, List.drop_zero]
                      obtain ⟨x356, hx356, b196⟩ := bind_some b196
                      refine st_op (by decide) trivial ?_
                      refine wf_atP h186 hx356 rfl rfl Try.underlying25 Try.sizeOf3 ?_
                      intro b357 c359 h362 h360 h361
                      cases h361
                      obtain ⟨x365, hx365, b196⟩ := bind_some b196
                      refine st_op0 trivial ?_
                      refine wf_storeW h186 h362 hx365 rfl (by decide) rfl rfl rfl Try.sizeOf3 rfl ?_
                      intro w363 h366 s364
                      replace h11 := h11.stp s364 (by decide) (by decide)
                      replace h13 := h13.stp s364 (by decide) (by decide)
                      replace h60 := h60.stp s364 (by decide) (by decide)
                      replace h74 := h74.stp s364 (by decide) (by decide)
                      replace h6 := h6.stp s364 (by decide)
                      replace hB := hB.stp s364 (by decide)
                      refine wpF_end (r := [(2, u2), (3, (.pointer (some ⟨b5, 0, none⟩))), (7, v10), (8, v22), (9, (.int .i64 y28)), (10, v73), (13, (.int .i64 i125)), (55, (.int .i64 (x42.length : Int))), (56, (.int .i64 i125)), (85, v1), (86, (.int .i64 (p0.Lines.length : Int))), (87, (.int .i64 i189))]) ⟨rfl, rfl, rfl, rfl, rfl, rfl, rfl, rfl, rfl, rfl, rfl, rfl, trivial⟩ ?_
                      refine nb_norm ?_
                      refine nx ?_
                      refine wpC_region ?_
                      refine st_val (ex_add rfl rfl (ck_in (by omega) (by omega))) (by decide) trivial ?_
                      refine st_val (ex_move rfl) (by decide) trivial ?_
                      refine wpF_end (r := [(2, u2), (3, (.pointer (some ⟨b5, 0, none⟩))), (7, v10), (8, v22), (9, (.int .i64 y28)), (10, v73), (13, (.int .i64 i125)), (55, (.int .i64 (x42.length : Int))), (56, (.int .i64 i125)), (85, v1), (86, (.int .i64 (p0.Lines.length : Int))), (87, (.int .i64 (i189 + 1)))]) ⟨rfl, rfl, rfl, rfl, rfl, rfl, rfl, rfl, rfl, rfl, rfl, rfl, trivial⟩ ?_
                      refine nt_norm ?_
                      have e367 := Option.some.inj b196
                      subst e367
                      refine to_k (r := [(2, u2), (3, (.pointer (some ⟨b5, 0, none⟩))), (7, v10), (8, v22), (9, (.int .i64 y28)), (10, v73), (13, (.int .i64 i125)), (55, (.int .i64 (x42.length : Int))), (56, (.int .i64 i125)), (85, v1), (86, (.int .i64 (p0.Lines.length : Int))), (87, (.int .i64 (i189 + 1)))]) ⟨rfl, rfl, rfl, rfl, rfl, rfl, rfl, rfl, rfl, rfl, rfl, rfl, trivial⟩ ?_
                      intro a ha
                      exact ⟨_, (by rw [← m193]; simp only [List.length_drop]; omega), i189 + 1, x365, o350, n197, rfl, (by omega), ha, hB, h366, h11, h13, h60, h74, h6⟩
                    · rw [if_neg (by rw [t230]; decide)] at b196
                      refine wpC_skip ?_
                      refine nb_norm ?_
                      refine nx ?_
                      refine wpC_region ?_
                      refine st_val (ex_add rfl rfl (ck_in (by omega) (by omega))) (by decide) trivial ?_
                      refine st_val (ex_move rfl) (by decide) trivial ?_
                      refine wpF_end (r := [(2, u2), (3, (.pointer (some ⟨b5, 0, none⟩))), (7, v10), (8, v22), (9, (.int .i64 y28)), (10, v73), (13, (.int .i64 i125)), (55, (.int .i64 (x42.length : Int))), (56, (.int .i64 i125)), (85, v1), (86, (.int .i64 (p0.Lines.length : Int))), (87, (.int .i64 (i189 + 1)))]) ⟨rfl, rfl, rfl, rfl, rfl, rfl, rfl, rfl, rfl, rfl, rfl, rfl, trivial⟩ ?_
                      refine nt_norm ?_
                      have e368 := Option.some.inj b196
                      subst e368
                      refine to_k (r := [(2, u2), (3, (.pointer (some ⟨b5, 0, none⟩))), (7, v10), (8, v22), (9, (.int .i64 y28)), (10, v73), (13, (.int .i64 i125)), (55, (.int .i64 (x42.length : Int))), (56, (.int .i64 i125)), (85, v1), (86, (.int .i64 (p0.Lines.length : Int))), (87, (.int .i64 (i189 + 1)))]) ⟨rfl, rfl, rfl, rfl, rfl, rfl, rfl, rfl, rfl, rfl, rfl, rfl, trivial⟩ ?_
                      intro a ha
                      exact ⟨_, (by rw [← m193]; simp only [List.length_drop]; omega), i189 + 1, y185, o187, n197, rfl, (by omega), ha, hB, h186, h11, h13, h60, h74, h6⟩
                  · have r369 := forI_done t198 l191
                    refine wp_of ha ?_
                    refine wpC_seq ?_
                    refine wpC_region ?_
                    refine st_val (ex_lss rfl rfl) (by decide) trivial ?_
                    refine wpF_end (r := [(2, u2), (3, (.pointer (some ⟨b5, 0, none⟩))), (7, v10), (8, v22), (9, (.int .i64 y28)), (10, v73), (13, (.int .i64 i125)), (55, (.int .i64 (x42.length : Int))), (56, (.int .i64 i125)), (85, v1), (86, (.int .i64 (p0.Lines.length : Int))), (87, (.int .i64 i189)), (88, (.bool (decide (i189 < (p0.Lines.length : Int)))))]) ⟨rfl, rfl, rfl, rfl, rfl, rfl, rfl, rfl, rfl, rfl, rfl, rfl, rfl, trivial⟩ ?_
                    refine nx ?_
                    refine wpC_seq ?_
                    refine wpC_false (congrArg (fun b => some (Value.bool b)) (decide_eq_false t198)) ?_
                    refine wpC_exit ?_
                    refine nt_exit ?_
                    refine nt_exit ?_
                    refine nb_hit ?_
                    refine np_norm ?_
                    refine to_k (r := [(2, u2), (3, (.pointer (some ⟨b5, 0, none⟩))), (7, v10), (8, v22), (9, (.int .i64 y28)), (10, v73), (55, (.int .i64 (x42.length : Int))), (56, (.int .i64 i125))]) ⟨rfl, rfl, rfl, rfl, rfl, rfl, rfl, rfl, trivial⟩ ?_
                    intro a ha
                    exact ⟨y185, o187, r369, ha, hB, h186, h11, h13, h60, h74, h6⟩
                · rintro a w188 ⟨y185, o187, rfl, ha, hB, h186, h11, h13, h60, h74, h6⟩
                  dsimp only at b134
                  refine ap_k ha ?_
                  refine nb_norm ?_
                  refine nx ?_
                  refine wpC_region ?_
                  refine st_val (ex_add rfl rfl (ck_in (by omega) (by omega))) (by decide) trivial ?_
                  refine st_val (ex_move rfl) (by decide) trivial ?_
                  refine wpF_end (r := [(2, u2), (3, (.pointer (some ⟨b5, 0, none⟩))), (7, v10), (8, v22), (9, (.int .i64 y28)), (10, v73), (55, (.int .i64 (x42.length : Int))), (56, (.int .i64 (i125 + 1)))]) ⟨rfl, rfl, rfl, rfl, rfl, rfl, rfl, rfl, trivial⟩ ?_
                  refine nt_norm ?_
                  have e370 := Option.some.inj b134
                  subst e370
                  refine to_k (r := [(2, u2), (3, (.pointer (some ⟨b5, 0, none⟩))), (7, v10), (8, v22), (9, (.int .i64 y28)), (10, v73), (55, (.int .i64 (x42.length : Int))), (56, (.int .i64 (i125 + 1)))]) ⟨rfl, rfl, rfl, rfl, rfl, rfl, rfl, rfl, trivial⟩ ?_
                  intro a ha
                  exact ⟨_, (by rw [← m131]; omega), i125 + 1, y185, o187, n135, rfl, (by omega), ha, hB, h186, h11, h13, h60, h74, h6⟩
                · exact fun _ _ h => h.elim
              · rw [if_neg (by rw [t168]; decide)] at b134
                refine wpC_skip ?_
                refine nx ?_
                refine wpC_seq ?_
                refine wpC_region ?_
                refine st_val (ex_field rfl Try.underlying29 rfl Try.sizeOf22) (by decide) trivial ?_
                refine st_val (ex_load1 rfl Try.isAgg22 (h6.cell rfl)) (by decide) trivial ?_
                refine st_val (ex_lenR rfl h2 Try.underlying22) (by decide) trivial ?_
                refine st_val (ex_move rfl) (by decide) trivial ?_
                refine wpF_end (r := [(2, u2), (3, (.pointer (some ⟨b5, 0, none⟩))), (7, v10), (8, v22), (9, (.int .i64 y28)), (10, v73), (13, (.int .i64 i125)), (55, (.int .i64 (x42.length : Int))), (56, (.int .i64 i125)), (85, v1), (86, (.int .i64 (p0.Lines.length : Int))), (87, (.int .i64 0))]) ⟨rfl, rfl, rfl, rfl, rfl, rfl, rfl, rfl, rfl, rfl, rfl, rfl, trivial⟩ ?_
                refine nx ?_
                obtain ⟨q376, hq376, b134⟩ := bind_some b134
                refine wpC_cutN (fun a w374 => ∃ (y371 : List Int) (o373 : Tg), q376 = .inl y371 ∧ Fr a 126 [(2, u2), (3, (.pointer (some ⟨b5, 0, none⟩))), (7, v10), (8, v22), (9, (.int .i64 y28)), (10, v73), (55, (.int .i64 (x42.length : Int))), (56, (.int .i64 i125))] ∧ Bs oo o373 w w374 ∧ Ow w.heap.size 3 15 o373 w374 v45 y371 ∧ Ow w.heap.size 25 12 o373 w374 v10 g12 ∧ Rws w.heap.size 3 13 o373 w374 g12 x8 ∧ Ow w.heap.size 25 14 o373 w374 v22 (hsx x59 y28 v45) ∧ Ow w.heap.size 25 16 o373 w374 v73 y72 ∧ Bx w.heap.size 11 o373 w374 b5 29 [(.int .i64 p0.Labels), (.int .i64 p0.Children), v1]) (fun _ _ => False) ?_ ?_ ?_
                · refine wpC_block ?_
                  refine wpC_loop (fun (K : Nat) a w374 => ∃ (i375 : Int) (y371 : List Int) (o373 : Tg), forI (fS_roCounts_s5 fuel x8 y28 y72 i125) (p0.Lines.drop i375.toNat) i375 y371 = some q376 ∧ (p0.Lines.drop i375.toNat).length = K ∧ 0 ≤ i375 ∧ Fr a 126 [(2, u2), (3, (.pointer (some ⟨b5, 0, none⟩))), (7, v10), (8, v22), (9, (.int .i64 y28)), (10, v73), (13, (.int .i64 i125)), (55, (.int .i64 (x42.length : Int))), (56, (.int .i64 i125)), (85, v1), (86, (.int .i64 (p0.Lines.length : Int))), (87, (.int .i64 i375))] ∧ Bs oo o373 w w374 ∧ Ow w.heap.size 3 15 o373 w374 v45 y371 ∧ Ow w.heap.size 25 12 o373 w374 v10 g12 ∧ Rws w.heap.size 3 13 o373 w374 g12 x8 ∧ Ow w.heap.size 25 14 o373 w374 v22 (hsx x59 y28 v45) ∧ Ow w.heap.size 25 16 o373 w374 v73 y72 ∧ Bx w.heap.size 11 o373 w374 b5 29 [(.int .i64 p0.Labels), (.int .i64 p0.Children), v1]) _ (fun a ha => ⟨0, y121, o123, hq376, rfl, Int.le_refl 0, ha.sub (r := [(2, u2), (3, (.pointer (some ⟨b5, 0, none⟩))), (7, v10), (8, v22), (9, (.int .i64 y28)), (10, v73), (13, (.int .i64 i125)), (55, (.int .i64 (x42.length : Int))), (56, (.int .i64 i125)), (85, v1), (86, (.int .i64 (p0.Lines.length : Int))), (87, (.int .i64 0))]) ⟨rfl, rfl, rfl, rfl, rfl, rfl, rfl, rfl, rfl, rfl, rfl, rfl, trivial⟩, hB, h122, h11, h13, h60, h74, h6⟩) ?_
                  rintro K380 a w374 ⟨i375, y371, o373, l377, m379, z378, ha, hB, h372, h11, h13, h60, h74, h6⟩
                  by_cases t384 : i375 < (p0.Lines.length : Int)
                  · obtain ⟨x385, q381, hx385, b382, n383⟩ := forI_cons z378 t384 l377
                    have hle := h2.len_le
                    dsimp only [fS_roCounts_s5] at b382
                    refine wp_of ha ?_
                    refine wpC_seq ?_
                    refine wpC_region ?_
                    refine st_val (ex_lss rfl rfl) (by decide) trivial ?_
                    refine wpF_end (r := [(2, u2), (3, (.pointer (some ⟨b5, 0, none⟩))), (7, v10), (8, v22), (9, (.int .i64 y28)), (10, v73), (13, (.int .i64 i125)), (55, (.int .i64 (x42.length : Int))), (56, (.int .i64 i125)), (85, v1), (86, (.int .i64 (p0.Lines.length : Int))), (87, (.int .i64 i375)), (88, (.bool (decide (i375 < (p0.Lines.length : Int)))))]) ⟨rfl, rfl, rfl, rfl, rfl, rfl, rfl, rfl, rfl, rfl, rfl, rfl, rfl, trivial⟩ ?_
                    refine nx ?_
                    refine wpC_seq ?_
                    refine wpC_true (congrArg (fun b => some (Value.bool b)) (decide_eq_true t384)) ?_
                    refine wpC_skip ?_
                    refine nx ?_
                    refine wpC_seq ?_
                    refine wpC_block ?_
                    refine wpC_seq ?_
                    refine wpC_region ?_
                    refine st_op (by decide) trivial ?_
                    refine wf_atZ h2 hx385 hB rfl rfl Try.underlying22 Try.sizeOf25 ?_
                    intro b386 f387 c388 h389 h390
                    obtain ⟨v391, rfl, h392⟩ := h390
                    refine st_val (ex_load1 rfl Try.isAgg25 (cell_of_cells h389)) (by decide) trivial ?_
                    refine st_val (ex_assign rfl) (by decide) trivial ?_
                    refine wpF_end (r := [(2, u2), (3, (.pointer (some ⟨b5, 0, none⟩))), (7, v10), (8, v22), (9, (.int .i64 y28)), (10, v73), (13, (.int .i64 i125)), (15, v391), (55, (.int .i64 (x42.length : Int))), (56, (.int .i64 i125)), (85, v1), (86, (.int .i64 (p0.Lines.length : Int))), (87, (.int .i64 i375))]) ⟨rfl, rfl, rfl, rfl, rfl, rfl, rfl, rfl, rfl, rfl, rfl, rfl, rfl, trivial⟩ ?_
                    refine nx ?_
                    refine wpC_seq ?_
                    refine wpC_region ?_
                    refine st_val (ex_move rfl) (by decide) trivial ?_
                    obtain ⟨x393, hx393, b382⟩ := bind_some b382
                    refine st_op (by decide) trivial ?_
                    refine wf_atZ h392 hx393 hB rfl rfl Try.underlying25 Try.sizeOf3 ?_
                    intro b394 f395 c396 h397 h398
                    cases h398
                    refine st_val (ex_load1 rfl Try.isAgg3 (cell_of_cells h397)) (by decide) trivial ?_
                    refine st_val (ex_move rfl) (by decide) trivial ?_
                    refine st_val (ex_eql rfl rfl) (by decide) trivial ?_
                    refine st_val (ex_move rfl) (by decide) trivial ?_
                    obtain ⟨q399, hq399, b382⟩ := bind_some b382
                    refine wpF_cutAt 7 (fun a401 w400 => Fr a401 126 [(2, u2), (3, (.pointer (some ⟨b5, 0, none⟩))), (7, v10), (8, v22), (9, (.int .i64 y28)), (10, v73), (13, (.int .i64 i125)), (15, v391), (55, (.int .i64 (x42.length : Int))), (56, (.int .i64 i125)), (85, v1), (86, (.int .i64 (p0.Lines.length : Int))), (87, (.int .i64 i375)), (103, (.bool q399))] ∧ Keeps w374 w400) ?_ ?_
                    all_goals simp only [List.take_succ_cons, List.take_zero, List.drop_succ_cons, List.drop_zero]
                    · have kp : Keeps w374 w374 := Keeps.refl _
                      rcases Bool.eq_false_or_eq_true (x393 == i125) with t402 | t402
                      · rw [if_pos t402] at hq399
                        refine st_val (ex_move rfl) (by decide) ⟨_, rfl, (congrArg (fun b => some (Value.bool b)) t402)⟩ ?_
                        refine st_val (ex_move rfl) (by decide) ⟨_, rfl, (congrArg (fun b => some (Value.bool b)) t402)⟩ ?_
                        obtain ⟨x403, hx403, hq399⟩ := bind_some hq399
                        obtain ⟨v404, h405, h406, h407⟩ := h13.ix hx403
                        refine st_op (by decide) ⟨_, rfl, (congrArg (fun b => some (Value.bool b)) t402)⟩ ?_
                        refine wf_atW h11 h405 rfl rfl Try.underlying22 Try.sizeOf25 ?_
                        intro b408 f409 c410 h411 h412
                        obtain ⟨rfl, -⟩ := h412
                        refine st_val (ex_load1 rfl Try.isAgg25 (cell_of_cells h411)) (by decide) ⟨_, rfl, (congrArg (fun b => some (Value.bool b)) t402)⟩ ?_
                        refine st_val (ex_lenO rfl (h13.at h406 h407) Try.underlying25) (by decide) ⟨_, rfl, (congrArg (fun b => some (Value.bool b)) t402)⟩ ?_
                        refine st_val (ex_gtr rfl rfl) (by decide) ⟨_, rfl, (congrArg (fun b => some (Value.bool b)) t402)⟩ ?_
                        refine st_val (ex_pick_t (congrArg (fun b => some (Value.bool b)) t402) rfl) (by decide) trivial ?_
                        have hq3992 := Option.some.inj hq399
                        refine wpF_end (r := [(2, u2), (3, (.pointer (some ⟨b5, 0, none⟩))), (7, v10), (8, v22), (9, (.int .i64 y28)), (10, v73), (13, (.int .i64 i125)), (15, v391), (55, (.int .i64 (x42.length : Int))), (56, (.int .i64 i125)), (85, v1), (86, (.int .i64 (p0.Lines.length : Int))), (87, (.int .i64 i375)), (103, (.bool (decide ((x403.length : Int) > 0))))]) ⟨rfl, rfl, rfl, rfl, rfl, rfl, rfl, rfl, rfl, rfl, rfl, rfl, rfl, rfl, trivial⟩ ?_
                        subst hq3992
                        refine np_norm (fun a ha => ⟨ha, kp⟩)
                      · rw [if_neg (by rw [t402]; decide)] at hq399
                        refine st_no rfl rfl (by rw [t402]; rfl) (by decide) ?_
                        refine st_no rfl rfl (by rw [t402]; rfl) (by decide) ?_
                        refine st_no rfl rfl (by rw [t402]; rfl) (by decide) ?_
                        refine st_no rfl rfl (by rw [t402]; rfl) (by decide) ?_
                        refine st_no rfl rfl (by rw [t402]; rfl) (by decide) ?_
                        refine st_no rfl rfl (by rw [t402]; rfl) (by decide) ?_
                        refine st_val (ex_pick_f (congrArg (fun b => some (Value.bool b)) t402) rfl) (by decide) trivial ?_
                        have hq3992 := Option.some.inj hq399
                        refine wpF_end (r := [(2, u2), (3, (.pointer (some ⟨b5, 0, none⟩))), (7, v10), (8, v22), (9, (.int .i64 y28)), (10, v73), (13, (.int .i64 i125)), (15, v391), (55, (.int .i64 (x42.length : Int))), (56, (.int .i64 i125)), (85, v1), (86, (.int .i64 (p0.Lines.length : Int))), (87, (.int .i64 i375)), (103, (.bool false))]) ⟨rfl, rfl, rfl, rfl, rfl, rfl, rfl, rfl, rfl, rfl, rfl, rfl, rfl, rfl, trivial⟩ ?_
                        subst hq3992
                        refine np_norm (fun a ha => ⟨ha, kp⟩)
                    rintro a415 w400 ⟨ha, k413⟩
                    have s414 := k413.stp 999 o373
                    replace h372 := h372.stp s414 (by decide) (by decide)
                    replace h11 := h11.stp s414 (by decide) (by decide)
                    replace h13 := h13.stp s414 (by decide) (by decide)
                    replace h60 := h60.stp s414 (by decide) (by decide)
                    replace h74 := h74.stp s414 (by decide) (by decide)
                    replace h6 := h6.stp s414 (by decide)
                    replace hB := hB.stp s414 (by decide)
                    refine wl_of ha ?_
                    refine wpF_end (r := [(2, u2), (3, (.pointer (some ⟨b5, 0, none⟩))), (7, v10), (8, v22), (9, (.int .i64 y28)), (10, v73), (13, (.int .i64 i125)), (15, v391), (55, (.int .i64 (x42.length : Int))), (56, (.int .i64 i125)), (85, v1), (86, (.int .i64 (p0.Lines.length : Int))), (87, (.int .i64 i375)), (103, (.bool q399))]) ⟨rfl, rfl, rfl, rfl, rfl, rfl, rfl, rfl, rfl, rfl, rfl, rfl, rfl, rfl, trivial⟩ ?_
                    refine nx ?_
                    refine wpC_cond rfl (fun t416 => ?_) (fun t416 => ?_)
                    · rw [if_pos t416] at b382
                      obtain ⟨x423, hx423, b382⟩ := bind_some b382
                      obtain ⟨x426, hx426, b382⟩ := bind_some b382
                      obtain ⟨x429, hx429, b382⟩ := bind_some b382
                      obtain ⟨x435, hx435, b382⟩ := bind_some b382
                      obtain ⟨x436, hx436, b382⟩ := bind_some b382
                      refine wpC_drawn (o := o373) [(2, u2), (3, (.pointer (some ⟨b5, 0, none⟩))), (7, v10), (8, v22), (9, (.int .i64 y28)), (10, v73), (13, (.int .i64 i125)), (15, v391), (55, (.int .i64 (x42.length : Int))), (56, (.int .i64 i125)), (85, v1), (86, (.int .i64 (p0.Lines.length : Int))), (87, (.int .i64 i375))] [2, 3, 7, 8, 9, 10, 13, 15, 55, 56, 85, 86, 87] [104, 105, 106, 107, 108, 109, 110, 111, 112, 113, 114, 115, 116, 117, 118, 119, 120, 121] [[], [], [0, 1], [2], [], [], [], [5, 6], [7], [], [8, 9], [10], [], [12], [], [13, 14], [11, 15], [16]] [none, none, none, none, none, none, none, none, none, none, none, none, none, none, none, none, none, none] [999, 999, 999, 999, 999, 999, 999, 999, 999, 999, 999, 999, 999, 999, 999, 999, 999, 999] [0, 0, 0, 0, 0, 0, 0, 0, 0, 0, 15, 0, 0, 0, 0, 0, 0, 0] [999] [fun v _ _ => v = v22, fun v _ _ => v = (.int .i64 y28), fun v _ _ => v = adr v22 (y28.toNat * Rp.sz HRow), fun v _ _ => v = v45, fun v _ _ => v = (.int .i64 i125), fun v _ _ => v = v22, fun v _ _ => v = (.int .i64 y28), fun v _ _ => v = adr v22 (y28.toNat * Rp.sz HRow), fun v _ _ => v = v45, fun v _ _ => v = (.int .i64 i125), fun v o w9 => ∃ vl, v = adr vl (i125.toNat * Rp.sz Int) ∧ Ow w.heap.size 3 15 o w9 vl y371, fun v _ _ => v = (.int .i64 x423), fun v _ _ => v = v391, fun v o w9 => RdL zt w v x426, fun v _ _ => v = v73, fun v _ _ => v = (.int .i64 x429), fun v _ _ => v = (.int .i64 x435), fun v _ _ => v = (.int .i64 x436)] (fun o8 w8 => Bs oo o8 w w8 ∧ Ow w.heap.size 3 15 o8 w8 v45 y371 ∧ Ow w.heap.size 25 12 o8 w8 v10 g12 ∧ Rws w.heap.size 3 13 o8 w8 g12 x8 ∧ Ow w.heap.size 25 14 o8 w8 v22 (hsx x59 y28 v45) ∧ Ow w.heap.size 25 16 o8 w8 v73 y72 ∧ Bx w.heap.size 11 o8 w8 b5 29 [(.int .i64 p0.Labels), (.int .i64 p0.Children), v1]) follows_mixed (by kernel_rfl) rfl ⟨rfl, rfl, rfl, rfl, rfl, rfl, rfl, rfl, rfl, rfl, rfl, rfl, rfl, trivial⟩ ⟨hB, h372, h11, h13, h60, h74, h6⟩ ?_ ⟨st_eq _, st_eq _, st_eq _, st_eq _, st_eq _, st_eq _, st_eq _, st_eq _, st_eq _, st_eq _, fun _ _ _ _ _ _ h0 hb ⟨vl, e, h⟩ hs => ⟨vl, e, h.stp hs h0.1 (Ne.symm hb)⟩, st_eq _, st_eq _, fun _ _ _ _ _ _ h0 hb h hs => h, st_eq _, st_eq _, st_eq _, st_eq _, trivial⟩ ?_ ?_
                      · rintro t9 o1 w1 o2 w2 ht9 ⟨hB, h372, h11, h13, h60, h74, h6⟩ hs9
                        have ht9 : t9 = 999 := by simpa using ht9
                        subst ht9
                        all_goals exact ⟨hB.stp hs9 (by decide), h372.stp hs9 (by decide) (by decide), h11.stp hs9 (by decide) (by decide), h13.stp hs9 (by decide) (by decide), h60.stp hs9 (by decide) (by decide), h74.stp hs9 (by decide) (by decide), h6.stp hs9 (by decide)⟩
                      · refine ⟨?_, ?_, ?_, ?_, ?_, ?_, ?_, ?_, ?_, ?_, ?_, ?_, ?_, ?_, ?_, ?_, ?_, ?_, trivial⟩
                        · rintro o442 w443 a444 ha ⟨hB, h372, h11, h13, h60, h74, h6⟩ -
                          refine opS_of ha (trivial) ?_
                          refine op1_val (ex_move rfl) ?_
                          exact ⟨_, Stp.refl _ _ _, rfl⟩
                        · rintro o445 w446 a447 ha ⟨hB, h372, h11, h13, h60, h74, h6⟩ -
                          refine opS_of ha (trivial) ?_
                          refine op1_val (ex_move rfl) ?_
                          exact ⟨_, Stp.refl _ _ _, rfl⟩
                        · rintro o448 w449 a450 ha ⟨hB, h372, h11, h13, h60, h74, h6⟩ ⟨r451, r452, -⟩
                          have ha := Fr.cons (d := 104) ha r451
                          have ha := Fr.cons (d := 105) ha r452
                          refine opS_of ha (trivial) ?_
                          refine wd_indexW h60 (hsx_at hx59 v45) rfl rfl Try.underlying22 Try.sizeOf25 ?_
                          exact ⟨_, Stp.refl _ _ _, rfl⟩
                        · rintro o453 w454 a455 ha ⟨hB, h372, h11, h13, h60, h74, h6⟩ ⟨r456, -⟩
                          have ha := Fr.cons (d := 106) ha r456
                          refine opS_of ha (trivial) ?_
                          refine wd_load1W h60 (hsx_at hx59 v45) rfl rfl Try.isAgg25 ?_
                          intro c457 h458
                          obtain ⟨e459, -⟩ := h458
                          cases e459
                          exact ⟨_, Stp.refl _ _ _, rfl⟩
                        · rintro o460 w461 a462 ha ⟨hB, h372, h11, h13, h60, h74, h6⟩ -
                          refine opS_of ha (trivial) ?_
                          refine op1_val (ex_move rfl) ?_
                          exact ⟨_, Stp.refl _ _ _, rfl⟩
                        · rintro o463 w464 a465 ha ⟨hB, h372, h11, h13, h60, h74, h6⟩ -
                          refine opS_of ha (trivial) ?_
                          refine op1_val (ex_move rfl) ?_
                          exact ⟨_, Stp.refl _ _ _, rfl⟩
                        · rintro o466 w467 a468 ha ⟨hB, h372, h11, h13, h60, h74, h6⟩ -
                          refine opS_of ha (trivial) ?_
                          refine op1_val (ex_move rfl) ?_
                          exact ⟨_, Stp.refl _ _ _, rfl⟩
                        · rintro o469 w470 a471 ha ⟨hB, h372, h11, h13, h60, h74, h6⟩ ⟨r472, r473, -⟩
                          have ha := Fr.cons (d := 109) ha r472
                          have ha := Fr.cons (d := 110) ha r473
                          refine opS_of ha (trivial) ?_
                          refine wd_indexW h60 (hsx_at hx59 v45) rfl rfl Try.underlying22 Try.sizeOf25 ?_
                          exact ⟨_, Stp.refl _ _ _, rfl⟩
                        · rintro o474 w475 a476 ha ⟨hB, h372, h11, h13, h60, h74, h6⟩ ⟨r477, -⟩
                          have ha := Fr.cons (d := 111) ha r477
                          refine opS_of ha (trivial) ?_
                          refine wd_load1W h60 (hsx_at hx59 v45) rfl rfl Try.isAgg25 ?_
                          intro c478 h479
                          obtain ⟨e480, -⟩ := h479
                          cases e480
                          exact ⟨_, Stp.refl _ _ _, rfl⟩
                        · rintro o481 w482 a483 ha ⟨hB, h372, h11, h13, h60, h74, h6⟩ -
                          refine opS_of ha (trivial) ?_
                          refine op1_val (ex_move rfl) ?_
                          exact ⟨_, Stp.refl _ _ _, rfl⟩
                        · rintro o484 w485 a486 ha ⟨hB, h372, h11, h13, h60, h74, h6⟩ ⟨r487, r488, -⟩
                          have ha := Fr.cons (d := 112) ha r487
                          have ha := Fr.cons (d := 113) ha r488
                          refine opS_of ha (trivial) ?_
                          refine wd_indexW h372 hx423 rfl rfl Try.underlying25 Try.sizeOf3 ?_
                          exact ⟨_, Stp.refl _ _ _, ⟨_, rfl, h372⟩⟩
                        · rintro o489 w490 a491 ha ⟨hB, h372, h11, h13, h60, h74, h6⟩ ⟨r492, -⟩
                          obtain ⟨v493, e494, h495⟩ := r492
                          have ha := Fr.cons (d := 114) ha e494
                          refine opS_of ha (trivial) ?_
                          refine wd_load1W h495 hx423 rfl rfl Try.isAgg3 ?_
                          intro c496 h497
                          cases h497
                          exact ⟨_, Stp.refl _ _ _, rfl⟩
                        · rintro o498 w499 a500 ha ⟨hB, h372, h11, h13, h60, h74, h6⟩ -
                          refine opS_of ha (trivial) ?_
                          refine op1_val (ex_move rfl) ?_
                          exact ⟨_, Stp.refl _ _ _, rfl⟩
                        · rintro o501 w502 a503 ha ⟨hB, h372, h11, h13, h60, h74, h6⟩ ⟨r504, -⟩
                          have ha := Fr.cons (d := 116) ha r504
                          refine opS_of ha (trivial) ?_
                          refine wf_cutZ h392 hx426 rfl rfl rfl Try.underlying25 Try.sizeOf3 ?_
                          intro v505 h506
                          exact ⟨_, Stp.refl _ _ _, h506⟩
                        · rintro o507 w508 a509 ha ⟨hB, h372, h11, h13, h60, h74, h6⟩ -
                          refine opS_of ha (trivial) ?_
                          refine op1_val (ex_move rfl) ?_
                          exact ⟨_, Stp.refl _ _ _, rfl⟩
                        · rintro o510 w511 a512 ha ⟨hB, h372, h11, h13, h60, h74, h6⟩ ⟨r513, r514, -⟩
                          replace r513 : RdL zt w (a512.tmps.getD 117 undef) x426 := r513
                          generalize e516 : a512.tmps.getD 117 undef = v515 at r513
                          have ha := Fr.cons (d := 117) ha e516
                          have ha := Fr.cons (d := 118) ha r514
                          refine opS_of ha (trivial) ?_
                          refine wf_call (cS_roWays fuel w511 _ x426 (r513.keep hB.keeps) _ y72 h74.z x429 hx429) Try.call43 ⟨rfl, rfl, trivial⟩ ?_
                          rintro e521 w517 ⟨rfl, k518⟩
                          have s520 := k518.stp 999 o510
                          refine ⟨_, rfl, ?_⟩
                          replace h372 := h372.stp s520 (by decide) (by decide)
                          replace h11 := h11.stp s520 (by decide) (by decide)
                          replace h13 := h13.stp s520 (by decide) (by decide)
                          replace h60 := h60.stp s520 (by decide) (by decide)
                          replace h74 := h74.stp s520 (by decide) (by decide)
                          replace h6 := h6.stp s520 (by decide)
                          replace hB := hB.stp s520 (by decide)
                          exact ⟨_, s520, rfl⟩
                        · rintro o522 w523 a524 ha ⟨hB, h372, h11, h13, h60, h74, h6⟩ ⟨r525, r526, -⟩
                          have ha := Fr.cons (d := 115) ha r525
                          have ha := Fr.cons (d := 119) ha r526
                          refine opS_of ha (trivial) ?_
                          refine op1_val (ex_add rfl rfl hx435) ?_
                          exact ⟨_, Stp.refl _ _ _, rfl⟩
                        · rintro o527 w528 a529 ha ⟨hB, h372, h11, h13, h60, h74, h6⟩ ⟨r530, -⟩
                          have ha := Fr.cons (d := 120) ha r530
                          refine opS_of ha (trivial) ?_
                          refine wf_call (cS_l1Least w528 x435 1000000000001 x436 hx436) Try.call21 ⟨rfl, rfl, trivial⟩ ?_
                          rintro e535 w531 ⟨rfl, k532⟩
                          have s534 := k532.stp 999 o527
                          refine ⟨_, rfl, ?_⟩
                          replace h372 := h372.stp s534 (by decide) (by decide)
                          replace h11 := h11.stp s534 (by decide) (by decide)
                          replace h13 := h13.stp s534 (by decide) (by decide)
                          replace h60 := h60.stp s534 (by decide) (by decide)
                          replace h74 := h74.stp s534 (by decide) (by decide)
                          replace h6 := h6.stp s534 (by decide)
                          replace hB := hB.stp s534 (by decide)
                          exact ⟨_, s534, rfl⟩
                      rintro o536 w537 a538 ha ⟨hB, h372, h11, h13, h60, h74, h6⟩ ⟨-, -, -, r539, r540, -, -, -, -, -, -, -, -, -, -, -, -, r541, -⟩
                      have ha := Fr.cons (d := 107) ha r539
                      have ha := Fr.cons (d := 108) ha r540
                      have ha := Fr.cons (d := 121) ha r541
                      refine wl_of ha ?_
                      simp only [List.length_cons, List.length_nil, Nat.zero_add, Nat.reduceAdd, List.drop_succ_cons, List.drop_zero]
                      obtain ⟨x542, hx542, b382⟩ := bind_some b382
                      refine st_op (by decide) trivial ?_
                      refine wf_atP h372 hx542 rfl rfl Try.underlying25 Try.sizeOf3 ?_
                      intro b543 c545 h548 h546 h547
                      cases h547
                      obtain ⟨x551, hx551, b382⟩ := bind_some b382
                      refine st_op0 trivial ?_
                      refine wf_storeW h372 h548 hx551 rfl (by decide) rfl rfl rfl Try.sizeOf3 rfl ?_
                      intro w549 h552 s550
                      replace h11 := h11.stp s550 (by decide) (by decide)
                      replace h13 := h13.stp s550 (by decide) (by decide)
                      replace h60 := h60.stp s550 (by decide) (by decide)
                      replace h74 := h74.stp s550 (by decide) (by decide)
                      replace h6 := h6.stp s550 (by decide)
                      replace hB := hB.stp s550 (by decide)
                      refine wpF_end (r := [(2, u2), (3, (.pointer (some ⟨b5, 0, none⟩))), (7, v10), (8, v22), (9, (.int .i64 y28)), (10, v73), (13, (.int .i64 i125)), (55, (.int .i64 (x42.length : Int))), (56, (.int .i64 i125)), (85, v1), (86, (.int .i64 (p0.Lines.length : Int))), (87, (.int .i64 i375))]) ⟨rfl, rfl, rfl, rfl, rfl, rfl, rfl, rfl, rfl, rfl, rfl, rfl, trivial⟩ ?_
                      refine nb_norm ?_
                      refine nx ?_
                      refine wpC_region ?_
                      refine st_val (ex_add rfl rfl (ck_in (by omega) (by omega))) (by decide) trivial ?_
                      refine st_val (ex_move rfl) (by decide) trivial ?_
                      refine wpF_end (r := [(2, u2), (3, (.pointer (some ⟨b5, 0, none⟩))), (7, v10), (8, v22), (9, (.int .i64 y28)), (10, v73), (13, (.int .i64 i125)), (55, (.int .i64 (x42.length : Int))), (56, (.int .i64 i125)), (85, v1), (86, (.int .i64 (p0.Lines.length : Int))), (87, (.int .i64 (i375 + 1)))]) ⟨rfl, rfl, rfl, rfl, rfl, rfl, rfl, rfl, rfl, rfl, rfl, rfl, trivial⟩ ?_
                      refine nt_norm ?_
                      have e553 := Option.some.inj b382
                      subst e553
                      refine to_k (r := [(2, u2), (3, (.pointer (some ⟨b5, 0, none⟩))), (7, v10), (8, v22), (9, (.int .i64 y28)), (10, v73), (13, (.int .i64 i125)), (55, (.int .i64 (x42.length : Int))), (56, (.int .i64 i125)), (85, v1), (86, (.int .i64 (p0.Lines.length : Int))), (87, (.int .i64 (i375 + 1)))]) ⟨rfl, rfl, rfl, rfl, rfl, rfl, rfl, rfl, rfl, rfl, rfl, rfl, trivial⟩ ?_
                      intro a ha
                      exact ⟨_, (by rw [← m379]; simp only [List.length_drop]; omega), i375 + 1, x551, o536, n383, rfl, (by omega), ha, hB, h552, h11, h13, h60, h74, h6⟩
                    · rw [if_neg (by rw [t416]; decide)] at b382
                      refine wpC_skip ?_
                      refine nb_norm ?_
                      refine nx ?_
                      refine wpC_region ?_
                      refine st_val (ex_add rfl rfl (ck_in (by omega) (by omega))) (by decide) trivial ?_
                      refine st_val (ex_move rfl) (by decide) trivial ?_
                      refine wpF_end (r := [(2, u2), (3, (.pointer (some ⟨b5, 0, none⟩))), (7, v10), (8, v22), (9, (.int .i64 y28)), (10, v73), (13, (.int .i64 i125)), (55, (.int .i64 (x42.length : Int))), (56, (.int .i64 i125)), (85, v1), (86, (.int .i64 (p0.Lines.length : Int))), (87, (.int .i64 (i375 + 1)))]) ⟨rfl, rfl, rfl, rfl, rfl, rfl, rfl, rfl, rfl, rfl, rfl, rfl, trivial⟩ ?_
                      refine nt_norm ?_
                      have e554 := Option.some.inj b382
                      subst e554
                      refine to_k (r := [(2, u2), (3, (.pointer (some ⟨b5, 0, none⟩))), (7, v10), (8, v22), (9, (.int .i64 y28)), (10, v73), (13, (.int .i64 i125)), (55, (.int .i64 (x42.length : Int))), (56, (.int .i64 i125)), (85, v1), (86, (.int .i64 (p0.Lines.length : Int))), (87, (.int .i64 (i375 + 1)))]) ⟨rfl, rfl, rfl, rfl, rfl, rfl, rfl, rfl, rfl, rfl, rfl, rfl, trivial⟩ ?_
                      intro a ha
                      exact ⟨_, (by rw [← m379]; simp only [List.length_drop]; omega), i375 + 1, y371, o373, n383, rfl, (by omega), ha, hB, h372, h11, h13, h60, h74, h6⟩
                  · have r555 := forI_done t384 l377
                    refine wp_of ha ?_
                    refine wpC_seq ?_
                    refine wpC_region ?_
                    refine st_val (ex_lss rfl rfl) (by decide) trivial ?_
                    refine wpF_end (r := [(2, u2), (3, (.pointer (some ⟨b5, 0, none⟩))), (7, v10), (8, v22), (9, (.int .i64 y28)), (10, v73), (13, (.int .i64 i125)), (55, (.int .i64 (x42.length : Int))), (56, (.int .i64 i125)), (85, v1), (86, (.int .i64 (p0.Lines.length : Int))), (87, (.int .i64 i375)), (88, (.bool (decide (i375 < (p0.Lines.length : Int)))))]) ⟨rfl, rfl, rfl, rfl, rfl, rfl, rfl, rfl, rfl, rfl, rfl, rfl, rfl, trivial⟩ ?_
                    refine nx ?_
                    refine wpC_seq ?_
                    refine wpC_false (congrArg (fun b => some (Value.bool b)) (decide_eq_false t384)) ?_
                    refine wpC_exit ?_
                    refine nt_exit ?_
                    refine nt_exit ?_
                    refine nb_hit ?_
                    refine np_norm ?_
                    refine to_k (r := [(2, u2), (3, (.pointer (some ⟨b5, 0, none⟩))), (7, v10), (8, v22), (9, (.int .i64 y28)), (10, v73), (55, (.int .i64 (x42.length : Int))), (56, (.int .i64 i125))]) ⟨rfl, rfl, rfl, rfl, rfl, rfl, rfl, rfl, trivial⟩ ?_
                    intro a ha
                    exact ⟨y371, o373, r555, ha, hB, h372, h11, h13, h60, h74, h6⟩
                · rintro a w374 ⟨y371, o373, rfl, ha, hB, h372, h11, h13, h60, h74, h6⟩
                  dsimp only at b134
                  refine ap_k ha ?_
                  refine nb_norm ?_
                  refine nx ?_
                  refine wpC_region ?_
                  refine st_val (ex_add rfl rfl (ck_in (by omega) (by omega))) (by decide) trivial ?_
                  refine st_val (ex_move rfl) (by decide) trivial ?_
                  refine wpF_end (r := [(2, u2), (3, (.pointer (some ⟨b5, 0, none⟩))), (7, v10), (8, v22), (9, (.int .i64 y28)), (10, v73), (55, (.int .i64 (x42.length : Int))), (56, (.int .i64 (i125 + 1)))]) ⟨rfl, rfl, rfl, rfl, rfl, rfl, rfl, rfl, trivial⟩ ?_
                  refine nt_norm ?_
                  have e556 := Option.some.inj b134
                  subst e556
                  refine to_k (r := [(2, u2), (3, (.pointer (some ⟨b5, 0, none⟩))), (7, v10), (8, v22), (9, (.int .i64 y28)), (10, v73), (55, (.int .i64 (x42.length : Int))), (56, (.int .i64 (i125 + 1)))]) ⟨rfl, rfl, rfl, rfl, rfl, rfl, rfl, rfl, trivial⟩ ?_
                  intro a ha
                  exact ⟨_, (by rw [← m131]; omega), i125 + 1, y371, o373, n135, rfl, (by omega), ha, hB, h372, h11, h13, h60, h74, h6⟩
                · exact fun _ _ h => h.elim
          · have r557 := forN_done t136 l129
            refine wp_of ha ?_
            refine wpC_seq ?_
            refine wpC_region ?_
            refine st_val (ex_lss rfl rfl) (by decide) trivial ?_
            refine wpF_end (r := [(2, u2), (3, (.pointer (some ⟨b5, 0, none⟩))), (7, v10), (8, v22), (9, (.int .i64 y28)), (10, v73), (55, (.int .i64 (x42.length : Int))), (56, (.int .i64 i125)), (57, (.bool (decide (i125 < (x42.length : Int)))))]) ⟨rfl, rfl, rfl, rfl, rfl, rfl, rfl, rfl, rfl, trivial⟩ ?_
            refine nx ?_
            refine wpC_seq ?_
            refine wpC_false (congrArg (fun b => some (Value.bool b)) (decide_eq_false t136)) ?_
            refine wpC_exit ?_
            refine nt_exit ?_
            refine nt_exit ?_
            refine nb_hit ?_
            refine np_norm ?_
            refine to_k (r := [(2, u2), (3, (.pointer (some ⟨b5, 0, none⟩))), (7, v10), (8, v22), (9, (.int .i64 y28))]) ⟨rfl, rfl, rfl, rfl, rfl, trivial⟩ ?_
            intro a ha
            exact ⟨y121, o123, r557, ha, hB, h122, h11, h13, h60, h6⟩
        · rintro a w124 ⟨y121, o123, rfl, ha, hB, h122, h11, h13, h60, h6⟩
          dsimp only at b37
          refine ap_k ha ?_
          refine nb_norm ?_
          refine nx ?_
          refine wpC_region ?_
          refine st_val (ex_move rfl) (by decide) trivial ?_
          obtain ⟨x558, hx558, b37⟩ := bind_some b37
          refine st_val (ex_sub rfl rfl hx558) (by decide) trivial ?_
          refine st_val (ex_assign rfl) (by decide) trivial ?_
          refine wpF_end (r := [(2, u2), (3, (.pointer (some ⟨b5, 0, none⟩))), (7, v10), (8, v22), (9, (.int .i64 x558))]) ⟨rfl, rfl, rfl, rfl, rfl, trivial⟩ ?_
          refine nt_norm ?_
          have h559 := h122.frzF
          replace h122 := h122.frz
          replace h11 := h11.frz_ne (j := 15) (by decide)
          replace h13 := h13.frz_ne (j := 15) (by decide)
          replace h60 := h60.frz_ne (j := 15) (by decide)
          replace h6 := h6.frz_ne (j := 15) (by decide)
          replace hB := hB.frz 15 (by decide)
          generalize (frz 15 o123) = o560 at *
          have h561 := Ow.closeH h60 hx59 h122
          have e562 := Option.some.inj b37
          subst e562
          refine to_k (r := [(2, u2), (3, (.pointer (some ⟨b5, 0, none⟩))), (7, v10), (8, v22), (9, (.int .i64 x558))]) ⟨rfl, rfl, rfl, rfl, rfl, trivial⟩ ?_
          intro a ha
          exact ⟨K39, by omega, (x59.set y28.toNat y121), x558, o560, n38, ha, hB, h11, h13, h561, h6⟩
        · exact fun _ _ h => h.elim
      · exact fun _ _ h => h.elim
    · rw [if_neg (by rw [t41]; decide)] at b37
      refine wpC_exit ?_
      refine nt_exit ?_
      refine nt_exit ?_
      refine nb_hit ?_
      refine np_norm ?_
      have e563 := Option.some.inj b37
      subst e563
      refine to_k (r := [(8, v22)]) ⟨rfl, trivial⟩ ?_
      intro a ha
      exact ⟨y26, y28, o29, n38, ha, hB, h27⟩
  · rintro a w30 ⟨y26, y28, o29, rfl, ha, hB, h27⟩
    dsimp only at hF
    refine ap_k ha ?_
    refine nx ?_
    refine wpC_seq ?_
    refine wpC_region ?_
    refine st_val (ex_move rfl) (by decide) trivial ?_
    refine st_val (ex_assign rfl) (by decide) trivial ?_
    refine wpF_end (r := [(6, v22)]) ⟨rfl, trivial⟩ ?_
    refine nx ?_
    refine wpC_ret ?_
    have e564 := Option.some.inj hF
    subst e564
    refine ret_post (P := Try.prog) (vs := [v22]) Try.results19 ⟨rfl, trivial⟩ ?_
    exact ⟨_, rt oo o29 w.heap.size 14 t, rfl, h27.rt hB (by decide) t, hB.keeps, rt_old _ _ _ _ _⟩
  · exact fun _ _ h => h.elim

def fS_CompleteRooted_s3 (i59 : Int) (x129 : List (List Int)) (x145 : List Int) : Int → Int → (List (List Int)) → Option (Lp (List (List Int)) (List (List Int)) ((List Int) × Bool)) := fun (i178 : Int) (x188 : Int) (s : List (List Int)) =>
  (ix (x129.set i59.toNat x145) x188) >>= fun x194 =>
  (push s x194) >>= fun x208 =>
  some (.go x208)
def fS_CompleteRooted_s2 (fuel : Nat) (p0 : T_RootedProblem) (p1 : List Int) (x40 : List (List Int)) (y54 : List Int) (i59 : Int) (x71 : List Int) : ((List (List Int)) × Int × Int) → Option (Lp ((List (List Int)) × Int × Int) ((List (List Int)) × Int × Int) ((List Int) × Bool)) := fun (s : (List (List Int)) × Int × Int) =>
  (
    if decide (s.2.2 < p0.Labels) then
      some (decide (s.2.1 < 0))
    else
      some false) >>= fun q95 =>
  if q95 then
    (ix x71 s.2.2) >>= fun x103 =>
    if x103 == 0 then
      (ck (s.2.2 + 1)) >>= fun x110 =>
      some (.go (s.1, s.2.1, x110))
    else
      (mk (Rz.z : Int) p0.Labels) >>= fun x112 =>
      (ix s.1 i59) >>= fun x118 =>
      (st s.1 i59 x112) >>= fun x129 =>
      (ix x112 s.2.2) >>= fun x136 =>
      (st x112 s.2.2 1) >>= fun x145 =>
      if i59 == 0 then
        (ck (s.2.2 + 1)) >>= fun x148 =>
        some (.go ((x129.set i59.toNat x145), s.2.2, x148))
      else
        (ix p1 i59) >>= fun x153 =>
        (ix x40 x153) >>= fun x159 =>
        (forI (fS_CompleteRooted_s3 i59 x129 x145) x159 0 []) >>= fun q179 =>
        match q179 with
        | .inl y173 =>
          (ix p1 i59) >>= fun x216 =>
          (ix y54 x216) >>= fun x219 =>
          (fS_roMay fuel p0 x219 y173) >>= fun x271 =>
          if x271 then
            (ck (s.2.2 + 1)) >>= fun x278 =>
            some (.go ((x129.set i59.toNat x145), s.2.2, x278))
          else
            (ck (s.2.2 + 1)) >>= fun x280 =>
            some (.go ((x129.set i59.toNat x145), s.2.1, x280))
        | .inr _ => none
  else
    some (.out (s.1, s.2.1, s.2.2))
def fS_CompleteRooted_s1 (fuel : Nat) (p0 : T_RootedProblem) (p1 : List Int) (x40 : List (List Int)) : Int → ((List (List Int)) × (List Int)) → Option (Lp ((List (List Int)) × (List Int)) ((List (List Int)) × (List Int)) ((List Int) × Bool)) := fun (i59 : Int) (s : (List (List Int)) × (List Int)) =>
  (ix s.1 i59) >>= fun x71 =>
  (loopF (fS_CompleteRooted_s2 fuel p0 p1 x40 s.2 i59 x71) fuel (s.1, (-1), 0)) >>= fun q85 =>
  match q85 with
  | .inl (y79, y81, y82) =>
    if decide (y81 < 0) then
      some (.ret ([], false))
    else
      (push s.2 y81) >>= fun x291 =>
      some (.go (y79, x291))
  | .inr _ => none
def fS_CompleteRooted (fuel : Nat) (p0 : T_RootedProblem) (p1 : List Int) (p2 : List Int) : Option ((List Int) × Bool) :=
  (fS_roAsked fuel p0 p1) >>= fun x8 =>
  (
    if !x8 then
      some true
    else
      if (p2.length : Int) != (p1.length : Int) then
        some true
      else
        (ck (p0.Labels - 1)) >>= fun x19 =>
        (fS_l1All p2 (-1) x19) >>= fun x20 =>
        some (!x20)) >>= fun q14 =>
  if q14 then
    some ([], false)
  else
    (fS_roCounts fuel p0 p1 p2) >>= fun x31 =>
    (fS_roBelow p1) >>= fun x40 =>
    ck (p1.length : Int) >>= fun _ =>
    (forN (fS_CompleteRooted_s1 fuel p0 p1 x40) ((p1.length : Int)).toNat 0 (x31, [])) >>= fun q60 =>
    match q60 with
    | .inl (y52, y54) =>
      some (y54, true)
    | .inr r' => some r'

def pS_CompleteRooted (oo : Tg) (t : Nat) (w : World) (r : (List Int) × Bool) : Ending → World → Prop := fun e w' => ∃ (v0 : Value) (o' : Tg), e = .returned (.tuple #[v0, .bool r.2]) ∧ Ow w.heap.size 3 t o' w' v0 r.1 ∧ Keeps w w' ∧ ∀ b, b < w.heap.size → o' b = oo b
set_option maxRecDepth 100000 in
set_option maxHeartbeats 2000000 in
theorem cS_CompleteRooted (fuel : Nat) (w : World) (oo : Tg) (t : Nat) (ht : 2 ≤ t) (u0 : List Value) (p0 : T_RootedProblem) (g0 : Rp.rd zt w u0 p0) (u1 : Value) (p1 : List Int) (g1 : RdL zt w u1 p1) (u2 : Value) (p2 : List Int) (g2 : RdL zt w u2 p2) (r : (List Int) × Bool) (hF : fS_CompleteRooted fuel p0 p1 p2 = some r) :
    Calls Try.prog 12 #[.agg u0.toArray, u1, u2] w (pS_CompleteRooted oo t w r) := by
  unfold fS_CompleteRooted at hF
  obtain ⟨v1, rfl, h2⟩ := g0
  have hB : Bs oo (col oo) w w := Bs.start _ _
  refine calls_start (n := 121) (vs := [(.agg #[(.int .i64 p0.Labels), (.int .i64 p0.Children), v1]), u1, u2]) Try.func12 rfl rfl ?_
  generalize col oo = o at *
  refine wpC_seq ?_
  refine wpC_region ?_
  refine st_op (by decide) trivial ?_
  refine wf_box (o := o) w.heap.size 11 hB.keeps.size (cs := [(.int .i64 p0.Labels), (.int .i64 p0.Children), v1]) rfl rfl ?_
  intro o3 w4 b5 h6 s7
  replace hB := hB.stp s7 (by decide)
  refine st_val (ex_assign rfl) (by decide) trivial ?_
  refine st_val (ex_assign rfl) (by decide) trivial ?_
  refine wpF_end (r := [(1, u1), (2, u2), (3, (.pointer (some ⟨b5, 0, none⟩)))]) ⟨rfl, rfl, rfl, trivial⟩ ?_
  refine nx ?_
  refine wpC_seq ?_
  refine wpC_seq ?_
  refine wpC_region ?_
  refine st_val (ex_loadA rfl Try.isAgg29 Try.sizeOf29 rfl h6.cells) (by decide) trivial ?_
  refine st_val (ex_move rfl) (by decide) trivial ?_
  obtain ⟨x8, hx8, hF⟩ := bind_some hF
  refine st_op (by decide) trivial ?_
  refine wf_call (cS_roAsked fuel w4 _ p0 (⟨_, rfl, (h2.keep hB.keeps)⟩) _ p1 (g1.keep hB.keeps) x8 hx8) Try.call18 ⟨rfl, rfl, trivial⟩ ?_
  rintro e13 w9 ⟨rfl, k10⟩
  have s12 := k10.stp 999 o3
  refine ⟨_, rfl, ?_⟩
  replace h6 := h6.stp s12 (by decide)
  replace hB := hB.stp s12 (by decide)
  refine st_val (ex_not rfl) (by decide) trivial ?_
  refine st_val (ex_move rfl) (by decide) trivial ?_
  obtain ⟨q14, hq14, hF⟩ := bind_some hF
  refine wpF_cutAt 14 (fun a16 w15 => Fr a16 121 [(1, u1), (2, u2), (3, (.pointer (some ⟨b5, 0, none⟩))), (36, (.bool q14))] ∧ Keeps w9 w15) ?_ ?_
  all_goals simp only [List.take_succ_cons, List.take_zero, List.drop_succ_cons, List.drop_zero]
  · have kp : Keeps w9 w9 := Keeps.refl _
    rcases Bool.eq_false_or_eq_true (!x8) with t17 | t17
    · rw [if_pos t17] at hq14
      refine st_no rfl rfl (by rw [t17]; rfl) (by decide) ?_
      refine st_no rfl rfl (by rw [t17]; rfl) (by decide) ?_
      refine st_no rfl rfl (by rw [t17]; rfl) (by decide) ?_
      refine st_no rfl rfl (by rw [t17]; rfl) (by decide) ?_
      refine st_no rfl rfl (by rw [t17]; rfl) (by decide) ?_
      refine st_val (ex_pick_t (congrArg (fun b => some (Value.bool b)) t17) rfl) (by decide) trivial ?_
      refine st_val (ex_move rfl) (by decide) trivial ?_
      refine st_no rfl rfl rfl (by decide) ?_
      refine st_no rfl rfl rfl (by decide) ?_
      refine st_no rfl rfl rfl (by decide) ?_
      refine st_no rfl rfl rfl (by decide) ?_
      refine st_no rfl rfl rfl (by decide) ?_
      refine st_no rfl rfl rfl (by decide) ?_
      refine st_val (ex_pick_t rfl rfl) (by decide) trivial ?_
      have hq142 := Option.some.inj hq14
      refine wpF_end (r := [(1, u1), (2, u2), (3, (.pointer (some ⟨b5, 0, none⟩))), (36, (.bool true))]) ⟨rfl, rfl, rfl, rfl, trivial⟩ ?_
      subst hq142
      refine np_norm (fun a ha => ⟨ha, kp⟩)
    · rw [if_neg (by rw [t17]; decide)] at hq14
      refine st_val (ex_move rfl) (by decide) ⟨_, rfl, (congrArg (fun b => some (Value.bool b)) t17)⟩ ?_
      refine st_val (ex_lenR rfl g2 Try.underlying25) (by decide) ⟨_, rfl, (congrArg (fun b => some (Value.bool b)) t17)⟩ ?_
      refine st_val (ex_move rfl) (by decide) ⟨_, rfl, (congrArg (fun b => some (Value.bool b)) t17)⟩ ?_
      refine st_val (ex_lenR rfl g1 Try.underlying25) (by decide) ⟨_, rfl, (congrArg (fun b => some (Value.bool b)) t17)⟩ ?_
      refine st_val (ex_neq rfl rfl) (by decide) ⟨_, rfl, (congrArg (fun b => some (Value.bool b)) t17)⟩ ?_
      refine st_val (ex_pick_f (congrArg (fun b => some (Value.bool b)) t17) rfl) (by decide) trivial ?_
      refine st_val (ex_move rfl) (by decide) trivial ?_
      rcases Bool.eq_false_or_eq_true ((p2.length : Int) != (p1.length : Int)) with t18 | t18
      · rw [if_pos t18] at hq14
        refine st_no rfl rfl (by rw [t18]; rfl) (by decide) ?_
        refine st_no rfl rfl (by rw [t18]; rfl) (by decide) ?_
        refine st_no rfl rfl (by rw [t18]; rfl) (by decide) ?_
        refine st_no rfl rfl (by rw [t18]; rfl) (by decide) ?_
        refine st_no rfl rfl (by rw [t18]; rfl) (by decide) ?_
        refine st_no rfl rfl (by rw [t18]; rfl) (by decide) ?_
        refine st_val (ex_pick_t (congrArg (fun b => some (Value.bool b)) t18) rfl) (by decide) trivial ?_
        have hq142 := Option.some.inj hq14
        refine wpF_end (r := [(1, u1), (2, u2), (3, (.pointer (some ⟨b5, 0, none⟩))), (36, (.bool true))]) ⟨rfl, rfl, rfl, rfl, trivial⟩ ?_
        subst hq142
        refine np_norm (fun a ha => ⟨ha, kp⟩)
      · rw [if_neg (by rw [t18]; decide)] at hq14
        refine st_val (ex_move rfl) (by decide) ⟨_, rfl, (congrArg (fun b => some (Value.bool b)) t18)⟩ ?_
        refine st_val (ex_field rfl Try.underlying29 rfl Try.sizeOf3) (by decide) ⟨_, rfl, (congrArg (fun b => some (Value.bool b)) t18)⟩ ?_
        refine st_val (ex_load1 rfl Try.isAgg3 (h6.cell rfl)) (by decide) ⟨_, rfl, (congrArg (fun b => some (Value.bool b)) t18)⟩ ?_
        obtain ⟨x19, hx19, hq14⟩ := bind_some hq14
        refine st_val (ex_sub rfl rfl hx19) (by decide) ⟨_, rfl, (congrArg (fun b => some (Value.bool b)) t18)⟩ ?_
        obtain ⟨x20, hx20, hq14⟩ := bind_some hq14
        refine st_op (by decide) ⟨_, rfl, (congrArg (fun b => some (Value.bool b)) t18)⟩ ?_
        refine wf_call (cS_l1All w9 _ p2 (g2.keep hB.keeps) (-1) x19 x20 hx20) Try.call32 ⟨rfl, rfl, rfl, trivial⟩ ?_
        rintro e25 w21 ⟨rfl, k22⟩
        have s24 := k22.stp 999 o3
        refine ⟨_, rfl, ?_⟩
        replace h6 := h6.stp s24 (by decide)
        replace hB := hB.stp s24 (by decide)
        replace kp := Keeps.trans kp k22
        refine st_val (ex_not rfl) (by decide) ⟨_, rfl, (congrArg (fun b => some (Value.bool b)) t18)⟩ ?_
        refine st_val (ex_pick_f (congrArg (fun b => some (Value.bool b)) t18) rfl) (by decide) trivial ?_
        have hq142 := Option.some.inj hq14
        refine wpF_end (r := [(1, u1), (2, u2), (3, (.pointer (some ⟨b5, 0, none⟩))), (36, (.bool (!x20)))]) ⟨rfl, rfl, rfl, rfl, trivial⟩ ?_
        subst hq142
        refine np_norm (fun a ha => ⟨ha, kp⟩)
  rintro a28 w15 ⟨ha, k26⟩
  have s27 := k26.stp 999 o3
  replace h6 := h6.stp s27 (by decide)
  replace hB := hB.stp s27 (by decide)
  refine wl_of ha ?_
  refine wpF_end (r := [(1, u1), (2, u2), (3, (.pointer (some ⟨b5, 0, none⟩))), (36, (.bool q14))]) ⟨rfl, rfl, rfl, rfl, trivial⟩ ?_
  refine nx ?_
  refine wpC_cond rfl (fun t29 => ?_) (fun t29 => ?_)
  · rw [if_pos t29] at hF
    refine wpC_seq ?_
    refine wpC_region ?_
    refine st_val (ex_assign rfl) (by decide) trivial ?_
    refine st_val (ex_assign rfl) (by decide) trivial ?_
    refine wpF_end (r := [(6, (.slice none 0 0)), (7, (.bool false))]) ⟨rfl, rfl, trivial⟩ ?_
    refine nx ?_
    refine wpC_ret ?_
    refine nt_ret ?_
    have e30 := Option.some.inj hF
    subst e30
    refine ret_post (P := Try.prog) (vs := [(.slice none 0 0), (.bool false)]) Try.results12 ⟨rfl, rfl, trivial⟩ ?_
    exact ⟨_, rt oo o3 w.heap.size 9 t, rfl, (Ow.nil _ _ _ _ _), hB.keeps, rt_old _ _ _ _ _⟩
  · rw [if_neg (by rw [t29]; decide)] at hF
    refine wpC_skip ?_
    refine nx ?_
    refine wpC_seq ?_
    refine wpC_region ?_
    refine st_val (ex_loadA rfl Try.isAgg29 Try.sizeOf29 rfl h6.cells) (by decide) trivial ?_
    refine st_val (ex_move rfl) (by decide) trivial ?_
    refine st_val (ex_move rfl) (by decide) trivial ?_
    obtain ⟨x31, hx31, hF⟩ := bind_some hF
    refine st_op (by decide) trivial ?_
    refine wf_call (cS_roCounts fuel w15 o3 14 (by decide) _ p0 (⟨_, rfl, (h2.keep hB.keeps)⟩) _ p1 (g1.keep hB.keeps) _ p2 (g2.keep hB.keeps) x31 hx31) Try.call19 ⟨rfl, rfl, rfl, trivial⟩ ?_
    rintro e38 w32 ⟨v33, o39, rfl, h34, k35, k36⟩
    have s37 := k35.stp' 14 k36
    replace h34 := h34.mono hB.keeps.size
    refine ⟨_, rfl, ?_⟩
    replace h6 := h6.stp s37 (by decide)
    replace hB := hB.stp s37 (by decide)
    refine st_val (ex_assign rfl) (by decide) trivial ?_
    refine wpF_end (r := [(1, u1), (3, (.pointer (some ⟨b5, 0, none⟩))), (8, v33)]) ⟨rfl, rfl, rfl, trivial⟩ ?_
    refine nx ?_
    refine wpC_seq ?_
    refine wpC_region ?_
    refine st_val (ex_move rfl) (by decide) trivial ?_
    obtain ⟨x40, hx40, hF⟩ := bind_some hF
    refine st_op (by decide) trivial ?_
    refine wf_call (cS_roBelow w32 o39 15 (by decide) _ p1 (g1.keep hB.keeps) x40 hx40) Try.call33 ⟨rfl, trivial⟩ ?_
    rintro e49 w41 ⟨v42, g44, o50, rfl, h43, h45, k46, k47⟩
    have s48 := k46.stp' 15 k47
    replace h43 := h43.mono hB.keeps.size
    replace h45 := h45.mono hB.keeps.size
    refine ⟨_, rfl, ?_⟩
    replace h34 := h34.stp s48 (by decide) (by decide)
    replace h6 := h6.stp s48 (by decide)
    replace hB := hB.stp s48 (by decide)
    refine st_val (ex_assign rfl) (by decide) trivial ?_
    refine wpF_end (r := [(1, u1), (3, (.pointer (some ⟨b5, 0, none⟩))), (8, v33), (9, v42)]) ⟨rfl, rfl, rfl, rfl, trivial⟩ ?_
    refine nx ?_
    refine wpC_seq ?_
    refine wpC_region ?_
    refine st_val (ex_assign rfl) (by decide) trivial ?_
    refine wpF_end (r := [(1, u1), (3, (.pointer (some ⟨b5, 0, none⟩))), (8, v33), (9, v42), (10, (.slice none 0 0))]) ⟨rfl, rfl, rfl, rfl, rfl, trivial⟩ ?_
    refine nx ?_
    refine wpC_seq ?_
    refine wpC_seq ?_
    refine wpC_region ?_
    refine st_val (ex_move rfl) (by decide) trivial ?_
    refine st_val (ex_lenR rfl g1 Try.underlying25) (by decide) trivial ?_
    refine st_val (ex_move rfl) (by decide) trivial ?_
    refine wpF_end (r := [(1, u1), (3, (.pointer (some ⟨b5, 0, none⟩))), (8, v33), (9, v42), (10, (.slice none 0 0)), (44, (.int .i64 (p1.length : Int))), (45, (.int .i64 0))]) ⟨rfl, rfl, rfl, rfl, rfl, rfl, rfl, trivial⟩ ?_
    refine nx ?_
    have h51 : Ow w.heap.size 3 17 o50 w41 (.slice none 0 0) ([] : List Int) := Ow.nil _ _ _ _ _
    obtain ⟨u62, h61, hF⟩ := bind_some hF
    obtain ⟨-, h61a, h61b⟩ := ck_some h61
    obtain ⟨q60, hq60, hF⟩ := bind_some hF
    refine wpC_cutN (fun a w58 => ∃ (y52 : List (List Int)) (y54 : List Int) (v55 : Value) (o57 : Tg), q60 = .inl (y52, y54) ∧ Fr a 121 [(10, v55)] ∧ Bs oo o57 w w58 ∧ Ow w.heap.size 3 17 o57 w58 v55 y54) (fun a w' => ∃ r', q60 = .inr r' ∧ bodyPost Try.prog Try.f12 (pS_CompleteRooted oo t w r') .ret a w') ?_ ?_ ?_
    · refine wpC_block ?_
      refine wpC_loop (fun (K : Nat) a w58 => ∃ (i59 : Int) (y52 : List (List Int)) (y54 : List Int) (v55 : Value) (o57 : Tg), forN (fS_CompleteRooted_s1 fuel p0 p1 x40) ((p1.length : Int) - i59).toNat i59 (y52, y54) = some q60 ∧ ((p1.length : Int) - i59).toNat = K ∧ 0 ≤ i59 ∧ Fr a 121 [(1, u1), (3, (.pointer (some ⟨b5, 0, none⟩))), (8, v33), (9, v42), (10, v55), (44, (.int .i64 (p1.length : Int))), (45, (.int .i64 i59))] ∧ Bs oo o57 w w58 ∧ Ow w.heap.size 25 14 o57 w58 v33 y52 ∧ Ow w.heap.size 25 15 o57 w58 v42 g44 ∧ Rws w.heap.size 3 16 o57 w58 g44 x40 ∧ Ow w.heap.size 3 17 o57 w58 v55 y54 ∧ Bx w.heap.size 11 o57 w58 b5 29 [(.int .i64 p0.Labels), (.int .i64 p0.Children), v1]) _ (fun a ha => ⟨0, x31, [], (.slice none 0 0), o50, (by rw [Int.sub_zero]; exact hq60), rfl, Int.le_refl 0, ha.sub (r := [(1, u1), (3, (.pointer (some ⟨b5, 0, none⟩))), (8, v33), (9, v42), (10, (.slice none 0 0)), (44, (.int .i64 (p1.length : Int))), (45, (.int .i64 0))]) ⟨rfl, rfl, rfl, rfl, rfl, rfl, rfl, trivial⟩, hB, h34, h43, h45, h51, h6⟩) ?_
      rintro K66 a w58 ⟨i59, y52, y54, v55, o57, l63, m65, z64, ha, hB, h53, h43, h45, h56, h6⟩
      by_cases t70 : i59 < (p1.length : Int)
      · obtain ⟨q67, b68, n69⟩ := forN_cons t70 l63
        dsimp only [fS_CompleteRooted_s1] at b68
        refine wp_of ha ?_
        refine wpC_seq ?_
        refine wpC_region ?_
        refine st_val (ex_lss rfl rfl) (by decide) trivial ?_
        refine wpF_end (r := [(1, u1), (3, (.pointer (some ⟨b5, 0, none⟩))), (8, v33), (9, v42), (10, v55), (44, (.int .i64 (p1.length : Int))), (45, (.int .i64 i59)), (46, (.bool (decide (i59 < (p1.length : Int)))))]) ⟨rfl, rfl, rfl, rfl, rfl, rfl, rfl, rfl, trivial⟩ ?_
        refine nx ?_
        refine wpC_seq ?_
        refine wpC_true (congrArg (fun b => some (Value.bool b)) (decide_eq_true t70)) ?_
        refine wpC_skip ?_
        refine nx ?_
        refine wpC_seq ?_
        refine wpC_block ?_
        refine wpC_seq ?_
        refine wpC_region ?_
        refine st_val (ex_move rfl) (by decide) trivial ?_
        refine st_val (ex_assign rfl) (by decide) trivial ?_
        refine wpF_end (r := [(1, u1), (3, (.pointer (some ⟨b5, 0, none⟩))), (8, v33), (9, v42), (10, v55), (11, (.int .i64 i59)), (44, (.int .i64 (p1.length : Int))), (45, (.int .i64 i59))]) ⟨rfl, rfl, rfl, rfl, rfl, rfl, rfl, rfl, trivial⟩ ?_
        refine nx ?_
        refine wpC_seq ?_
        refine wpC_region ?_
        refine st_val (ex_move rfl) (by decide) trivial ?_
        refine st_val (ex_move rfl) (by decide) trivial ?_
        obtain ⟨x71, hx71, b68⟩ := bind_some b68
        refine st_op (by decide) trivial ?_
        refine wf_atW h53 hx71 rfl rfl Try.underlying22 Try.sizeOf25 ?_
        intro b72 f73 c74 h75 h76
        obtain ⟨v77, rfl, h78⟩ := h76
        refine st_val (ex_load1 rfl Try.isAgg25 (cell_of_cells h75)) (by decide) trivial ?_
        refine st_val (ex_assign rfl) (by decide) trivial ?_
        refine wpF_end (r := [(1, u1), (3, (.pointer (some ⟨b5, 0, none⟩))), (8, v33), (9, v42), (10, v55), (11, (.int .i64 i59)), (12, v77), (44, (.int .i64 (p1.length : Int))), (45, (.int .i64 i59))]) ⟨rfl, rfl, rfl, rfl, rfl, rfl, rfl, rfl, rfl, trivial⟩ ?_
        refine nx ?_
        refine wpC_seq ?_
        refine wpC_region ?_
        refine st_val (ex_assign rfl) (by decide) trivial ?_
        refine wpF_end (r := [(1, u1), (3, (.pointer (some ⟨b5, 0, none⟩))), (8, v33), (9, v42), (10, v55), (11, (.int .i64 i59)), (12, v77), (13, (.int .i64 (-1))), (44, (.int .i64 (p1.length : Int))), (45, (.int .i64 i59))]) ⟨rfl, rfl, rfl, rfl, rfl, rfl, rfl, rfl, rfl, rfl, trivial⟩ ?_
        refine nx ?_
        refine wpC_seq ?_
        refine wpC_seq ?_
        refine wpC_region ?_
        refine st_val (ex_assign rfl) (by decide) trivial ?_
        refine wpF_end (r := [(1, u1), (3, (.pointer (some ⟨b5, 0, none⟩))), (8, v33), (9, v42), (10, v55), (11, (.int .i64 i59)), (12, v77), (13, (.int .i64 (-1))), (14, (.int .i64 0)), (44, (.int .i64 (p1.length : Int))), (45, (.int .i64 i59))]) ⟨rfl, rfl, rfl, rfl, rfl, rfl, rfl, rfl, rfl, rfl, rfl, trivial⟩ ?_
        refine nx ?_
        obtain ⟨q85, hq85, b68⟩ := bind_some b68
        refine wpC_cutN (fun a w84 => ∃ (y79 : List (List Int)) (y81 : Int) (y82 : Int) (o83 : Tg), q85 = .inl (y79, y81, y82) ∧ Fr a 121 [(1, u1), (3, (.pointer (some ⟨b5, 0, none⟩))), (8, v33), (9, v42), (10, v55), (13, (.int .i64 y81)), (44, (.int .i64 (p1.length : Int))), (45, (.int .i64 i59))] ∧ Bs oo o83 w w84 ∧ Ow w.heap.size 25 14 o83 w84 v33 y79 ∧ Ow w.heap.size 25 15 o83 w84 v42 g44 ∧ Rws w.heap.size 3 16 o83 w84 g44 x40 ∧ Ow w.heap.size 3 17 o83 w84 v55 y54 ∧ Bx w.heap.size 11 o83 w84 b5 29 [(.int .i64 p0.Labels), (.int .i64 p0.Children), v1]) (fun _ _ => False) ?_ ?_ ?_
        · refine wpC_block ?_
          refine wpC_loop (fun (K : Nat) a w84 => ∃ (y79 : List (List Int)) (y81 : Int) (y82 : Int) (o83 : Tg), loopF (fS_CompleteRooted_s2 fuel p0 p1 x40 y54 i59 x71) K (y79, y81, y82) = some q85 ∧ Fr a 121 [(1, u1), (3, (.pointer (some ⟨b5, 0, none⟩))), (8, v33), (9, v42), (10, v55), (11, (.int .i64 i59)), (12, v77), (13, (.int .i64 y81)), (14, (.int .i64 y82)), (44, (.int .i64 (p1.length : Int))), (45, (.int .i64 i59))] ∧ Bs oo o83 w w84 ∧ Ow w.heap.size 25 14 o83 w84 v33 y79 ∧ Ow w.heap.size 25 15 o83 w84 v42 g44 ∧ Rws w.heap.size 3 16 o83 w84 g44 x40 ∧ Ow w.heap.size 3 17 o83 w84 v55 y54 ∧ RdL o83 w84 v77 x71 ∧ Bx w.heap.size 11 o83 w84 b5 29 [(.int .i64 p0.Labels), (.int .i64 p0.Children), v1]) fuel (fun a ha => ⟨y52, (-1), 0, o57, hq85, ha.sub (r := [(1, u1), (3, (.pointer (some ⟨b5, 0, none⟩))), (8, v33), (9, v42), (10, v55), (11, (.int .i64 i59)), (12, v77), (13, (.int .i64 (-1))), (14, (.int .i64 0)), (44, (.int .i64 (p1.length : Int))), (45, (.int .i64 i59))]) ⟨rfl, rfl, rfl, rfl, rfl, rfl, rfl, rfl, rfl, rfl, rfl, trivial⟩, hB, h53, h43, h45, h56, h78, h6⟩) ?_
          rintro K89 a w84 ⟨y79, y81, y82, o83, l86, ha, hB, h80, h43, h45, h56, h78, h6⟩
          obtain ⟨K93, q90, e94, b91, n92⟩ := loopF_cons l86
          dsimp only [fS_CompleteRooted_s2] at b91
          refine wp_of ha ?_
          refine wpC_seq ?_
          refine wpC_seq ?_
          refine wpC_region ?_
          refine st_val (ex_move rfl) (by decide) trivial ?_
          refine st_val (ex_field rfl Try.underlying29 rfl Try.sizeOf3) (by decide) trivial ?_
          refine st_val (ex_load1 rfl Try.isAgg3 (h6.cell rfl)) (by decide) trivial ?_
          refine st_val (ex_lss rfl rfl) (by decide) trivial ?_
          refine st_val (ex_move rfl) (by decide) trivial ?_
          obtain ⟨q95, hq95, b91⟩ := bind_some b91
          refine wpF_cutAt 3 (fun a97 w96 => Fr a97 121 [(1, u1), (3, (.pointer (some ⟨b5, 0, none⟩))), (8, v33), (9, v42), (10, v55), (11, (.int .i64 i59)), (12, v77), (13, (.int .i64 y81)), (14, (.int .i64 y82)), (44, (.int .i64 (p1.length : Int))), (45, (.int .i64 i59)), (59, (.bool q95))] ∧ Keeps w84 w96) ?_ ?_
          all_goals simp only [List.take_succ_cons, List.take_zero, List.drop_succ_cons, List.drop_zero]
          · have kp : Keeps w84 w84 := Keeps.refl _
            rcases Bool.eq_false_or_eq_true (decide (y82 < p0.Labels)) with t98 | t98
            · rw [if_pos t98] at hq95
              refine st_val (ex_move rfl) (by decide) ⟨_, rfl, (congrArg (fun b => some (Value.bool b)) t98)⟩ ?_
              refine st_val (ex_lss rfl rfl) (by decide) ⟨_, rfl, (congrArg (fun b => some (Value.bool b)) t98)⟩ ?_
              refine st_val (ex_pick_t (congrArg (fun b => some (Value.bool b)) t98) rfl) (by decide) trivial ?_
              have hq952 := Option.some.inj hq95
              refine wpF_end (r := [(1, u1), (3, (.pointer (some ⟨b5, 0, none⟩))), (8, v33), (9, v42), (10, v55), (11, (.int .i64 i59)), (12, v77), (13, (.int .i64 y81)), (14, (.int .i64 y82)), (44, (.int .i64 (p1.length : Int))), (45, (.int .i64 i59)), (59, (.bool (decide (y81 < 0))))]) ⟨rfl, rfl, rfl, rfl, rfl, rfl, rfl, rfl, rfl, rfl, rfl, rfl, trivial⟩ ?_
              subst hq952
              refine np_norm (fun a ha => ⟨ha, kp⟩)
            · rw [if_neg (by rw [t98]; decide)] at hq95
              refine st_no rfl rfl (by rw [t98]; rfl) (by decide) ?_
              refine st_no rfl rfl (by rw [t98]; rfl) (by decide) ?_
              refine st_val (ex_pick_f (congrArg (fun b => some (Value.bool b)) t98) rfl) (by decide) trivial ?_
              have hq952 := Option.some.inj hq95
              refine wpF_end (r := [(1, u1), (3, (.pointer (some ⟨b5, 0, none⟩))), (8, v33), (9, v42), (10, v55), (11, (.int .i64 i59)), (12, v77), (13, (.int .i64 y81)), (14, (.int .i64 y82)), (44, (.int .i64 (p1.length : Int))), (45, (.int .i64 i59)), (59, (.bool false))]) ⟨rfl, rfl, rfl, rfl, rfl, rfl, rfl, rfl, rfl, rfl, rfl, rfl, trivial⟩ ?_
              subst hq952
              refine np_norm (fun a ha => ⟨ha, kp⟩)
          rintro a101 w96 ⟨ha, k99⟩
          have s100 := k99.stp 999 o83
          replace h80 := h80.stp s100 (by decide) (by decide)
          replace h43 := h43.stp s100 (by decide) (by decide)
          replace h45 := h45.stp s100 (by decide) (by decide)
          replace h56 := h56.stp s100 (by decide) (by decide)
          replace h78 := h78.stp s100 (by decide)
          replace h6 := h6.stp s100 (by decide)
          replace hB := hB.stp s100 (by decide)
          refine wl_of ha ?_
          refine wpF_end (r := [(1, u1), (3, (.pointer (some ⟨b5, 0, none⟩))), (8, v33), (9, v42), (10, v55), (11, (.int .i64 i59)), (12, v77), (13, (.int .i64 y81)), (14, (.int .i64 y82)), (44, (.int .i64 (p1.length : Int))), (45, (.int .i64 i59)), (59, (.bool q95))]) ⟨rfl, rfl, rfl, rfl, rfl, rfl, rfl, rfl, rfl, rfl, rfl, rfl, trivial⟩ ?_
          refine nx ?_
          refine wpC_cond rfl (fun t102 => ?_) (fun t102 => ?_)
          · rw [if_pos t102] at b91
            refine wpC_skip ?_
            refine nx ?_
            refine wpC_seq ?_
            refine wpC_block ?_
            refine wpC_seq ?_
            refine wpC_seq ?_
            refine wpC_region ?_
            refine st_val (ex_move rfl) (by decide) trivial ?_
            refine st_val (ex_move rfl) (by decide) trivial ?_
            obtain ⟨x103, hx103, b91⟩ := bind_some b91
            refine st_op (by decide) trivial ?_
            refine wf_atO h78 hx103 rfl rfl Try.underlying25 Try.sizeOf3 ?_
            intro b104 f105 c106 h107 h108
            cases h108
            refine st_val (ex_load1 rfl Try.isAgg3 (cell_of_cells h107)) (by decide) trivial ?_
            refine st_val (ex_eql rfl rfl) (by decide) trivial ?_
            refine wpF_end (r := [(1, u1), (3, (.pointer (some ⟨b5, 0, none⟩))), (8, v33), (9, v42), (10, v55), (11, (.int .i64 i59)), (12, v77), (13, (.int .i64 y81)), (14, (.int .i64 y82)), (44, (.int .i64 (p1.length : Int))), (45, (.int .i64 i59)), (66, (.bool (x103 == 0)))]) ⟨rfl, rfl, rfl, rfl, rfl, rfl, rfl, rfl, rfl, rfl, rfl, rfl, trivial⟩ ?_
            refine nx ?_
            refine wpC_cond rfl (fun t109 => ?_) (fun t109 => ?_)
            · rw [if_pos t109] at b91
              refine wpC_exit ?_
              refine nt_exit ?_
              refine nb_hit ?_
              refine nx ?_
              refine wpC_region ?_
              refine st_val (ex_move rfl) (by decide) trivial ?_
              obtain ⟨x110, hx110, b91⟩ := bind_some b91
              refine st_val (ex_add rfl rfl hx110) (by decide) trivial ?_
              refine st_val (ex_assign rfl) (by decide) trivial ?_
              refine wpF_end (r := [(1, u1), (3, (.pointer (some ⟨b5, 0, none⟩))), (8, v33), (9, v42), (10, v55), (11, (.int .i64 i59)), (12, v77), (13, (.int .i64 y81)), (14, (.int .i64 x110)), (44, (.int .i64 (p1.length : Int))), (45, (.int .i64 i59))]) ⟨rfl, rfl, rfl, rfl, rfl, rfl, rfl, rfl, rfl, rfl, rfl, trivial⟩ ?_
              refine nt_norm ?_
              have e111 := Option.some.inj b91
              subst e111
              refine to_k (r := [(1, u1), (3, (.pointer (some ⟨b5, 0, none⟩))), (8, v33), (9, v42), (10, v55), (11, (.int .i64 i59)), (12, v77), (13, (.int .i64 y81)), (14, (.int .i64 x110)), (44, (.int .i64 (p1.length : Int))), (45, (.int .i64 i59))]) ⟨rfl, rfl, rfl, rfl, rfl, rfl, rfl, rfl, rfl, rfl, rfl, trivial⟩ ?_
              intro a ha
              exact ⟨K93, by omega, y79, y81, x110, o83, n92, ha, hB, h80, h43, h45, h56, h78, h6⟩
            · rw [if_neg (by rw [t109]; decide)] at b91
              refine wpC_skip ?_
              refine nx ?_
              refine wpC_seq ?_
              refine wpC_region ?_
              refine st_val (ex_move rfl) (by decide) trivial ?_
              refine st_val (ex_move rfl) (by decide) trivial ?_
              refine st_val (ex_field rfl Try.underlying29 rfl Try.sizeOf3) (by decide) trivial ?_
              refine st_val (ex_load1 rfl Try.isAgg3 (h6.cell rfl)) (by decide) trivial ?_
              obtain ⟨x112, hx112, b91⟩ := bind_some b91
              refine st_op (by decide) trivial ?_
              refine wf_make (o := o83) w.heap.size 18 hB.keeps.size hx112 rfl rfl Try.underlying25 info2_t_int_Rw rfl (by decide) ?_
              intro o113 w114 v115 h116 s117
              replace h80 := h80.stp s117 (by decide) (by decide)
              replace h43 := h43.stp s117 (by decide) (by decide)
              replace h45 := h45.stp s117 (by decide) (by decide)
              replace h56 := h56.stp s117 (by decide) (by decide)
              replace h78 := h78.stp s117 (by decide)
              replace h6 := h6.stp s117 (by decide)
              replace hB := hB.stp s117 (by decide)
              obtain ⟨x118, hx118, b91⟩ := bind_some b91
              refine st_op (by decide) trivial ?_
              refine wf_atP h80 hx118 rfl rfl Try.underlying22 Try.sizeOf25 ?_
              intro b119 c121 h124 h122 h123
              obtain ⟨v125, rfl, h126⟩ := h123
              obtain ⟨x129, hx129, b91⟩ := bind_some b91
              refine st_op0 trivial ?_
              refine wf_storeH h80 h124 hx129 h116 (by decide) rfl rfl Try.sizeOf25 ?_
              intro w127 h130 s128
              replace h43 := h43.stp s128 (by decide) (by decide)
              replace h45 := h45.stp s128 (by decide) (by decide)
              replace h56 := h56.stp s128 (by decide) (by decide)
              replace h78 := h78.stp s128 (by decide)
              replace h116 := h116.stp s128 (by decide) (by decide)
              replace h126 := h126.stp s128 (by decide)
              replace h6 := h6.stp s128 (by decide)
              replace hB := hB.stp s128 (by decide)
              refine wpF_end (r := [(1, u1), (3, (.pointer (some ⟨b5, 0, none⟩))), (8, v33), (9, v42), (10, v55), (11, (.int .i64 i59)), (12, v77), (13, (.int .i64 y81)), (14, (.int .i64 y82)), (44, (.int .i64 (p1.length : Int))), (45, (.int .i64 i59))]) ⟨rfl, rfl, rfl, rfl, rfl, rfl, rfl, rfl, rfl, rfl, rfl, trivial⟩ ?_
              refine nx ?_
              refine wpC_seq ?_
              refine wpC_region ?_
              refine st_val (ex_move rfl) (by decide) trivial ?_
              refine st_val (ex_move rfl) (by decide) trivial ?_
              refine st_op (by decide) trivial ?_
              refine wf_atW h130 (hsx_at hx129 v115) rfl rfl Try.underlying22 Try.sizeOf25 ?_
              intro b131 f132 c133 h134 h135
              obtain ⟨rfl, -⟩ := h135
              refine st_val (ex_load1 rfl Try.isAgg25 (cell_of_cells h134)) (by decide) trivial ?_
              refine st_val (ex_move rfl) (by decide) trivial ?_
              obtain ⟨x136, hx136, b91⟩ := bind_some b91
              refine st_op (by decide) trivial ?_
              refine wf_atP h116 hx136 rfl rfl Try.underlying25 Try.sizeOf3 ?_
              intro b137 c139 h142 h140 h141
              cases h141
              obtain ⟨x145, hx145, b91⟩ := bind_some b91
              refine st_op0 trivial ?_
              refine wf_storeW h116 h142 hx145 rfl (by decide) rfl rfl rfl Try.sizeOf3 rfl ?_
              intro w143 h146 s144
              replace h130 := h130.stp s144 (by decide) (by decide)
              replace h43 := h43.stp s144 (by decide) (by decide)
              replace h45 := h45.stp s144 (by decide) (by decide)
              replace h56 := h56.stp s144 (by decide) (by decide)
              replace h78 := h78.stp s144 (by decide)
              replace h6 := h6.stp s144 (by decide)
              replace hB := hB.stp s144 (by decide)
              refine wpF_end (r := [(1, u1), (3, (.pointer (some ⟨b5, 0, none⟩))), (8, v33), (9, v42), (10, v55), (11, (.int .i64 i59)), (12, v77), (13, (.int .i64 y81)), (14, (.int .i64 y82)), (44, (.int .i64 (p1.length : Int))), (45, (.int .i64 i59))]) ⟨rfl, rfl, rfl, rfl, rfl, rfl, rfl, rfl, rfl, rfl, rfl, trivial⟩ ?_
              refine nx ?_
              refine wpC_seq ?_
              refine wpC_seq ?_
              refine wpC_region ?_
              refine st_val (ex_move rfl) (by decide) trivial ?_
              refine st_val (ex_eql rfl rfl) (by decide) trivial ?_
              refine wpF_end (r := [(1, u1), (3, (.pointer (some ⟨b5, 0, none⟩))), (8, v33), (9, v42), (10, v55), (11, (.int .i64 i59)), (12, v77), (13, (.int .i64 y81)), (14, (.int .i64 y82)), (44, (.int .i64 (p1.length : Int))), (45, (.int .i64 i59)), (80, (.bool (i59 == 0)))]) ⟨rfl, rfl, rfl, rfl, rfl, rfl, rfl, rfl, rfl, rfl, rfl, rfl, trivial⟩ ?_
              refine nx ?_
              refine wpC_cond rfl (fun t147 => ?_) (fun t147 => ?_)
              · rw [if_pos t147] at b91
                refine wpC_seq ?_
                refine wpC_region ?_
                refine st_val (ex_move rfl) (by decide) trivial ?_
                refine st_val (ex_assign rfl) (by decide) trivial ?_
                refine wpF_end (r := [(1, u1), (3, (.pointer (some ⟨b5, 0, none⟩))), (8, v33), (9, v42), (10, v55), (11, (.int .i64 i59)), (12, v77), (13, (.int .i64 y82)), (14, (.int .i64 y82)), (44, (.int .i64 (p1.length : Int))), (45, (.int .i64 i59))]) ⟨rfl, rfl, rfl, rfl, rfl, rfl, rfl, rfl, rfl, rfl, rfl, trivial⟩ ?_
                refine nx ?_
                refine wpC_exit ?_
                refine nt_exit ?_
                refine nb_hit ?_
                refine nx ?_
                refine wpC_region ?_
                refine st_val (ex_move rfl) (by decide) trivial ?_
                obtain ⟨x148, hx148, b91⟩ := bind_some b91
                refine st_val (ex_add rfl rfl hx148) (by decide) trivial ?_
                refine st_val (ex_assign rfl) (by decide) trivial ?_
                refine wpF_end (r := [(1, u1), (3, (.pointer (some ⟨b5, 0, none⟩))), (8, v33), (9, v42), (10, v55), (11, (.int .i64 i59)), (12, v77), (13, (.int .i64 y82)), (14, (.int .i64 x148)), (44, (.int .i64 (p1.length : Int))), (45, (.int .i64 i59))]) ⟨rfl, rfl, rfl, rfl, rfl, rfl, rfl, rfl, rfl, rfl, rfl, trivial⟩ ?_
                refine nt_norm ?_
                have h149 := h146.frzF
                replace h146 := h146.frz
                replace h130 := h130.frz_ne (j := 18) (by decide)
                replace h43 := h43.frz_ne (j := 18) (by decide)
                replace h45 := h45.frz_ne (j := 18) (by decide)
                replace h56 := h56.frz_ne (j := 18) (by decide)
                replace h78 := h78.frz 18
                replace h6 := h6.frz_ne (j := 18) (by decide)
                replace hB := hB.frz 18 (by decide)
                generalize (frz 18 o113) = o150 at *
                have h151 := Ow.closeH h130 hx129 h146
                have e152 := Option.some.inj b91
                subst e152
                refine to_k (r := [(1, u1), (3, (.pointer (some ⟨b5, 0, none⟩))), (8, v33), (9, v42), (10, v55), (11, (.int .i64 i59)), (12, v77), (13, (.int .i64 y82)), (14, (.int .i64 x148)), (44, (.int .i64 (p1.length : Int))), (45, (.int .i64 i59))]) ⟨rfl, rfl, rfl, rfl, rfl, rfl, rfl, rfl, rfl, rfl, rfl, trivial⟩ ?_
                intro a ha
                exact ⟨K93, by omega, (x129.set i59.toNat x145), y82, x148, o150, n92, ha, hB, h151, h43, h45, h56, h78, h6⟩
              · rw [if_neg (by rw [t147]; decide)] at b91
                refine wpC_skip ?_
                refine nx ?_
                refine wpC_seq ?_
                refine wpC_region ?_
                refine st_val (ex_assign rfl) (by decide) trivial ?_
                refine wpF_end (r := [(1, u1), (3, (.pointer (some ⟨b5, 0, none⟩))), (8, v33), (9, v42), (10, v55), (11, (.int .i64 i59)), (12, v77), (13, (.int .i64 y81)), (14, (.int .i64 y82)), (15, (.slice none 0 0)), (44, (.int .i64 (p1.length : Int))), (45, (.int .i64 i59))]) ⟨rfl, rfl, rfl, rfl, rfl, rfl, rfl, rfl, rfl, rfl, rfl, rfl, trivial⟩ ?_
                refine nx ?_
                refine wpC_seq ?_
                refine wpC_seq ?_
                refine wpC_region ?_
                refine st_val (ex_move rfl) (by decide) trivial ?_
                refine st_val (ex_move rfl) (by decide) trivial ?_
                refine st_val (ex_move rfl) (by decide) trivial ?_
                obtain ⟨x153, hx153, b91⟩ := bind_some b91
                refine st_op (by decide) trivial ?_
                refine wf_atZ g1 hx153 hB rfl rfl Try.underlying25 Try.sizeOf3 ?_
                intro b154 f155 c156 h157 h158
                cases h158
                refine st_val (ex_load1 rfl Try.isAgg3 (cell_of_cells h157)) (by decide) trivial ?_
                obtain ⟨x159, hx159, b91⟩ := bind_some b91
                obtain ⟨v160, h161, h162, h163⟩ := h45.ix hx159
                refine st_op (by decide) trivial ?_
                refine wf_atW h43 h161 rfl rfl Try.underlying22 Try.sizeOf25 ?_
                intro b164 f165 c166 h167 h168
                obtain ⟨rfl, -⟩ := h168
                refine st_val (ex_load1 rfl Try.isAgg25 (cell_of_cells h167)) (by decide) trivial ?_
                refine st_val (ex_lenO rfl (h45.at h162 h163) Try.underlying25) (by decide) trivial ?_
                refine st_val (ex_move rfl) (by decide) trivial ?_
                refine wpF_end (r := [(1, u1), (3, (.pointer (some ⟨b5, 0, none⟩))), (8, v33), (9, v42), (10, v55), (11, (.int .i64 i59)), (12, v77), (13, (.int .i64 y81)), (14, (.int .i64 y82)), (15, (.slice none 0 0)), (44, (.int .i64 (p1.length : Int))), (45, (.int .i64 i59)), (88, v160), (89, (.int .i64 (x159.length : Int))), (90, (.int .i64 0))]) ⟨rfl, rfl, rfl, rfl, rfl, rfl, rfl, rfl, rfl, rfl, rfl, rfl, rfl, rfl, rfl, trivial⟩ ?_
                refine nx ?_
                have h169 := h146.frzF
                replace h146 := h146.frz
                replace h130 := h130.frz_ne (j := 18) (by decide)
                replace h43 := h43.frz_ne (j := 18) (by decide)
                replace h45 := h45.frz_ne (j := 18) (by decide)
                replace h56 := h56.frz_ne (j := 18) (by decide)
                replace h78 := h78.frz 18
                replace h6 := h6.frz_ne (j := 18) (by decide)
                replace hB := hB.frz 18 (by decide)
                generalize (frz 18 o113) = o170 at *
                have h171 := Ow.closeH h130 hx129 h146
                have h172 : Ow w.heap.size 25 19 o170 w143 (.slice none 0 0) ([] : List (List Int)) := Ow.nil _ _ _ _ _
                obtain ⟨q179, hq179, b91⟩ := bind_some b91
                refine wpC_cutN (fun a w177 => ∃ (y173 : List (List Int)) (v174 : Value) (o176 : Tg), q179 = .inl y173 ∧ Fr a 121 [(1, u1), (3, (.pointer (some ⟨b5, 0, none⟩))), (8, v33), (9, v42), (10, v55), (11, (.int .i64 i59)), (12, v77), (13, (.int .i64 y81)), (14, (.int .i64 y82)), (15, v174), (44, (.int .i64 (p1.length : Int))), (45, (.int .i64 i59))] ∧ Bs oo o176 w w177 ∧ Ow w.heap.size 25 14 o176 w177 v33 ((x129.set i59.toNat x145) : List (List Int)) ∧ Ow w.heap.size 25 15 o176 w177 v42 g44 ∧ Rws w.heap.size 3 16 o176 w177 g44 x40 ∧ Ow w.heap.size 3 17 o176 w177 v55 y54 ∧ RdL o176 w177 v77 x71 ∧ Ow w.heap.size 25 19 o176 w177 v174 y173 ∧ Bx w.heap.size 11 o176 w177 b5 29 [(.int .i64 p0.Labels), (.int .i64 p0.Children), v1]) (fun _ _ => False) ?_ ?_ ?_
                · refine wpC_block ?_
                  refine wpC_loop (fun (K : Nat) a w177 => ∃ (i178 : Int) (y173 : List (List Int)) (v174 : Value) (o176 : Tg), forI (fS_CompleteRooted_s3 i59 x129 x145) (x159.drop i178.toNat) i178 y173 = some q179 ∧ (x159.drop i178.toNat).length = K ∧ 0 ≤ i178 ∧ Fr a 121 [(1, u1), (3, (.pointer (some ⟨b5, 0, none⟩))), (8, v33), (9, v42), (10, v55), (11, (.int .i64 i59)), (12, v77), (13, (.int .i64 y81)), (14, (.int .i64 y82)), (15, v174), (44, (.int .i64 (p1.length : Int))), (45, (.int .i64 i59)), (88, v160), (89, (.int .i64 (x159.length : Int))), (90, (.int .i64 i178))] ∧ Bs oo o176 w w177 ∧ Ow w.heap.size 25 14 o176 w177 v33 ((x129.set i59.toNat x145) : List (List Int)) ∧ Ow w.heap.size 25 15 o176 w177 v42 g44 ∧ Rws w.heap.size 3 16 o176 w177 g44 x40 ∧ Ow w.heap.size 3 17 o176 w177 v55 y54 ∧ RdL o176 w177 v77 x71 ∧ Ow w.heap.size 25 19 o176 w177 v174 y173 ∧ Bx w.heap.size 11 o176 w177 b5 29 [(.int .i64 p0.Labels), (.int .i64 p0.Children), v1]) _ (fun a ha => ⟨0, [], (.slice none 0 0), o170, hq179, rfl, Int.le_refl 0, ha.sub (r := [(1, u1), (3, (.pointer (some ⟨b5, 0, none⟩))), (8, v33), (9, v42), (10, v55), (11, (.int .i64 i59)), (12, v77), (13, (.int .i64 y81)), (14, (.int .i64 y82)), (15, (.slice none 0 0)), (44, (.int .i64 (p1.length : Int))), (45, (.int .i64 i59)), (88, v160), (89, (.int .i64 (x159.length : Int))), (90, (.int .i64 0))]) ⟨rfl, rfl, rfl, rfl, rfl, rfl, rfl, rfl, rfl, rfl, rfl, rfl, rfl, rfl, rfl, trivial⟩, hB, h171, h43, h45, h56, h78, h172, h6⟩) ?_
                  rintro K183 a w177 ⟨i178, y173, v174, o176, l180, m182, z181, ha, hB, h171, h43, h45, h56, h78, h175, h6⟩
                  by_cases t187 : i178 < (x159.length : Int)
                  · obtain ⟨x188, q184, hx188, b185, n186⟩ := forI_cons z181 t187 l180
                    have hle := (h45.at h162 h163).len_le
                    dsimp only [fS_CompleteRooted_s3] at b185
                    refine wp_of ha ?_
                    refine wpC_seq ?_
                    refine wpC_region ?_
                    refine st_val (ex_lss rfl rfl) (by decide) trivial ?_
                    refine wpF_end (r := [(1, u1), (3, (.pointer (some ⟨b5, 0, none⟩))), (8, v33), (9, v42), (10, v55), (11, (.int .i64 i59)), (12, v77), (13, (.int .i64 y81)), (14, (.int .i64 y82)), (15, v174), (44, (.int .i64 (p1.length : Int))), (45, (.int .i64 i59)), (88, v160), (89, (.int .i64 (x159.length : Int))), (90, (.int .i64 i178)), (91, (.bool (decide (i178 < (x159.length : Int)))))]) ⟨rfl, rfl, rfl, rfl, rfl, rfl, rfl, rfl, rfl, rfl, rfl, rfl, rfl, rfl, rfl, rfl, trivial⟩ ?_
                    refine nx ?_
                    refine wpC_seq ?_
                    refine wpC_true (congrArg (fun b => some (Value.bool b)) (decide_eq_true t187)) ?_
                    refine wpC_skip ?_
                    refine nx ?_
                    refine wpC_seq ?_
                    refine wpC_block ?_
                    refine wpC_seq ?_
                    refine wpC_region ?_
                    refine st_op (by decide) trivial ?_
                    refine wf_atW (h45.at h162 h163) hx188 rfl rfl Try.underlying25 Try.sizeOf3 ?_
                    intro b189 f190 c191 h192 h193
                    cases h193
                    refine st_val (ex_load1 rfl Try.isAgg3 (cell_of_cells h192)) (by decide) trivial ?_
                    refine st_val (ex_assign rfl) (by decide) trivial ?_
                    refine wpF_end (r := [(1, u1), (3, (.pointer (some ⟨b5, 0, none⟩))), (8, v33), (9, v42), (10, v55), (11, (.int .i64 i59)), (12, v77), (13, (.int .i64 y81)), (14, (.int .i64 y82)), (15, v174), (17, (.int .i64 x188)), (44, (.int .i64 (p1.length : Int))), (45, (.int .i64 i59)), (88, v160), (89, (.int .i64 (x159.length : Int))), (90, (.int .i64 i178))]) ⟨rfl, rfl, rfl, rfl, rfl, rfl, rfl, rfl, rfl, rfl, rfl, rfl, rfl, rfl, rfl, rfl, trivial⟩ ?_
                    refine nx ?_
                    refine wpC_region ?_
                    refine st_val (ex_move rfl) (by decide) trivial ?_
                    refine st_val (ex_move rfl) (by decide) trivial ?_
                    refine st_val (ex_move rfl) (by decide) trivial ?_
                    obtain ⟨x194, hx194, b185⟩ := bind_some b185
                    refine st_op (by decide) trivial ?_
                    refine wf_atW h171 hx194 rfl rfl Try.underlying22 Try.sizeOf25 ?_
                    intro b195 f196 c197 h198 h199
                    obtain ⟨v200, rfl, h201⟩ := h199
                    refine st_val (ex_load1 rfl Try.isAgg25 (cell_of_cells h198)) (by decide) trivial ?_
                    refine st_op (by decide) trivial ?_
                    refine wf_litR (o := o176) (cs := [v200]) (xs := ([x194] : List (List Int))) (vs := [(0, v200)]) ⟨_, _, rfl, (rd_list h201), rfl⟩ rfl ⟨rfl, rfl, trivial⟩ Try.underlying22 Try.sizeOf25 Try.zeroValue25 (by decide) (fill1 h201.cells1) (by simp) ?_
                    intro o202 w203 v204 h205 s206 k207
                    replace h171 := h171.stp s206 (by decide) (by decide)
                    replace h43 := h43.stp s206 (by decide) (by decide)
                    replace h45 := h45.stp s206 (by decide) (by decide)
                    replace h56 := h56.stp s206 (by decide) (by decide)
                    replace h78 := h78.stp s206 (by decide)
                    replace h175 := h175.stp s206 (by decide) (by decide)
                    replace h201 := h201.stp s206 (by decide)
                    replace h6 := h6.stp s206 (by decide)
                    replace hB := hB.stp s206 (by decide)
                    obtain ⟨x208, hx208, b185⟩ := bind_some b185
                    refine st_op (by decide) trivial ?_
                    refine wf_cat h175 h205 (push_cat hx208) (by decide) hB.keeps.size rfl rfl Try.underlying22 info2_t_Lint_Rw rfl (by decide) ?_
                    intro o209 w210 v211 h212 s213
                    replace h171 := h171.stp s213 (by decide) (by decide)
                    replace h43 := h43.stp s213 (by decide) (by decide)
                    replace h45 := h45.stp s213 (by decide) (by decide)
                    replace h56 := h56.stp s213 (by decide) (by decide)
                    replace h78 := h78.stp s213 (by decide)
                    replace h201 := h201.stp s213 (by decide)
                    replace h205 := h205.stp s213 (by decide)
                    replace h6 := h6.stp s213 (by decide)
                    replace hB := hB.stp s213 (by decide)
                    refine st_val (ex_assign rfl) (by decide) trivial ?_
                    refine wpF_end (r := [(1, u1), (3, (.pointer (some ⟨b5, 0, none⟩))), (8, v33), (9, v42), (10, v55), (11, (.int .i64 i59)), (12, v77), (13, (.int .i64 y81)), (14, (.int .i64 y82)), (15, v211), (44, (.int .i64 (p1.length : Int))), (45, (.int .i64 i59)), (88, v160), (89, (.int .i64 (x159.length : Int))), (90, (.int .i64 i178))]) ⟨rfl, rfl, rfl, rfl, rfl, rfl, rfl, rfl, rfl, rfl, rfl, rfl, rfl, rfl, rfl, trivial⟩ ?_
                    refine nb_norm ?_
                    refine nx ?_
                    refine wpC_region ?_
                    refine st_val (ex_add rfl rfl (ck_in (by omega) (by omega))) (by decide) trivial ?_
                    refine st_val (ex_move rfl) (by decide) trivial ?_
                    refine wpF_end (r := [(1, u1), (3, (.pointer (some ⟨b5, 0, none⟩))), (8, v33), (9, v42), (10, v55), (11, (.int .i64 i59)), (12, v77), (13, (.int .i64 y81)), (14, (.int .i64 y82)), (15, v211), (44, (.int .i64 (p1.length : Int))), (45, (.int .i64 i59)), (88, v160), (89, (.int .i64 (x159.length : Int))), (90, (.int .i64 (i178 + 1)))]) ⟨rfl, rfl, rfl, rfl, rfl, rfl, rfl, rfl, rfl, rfl, rfl, rfl, rfl, rfl, rfl, trivial⟩ ?_
                    refine nt_norm ?_
                    have e214 := Option.some.inj b185
                    subst e214
                    refine to_k (r := [(1, u1), (3, (.pointer (some ⟨b5, 0, none⟩))), (8, v33), (9, v42), (10, v55), (11, (.int .i64 i59)), (12, v77), (13, (.int .i64 y81)), (14, (.int .i64 y82)), (15, v211), (44, (.int .i64 (p1.length : Int))), (45, (.int .i64 i59)), (88, v160), (89, (.int .i64 (x159.length : Int))), (90, (.int .i64 (i178 + 1)))]) ⟨rfl, rfl, rfl, rfl, rfl, rfl, rfl, rfl, rfl, rfl, rfl, rfl, rfl, rfl, rfl, trivial⟩ ?_
                    intro a ha
                    exact ⟨_, (by rw [← m182]; simp only [List.length_drop]; omega), i178 + 1, x208, v211, o209, n186, rfl, (by omega), ha, hB, h171, h43, h45, h56, h78, h212, h6⟩
                  · have r215 := forI_done t187 l180
                    refine wp_of ha ?_
                    refine wpC_seq ?_
                    refine wpC_region ?_
                    refine st_val (ex_lss rfl rfl) (by decide) trivial ?_
                    refine wpF_end (r := [(1, u1), (3, (.pointer (some ⟨b5, 0, none⟩))), (8, v33), (9, v42), (10, v55), (11, (.int .i64 i59)), (12, v77), (13, (.int .i64 y81)), (14, (.int .i64 y82)), (15, v174), (44, (.int .i64 (p1.length : Int))), (45, (.int .i64 i59)), (88, v160), (89, (.int .i64 (x159.length : Int))), (90, (.int .i64 i178)), (91, (.bool (decide (i178 < (x159.length : Int)))))]) ⟨rfl, rfl, rfl, rfl, rfl, rfl, rfl, rfl, rfl, rfl, rfl, rfl, rfl, rfl, rfl, rfl, trivial⟩ ?_
                    refine nx ?_
                    refine wpC_seq ?_
                    refine wpC_false (congrArg (fun b => some (Value.bool b)) (decide_eq_false t187)) ?_
                    refine wpC_exit ?_
                    refine nt_exit ?_
                    refine nt_exit ?_
                    refine nb_hit ?_
                    refine np_norm ?_
                    refine to_k (r := [(1, u1), (3, (.pointer (some ⟨b5, 0, none⟩))), (8, v33), (9, v42), (10, v55), (11, (.int .i64 i59)), (12, v77), (13, (.int .i64 y81)), (14, (.int .i64 y82)), (15, v174), (44, (.int .i64 (p1.length : Int))), (45, (.int .i64 i59))]) ⟨rfl, rfl, rfl, rfl, rfl, rfl, rfl, rfl, rfl, rfl, rfl, rfl, trivial⟩ ?_
                    intro a ha
                    exact ⟨y173, v174, o176, r215, ha, hB, h171, h43, h45, h56, h78, h175, h6⟩
                · rintro a w177 ⟨y173, v174, o176, rfl, ha, hB, h171, h43, h45, h56, h78, h175, h6⟩
                  dsimp only at b91
                  refine ap_k ha ?_
                  refine nx ?_
                  refine wpC_seq ?_
                  obtain ⟨x216, hx216, b91⟩ := bind_some b91
                  obtain ⟨x219, hx219, b91⟩ := bind_some b91
                  refine wpC_drawn (o := o176) [(1, u1), (3, (.pointer (some ⟨b5, 0, none⟩))), (8, v33), (9, v42), (10, v55), (11, (.int .i64 i59)), (12, v77), (13, (.int .i64 y81)), (14, (.int .i64 y82)), (15, v174), (44, (.int .i64 (p1.length : Int))), (45, (.int .i64 i59))] [1, 3, 8, 9, 10, 11, 12, 13, 14, 15, 44, 45] [102, 103, 104, 105, 106, 107, 108, 109, 110] [[], [], [], [], [2, 3], [4], [1, 5], [6], []] [none, none, none, none, none, none, none, none, none] [999, 999, 999, 999, 999, 999, 999, 999, 999] [0, 0, 0, 0, 0, 0, 17, 0, 0] [999] [fun v _ _ => v = (.agg #[(.int .i64 p0.Labels), (.int .i64 p0.Children), v1]), fun v _ _ => v = v55, fun v _ _ => v = u1, fun v _ _ => v = (.int .i64 i59), fun v o w9 => ∃ vl, v = adr vl (i59.toNat * Rp.sz Int) ∧ RdL zt w vl p1, fun v _ _ => v = (.int .i64 x216), fun v o w9 => ∃ vl, v = adr vl (x216.toNat * Rp.sz Int) ∧ Ow w.heap.size 3 17 o w9 vl y54, fun v _ _ => v = (.int .i64 x219), fun v _ _ => v = v174] (fun o8 w8 => Bs oo o8 w w8 ∧ Ow w.heap.size 25 14 o8 w8 v33 ((x129.set i59.toNat x145) : List (List Int)) ∧ Ow w.heap.size 25 15 o8 w8 v42 g44 ∧ Rws w.heap.size 3 16 o8 w8 g44 x40 ∧ Ow w.heap.size 3 17 o8 w8 v55 y54 ∧ RdL o8 w8 v77 x71 ∧ Ow w.heap.size 25 19 o8 w8 v174 y173 ∧ Bx w.heap.size 11 o8 w8 b5 29 [(.int .i64 p0.Labels), (.int .i64 p0.Children), v1]) follows_mixed (by kernel_rfl) rfl ⟨rfl, rfl, rfl, rfl, rfl, rfl, rfl, rfl, rfl, rfl, rfl, rfl, trivial⟩ ⟨hB, h171, h43, h45, h56, h78, h175, h6⟩ ?_ ⟨st_eq _, st_eq _, st_eq _, st_eq _, fun _ _ _ _ _ _ h0 hb ⟨vl, e, h⟩ hs => ⟨vl, e, h⟩, st_eq _, fun _ _ _ _ _ _ h0 hb ⟨vl, e, h⟩ hs => ⟨vl, e, h.stp hs h0.1 (Ne.symm hb)⟩, st_eq _, st_eq _, trivial⟩ ?_ ?_
                  · rintro t9 o1 w1 o2 w2 ht9 ⟨hB, h171, h43, h45, h56, h78, h175, h6⟩ hs9
                    have ht9 : t9 = 999 := by simpa using ht9
                    subst ht9
                    all_goals exact ⟨hB.stp hs9 (by decide), h171.stp hs9 (by decide) (by decide), h43.stp hs9 (by decide) (by decide), h45.stp hs9 (by decide) (by decide), h56.stp hs9 (by decide) (by decide), h78.stp hs9 (by decide), h175.stp hs9 (by decide) (by decide), h6.stp hs9 (by decide)⟩
                  · refine ⟨?_, ?_, ?_, ?_, ?_, ?_, ?_, ?_, ?_, trivial⟩
                    · rintro o222 w223 a224 ha ⟨hB, h171, h43, h45, h56, h78, h175, h6⟩ -
                      refine opS_of ha (trivial) ?_
                      refine op1_val (ex_loadA rfl Try.isAgg29 Try.sizeOf29 rfl h6.cells) ?_
                      exact ⟨_, Stp.refl _ _ _, rfl⟩
                    · rintro o225 w226 a227 ha ⟨hB, h171, h43, h45, h56, h78, h175, h6⟩ -
                      refine opS_of ha (trivial) ?_
                      refine op1_val (ex_move rfl) ?_
                      exact ⟨_, Stp.refl _ _ _, rfl⟩
                    · rintro o228 w229 a230 ha ⟨hB, h171, h43, h45, h56, h78, h175, h6⟩ -
                      refine opS_of ha (trivial) ?_
                      refine op1_val (ex_move rfl) ?_
                      exact ⟨_, Stp.refl _ _ _, rfl⟩
                    · rintro o231 w232 a233 ha ⟨hB, h171, h43, h45, h56, h78, h175, h6⟩ -
                      refine opS_of ha (trivial) ?_
                      refine op1_val (ex_move rfl) ?_
                      exact ⟨_, Stp.refl _ _ _, rfl⟩
                    · rintro o234 w235 a236 ha ⟨hB, h171, h43, h45, h56, h78, h175, h6⟩ ⟨r237, r238, -⟩
                      have ha := Fr.cons (d := 104) ha r237
                      have ha := Fr.cons (d := 105) ha r238
                      refine opS_of ha (trivial) ?_
                      refine wd_indexR g1 hx216 rfl rfl Try.underlying25 Try.sizeOf3 ?_
                      exact ⟨_, Stp.refl _ _ _, ⟨_, rfl, g1⟩⟩
                    · rintro o239 w240 a241 ha ⟨hB, h171, h43, h45, h56, h78, h175, h6⟩ ⟨r242, -⟩
                      obtain ⟨v243, e244, h245⟩ := r242
                      have ha := Fr.cons (d := 106) ha e244
                      refine opS_of ha (trivial) ?_
                      refine wd_load1Z h245 hx216 hB rfl rfl Try.isAgg3 ?_
                      intro c246 h247
                      cases h247
                      exact ⟨_, Stp.refl _ _ _, rfl⟩
                    · rintro o248 w249 a250 ha ⟨hB, h171, h43, h45, h56, h78, h175, h6⟩ ⟨r251, r252, -⟩
                      have ha := Fr.cons (d := 103) ha r251
                      have ha := Fr.cons (d := 107) ha r252
                      refine opS_of ha (trivial) ?_
                      refine wd_indexW h56 hx219 rfl rfl Try.underlying25 Try.sizeOf3 ?_
                      exact ⟨_, Stp.refl _ _ _, ⟨_, rfl, h56⟩⟩
                    · rintro o253 w254 a255 ha ⟨hB, h171, h43, h45, h56, h78, h175, h6⟩ ⟨r256, -⟩
                      obtain ⟨v257, e258, h259⟩ := r256
                      have ha := Fr.cons (d := 108) ha e258
                      refine opS_of ha (trivial) ?_
                      refine wd_load1W h259 hx219 rfl rfl Try.isAgg3 ?_
                      intro c260 h261
                      cases h261
                      exact ⟨_, Stp.refl _ _ _, rfl⟩
                    · rintro o262 w263 a264 ha ⟨hB, h171, h43, h45, h56, h78, h175, h6⟩ -
                      refine opS_of ha (trivial) ?_
                      refine op1_val (ex_move rfl) ?_
                      exact ⟨_, Stp.refl _ _ _, rfl⟩
                  rintro o265 w266 a267 ha ⟨hB, h171, h43, h45, h56, h78, h175, h6⟩ ⟨r268, -, -, -, -, -, -, r269, r270, -⟩
                  have ha := Fr.cons (d := 102) ha r268
                  have ha := Fr.cons (d := 109) ha r269
                  have ha := Fr.cons (d := 110) ha r270
                  refine wl_of ha ?_
                  simp only [List.length_cons, List.length_nil, Nat.zero_add, Nat.reduceAdd, List.drop_succ_cons, List.drop_zero]
                  obtain ⟨x271, hx271, b91⟩ := bind_some b91
                  refine st_op (by decide) trivial ?_
                  refine wf_call (cS_roMay fuel w266 _ p0 (⟨_, rfl, (h2.keep hB.keeps)⟩) x219 _ y173 h175.z x271 hx271) Try.call34 ⟨rfl, rfl, rfl, trivial⟩ ?_
                  rintro e276 w272 ⟨rfl, k273⟩
                  have s275 := k273.stp 999 o265
                  refine ⟨_, rfl, ?_⟩
                  replace h171 := h171.stp s275 (by decide) (by decide)
                  replace h43 := h43.stp s275 (by decide) (by decide)
                  replace h45 := h45.stp s275 (by decide) (by decide)
                  replace h56 := h56.stp s275 (by decide) (by decide)
                  replace h78 := h78.stp s275 (by decide)
                  replace h175 := h175.stp s275 (by decide) (by decide)
                  replace h6 := h6.stp s275 (by decide)
                  replace hB := hB.stp s275 (by decide)
                  refine wpF_end (r := [(1, u1), (3, (.pointer (some ⟨b5, 0, none⟩))), (8, v33), (9, v42), (10, v55), (11, (.int .i64 i59)), (12, v77), (13, (.int .i64 y81)), (14, (.int .i64 y82)), (44, (.int .i64 (p1.length : Int))), (45, (.int .i64 i59)), (111, (.bool x271))]) ⟨rfl, rfl, rfl, rfl, rfl, rfl, rfl, rfl, rfl, rfl, rfl, rfl, trivial⟩ ?_
                  refine nx ?_
                  refine wpC_cond rfl (fun t277 => ?_) (fun t277 => ?_)
                  · rw [if_pos t277] at b91
                    refine wpC_region ?_
                    refine st_val (ex_move rfl) (by decide) trivial ?_
                    refine st_val (ex_assign rfl) (by decide) trivial ?_
                    refine wpF_end (r := [(1, u1), (3, (.pointer (some ⟨b5, 0, none⟩))), (8, v33), (9, v42), (10, v55), (11, (.int .i64 i59)), (12, v77), (13, (.int .i64 y82)), (14, (.int .i64 y82)), (44, (.int .i64 (p1.length : Int))), (45, (.int .i64 i59))]) ⟨rfl, rfl, rfl, rfl, rfl, rfl, rfl, rfl, rfl, rfl, rfl, trivial⟩ ?_
                    refine nb_norm ?_
                    refine nx ?_
                    refine wpC_region ?_
                    refine st_val (ex_move rfl) (by decide) trivial ?_
                    obtain ⟨x278, hx278, b91⟩ := bind_some b91
                    refine st_val (ex_add rfl rfl hx278) (by decide) trivial ?_
                    refine st_val (ex_assign rfl) (by decide) trivial ?_
                    refine wpF_end (r := [(1, u1), (3, (.pointer (some ⟨b5, 0, none⟩))), (8, v33), (9, v42), (10, v55), (11, (.int .i64 i59)), (12, v77), (13, (.int .i64 y82)), (14, (.int .i64 x278)), (44, (.int .i64 (p1.length : Int))), (45, (.int .i64 i59))]) ⟨rfl, rfl, rfl, rfl, rfl, rfl, rfl, rfl, rfl, rfl, rfl, trivial⟩ ?_
                    refine nt_norm ?_
                    have e279 := Option.some.inj b91
                    subst e279
                    refine to_k (r := [(1, u1), (3, (.pointer (some ⟨b5, 0, none⟩))), (8, v33), (9, v42), (10, v55), (11, (.int .i64 i59)), (12, v77), (13, (.int .i64 y82)), (14, (.int .i64 x278)), (44, (.int .i64 (p1.length : Int))), (45, (.int .i64 i59))]) ⟨rfl, rfl, rfl, rfl, rfl, rfl, rfl, rfl, rfl, rfl, rfl, trivial⟩ ?_
                    intro a ha
                    exact ⟨K93, by omega, (x129.set i59.toNat x145), y82, x278, o265, n92, ha, hB, h171, h43, h45, h56, h78, h6⟩
                  · rw [if_neg (by rw [t277]; decide)] at b91
                    refine wpC_skip ?_
                    refine nb_norm ?_
                    refine nx ?_
                    refine wpC_region ?_
                    refine st_val (ex_move rfl) (by decide) trivial ?_
                    obtain ⟨x280, hx280, b91⟩ := bind_some b91
                    refine st_val (ex_add rfl rfl hx280) (by decide) trivial ?_
                    refine st_val (ex_assign rfl) (by decide) trivial ?_
                    refine wpF_end (r := [(1, u1), (3, (.pointer (some ⟨b5, 0, none⟩))), (8, v33), (9, v42), (10, v55), (11, (.int .i64 i59)), (12, v77), (13, (.int .i64 y81)), (14, (.int .i64 x280)), (44, (.int .i64 (p1.length : Int))), (45, (.int .i64 i59))]) ⟨rfl, rfl, rfl, rfl, rfl, rfl, rfl, rfl, rfl, rfl, rfl, trivial⟩ ?_
                    refine nt_norm ?_
                    have e281 := Option.some.inj b91
                    subst e281
                    refine to_k (r := [(1, u1), (3, (.pointer (some ⟨b5, 0, none⟩))), (8, v33), (9, v42), (10, v55), (11, (.int .i64 i59)), (12, v77), (13, (.int .i64 y81)), (14, (.int .i64 x280)), (44, (.int .i64 (p1.length : Int))), (45, (.int .i64 i59))]) ⟨rfl, rfl, rfl, rfl, rfl, rfl, rfl, rfl, rfl, rfl, rfl, trivial⟩ ?_
                    intro a ha
                    exact ⟨K93, by omega, (x129.set i59.toNat x145), y81, x280, o265, n92, ha, hB, h171, h43, h45, h56, h78, h6⟩
                · exact fun _ _ h => h.elim
          · rw [if_neg (by rw [t102]; decide)] at b91
            refine wpC_exit ?_
            refine nt_exit ?_
            refine nt_exit ?_
            refine nb_hit ?_
            refine np_norm ?_
            have e282 := Option.some.inj b91
            subst e282
            refine to_k (r := [(1, u1), (3, (.pointer (some ⟨b5, 0, none⟩))), (8, v33), (9, v42), (10, v55), (13, (.int .i64 y81)), (44, (.int .i64 (p1.length : Int))), (45, (.int .i64 i59))]) ⟨rfl, rfl, rfl, rfl, rfl, rfl, rfl, rfl, trivial⟩ ?_
            intro a ha
            exact ⟨y79, y81, y82, o83, n92, ha, hB, h80, h43, h45, h56, h6⟩
        · rintro a w84 ⟨y79, y81, y82, o83, rfl, ha, hB, h80, h43, h45, h56, h6⟩
          dsimp only at b68
          refine ap_k ha ?_
          refine nx ?_
          refine wpC_seq ?_
          refine wpC_seq ?_
          refine wpC_region ?_
          refine st_val (ex_move rfl) (by decide) trivial ?_
          refine st_val (ex_lss rfl rfl) (by decide) trivial ?_
          refine wpF_end (r := [(1, u1), (3, (.pointer (some ⟨b5, 0, none⟩))), (8, v33), (9, v42), (10, v55), (13, (.int .i64 y81)), (44, (.int .i64 (p1.length : Int))), (45, (.int .i64 i59)), (114, (.bool (decide (y81 < 0))))]) ⟨rfl, rfl, rfl, rfl, rfl, rfl, rfl, rfl, rfl, trivial⟩ ?_
          refine nx ?_
          refine wpC_cond rfl (fun t283 => ?_) (fun t283 => ?_)
          · rw [if_pos t283] at b68
            refine wpC_seq ?_
            refine wpC_region ?_
            refine st_val (ex_assign rfl) (by decide) trivial ?_
            refine st_val (ex_assign rfl) (by decide) trivial ?_
            refine wpF_end (r := [(6, (.slice none 0 0)), (7, (.bool false))]) ⟨rfl, rfl, trivial⟩ ?_
            refine nx ?_
            refine wpC_ret ?_
            refine nt_ret ?_
            refine nb_ret ?_
            refine nt_ret ?_
            refine nt_ret ?_
            refine nb_ret ?_
            refine np_ret ?_
            have e284 := Option.some.inj b68
            subst e284
            refine fun a ha => ⟨_, n69, ?_⟩
            refine ret_post (P := Try.prog) (vs := [(.slice none 0 0), (.bool false)]) Try.results12 ⟨rfl, rfl, trivial⟩ ?_ a ha
            exact ⟨_, rt oo o83 w.heap.size 9 t, rfl, (Ow.nil _ _ _ _ _), hB.keeps, rt_old _ _ _ _ _⟩
          · rw [if_neg (by rw [t283]; decide)] at b68
            refine wpC_skip ?_
            refine nx ?_
            refine wpC_region ?_
            refine st_val (ex_move rfl) (by decide) trivial ?_
            refine st_val (ex_move rfl) (by decide) trivial ?_
            refine st_op (by decide) trivial ?_
            refine wf_litR (o := o83) (cs := [(.int .i64 y81)]) (xs := ([y81] : List Int)) (vs := [(0, (.int .i64 y81))]) ⟨_, _, rfl, rfl, rfl⟩ rfl ⟨rfl, rfl, trivial⟩ Try.underlying25 Try.sizeOf3 Try.zeroValue3 (by decide) (fill1 rfl) (by simp) ?_
            intro o285 w286 v287 h288 s289 k290
            replace h80 := h80.stp s289 (by decide) (by decide)
            replace h43 := h43.stp s289 (by decide) (by decide)
            replace h45 := h45.stp s289 (by decide) (by decide)
            replace h56 := h56.stp s289 (by decide) (by decide)
            replace h6 := h6.stp s289 (by decide)
            replace hB := hB.stp s289 (by decide)
            obtain ⟨x291, hx291, b68⟩ := bind_some b68
            refine st_op (by decide) trivial ?_
            refine wf_cat h56 h288 (push_cat hx291) (by decide) hB.keeps.size rfl rfl Try.underlying25 info2_t_int_Rw rfl (by decide) ?_
            intro o292 w293 v294 h295 s296
            replace h80 := h80.stp s296 (by decide) (by decide)
            replace h43 := h43.stp s296 (by decide) (by decide)
            replace h45 := h45.stp s296 (by decide) (by decide)
            replace h288 := h288.stp s296 (by decide)
            replace h6 := h6.stp s296 (by decide)
            replace hB := hB.stp s296 (by decide)
            refine st_val (ex_assign rfl) (by decide) trivial ?_
            refine wpF_end (r := [(1, u1), (3, (.pointer (some ⟨b5, 0, none⟩))), (8, v33), (9, v42), (10, v294), (44, (.int .i64 (p1.length : Int))), (45, (.int .i64 i59))]) ⟨rfl, rfl, rfl, rfl, rfl, rfl, rfl, trivial⟩ ?_
            refine nb_norm ?_
            refine nx ?_
            refine wpC_region ?_
            refine st_val (ex_add rfl rfl (ck_in (by omega) (by omega))) (by decide) trivial ?_
            refine st_val (ex_move rfl) (by decide) trivial ?_
            refine wpF_end (r := [(1, u1), (3, (.pointer (some ⟨b5, 0, none⟩))), (8, v33), (9, v42), (10, v294), (44, (.int .i64 (p1.length : Int))), (45, (.int .i64 (i59 + 1)))]) ⟨rfl, rfl, rfl, rfl, rfl, rfl, rfl, trivial⟩ ?_
            refine nt_norm ?_
            have e297 := Option.some.inj b68
            subst e297
            refine to_k (r := [(1, u1), (3, (.pointer (some ⟨b5, 0, none⟩))), (8, v33), (9, v42), (10, v294), (44, (.int .i64 (p1.length : Int))), (45, (.int .i64 (i59 + 1)))]) ⟨rfl, rfl, rfl, rfl, rfl, rfl, rfl, trivial⟩ ?_
            intro a ha
            exact ⟨_, (by rw [← m65]; omega), i59 + 1, y79, x291, v294, o292, n69, rfl, (by omega), ha, hB, h80, h43, h45, h295, h6⟩
        · exact fun _ _ h => h.elim
      · have r298 := forN_done t70 l63
        refine wp_of ha ?_
        refine wpC_seq ?_
        refine wpC_region ?_
        refine st_val (ex_lss rfl rfl) (by decide) trivial ?_
        refine wpF_end (r := [(1, u1), (3, (.pointer (some ⟨b5, 0, none⟩))), (8, v33), (9, v42), (10, v55), (44, (.int .i64 (p1.length : Int))), (45, (.int .i64 i59)), (46, (.bool (decide (i59 < (p1.length : Int)))))]) ⟨rfl, rfl, rfl, rfl, rfl, rfl, rfl, rfl, trivial⟩ ?_
        refine nx ?_
        refine wpC_seq ?_
        refine wpC_false (congrArg (fun b => some (Value.bool b)) (decide_eq_false t70)) ?_
        refine wpC_exit ?_
        refine nt_exit ?_
        refine nt_exit ?_
        refine nb_hit ?_
        refine np_norm ?_
        refine to_k (r := [(10, v55)]) ⟨rfl, trivial⟩ ?_
        intro a ha
        exact ⟨y52, y54, v55, o57, r298, ha, hB, h56⟩
    · rintro a w58 ⟨y52, y54, v55, o57, rfl, ha, hB, h56⟩
      dsimp only at hF
      refine ap_k ha ?_
      refine nx ?_
      refine wpC_seq ?_
      refine wpC_region ?_
      refine st_val (ex_move rfl) (by decide) trivial ?_
      refine st_val (ex_assign rfl) (by decide) trivial ?_
      refine st_val (ex_assign rfl) (by decide) trivial ?_
      refine wpF_end (r := [(6, v55), (7, (.bool true))]) ⟨rfl, rfl, trivial⟩ ?_
      refine nx ?_
      refine wpC_ret ?_
      have e299 := Option.some.inj hF
      subst e299
      refine ret_post (P := Try.prog) (vs := [v55, (.bool true)]) Try.results12 ⟨rfl, rfl, trivial⟩ ?_
      exact ⟨_, rt oo o57 w.heap.size 17 t, rfl, h56.rt hB (by decide) t, hB.keeps, rt_old _ _ _ _ _⟩
    · rintro a w58 ⟨r', rfl, b300⟩
      dsimp only at hF
      have e301 := Option.some.inj hF
      subst e301
      exact b300
open Go.RowKit
theorem info2_t_int_Csc : Inf Try.prog 3 (.int .i64 0) 1 8 := by unfold Inf; kernel_rfl

def fS_roFree_s1 : Int → (List Int) → Option (Lp (List Int) (List Int) (List Int)) := fun (i11 : Int) (s : List Int) =>
  (ix s i11) >>= fun x23 =>
  (st s i11 (-1)) >>= fun x32 =>
  some (.go x32)
def fS_roFree (p0 : Int) : Option (List Int) :=
  (mk (Rz.z : Int) p0) >>= fun x1 =>
  ck (x1.length : Int) >>= fun _ =>
  (forN (fS_roFree_s1) ((x1.length : Int)).toNat 0 x1) >>= fun q12 =>
  match q12 with
  | .inl y7 =>
    some y7
  | .inr _ => none

def pS_roFree (oo : Tg) (t : Nat) (w : World) (r : List Int) : Ending → World → Prop := fun e w' => ∃ (v0 : Value) (o' : Tg), e = .returned (v0) ∧ Ow w.heap.size 3 t o' w' v0 r ∧ Keeps w w' ∧ ∀ b, b < w.heap.size → o' b = oo b
set_option maxRecDepth 100000 in
set_option maxHeartbeats 2000000 in
theorem cS_roFree (w : World) (oo : Tg) (t : Nat) (ht : 2 ≤ t) (p0 : Int) (r : List Int) (hF : fS_roFree p0 = some r) :
    Calls Try.prog 20 #[.int .i64 p0] w (pS_roFree oo t w r) := by
  unfold fS_roFree at hF
  have hB : Bs oo (col oo) w w := Bs.start _ _
  refine calls_start (n := 17) (vs := [(.int .i64 p0)]) Try.func20 rfl rfl ?_
  generalize col oo = o at *
  refine wpC_seq ?_
  refine wpC_region ?_
  refine st_val (ex_assign rfl) (by decide) trivial ?_
  refine wpF_end (r := [(0, (.int .i64 p0))]) ⟨rfl, trivial⟩ ?_
  refine nx ?_
  refine wpC_seq ?_
  refine wpC_region ?_
  refine st_val (ex_move rfl) (by decide) trivial ?_
  obtain ⟨x1, hx1, hF⟩ := bind_some hF
  refine st_op (by decide) trivial ?_
  refine wf_make (o := o) w.heap.size 11 hB.keeps.size hx1 rfl rfl Try.underlying25 info2_t_int_Csc rfl (by decide) ?_
  intro o2 w3 v4 h5 s6
  replace hB := hB.stp s6 (by decide)
  refine st_val (ex_assign rfl) (by decide) trivial ?_
  refine wpF_end (r := [(3, v4)]) ⟨rfl, trivial⟩ ?_
  refine nx ?_
  refine wpC_seq ?_
  refine wpC_seq ?_
  refine wpC_region ?_
  refine st_val (ex_move rfl) (by decide) trivial ?_
  refine st_val (ex_lenO rfl h5 Try.underlying25) (by decide) trivial ?_
  refine st_val (ex_move rfl) (by decide) trivial ?_
  refine wpF_end (r := [(3, v4), (8, (.int .i64 (x1.length : Int))), (9, (.int .i64 0))]) ⟨rfl, rfl, rfl, trivial⟩ ?_
  refine nx ?_
  obtain ⟨u14, h13, hF⟩ := bind_some hF
  obtain ⟨-, h13a, h13b⟩ := ck_some h13
  obtain ⟨q12, hq12, hF⟩ := bind_some hF
  refine wpC_cutN (fun a w10 => ∃ (y7 : List Int) (o9 : Tg), q12 = .inl y7 ∧ Fr a 17 [(3, v4)] ∧ Bs oo o9 w w10 ∧ Ow w.heap.size 3 11 o9 w10 v4 y7) (fun _ _ => False) ?_ ?_ ?_
  · refine wpC_block ?_
    refine wpC_loop (fun (K : Nat) a w10 => ∃ (i11 : Int) (y7 : List Int) (o9 : Tg), forN (fS_roFree_s1) ((x1.length : Int) - i11).toNat i11 y7 = some q12 ∧ ((x1.length : Int) - i11).toNat = K ∧ 0 ≤ i11 ∧ Fr a 17 [(3, v4), (8, (.int .i64 (x1.length : Int))), (9, (.int .i64 i11))] ∧ Bs oo o9 w w10 ∧ Ow w.heap.size 3 11 o9 w10 v4 y7) _ (fun a ha => ⟨0, x1, o2, (by rw [Int.sub_zero]; exact hq12), rfl, Int.le_refl 0, ha.sub (r := [(3, v4), (8, (.int .i64 (x1.length : Int))), (9, (.int .i64 0))]) ⟨rfl, rfl, rfl, trivial⟩, hB, h5⟩) ?_
    rintro K18 a w10 ⟨i11, y7, o9, l15, m17, z16, ha, hB, h8⟩
    by_cases t22 : i11 < (x1.length : Int)
    · obtain ⟨q19, b20, n21⟩ := forN_cons t22 l15
      dsimp only [fS_roFree_s1] at b20
      refine wp_of ha ?_
      refine wpC_seq ?_
      refine wpC_region ?_
      refine st_val (ex_lss rfl rfl) (by decide) trivial ?_
      refine wpF_end (r := [(3, v4), (8, (.int .i64 (x1.length : Int))), (9, (.int .i64 i11)), (10, (.bool (decide (i11 < (x1.length : Int)))))]) ⟨rfl, rfl, rfl, rfl, trivial⟩ ?_
      refine nx ?_
      refine wpC_seq ?_
      refine wpC_true (congrArg (fun b => some (Value.bool b)) (decide_eq_true t22)) ?_
      refine wpC_skip ?_
      refine nx ?_
      refine wpC_seq ?_
      refine wpC_block ?_
      refine wpC_seq ?_
      refine wpC_region ?_
      refine st_val (ex_move rfl) (by decide) trivial ?_
      refine st_val (ex_assign rfl) (by decide) trivial ?_
      refine wpF_end (r := [(3, v4), (4, (.int .i64 i11)), (8, (.int .i64 (x1.length : Int))), (9, (.int .i64 i11))]) ⟨rfl, rfl, rfl, rfl, trivial⟩ ?_
      refine nx ?_
      refine wpC_region ?_
      refine st_val (ex_move rfl) (by decide) trivial ?_
      refine st_val (ex_move rfl) (by decide) trivial ?_
      obtain ⟨x23, hx23, b20⟩ := bind_some b20
      refine st_op (by decide) trivial ?_
      refine wf_atP h8 hx23 rfl rfl Try.underlying25 Try.sizeOf3 ?_
      intro b24 c26 h29 h27 h28
      cases h28
      obtain ⟨x32, hx32, b20⟩ := bind_some b20
      refine st_op0 trivial ?_
      refine wf_storeW h8 h29 hx32 rfl (by decide) rfl rfl rfl Try.sizeOf3 rfl ?_
      intro w30 h33 s31
      replace hB := hB.stp s31 (by decide)
      refine wpF_end (r := [(3, v4), (8, (.int .i64 (x1.length : Int))), (9, (.int .i64 i11))]) ⟨rfl, rfl, rfl, trivial⟩ ?_
      refine nb_norm ?_
      refine nx ?_
      refine wpC_region ?_
      refine st_val (ex_add rfl rfl (ck_in (by omega) (by omega))) (by decide) trivial ?_
      refine st_val (ex_move rfl) (by decide) trivial ?_
      refine wpF_end (r := [(3, v4), (8, (.int .i64 (x1.length : Int))), (9, (.int .i64 (i11 + 1)))]) ⟨rfl, rfl, rfl, trivial⟩ ?_
      refine nt_norm ?_
      have e34 := Option.some.inj b20
      subst e34
      refine to_k (r := [(3, v4), (8, (.int .i64 (x1.length : Int))), (9, (.int .i64 (i11 + 1)))]) ⟨rfl, rfl, rfl, trivial⟩ ?_
      intro a ha
      exact ⟨_, (by rw [← m17]; omega), i11 + 1, x32, o9, n21, rfl, (by omega), ha, hB, h33⟩
    · have r35 := forN_done t22 l15
      refine wp_of ha ?_
      refine wpC_seq ?_
      refine wpC_region ?_
      refine st_val (ex_lss rfl rfl) (by decide) trivial ?_
      refine wpF_end (r := [(3, v4), (8, (.int .i64 (x1.length : Int))), (9, (.int .i64 i11)), (10, (.bool (decide (i11 < (x1.length : Int)))))]) ⟨rfl, rfl, rfl, rfl, trivial⟩ ?_
      refine nx ?_
      refine wpC_seq ?_
      refine wpC_false (congrArg (fun b => some (Value.bool b)) (decide_eq_false t22)) ?_
      refine wpC_exit ?_
      refine nt_exit ?_
      refine nt_exit ?_
      refine nb_hit ?_
      refine np_norm ?_
      refine to_k (r := [(3, v4)]) ⟨rfl, trivial⟩ ?_
      intro a ha
      exact ⟨y7, o9, r35, ha, hB, h8⟩
  · rintro a w10 ⟨y7, o9, rfl, ha, hB, h8⟩
    dsimp only at hF
    refine ap_k ha ?_
    refine nx ?_
    refine wpC_seq ?_
    refine wpC_region ?_
    refine st_val (ex_move rfl) (by decide) trivial ?_
    refine st_val (ex_assign rfl) (by decide) trivial ?_
    refine wpF_end (r := [(2, v4)]) ⟨rfl, trivial⟩ ?_
    refine nx ?_
    refine wpC_ret ?_
    have e36 := Option.some.inj hF
    subst e36
    refine ret_post (P := Try.prog) (vs := [v4]) Try.results20 ⟨rfl, trivial⟩ ?_
    exact ⟨_, rt oo o9 w.heap.size 11 t, rfl, h8.rt hB (by decide) t, hB.keeps, rt_old _ _ _ _ _⟩
  · exact fun _ _ h => h.elim

def fS_CountRootedSolutions_s1 : Int → Int → Int → Option (Lp Int Int (Int × Bool)) := fun (i119 : Int) (x129 : Int) (s : Int) =>
  (ck (s + x129)) >>= fun x135 =>
  (fS_l1Least x135 1000000000001) >>= fun x136 =>
  some (.go x136)
def fS_CountRootedSolutions (fuel : Nat) (p0 : T_RootedProblem) (p1 : List Int) : Option (Int × Bool) :=
  (fS_roAsked fuel p0 p1) >>= fun x8 =>
  if !x8 then
    some (0, false)
  else
    (fS_roFree (p1.length : Int)) >>= fun x16 =>
    (fS_roCounts fuel p0 p1 x16) >>= fun x25 =>
    (ix x25 0) >>= fun x34 =>
    (forI (fS_CountRootedSolutions_s1) x34 0 0) >>= fun q120 =>
    match q120 with
    | .inl y116 =>
      if decide (y116 > 1000000000000) then
        some (0, false)
      else
        some (y116, true)
    | .inr _ => none

def pS_CountRootedSolutions (w : World) (r : Int × Bool) : Ending → World → Prop := fun e w' => e = .returned (.tuple #[.int .i64 r.1, .bool r.2]) ∧ Keeps w w'
set_option maxRecDepth 100000 in
set_option maxHeartbeats 2000000 in
theorem cS_CountRootedSolutions (fuel : Nat) (w : World) (u0 : List Value) (p0 : T_RootedProblem) (g0 : Rp.rd zt w u0 p0) (u1 : Value) (p1 : List Int) (g1 : RdL zt w u1 p1) (r : Int × Bool) (hF : fS_CountRootedSolutions fuel p0 p1 = some r) :
    Calls Try.prog 6 #[.agg u0.toArray, u1] w (pS_CountRootedSolutions w r) := by
  unfold fS_CountRootedSolutions at hF
  obtain ⟨v1, rfl, h2⟩ := g0
  have hB : Bs (fun _ => 1) (col (fun _ => 1)) w w := Bs.start _ _
  refine calls_start (n := 34) (vs := [(.agg #[(.int .i64 p0.Labels), (.int .i64 p0.Children), v1]), u1]) Try.func6 rfl rfl ?_
  refine wpC_seq ?_
  refine wpC_region ?_
  refine st_op (by decide) trivial ?_
  refine wf_box (o := (col (fun _ => 1))) w.heap.size 11 hB.keeps.size (cs := [(.int .i64 p0.Labels), (.int .i64 p0.Children), v1]) rfl rfl ?_
  intro o3 w4 b5 h6 s7
  replace hB := hB.stp s7 (by decide)
  refine st_val (ex_assign rfl) (by decide) trivial ?_
  refine st_val (ex_assign rfl) (by decide) trivial ?_
  refine wpF_end (r := [(1, u1), (2, (.pointer (some ⟨b5, 0, none⟩)))]) ⟨rfl, rfl, trivial⟩ ?_
  refine nx ?_
  refine wpC_seq ?_
  refine wpC_seq ?_
  refine wpC_region ?_
  refine st_val (ex_loadA rfl Try.isAgg29 Try.sizeOf29 rfl h6.cells) (by decide) trivial ?_
  refine st_val (ex_move rfl) (by decide) trivial ?_
  obtain ⟨x8, hx8, hF⟩ := bind_some hF
  refine st_op (by decide) trivial ?_
  refine wf_call (cS_roAsked fuel w4 _ p0 (⟨_, rfl, (h2.keep hB.keeps)⟩) _ p1 (g1.keep hB.keeps) x8 hx8) Try.call18 ⟨rfl, rfl, trivial⟩ ?_
  rintro e13 w9 ⟨rfl, k10⟩
  have s12 := k10.stp 999 o3
  refine ⟨_, rfl, ?_⟩
  replace h6 := h6.stp s12 (by decide)
  replace hB := hB.stp s12 (by decide)
  refine st_val (ex_not rfl) (by decide) trivial ?_
  refine wpF_end (r := [(1, u1), (2, (.pointer (some ⟨b5, 0, none⟩))), (12, (.bool (!x8)))]) ⟨rfl, rfl, rfl, trivial⟩ ?_
  refine nx ?_
  refine wpC_cond rfl (fun t14 => ?_) (fun t14 => ?_)
  · rw [if_pos t14] at hF
    refine wpC_seq ?_
    refine wpC_region ?_
    refine st_val (ex_assign rfl) (by decide) trivial ?_
    refine st_val (ex_assign rfl) (by decide) trivial ?_
    refine wpF_end (r := [(4, (.int .i64 0)), (5, (.bool false))]) ⟨rfl, rfl, trivial⟩ ?_
    refine nx ?_
    refine wpC_ret ?_
    refine nt_ret ?_
    have e15 := Option.some.inj hF
    subst e15
    refine ret_post (P := Try.prog) (vs := [(.int .i64 0), (.bool false)]) Try.results6 ⟨rfl, rfl, trivial⟩ ?_
    exact ⟨rfl, hB.keeps⟩
  · rw [if_neg (by rw [t14]; decide)] at hF
    refine wpC_skip ?_
    refine nx ?_
    refine wpC_seq ?_
    refine wpC_region ?_
    refine st_val (ex_assign rfl) (by decide) trivial ?_
    refine wpF_end (r := [(1, u1), (2, (.pointer (some ⟨b5, 0, none⟩))), (6, (.int .i64 0))]) ⟨rfl, rfl, rfl, trivial⟩ ?_
    refine nx ?_
    refine wpC_seq ?_
    refine wpC_seq ?_
    obtain ⟨x16, hx16, hF⟩ := bind_some hF
    obtain ⟨x25, hx25, hF⟩ := bind_some hF
    obtain ⟨x34, hx34, hF⟩ := bind_some hF
    refine wpC_drawn (o := o3) [(1, u1), (2, (.pointer (some ⟨b5, 0, none⟩))), (6, (.int .i64 0))] [1, 2, 6] [13, 14, 15, 16, 17, 18, 19, 20, 21, 22] [[], [], [], [2], [3], [0, 1, 4], [5], [6], [7], []] [none, none, none, none, none, none, none, none, none, none] [999, 999, 999, 999, 999, 999, 999, 999, 999, 999] [0, 0, 0, 0, 13, 14, 14, 0, 0, 0] [999] [fun v _ _ => v = (.agg #[(.int .i64 p0.Labels), (.int .i64 p0.Children), v1]), fun v _ _ => v = u1, fun v _ _ => v = u1, fun v _ _ => v = (.int .i64 (p1.length : Int)), fun v o w9 => Ow w.heap.size 3 13 o w9 v x16, fun v o w9 => Ow w.heap.size 25 14 o w9 v x25, fun v o w9 => ∃ vl, v = adr vl ((0 : Int).toNat * Rp.sz (List Int)) ∧ Ow w.heap.size 25 14 o w9 vl x25, fun v o w9 => RdL o w9 v x34, fun v _ _ => v = (.int .i64 (x34.length : Int)), fun v _ _ => v = (.int .i64 0)] (fun o8 w8 => Bs (fun _ => 1) o8 w w8 ∧ Bx w.heap.size 11 o8 w8 b5 29 [(.int .i64 p0.Labels), (.int .i64 p0.Children), v1]) follows_mixed (by kernel_rfl) rfl ⟨rfl, rfl, rfl, trivial⟩ ⟨hB, h6⟩ ?_ ⟨st_eq _, st_eq _, st_eq _, st_eq _, fun _ _ _ _ _ _ h0 hb h hs => h.stp hs h0.1 (Ne.symm hb), fun _ _ _ _ _ _ h0 hb h hs => h.stp hs h0.1 (Ne.symm hb), fun _ _ _ _ _ _ h0 hb ⟨vl, e, h⟩ hs => ⟨vl, e, h.stp hs h0.1 (Ne.symm hb)⟩, fun _ _ _ _ _ _ h0 hb h hs => h.stp hs h0.1, st_eq _, st_eq _, trivial⟩ ?_ ?_
    · rintro t9 o1 w1 o2 w2 ht9 ⟨hB, h6⟩ hs9
      have ht9 : t9 = 999 := by simpa using ht9
      subst ht9
      all_goals exact ⟨hB.stp hs9 (by decide), h6.stp hs9 (by decide)⟩
    · refine ⟨?_, ?_, ?_, ?_, ?_, ?_, ?_, ?_, ?_, ?_, trivial⟩
      · rintro o40 w41 a42 ha ⟨hB, h6⟩ -
        refine opS_of ha (trivial) ?_
        refine op1_val (ex_loadA rfl Try.isAgg29 Try.sizeOf29 rfl h6.cells) ?_
        exact ⟨_, Stp.refl _ _ _, rfl⟩
      · rintro o43 w44 a45 ha ⟨hB, h6⟩ -
        refine opS_of ha (trivial) ?_
        refine op1_val (ex_move rfl) ?_
        exact ⟨_, Stp.refl _ _ _, rfl⟩
      · rintro o46 w47 a48 ha ⟨hB, h6⟩ -
        refine opS_of ha (trivial) ?_
        refine op1_val (ex_move rfl) ?_
        exact ⟨_, Stp.refl _ _ _, rfl⟩
      · rintro o49 w50 a51 ha ⟨hB, h6⟩ ⟨r52, -⟩
        have ha := Fr.cons (d := 15) ha r52
        refine opS_of ha (trivial) ?_
        refine op1_val (ex_lenR rfl g1 Try.underlying25) ?_
        exact ⟨_, Stp.refl _ _ _, rfl⟩
      · rintro o53 w54 a55 ha ⟨hB, h6⟩ ⟨r56, -⟩
        have ha := Fr.cons (d := 16) ha r56
        refine opS_of ha (trivial) ?_
        refine wf_call (cS_roFree w54 o53 13 (by decide) (p1.length : Int) x16 hx16) Try.call20 ⟨rfl, trivial⟩ ?_
        rintro e63 w57 ⟨v58, o64, rfl, h59, k60, k61⟩
        have s62 := k60.stp' 999 k61
        replace h59 := h59.mono hB.keeps.size
        refine ⟨_, rfl, ?_⟩
        replace h6 := h6.stp s62 (by decide)
        replace hB := hB.stp s62 (by decide)
        exact ⟨_, s62, h59⟩
      · rintro o65 w66 a67 ha ⟨hB, h6⟩ ⟨r68, r69, r70, -⟩
        have ha := Fr.cons (d := 13) ha r68
        have ha := Fr.cons (d := 14) ha r69
        replace r70 : Ow w.heap.size 3 13 o65 w66 (a67.tmps.getD 17 undef) x16 := r70
        generalize e72 : a67.tmps.getD 17 undef = v71 at r70
        have ha := Fr.cons (d := 17) ha e72
        refine opS_of ha (trivial) ?_
        refine wf_call (cS_roCounts fuel w66 o65 14 (by decide) _ p0 (⟨_, rfl, (h2.keep hB.keeps)⟩) _ p1 (g1.keep hB.keeps) _ x16 r70.z x25 hx25) Try.call19 ⟨rfl, rfl, rfl, trivial⟩ ?_
        rintro e79 w73 ⟨v74, o80, rfl, h75, k76, k77⟩
        have s78 := k76.stp' 999 k77
        replace h75 := h75.mono hB.keeps.size
        refine ⟨_, rfl, ?_⟩
        replace r70 := r70.stp s78 (by decide) (by decide)
        replace h6 := h6.stp s78 (by decide)
        replace hB := hB.stp s78 (by decide)
        exact ⟨_, s78, h75⟩
      · rintro o81 w82 a83 ha ⟨hB, h6⟩ ⟨r84, -⟩
        replace r84 : Ow w.heap.size 25 14 o81 w82 (a83.tmps.getD 18 undef) x25 := r84
        generalize e86 : a83.tmps.getD 18 undef = v85 at r84
        have ha := Fr.cons (d := 18) ha e86
        refine opS_of ha (trivial) ?_
        refine wd_indexW r84 hx34 rfl rfl Try.underlying22 Try.sizeOf25 ?_
        exact ⟨_, Stp.refl _ _ _, ⟨_, rfl, r84⟩⟩
      · rintro o87 w88 a89 ha ⟨hB, h6⟩ ⟨r90, -⟩
        obtain ⟨v91, e92, h93⟩ := r90
        have ha := Fr.cons (d := 19) ha e92
        refine opS_of ha (trivial) ?_
        refine wd_load1W h93 hx34 rfl rfl Try.isAgg25 ?_
        intro c94 h95
        obtain ⟨v96, e98, h97⟩ := h95
        cases e98
        exact ⟨_, Stp.refl _ _ _, h97⟩
      · rintro o99 w100 a101 ha ⟨hB, h6⟩ ⟨r102, -⟩
        replace r102 : RdL o99 w100 (a101.tmps.getD 20 undef) x34 := r102
        generalize e104 : a101.tmps.getD 20 undef = v103 at r102
        have ha := Fr.cons (d := 20) ha e104
        refine opS_of ha (trivial) ?_
        refine op1_val (ex_lenR rfl r102 Try.underlying25) ?_
        exact ⟨_, Stp.refl _ _ _, rfl⟩
      · rintro o105 w106 a107 ha ⟨hB, h6⟩ -
        refine opS_of ha (trivial) ?_
        refine op1_val (ex_move rfl) ?_
        exact ⟨_, Stp.refl _ _ _, rfl⟩
    rintro o108 w109 a110 ha ⟨hB, h6⟩ ⟨-, -, -, -, -, -, -, r111, r112, r113, -⟩
    replace r111 : RdL o108 w109 (a110.tmps.getD 20 undef) x34 := r111
    generalize e115 : a110.tmps.getD 20 undef = v114 at r111
    have ha := Fr.cons (d := 20) ha e115
    have ha := Fr.cons (d := 21) ha r112
    have ha := Fr.cons (d := 22) ha r113
    refine wl_of ha ?_
    simp only [List.length_cons, List.length_nil, Nat.zero_add, Nat.reduceAdd, List.drop_succ_cons, List.drop_zero]
    refine wpF_end (r := [(6, (.int .i64 0)), (20, v114), (21, (.int .i64 (x34.length : Int))), (22, (.int .i64 0))]) ⟨rfl, rfl, rfl, rfl, trivial⟩ ?_
    refine nx ?_
    obtain ⟨q120, hq120, hF⟩ := bind_some hF
    refine wpC_cutN (fun a w118 => ∃ (y116 : Int) (o117 : Tg), q120 = .inl y116 ∧ Fr a 34 [(6, (.int .i64 y116))] ∧ Bs (fun _ => 1) o117 w w118) (fun _ _ => False) ?_ ?_ ?_
    · refine wpC_block ?_
      refine wpC_loop (fun (K : Nat) a w118 => ∃ (i119 : Int) (y116 : Int) (o117 : Tg), forI (fS_CountRootedSolutions_s1) (x34.drop i119.toNat) i119 y116 = some q120 ∧ (x34.drop i119.toNat).length = K ∧ 0 ≤ i119 ∧ Fr a 34 [(6, (.int .i64 y116)), (20, v114), (21, (.int .i64 (x34.length : Int))), (22, (.int .i64 i119))] ∧ Bs (fun _ => 1) o117 w w118 ∧ RdL o117 w118 v114 x34) _ (fun a ha => ⟨0, 0, o108, hq120, rfl, Int.le_refl 0, ha.sub (r := [(6, (.int .i64 0)), (20, v114), (21, (.int .i64 (x34.length : Int))), (22, (.int .i64 0))]) ⟨rfl, rfl, rfl, rfl, trivial⟩, hB, r111⟩) ?_
      rintro K124 a w118 ⟨i119, y116, o117, l121, m123, z122, ha, hB, r111⟩
      by_cases t128 : i119 < (x34.length : Int)
      · obtain ⟨x129, q125, hx129, b126, n127⟩ := forI_cons z122 t128 l121
        have hle := r111.len_le
        dsimp only [fS_CountRootedSolutions_s1] at b126
        refine wp_of ha ?_
        refine wpC_seq ?_
        refine wpC_region ?_
        refine st_val (ex_lss rfl rfl) (by decide) trivial ?_
        refine wpF_end (r := [(6, (.int .i64 y116)), (20, v114), (21, (.int .i64 (x34.length : Int))), (22, (.int .i64 i119)), (23, (.bool (decide (i119 < (x34.length : Int)))))]) ⟨rfl, rfl, rfl, rfl, rfl, trivial⟩ ?_
        refine nx ?_
        refine wpC_seq ?_
        refine wpC_true (congrArg (fun b => some (Value.bool b)) (decide_eq_true t128)) ?_
        refine wpC_skip ?_
        refine nx ?_
        refine wpC_seq ?_
        refine wpC_block ?_
        refine wpC_seq ?_
        refine wpC_region ?_
        refine st_op (by decide) trivial ?_
        refine wf_atO r111 hx129 rfl rfl Try.underlying25 Try.sizeOf3 ?_
        intro b130 f131 c132 h133 h134
        cases h134
        refine st_val (ex_load1 rfl Try.isAgg3 (cell_of_cells h133)) (by decide) trivial ?_
        refine st_val (ex_assign rfl) (by decide) trivial ?_
        refine wpF_end (r := [(6, (.int .i64 y116)), (8, (.int .i64 x129)), (20, v114), (21, (.int .i64 (x34.length : Int))), (22, (.int .i64 i119))]) ⟨rfl, rfl, rfl, rfl, rfl, trivial⟩ ?_
        refine nx ?_
        refine wpC_region ?_
        refine st_val (ex_move rfl) (by decide) trivial ?_
        refine st_val (ex_move rfl) (by decide) trivial ?_
        obtain ⟨x135, hx135, b126⟩ := bind_some b126
        refine st_val (ex_add rfl rfl hx135) (by decide) trivial ?_
        obtain ⟨x136, hx136, b126⟩ := bind_some b126
        refine st_op (by decide) trivial ?_
        refine wf_call (cS_l1Least w118 x135 1000000000001 x136 hx136) Try.call21 ⟨rfl, rfl, trivial⟩ ?_
        rintro e141 w137 ⟨rfl, k138⟩
        have s140 := k138.stp 999 o117
        refine ⟨_, rfl, ?_⟩
        replace r111 := r111.stp s140 (by decide)
        replace hB := hB.stp s140 (by decide)
        refine st_val (ex_assign rfl) (by decide) trivial ?_
        refine wpF_end (r := [(6, (.int .i64 x136)), (20, v114), (21, (.int .i64 (x34.length : Int))), (22, (.int .i64 i119))]) ⟨rfl, rfl, rfl, rfl, trivial⟩ ?_
        refine nb_norm ?_
        refine nx ?_
        refine wpC_region ?_
        refine st_val (ex_add rfl rfl (ck_in (by omega) (by omega))) (by decide) trivial ?_
        refine st_val (ex_move rfl) (by decide) trivial ?_
        refine wpF_end (r := [(6, (.int .i64 x136)), (20, v114), (21, (.int .i64 (x34.length : Int))), (22, (.int .i64 (i119 + 1)))]) ⟨rfl, rfl, rfl, rfl, trivial⟩ ?_
        refine nt_norm ?_
        have e142 := Option.some.inj b126
        subst e142
        refine to_k (r := [(6, (.int .i64 x136)), (20, v114), (21, (.int .i64 (x34.length : Int))), (22, (.int .i64 (i119 + 1)))]) ⟨rfl, rfl, rfl, rfl, trivial⟩ ?_
        intro a ha
        exact ⟨_, (by rw [← m123]; simp only [List.length_drop]; omega), i119 + 1, x136, o117, n127, rfl, (by omega), ha, hB, r111⟩
      · have r143 := forI_done t128 l121
        refine wp_of ha ?_
        refine wpC_seq ?_
        refine wpC_region ?_
        refine st_val (ex_lss rfl rfl) (by decide) trivial ?_
        refine wpF_end (r := [(6, (.int .i64 y116)), (20, v114), (21, (.int .i64 (x34.length : Int))), (22, (.int .i64 i119)), (23, (.bool (decide (i119 < (x34.length : Int)))))]) ⟨rfl, rfl, rfl, rfl, rfl, trivial⟩ ?_
        refine nx ?_
        refine wpC_seq ?_
        refine wpC_false (congrArg (fun b => some (Value.bool b)) (decide_eq_false t128)) ?_
        refine wpC_exit ?_
        refine nt_exit ?_
        refine nt_exit ?_
        refine nb_hit ?_
        refine np_norm ?_
        refine to_k (r := [(6, (.int .i64 y116))]) ⟨rfl, trivial⟩ ?_
        intro a ha
        exact ⟨y116, o117, r143, ha, hB⟩
    · rintro a w118 ⟨y116, o117, rfl, ha, hB⟩
      dsimp only at hF
      refine ap_k ha ?_
      refine nx ?_
      refine wpC_seq ?_
      refine wpC_seq ?_
      refine wpC_region ?_
      refine st_val (ex_move rfl) (by decide) trivial ?_
      refine st_val (ex_gtr rfl rfl) (by decide) trivial ?_
      refine wpF_end (r := [(6, (.int .i64 y116)), (32, (.bool (decide (y116 > 1000000000000))))]) ⟨rfl, rfl, trivial⟩ ?_
      refine nx ?_
      refine wpC_cond rfl (fun t144 => ?_) (fun t144 => ?_)
      · rw [if_pos t144] at hF
        refine wpC_seq ?_
        refine wpC_region ?_
        refine st_val (ex_assign rfl) (by decide) trivial ?_
        refine st_val (ex_assign rfl) (by decide) trivial ?_
        refine wpF_end (r := [(4, (.int .i64 0)), (5, (.bool false))]) ⟨rfl, rfl, trivial⟩ ?_
        refine nx ?_
        refine wpC_ret ?_
        refine nt_ret ?_
        have e145 := Option.some.inj hF
        subst e145
        refine ret_post (P := Try.prog) (vs := [(.int .i64 0), (.bool false)]) Try.results6 ⟨rfl, rfl, trivial⟩ ?_
        exact ⟨rfl, hB.keeps⟩
      · rw [if_neg (by rw [t144]; decide)] at hF
        refine wpC_skip ?_
        refine nx ?_
        refine wpC_seq ?_
        refine wpC_region ?_
        refine st_val (ex_move rfl) (by decide) trivial ?_
        refine st_val (ex_assign rfl) (by decide) trivial ?_
        refine st_val (ex_assign rfl) (by decide) trivial ?_
        refine wpF_end (r := [(4, (.int .i64 y116)), (5, (.bool true))]) ⟨rfl, rfl, trivial⟩ ?_
        refine nx ?_
        refine wpC_ret ?_
        have e146 := Option.some.inj hF
        subst e146
        refine ret_post (P := Try.prog) (vs := [(.int .i64 y116), (.bool true)]) Try.results6 ⟨rfl, rfl, trivial⟩ ?_
        exact ⟨rfl, hB.keeps⟩
    · exact fun _ _ h => h.elim
end Go.Proofs.Ytjmhjobfiemmnaa
