/- spec.roGood, spec.IsRootedProblem, (impl.RootedProblem).hasLabels, impl.IsRootedProblem: plain functions, and the walks that show that the program computes them (printed by gen.py). -/
import Derived.Test.YtjmhjobfiemmnaaGA
namespace Go.Proofs.Ytjmhjobfiemmnaa
open Go.RowKit
set_option linter.unusedSimpArgs false
set_option linter.unusedVariables false

def fS_roGood_s1 (fuel : Nat) (p0 : T_RootedProblem) : Int → (List Int) → Unit → Option (Lp Unit Unit Bool) := fun (i31 : Int) (x41 : List Int) (s : Unit) =>
  (
    (ck (p0.Children + 1)) >>= fun x53 =>
    if (x41.length : Int) != x53 then
      some true
    else
      (ck (p0.Labels - 1)) >>= fun x200 =>
      (fS_l1All x41 0 x200) >>= fun x201 =>
      if !x201 then
        some true
      else
        (cut x41 1 x41.length) >>= fun x363 =>
        (cut x41 1 x41.length) >>= fun x366 =>
        (fS_prSorted fuel x366) >>= fun x369 =>
        (fS_l1Same x363 x369) >>= fun x378 =>
        if !x378 then
          some true
        else
          if decide (i31 > 0) then
            (ck (i31 - 1)) >>= fun x570 =>
            (ix p0.Lines x570) >>= fun x571 =>
            (fS_prOrder x571 x41) >>= fun x777 =>
            some (decide (x777 ≥ 0))
          else
            some false) >>= fun q49 =>
  if q49 then
    some (.ret false)
  else
    some (.go ())
def fS_roGood (fuel : Nat) (p0 : T_RootedProblem) : Option Bool :=
  (fS_l1In p0.Labels 1 8) >>= fun x8 =>
  (
    if !x8 then
      some true
    else
      (fS_l1In p0.Children 1 3) >>= fun x18 =>
      some (!x18)) >>= fun q14 =>
  if q14 then
    some false
  else
    (forI (fS_roGood_s1 fuel p0) p0.Lines 0 ()) >>= fun q32 =>
    match q32 with
    | .inl _ =>
      some true
    | .inr r' => some r'

def pS_roGood (w : World) (r : Bool) : Ending → World → Prop := fun e w' => e = .returned (.bool r) ∧ Keeps w w'
set_option maxRecDepth 100000 in
set_option maxHeartbeats 2000000 in
theorem cS_roGood (fuel : Nat) (w : World) (u0 : List Value) (p0 : T_RootedProblem) (g0 : Rp.rd zt w u0 p0) (r : Bool) (hF : fS_roGood fuel p0 = some r) :
    Calls Try.prog 41 #[.agg u0.toArray] w (pS_roGood w r) := by
  unfold fS_roGood at hF
  obtain ⟨v1, rfl, h2⟩ := g0
  have hB : Bs (fun _ => 1) (col (fun _ => 1)) w w := Bs.start _ _
  refine calls_start (n := 62) (vs := [(.agg #[(.int .i64 p0.Labels), (.int .i64 p0.Children), v1])]) Try.func41 rfl rfl ?_
  refine wpC_seq ?_
  refine wpC_region ?_
  refine st_op (by decide) trivial ?_
  refine wf_box (o := (col (fun _ => 1))) w.heap.size 11 hB.keeps.size (cs := [(.int .i64 p0.Labels), (.int .i64 p0.Children), v1]) rfl rfl ?_
  intro o3 w4 b5 h6 s7
  replace hB := hB.stp s7 (by decide)
  refine st_val (ex_assign rfl) (by decide) trivial ?_
  refine wpF_end (r := [(1, (.pointer (some ⟨b5, 0, none⟩)))]) ⟨rfl, trivial⟩ ?_
  refine nx ?_
  refine wpC_seq ?_
  refine wpC_seq ?_
  refine wpC_region ?_
  refine st_val (ex_field rfl Try.underlying29 rfl Try.sizeOf3) (by decide) trivial ?_
  refine st_val (ex_load1 rfl Try.isAgg3 (h6.cell rfl)) (by decide) trivial ?_
  obtain ⟨x8, hx8, hF⟩ := bind_some hF
  refine st_op (by decide) trivial ?_
  refine wf_call (cS_l1In w4 p0.Labels 1 8 x8 hx8) Try.call52 ⟨rfl, rfl, rfl, trivial⟩ ?_
  rintro e13 w9 ⟨rfl, k10⟩
  have s12 := k10.stp 999 o3
  refine ⟨_, rfl, ?_⟩
  replace h6 := h6.stp s12 (by decide)
  replace hB := hB.stp s12 (by decide)
  refine st_val (ex_not rfl) (by decide) trivial ?_
  refine st_val (ex_move rfl) (by decide) trivial ?_
  obtain ⟨q14, hq14, hF⟩ := bind_some hF
  refine wpF_cutAt 5 (fun a16 w15 => Fr a16 62 [(1, (.pointer (some ⟨b5, 0, none⟩))), (14, (.bool q14))] ∧ Keeps w9 w15) ?_ ?_
  all_goals simp only [List.take_succ_cons, List.take_zero, List.drop_succ_cons, List.drop_zero]
  · have kp : Keeps w9 w9 := Keeps.refl _
    rcases Bool.eq_false_or_eq_true (!x8) with t17 | t17
    · rw [if_pos t17] at hq14
      refine st_no rfl rfl (by rw [t17]; rfl) (by decide) ?_
      refine st_no rfl rfl (by rw [t17]; rfl) (by decide) ?_
      refine st_no rfl rfl (by rw [t17]; rfl) (by decide) ?_
      refine st_no rfl rfl (by rw [t17]; rfl) (by decide) ?_
      refine st_val (ex_pick_t (congrArg (fun b => some (Value.bool b)) t17) rfl) (by decide) trivial ?_
      have hq142 := Option.some.inj hq14
      refine wpF_end (r := [(1, (.pointer (some ⟨b5, 0, none⟩))), (14, (.bool true))]) ⟨rfl, rfl, trivial⟩ ?_
      subst hq142
      refine np_norm (fun a ha => ⟨ha, kp⟩)
    · rw [if_neg (by rw [t17]; decide)] at hq14
      refine st_val (ex_field rfl Try.underlying29 rfl Try.sizeOf3) (by decide) ⟨_, rfl, (congrArg (fun b => some (Value.bool b)) t17)⟩ ?_
      refine st_val (ex_load1 rfl Try.isAgg3 (h6.cell rfl)) (by decide) ⟨_, rfl, (congrArg (fun b => some (Value.bool b)) t17)⟩ ?_
      obtain ⟨x18, hx18, hq14⟩ := bind_some hq14
      refine st_op (by decide) ⟨_, rfl, (congrArg (fun b => some (Value.bool b)) t17)⟩ ?_
      refine wf_call (cS_l1In w9 p0.Children 1 3 x18 hx18) Try.call52 ⟨rfl, rfl, rfl, trivial⟩ ?_
      rintro e23 w19 ⟨rfl, k20⟩
      have s22 := k20.stp 999 o3
      refine ⟨_, rfl, ?_⟩
      replace h6 := h6.stp s22 (by decide)
      replace hB := hB.stp s22 (by decide)
      replace kp := Keeps.trans kp k20
      refine st_val (ex_not rfl) (by decide) ⟨_, rfl, (congrArg (fun b => some (Value.bool b)) t17)⟩ ?_
      refine st_val (ex_pick_f (congrArg (fun b => some (Value.bool b)) t17) rfl) (by decide) trivial ?_
      have hq142 := Option.some.inj hq14
      refine wpF_end (r := [(1, (.pointer (some ⟨b5, 0, none⟩))), (14, (.bool (!x18)))]) ⟨rfl, rfl, trivial⟩ ?_
      subst hq142
      refine np_norm (fun a ha => ⟨ha, kp⟩)
  rintro a26 w15 ⟨ha, k24⟩
  have s25 := k24.stp 999 o3
  replace h6 := h6.stp s25 (by decide)
  replace hB := hB.stp s25 (by decide)
  refine wl_of ha ?_
  refine wpF_end (r := [(1, (.pointer (some ⟨b5, 0, none⟩))), (14, (.bool q14))]) ⟨rfl, rfl, trivial⟩ ?_
  refine nx ?_
  refine wpC_cond rfl (fun t27 => ?_) (fun t27 => ?_)
  · rw [if_pos t27] at hF
    refine wpC_seq ?_
    refine wpC_region ?_
    refine st_val (ex_assign rfl) (by decide) trivial ?_
    refine wpF_end (r := [(2, (.bool false))]) ⟨rfl, trivial⟩ ?_
    refine nx ?_
    refine wpC_ret ?_
    refine nt_ret ?_
    have e28 := Option.some.inj hF
    subst e28
    refine ret_post (P := Try.prog) (vs := [(.bool false)]) Try.results41 ⟨rfl, trivial⟩ ?_
    exact ⟨rfl, hB.keeps⟩
  · rw [if_neg (by rw [t27]; decide)] at hF
    refine wpC_skip ?_
    refine nx ?_
    refine wpC_seq ?_
    refine wpC_seq ?_
    refine wpC_region ?_
    refine st_val (ex_field rfl Try.underlying29 rfl Try.sizeOf22) (by decide) trivial ?_
    refine st_val (ex_load1 rfl Try.isAgg22 (h6.cell rfl)) (by decide) trivial ?_
    refine st_val (ex_lenR rfl h2 Try.underlying22) (by decide) trivial ?_
    refine st_val (ex_move rfl) (by decide) trivial ?_
    refine wpF_end (r := [(1, (.pointer (some ⟨b5, 0, none⟩))), (16, v1), (17, (.int .i64 (p0.Lines.length : Int))), (18, (.int .i64 0))]) ⟨rfl, rfl, rfl, rfl, trivial⟩ ?_
    refine nx ?_
    obtain ⟨q32, hq32, hF⟩ := bind_some hF
    refine wpC_cutN (fun a w30 => ∃ (o29 : Tg), q32 = .inl () ∧ Fr a 62 [] ∧ Bs (fun _ => 1) o29 w w30) (fun a w' => ∃ r', q32 = .inr r' ∧ bodyPost Try.prog Try.f41 (pS_roGood w r') .ret a w') ?_ ?_ ?_
    · refine wpC_block ?_
      refine wpC_loop (fun (K : Nat) a w30 => ∃ (i31 : Int) (o29 : Tg), forI (fS_roGood_s1 fuel p0) (p0.Lines.drop i31.toNat) i31 () = some q32 ∧ (p0.Lines.drop i31.toNat).length = K ∧ 0 ≤ i31 ∧ Fr a 62 [(1, (.pointer (some ⟨b5, 0, none⟩))), (16, v1), (17, (.int .i64 (p0.Lines.length : Int))), (18, (.int .i64 i31))] ∧ Bs (fun _ => 1) o29 w w30 ∧ Bx w.heap.size 11 o29 w30 b5 29 [(.int .i64 p0.Labels), (.int .i64 p0.Children), v1]) _ (fun a ha => ⟨0, o3, hq32, rfl, Int.le_refl 0, ha.sub (r := [(1, (.pointer (some ⟨b5, 0, none⟩))), (16, v1), (17, (.int .i64 (p0.Lines.length : Int))), (18, (.int .i64 0))]) ⟨rfl, rfl, rfl, rfl, trivial⟩, hB, h6⟩) ?_
      rintro K36 a w30 ⟨i31, o29, l33, m35, z34, ha, hB, h6⟩
      by_cases t40 : i31 < (p0.Lines.length : Int)
      · obtain ⟨x41, q37, hx41, b38, n39⟩ := forI_cons z34 t40 l33
        have hle := h2.len_le
        dsimp only [fS_roGood_s1] at b38
        refine wp_of ha ?_
        refine wpC_seq ?_
        refine wpC_region ?_
        refine st_val (ex_lss rfl rfl) (by decide) trivial ?_
        refine wpF_end (r := [(1, (.pointer (some ⟨b5, 0, none⟩))), (16, v1), (17, (.int .i64 (p0.Lines.length : Int))), (18, (.int .i64 i31)), (19, (.bool (decide (i31 < (p0.Lines.length : Int)))))]) ⟨rfl, rfl, rfl, rfl, rfl, trivial⟩ ?_
        refine nx ?_
        refine wpC_seq ?_
        refine wpC_true (congrArg (fun b => some (Value.bool b)) (decide_eq_true t40)) ?_
        refine wpC_skip ?_
        refine nx ?_
        refine wpC_seq ?_
        refine wpC_block ?_
        refine wpC_seq ?_
        refine wpC_region ?_
        refine st_val (ex_move rfl) (by decide) trivial ?_
        refine st_op (by decide) trivial ?_
        refine wf_atZ h2 hx41 hB rfl rfl Try.underlying22 Try.sizeOf25 ?_
        intro b42 f43 c44 h45 h46
        obtain ⟨v47, rfl, h48⟩ := h46
        refine st_val (ex_load1 rfl Try.isAgg25 (cell_of_cells h45)) (by decide) trivial ?_
        refine st_val (ex_assign rfl) (by decide) trivial ?_
        refine st_val (ex_assign rfl) (by decide) trivial ?_
        refine wpF_end (r := [(1, (.pointer (some ⟨b5, 0, none⟩))), (3, (.int .i64 i31)), (4, v47), (16, v1), (17, (.int .i64 (p0.Lines.length : Int))), (18, (.int .i64 i31))]) ⟨rfl, rfl, rfl, rfl, rfl, rfl, trivial⟩ ?_
        refine nx ?_
        refine wpC_seq ?_
        obtain ⟨q49, hq49, b38⟩ := bind_some b38
        refine wpC_cutN (fun a52 w51 => ∃ o50 : Tg, Fr a52 62 [(1, (.pointer (some ⟨b5, 0, none⟩))), (16, v1), (17, (.int .i64 (p0.Lines.length : Int))), (18, (.int .i64 i31)), (60, (.bool q49))] ∧ Bs (fun _ => 1) o50 w w51 ∧ Bx w.heap.size 11 o50 w51 b5 29 [(.int .i64 p0.Labels), (.int .i64 p0.Children), v1]) (fun _ _ => False) ?_ ?_ (fun _ _ h => h.elim)
        · obtain ⟨x53, hx53, hq49⟩ := bind_some hq49
          rcases Bool.eq_false_or_eq_true ((x41.length : Int) != x53) with t54 | t54
          · rw [if_pos t54] at hq49
            refine wpC_drawn (o := o29) [(1, (.pointer (some ⟨b5, 0, none⟩))), (3, (.int .i64 i31)), (4, v47), (16, v1), (17, (.int .i64 (p0.Lines.length : Int))), (18, (.int .i64 i31))] [1, 3, 4, 16, 17, 18] [23, 24, 25, 26, 27, 28, 29, 30, 31, 32, 33, 34, 35, 36, 37, 38, 39, 40, 41, 42, 43, 44, 45, 46, 47, 48, 49, 50, 51, 52, 53, 54, 55, 56] [[], [0], [], [2], [3], [1, 4], [5], [6], [6], [6], [6], [6], [6], [6, 12], [13], [14], [14], [14], [14], [14], [14], [14], [14, 21], [22], [23], [23], [23], [26], [26], [26], [26], [26], [26], [26]] [none, none, none, none, none, none, none, none, none, none, none, none, none, none, none, none, none, none, none, none, none, none, none, none, none, none, none, none, none, none, none, none, none, none] [999, 999, 999, 999, 999, 999, 999, 999, 999, 999, 999, 999, 999, 999, 999, 999, 999, 999, 999, 999, 999, 999, 999, 999, 999, 999, 999, 999, 999, 999, 999, 999, 999, 999] [0, 0, 0, 0, 0, 0, 0, 0, 0, 0, 0, 0, 0, 0, 0, 0, 0, 0, 0, 0, 0, 0, 0, 0, 0, 0, 0, 0, 0, 0, 0, 0, 0, 0] [999] [fun v _ _ => v = v47, fun v _ _ => v = (.int .i64 (x41.length : Int)), fun v _ _ => v = (.pointer (some ⟨b5, 0 + 1, none⟩)), fun v _ _ => v = (.int .i64 p0.Children), fun v _ _ => v = (.int .i64 x53), fun v _ _ => v = (.bool ((x41.length : Int) != x53)), fun v _ _ => v = (.bool ((x41.length : Int) != x53)), fun v _ _ => v = undef, fun v _ _ => v = undef, fun v _ _ => v = undef, fun v _ _ => v = undef, fun v _ _ => v = undef, fun v _ _ => v = undef, fun v _ _ => v = (.bool true), fun v _ _ => v = (.bool true), fun v _ _ => v = undef, fun v _ _ => v = undef, fun v _ _ => v = undef, fun v _ _ => v = undef, fun v _ _ => v = undef, fun v _ _ => v = undef, fun v _ _ => v = undef, fun v _ _ => v = (.bool true), fun v _ _ => v = (.bool true), fun v _ _ => v = undef, fun v _ _ => v = undef, fun v _ _ => v = undef, fun v _ _ => v = undef, fun v _ _ => v = undef, fun v _ _ => v = undef, fun v _ _ => v = undef, fun v _ _ => v = undef, fun v _ _ => v = undef, fun v _ _ => v = undef] (fun o8 w8 => Bs (fun _ => 1) o8 w w8 ∧ Bx w.heap.size 11 o8 w8 b5 29 [(.int .i64 p0.Labels), (.int .i64 p0.Children), v1]) follows_mixed (by kernel_rfl) rfl ⟨rfl, rfl, rfl, rfl, rfl, rfl, trivial⟩ ⟨hB, h6⟩ ?_ ⟨st_eq _, st_eq _, st_eq _, st_eq _, st_eq _, st_eq _, st_eq _, st_eq _, st_eq _, st_eq _, st_eq _, st_eq _, st_eq _, st_eq _, st_eq _, st_eq _, st_eq _, st_eq _, st_eq _, st_eq _, st_eq _, st_eq _, st_eq _, st_eq _, st_eq _, st_eq _, st_eq _, st_eq _, st_eq _, st_eq _, st_eq _, st_eq _, st_eq _, st_eq _, trivial⟩ ?_ ?_
            · rintro t9 o1 w1 o2 w2 ht9 ⟨hB, h6⟩ hs9
              have ht9 : t9 = 999 := by simpa using ht9
              subst ht9
              all_goals exact ⟨hB.stp hs9 (by decide), h6.stp hs9 (by decide)⟩
            · refine ⟨?_, ?_, ?_, ?_, ?_, ?_, ?_, ?_, ?_, ?_, ?_, ?_, ?_, ?_, ?_, ?_, ?_, ?_, ?_, ?_, ?_, ?_, ?_, ?_, ?_, ?_, ?_, ?_, ?_, ?_, ?_, ?_, ?_, ?_, trivial⟩
              · rintro o55 w56 a57 ha ⟨hB, h6⟩ -
                refine opS_of ha (trivial) ?_
                refine op1_val (ex_move rfl) ?_
                exact ⟨_, Stp.refl _ _ _, rfl⟩
              · rintro o58 w59 a60 ha ⟨hB, h6⟩ ⟨r61, -⟩
                have ha := Fr.cons (d := 23) ha r61
                refine opS_of ha (trivial) ?_
                refine op1_val (ex_lenR rfl h48 Try.underlying25) ?_
                exact ⟨_, Stp.refl _ _ _, rfl⟩
              · rintro o62 w63 a64 ha ⟨hB, h6⟩ -
                refine opS_of ha (trivial) ?_
                refine op1_val (ex_field rfl Try.underlying29 rfl Try.sizeOf3) ?_
                exact ⟨_, Stp.refl _ _ _, rfl⟩
              · rintro o65 w66 a67 ha ⟨hB, h6⟩ ⟨r68, -⟩
                have ha := Fr.cons (d := 25) ha r68
                refine opS_of ha (trivial) ?_
                refine op1_val (ex_load1 rfl Try.isAgg3 (h6.cell rfl)) ?_
                exact ⟨_, Stp.refl _ _ _, rfl⟩
              · rintro o69 w70 a71 ha ⟨hB, h6⟩ ⟨r72, -⟩
                have ha := Fr.cons (d := 26) ha r72
                refine opS_of ha (trivial) ?_
                refine op1_val (ex_add rfl rfl hx53) ?_
                exact ⟨_, Stp.refl _ _ _, rfl⟩
              · rintro o73 w74 a75 ha ⟨hB, h6⟩ ⟨r76, r77, -⟩
                have ha := Fr.cons (d := 24) ha r76
                have ha := Fr.cons (d := 27) ha r77
                refine opS_of ha (trivial) ?_
                refine op1_val (ex_neq rfl rfl) ?_
                exact ⟨_, Stp.refl _ _ _, rfl⟩
              · rintro o78 w79 a80 ha ⟨hB, h6⟩ ⟨r81, -⟩
                have ha := Fr.cons (d := 28) ha r81
                refine opS_of ha (trivial) ?_
                refine op1_val (ex_move rfl) ?_
                exact ⟨_, Stp.refl _ _ _, rfl⟩
              · rintro o82 w83 a84 ha ⟨hB, h6⟩ ⟨r85, -⟩
                have ha := Fr.cons (d := 29) ha r85
                exact opS_no ha rfl rfl rfl (by rw [t54]; rfl) ⟨_, Stp.refl _ _ _, rfl⟩
              · rintro o86 w87 a88 ha ⟨hB, h6⟩ ⟨r89, -⟩
                have ha := Fr.cons (d := 29) ha r89
                exact opS_no ha rfl rfl rfl (by rw [t54]; rfl) ⟨_, Stp.refl _ _ _, rfl⟩
              · rintro o90 w91 a92 ha ⟨hB, h6⟩ ⟨r93, -⟩
                have ha := Fr.cons (d := 29) ha r93
                exact opS_no ha rfl rfl rfl (by rw [t54]; rfl) ⟨_, Stp.refl _ _ _, rfl⟩
              · rintro o94 w95 a96 ha ⟨hB, h6⟩ ⟨r97, -⟩
                have ha := Fr.cons (d := 29) ha r97
                exact opS_no ha rfl rfl rfl (by rw [t54]; rfl) ⟨_, Stp.refl _ _ _, rfl⟩
              · rintro o98 w99 a100 ha ⟨hB, h6⟩ ⟨r101, -⟩
                have ha := Fr.cons (d := 29) ha r101
                exact opS_no ha rfl rfl rfl (by rw [t54]; rfl) ⟨_, Stp.refl _ _ _, rfl⟩
              · rintro o102 w103 a104 ha ⟨hB, h6⟩ ⟨r105, -⟩
                have ha := Fr.cons (d := 29) ha r105
                exact opS_no ha rfl rfl rfl (by rw [t54]; rfl) ⟨_, Stp.refl _ _ _, rfl⟩
              · rintro o106 w107 a108 ha ⟨hB, h6⟩ ⟨r109, r110, -⟩
                have ha := Fr.cons (d := 29) ha r109
                have ha := Fr.cons (d := 35) ha r110
                refine opS_of ha (trivial) ?_
                refine op1_val (ex_pick_t (congrArg (fun b => some (Value.bool b)) t54) rfl) ?_
                exact ⟨_, Stp.refl _ _ _, rfl⟩
              · rintro o111 w112 a113 ha ⟨hB, h6⟩ ⟨r114, -⟩
                have ha := Fr.cons (d := 36) ha r114
                refine opS_of ha (trivial) ?_
                refine op1_val (ex_move rfl) ?_
                exact ⟨_, Stp.refl _ _ _, rfl⟩
              · rintro o115 w116 a117 ha ⟨hB, h6⟩ ⟨r118, -⟩
                have ha := Fr.cons (d := 37) ha r118
                exact opS_no ha rfl rfl rfl rfl ⟨_, Stp.refl _ _ _, rfl⟩
              · rintro o119 w120 a121 ha ⟨hB, h6⟩ ⟨r122, -⟩
                have ha := Fr.cons (d := 37) ha r122
                exact opS_no ha rfl rfl rfl rfl ⟨_, Stp.refl _ _ _, rfl⟩
              · rintro o123 w124 a125 ha ⟨hB, h6⟩ ⟨r126, -⟩
                have ha := Fr.cons (d := 37) ha r126
                exact opS_no ha rfl rfl rfl rfl ⟨_, Stp.refl _ _ _, rfl⟩
              · rintro o127 w128 a129 ha ⟨hB, h6⟩ ⟨r130, -⟩
                have ha := Fr.cons (d := 37) ha r130
                exact opS_no ha rfl rfl rfl rfl ⟨_, Stp.refl _ _ _, rfl⟩
              · rintro o131 w132 a133 ha ⟨hB, h6⟩ ⟨r134, -⟩
                have ha := Fr.cons (d := 37) ha r134
                exact opS_no ha rfl rfl rfl rfl ⟨_, Stp.refl _ _ _, rfl⟩
              · rintro o135 w136 a137 ha ⟨hB, h6⟩ ⟨r138, -⟩
                have ha := Fr.cons (d := 37) ha r138
                exact opS_no ha rfl rfl rfl rfl ⟨_, Stp.refl _ _ _, rfl⟩
              · rintro o139 w140 a141 ha ⟨hB, h6⟩ ⟨r142, -⟩
                have ha := Fr.cons (d := 37) ha r142
                exact opS_no ha rfl rfl rfl rfl ⟨_, Stp.refl _ _ _, rfl⟩
              · rintro o143 w144 a145 ha ⟨hB, h6⟩ ⟨r146, r147, -⟩
                have ha := Fr.cons (d := 37) ha r146
                have ha := Fr.cons (d := 44) ha r147
                refine opS_of ha (trivial) ?_
                refine op1_val (ex_pick_t rfl rfl) ?_
                exact ⟨_, Stp.refl _ _ _, rfl⟩
              · rintro o148 w149 a150 ha ⟨hB, h6⟩ ⟨r151, -⟩
                have ha := Fr.cons (d := 45) ha r151
                refine opS_of ha (trivial) ?_
                refine op1_val (ex_move rfl) ?_
                exact ⟨_, Stp.refl _ _ _, rfl⟩
              · rintro o152 w153 a154 ha ⟨hB, h6⟩ ⟨r155, -⟩
                have ha := Fr.cons (d := 46) ha r155
                exact opS_no ha rfl rfl rfl rfl ⟨_, Stp.refl _ _ _, rfl⟩
              · rintro o156 w157 a158 ha ⟨hB, h6⟩ ⟨r159, -⟩
                have ha := Fr.cons (d := 46) ha r159
                exact opS_no ha rfl rfl rfl rfl ⟨_, Stp.refl _ _ _, rfl⟩
              · rintro o160 w161 a162 ha ⟨hB, h6⟩ ⟨r163, -⟩
                have ha := Fr.cons (d := 46) ha r163
                exact opS_no ha rfl rfl rfl rfl ⟨_, Stp.refl _ _ _, rfl⟩
              · rintro o164 w165 a166 ha ⟨hB, h6⟩ ⟨r167, -⟩
                have ha := Fr.cons (d := 49) ha r167
                exact opS_no2 ha rfl rfl rfl ⟨_, Stp.refl _ _ _, rfl⟩
              · rintro o168 w169 a170 ha ⟨hB, h6⟩ ⟨r171, -⟩
                have ha := Fr.cons (d := 49) ha r171
                exact opS_no2 ha rfl rfl rfl ⟨_, Stp.refl _ _ _, rfl⟩
              · rintro o172 w173 a174 ha ⟨hB, h6⟩ ⟨r175, -⟩
                have ha := Fr.cons (d := 49) ha r175
                exact opS_no2 ha rfl rfl rfl ⟨_, Stp.refl _ _ _, rfl⟩
              · rintro o176 w177 a178 ha ⟨hB, h6⟩ ⟨r179, -⟩
                have ha := Fr.cons (d := 49) ha r179
                exact opS_no2 ha rfl rfl rfl ⟨_, Stp.refl _ _ _, rfl⟩
              · rintro o180 w181 a182 ha ⟨hB, h6⟩ ⟨r183, -⟩
                have ha := Fr.cons (d := 49) ha r183
                exact opS_no2 ha rfl rfl rfl ⟨_, Stp.refl _ _ _, rfl⟩
              · rintro o184 w185 a186 ha ⟨hB, h6⟩ ⟨r187, -⟩
                have ha := Fr.cons (d := 49) ha r187
                exact opS_no2 ha rfl rfl rfl ⟨_, Stp.refl _ _ _, rfl⟩
              · rintro o188 w189 a190 ha ⟨hB, h6⟩ ⟨r191, -⟩
                have ha := Fr.cons (d := 49) ha r191
                exact opS_no2 ha rfl rfl rfl ⟨_, Stp.refl _ _ _, rfl⟩
            rintro o192 w193 a194 ha ⟨hB, h6⟩ ⟨-, -, -, -, -, -, -, -, -, -, -, -, -, -, -, -, -, -, -, -, -, -, -, r195, -, -, r196, -, -, -, -, -, r197, r198, -⟩
            have ha := Fr.cons (d := 46) ha r195
            have ha := Fr.cons (d := 49) ha r196
            have ha := Fr.cons (d := 55) ha r197
            have ha := Fr.cons (d := 56) ha r198
            refine wl_of ha ?_
            simp only [List.length_cons, List.length_nil, Nat.zero_add, Nat.reduceAdd, List.drop_succ_cons, List.drop_zero]
            refine st_no2 rfl rfl (by decide) ?_
            refine st_no2 rfl rfl (by decide) ?_
            refine st_no rfl rfl rfl (by decide) ?_
            refine st_val (ex_pick_t rfl rfl) (by decide) trivial ?_
            have e199 := Option.some.inj hq49
            subst e199
            refine wpF_end (r := [(1, (.pointer (some ⟨b5, 0, none⟩))), (16, v1), (17, (.int .i64 (p0.Lines.length : Int))), (18, (.int .i64 i31)), (60, (.bool true))]) ⟨rfl, rfl, rfl, rfl, rfl, trivial⟩ ?_
            refine np_norm (fun a ha => ⟨o192, ha, hB, h6⟩)
          · rw [if_neg (by rw [t54]; decide)] at hq49
            obtain ⟨x200, hx200, hq49⟩ := bind_some hq49
            obtain ⟨x201, hx201, hq49⟩ := bind_some hq49
            rcases Bool.eq_false_or_eq_true (!x201) with t207 | t207
            · rw [if_pos t207] at hq49
              refine wpC_drawn (o := o29) [(1, (.pointer (some ⟨b5, 0, none⟩))), (3, (.int .i64 i31)), (4, v47), (16, v1), (17, (.int .i64 (p0.Lines.length : Int))), (18, (.int .i64 i31))] [1, 3, 4, 16, 17, 18] [23, 24, 25, 26, 27, 28, 29, 30, 31, 32, 33, 34, 35, 36, 37, 38, 39, 40, 41, 42, 43, 44, 45, 46, 47, 48, 49, 50, 51, 52, 53, 54, 55, 56] [[], [0], [], [2], [3], [1, 4], [5], [6], [6], [6, 8], [6, 9], [6, 7, 10], [6, 11], [6, 12], [13], [14], [14], [14], [14], [14], [14], [14], [14, 21], [22], [23], [23], [23], [26], [26], [26], [26], [26], [26], [26]] [none, none, none, none, none, none, none, none, none, none, none, none, none, none, none, none, none, none, none, none, none, none, none, none, none, none, none, none, none, none, none, none, none, none] [999, 999, 999, 999, 999, 999, 999, 999, 999, 999, 999, 999, 999, 999, 999, 999, 999, 999, 999, 999, 999, 999, 999, 999, 999, 999, 999, 999, 999, 999, 999, 999, 999, 999] [0, 0, 0, 0, 0, 0, 0, 0, 0, 0, 0, 0, 0, 0, 0, 0, 0, 0, 0, 0, 0, 0, 0, 0, 0, 0, 0, 0, 0, 0, 0, 0, 0, 0] [999] [fun v _ _ => v = v47, fun v _ _ => v = (.int .i64 (x41.length : Int)), fun v _ _ => v = (.pointer (some ⟨b5, 0 + 1, none⟩)), fun v _ _ => v = (.int .i64 p0.Children), fun v _ _ => v = (.int .i64 x53), fun v _ _ => v = (.bool ((x41.length : Int) != x53)), fun v _ _ => v = (.bool ((x41.length : Int) != x53)), fun v _ _ => v = v47, fun v _ _ => v = (.pointer (some ⟨b5, 0 + 0, none⟩)), fun v _ _ => v = (.int .i64 p0.Labels), fun v _ _ => v = (.int .i64 x200), fun v _ _ => v = (.bool x201), fun v _ _ => v = (.bool (!x201)), fun v _ _ => v = (.bool (!x201)), fun v _ _ => v = (.bool (!x201)), fun v _ _ => v = undef, fun v _ _ => v = undef, fun v _ _ => v = undef, fun v _ _ => v = undef, fun v _ _ => v = undef, fun v _ _ => v = undef, fun v _ _ => v = undef, fun v _ _ => v = (.bool true), fun v _ _ => v = (.bool true), fun v _ _ => v = undef, fun v _ _ => v = undef, fun v _ _ => v = undef, fun v _ _ => v = undef, fun v _ _ => v = undef, fun v _ _ => v = undef, fun v _ _ => v = undef, fun v _ _ => v = undef, fun v _ _ => v = undef, fun v _ _ => v = undef] (fun o8 w8 => Bs (fun _ => 1) o8 w w8 ∧ Bx w.heap.size 11 o8 w8 b5 29 [(.int .i64 p0.Labels), (.int .i64 p0.Children), v1]) follows_mixed (by kernel_rfl) rfl ⟨rfl, rfl, rfl, rfl, rfl, rfl, trivial⟩ ⟨hB, h6⟩ ?_ ⟨st_eq _, st_eq _, st_eq _, st_eq _, st_eq _, st_eq _, st_eq _, st_eq _, st_eq _, st_eq _, st_eq _, st_eq _, st_eq _, st_eq _, st_eq _, st_eq _, st_eq _, st_eq _, st_eq _, st_eq _, st_eq _, st_eq _, st_eq _, st_eq _, st_eq _, st_eq _, st_eq _, st_eq _, st_eq _, st_eq _, st_eq _, st_eq _, st_eq _, st_eq _, trivial⟩ ?_ ?_
              · rintro t9 o1 w1 o2 w2 ht9 ⟨hB, h6⟩ hs9
                have ht9 : t9 = 999 := by simpa using ht9
                subst ht9
                all_goals exact ⟨hB.stp hs9 (by decide), h6.stp hs9 (by decide)⟩
              · refine ⟨?_, ?_, ?_, ?_, ?_, ?_, ?_, ?_, ?_, ?_, ?_, ?_, ?_, ?_, ?_, ?_, ?_, ?_, ?_, ?_, ?_, ?_, ?_, ?_, ?_, ?_, ?_, ?_, ?_, ?_, ?_, ?_, ?_, ?_, trivial⟩
                · rintro o208 w209 a210 ha ⟨hB, h6⟩ -
                  refine opS_of ha (trivial) ?_
                  refine op1_val (ex_move rfl) ?_
                  exact ⟨_, Stp.refl _ _ _, rfl⟩
                · rintro o211 w212 a213 ha ⟨hB, h6⟩ ⟨r214, -⟩
                  have ha := Fr.cons (d := 23) ha r214
                  refine opS_of ha (trivial) ?_
                  refine op1_val (ex_lenR rfl h48 Try.underlying25) ?_
                  exact ⟨_, Stp.refl _ _ _, rfl⟩
                · rintro o215 w216 a217 ha ⟨hB, h6⟩ -
                  refine opS_of ha (trivial) ?_
                  refine op1_val (ex_field rfl Try.underlying29 rfl Try.sizeOf3) ?_
                  exact ⟨_, Stp.refl _ _ _, rfl⟩
                · rintro o218 w219 a220 ha ⟨hB, h6⟩ ⟨r221, -⟩
                  have ha := Fr.cons (d := 25) ha r221
                  refine opS_of ha (trivial) ?_
                  refine op1_val (ex_load1 rfl Try.isAgg3 (h6.cell rfl)) ?_
                  exact ⟨_, Stp.refl _ _ _, rfl⟩
                · rintro o222 w223 a224 ha ⟨hB, h6⟩ ⟨r225, -⟩
                  have ha := Fr.cons (d := 26) ha r225
                  refine opS_of ha (trivial) ?_
                  refine op1_val (ex_add rfl rfl hx53) ?_
                  exact ⟨_, Stp.refl _ _ _, rfl⟩
                · rintro o226 w227 a228 ha ⟨hB, h6⟩ ⟨r229, r230, -⟩
                  have ha := Fr.cons (d := 24) ha r229
                  have ha := Fr.cons (d := 27) ha r230
                  refine opS_of ha (trivial) ?_
                  refine op1_val (ex_neq rfl rfl) ?_
                  exact ⟨_, Stp.refl _ _ _, rfl⟩
                · rintro o231 w232 a233 ha ⟨hB, h6⟩ ⟨r234, -⟩
                  have ha := Fr.cons (d := 28) ha r234
                  refine opS_of ha (trivial) ?_
                  refine op1_val (ex_move rfl) ?_
                  exact ⟨_, Stp.refl _ _ _, rfl⟩
                · rintro o235 w236 a237 ha ⟨hB, h6⟩ ⟨r238, -⟩
                  have ha := Fr.cons (d := 29) ha r238
                  refine opS_of ha (⟨_, rfl, (congrArg (fun b => some (Value.bool b)) t54)⟩) ?_
                  refine op1_val (ex_move rfl) ?_
                  exact ⟨_, Stp.refl _ _ _, rfl⟩
                · rintro o239 w240 a241 ha ⟨hB, h6⟩ ⟨r242, -⟩
                  have ha := Fr.cons (d := 29) ha r242
                  refine opS_of ha (⟨_, rfl, (congrArg (fun b => some (Value.bool b)) t54)⟩) ?_
                  refine op1_val (ex_field rfl Try.underlying29 rfl Try.sizeOf3) ?_
                  exact ⟨_, Stp.refl _ _ _, rfl⟩
                · rintro o243 w244 a245 ha ⟨hB, h6⟩ ⟨r246, r247, -⟩
                  have ha := Fr.cons (d := 29) ha r246
                  have ha := Fr.cons (d := 31) ha r247
                  refine opS_of ha (⟨_, rfl, (congrArg (fun b => some (Value.bool b)) t54)⟩) ?_
                  refine op1_val (ex_load1 rfl Try.isAgg3 (h6.cell rfl)) ?_
                  exact ⟨_, Stp.refl _ _ _, rfl⟩
                · rintro o248 w249 a250 ha ⟨hB, h6⟩ ⟨r251, r252, -⟩
                  have ha := Fr.cons (d := 29) ha r251
                  have ha := Fr.cons (d := 32) ha r252
                  refine opS_of ha (⟨_, rfl, (congrArg (fun b => some (Value.bool b)) t54)⟩) ?_
                  refine op1_val (ex_sub rfl rfl hx200) ?_
                  exact ⟨_, Stp.refl _ _ _, rfl⟩
                · rintro o253 w254 a255 ha ⟨hB, h6⟩ ⟨r256, r257, r258, -⟩
                  have ha := Fr.cons (d := 29) ha r256
                  have ha := Fr.cons (d := 30) ha r257
                  have ha := Fr.cons (d := 33) ha r258
                  refine opS_of ha (⟨_, rfl, (congrArg (fun b => some (Value.bool b)) t54)⟩) ?_
                  refine wf_call (cS_l1All w254 _ x41 (h48.keep hB.keeps) 0 x200 x201 hx201) Try.call32 ⟨rfl, rfl, rfl, trivial⟩ ?_
                  rintro e263 w259 ⟨rfl, k260⟩
                  have s262 := k260.stp 999 o253
                  refine ⟨_, rfl, ?_⟩
                  replace h6 := h6.stp s262 (by decide)
                  replace hB := hB.stp s262 (by decide)
                  exact ⟨_, s262, rfl⟩
                · rintro o264 w265 a266 ha ⟨hB, h6⟩ ⟨r267, r268, -⟩
                  have ha := Fr.cons (d := 29) ha r267
                  have ha := Fr.cons (d := 34) ha r268
                  refine opS_of ha (⟨_, rfl, (congrArg (fun b => some (Value.bool b)) t54)⟩) ?_
                  refine op1_val (ex_not rfl) ?_
                  exact ⟨_, Stp.refl _ _ _, rfl⟩
                · rintro o269 w270 a271 ha ⟨hB, h6⟩ ⟨r272, r273, -⟩
                  have ha := Fr.cons (d := 29) ha r272
                  have ha := Fr.cons (d := 35) ha r273
                  refine opS_of ha (trivial) ?_
                  refine op1_val (ex_pick_f (congrArg (fun b => some (Value.bool b)) t54) rfl) ?_
                  exact ⟨_, Stp.refl _ _ _, rfl⟩
                · rintro o274 w275 a276 ha ⟨hB, h6⟩ ⟨r277, -⟩
                  have ha := Fr.cons (d := 36) ha r277
                  refine opS_of ha (trivial) ?_
                  refine op1_val (ex_move rfl) ?_
                  exact ⟨_, Stp.refl _ _ _, rfl⟩
                · rintro o278 w279 a280 ha ⟨hB, h6⟩ ⟨r281, -⟩
                  have ha := Fr.cons (d := 37) ha r281
                  exact opS_no ha rfl rfl rfl (by rw [t207]; rfl) ⟨_, Stp.refl _ _ _, rfl⟩
                · rintro o282 w283 a284 ha ⟨hB, h6⟩ ⟨r285, -⟩
                  have ha := Fr.cons (d := 37) ha r285
                  exact opS_no ha rfl rfl rfl (by rw [t207]; rfl) ⟨_, Stp.refl _ _ _, rfl⟩
                · rintro o286 w287 a288 ha ⟨hB, h6⟩ ⟨r289, -⟩
                  have ha := Fr.cons (d := 37) ha r289
                  exact opS_no ha rfl rfl rfl (by rw [t207]; rfl) ⟨_, Stp.refl _ _ _, rfl⟩
                · rintro o290 w291 a292 ha ⟨hB, h6⟩ ⟨r293, -⟩
                  have ha := Fr.cons (d := 37) ha r293
                  exact opS_no ha rfl rfl rfl (by rw [t207]; rfl) ⟨_, Stp.refl _ _ _, rfl⟩
                · rintro o294 w295 a296 ha ⟨hB, h6⟩ ⟨r297, -⟩
                  have ha := Fr.cons (d := 37) ha r297
                  exact opS_no ha rfl rfl rfl (by rw [t207]; rfl) ⟨_, Stp.refl _ _ _, rfl⟩
                · rintro o298 w299 a300 ha ⟨hB, h6⟩ ⟨r301, -⟩
                  have ha := Fr.cons (d := 37) ha r301
                  exact opS_no ha rfl rfl rfl (by rw [t207]; rfl) ⟨_, Stp.refl _ _ _, rfl⟩
                · rintro o302 w303 a304 ha ⟨hB, h6⟩ ⟨r305, -⟩
                  have ha := Fr.cons (d := 37) ha r305
                  exact opS_no ha rfl rfl rfl (by rw [t207]; rfl) ⟨_, Stp.refl _ _ _, rfl⟩
                · rintro o306 w307 a308 ha ⟨hB, h6⟩ ⟨r309, r310, -⟩
                  have ha := Fr.cons (d := 37) ha r309
                  have ha := Fr.cons (d := 44) ha r310
                  refine opS_of ha (trivial) ?_
                  refine op1_val (ex_pick_t (congrArg (fun b => some (Value.bool b)) t207) rfl) ?_
                  exact ⟨_, Stp.refl _ _ _, rfl⟩
                · rintro o311 w312 a313 ha ⟨hB, h6⟩ ⟨r314, -⟩
                  have ha := Fr.cons (d := 45) ha r314
                  refine opS_of ha (trivial) ?_
                  refine op1_val (ex_move rfl) ?_
                  exact ⟨_, Stp.refl _ _ _, rfl⟩
                · rintro o315 w316 a317 ha ⟨hB, h6⟩ ⟨r318, -⟩
                  have ha := Fr.cons (d := 46) ha r318
                  exact opS_no ha rfl rfl rfl rfl ⟨_, Stp.refl _ _ _, rfl⟩
                · rintro o319 w320 a321 ha ⟨hB, h6⟩ ⟨r322, -⟩
                  have ha := Fr.cons (d := 46) ha r322
                  exact opS_no ha rfl rfl rfl rfl ⟨_, Stp.refl _ _ _, rfl⟩
                · rintro o323 w324 a325 ha ⟨hB, h6⟩ ⟨r326, -⟩
                  have ha := Fr.cons (d := 46) ha r326
                  exact opS_no ha rfl rfl rfl rfl ⟨_, Stp.refl _ _ _, rfl⟩
                · rintro o327 w328 a329 ha ⟨hB, h6⟩ ⟨r330, -⟩
                  have ha := Fr.cons (d := 49) ha r330
                  exact opS_no2 ha rfl rfl rfl ⟨_, Stp.refl _ _ _, rfl⟩
                · rintro o331 w332 a333 ha ⟨hB, h6⟩ ⟨r334, -⟩
                  have ha := Fr.cons (d := 49) ha r334
                  exact opS_no2 ha rfl rfl rfl ⟨_, Stp.refl _ _ _, rfl⟩
                · rintro o335 w336 a337 ha ⟨hB, h6⟩ ⟨r338, -⟩
                  have ha := Fr.cons (d := 49) ha r338
                  exact opS_no2 ha rfl rfl rfl ⟨_, Stp.refl _ _ _, rfl⟩
                · rintro o339 w340 a341 ha ⟨hB, h6⟩ ⟨r342, -⟩
                  have ha := Fr.cons (d := 49) ha r342
                  exact opS_no2 ha rfl rfl rfl ⟨_, Stp.refl _ _ _, rfl⟩
                · rintro o343 w344 a345 ha ⟨hB, h6⟩ ⟨r346, -⟩
                  have ha := Fr.cons (d := 49) ha r346
                  exact opS_no2 ha rfl rfl rfl ⟨_, Stp.refl _ _ _, rfl⟩
                · rintro o347 w348 a349 ha ⟨hB, h6⟩ ⟨r350, -⟩
                  have ha := Fr.cons (d := 49) ha r350
                  exact opS_no2 ha rfl rfl rfl ⟨_, Stp.refl _ _ _, rfl⟩
                · rintro o351 w352 a353 ha ⟨hB, h6⟩ ⟨r354, -⟩
                  have ha := Fr.cons (d := 49) ha r354
                  exact opS_no2 ha rfl rfl rfl ⟨_, Stp.refl _ _ _, rfl⟩
              rintro o355 w356 a357 ha ⟨hB, h6⟩ ⟨-, -, -, -, -, -, -, -, -, -, -, -, -, -, -, -, -, -, -, -, -, -, -, r358, -, -, r359, -, -, -, -, -, r360, r361, -⟩
              have ha := Fr.cons (d := 46) ha r358
              have ha := Fr.cons (d := 49) ha r359
              have ha := Fr.cons (d := 55) ha r360
              have ha := Fr.cons (d := 56) ha r361
              refine wl_of ha ?_
              simp only [List.length_cons, List.length_nil, Nat.zero_add, Nat.reduceAdd, List.drop_succ_cons, List.drop_zero]
              refine st_no2 rfl rfl (by decide) ?_
              refine st_no2 rfl rfl (by decide) ?_
              refine st_no rfl rfl rfl (by decide) ?_
              refine st_val (ex_pick_t rfl rfl) (by decide) trivial ?_
              have e362 := Option.some.inj hq49
              subst e362
              refine wpF_end (r := [(1, (.pointer (some ⟨b5, 0, none⟩))), (16, v1), (17, (.int .i64 (p0.Lines.length : Int))), (18, (.int .i64 i31)), (60, (.bool true))]) ⟨rfl, rfl, rfl, rfl, rfl, trivial⟩ ?_
              refine np_norm (fun a ha => ⟨o355, ha, hB, h6⟩)
            · rw [if_neg (by rw [t207]; decide)] at hq49
              obtain ⟨x363, hx363, hq49⟩ := bind_some hq49
              obtain ⟨x366, hx366, hq49⟩ := bind_some hq49
              obtain ⟨x369, hx369, hq49⟩ := bind_some hq49
              obtain ⟨x378, hx378, hq49⟩ := bind_some hq49
              rcases Bool.eq_false_or_eq_true (!x378) with t384 | t384
              · rw [if_pos t384] at hq49
                refine wpC_drawn (o := o29) [(1, (.pointer (some ⟨b5, 0, none⟩))), (3, (.int .i64 i31)), (4, v47), (16, v1), (17, (.int .i64 (p0.Lines.length : Int))), (18, (.int .i64 i31))] [1, 3, 4, 16, 17, 18] [23, 24, 25, 26, 27, 28, 29, 30, 31, 32, 33, 34, 35, 36, 37, 38, 39, 40, 41, 42, 43, 44, 45, 46, 47, 48, 49, 50, 51, 52, 53, 54, 55, 56] [[], [0], [], [2], [3], [1, 4], [5], [6], [6], [6, 8], [6, 9], [6, 7, 10], [6, 11], [6, 12], [13], [14], [14, 15], [14], [14, 17], [14, 18], [14, 16, 19], [14, 20], [14, 21], [22], [23], [23], [23], [26], [26], [26], [26], [26], [26], [26]] [none, none, none, none, none, none, none, none, none, none, none, none, none, none, none, none, none, none, none, none, none, none, none, none, none, none, none, none, none, none, none, none, none, none] [999, 999, 999, 999, 999, 999, 999, 999, 999, 999, 999, 999, 999, 999, 999, 999, 999, 999, 999, 999, 999, 999, 999, 999, 999, 999, 999, 999, 999, 999, 999, 999, 999, 999] [0, 0, 0, 0, 0, 0, 0, 0, 0, 0, 0, 0, 0, 0, 0, 0, 0, 0, 0, 16, 0, 0, 0, 0, 0, 0, 0, 0, 0, 0, 0, 0, 0, 0] [999] [fun v _ _ => v = v47, fun v _ _ => v = (.int .i64 (x41.length : Int)), fun v _ _ => v = (.pointer (some ⟨b5, 0 + 1, none⟩)), fun v _ _ => v = (.int .i64 p0.Children), fun v _ _ => v = (.int .i64 x53), fun v _ _ => v = (.bool ((x41.length : Int) != x53)), fun v _ _ => v = (.bool ((x41.length : Int) != x53)), fun v _ _ => v = v47, fun v _ _ => v = (.pointer (some ⟨b5, 0 + 0, none⟩)), fun v _ _ => v = (.int .i64 p0.Labels), fun v _ _ => v = (.int .i64 x200), fun v _ _ => v = (.bool x201), fun v _ _ => v = (.bool (!x201)), fun v _ _ => v = (.bool (!x201)), fun v _ _ => v = (.bool (!x201)), fun v _ _ => v = v47, fun v o w9 => RdL zt w v x363, fun v _ _ => v = v47, fun v o w9 => RdL zt w v x366, fun v o w9 => Ow w.heap.size 3 16 o w9 v x369, fun v _ _ => v = (.bool x378), fun v _ _ => v = (.bool (!x378)), fun v _ _ => v = (.bool (!x378)), fun v _ _ => v = (.bool (!x378)), fun v _ _ => v = undef, fun v _ _ => v = undef, fun v _ _ => v = undef, fun v _ _ => v = undef, fun v _ _ => v = undef, fun v _ _ => v = undef, fun v _ _ => v = undef, fun v _ _ => v = undef, fun v _ _ => v = undef, fun v _ _ => v = undef] (fun o8 w8 => Bs (fun _ => 1) o8 w w8 ∧ Bx w.heap.size 11 o8 w8 b5 29 [(.int .i64 p0.Labels), (.int .i64 p0.Children), v1]) follows_mixed (by kernel_rfl) rfl ⟨rfl, rfl, rfl, rfl, rfl, rfl, trivial⟩ ⟨hB, h6⟩ ?_ ⟨st_eq _, st_eq _, st_eq _, st_eq _, st_eq _, st_eq _, st_eq _, st_eq _, st_eq _, st_eq _, st_eq _, st_eq _, st_eq _, st_eq _, st_eq _, st_eq _, fun _ _ _ _ _ _ h0 hb h hs => h, st_eq _, fun _ _ _ _ _ _ h0 hb h hs => h, fun _ _ _ _ _ _ h0 hb h hs => h.stp hs h0.1 (Ne.symm hb), st_eq _, st_eq _, st_eq _, st_eq _, st_eq _, st_eq _, st_eq _, st_eq _, st_eq _, st_eq _, st_eq _, st_eq _, st_eq _, st_eq _, trivial⟩ ?_ ?_
                · rintro t9 o1 w1 o2 w2 ht9 ⟨hB, h6⟩ hs9
                  have ht9 : t9 = 999 := by simpa using ht9
                  subst ht9
                  all_goals exact ⟨hB.stp hs9 (by decide), h6.stp hs9 (by decide)⟩
                · refine ⟨?_, ?_, ?_, ?_, ?_, ?_, ?_, ?_, ?_, ?_, ?_, ?_, ?_, ?_, ?_, ?_, ?_, ?_, ?_, ?_, ?_, ?_, ?_, ?_, ?_, ?_, ?_, ?_, ?_, ?_, ?_, ?_, ?_, ?_, trivial⟩
                  · rintro o385 w386 a387 ha ⟨hB, h6⟩ -
                    refine opS_of ha (trivial) ?_
                    refine op1_val (ex_move rfl) ?_
                    exact ⟨_, Stp.refl _ _ _, rfl⟩
                  · rintro o388 w389 a390 ha ⟨hB, h6⟩ ⟨r391, -⟩
                    have ha := Fr.cons (d := 23) ha r391
                    refine opS_of ha (trivial) ?_
                    refine op1_val (ex_lenR rfl h48 Try.underlying25) ?_
                    exact ⟨_, Stp.refl _ _ _, rfl⟩
                  · rintro o392 w393 a394 ha ⟨hB, h6⟩ -
                    refine opS_of ha (trivial) ?_
                    refine op1_val (ex_field rfl Try.underlying29 rfl Try.sizeOf3) ?_
                    exact ⟨_, Stp.refl _ _ _, rfl⟩
                  · rintro o395 w396 a397 ha ⟨hB, h6⟩ ⟨r398, -⟩
                    have ha := Fr.cons (d := 25) ha r398
                    refine opS_of ha (trivial) ?_
                    refine op1_val (ex_load1 rfl Try.isAgg3 (h6.cell rfl)) ?_
                    exact ⟨_, Stp.refl _ _ _, rfl⟩
                  · rintro o399 w400 a401 ha ⟨hB, h6⟩ ⟨r402, -⟩
                    have ha := Fr.cons (d := 26) ha r402
                    refine opS_of ha (trivial) ?_
                    refine op1_val (ex_add rfl rfl hx53) ?_
                    exact ⟨_, Stp.refl _ _ _, rfl⟩
                  · rintro o403 w404 a405 ha ⟨hB, h6⟩ ⟨r406, r407, -⟩
                    have ha := Fr.cons (d := 24) ha r406
                    have ha := Fr.cons (d := 27) ha r407
                    refine opS_of ha (trivial) ?_
                    refine op1_val (ex_neq rfl rfl) ?_
                    exact ⟨_, Stp.refl _ _ _, rfl⟩
                  · rintro o408 w409 a410 ha ⟨hB, h6⟩ ⟨r411, -⟩
                    have ha := Fr.cons (d := 28) ha r411
                    refine opS_of ha (trivial) ?_
                    refine op1_val (ex_move rfl) ?_
                    exact ⟨_, Stp.refl _ _ _, rfl⟩
                  · rintro o412 w413 a414 ha ⟨hB, h6⟩ ⟨r415, -⟩
                    have ha := Fr.cons (d := 29) ha r415
                    refine opS_of ha (⟨_, rfl, (congrArg (fun b => some (Value.bool b)) t54)⟩) ?_
                    refine op1_val (ex_move rfl) ?_
                    exact ⟨_, Stp.refl _ _ _, rfl⟩
                  · rintro o416 w417 a418 ha ⟨hB, h6⟩ ⟨r419, -⟩
                    have ha := Fr.cons (d := 29) ha r419
                    refine opS_of ha (⟨_, rfl, (congrArg (fun b => some (Value.bool b)) t54)⟩) ?_
                    refine op1_val (ex_field rfl Try.underlying29 rfl Try.sizeOf3) ?_
                    exact ⟨_, Stp.refl _ _ _, rfl⟩
                  · rintro o420 w421 a422 ha ⟨hB, h6⟩ ⟨r423, r424, -⟩
                    have ha := Fr.cons (d := 29) ha r423
                    have ha := Fr.cons (d := 31) ha r424
                    refine opS_of ha (⟨_, rfl, (congrArg (fun b => some (Value.bool b)) t54)⟩) ?_
                    refine op1_val (ex_load1 rfl Try.isAgg3 (h6.cell rfl)) ?_
                    exact ⟨_, Stp.refl _ _ _, rfl⟩
                  · rintro o425 w426 a427 ha ⟨hB, h6⟩ ⟨r428, r429, -⟩
                    have ha := Fr.cons (d := 29) ha r428
                    have ha := Fr.cons (d := 32) ha r429
                    refine opS_of ha (⟨_, rfl, (congrArg (fun b => some (Value.bool b)) t54)⟩) ?_
                    refine op1_val (ex_sub rfl rfl hx200) ?_
                    exact ⟨_, Stp.refl _ _ _, rfl⟩
                  · rintro o430 w431 a432 ha ⟨hB, h6⟩ ⟨r433, r434, r435, -⟩
                    have ha := Fr.cons (d := 29) ha r433
                    have ha := Fr.cons (d := 30) ha r434
                    have ha := Fr.cons (d := 33) ha r435
                    refine opS_of ha (⟨_, rfl, (congrArg (fun b => some (Value.bool b)) t54)⟩) ?_
                    refine wf_call (cS_l1All w431 _ x41 (h48.keep hB.keeps) 0 x200 x201 hx201) Try.call32 ⟨rfl, rfl, rfl, trivial⟩ ?_
                    rintro e440 w436 ⟨rfl, k437⟩
                    have s439 := k437.stp 999 o430
                    refine ⟨_, rfl, ?_⟩
                    replace h6 := h6.stp s439 (by decide)
                    replace hB := hB.stp s439 (by decide)
                    exact ⟨_, s439, rfl⟩
                  · rintro o441 w442 a443 ha ⟨hB, h6⟩ ⟨r444, r445, -⟩
                    have ha := Fr.cons (d := 29) ha r444
                    have ha := Fr.cons (d := 34) ha r445
                    refine opS_of ha (⟨_, rfl, (congrArg (fun b => some (Value.bool b)) t54)⟩) ?_
                    refine op1_val (ex_not rfl) ?_
                    exact ⟨_, Stp.refl _ _ _, rfl⟩
                  · rintro o446 w447 a448 ha ⟨hB, h6⟩ ⟨r449, r450, -⟩
                    have ha := Fr.cons (d := 29) ha r449
                    have ha := Fr.cons (d := 35) ha r450
                    refine opS_of ha (trivial) ?_
                    refine op1_val (ex_pick_f (congrArg (fun b => some (Value.bool b)) t54) rfl) ?_
                    exact ⟨_, Stp.refl _ _ _, rfl⟩
                  · rintro o451 w452 a453 ha ⟨hB, h6⟩ ⟨r454, -⟩
                    have ha := Fr.cons (d := 36) ha r454
                    refine opS_of ha (trivial) ?_
                    refine op1_val (ex_move rfl) ?_
                    exact ⟨_, Stp.refl _ _ _, rfl⟩
                  · rintro o455 w456 a457 ha ⟨hB, h6⟩ ⟨r458, -⟩
                    have ha := Fr.cons (d := 37) ha r458
                    refine opS_of ha (⟨_, rfl, (congrArg (fun b => some (Value.bool b)) t207)⟩) ?_
                    refine op1_val (ex_move rfl) ?_
                    exact ⟨_, Stp.refl _ _ _, rfl⟩
                  · rintro o459 w460 a461 ha ⟨hB, h6⟩ ⟨r462, r463, -⟩
                    have ha := Fr.cons (d := 37) ha r462
                    have ha := Fr.cons (d := 38) ha r463
                    refine opS_of ha (⟨_, rfl, (congrArg (fun b => some (Value.bool b)) t207)⟩) ?_
                    refine wf_cutZ h48 hx363 rfl rfl rfl Try.underlying25 Try.sizeOf3 ?_
                    intro v464 h465
                    exact ⟨_, Stp.refl _ _ _, h465⟩
                  · rintro o466 w467 a468 ha ⟨hB, h6⟩ ⟨r469, -⟩
                    have ha := Fr.cons (d := 37) ha r469
                    refine opS_of ha (⟨_, rfl, (congrArg (fun b => some (Value.bool b)) t207)⟩) ?_
                    refine op1_val (ex_move rfl) ?_
                    exact ⟨_, Stp.refl _ _ _, rfl⟩
                  · rintro o470 w471 a472 ha ⟨hB, h6⟩ ⟨r473, r474, -⟩
                    have ha := Fr.cons (d := 37) ha r473
                    have ha := Fr.cons (d := 40) ha r474
                    refine opS_of ha (⟨_, rfl, (congrArg (fun b => some (Value.bool b)) t207)⟩) ?_
                    refine wf_cutZ h48 hx366 rfl rfl rfl Try.underlying25 Try.sizeOf3 ?_
                    intro v475 h476
                    exact ⟨_, Stp.refl _ _ _, h476⟩
                  · rintro o477 w478 a479 ha ⟨hB, h6⟩ ⟨r480, r481, -⟩
                    have ha := Fr.cons (d := 37) ha r480
                    replace r481 : RdL zt w (a479.tmps.getD 41 undef) x366 := r481
                    generalize e483 : a479.tmps.getD 41 undef = v482 at r481
                    have ha := Fr.cons (d := 41) ha e483
                    refine opS_of ha (⟨_, rfl, (congrArg (fun b => some (Value.bool b)) t207)⟩) ?_
                    refine wf_call (cS_prSorted fuel w478 o477 16 (by decide) _ x366 (r481.keep hB.keeps) x369 hx369) Try.call59 ⟨rfl, trivial⟩ ?_
                    rintro e490 w484 ⟨v485, o491, rfl, h486, k487, k488⟩
                    have s489 := k487.stp' 999 k488
                    replace h486 := h486.mono hB.keeps.size
                    refine ⟨_, rfl, ?_⟩
                    replace h6 := h6.stp s489 (by decide)
                    replace hB := hB.stp s489 (by decide)
                    exact ⟨_, s489, h486⟩
                  · rintro o492 w493 a494 ha ⟨hB, h6⟩ ⟨r495, r496, r497, -⟩
                    have ha := Fr.cons (d := 37) ha r495
                    replace r496 : RdL zt w (a494.tmps.getD 39 undef) x363 := r496
                    generalize e499 : a494.tmps.getD 39 undef = v498 at r496
                    have ha := Fr.cons (d := 39) ha e499
                    replace r497 : Ow w.heap.size 3 16 o492 w493 (a494.tmps.getD 42 undef) x369 := r497
                    generalize e501 : a494.tmps.getD 42 undef = v500 at r497
                    have ha := Fr.cons (d := 42) ha e501
                    refine opS_of ha (⟨_, rfl, (congrArg (fun b => some (Value.bool b)) t207)⟩) ?_
                    refine wf_call (cS_l1Same w493 _ x363 (r496.keep hB.keeps) _ x369 r497.z x378 hx378) Try.call58 ⟨rfl, rfl, trivial⟩ ?_
                    rintro e506 w502 ⟨rfl, k503⟩
                    have s505 := k503.stp 999 o492
                    refine ⟨_, rfl, ?_⟩
                    replace r497 := r497.stp s505 (by decide) (by decide)
                    replace h6 := h6.stp s505 (by decide)
                    replace hB := hB.stp s505 (by decide)
                    exact ⟨_, s505, rfl⟩
                  · rintro o507 w508 a509 ha ⟨hB, h6⟩ ⟨r510, r511, -⟩
                    have ha := Fr.cons (d := 37) ha r510
                    have ha := Fr.cons (d := 43) ha r511
                    refine opS_of ha (⟨_, rfl, (congrArg (fun b => some (Value.bool b)) t207)⟩) ?_
                    refine op1_val (ex_not rfl) ?_
                    exact ⟨_, Stp.refl _ _ _, rfl⟩
                  · rintro o512 w513 a514 ha ⟨hB, h6⟩ ⟨r515, r516, -⟩
                    have ha := Fr.cons (d := 37) ha r515
                    have ha := Fr.cons (d := 44) ha r516
                    refine opS_of ha (trivial) ?_
                    refine op1_val (ex_pick_f (congrArg (fun b => some (Value.bool b)) t207) rfl) ?_
                    exact ⟨_, Stp.refl _ _ _, rfl⟩
                  · rintro o517 w518 a519 ha ⟨hB, h6⟩ ⟨r520, -⟩
                    have ha := Fr.cons (d := 45) ha r520
                    refine opS_of ha (trivial) ?_
                    refine op1_val (ex_move rfl) ?_
                    exact ⟨_, Stp.refl _ _ _, rfl⟩
                  · rintro o521 w522 a523 ha ⟨hB, h6⟩ ⟨r524, -⟩
                    have ha := Fr.cons (d := 46) ha r524
                    exact opS_no ha rfl rfl rfl (by rw [t384]; rfl) ⟨_, Stp.refl _ _ _, rfl⟩
                  · rintro o525 w526 a527 ha ⟨hB, h6⟩ ⟨r528, -⟩
                    have ha := Fr.cons (d := 46) ha r528
                    exact opS_no ha rfl rfl rfl (by rw [t384]; rfl) ⟨_, Stp.refl _ _ _, rfl⟩
                  · rintro o529 w530 a531 ha ⟨hB, h6⟩ ⟨r532, -⟩
                    have ha := Fr.cons (d := 46) ha r532
                    exact opS_no ha rfl rfl rfl (by rw [t384]; rfl) ⟨_, Stp.refl _ _ _, rfl⟩
                  · rintro o533 w534 a535 ha ⟨hB, h6⟩ ⟨r536, -⟩
                    have ha := Fr.cons (d := 49) ha r536
                    exact opS_no2 ha rfl rfl rfl ⟨_, Stp.refl _ _ _, rfl⟩
                  · rintro o537 w538 a539 ha ⟨hB, h6⟩ ⟨r540, -⟩
                    have ha := Fr.cons (d := 49) ha r540
                    exact opS_no2 ha rfl rfl rfl ⟨_, Stp.refl _ _ _, rfl⟩
                  · rintro o541 w542 a543 ha ⟨hB, h6⟩ ⟨r544, -⟩
                    have ha := Fr.cons (d := 49) ha r544
                    exact opS_no2 ha rfl rfl rfl ⟨_, Stp.refl _ _ _, rfl⟩
                  · rintro o545 w546 a547 ha ⟨hB, h6⟩ ⟨r548, -⟩
                    have ha := Fr.cons (d := 49) ha r548
                    exact opS_no2 ha rfl rfl rfl ⟨_, Stp.refl _ _ _, rfl⟩
                  · rintro o549 w550 a551 ha ⟨hB, h6⟩ ⟨r552, -⟩
                    have ha := Fr.cons (d := 49) ha r552
                    exact opS_no2 ha rfl rfl rfl ⟨_, Stp.refl _ _ _, rfl⟩
                  · rintro o553 w554 a555 ha ⟨hB, h6⟩ ⟨r556, -⟩
                    have ha := Fr.cons (d := 49) ha r556
                    exact opS_no2 ha rfl rfl rfl ⟨_, Stp.refl _ _ _, rfl⟩
                  · rintro o557 w558 a559 ha ⟨hB, h6⟩ ⟨r560, -⟩
                    have ha := Fr.cons (d := 49) ha r560
                    exact opS_no2 ha rfl rfl rfl ⟨_, Stp.refl _ _ _, rfl⟩
                rintro o561 w562 a563 ha ⟨hB, h6⟩ ⟨-, -, -, -, -, -, -, -, -, -, -, -, -, -, -, -, -, -, -, -, -, -, -, r564, -, -, r565, -, -, -, -, -, r566, r567, -⟩
                have ha := Fr.cons (d := 46) ha r564
                have ha := Fr.cons (d := 49) ha r565
                have ha := Fr.cons (d := 55) ha r566
                have ha := Fr.cons (d := 56) ha r567
                refine wl_of ha ?_
                simp only [List.length_cons, List.length_nil, Nat.zero_add, Nat.reduceAdd, List.drop_succ_cons, List.drop_zero]
                refine st_no2 rfl rfl (by decide) ?_
                refine st_no2 rfl rfl (by decide) ?_
                refine st_no rfl rfl (by rw [t384]; rfl) (by decide) ?_
                refine st_val (ex_pick_t (congrArg (fun b => some (Value.bool b)) t384) rfl) (by decide) trivial ?_
                have e568 := Option.some.inj hq49
                subst e568
                refine wpF_end (r := [(1, (.pointer (some ⟨b5, 0, none⟩))), (16, v1), (17, (.int .i64 (p0.Lines.length : Int))), (18, (.int .i64 i31)), (60, (.bool true))]) ⟨rfl, rfl, rfl, rfl, rfl, trivial⟩ ?_
                refine np_norm (fun a ha => ⟨o561, ha, hB, h6⟩)
              · rw [if_neg (by rw [t384]; decide)] at hq49
                rcases Bool.eq_false_or_eq_true (decide (i31 > 0)) with t569 | t569
                · rw [if_pos t569] at hq49
                  obtain ⟨x570, hx570, hq49⟩ := bind_some hq49
                  obtain ⟨x571, hx571, hq49⟩ := bind_some hq49
                  refine wpC_drawn (o := o29) [(1, (.pointer (some ⟨b5, 0, none⟩))), (3, (.int .i64 i31)), (4, v47), (16, v1), (17, (.int .i64 (p0.Lines.length : Int))), (18, (.int .i64 i31))] [1, 3, 4, 16, 17, 18] [23, 24, 25, 26, 27, 28, 29, 30, 31, 32, 33, 34, 35, 36, 37, 38, 39, 40, 41, 42, 43, 44, 45, 46, 47, 48, 49, 50, 51, 52, 53, 54, 55, 56] [[], [0], [], [2], [3], [1, 4], [5], [6], [6], [6, 8], [6, 9], [6, 7, 10], [6, 11], [6, 12], [13], [14], [14, 15], [14], [14, 17], [14, 18], [14, 16, 19], [14, 20], [14, 21], [22], [23], [23, 24], [23, 25], [26], [26, 27], [26], [26, 29], [26, 28, 30], [26, 31], [26]] [none, none, none, none, none, none, none, none, none, none, none, none, none, none, none, none, none, none, none, none, none, none, none, none, none, none, none, none, none, none, none, none, none, none] [999, 999, 999, 999, 999, 999, 999, 999, 999, 999, 999, 999, 999, 999, 999, 999, 999, 999, 999, 999, 999, 999, 999, 999, 999, 999, 999, 999, 999, 999, 999, 999, 999, 999] [0, 0, 0, 0, 0, 0, 0, 0, 0, 0, 0, 0, 0, 0, 0, 0, 0, 0, 0, 16, 0, 0, 0, 0, 0, 0, 0, 0, 0, 0, 0, 0, 0, 0] [999] [fun v _ _ => v = v47, fun v _ _ => v = (.int .i64 (x41.length : Int)), fun v _ _ => v = (.pointer (some ⟨b5, 0 + 1, none⟩)), fun v _ _ => v = (.int .i64 p0.Children), fun v _ _ => v = (.int .i64 x53), fun v _ _ => v = (.bool ((x41.length : Int) != x53)), fun v _ _ => v = (.bool ((x41.length : Int) != x53)), fun v _ _ => v = v47, fun v _ _ => v = (.pointer (some ⟨b5, 0 + 0, none⟩)), fun v _ _ => v = (.int .i64 p0.Labels), fun v _ _ => v = (.int .i64 x200), fun v _ _ => v = (.bool x201), fun v _ _ => v = (.bool (!x201)), fun v _ _ => v = (.bool (!x201)), fun v _ _ => v = (.bool (!x201)), fun v _ _ => v = v47, fun v o w9 => RdL zt w v x363, fun v _ _ => v = v47, fun v o w9 => RdL zt w v x366, fun v o w9 => Ow w.heap.size 3 16 o w9 v x369, fun v _ _ => v = (.bool x378), fun v _ _ => v = (.bool (!x378)), fun v _ _ => v = (.bool (!x378)), fun v _ _ => v = (.bool (!x378)), fun v _ _ => v = (.int .i64 i31), fun v _ _ => v = (.bool (decide (i31 > 0))), fun v _ _ => v = (.bool (decide (i31 > 0))), fun v _ _ => v = (.pointer (some ⟨b5, 0 + 2, none⟩)), fun v _ _ => v = v1, fun v _ _ => v = (.int .i64 i31), fun v _ _ => v = (.int .i64 x570), fun v o w9 => ∃ vl, v = adr vl (x570.toNat * Rp.sz (List Int)) ∧ RdL zt w vl (p0.Lines : List (List Int)), fun v o w9 => RdL zt w v x571, fun v _ _ => v = v47] (fun o8 w8 => Bs (fun _ => 1) o8 w w8 ∧ Bx w.heap.size 11 o8 w8 b5 29 [(.int .i64 p0.Labels), (.int .i64 p0.Children), v1]) follows_mixed (by kernel_rfl) rfl ⟨rfl, rfl, rfl, rfl, rfl, rfl, trivial⟩ ⟨hB, h6⟩ ?_ ⟨st_eq _, st_eq _, st_eq _, st_eq _, st_eq _, st_eq _, st_eq _, st_eq _, st_eq _, st_eq _, st_eq _, st_eq _, st_eq _, st_eq _, st_eq _, st_eq _, fun _ _ _ _ _ _ h0 hb h hs => h, st_eq _, fun _ _ _ _ _ _ h0 hb h hs => h, fun _ _ _ _ _ _ h0 hb h hs => h.stp hs h0.1 (Ne.symm hb), st_eq _, st_eq _, st_eq _, st_eq _, st_eq _, st_eq _, st_eq _, st_eq _, st_eq _, st_eq _, st_eq _, fun _ _ _ _ _ _ h0 hb ⟨vl, e, h⟩ hs => ⟨vl, e, h⟩, fun _ _ _ _ _ _ h0 hb h hs => h, st_eq _, trivial⟩ ?_ ?_
                  · rintro t9 o1 w1 o2 w2 ht9 ⟨hB, h6⟩ hs9
                    have ht9 : t9 = 999 := by simpa using ht9
                    subst ht9
                    all_goals exact ⟨hB.stp hs9 (by decide), h6.stp hs9 (by decide)⟩
                  · refine ⟨?_, ?_, ?_, ?_, ?_, ?_, ?_, ?_, ?_, ?_, ?_, ?_, ?_, ?_, ?_, ?_, ?_, ?_, ?_, ?_, ?_, ?_, ?_, ?_, ?_, ?_, ?_, ?_, ?_, ?_, ?_, ?_, ?_, ?_, trivial⟩
                    · rintro o577 w578 a579 ha ⟨hB, h6⟩ -
                      refine opS_of ha (trivial) ?_
                      refine op1_val (ex_move rfl) ?_
                      exact ⟨_, Stp.refl _ _ _, rfl⟩
                    · rintro o580 w581 a582 ha ⟨hB, h6⟩ ⟨r583, -⟩
                      have ha := Fr.cons (d := 23) ha r583
                      refine opS_of ha (trivial) ?_
                      refine op1_val (ex_lenR rfl h48 Try.underlying25) ?_
                      exact ⟨_, Stp.refl _ _ _, rfl⟩
                    · rintro o584 w585 a586 ha ⟨hB, h6⟩ -
                      refine opS_of ha (trivial) ?_
                      refine op1_val (ex_field rfl Try.underlying29 rfl Try.sizeOf3) ?_
                      exact ⟨_, Stp.refl _ _ _, rfl⟩
                    · rintro o587 w588 a589 ha ⟨hB, h6⟩ ⟨r590, -⟩
                      have ha := Fr.cons (d := 25) ha r590
                      refine opS_of ha (trivial) ?_
                      refine op1_val (ex_load1 rfl Try.isAgg3 (h6.cell rfl)) ?_
                      exact ⟨_, Stp.refl _ _ _, rfl⟩
                    · rintro o591 w592 a593 ha ⟨hB, h6⟩ ⟨r594, -⟩
                      have ha := Fr.cons (d := 26) ha r594
                      refine opS_of ha (trivial) ?_
                      refine op1_val (ex_add rfl rfl hx53) ?_
                      exact ⟨_, Stp.refl _ _ _, rfl⟩
                    · rintro o595 w596 a597 ha ⟨hB, h6⟩ ⟨r598, r599, -⟩
                      have ha := Fr.cons (d := 24) ha r598
                      have ha := Fr.cons (d := 27) ha r599
                      refine opS_of ha (trivial) ?_
                      refine op1_val (ex_neq rfl rfl) ?_
                      exact ⟨_, Stp.refl _ _ _, rfl⟩
                    · rintro o600 w601 a602 ha ⟨hB, h6⟩ ⟨r603, -⟩
                      have ha := Fr.cons (d := 28) ha r603
                      refine opS_of ha (trivial) ?_
                      refine op1_val (ex_move rfl) ?_
                      exact ⟨_, Stp.refl _ _ _, rfl⟩
                    · rintro o604 w605 a606 ha ⟨hB, h6⟩ ⟨r607, -⟩
                      have ha := Fr.cons (d := 29) ha r607
                      refine opS_of ha (⟨_, rfl, (congrArg (fun b => some (Value.bool b)) t54)⟩) ?_
                      refine op1_val (ex_move rfl) ?_
                      exact ⟨_, Stp.refl _ _ _, rfl⟩
                    · rintro o608 w609 a610 ha ⟨hB, h6⟩ ⟨r611, -⟩
                      have ha := Fr.cons (d := 29) ha r611
                      refine opS_of ha (⟨_, rfl, (congrArg (fun b => some (Value.bool b)) t54)⟩) ?_
                      refine op1_val (ex_field rfl Try.underlying29 rfl Try.sizeOf3) ?_
                      exact ⟨_, Stp.refl _ _ _, rfl⟩
                    · rintro o612 w613 a614 ha ⟨hB, h6⟩ ⟨r615, r616, -⟩
                      have ha := Fr.cons (d := 29) ha r615
                      have ha := Fr.cons (d := 31) ha r616
                      refine opS_of ha (⟨_, rfl, (congrArg (fun b => some (Value.bool b)) t54)⟩) ?_
                      refine op1_val (ex_load1 rfl Try.isAgg3 (h6.cell rfl)) ?_
                      exact ⟨_, Stp.refl _ _ _, rfl⟩
                    · rintro o617 w618 a619 ha ⟨hB, h6⟩ ⟨r620, r621, -⟩
                      have ha := Fr.cons (d := 29) ha r620
                      have ha := Fr.cons (d := 32) ha r621
                      refine opS_of ha (⟨_, rfl, (congrArg (fun b => some (Value.bool b)) t54)⟩) ?_
                      refine op1_val (ex_sub rfl rfl hx200) ?_
                      exact ⟨_, Stp.refl _ _ _, rfl⟩
                    · rintro o622 w623 a624 ha ⟨hB, h6⟩ ⟨r625, r626, r627, -⟩
                      have ha := Fr.cons (d := 29) ha r625
                      have ha := Fr.cons (d := 30) ha r626
                      have ha := Fr.cons (d := 33) ha r627
                      refine opS_of ha (⟨_, rfl, (congrArg (fun b => some (Value.bool b)) t54)⟩) ?_
                      refine wf_call (cS_l1All w623 _ x41 (h48.keep hB.keeps) 0 x200 x201 hx201) Try.call32 ⟨rfl, rfl, rfl, trivial⟩ ?_
                      rintro e632 w628 ⟨rfl, k629⟩
                      have s631 := k629.stp 999 o622
                      refine ⟨_, rfl, ?_⟩
                      replace h6 := h6.stp s631 (by decide)
                      replace hB := hB.stp s631 (by decide)
                      exact ⟨_, s631, rfl⟩
                    · rintro o633 w634 a635 ha ⟨hB, h6⟩ ⟨r636, r637, -⟩
                      have ha := Fr.cons (d := 29) ha r636
                      have ha := Fr.cons (d := 34) ha r637
                      refine opS_of ha (⟨_, rfl, (congrArg (fun b => some (Value.bool b)) t54)⟩) ?_
                      refine op1_val (ex_not rfl) ?_
                      exact ⟨_, Stp.refl _ _ _, rfl⟩
                    · rintro o638 w639 a640 ha ⟨hB, h6⟩ ⟨r641, r642, -⟩
                      have ha := Fr.cons (d := 29) ha r641
                      have ha := Fr.cons (d := 35) ha r642
                      refine opS_of ha (trivial) ?_
                      refine op1_val (ex_pick_f (congrArg (fun b => some (Value.bool b)) t54) rfl) ?_
                      exact ⟨_, Stp.refl _ _ _, rfl⟩
                    · rintro o643 w644 a645 ha ⟨hB, h6⟩ ⟨r646, -⟩
                      have ha := Fr.cons (d := 36) ha r646
                      refine opS_of ha (trivial) ?_
                      refine op1_val (ex_move rfl) ?_
                      exact ⟨_, Stp.refl _ _ _, rfl⟩
                    · rintro o647 w648 a649 ha ⟨hB, h6⟩ ⟨r650, -⟩
                      have ha := Fr.cons (d := 37) ha r650
                      refine opS_of ha (⟨_, rfl, (congrArg (fun b => some (Value.bool b)) t207)⟩) ?_
                      refine op1_val (ex_move rfl) ?_
                      exact ⟨_, Stp.refl _ _ _, rfl⟩
                    · rintro o651 w652 a653 ha ⟨hB, h6⟩ ⟨r654, r655, -⟩
                      have ha := Fr.cons (d := 37) ha r654
                      have ha := Fr.cons (d := 38) ha r655
                      refine opS_of ha (⟨_, rfl, (congrArg (fun b => some (Value.bool b)) t207)⟩) ?_
                      refine wf_cutZ h48 hx363 rfl rfl rfl Try.underlying25 Try.sizeOf3 ?_
                      intro v656 h657
                      exact ⟨_, Stp.refl _ _ _, h657⟩
                    · rintro o658 w659 a660 ha ⟨hB, h6⟩ ⟨r661, -⟩
                      have ha := Fr.cons (d := 37) ha r661
                      refine opS_of ha (⟨_, rfl, (congrArg (fun b => some (Value.bool b)) t207)⟩) ?_
                      refine op1_val (ex_move rfl) ?_
                      exact ⟨_, Stp.refl _ _ _, rfl⟩
                    · rintro o662 w663 a664 ha ⟨hB, h6⟩ ⟨r665, r666, -⟩
                      have ha := Fr.cons (d := 37) ha r665
                      have ha := Fr.cons (d := 40) ha r666
                      refine opS_of ha (⟨_, rfl, (congrArg (fun b => some (Value.bool b)) t207)⟩) ?_
                      refine wf_cutZ h48 hx366 rfl rfl rfl Try.underlying25 Try.sizeOf3 ?_
                      intro v667 h668
                      exact ⟨_, Stp.refl _ _ _, h668⟩
                    · rintro o669 w670 a671 ha ⟨hB, h6⟩ ⟨r672, r673, -⟩
                      have ha := Fr.cons (d := 37) ha r672
                      replace r673 : RdL zt w (a671.tmps.getD 41 undef) x366 := r673
                      generalize e675 : a671.tmps.getD 41 undef = v674 at r673
                      have ha := Fr.cons (d := 41) ha e675
                      refine opS_of ha (⟨_, rfl, (congrArg (fun b => some (Value.bool b)) t207)⟩) ?_
                      refine wf_call (cS_prSorted fuel w670 o669 16 (by decide) _ x366 (r673.keep hB.keeps) x369 hx369) Try.call59 ⟨rfl, trivial⟩ ?_
                      rintro e682 w676 ⟨v677, o683, rfl, h678, k679, k680⟩
                      have s681 := k679.stp' 999 k680
                      replace h678 := h678.mono hB.keeps.size
                      refine ⟨_, rfl, ?_⟩
                      replace h6 := h6.stp s681 (by decide)
                      replace hB := hB.stp s681 (by decide)
                      exact ⟨_, s681, h678⟩
                    · rintro o684 w685 a686 ha ⟨hB, h6⟩ ⟨r687, r688, r689, -⟩
                      have ha := Fr.cons (d := 37) ha r687
                      replace r688 : RdL zt w (a686.tmps.getD 39 undef) x363 := r688
                      generalize e691 : a686.tmps.getD 39 undef = v690 at r688
                      have ha := Fr.cons (d := 39) ha e691
                      replace r689 : Ow w.heap.size 3 16 o684 w685 (a686.tmps.getD 42 undef) x369 := r689
                      generalize e693 : a686.tmps.getD 42 undef = v692 at r689
                      have ha := Fr.cons (d := 42) ha e693
                      refine opS_of ha (⟨_, rfl, (congrArg (fun b => some (Value.bool b)) t207)⟩) ?_
                      refine wf_call (cS_l1Same w685 _ x363 (r688.keep hB.keeps) _ x369 r689.z x378 hx378) Try.call58 ⟨rfl, rfl, trivial⟩ ?_
                      rintro e698 w694 ⟨rfl, k695⟩
                      have s697 := k695.stp 999 o684
                      refine ⟨_, rfl, ?_⟩
                      replace r689 := r689.stp s697 (by decide) (by decide)
                      replace h6 := h6.stp s697 (by decide)
                      replace hB := hB.stp s697 (by decide)
                      exact ⟨_, s697, rfl⟩
                    · rintro o699 w700 a701 ha ⟨hB, h6⟩ ⟨r702, r703, -⟩
                      have ha := Fr.cons (d := 37) ha r702
                      have ha := Fr.cons (d := 43) ha r703
                      refine opS_of ha (⟨_, rfl, (congrArg (fun b => some (Value.bool b)) t207)⟩) ?_
                      refine op1_val (ex_not rfl) ?_
                      exact ⟨_, Stp.refl _ _ _, rfl⟩
                    · rintro o704 w705 a706 ha ⟨hB, h6⟩ ⟨r707, r708, -⟩
                      have ha := Fr.cons (d := 37) ha r707
                      have ha := Fr.cons (d := 44) ha r708
                      refine opS_of ha (trivial) ?_
                      refine op1_val (ex_pick_f (congrArg (fun b => some (Value.bool b)) t207) rfl) ?_
                      exact ⟨_, Stp.refl _ _ _, rfl⟩
                    · rintro o709 w710 a711 ha ⟨hB, h6⟩ ⟨r712, -⟩
                      have ha := Fr.cons (d := 45) ha r712
                      refine opS_of ha (trivial) ?_
                      refine op1_val (ex_move rfl) ?_
                      exact ⟨_, Stp.refl _ _ _, rfl⟩
                    · rintro o713 w714 a715 ha ⟨hB, h6⟩ ⟨r716, -⟩
                      have ha := Fr.cons (d := 46) ha r716
                      refine opS_of ha (⟨_, rfl, (congrArg (fun b => some (Value.bool b)) t384)⟩) ?_
                      refine op1_val (ex_move rfl) ?_
                      exact ⟨_, Stp.refl _ _ _, rfl⟩
                    · rintro o717 w718 a719 ha ⟨hB, h6⟩ ⟨r720, r721, -⟩
                      have ha := Fr.cons (d := 46) ha r720
                      have ha := Fr.cons (d := 47) ha r721
                      refine opS_of ha (⟨_, rfl, (congrArg (fun b => some (Value.bool b)) t384)⟩) ?_
                      refine op1_val (ex_gtr rfl rfl) ?_
                      exact ⟨_, Stp.refl _ _ _, rfl⟩
                    · rintro o722 w723 a724 ha ⟨hB, h6⟩ ⟨r725, r726, -⟩
                      have ha := Fr.cons (d := 46) ha r725
                      have ha := Fr.cons (d := 48) ha r726
                      refine opS_of ha (⟨_, rfl, (congrArg (fun b => some (Value.bool b)) t384)⟩) ?_
                      refine op1_val (ex_move rfl) ?_
                      exact ⟨_, Stp.refl _ _ _, rfl⟩
                    · rintro o727 w728 a729 ha ⟨hB, h6⟩ ⟨r730, -⟩
                      have ha := Fr.cons (d := 49) ha r730
                      refine opS_of ha (⟨_, rfl, (congrArg (fun b => some (Value.bool b)) t569)⟩) ?_
                      refine op1_val (ex_field rfl Try.underlying29 rfl Try.sizeOf22) ?_
                      exact ⟨_, Stp.refl _ _ _, rfl⟩
                    · rintro o731 w732 a733 ha ⟨hB, h6⟩ ⟨r734, r735, -⟩
                      have ha := Fr.cons (d := 49) ha r734
                      have ha := Fr.cons (d := 50) ha r735
                      refine opS_of ha (⟨_, rfl, (congrArg (fun b => some (Value.bool b)) t569)⟩) ?_
                      refine op1_val (ex_load1 rfl Try.isAgg22 (h6.cell rfl)) ?_
                      exact ⟨_, Stp.refl _ _ _, rfl⟩
                    · rintro o736 w737 a738 ha ⟨hB, h6⟩ ⟨r739, -⟩
                      have ha := Fr.cons (d := 49) ha r739
                      refine opS_of ha (⟨_, rfl, (congrArg (fun b => some (Value.bool b)) t569)⟩) ?_
                      refine op1_val (ex_move rfl) ?_
                      exact ⟨_, Stp.refl _ _ _, rfl⟩
                    · rintro o740 w741 a742 ha ⟨hB, h6⟩ ⟨r743, r744, -⟩
                      have ha := Fr.cons (d := 49) ha r743
                      have ha := Fr.cons (d := 52) ha r744
                      refine opS_of ha (⟨_, rfl, (congrArg (fun b => some (Value.bool b)) t569)⟩) ?_
                      refine op1_val (ex_sub rfl rfl hx570) ?_
                      exact ⟨_, Stp.refl _ _ _, rfl⟩
                    · rintro o745 w746 a747 ha ⟨hB, h6⟩ ⟨r748, r749, r750, -⟩
                      have ha := Fr.cons (d := 49) ha r748
                      have ha := Fr.cons (d := 51) ha r749
                      have ha := Fr.cons (d := 53) ha r750
                      refine opS_of ha (⟨_, rfl, (congrArg (fun b => some (Value.bool b)) t569)⟩) ?_
                      refine wd_indexR h2 hx571 rfl rfl Try.underlying22 Try.sizeOf25 ?_
                      exact ⟨_, Stp.refl _ _ _, ⟨_, rfl, h2⟩⟩
                    · rintro o751 w752 a753 ha ⟨hB, h6⟩ ⟨r754, r755, -⟩
                      have ha := Fr.cons (d := 49) ha r754
                      obtain ⟨v756, e757, h758⟩ := r755
                      have ha := Fr.cons (d := 54) ha e757
                      refine opS_of ha (⟨_, rfl, (congrArg (fun b => some (Value.bool b)) t569)⟩) ?_
                      refine wd_load1Z h758 hx571 hB rfl rfl Try.isAgg25 ?_
                      intro c759 h760
                      obtain ⟨v761, e763, h762⟩ := h760
                      cases e763
                      exact ⟨_, Stp.refl _ _ _, h762⟩
                    · rintro o764 w765 a766 ha ⟨hB, h6⟩ ⟨r767, -⟩
                      have ha := Fr.cons (d := 49) ha r767
                      refine opS_of ha (⟨_, rfl, (congrArg (fun b => some (Value.bool b)) t569)⟩) ?_
                      refine op1_val (ex_move rfl) ?_
                      exact ⟨_, Stp.refl _ _ _, rfl⟩
                  rintro o768 w769 a770 ha ⟨hB, h6⟩ ⟨-, -, -, -, -, -, -, -, -, -, -, -, -, -, -, -, -, -, -, -, -, -, -, r771, -, -, r772, -, -, -, -, -, r773, r774, -⟩
                  have ha := Fr.cons (d := 46) ha r771
                  have ha := Fr.cons (d := 49) ha r772
                  replace r773 : RdL zt w (a770.tmps.getD 55 undef) x571 := r773
                  generalize e776 : a770.tmps.getD 55 undef = v775 at r773
                  have ha := Fr.cons (d := 55) ha e776
                  have ha := Fr.cons (d := 56) ha r774
                  refine wl_of ha ?_
                  simp only [List.length_cons, List.length_nil, Nat.zero_add, Nat.reduceAdd, List.drop_succ_cons, List.drop_zero]
                  obtain ⟨x777, hx777, hq49⟩ := bind_some hq49
                  refine st_op (by decide) ⟨_, rfl, (congrArg (fun b => some (Value.bool b)) t569)⟩ ?_
                  refine wf_call (cS_prOrder w769 _ x571 (r773.keep hB.keeps) _ x41 (h48.keep hB.keeps) x777 hx777) Try.call60 ⟨rfl, rfl, trivial⟩ ?_
                  rintro e782 w778 ⟨rfl, k779⟩
                  have s781 := k779.stp 999 o768
                  refine ⟨_, rfl, ?_⟩
                  replace h6 := h6.stp s781 (by decide)
                  replace hB := hB.stp s781 (by decide)
                  refine st_val (ex_geq rfl rfl) (by decide) ⟨_, rfl, (congrArg (fun b => some (Value.bool b)) t569)⟩ ?_
                  refine st_val (ex_pick_t (congrArg (fun b => some (Value.bool b)) t569) rfl) (by decide) ⟨_, rfl, (congrArg (fun b => some (Value.bool b)) t384)⟩ ?_
                  refine st_val (ex_pick_f (congrArg (fun b => some (Value.bool b)) t384) rfl) (by decide) trivial ?_
                  have e783 := Option.some.inj hq49
                  subst e783
                  refine wpF_end (r := [(1, (.pointer (some ⟨b5, 0, none⟩))), (16, v1), (17, (.int .i64 (p0.Lines.length : Int))), (18, (.int .i64 i31)), (60, (.bool (decide (x777 ≥ 0))))]) ⟨rfl, rfl, rfl, rfl, rfl, trivial⟩ ?_
                  refine np_norm (fun a ha => ⟨o768, ha, hB, h6⟩)
                · rw [if_neg (by rw [t569]; decide)] at hq49
                  refine wpC_drawn (o := o29) [(1, (.pointer (some ⟨b5, 0, none⟩))), (3, (.int .i64 i31)), (4, v47), (16, v1), (17, (.int .i64 (p0.Lines.length : Int))), (18, (.int .i64 i31))] [1, 3, 4, 16, 17, 18] [23, 24, 25, 26, 27, 28, 29, 30, 31, 32, 33, 34, 35, 36, 37, 38, 39, 40, 41, 42, 43, 44, 45, 46, 47, 48, 49, 50, 51, 52, 53, 54, 55, 56] [[], [0], [], [2], [3], [1, 4], [5], [6], [6], [6, 8], [6, 9], [6, 7, 10], [6, 11], [6, 12], [13], [14], [14, 15], [14], [14, 17], [14, 18], [14, 16, 19], [14, 20], [14, 21], [22], [23], [23, 24], [23, 25], [26], [26], [26], [26], [26], [26], [26]] [none, none, none, none, none, none, none, none, none, none, none, none, none, none, none, none, none, none, none, none, none, none, none, none, none, none, none, none, none, none, none, none, none, none] [999, 999, 999, 999, 999, 999, 999, 999, 999, 999, 999, 999, 999, 999, 999, 999, 999, 999, 999, 999, 999, 999, 999, 999, 999, 999, 999, 999, 999, 999, 999, 999, 999, 999] [0, 0, 0, 0, 0, 0, 0, 0, 0, 0, 0, 0, 0, 0, 0, 0, 0, 0, 0, 16, 0, 0, 0, 0, 0, 0, 0, 0, 0, 0, 0, 0, 0, 0] [999] [fun v _ _ => v = v47, fun v _ _ => v = (.int .i64 (x41.length : Int)), fun v _ _ => v = (.pointer (some ⟨b5, 0 + 1, none⟩)), fun v _ _ => v = (.int .i64 p0.Children), fun v _ _ => v = (.int .i64 x53), fun v _ _ => v = (.bool ((x41.length : Int) != x53)), fun v _ _ => v = (.bool ((x41.length : Int) != x53)), fun v _ _ => v = v47, fun v _ _ => v = (.pointer (some ⟨b5, 0 + 0, none⟩)), fun v _ _ => v = (.int .i64 p0.Labels), fun v _ _ => v = (.int .i64 x200), fun v _ _ => v = (.bool x201), fun v _ _ => v = (.bool (!x201)), fun v _ _ => v = (.bool (!x201)), fun v _ _ => v = (.bool (!x201)), fun v _ _ => v = v47, fun v o w9 => RdL zt w v x363, fun v _ _ => v = v47, fun v o w9 => RdL zt w v x366, fun v o w9 => Ow w.heap.size 3 16 o w9 v x369, fun v _ _ => v = (.bool x378), fun v _ _ => v = (.bool (!x378)), fun v _ _ => v = (.bool (!x378)), fun v _ _ => v = (.bool (!x378)), fun v _ _ => v = (.int .i64 i31), fun v _ _ => v = (.bool (decide (i31 > 0))), fun v _ _ => v = (.bool (decide (i31 > 0))), fun v _ _ => v = undef, fun v _ _ => v = undef, fun v _ _ => v = undef, fun v _ _ => v = undef, fun v _ _ => v = undef, fun v _ _ => v = undef, fun v _ _ => v = undef] (fun o8 w8 => Bs (fun _ => 1) o8 w w8 ∧ Bx w.heap.size 11 o8 w8 b5 29 [(.int .i64 p0.Labels), (.int .i64 p0.Children), v1]) follows_mixed (by kernel_rfl) rfl ⟨rfl, rfl, rfl, rfl, rfl, rfl, trivial⟩ ⟨hB, h6⟩ ?_ ⟨st_eq _, st_eq _, st_eq _, st_eq _, st_eq _, st_eq _, st_eq _, st_eq _, st_eq _, st_eq _, st_eq _, st_eq _, st_eq _, st_eq _, st_eq _, st_eq _, fun _ _ _ _ _ _ h0 hb h hs => h, st_eq _, fun _ _ _ _ _ _ h0 hb h hs => h, fun _ _ _ _ _ _ h0 hb h hs => h.stp hs h0.1 (Ne.symm hb), st_eq _, st_eq _, st_eq _, st_eq _, st_eq _, st_eq _, st_eq _, st_eq _, st_eq _, st_eq _, st_eq _, st_eq _, st_eq _, st_eq _, trivial⟩ ?_ ?_
                  · rintro t9 o1 w1 o2 w2 ht9 ⟨hB, h6⟩ hs9
                    have ht9 : t9 = 999 := by simpa using ht9
                    subst ht9
                    all_goals exact ⟨hB.stp hs9 (by decide), h6.stp hs9 (by decide)⟩
                  · refine ⟨?_, ?_, ?_, ?_, ?_, ?_, ?_, ?_, ?_, ?_, ?_, ?_, ?_, ?_, ?_, ?_, ?_, ?_, ?_, ?_, ?_, ?_, ?_, ?_, ?_, ?_, ?_, ?_, ?_, ?_, ?_, ?_, ?_, ?_, trivial⟩
                    · rintro o784 w785 a786 ha ⟨hB, h6⟩ -
                      refine opS_of ha (trivial) ?_
                      refine op1_val (ex_move rfl) ?_
                      exact ⟨_, Stp.refl _ _ _, rfl⟩
                    · rintro o787 w788 a789 ha ⟨hB, h6⟩ ⟨r790, -⟩
                      have ha := Fr.cons (d := 23) ha r790
                      refine opS_of ha (trivial) ?_
                      refine op1_val (ex_lenR rfl h48 Try.underlying25) ?_
                      exact ⟨_, Stp.refl _ _ _, rfl⟩
                    · rintro o791 w792 a793 ha ⟨hB, h6⟩ -
                      refine opS_of ha (trivial) ?_
                      refine op1_val (ex_field rfl Try.underlying29 rfl Try.sizeOf3) ?_
                      exact ⟨_, Stp.refl _ _ _, rfl⟩
                    · rintro o794 w795 a796 ha ⟨hB, h6⟩ ⟨r797, -⟩
                      have ha := Fr.cons (d := 25) ha r797
                      refine opS_of ha (trivial) ?_
                      refine op1_val (ex_load1 rfl Try.isAgg3 (h6.cell rfl)) ?_
                      exact ⟨_, Stp.refl _ _ _, rfl⟩
                    · rintro o798 w799 a800 ha ⟨hB, h6⟩ ⟨r801, -⟩
                      have ha := Fr.cons (d := 26) ha r801
                      refine opS_of ha (trivial) ?_
                      refine op1_val (ex_add rfl rfl hx53) ?_
                      exact ⟨_, Stp.refl _ _ _, rfl⟩
                    · rintro o802 w803 a804 ha ⟨hB, h6⟩ ⟨r805, r806, -⟩
                      have ha := Fr.cons (d := 24) ha r805
                      have ha := Fr.cons (d := 27) ha r806
                      refine opS_of ha (trivial) ?_
                      refine op1_val (ex_neq rfl rfl) ?_
                      exact ⟨_, Stp.refl _ _ _, rfl⟩
                    · rintro o807 w808 a809 ha ⟨hB, h6⟩ ⟨r810, -⟩
                      have ha := Fr.cons (d := 28) ha r810
                      refine opS_of ha (trivial) ?_
                      refine op1_val (ex_move rfl) ?_
                      exact ⟨_, Stp.refl _ _ _, rfl⟩
                    · rintro o811 w812 a813 ha ⟨hB, h6⟩ ⟨r814, -⟩
                      have ha := Fr.cons (d := 29) ha r814
                      refine opS_of ha (⟨_, rfl, (congrArg (fun b => some (Value.bool b)) t54)⟩) ?_
                      refine op1_val (ex_move rfl) ?_
                      exact ⟨_, Stp.refl _ _ _, rfl⟩
                    · rintro o815 w816 a817 ha ⟨hB, h6⟩ ⟨r818, -⟩
                      have ha := Fr.cons (d := 29) ha r818
                      refine opS_of ha (⟨_, rfl, (congrArg (fun b => some (Value.bool b)) t54)⟩) ?_
                      refine op1_val (ex_field rfl Try.underlying29 rfl Try.sizeOf3) ?_
                      exact ⟨_, Stp.refl _ _ _, rfl⟩
                    · rintro o819 w820 a821 ha ⟨hB, h6⟩ ⟨r822, r823, -⟩
                      have ha := Fr.cons (d := 29) ha r822
                      have ha := Fr.cons (d := 31) ha r823
                      refine opS_of ha (⟨_, rfl, (congrArg (fun b => some (Value.bool b)) t54)⟩) ?_
                      refine op1_val (ex_load1 rfl Try.isAgg3 (h6.cell rfl)) ?_
                      exact ⟨_, Stp.refl _ _ _, rfl⟩
                    · rintro o824 w825 a826 ha ⟨hB, h6⟩ ⟨r827, r828, -⟩
                      have ha := Fr.cons (d := 29) ha r827
                      have ha := Fr.cons (d := 32) ha r828
                      refine opS_of ha (⟨_, rfl, (congrArg (fun b => some (Value.bool b)) t54)⟩) ?_
                      refine op1_val (ex_sub rfl rfl hx200) ?_
                      exact ⟨_, Stp.refl _ _ _, rfl⟩
                    · rintro o829 w830 a831 ha ⟨hB, h6⟩ ⟨r832, r833, r834, -⟩
                      have ha := Fr.cons (d := 29) ha r832
                      have ha := Fr.cons (d := 30) ha r833
                      have ha := Fr.cons (d := 33) ha r834
                      refine opS_of ha (⟨_, rfl, (congrArg (fun b => some (Value.bool b)) t54)⟩) ?_
                      refine wf_call (cS_l1All w830 _ x41 (h48.keep hB.keeps) 0 x200 x201 hx201) Try.call32 ⟨rfl, rfl, rfl, trivial⟩ ?_
                      rintro e839 w835 ⟨rfl, k836⟩
                      have s838 := k836.stp 999 o829
                      refine ⟨_, rfl, ?_⟩
                      replace h6 := h6.stp s838 (by decide)
                      replace hB := hB.stp s838 (by decide)
                      exact ⟨_, s838, rfl⟩
                    · rintro o840 w841 a842 ha ⟨hB, h6⟩ ⟨r843, r844, -⟩
                      have ha := Fr.cons (d := 29) ha r843
                      have ha := Fr.cons (d := 34) ha r844
                      refine opS_of ha (⟨_, rfl, (congrArg (fun b => some (Value.bool b)) t54)⟩) ?_
                      refine op1_val (ex_not rfl) ?_
                      exact ⟨_, Stp.refl _ _ _, rfl⟩
                    · rintro o845 w846 a847 ha ⟨hB, h6⟩ ⟨r848, r849, -⟩
                      have ha := Fr.cons (d := 29) ha r848
                      have ha := Fr.cons (d := 35) ha r849
                      refine opS_of ha (trivial) ?_
                      refine op1_val (ex_pick_f (congrArg (fun b => some (Value.bool b)) t54) rfl) ?_
                      exact ⟨_, Stp.refl _ _ _, rfl⟩
                    · rintro o850 w851 a852 ha ⟨hB, h6⟩ ⟨r853, -⟩
                      have ha := Fr.cons (d := 36) ha r853
                      refine opS_of ha (trivial) ?_
                      refine op1_val (ex_move rfl) ?_
                      exact ⟨_, Stp.refl _ _ _, rfl⟩
                    · rintro o854 w855 a856 ha ⟨hB, h6⟩ ⟨r857, -⟩
                      have ha := Fr.cons (d := 37) ha r857
                      refine opS_of ha (⟨_, rfl, (congrArg (fun b => some (Value.bool b)) t207)⟩) ?_
                      refine op1_val (ex_move rfl) ?_
                      exact ⟨_, Stp.refl _ _ _, rfl⟩
                    · rintro o858 w859 a860 ha ⟨hB, h6⟩ ⟨r861, r862, -⟩
                      have ha := Fr.cons (d := 37) ha r861
                      have ha := Fr.cons (d := 38) ha r862
                      refine opS_of ha (⟨_, rfl, (congrArg (fun b => some (Value.bool b)) t207)⟩) ?_
                      refine wf_cutZ h48 hx363 rfl rfl rfl Try.underlying25 Try.sizeOf3 ?_
                      intro v863 h864
                      exact ⟨_, Stp.refl _ _ _, h864⟩
                    · rintro o865 w866 a867 ha ⟨hB, h6⟩ ⟨r868, -⟩
                      have ha := Fr.cons (d := 37) ha r868
                      refine opS_of ha (⟨_, rfl, (congrArg (fun b => some (Value.bool b)) t207)⟩) ?_
                      refine op1_val (ex_move rfl) ?_
                      exact ⟨_, Stp.refl _ _ _, rfl⟩
                    · rintro o869 w870 a871 ha ⟨hB, h6⟩ ⟨r872, r873, -⟩
                      have ha := Fr.cons (d := 37) ha r872
                      have ha := Fr.cons (d := 40) ha r873
                      refine opS_of ha (⟨_, rfl, (congrArg (fun b => some (Value.bool b)) t207)⟩) ?_
                      refine wf_cutZ h48 hx366 rfl rfl rfl Try.underlying25 Try.sizeOf3 ?_
                      intro v874 h875
                      exact ⟨_, Stp.refl _ _ _, h875⟩
                    · rintro o876 w877 a878 ha ⟨hB, h6⟩ ⟨r879, r880, -⟩
                      have ha := Fr.cons (d := 37) ha r879
                      replace r880 : RdL zt w (a878.tmps.getD 41 undef) x366 := r880
                      generalize e882 : a878.tmps.getD 41 undef = v881 at r880
                      have ha := Fr.cons (d := 41) ha e882
                      refine opS_of ha (⟨_, rfl, (congrArg (fun b => some (Value.bool b)) t207)⟩) ?_
                      refine wf_call (cS_prSorted fuel w877 o876 16 (by decide) _ x366 (r880.keep hB.keeps) x369 hx369) Try.call59 ⟨rfl, trivial⟩ ?_
                      rintro e889 w883 ⟨v884, o890, rfl, h885, k886, k887⟩
                      have s888 := k886.stp' 999 k887
                      replace h885 := h885.mono hB.keeps.size
                      refine ⟨_, rfl, ?_⟩
                      replace h6 := h6.stp s888 (by decide)
                      replace hB := hB.stp s888 (by decide)
                      exact ⟨_, s888, h885⟩
                    · rintro o891 w892 a893 ha ⟨hB, h6⟩ ⟨r894, r895, r896, -⟩
                      have ha := Fr.cons (d := 37) ha r894
                      replace r895 : RdL zt w (a893.tmps.getD 39 undef) x363 := r895
                      generalize e898 : a893.tmps.getD 39 undef = v897 at r895
                      have ha := Fr.cons (d := 39) ha e898
                      replace r896 : Ow w.heap.size 3 16 o891 w892 (a893.tmps.getD 42 undef) x369 := r896
                      generalize e900 : a893.tmps.getD 42 undef = v899 at r896
                      have ha := Fr.cons (d := 42) ha e900
                      refine opS_of ha (⟨_, rfl, (congrArg (fun b => some (Value.bool b)) t207)⟩) ?_
                      refine wf_call (cS_l1Same w892 _ x363 (r895.keep hB.keeps) _ x369 r896.z x378 hx378) Try.call58 ⟨rfl, rfl, trivial⟩ ?_
                      rintro e905 w901 ⟨rfl, k902⟩
                      have s904 := k902.stp 999 o891
                      refine ⟨_, rfl, ?_⟩
                      replace r896 := r896.stp s904 (by decide) (by decide)
                      replace h6 := h6.stp s904 (by decide)
                      replace hB := hB.stp s904 (by decide)
                      exact ⟨_, s904, rfl⟩
                    · rintro o906 w907 a908 ha ⟨hB, h6⟩ ⟨r909, r910, -⟩
                      have ha := Fr.cons (d := 37) ha r909
                      have ha := Fr.cons (d := 43) ha r910
                      refine opS_of ha (⟨_, rfl, (congrArg (fun b => some (Value.bool b)) t207)⟩) ?_
                      refine op1_val (ex_not rfl) ?_
                      exact ⟨_, Stp.refl _ _ _, rfl⟩
                    · rintro o911 w912 a913 ha ⟨hB, h6⟩ ⟨r914, r915, -⟩
                      have ha := Fr.cons (d := 37) ha r914
                      have ha := Fr.cons (d := 44) ha r915
                      refine opS_of ha (trivial) ?_
                      refine op1_val (ex_pick_f (congrArg (fun b => some (Value.bool b)) t207) rfl) ?_
                      exact ⟨_, Stp.refl _ _ _, rfl⟩
                    · rintro o916 w917 a918 ha ⟨hB, h6⟩ ⟨r919, -⟩
                      have ha := Fr.cons (d := 45) ha r919
                      refine opS_of ha (trivial) ?_
                      refine op1_val (ex_move rfl) ?_
                      exact ⟨_, Stp.refl _ _ _, rfl⟩
                    · rintro o920 w921 a922 ha ⟨hB, h6⟩ ⟨r923, -⟩
                      have ha := Fr.cons (d := 46) ha r923
                      refine opS_of ha (⟨_, rfl, (congrArg (fun b => some (Value.bool b)) t384)⟩) ?_
                      refine op1_val (ex_move rfl) ?_
                      exact ⟨_, Stp.refl _ _ _, rfl⟩
                    · rintro o924 w925 a926 ha ⟨hB, h6⟩ ⟨r927, r928, -⟩
                      have ha := Fr.cons (d := 46) ha r927
                      have ha := Fr.cons (d := 47) ha r928
                      refine opS_of ha (⟨_, rfl, (congrArg (fun b => some (Value.bool b)) t384)⟩) ?_
                      refine op1_val (ex_gtr rfl rfl) ?_
                      exact ⟨_, Stp.refl _ _ _, rfl⟩
                    · rintro o929 w930 a931 ha ⟨hB, h6⟩ ⟨r932, r933, -⟩
                      have ha := Fr.cons (d := 46) ha r932
                      have ha := Fr.cons (d := 48) ha r933
                      refine opS_of ha (⟨_, rfl, (congrArg (fun b => some (Value.bool b)) t384)⟩) ?_
                      refine op1_val (ex_move rfl) ?_
                      exact ⟨_, Stp.refl _ _ _, rfl⟩
                    · rintro o934 w935 a936 ha ⟨hB, h6⟩ ⟨r937, -⟩
                      have ha := Fr.cons (d := 49) ha r937
                      exact opS_no ha rfl rfl rfl (by rw [t569]; rfl) ⟨_, Stp.refl _ _ _, rfl⟩
                    · rintro o938 w939 a940 ha ⟨hB, h6⟩ ⟨r941, -⟩
                      have ha := Fr.cons (d := 49) ha r941
                      exact opS_no ha rfl rfl rfl (by rw [t569]; rfl) ⟨_, Stp.refl _ _ _, rfl⟩
                    · rintro o942 w943 a944 ha ⟨hB, h6⟩ ⟨r945, -⟩
                      have ha := Fr.cons (d := 49) ha r945
                      exact opS_no ha rfl rfl rfl (by rw [t569]; rfl) ⟨_, Stp.refl _ _ _, rfl⟩
                    · rintro o946 w947 a948 ha ⟨hB, h6⟩ ⟨r949, -⟩
                      have ha := Fr.cons (d := 49) ha r949
                      exact opS_no ha rfl rfl rfl (by rw [t569]; rfl) ⟨_, Stp.refl _ _ _, rfl⟩
                    · rintro o950 w951 a952 ha ⟨hB, h6⟩ ⟨r953, -⟩
                      have ha := Fr.cons (d := 49) ha r953
                      exact opS_no ha rfl rfl rfl (by rw [t569]; rfl) ⟨_, Stp.refl _ _ _, rfl⟩
                    · rintro o954 w955 a956 ha ⟨hB, h6⟩ ⟨r957, -⟩
                      have ha := Fr.cons (d := 49) ha r957
                      exact opS_no ha rfl rfl rfl (by rw [t569]; rfl) ⟨_, Stp.refl _ _ _, rfl⟩
                    · rintro o958 w959 a960 ha ⟨hB, h6⟩ ⟨r961, -⟩
                      have ha := Fr.cons (d := 49) ha r961
                      exact opS_no ha rfl rfl rfl (by rw [t569]; rfl) ⟨_, Stp.refl _ _ _, rfl⟩
                  rintro o962 w963 a964 ha ⟨hB, h6⟩ ⟨-, -, -, -, -, -, -, -, -, -, -, -, -, -, -, -, -, -, -, -, -, -, -, r965, -, -, r966, -, -, -, -, -, r967, r968, -⟩
                  have ha := Fr.cons (d := 46) ha r965
                  have ha := Fr.cons (d := 49) ha r966
                  have ha := Fr.cons (d := 55) ha r967
                  have ha := Fr.cons (d := 56) ha r968
                  refine wl_of ha ?_
                  simp only [List.length_cons, List.length_nil, Nat.zero_add, Nat.reduceAdd, List.drop_succ_cons, List.drop_zero]
                  refine st_no rfl rfl (by rw [t569]; rfl) (by decide) ?_
                  refine st_no rfl rfl (by rw [t569]; rfl) (by decide) ?_
                  refine st_val (ex_pick_f (congrArg (fun b => some (Value.bool b)) t569) rfl) (by decide) ⟨_, rfl, (congrArg (fun b => some (Value.bool b)) t384)⟩ ?_
                  refine st_val (ex_pick_f (congrArg (fun b => some (Value.bool b)) t384) rfl) (by decide) trivial ?_
                  have e969 := Option.some.inj hq49
                  subst e969
                  refine wpF_end (r := [(1, (.pointer (some ⟨b5, 0, none⟩))), (16, v1), (17, (.int .i64 (p0.Lines.length : Int))), (18, (.int .i64 i31)), (60, (.bool false))]) ⟨rfl, rfl, rfl, rfl, rfl, trivial⟩ ?_
                  refine np_norm (fun a ha => ⟨o962, ha, hB, h6⟩)
        rintro a970 w51 ⟨o50, ha, hB, h6⟩
        refine ap_k ha ?_
        refine nx ?_
        refine wpC_cond rfl (fun t971 => ?_) (fun t971 => ?_)
        · rw [if_pos t971] at b38
          refine wpC_seq ?_
          refine wpC_region ?_
          refine st_val (ex_assign rfl) (by decide) trivial ?_
          refine wpF_end (r := [(2, (.bool false))]) ⟨rfl, trivial⟩ ?_
          refine nx ?_
          refine wpC_ret ?_
          refine nb_ret ?_
          refine nt_ret ?_
          refine nt_ret ?_
          refine nb_ret ?_
          refine np_ret ?_
          have e972 := Option.some.inj b38
          subst e972
          refine fun a ha => ⟨_, n39, ?_⟩
          refine ret_post (P := Try.prog) (vs := [(.bool false)]) Try.results41 ⟨rfl, trivial⟩ ?_ a ha
          exact ⟨rfl, hB.keeps⟩
        · rw [if_neg (by rw [t971]; decide)] at b38
          refine wpC_skip ?_
          refine nb_norm ?_
          refine nx ?_
          refine wpC_region ?_
          refine st_val (ex_add rfl rfl (ck_in (by omega) (by omega))) (by decide) trivial ?_
          refine st_val (ex_move rfl) (by decide) trivial ?_
          refine wpF_end (r := [(1, (.pointer (some ⟨b5, 0, none⟩))), (16, v1), (17, (.int .i64 (p0.Lines.length : Int))), (18, (.int .i64 (i31 + 1)))]) ⟨rfl, rfl, rfl, rfl, trivial⟩ ?_
          refine nt_norm ?_
          have e973 := Option.some.inj b38
          subst e973
          refine to_k (r := [(1, (.pointer (some ⟨b5, 0, none⟩))), (16, v1), (17, (.int .i64 (p0.Lines.length : Int))), (18, (.int .i64 (i31 + 1)))]) ⟨rfl, rfl, rfl, rfl, trivial⟩ ?_
          intro a ha
          exact ⟨_, (by rw [← m35]; simp only [List.length_drop]; omega), i31 + 1, o50, n39, rfl, (by omega), ha, hB, h6⟩
      · have r974 := forI_done t40 l33
        refine wp_of ha ?_
        refine wpC_seq ?_
        refine wpC_region ?_
        refine st_val (ex_lss rfl rfl) (by decide) trivial ?_
        refine wpF_end (r := [(1, (.pointer (some ⟨b5, 0, none⟩))), (16, v1), (17, (.int .i64 (p0.Lines.length : Int))), (18, (.int .i64 i31)), (19, (.bool (decide (i31 < (p0.Lines.length : Int)))))]) ⟨rfl, rfl, rfl, rfl, rfl, trivial⟩ ?_
        refine nx ?_
        refine wpC_seq ?_
        refine wpC_false (congrArg (fun b => some (Value.bool b)) (decide_eq_false t40)) ?_
        refine wpC_exit ?_
        refine nt_exit ?_
        refine nt_exit ?_
        refine nb_hit ?_
        refine np_norm ?_
        refine to_k (r := []) trivial ?_
        intro a ha
        exact ⟨o29, r974, ha, hB⟩
    · rintro a w30 ⟨o29, rfl, ha, hB⟩
      dsimp only at hF
      refine ap_k ha ?_
      refine nx ?_
      refine wpC_seq ?_
      refine wpC_region ?_
      refine st_val (ex_assign rfl) (by decide) trivial ?_
      refine wpF_end (r := [(2, (.bool true))]) ⟨rfl, trivial⟩ ?_
      refine nx ?_
      refine wpC_ret ?_
      have e975 := Option.some.inj hF
      subst e975
      refine ret_post (P := Try.prog) (vs := [(.bool true)]) Try.results41 ⟨rfl, trivial⟩ ?_
      exact ⟨rfl, hB.keeps⟩
    · rintro a w30 ⟨r', rfl, b976⟩
      dsimp only at hF
      have e977 := Option.some.inj hF
      subst e977
      exact b976

def fS_IsRootedProblem (fuel : Nat) (p0 : T_RootedProblem) : Option Bool :=
  (fS_roGood fuel p0) >>= fun x8 =>
  some x8

def fI_RootedProblem_hasLabels (p0 : T_RootedProblem) (p1 : List Int) : Option Bool :=
  (ck (p0.Labels - 1)) >>= fun x8 =>
  (fI_allWithin p1 0 x8) >>= fun x9 =>
  some x9

def pI_RootedProblem_hasLabels (w : World) (r : Bool) : Ending → World → Prop := fun e w' => e = .returned (.bool r) ∧ Keeps w w'
set_option maxRecDepth 100000 in
set_option maxHeartbeats 2000000 in
theorem cI_RootedProblem_hasLabels (w : World) (u0 : List Value) (p0 : T_RootedProblem) (g0 : Rp.rd zt w u0 p0) (u1 : Value) (p1 : List Int) (g1 : RdL zt w u1 p1) (r : Bool) (hF : fI_RootedProblem_hasLabels p0 p1 = some r) :
    Calls Try.prog 62 #[.agg u0.toArray, u1] w (pI_RootedProblem_hasLabels w r) := by
  unfold fI_RootedProblem_hasLabels at hF
  obtain ⟨v1, rfl, h2⟩ := g0
  have hB : Bs (fun _ => 1) (col (fun _ => 1)) w w := Bs.start _ _
  refine calls_start (n := 10) (vs := [(.agg #[(.int .i64 p0.Labels), (.int .i64 p0.Children), v1]), u1]) Try.func62 rfl rfl ?_
  refine wpC_seq ?_
  refine wpC_region ?_
  refine st_op (by decide) trivial ?_
  refine wf_box (o := (col (fun _ => 1))) w.heap.size 11 hB.keeps.size (cs := [(.int .i64 p0.Labels), (.int .i64 p0.Children), v1]) rfl rfl ?_
  intro o3 w4 b5 h6 s7
  replace hB := hB.stp s7 (by decide)
  refine st_val (ex_assign rfl) (by decide) trivial ?_
  refine wpF_end (r := [(1, u1), (2, (.pointer (some ⟨b5, 0, none⟩)))]) ⟨rfl, rfl, trivial⟩ ?_
  refine nx ?_
  refine wpC_seq ?_
  refine wpC_region ?_
  refine st_val (ex_move rfl) (by decide) trivial ?_
  refine st_val (ex_field rfl Try.underlying29 rfl Try.sizeOf3) (by decide) trivial ?_
  refine st_val (ex_load1 rfl Try.isAgg3 (h6.cell rfl)) (by decide) trivial ?_
  obtain ⟨x8, hx8, hF⟩ := bind_some hF
  refine st_val (ex_sub rfl rfl hx8) (by decide) trivial ?_
  obtain ⟨x9, hx9, hF⟩ := bind_some hF
  refine st_op (by decide) trivial ?_
  refine wf_call (cI_allWithin w4 _ p1 (g1.keep hB.keeps) 0 x8 x9 hx9) Try.call35 ⟨rfl, rfl, rfl, trivial⟩ ?_
  rintro e14 w10 ⟨rfl, k11⟩
  have s13 := k11.stp 999 o3
  refine ⟨_, rfl, ?_⟩
  replace h6 := h6.stp s13 (by decide)
  replace hB := hB.stp s13 (by decide)
  refine st_val (ex_assign rfl) (by decide) trivial ?_
  refine wpF_end (r := [(4, (.bool x9))]) ⟨rfl, trivial⟩ ?_
  refine nx ?_
  refine wpC_ret ?_
  have e15 := Option.some.inj hF
  subst e15
  refine ret_post (P := Try.prog) (vs := [(.bool x9)]) Try.results62 ⟨rfl, trivial⟩ ?_
  exact ⟨rfl, hB.keeps⟩

def fI_IsRootedProblem_s1 (fuel : Nat) (p0 : T_RootedProblem) : Int → (List Int) → Unit → Option (Lp Unit Unit Bool) := fun (i31 : Int) (x41 : List Int) (s : Unit) =>
  (ck (p0.Children + 1)) >>= fun x49 =>
  (
    if (x41.length : Int) != x49 then
      some true
    else
      (fI_RootedProblem_hasLabels p0 x41) >>= fun x54 =>
      if !x54 then
        some true
      else
        (cut x41 1 x41.length) >>= fun x61 =>
        (fX_slices_IsSorted_int_int fuel x61) >>= fun x64 =>
        if !x64 then
          some true
        else
          if decide (i31 > 0) then
            (ck (i31 - 1)) >>= fun x72 =>
            (ix p0.Lines x72) >>= fun x73 =>
            (fX_slices_Compare_int_int x73 x41) >>= fun x81 =>
            some (decide (x81 ≥ 0))
          else
            some false) >>= fun q50 =>
  if q50 then
    some (.ret false)
  else
    some (.go ())
def fI_IsRootedProblem (fuel : Nat) (p0 : T_RootedProblem) : Option Bool :=
  (fI_within p0.Labels 1 8) >>= fun x8 =>
  (
    if !x8 then
      some true
    else
      (fI_within p0.Children 1 3) >>= fun x18 =>
      some (!x18)) >>= fun q14 =>
  if q14 then
    some false
  else
    (forI (fI_IsRootedProblem_s1 fuel p0) p0.Lines 0 ()) >>= fun q32 =>
    match q32 with
    | .inl _ =>
      some true
    | .inr r' => some r'

def pI_IsRootedProblem (w : World) (r : Bool) : Ending → World → Prop := fun e w' => e = .returned (.bool r) ∧ Keeps w w'
set_option maxRecDepth 100000 in
set_option maxHeartbeats 2000000 in
theorem cI_IsRootedProblem (fuel : Nat) (w : World) (u0 : List Value) (p0 : T_RootedProblem) (g0 : Rp.rd zt w u0 p0) (r : Bool) (hF : fI_IsRootedProblem fuel p0 = some r) :
    Calls Try.prog 44 #[.agg u0.toArray] w (pI_IsRootedProblem w r) := by
  unfold fI_IsRootedProblem at hF
  obtain ⟨v1, rfl, h2⟩ := g0
  have hB : Bs (fun _ => 1) (col (fun _ => 1)) w w := Bs.start _ _
  refine calls_start (n := 57) (vs := [(.agg #[(.int .i64 p0.Labels), (.int .i64 p0.Children), v1])]) Try.func44 rfl rfl ?_
  refine wpC_seq ?_
  refine wpC_region ?_
  refine st_op (by decide) trivial ?_
  refine wf_box (o := (col (fun _ => 1))) w.heap.size 11 hB.keeps.size (cs := [(.int .i64 p0.Labels), (.int .i64 p0.Children), v1]) rfl rfl ?_
  intro o3 w4 b5 h6 s7
  replace hB := hB.stp s7 (by decide)
  refine st_val (ex_assign rfl) (by decide) trivial ?_
  refine wpF_end (r := [(1, (.pointer (some ⟨b5, 0, none⟩)))]) ⟨rfl, trivial⟩ ?_
  refine nx ?_
  refine wpC_seq ?_
  refine wpC_seq ?_
  refine wpC_region ?_
  refine st_val (ex_field rfl Try.underlying29 rfl Try.sizeOf3) (by decide) trivial ?_
  refine st_val (ex_load1 rfl Try.isAgg3 (h6.cell rfl)) (by decide) trivial ?_
  obtain ⟨x8, hx8, hF⟩ := bind_some hF
  refine st_op (by decide) trivial ?_
  refine wf_call (cI_within w4 p0.Labels 1 8 x8 hx8) Try.call55 ⟨rfl, rfl, rfl, trivial⟩ ?_
  rintro e13 w9 ⟨rfl, k10⟩
  have s12 := k10.stp 999 o3
  refine ⟨_, rfl, ?_⟩
  replace h6 := h6.stp s12 (by decide)
  replace hB := hB.stp s12 (by decide)
  refine st_val (ex_not rfl) (by decide) trivial ?_
  refine st_val (ex_move rfl) (by decide) trivial ?_
  obtain ⟨q14, hq14, hF⟩ := bind_some hF
  refine wpF_cutAt 5 (fun a16 w15 => Fr a16 57 [(1, (.pointer (some ⟨b5, 0, none⟩))), (14, (.bool q14))] ∧ Keeps w9 w15) ?_ ?_
  all_goals simp only [List.take_succ_cons, List.take_zero, List.drop_succ_cons, List.drop_zero]
  · have kp : Keeps w9 w9 := Keeps.refl _
    rcases Bool.eq_false_or_eq_true (!x8) with t17 | t17
    · rw [if_pos t17] at hq14
      refine st_no rfl rfl (by rw [t17]; rfl) (by decide) ?_
      refine st_no rfl rfl (by rw [t17]; rfl) (by decide) ?_
      refine st_no rfl rfl (by rw [t17]; rfl) (by decide) ?_
      refine st_no rfl rfl (by rw [t17]; rfl) (by decide) ?_
      refine st_val (ex_pick_t (congrArg (fun b => some (Value.bool b)) t17) rfl) (by decide) trivial ?_
      have hq142 := Option.some.inj hq14
      refine wpF_end (r := [(1, (.pointer (some ⟨b5, 0, none⟩))), (14, (.bool true))]) ⟨rfl, rfl, trivial⟩ ?_
      subst hq142
      refine np_norm (fun a ha => ⟨ha, kp⟩)
    · rw [if_neg (by rw [t17]; decide)] at hq14
      refine st_val (ex_field rfl Try.underlying29 rfl Try.sizeOf3) (by decide) ⟨_, rfl, (congrArg (fun b => some (Value.bool b)) t17)⟩ ?_
      refine st_val (ex_load1 rfl Try.isAgg3 (h6.cell rfl)) (by decide) ⟨_, rfl, (congrArg (fun b => some (Value.bool b)) t17)⟩ ?_
      obtain ⟨x18, hx18, hq14⟩ := bind_some hq14
      refine st_op (by decide) ⟨_, rfl, (congrArg (fun b => some (Value.bool b)) t17)⟩ ?_
      refine wf_call (cI_within w9 p0.Children 1 3 x18 hx18) Try.call55 ⟨rfl, rfl, rfl, trivial⟩ ?_
      rintro e23 w19 ⟨rfl, k20⟩
      have s22 := k20.stp 999 o3
      refine ⟨_, rfl, ?_⟩
      replace h6 := h6.stp s22 (by decide)
      replace hB := hB.stp s22 (by decide)
      replace kp := Keeps.trans kp k20
      refine st_val (ex_not rfl) (by decide) ⟨_, rfl, (congrArg (fun b => some (Value.bool b)) t17)⟩ ?_
      refine st_val (ex_pick_f (congrArg (fun b => some (Value.bool b)) t17) rfl) (by decide) trivial ?_
      have hq142 := Option.some.inj hq14
      refine wpF_end (r := [(1, (.pointer (some ⟨b5, 0, none⟩))), (14, (.bool (!x18)))]) ⟨rfl, rfl, trivial⟩ ?_
      subst hq142
      refine np_norm (fun a ha => ⟨ha, kp⟩)
  rintro a26 w15 ⟨ha, k24⟩
  have s25 := k24.stp 999 o3
  replace h6 := h6.stp s25 (by decide)
  replace hB := hB.stp s25 (by decide)
  refine wl_of ha ?_
  refine wpF_end (r := [(1, (.pointer (some ⟨b5, 0, none⟩))), (14, (.bool q14))]) ⟨rfl, rfl, trivial⟩ ?_
  refine nx ?_
  refine wpC_cond rfl (fun t27 => ?_) (fun t27 => ?_)
  · rw [if_pos t27] at hF
    refine wpC_seq ?_
    refine wpC_region ?_
    refine st_val (ex_assign rfl) (by decide) trivial ?_
    refine wpF_end (r := [(2, (.bool false))]) ⟨rfl, trivial⟩ ?_
    refine nx ?_
    refine wpC_ret ?_
    refine nt_ret ?_
    have e28 := Option.some.inj hF
    subst e28
    refine ret_post (P := Try.prog) (vs := [(.bool false)]) Try.results44 ⟨rfl, trivial⟩ ?_
    exact ⟨rfl, hB.keeps⟩
  · rw [if_neg (by rw [t27]; decide)] at hF
    refine wpC_skip ?_
    refine nx ?_
    refine wpC_seq ?_
    refine wpC_seq ?_
    refine wpC_region ?_
    refine st_val (ex_field rfl Try.underlying29 rfl Try.sizeOf22) (by decide) trivial ?_
    refine st_val (ex_load1 rfl Try.isAgg22 (h6.cell rfl)) (by decide) trivial ?_
    refine st_val (ex_lenR rfl h2 Try.underlying22) (by decide) trivial ?_
    refine st_val (ex_move rfl) (by decide) trivial ?_
    refine wpF_end (r := [(1, (.pointer (some ⟨b5, 0, none⟩))), (16, v1), (17, (.int .i64 (p0.Lines.length : Int))), (18, (.int .i64 0))]) ⟨rfl, rfl, rfl, rfl, trivial⟩ ?_
    refine nx ?_
    obtain ⟨q32, hq32, hF⟩ := bind_some hF
    refine wpC_cutN (fun a w30 => ∃ (o29 : Tg), q32 = .inl () ∧ Fr a 57 [] ∧ Bs (fun _ => 1) o29 w w30) (fun a w' => ∃ r', q32 = .inr r' ∧ bodyPost Try.prog Try.f44 (pI_IsRootedProblem w r') .ret a w') ?_ ?_ ?_
    · refine wpC_block ?_
      refine wpC_loop (fun (K : Nat) a w30 => ∃ (i31 : Int) (o29 : Tg), forI (fI_IsRootedProblem_s1 fuel p0) (p0.Lines.drop i31.toNat) i31 () = some q32 ∧ (p0.Lines.drop i31.toNat).length = K ∧ 0 ≤ i31 ∧ Fr a 57 [(1, (.pointer (some ⟨b5, 0, none⟩))), (16, v1), (17, (.int .i64 (p0.Lines.length : Int))), (18, (.int .i64 i31))] ∧ Bs (fun _ => 1) o29 w w30 ∧ Bx w.heap.size 11 o29 w30 b5 29 [(.int .i64 p0.Labels), (.int .i64 p0.Children), v1]) _ (fun a ha => ⟨0, o3, hq32, rfl, Int.le_refl 0, ha.sub (r := [(1, (.pointer (some ⟨b5, 0, none⟩))), (16, v1), (17, (.int .i64 (p0.Lines.length : Int))), (18, (.int .i64 0))]) ⟨rfl, rfl, rfl, rfl, trivial⟩, hB, h6⟩) ?_
      rintro K36 a w30 ⟨i31, o29, l33, m35, z34, ha, hB, h6⟩
      by_cases t40 : i31 < (p0.Lines.length : Int)
      · obtain ⟨x41, q37, hx41, b38, n39⟩ := forI_cons z34 t40 l33
        have hle := h2.len_le
        dsimp only [fI_IsRootedProblem_s1] at b38
        refine wp_of ha ?_
        refine wpC_seq ?_
        refine wpC_region ?_
        refine st_val (ex_lss rfl rfl) (by decide) trivial ?_
        refine wpF_end (r := [(1, (.pointer (some ⟨b5, 0, none⟩))), (16, v1), (17, (.int .i64 (p0.Lines.length : Int))), (18, (.int .i64 i31)), (19, (.bool (decide (i31 < (p0.Lines.length : Int)))))]) ⟨rfl, rfl, rfl, rfl, rfl, trivial⟩ ?_
        refine nx ?_
        refine wpC_seq ?_
        refine wpC_true (congrArg (fun b => some (Value.bool b)) (decide_eq_true t40)) ?_
        refine wpC_skip ?_
        refine nx ?_
        refine wpC_seq ?_
        refine wpC_block ?_
        refine wpC_seq ?_
        refine wpC_region ?_
        refine st_val (ex_move rfl) (by decide) trivial ?_
        refine st_op (by decide) trivial ?_
        refine wf_atZ h2 hx41 hB rfl rfl Try.underlying22 Try.sizeOf25 ?_
        intro b42 f43 c44 h45 h46
        obtain ⟨v47, rfl, h48⟩ := h46
        refine st_val (ex_load1 rfl Try.isAgg25 (cell_of_cells h45)) (by decide) trivial ?_
        refine st_val (ex_assign rfl) (by decide) trivial ?_
        refine st_val (ex_assign rfl) (by decide) trivial ?_
        refine wpF_end (r := [(1, (.pointer (some ⟨b5, 0, none⟩))), (3, (.int .i64 i31)), (4, v47), (16, v1), (17, (.int .i64 (p0.Lines.length : Int))), (18, (.int .i64 i31))]) ⟨rfl, rfl, rfl, rfl, rfl, rfl, trivial⟩ ?_
        refine nx ?_
        refine wpC_seq ?_
        refine wpC_region ?_
        refine st_val (ex_move rfl) (by decide) trivial ?_
        refine st_val (ex_lenR rfl h48 Try.underlying25) (by decide) trivial ?_
        refine st_val (ex_field rfl Try.underlying29 rfl Try.sizeOf3) (by decide) trivial ?_
        refine st_val (ex_load1 rfl Try.isAgg3 (h6.cell rfl)) (by decide) trivial ?_
        obtain ⟨x49, hx49, b38⟩ := bind_some b38
        refine st_val (ex_add rfl rfl hx49) (by decide) trivial ?_
        refine st_val (ex_neq rfl rfl) (by decide) trivial ?_
        refine st_val (ex_move rfl) (by decide) trivial ?_
        obtain ⟨q50, hq50, b38⟩ := bind_some b38
        refine wpF_cutAt 26 (fun a52 w51 => Fr a52 57 [(1, (.pointer (some ⟨b5, 0, none⟩))), (16, v1), (17, (.int .i64 (p0.Lines.length : Int))), (18, (.int .i64 i31)), (55, (.bool q50))] ∧ Keeps w30 w51) ?_ ?_
        all_goals simp only [List.take_succ_cons, List.take_zero, List.drop_succ_cons, List.drop_zero]
        · have kp : Keeps w30 w30 := Keeps.refl _
          rcases Bool.eq_false_or_eq_true ((x41.length : Int) != x49) with t53 | t53
          · rw [if_pos t53] at hq50
            refine st_no rfl rfl (by rw [t53]; rfl) (by decide) ?_
            refine st_no rfl rfl (by rw [t53]; rfl) (by decide) ?_
            refine st_no rfl rfl (by rw [t53]; rfl) (by decide) ?_
            refine st_no rfl rfl (by rw [t53]; rfl) (by decide) ?_
            refine st_val (ex_pick_t (congrArg (fun b => some (Value.bool b)) t53) rfl) (by decide) trivial ?_
            refine st_val (ex_move rfl) (by decide) trivial ?_
            refine st_no rfl rfl rfl (by decide) ?_
            refine st_no rfl rfl rfl (by decide) ?_
            refine st_no rfl rfl rfl (by decide) ?_
            refine st_no rfl rfl rfl (by decide) ?_
            refine st_val (ex_pick_t rfl rfl) (by decide) trivial ?_
            refine st_val (ex_move rfl) (by decide) trivial ?_
            refine st_no rfl rfl rfl (by decide) ?_
            refine st_no rfl rfl rfl (by decide) ?_
            refine st_no rfl rfl rfl (by decide) ?_
            refine st_no2 rfl rfl (by decide) ?_
            refine st_no2 rfl rfl (by decide) ?_
            refine st_no2 rfl rfl (by decide) ?_
            refine st_no2 rfl rfl (by decide) ?_
            refine st_no2 rfl rfl (by decide) ?_
            refine st_no2 rfl rfl (by decide) ?_
            refine st_no2 rfl rfl (by decide) ?_
            refine st_no2 rfl rfl (by decide) ?_
            refine st_no2 rfl rfl (by decide) ?_
            refine st_no rfl rfl rfl (by decide) ?_
            refine st_val (ex_pick_t rfl rfl) (by decide) trivial ?_
            have hq502 := Option.some.inj hq50
            refine wpF_end (r := [(1, (.pointer (some ⟨b5, 0, none⟩))), (16, v1), (17, (.int .i64 (p0.Lines.length : Int))), (18, (.int .i64 i31)), (55, (.bool true))]) ⟨rfl, rfl, rfl, rfl, rfl, trivial⟩ ?_
            subst hq502
            refine np_norm (fun a ha => ⟨ha, kp⟩)
          · rw [if_neg (by rw [t53]; decide)] at hq50
            refine st_val (ex_loadA rfl Try.isAgg29 Try.sizeOf29 rfl h6.cells) (by decide) ⟨_, rfl, (congrArg (fun b => some (Value.bool b)) t53)⟩ ?_
            refine st_val (ex_move rfl) (by decide) ⟨_, rfl, (congrArg (fun b => some (Value.bool b)) t53)⟩ ?_
            obtain ⟨x54, hx54, hq50⟩ := bind_some hq50
            refine st_op (by decide) ⟨_, rfl, (congrArg (fun b => some (Value.bool b)) t53)⟩ ?_
            refine wf_call (cI_RootedProblem_hasLabels w30 _ p0 (⟨_, rfl, (h2.keep hB.keeps)⟩) _ x41 (h48.keep hB.keeps) x54 hx54) Try.call62 ⟨rfl, rfl, trivial⟩ ?_
            rintro e59 w55 ⟨rfl, k56⟩
            have s58 := k56.stp 999 o29
            refine ⟨_, rfl, ?_⟩
            replace h6 := h6.stp s58 (by decide)
            replace hB := hB.stp s58 (by decide)
            replace kp := Keeps.trans kp k56
            refine st_val (ex_not rfl) (by decide) ⟨_, rfl, (congrArg (fun b => some (Value.bool b)) t53)⟩ ?_
            refine st_val (ex_pick_f (congrArg (fun b => some (Value.bool b)) t53) rfl) (by decide) trivial ?_
            refine st_val (ex_move rfl) (by decide) trivial ?_
            rcases Bool.eq_false_or_eq_true (!x54) with t60 | t60
            · rw [if_pos t60] at hq50
              refine st_no rfl rfl (by rw [t60]; rfl) (by decide) ?_
              refine st_no rfl rfl (by rw [t60]; rfl) (by decide) ?_
              refine st_no rfl rfl (by rw [t60]; rfl) (by decide) ?_
              refine st_no rfl rfl (by rw [t60]; rfl) (by decide) ?_
              refine st_val (ex_pick_t (congrArg (fun b => some (Value.bool b)) t60) rfl) (by decide) trivial ?_
              refine st_val (ex_move rfl) (by decide) trivial ?_
              refine st_no rfl rfl rfl (by decide) ?_
              refine st_no rfl rfl rfl (by decide) ?_
              refine st_no rfl rfl rfl (by decide) ?_
              refine st_no2 rfl rfl (by decide) ?_
              refine st_no2 rfl rfl (by decide) ?_
              refine st_no2 rfl rfl (by decide) ?_
              refine st_no2 rfl rfl (by decide) ?_
              refine st_no2 rfl rfl (by decide) ?_
              refine st_no2 rfl rfl (by decide) ?_
              refine st_no2 rfl rfl (by decide) ?_
              refine st_no2 rfl rfl (by decide) ?_
              refine st_no2 rfl rfl (by decide) ?_
              refine st_no rfl rfl rfl (by decide) ?_
              refine st_val (ex_pick_t rfl rfl) (by decide) trivial ?_
              have hq502 := Option.some.inj hq50
              refine wpF_end (r := [(1, (.pointer (some ⟨b5, 0, none⟩))), (16, v1), (17, (.int .i64 (p0.Lines.length : Int))), (18, (.int .i64 i31)), (55, (.bool true))]) ⟨rfl, rfl, rfl, rfl, rfl, trivial⟩ ?_
              subst hq502
              refine np_norm (fun a ha => ⟨ha, kp⟩)
            · rw [if_neg (by rw [t60]; decide)] at hq50
              refine st_val (ex_move rfl) (by decide) ⟨_, rfl, (congrArg (fun b => some (Value.bool b)) t60)⟩ ?_
              obtain ⟨x61, hx61, hq50⟩ := bind_some hq50
              refine st_op (by decide) ⟨_, rfl, (congrArg (fun b => some (Value.bool b)) t60)⟩ ?_
              refine wf_cutZ h48 hx61 rfl rfl rfl Try.underlying25 Try.sizeOf3 ?_
              intro v62 h63
              obtain ⟨x64, hx64, hq50⟩ := bind_some hq50
              refine st_op (by decide) ⟨_, rfl, (congrArg (fun b => some (Value.bool b)) t60)⟩ ?_
              refine wf_call (cX_slices_IsSorted_int_int fuel w55 _ x61 (h63.keep hB.keeps) x64 hx64) Try.call63 ⟨rfl, trivial⟩ ?_
              rintro e69 w65 ⟨rfl, k66⟩
              have s68 := k66.stp 999 o29
              refine ⟨_, rfl, ?_⟩
              replace h6 := h6.stp s68 (by decide)
              replace hB := hB.stp s68 (by decide)
              replace kp := Keeps.trans kp k66
              refine st_val (ex_not rfl) (by decide) ⟨_, rfl, (congrArg (fun b => some (Value.bool b)) t60)⟩ ?_
              refine st_val (ex_pick_f (congrArg (fun b => some (Value.bool b)) t60) rfl) (by decide) trivial ?_
              refine st_val (ex_move rfl) (by decide) trivial ?_
              rcases Bool.eq_false_or_eq_true (!x64) with t70 | t70
              · rw [if_pos t70] at hq50
                refine st_no rfl rfl (by rw [t70]; rfl) (by decide) ?_
                refine st_no rfl rfl (by rw [t70]; rfl) (by decide) ?_
                refine st_no rfl rfl (by rw [t70]; rfl) (by decide) ?_
                refine st_no2 rfl rfl (by decide) ?_
                refine st_no2 rfl rfl (by decide) ?_
                refine st_no2 rfl rfl (by decide) ?_
                refine st_no2 rfl rfl (by decide) ?_
                refine st_no2 rfl rfl (by decide) ?_
                refine st_no2 rfl rfl (by decide) ?_
                refine st_no2 rfl rfl (by decide) ?_
                refine st_no2 rfl rfl (by decide) ?_
                refine st_no2 rfl rfl (by decide) ?_
                refine st_no rfl rfl (by rw [t70]; rfl) (by decide) ?_
                refine st_val (ex_pick_t (congrArg (fun b => some (Value.bool b)) t70) rfl) (by decide) trivial ?_
                have hq502 := Option.some.inj hq50
                refine wpF_end (r := [(1, (.pointer (some ⟨b5, 0, none⟩))), (16, v1), (17, (.int .i64 (p0.Lines.length : Int))), (18, (.int .i64 i31)), (55, (.bool true))]) ⟨rfl, rfl, rfl, rfl, rfl, trivial⟩ ?_
                subst hq502
                refine np_norm (fun a ha => ⟨ha, kp⟩)
              · rw [if_neg (by rw [t70]; decide)] at hq50
                refine st_val (ex_move rfl) (by decide) ⟨_, rfl, (congrArg (fun b => some (Value.bool b)) t70)⟩ ?_
                refine st_val (ex_gtr rfl rfl) (by decide) ⟨_, rfl, (congrArg (fun b => some (Value.bool b)) t70)⟩ ?_
                refine st_val (ex_move rfl) (by decide) ⟨_, rfl, (congrArg (fun b => some (Value.bool b)) t70)⟩ ?_
                rcases Bool.eq_false_or_eq_true (decide (i31 > 0)) with t71 | t71
                · rw [if_pos t71] at hq50
                  refine st_val (ex_field rfl Try.underlying29 rfl Try.sizeOf22) (by decide) ⟨_, rfl, (congrArg (fun b => some (Value.bool b)) t71)⟩ ?_
                  refine st_val (ex_load1 rfl Try.isAgg22 (h6.cell rfl)) (by decide) ⟨_, rfl, (congrArg (fun b => some (Value.bool b)) t71)⟩ ?_
                  refine st_val (ex_move rfl) (by decide) ⟨_, rfl, (congrArg (fun b => some (Value.bool b)) t71)⟩ ?_
                  obtain ⟨x72, hx72, hq50⟩ := bind_some hq50
                  refine st_val (ex_sub rfl rfl hx72) (by decide) ⟨_, rfl, (congrArg (fun b => some (Value.bool b)) t71)⟩ ?_
                  obtain ⟨x73, hx73, hq50⟩ := bind_some hq50
                  refine st_op (by decide) ⟨_, rfl, (congrArg (fun b => some (Value.bool b)) t71)⟩ ?_
                  refine wf_atZ h2 hx73 hB rfl rfl Try.underlying22 Try.sizeOf25 ?_
                  intro b74 f75 c76 h77 h78
                  obtain ⟨v79, rfl, h80⟩ := h78
                  refine st_val (ex_load1 rfl Try.isAgg25 (cell_of_cells h77)) (by decide) ⟨_, rfl, (congrArg (fun b => some (Value.bool b)) t71)⟩ ?_
                  refine st_val (ex_move rfl) (by decide) ⟨_, rfl, (congrArg (fun b => some (Value.bool b)) t71)⟩ ?_
                  obtain ⟨x81, hx81, hq50⟩ := bind_some hq50
                  refine st_op (by decide) ⟨_, rfl, (congrArg (fun b => some (Value.bool b)) t71)⟩ ?_
                  refine wf_call (cX_slices_Compare_int_int w65 _ x73 (h80.keep hB.keeps) _ x41 (h48.keep hB.keeps) x81 hx81) Try.call51 ⟨rfl, rfl, trivial⟩ ?_
                  rintro e86 w82 ⟨rfl, k83⟩
                  have s85 := k83.stp 999 o29
                  refine ⟨_, rfl, ?_⟩
                  replace h6 := h6.stp s85 (by decide)
                  replace hB := hB.stp s85 (by decide)
                  replace kp := Keeps.trans kp k83
                  refine st_val (ex_geq rfl rfl) (by decide) ⟨_, rfl, (congrArg (fun b => some (Value.bool b)) t71)⟩ ?_
                  refine st_val (ex_pick_t (congrArg (fun b => some (Value.bool b)) t71) rfl) (by decide) ⟨_, rfl, (congrArg (fun b => some (Value.bool b)) t70)⟩ ?_
                  refine st_val (ex_pick_f (congrArg (fun b => some (Value.bool b)) t70) rfl) (by decide) trivial ?_
                  have hq502 := Option.some.inj hq50
                  refine wpF_end (r := [(1, (.pointer (some ⟨b5, 0, none⟩))), (16, v1), (17, (.int .i64 (p0.Lines.length : Int))), (18, (.int .i64 i31)), (55, (.bool (decide (x81 ≥ 0))))]) ⟨rfl, rfl, rfl, rfl, rfl, trivial⟩ ?_
                  subst hq502
                  refine np_norm (fun a ha => ⟨ha, kp⟩)
                · rw [if_neg (by rw [t71]; decide)] at hq50
                  refine st_no rfl rfl (by rw [t71]; rfl) (by decide) ?_
                  refine st_no rfl rfl (by rw [t71]; rfl) (by decide) ?_
                  refine st_no rfl rfl (by rw [t71]; rfl) (by decide) ?_
                  refine st_no rfl rfl (by rw [t71]; rfl) (by decide) ?_
                  refine st_no rfl rfl (by rw [t71]; rfl) (by decide) ?_
                  refine st_no rfl rfl (by rw [t71]; rfl) (by decide) ?_
                  refine st_no rfl rfl (by rw [t71]; rfl) (by decide) ?_
                  refine st_no rfl rfl (by rw [t71]; rfl) (by decide) ?_
                  refine st_no rfl rfl (by rw [t71]; rfl) (by decide) ?_
                  refine st_val (ex_pick_f (congrArg (fun b => some (Value.bool b)) t71) rfl) (by decide) ⟨_, rfl, (congrArg (fun b => some (Value.bool b)) t70)⟩ ?_
                  refine st_val (ex_pick_f (congrArg (fun b => some (Value.bool b)) t70) rfl) (by decide) trivial ?_
                  have hq502 := Option.some.inj hq50
                  refine wpF_end (r := [(1, (.pointer (some ⟨b5, 0, none⟩))), (16, v1), (17, (.int .i64 (p0.Lines.length : Int))), (18, (.int .i64 i31)), (55, (.bool false))]) ⟨rfl, rfl, rfl, rfl, rfl, trivial⟩ ?_
                  subst hq502
                  refine np_norm (fun a ha => ⟨ha, kp⟩)
        rintro a89 w51 ⟨ha, k87⟩
        have s88 := k87.stp 999 o29
        replace h6 := h6.stp s88 (by decide)
        replace hB := hB.stp s88 (by decide)
        refine wl_of ha ?_
        refine wpF_end (r := [(1, (.pointer (some ⟨b5, 0, none⟩))), (16, v1), (17, (.int .i64 (p0.Lines.length : Int))), (18, (.int .i64 i31)), (55, (.bool q50))]) ⟨rfl, rfl, rfl, rfl, rfl, trivial⟩ ?_
        refine nx ?_
        refine wpC_cond rfl (fun t90 => ?_) (fun t90 => ?_)
        · rw [if_pos t90] at b38
          refine wpC_seq ?_
          refine wpC_region ?_
          refine st_val (ex_assign rfl) (by decide) trivial ?_
          refine wpF_end (r := [(2, (.bool false))]) ⟨rfl, trivial⟩ ?_
          refine nx ?_
          refine wpC_ret ?_
          refine nb_ret ?_
          refine nt_ret ?_
          refine nt_ret ?_
          refine nb_ret ?_
          refine np_ret ?_
          have e91 := Option.some.inj b38
          subst e91
          refine fun a ha => ⟨_, n39, ?_⟩
          refine ret_post (P := Try.prog) (vs := [(.bool false)]) Try.results44 ⟨rfl, trivial⟩ ?_ a ha
          exact ⟨rfl, hB.keeps⟩
        · rw [if_neg (by rw [t90]; decide)] at b38
          refine wpC_skip ?_
          refine nb_norm ?_
          refine nx ?_
          refine wpC_region ?_
          refine st_val (ex_add rfl rfl (ck_in (by omega) (by omega))) (by decide) trivial ?_
          refine st_val (ex_move rfl) (by decide) trivial ?_
          refine wpF_end (r := [(1, (.pointer (some ⟨b5, 0, none⟩))), (16, v1), (17, (.int .i64 (p0.Lines.length : Int))), (18, (.int .i64 (i31 + 1)))]) ⟨rfl, rfl, rfl, rfl, trivial⟩ ?_
          refine nt_norm ?_
          have e92 := Option.some.inj b38
          subst e92
          refine to_k (r := [(1, (.pointer (some ⟨b5, 0, none⟩))), (16, v1), (17, (.int .i64 (p0.Lines.length : Int))), (18, (.int .i64 (i31 + 1)))]) ⟨rfl, rfl, rfl, rfl, trivial⟩ ?_
          intro a ha
          exact ⟨_, (by rw [← m35]; simp only [List.length_drop]; omega), i31 + 1, o29, n39, rfl, (by omega), ha, hB, h6⟩
      · have r93 := forI_done t40 l33
        refine wp_of ha ?_
        refine wpC_seq ?_
        refine wpC_region ?_
        refine st_val (ex_lss rfl rfl) (by decide) trivial ?_
        refine wpF_end (r := [(1, (.pointer (some ⟨b5, 0, none⟩))), (16, v1), (17, (.int .i64 (p0.Lines.length : Int))), (18, (.int .i64 i31)), (19, (.bool (decide (i31 < (p0.Lines.length : Int)))))]) ⟨rfl, rfl, rfl, rfl, rfl, trivial⟩ ?_
        refine nx ?_
        refine wpC_seq ?_
        refine wpC_false (congrArg (fun b => some (Value.bool b)) (decide_eq_false t40)) ?_
        refine wpC_exit ?_
        refine nt_exit ?_
        refine nt_exit ?_
        refine nb_hit ?_
        refine np_norm ?_
        refine to_k (r := []) trivial ?_
        intro a ha
        exact ⟨o29, r93, ha, hB⟩
    · rintro a w30 ⟨o29, rfl, ha, hB⟩
      dsimp only at hF
      refine ap_k ha ?_
      refine nx ?_
      refine wpC_seq ?_
      refine wpC_region ?_
      refine st_val (ex_assign rfl) (by decide) trivial ?_
      refine wpF_end (r := [(2, (.bool true))]) ⟨rfl, trivial⟩ ?_
      refine nx ?_
      refine wpC_ret ?_
      have e94 := Option.some.inj hF
      subst e94
      refine ret_post (P := Try.prog) (vs := [(.bool true)]) Try.results44 ⟨rfl, trivial⟩ ?_
      exact ⟨rfl, hB.keeps⟩
    · rintro a w30 ⟨r', rfl, b95⟩
      dsimp only at hF
      have e96 := Option.some.inj hF
      subst e96
      exact b95

end Go.Proofs.Ytjmhjobfiemmnaa
