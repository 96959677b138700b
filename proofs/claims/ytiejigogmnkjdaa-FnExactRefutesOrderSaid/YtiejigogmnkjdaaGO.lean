/- spec.cyLong, spec.cyIds, spec.cyWide, spec.cyWindow, spec.OrderWindow, impl.idsOk, impl.isRing, impl.areRingIds, impl.windowOk, impl.orderWindow, impl.OrderWindow, spec.cyAlike, spec.SameOrderPair, slices.Equal[[]int,int], impl.sameOrder, impl.SameOrderPair: plain functions, and the walks that show that the program computes them (printed by gen.py). -/
import Derived.Test.YtiejigogmnkjdaaGN
namespace Go.Proofs.Ytiejigogmnkjdaa
open Go.RowKit
set_option linter.unusedSimpArgs false
set_option linter.unusedVariables false

theorem info2_t_int_O : Inf Try.prog 3 (.int .i64 0) 1 8 := by unfold Inf; kernel_rfl

def fS_cyLong (p0 : List Int) : Option Bool :=
  (fS_l1In (p0.length : Int) 2 180) >>= fun x1 =>
  some x1

def pS_cyLong (w : World) (r : Bool) : Ending → World → Prop := fun e w' => e = .returned (.bool r) ∧ Keeps w w'
set_option maxRecDepth 100000 in
set_option maxHeartbeats 2000000 in
theorem cS_cyLong (w : World) (u0 : Value) (p0 : List Int) (g0 : RdL zt w u0 p0) (r : Bool) (hF : fS_cyLong p0 = some r) :
    Calls Try.prog 185 #[u0] w (pS_cyLong w r) := by
  unfold fS_cyLong at hF
  have hB : Bs (fun _ => 1) (col (fun _ => 1)) w w := Bs.start _ _
  refine calls_start (n := 6) (vs := [u0]) Try.func185 rfl rfl ?_
  refine wpC_seq ?_
  refine wpC_region ?_
  refine st_val (ex_assign rfl) (by decide) trivial ?_
  refine wpF_end (r := [(0, u0)]) ⟨rfl, trivial⟩ ?_
  refine nx ?_
  refine wpC_seq ?_
  refine wpC_region ?_
  refine st_val (ex_move rfl) (by decide) trivial ?_
  refine st_val (ex_lenR rfl g0 Try.underlying25) (by decide) trivial ?_
  obtain ⟨x1, hx1, hF⟩ := bind_some hF
  refine st_op (by decide) trivial ?_
  refine wf_call (cS_l1In w (p0.length : Int) 2 180 x1 hx1) Try.call100 ⟨rfl, rfl, rfl, trivial⟩ ?_
  rintro e6 w2 ⟨rfl, k3⟩
  have s5 := k3.stp 999 (col (fun _ => 1))
  refine ⟨_, rfl, ?_⟩
  replace hB := hB.stp s5 (by decide)
  refine st_val (ex_assign rfl) (by decide) trivial ?_
  refine wpF_end (r := [(2, (.bool x1))]) ⟨rfl, trivial⟩ ?_
  refine nx ?_
  refine wpC_ret ?_
  have e7 := Option.some.inj hF
  subst e7
  refine ret_post (P := Try.prog) (vs := [(.bool x1)]) Try.results185 ⟨rfl, trivial⟩ ?_
  exact ⟨rfl, hB.keeps⟩

def fS_cyIds_s1 (p0 : List Int) : Int → Int → Unit → Option (Lp Unit Unit Bool) := fun (i3 : Int) (x13 : Int) (s : Unit) =>
  (fS_l1In x13 1 999999) >>= fun x19 =>
  (
    if !x19 then
      some true
    else
      (cut p0 0 i3) >>= fun x29 =>
      (fS_l1Has x29 x13) >>= fun x32 =>
      some x32) >>= fun q25 =>
  if q25 then
    some (.ret false)
  else
    some (.go ())
def fS_cyIds (p0 : List Int) : Option Bool :=
  (forI (fS_cyIds_s1 p0) p0 0 ()) >>= fun q4 =>
  match q4 with
  | .inl _ =>
    (fS_cyLong p0) >>= fun x45 =>
    some x45
  | .inr r' => some r'

def pS_cyIds (w : World) (r : Bool) : Ending → World → Prop := fun e w' => e = .returned (.bool r) ∧ Keeps w w'
set_option maxRecDepth 100000 in
set_option maxHeartbeats 2000000 in
theorem cS_cyIds (w : World) (u0 : Value) (p0 : List Int) (g0 : RdL zt w u0 p0) (r : Bool) (hF : fS_cyIds p0 = some r) :
    Calls Try.prog 153 #[u0] w (pS_cyIds w r) := by
  unfold fS_cyIds at hF
  have hB : Bs (fun _ => 1) (col (fun _ => 1)) w w := Bs.start _ _
  refine calls_start (n := 25) (vs := [u0]) Try.func153 rfl rfl ?_
  refine wpC_seq ?_
  refine wpC_region ?_
  refine st_val (ex_assign rfl) (by decide) trivial ?_
  refine wpF_end (r := [(0, u0)]) ⟨rfl, trivial⟩ ?_
  refine nx ?_
  refine wpC_seq ?_
  refine wpC_seq ?_
  refine wpC_region ?_
  refine st_val (ex_move rfl) (by decide) trivial ?_
  refine st_val (ex_lenR rfl g0 Try.underlying25) (by decide) trivial ?_
  refine st_val (ex_move rfl) (by decide) trivial ?_
  refine wpF_end (r := [(0, u0), (5, u0), (6, (.int .i64 (p0.length : Int))), (7, (.int .i64 0))]) ⟨rfl, rfl, rfl, rfl, trivial⟩ ?_
  refine nx ?_
  obtain ⟨q4, hq4, hF⟩ := bind_some hF
  refine wpC_cutN (fun a w2 => ∃ (o1 : Tg), q4 = .inl () ∧ Fr a 25 [(0, u0)] ∧ Bs (fun _ => 1) o1 w w2) (fun a w' => ∃ r', q4 = .inr r' ∧ bodyPost Try.prog Try.f153 (pS_cyIds w r') .ret a w') ?_ ?_ ?_
  · refine wpC_block ?_
    refine wpC_loop (fun (K : Nat) a w2 => ∃ (i3 : Int) (o1 : Tg), forI (fS_cyIds_s1 p0) (p0.drop i3.toNat) i3 () = some q4 ∧ (p0.drop i3.toNat).length = K ∧ 0 ≤ i3 ∧ Fr a 25 [(0, u0), (5, u0), (6, (.int .i64 (p0.length : Int))), (7, (.int .i64 i3))] ∧ Bs (fun _ => 1) o1 w w2) _ (fun a ha => ⟨0, (col (fun _ => 1)), hq4, rfl, Int.le_refl 0, ha.sub (r := [(0, u0), (5, u0), (6, (.int .i64 (p0.length : Int))), (7, (.int .i64 0))]) ⟨rfl, rfl, rfl, rfl, trivial⟩, hB⟩) ?_
    rintro K8 a w2 ⟨i3, o1, l5, m7, z6, ha, hB⟩
    by_cases t12 : i3 < (p0.length : Int)
    · obtain ⟨x13, q9, hx13, b10, n11⟩ := forI_cons z6 t12 l5
      have hle := g0.len_le
      dsimp only [fS_cyIds_s1] at b10
      refine wp_of ha ?_
      refine wpC_seq ?_
      refine wpC_region ?_
      refine st_val (ex_lss rfl rfl) (by decide) trivial ?_
      refine wpF_end (r := [(0, u0), (5, u0), (6, (.int .i64 (p0.length : Int))), (7, (.int .i64 i3)), (8, (.bool (decide (i3 < (p0.length : Int)))))]) ⟨rfl, rfl, rfl, rfl, rfl, trivial⟩ ?_
      refine nx ?_
      refine wpC_seq ?_
      refine wpC_true (congrArg (fun b => some (Value.bool b)) (decide_eq_true t12)) ?_
      refine wpC_skip ?_
      refine nx ?_
      refine wpC_seq ?_
      refine wpC_block ?_
      refine wpC_seq ?_
      refine wpC_region ?_
      refine st_val (ex_move rfl) (by decide) trivial ?_
      refine st_op (by decide) trivial ?_
      refine wf_atZ g0 hx13 hB rfl rfl Try.underlying25 Try.sizeOf3 ?_
      intro b14 f15 c16 h17 h18
      cases h18
      refine st_val (ex_load1 rfl Try.isAgg3 (cell_of_cells h17)) (by decide) trivial ?_
      refine st_val (ex_assign rfl) (by decide) trivial ?_
      refine st_val (ex_assign rfl) (by decide) trivial ?_
      refine wpF_end (r := [(0, u0), (3, (.int .i64 i3)), (4, (.int .i64 x13)), (5, u0), (6, (.int .i64 (p0.length : Int))), (7, (.int .i64 i3))]) ⟨rfl, rfl, rfl, rfl, rfl, rfl, trivial⟩ ?_
      refine nx ?_
      refine wpC_seq ?_
      refine wpC_region ?_
      refine st_val (ex_move rfl) (by decide) trivial ?_
      obtain ⟨x19, hx19, b10⟩ := bind_some b10
      refine st_op (by decide) trivial ?_
      refine wf_call (cS_l1In w2 x13 1 999999 x19 hx19) Try.call100 ⟨rfl, rfl, rfl, trivial⟩ ?_
      rintro e24 w20 ⟨rfl, k21⟩
      have s23 := k21.stp 999 o1
      refine ⟨_, rfl, ?_⟩
      replace hB := hB.stp s23 (by decide)
      refine st_val (ex_not rfl) (by decide) trivial ?_
      refine st_val (ex_move rfl) (by decide) trivial ?_
      obtain ⟨q25, hq25, b10⟩ := bind_some b10
      refine wpF_cutAt 6 (fun a27 w26 => Fr a27 25 [(0, u0), (5, u0), (6, (.int .i64 (p0.length : Int))), (7, (.int .i64 i3)), (21, (.bool q25))] ∧ Keeps w20 w26) ?_ ?_
      all_goals simp only [List.take_succ_cons, List.take_zero, List.drop_succ_cons, List.drop_zero]
      · have kp : Keeps w20 w20 := Keeps.refl _
        rcases Bool.eq_false_or_eq_true (!x19) with t28 | t28
        · rw [if_pos t28] at hq25
          refine st_no rfl rfl (by rw [t28]; rfl) (by decide) ?_
          refine st_no rfl rfl (by rw [t28]; rfl) (by decide) ?_
          refine st_no rfl rfl (by rw [t28]; rfl) (by decide) ?_
          refine st_no rfl rfl (by rw [t28]; rfl) (by decide) ?_
          refine st_no rfl rfl (by rw [t28]; rfl) (by decide) ?_
          refine st_val (ex_pick_t (congrArg (fun b => some (Value.bool b)) t28) rfl) (by decide) trivial ?_
          have hq252 := Option.some.inj hq25
          refine wpF_end (r := [(0, u0), (5, u0), (6, (.int .i64 (p0.length : Int))), (7, (.int .i64 i3)), (21, (.bool true))]) ⟨rfl, rfl, rfl, rfl, rfl, trivial⟩ ?_
          subst hq252
          refine np_norm (fun a ha => ⟨ha, kp⟩)
        · rw [if_neg (by rw [t28]; decide)] at hq25
          refine st_val (ex_move rfl) (by decide) ⟨_, rfl, (congrArg (fun b => some (Value.bool b)) t28)⟩ ?_
          refine st_val (ex_move rfl) (by decide) ⟨_, rfl, (congrArg (fun b => some (Value.bool b)) t28)⟩ ?_
          obtain ⟨x29, hx29, hq25⟩ := bind_some hq25
          refine st_op (by decide) ⟨_, rfl, (congrArg (fun b => some (Value.bool b)) t28)⟩ ?_
          refine wf_cutZ g0 hx29 rfl rfl rfl Try.underlying25 Try.sizeOf3 ?_
          intro v30 h31
          refine st_val (ex_move rfl) (by decide) ⟨_, rfl, (congrArg (fun b => some (Value.bool b)) t28)⟩ ?_
          obtain ⟨x32, hx32, hq25⟩ := bind_some hq25
          refine st_op (by decide) ⟨_, rfl, (congrArg (fun b => some (Value.bool b)) t28)⟩ ?_
          refine wf_call (cS_l1Has w20 _ x29 (h31.keep hB.keeps) x13 x32 hx32) Try.call137 ⟨rfl, rfl, trivial⟩ ?_
          rintro e37 w33 ⟨rfl, k34⟩
          have s36 := k34.stp 999 o1
          refine ⟨_, rfl, ?_⟩
          replace hB := hB.stp s36 (by decide)
          replace kp := Keeps.trans kp k34
          refine st_val (ex_pick_f (congrArg (fun b => some (Value.bool b)) t28) rfl) (by decide) trivial ?_
          have hq252 := Option.some.inj hq25
          refine wpF_end (r := [(0, u0), (5, u0), (6, (.int .i64 (p0.length : Int))), (7, (.int .i64 i3)), (21, (.bool x32))]) ⟨rfl, rfl, rfl, rfl, rfl, trivial⟩ ?_
          subst hq252
          refine np_norm (fun a ha => ⟨ha, kp⟩)
      rintro a40 w26 ⟨ha, k38⟩
      have s39 := k38.stp 999 o1
      replace hB := hB.stp s39 (by decide)
      refine wl_of ha ?_
      refine wpF_end (r := [(0, u0), (5, u0), (6, (.int .i64 (p0.length : Int))), (7, (.int .i64 i3)), (21, (.bool q25))]) ⟨rfl, rfl, rfl, rfl, rfl, trivial⟩ ?_
      refine nx ?_
      refine wpC_cond rfl (fun t41 => ?_) (fun t41 => ?_)
      · rw [if_pos t41] at b10
        refine wpC_seq ?_
        refine wpC_region ?_
        refine st_val (ex_assign rfl) (by decide) trivial ?_
        refine wpF_end (r := [(2, (.bool false))]) ⟨rfl, trivial⟩ ?_
        refine nx ?_
        refine wpC_ret ?_
        refine nb_ret ?_
        refine nt_ret ?_
        refine nt_ret ?_
        refine nb_ret ?_
        refine np_ret ?_
        have e42 := Option.some.inj b10
        subst e42
        refine fun a ha => ⟨_, n11, ?_⟩
        refine ret_post (P := Try.prog) (vs := [(.bool false)]) Try.results153 ⟨rfl, trivial⟩ ?_ a ha
        exact ⟨rfl, hB.keeps⟩
      · rw [if_neg (by rw [t41]; decide)] at b10
        refine wpC_skip ?_
        refine nb_norm ?_
        refine nx ?_
        refine wpC_region ?_
        refine st_val (ex_add rfl rfl (ck_in (by omega) (by omega))) (by decide) trivial ?_
        refine st_val (ex_move rfl) (by decide) trivial ?_
        refine wpF_end (r := [(0, u0), (5, u0), (6, (.int .i64 (p0.length : Int))), (7, (.int .i64 (i3 + 1)))]) ⟨rfl, rfl, rfl, rfl, trivial⟩ ?_
        refine nt_norm ?_
        have e43 := Option.some.inj b10
        subst e43
        refine to_k (r := [(0, u0), (5, u0), (6, (.int .i64 (p0.length : Int))), (7, (.int .i64 (i3 + 1)))]) ⟨rfl, rfl, rfl, rfl, trivial⟩ ?_
        intro a ha
        exact ⟨_, (by rw [← m7]; simp only [List.length_drop]; omega), i3 + 1, o1, n11, rfl, (by omega), ha, hB⟩
    · have r44 := forI_done t12 l5
      refine wp_of ha ?_
      refine wpC_seq ?_
      refine wpC_region ?_
      refine st_val (ex_lss rfl rfl) (by decide) trivial ?_
      refine wpF_end (r := [(0, u0), (5, u0), (6, (.int .i64 (p0.length : Int))), (7, (.int .i64 i3)), (8, (.bool (decide (i3 < (p0.length : Int)))))]) ⟨rfl, rfl, rfl, rfl, rfl, trivial⟩ ?_
      refine nx ?_
      refine wpC_seq ?_
      refine wpC_false (congrArg (fun b => some (Value.bool b)) (decide_eq_false t12)) ?_
      refine wpC_exit ?_
      refine nt_exit ?_
      refine nt_exit ?_
      refine nb_hit ?_
      refine np_norm ?_
      refine to_k (r := [(0, u0)]) ⟨rfl, trivial⟩ ?_
      intro a ha
      exact ⟨o1, r44, ha, hB⟩
  · rintro a w2 ⟨o1, rfl, ha, hB⟩
    dsimp only at hF
    refine ap_k ha ?_
    refine nx ?_
    refine wpC_seq ?_
    refine wpC_region ?_
    refine st_val (ex_move rfl) (by decide) trivial ?_
    obtain ⟨x45, hx45, hF⟩ := bind_some hF
    refine st_op (by decide) trivial ?_
    refine wf_call (cS_cyLong w2 _ p0 (g0.keep hB.keeps) x45 hx45) Try.call185 ⟨rfl, trivial⟩ ?_
    rintro e50 w46 ⟨rfl, k47⟩
    have s49 := k47.stp 999 o1
    refine ⟨_, rfl, ?_⟩
    replace hB := hB.stp s49 (by decide)
    refine st_val (ex_assign rfl) (by decide) trivial ?_
    refine wpF_end (r := [(2, (.bool x45))]) ⟨rfl, trivial⟩ ?_
    refine nx ?_
    refine wpC_ret ?_
    have e51 := Option.some.inj hF
    subst e51
    refine ret_post (P := Try.prog) (vs := [(.bool x45)]) Try.results153 ⟨rfl, trivial⟩ ?_
    exact ⟨rfl, hB.keeps⟩
  · rintro a w2 ⟨r', rfl, b52⟩
    dsimp only at hF
    have e53 := Option.some.inj hF
    subst e53
    exact b52

def fS_cyWide (p0 : List Int) (p1 : Int) : Option Bool :=
  (fS_cyIds p0) >>= fun x1 =>
  (
    if x1 then
      (fS_l1In p1 0 180) >>= fun x11 =>
      if x11 then
        (ck (2 * p1)) >>= fun x18 =>
        (ck (x18 + 1)) >>= fun x19 =>
        some (decide (x19 ≤ (p0.length : Int)))
      else
        some false
    else
      some false) >>= fun q7 =>
  some q7

def pS_cyWide (w : World) (r : Bool) : Ending → World → Prop := fun e w' => e = .returned (.bool r) ∧ Keeps w w'
set_option maxRecDepth 100000 in
set_option maxHeartbeats 2000000 in
theorem cS_cyWide (w : World) (u0 : Value) (p0 : List Int) (g0 : RdL zt w u0 p0) (p1 : Int) (r : Bool) (hF : fS_cyWide p0 p1 = some r) :
    Calls Try.prog 99 #[u0, .int .i64 p1] w (pS_cyWide w r) := by
  unfold fS_cyWide at hF
  have hB : Bs (fun _ => 1) (col (fun _ => 1)) w w := Bs.start _ _
  refine calls_start (n := 19) (vs := [u0, (.int .i64 p1)]) Try.func99 rfl rfl ?_
  refine wpC_seq ?_
  refine wpC_region ?_
  refine st_val (ex_assign rfl) (by decide) trivial ?_
  refine wpF_end (r := [(0, u0), (1, (.int .i64 p1))]) ⟨rfl, rfl, trivial⟩ ?_
  refine nx ?_
  refine wpC_seq ?_
  refine wpC_region ?_
  refine st_val (ex_move rfl) (by decide) trivial ?_
  obtain ⟨x1, hx1, hF⟩ := bind_some hF
  refine st_op (by decide) trivial ?_
  refine wf_call (cS_cyIds w _ p0 (g0.keep hB.keeps) x1 hx1) Try.call153 ⟨rfl, trivial⟩ ?_
  rintro e6 w2 ⟨rfl, k3⟩
  have s5 := k3.stp 999 (col (fun _ => 1))
  refine ⟨_, rfl, ?_⟩
  replace hB := hB.stp s5 (by decide)
  refine st_val (ex_move rfl) (by decide) trivial ?_
  obtain ⟨q7, hq7, hF⟩ := bind_some hF
  refine wpF_cutAt 11 (fun a9 w8 => Fr a9 19 [(18, (.bool q7))] ∧ Keeps w2 w8) ?_ ?_
  all_goals simp only [List.take_succ_cons, List.take_zero, List.drop_succ_cons, List.drop_zero]
  · have kp : Keeps w2 w2 := Keeps.refl _
    rcases Bool.eq_false_or_eq_true (x1) with t10 | t10
    · rw [if_pos t10] at hq7
      refine st_val (ex_move rfl) (by decide) ⟨_, rfl, (congrArg (fun b => some (Value.bool b)) t10)⟩ ?_
      obtain ⟨x11, hx11, hq7⟩ := bind_some hq7
      refine st_op (by decide) ⟨_, rfl, (congrArg (fun b => some (Value.bool b)) t10)⟩ ?_
      refine wf_call (cS_l1In w2 p1 0 180 x11 hx11) Try.call100 ⟨rfl, rfl, rfl, trivial⟩ ?_
      rintro e16 w12 ⟨rfl, k13⟩
      have s15 := k13.stp 999 (col (fun _ => 1))
      refine ⟨_, rfl, ?_⟩
      replace hB := hB.stp s15 (by decide)
      replace kp := Keeps.trans kp k13
      refine st_val (ex_pick_t (congrArg (fun b => some (Value.bool b)) t10) rfl) (by decide) trivial ?_
      refine st_val (ex_move rfl) (by decide) trivial ?_
      rcases Bool.eq_false_or_eq_true (x11) with t17 | t17
      · rw [if_pos t17] at hq7
        refine st_val (ex_move rfl) (by decide) ⟨_, rfl, (congrArg (fun b => some (Value.bool b)) t17)⟩ ?_
        obtain ⟨x18, hx18, hq7⟩ := bind_some hq7
        refine st_val (ex_mul rfl rfl hx18) (by decide) ⟨_, rfl, (congrArg (fun b => some (Value.bool b)) t17)⟩ ?_
        obtain ⟨x19, hx19, hq7⟩ := bind_some hq7
        refine st_val (ex_add rfl rfl hx19) (by decide) ⟨_, rfl, (congrArg (fun b => some (Value.bool b)) t17)⟩ ?_
        refine st_val (ex_move rfl) (by decide) ⟨_, rfl, (congrArg (fun b => some (Value.bool b)) t17)⟩ ?_
        refine st_val (ex_lenR rfl g0 Try.underlying25) (by decide) ⟨_, rfl, (congrArg (fun b => some (Value.bool b)) t17)⟩ ?_
        refine st_val (ex_leq rfl rfl) (by decide) ⟨_, rfl, (congrArg (fun b => some (Value.bool b)) t17)⟩ ?_
        refine st_val (ex_pick_t (congrArg (fun b => some (Value.bool b)) t17) rfl) (by decide) trivial ?_
        have hq72 := Option.some.inj hq7
        refine wpF_end (r := [(18, (.bool (decide (x19 ≤ (p0.length : Int)))))]) ⟨rfl, trivial⟩ ?_
        subst hq72
        refine np_norm (fun a ha => ⟨ha, kp⟩)
      · rw [if_neg (by rw [t17]; decide)] at hq7
        refine st_no rfl rfl (by rw [t17]; rfl) (by decide) ?_
        refine st_no rfl rfl (by rw [t17]; rfl) (by decide) ?_
        refine st_no rfl rfl (by rw [t17]; rfl) (by decide) ?_
        refine st_no rfl rfl (by rw [t17]; rfl) (by decide) ?_
        refine st_no rfl rfl (by rw [t17]; rfl) (by decide) ?_
        refine st_no rfl rfl (by rw [t17]; rfl) (by decide) ?_
        refine st_val (ex_pick_f (congrArg (fun b => some (Value.bool b)) t17) rfl) (by decide) trivial ?_
        have hq72 := Option.some.inj hq7
        refine wpF_end (r := [(18, (.bool false))]) ⟨rfl, trivial⟩ ?_
        subst hq72
        refine np_norm (fun a ha => ⟨ha, kp⟩)
    · rw [if_neg (by rw [t10]; decide)] at hq7
      refine st_no rfl rfl (by rw [t10]; rfl) (by decide) ?_
      refine st_no rfl rfl (by rw [t10]; rfl) (by decide) ?_
      refine st_val (ex_pick_f (congrArg (fun b => some (Value.bool b)) t10) rfl) (by decide) trivial ?_
      refine st_val (ex_move rfl) (by decide) trivial ?_
      refine st_no rfl rfl rfl (by decide) ?_
      refine st_no rfl rfl rfl (by decide) ?_
      refine st_no rfl rfl rfl (by decide) ?_
      refine st_no rfl rfl rfl (by decide) ?_
      refine st_no rfl rfl rfl (by decide) ?_
      refine st_no rfl rfl rfl (by decide) ?_
      refine st_val (ex_pick_f rfl rfl) (by decide) trivial ?_
      have hq72 := Option.some.inj hq7
      refine wpF_end (r := [(18, (.bool false))]) ⟨rfl, trivial⟩ ?_
      subst hq72
      refine np_norm (fun a ha => ⟨ha, kp⟩)
  rintro a22 w8 ⟨ha, k20⟩
  have s21 := k20.stp 999 (col (fun _ => 1))
  replace hB := hB.stp s21 (by decide)
  refine wl_of ha ?_
  refine st_val (ex_assign rfl) (by decide) trivial ?_
  refine wpF_end (r := [(4, (.bool q7))]) ⟨rfl, trivial⟩ ?_
  refine nx ?_
  refine wpC_ret ?_
  have e23 := Option.some.inj hF
  subst e23
  refine ret_post (P := Try.prog) (vs := [(.bool q7)]) Try.results99 ⟨rfl, trivial⟩ ?_
  exact ⟨rfl, hB.keeps⟩

def fS_cyWindow_s1 (p0 : List Int) (p1 : Int) (p2 : Int) : ((List Int) × Int) → Option (Lp ((List Int) × Int) ((List Int) × Int) (List Int)) := fun (s : (List Int) × Int) =>
  (ck (p1 + p2)) >>= fun x19 =>
  if decide (s.2 ≤ x19) then
    (ck (s.2 + (p0.length : Int))) >>= fun x21 =>
    (rem x21 (p0.length : Int)) >>= fun x22 =>
    (ix p0 x22) >>= fun x23 =>
    (push s.1 x23) >>= fun x35 =>
    (ck (s.2 + 1)) >>= fun x41 =>
    some (.go (x35, x41))
  else
    some (.out (s.1, s.2))
def fS_cyWindow_s3 (x60 : Int) : Int → Int → Int → Option (Lp Int Int (List Int)) := fun (i69 : Int) (x79 : Int) (s : Int) =>
  if decide (x79 < x60) then
    (ck (s + 1)) >>= fun x86 =>
    some (.go x86)
  else
    some (.go s)
def fS_cyWindow_s2 (y3 : List Int) : Int → Int → (List Int) → Option (Lp (List Int) (List Int) (List Int)) := fun (i50 : Int) (x60 : Int) (s : List Int) =>
  (forI (fS_cyWindow_s3 x60) y3 0 0) >>= fun q70 =>
  match q70 with
  | .inl y66 =>
    (push s y66) >>= fun x96 =>
    some (.go x96)
  | .inr _ => none
def fS_cyWindow (fuel : Nat) (p0 : List Int) (p1 : Int) (p2 : Int) : Option (List Int) :=
  (ck (p1 - p2)) >>= fun x1 =>
  (loopF (fS_cyWindow_s1 p0 p1 p2) fuel ([], x1)) >>= fun q9 =>
  match q9 with
  | .inl (y3, y6) =>
    (forI (fS_cyWindow_s2 y3) y3 0 []) >>= fun q51 =>
    match q51 with
    | .inl y45 =>
      some y45
    | .inr _ => none
  | .inr _ => none

def pS_cyWindow (oo : Tg) (t : Nat) (w : World) (r : List Int) : Ending → World → Prop := fun e w' => ∃ (v0 : Value) (o' : Tg), e = .returned (v0) ∧ Ow w.heap.size 3 t o' w' v0 r ∧ Keeps w w' ∧ ∀ b, b < w.heap.size → o' b = oo b
set_option maxRecDepth 100000 in
set_option maxHeartbeats 2000000 in
theorem cS_cyWindow (fuel : Nat) (w : World) (oo : Tg) (t : Nat) (ht : 2 ≤ t) (u0 : Value) (p0 : List Int) (g0 : RdL zt w u0 p0) (p1 : Int) (p2 : Int) (r : List Int) (hF : fS_cyWindow fuel p0 p1 p2 = some r) :
    Calls Try.prog 155 #[u0, .int .i64 p1, .int .i64 p2] w (pS_cyWindow oo t w r) := by
  unfold fS_cyWindow at hF
  have hB : Bs oo (col oo) w w := Bs.start _ _
  refine calls_start (n := 62) (vs := [u0, (.int .i64 p1), (.int .i64 p2)]) Try.func155 rfl rfl ?_
  generalize col oo = o at *
  refine wpC_seq ?_
  refine wpC_region ?_
  refine st_val (ex_assign rfl) (by decide) trivial ?_
  refine wpF_end (r := [(0, u0), (1, (.int .i64 p1)), (2, (.int .i64 p2))]) ⟨rfl, rfl, rfl, trivial⟩ ?_
  refine nx ?_
  refine wpC_seq ?_
  refine wpC_region ?_
  refine st_val (ex_assign rfl) (by decide) trivial ?_
  refine wpF_end (r := [(0, u0), (1, (.int .i64 p1)), (2, (.int .i64 p2)), (7, (.slice none 0 0))]) ⟨rfl, rfl, rfl, rfl, trivial⟩ ?_
  refine nx ?_
  refine wpC_seq ?_
  refine wpC_seq ?_
  refine wpC_region ?_
  refine st_val (ex_move rfl) (by decide) trivial ?_
  refine st_val (ex_move rfl) (by decide) trivial ?_
  obtain ⟨x1, hx1, hF⟩ := bind_some hF
  refine st_val (ex_sub rfl rfl hx1) (by decide) trivial ?_
  refine st_val (ex_assign rfl) (by decide) trivial ?_
  refine wpF_end (r := [(0, u0), (1, (.int .i64 p1)), (2, (.int .i64 p2)), (7, (.slice none 0 0)), (8, (.int .i64 x1))]) ⟨rfl, rfl, rfl, rfl, rfl, trivial⟩ ?_
  refine nx ?_
  have h2 : Ow w.heap.size 3 11 o w (.slice none 0 0) ([] : List Int) := Ow.nil _ _ _ _ _
  obtain ⟨q9, hq9, hF⟩ := bind_some hF
  refine wpC_cutN (fun a w8 => ∃ (y3 : List Int) (y6 : Int) (v4 : Value) (o7 : Tg), q9 = .inl (y3, y6) ∧ Fr a 62 [(7, v4)] ∧ Bs oo o7 w w8 ∧ Ow w.heap.size 3 11 o7 w8 v4 y3) (fun _ _ => False) ?_ ?_ ?_
  · refine wpC_block ?_
    refine wpC_loop (fun (K : Nat) a w8 => ∃ (y3 : List Int) (y6 : Int) (v4 : Value) (o7 : Tg), loopF (fS_cyWindow_s1 p0 p1 p2) K (y3, y6) = some q9 ∧ Fr a 62 [(0, u0), (1, (.int .i64 p1)), (2, (.int .i64 p2)), (7, v4), (8, (.int .i64 y6))] ∧ Bs oo o7 w w8 ∧ Ow w.heap.size 3 11 o7 w8 v4 y3) fuel (fun a ha => ⟨[], x1, (.slice none 0 0), o, hq9, ha.sub (r := [(0, u0), (1, (.int .i64 p1)), (2, (.int .i64 p2)), (7, (.slice none 0 0)), (8, (.int .i64 x1))]) ⟨rfl, rfl, rfl, rfl, rfl, trivial⟩, hB, h2⟩) ?_
    rintro K13 a w8 ⟨y3, y6, v4, o7, l10, ha, hB, h5⟩
    obtain ⟨K17, q14, e18, b15, n16⟩ := loopF_cons l10
    dsimp only [fS_cyWindow_s1] at b15
    refine wp_of ha ?_
    refine wpC_seq ?_
    refine wpC_seq ?_
    refine wpC_region ?_
    refine st_val (ex_move rfl) (by decide) trivial ?_
    refine st_val (ex_move rfl) (by decide) trivial ?_
    refine st_val (ex_move rfl) (by decide) trivial ?_
    obtain ⟨x19, hx19, b15⟩ := bind_some b15
    refine st_val (ex_add rfl rfl hx19) (by decide) trivial ?_
    refine st_val (ex_leq rfl rfl) (by decide) trivial ?_
    refine wpF_end (r := [(0, u0), (1, (.int .i64 p1)), (2, (.int .i64 p2)), (7, v4), (8, (.int .i64 y6)), (22, (.bool (decide (y6 ≤ x19))))]) ⟨rfl, rfl, rfl, rfl, rfl, rfl, trivial⟩ ?_
    refine nx ?_
    refine wpC_cond rfl (fun t20 => ?_) (fun t20 => ?_)
    · rw [if_pos t20] at b15
      refine wpC_skip ?_
      refine nx ?_
      refine wpC_seq ?_
      refine wpC_block ?_
      refine wpC_region ?_
      refine st_val (ex_move rfl) (by decide) trivial ?_
      refine st_val (ex_move rfl) (by decide) trivial ?_
      refine st_val (ex_move rfl) (by decide) trivial ?_
      refine st_val (ex_move rfl) (by decide) trivial ?_
      refine st_val (ex_lenR rfl g0 Try.underlying25) (by decide) trivial ?_
      obtain ⟨x21, hx21, b15⟩ := bind_some b15
      refine st_val (ex_add rfl rfl hx21) (by decide) trivial ?_
      refine st_val (ex_move rfl) (by decide) trivial ?_
      refine st_val (ex_lenR rfl g0 Try.underlying25) (by decide) trivial ?_
      obtain ⟨x22, hx22, b15⟩ := bind_some b15
      refine st_val (ex_rem rfl rfl hx22) (by decide) trivial ?_
      obtain ⟨x23, hx23, b15⟩ := bind_some b15
      refine st_op (by decide) trivial ?_
      refine wf_atZ g0 hx23 hB rfl rfl Try.underlying25 Try.sizeOf3 ?_
      intro b24 f25 c26 h27 h28
      cases h28
      refine st_val (ex_load1 rfl Try.isAgg3 (cell_of_cells h27)) (by decide) trivial ?_
      refine st_op (by decide) trivial ?_
      refine wf_litR (o := o7) (cs := [(.int .i64 x23)]) (xs := ([x23] : List Int)) (vs := [(0, (.int .i64 x23))]) ⟨_, _, rfl, rfl, rfl⟩ rfl ⟨rfl, rfl, trivial⟩ Try.underlying25 Try.sizeOf3 Try.zeroValue3 (by decide) (fill1 rfl) (by simp) ?_
      intro o29 w30 v31 h32 s33 k34
      replace h5 := h5.stp s33 (by decide) (by decide)
      replace hB := hB.stp s33 (by decide)
      obtain ⟨x35, hx35, b15⟩ := bind_some b15
      refine st_op (by decide) trivial ?_
      refine wf_cat h5 h32 (push_cat hx35) (by decide) hB.keeps.size rfl rfl Try.underlying25 info2_t_int_O rfl (by decide) ?_
      intro o36 w37 v38 h39 s40
      replace h32 := h32.stp s40 (by decide)
      replace hB := hB.stp s40 (by decide)
      refine st_val (ex_assign rfl) (by decide) trivial ?_
      refine wpF_end (r := [(0, u0), (1, (.int .i64 p1)), (2, (.int .i64 p2)), (7, v38), (8, (.int .i64 y6))]) ⟨rfl, rfl, rfl, rfl, rfl, trivial⟩ ?_
      refine nb_norm ?_
      refine nx ?_
      refine wpC_region ?_
      refine st_val (ex_move rfl) (by decide) trivial ?_
      obtain ⟨x41, hx41, b15⟩ := bind_some b15
      refine st_val (ex_add rfl rfl hx41) (by decide) trivial ?_
      refine st_val (ex_assign rfl) (by decide) trivial ?_
      refine wpF_end (r := [(0, u0), (1, (.int .i64 p1)), (2, (.int .i64 p2)), (7, v38), (8, (.int .i64 x41))]) ⟨rfl, rfl, rfl, rfl, rfl, trivial⟩ ?_
      refine nt_norm ?_
      have e42 := Option.some.inj b15
      subst e42
      refine to_k (r := [(0, u0), (1, (.int .i64 p1)), (2, (.int .i64 p2)), (7, v38), (8, (.int .i64 x41))]) ⟨rfl, rfl, rfl, rfl, rfl, trivial⟩ ?_
      intro a ha
      exact ⟨K17, by omega, x35, x41, v38, o36, n16, ha, hB, h39⟩
    · rw [if_neg (by rw [t20]; decide)] at b15
      refine wpC_exit ?_
      refine nt_exit ?_
      refine nt_exit ?_
      refine nb_hit ?_
      refine np_norm ?_
      have e43 := Option.some.inj b15
      subst e43
      refine to_k (r := [(7, v4)]) ⟨rfl, trivial⟩ ?_
      intro a ha
      exact ⟨y3, y6, v4, o7, n16, ha, hB, h5⟩
  · rintro a w8 ⟨y3, y6, v4, o7, rfl, ha, hB, h5⟩
    dsimp only at hF
    refine ap_k ha ?_
    refine nx ?_
    refine wpC_seq ?_
    refine wpC_region ?_
    refine st_val (ex_assign rfl) (by decide) trivial ?_
    refine wpF_end (r := [(7, v4), (9, (.slice none 0 0))]) ⟨rfl, rfl, trivial⟩ ?_
    refine nx ?_
    refine wpC_seq ?_
    refine wpC_seq ?_
    refine wpC_region ?_
    refine st_val (ex_move rfl) (by decide) trivial ?_
    refine st_val (ex_lenO rfl h5 Try.underlying25) (by decide) trivial ?_
    refine st_val (ex_move rfl) (by decide) trivial ?_
    refine wpF_end (r := [(7, v4), (9, (.slice none 0 0)), (38, v4), (39, (.int .i64 (y3.length : Int))), (40, (.int .i64 0))]) ⟨rfl, rfl, rfl, rfl, rfl, trivial⟩ ?_
    refine nx ?_
    have h44 : Ow w.heap.size 3 12 o7 w8 (.slice none 0 0) ([] : List Int) := Ow.nil _ _ _ _ _
    obtain ⟨q51, hq51, hF⟩ := bind_some hF
    refine wpC_cutN (fun a w49 => ∃ (y45 : List Int) (v46 : Value) (o48 : Tg), q51 = .inl y45 ∧ Fr a 62 [(9, v46)] ∧ Bs oo o48 w w49 ∧ Ow w.heap.size 3 12 o48 w49 v46 y45) (fun _ _ => False) ?_ ?_ ?_
    · refine wpC_block ?_
      refine wpC_loop (fun (K : Nat) a w49 => ∃ (i50 : Int) (y45 : List Int) (v46 : Value) (o48 : Tg), forI (fS_cyWindow_s2 y3) (y3.drop i50.toNat) i50 y45 = some q51 ∧ (y3.drop i50.toNat).length = K ∧ 0 ≤ i50 ∧ Fr a 62 [(7, v4), (9, v46), (38, v4), (39, (.int .i64 (y3.length : Int))), (40, (.int .i64 i50))] ∧ Bs oo o48 w w49 ∧ Ow w.heap.size 3 11 o48 w49 v4 y3 ∧ Ow w.heap.size 3 12 o48 w49 v46 y45) _ (fun a ha => ⟨0, [], (.slice none 0 0), o7, hq51, rfl, Int.le_refl 0, ha.sub (r := [(7, v4), (9, (.slice none 0 0)), (38, v4), (39, (.int .i64 (y3.length : Int))), (40, (.int .i64 0))]) ⟨rfl, rfl, rfl, rfl, rfl, trivial⟩, hB, h5, h44⟩) ?_
      rintro K55 a w49 ⟨i50, y45, v46, o48, l52, m54, z53, ha, hB, h5, h47⟩
      by_cases t59 : i50 < (y3.length : Int)
      · obtain ⟨x60, q56, hx60, b57, n58⟩ := forI_cons z53 t59 l52
        have hle := h5.len_le
        dsimp only [fS_cyWindow_s2] at b57
        refine wp_of ha ?_
        refine wpC_seq ?_
        refine wpC_region ?_
        refine st_val (ex_lss rfl rfl) (by decide) trivial ?_
        refine wpF_end (r := [(7, v4), (9, v46), (38, v4), (39, (.int .i64 (y3.length : Int))), (40, (.int .i64 i50)), (41, (.bool (decide (i50 < (y3.length : Int)))))]) ⟨rfl, rfl, rfl, rfl, rfl, rfl, trivial⟩ ?_
        refine nx ?_
        refine wpC_seq ?_
        refine wpC_true (congrArg (fun b => some (Value.bool b)) (decide_eq_true t59)) ?_
        refine wpC_skip ?_
        refine nx ?_
        refine wpC_seq ?_
        refine wpC_block ?_
        refine wpC_seq ?_
        refine wpC_region ?_
        refine st_op (by decide) trivial ?_
        refine wf_atW h5 hx60 rfl rfl Try.underlying25 Try.sizeOf3 ?_
        intro b61 f62 c63 h64 h65
        cases h65
        refine st_val (ex_load1 rfl Try.isAgg3 (cell_of_cells h64)) (by decide) trivial ?_
        refine st_val (ex_assign rfl) (by decide) trivial ?_
        refine wpF_end (r := [(7, v4), (9, v46), (11, (.int .i64 x60)), (38, v4), (39, (.int .i64 (y3.length : Int))), (40, (.int .i64 i50))]) ⟨rfl, rfl, rfl, rfl, rfl, rfl, trivial⟩ ?_
        refine nx ?_
        refine wpC_seq ?_
        refine wpC_region ?_
        refine st_val (ex_assign rfl) (by decide) trivial ?_
        refine wpF_end (r := [(7, v4), (9, v46), (11, (.int .i64 x60)), (12, (.int .i64 0)), (38, v4), (39, (.int .i64 (y3.length : Int))), (40, (.int .i64 i50))]) ⟨rfl, rfl, rfl, rfl, rfl, rfl, rfl, trivial⟩ ?_
        refine nx ?_
        refine wpC_seq ?_
        refine wpC_seq ?_
        refine wpC_region ?_
        refine st_val (ex_move rfl) (by decide) trivial ?_
        refine st_val (ex_lenO rfl h5 Try.underlying25) (by decide) trivial ?_
        refine st_val (ex_move rfl) (by decide) trivial ?_
        refine wpF_end (r := [(7, v4), (9, v46), (11, (.int .i64 x60)), (12, (.int .i64 0)), (38, v4), (39, (.int .i64 (y3.length : Int))), (40, (.int .i64 i50)), (44, v4), (45, (.int .i64 (y3.length : Int))), (46, (.int .i64 0))]) ⟨rfl, rfl, rfl, rfl, rfl, rfl, rfl, rfl, rfl, rfl, trivial⟩ ?_
        refine nx ?_
        obtain ⟨q70, hq70, b57⟩ := bind_some b57
        refine wpC_cutN (fun a w68 => ∃ (y66 : Int) (o67 : Tg), q70 = .inl y66 ∧ Fr a 62 [(7, v4), (9, v46), (12, (.int .i64 y66)), (38, v4), (39, (.int .i64 (y3.length : Int))), (40, (.int .i64 i50))] ∧ Bs oo o67 w w68 ∧ Ow w.heap.size 3 11 o67 w68 v4 y3 ∧ Ow w.heap.size 3 12 o67 w68 v46 y45) (fun _ _ => False) ?_ ?_ ?_
        · refine wpC_block ?_
          refine wpC_loop (fun (K : Nat) a w68 => ∃ (i69 : Int) (y66 : Int) (o67 : Tg), forI (fS_cyWindow_s3 x60) (y3.drop i69.toNat) i69 y66 = some q70 ∧ (y3.drop i69.toNat).length = K ∧ 0 ≤ i69 ∧ Fr a 62 [(7, v4), (9, v46), (11, (.int .i64 x60)), (12, (.int .i64 y66)), (38, v4), (39, (.int .i64 (y3.length : Int))), (40, (.int .i64 i50)), (44, v4), (45, (.int .i64 (y3.length : Int))), (46, (.int .i64 i69))] ∧ Bs oo o67 w w68 ∧ Ow w.heap.size 3 11 o67 w68 v4 y3 ∧ Ow w.heap.size 3 12 o67 w68 v46 y45) _ (fun a ha => ⟨0, 0, o48, hq70, rfl, Int.le_refl 0, ha.sub (r := [(7, v4), (9, v46), (11, (.int .i64 x60)), (12, (.int .i64 0)), (38, v4), (39, (.int .i64 (y3.length : Int))), (40, (.int .i64 i50)), (44, v4), (45, (.int .i64 (y3.length : Int))), (46, (.int .i64 0))]) ⟨rfl, rfl, rfl, rfl, rfl, rfl, rfl, rfl, rfl, rfl, trivial⟩, hB, h5, h47⟩) ?_
          rintro K74 a w68 ⟨i69, y66, o67, l71, m73, z72, ha, hB, h5, h47⟩
          by_cases t78 : i69 < (y3.length : Int)
          · obtain ⟨x79, q75, hx79, b76, n77⟩ := forI_cons z72 t78 l71
            have hle := h5.len_le
            dsimp only [fS_cyWindow_s3] at b76
            refine wp_of ha ?_
            refine wpC_seq ?_
            refine wpC_region ?_
            refine st_val (ex_lss rfl rfl) (by decide) trivial ?_
            refine wpF_end (r := [(7, v4), (9, v46), (11, (.int .i64 x60)), (12, (.int .i64 y66)), (38, v4), (39, (.int .i64 (y3.length : Int))), (40, (.int .i64 i50)), (44, v4), (45, (.int .i64 (y3.length : Int))), (46, (.int .i64 i69)), (47, (.bool (decide (i69 < (y3.length : Int)))))]) ⟨rfl, rfl, rfl, rfl, rfl, rfl, rfl, rfl, rfl, rfl, rfl, trivial⟩ ?_
            refine nx ?_
            refine wpC_seq ?_
            refine wpC_true (congrArg (fun b => some (Value.bool b)) (decide_eq_true t78)) ?_
            refine wpC_skip ?_
            refine nx ?_
            refine wpC_seq ?_
            refine wpC_block ?_
            refine wpC_seq ?_
            refine wpC_region ?_
            refine st_op (by decide) trivial ?_
            refine wf_atW h5 hx79 rfl rfl Try.underlying25 Try.sizeOf3 ?_
            intro b80 f81 c82 h83 h84
            cases h84
            refine st_val (ex_load1 rfl Try.isAgg3 (cell_of_cells h83)) (by decide) trivial ?_
            refine st_val (ex_assign rfl) (by decide) trivial ?_
            refine wpF_end (r := [(7, v4), (9, v46), (11, (.int .i64 x60)), (12, (.int .i64 y66)), (14, (.int .i64 x79)), (38, v4), (39, (.int .i64 (y3.length : Int))), (40, (.int .i64 i50)), (44, v4), (45, (.int .i64 (y3.length : Int))), (46, (.int .i64 i69))]) ⟨rfl, rfl, rfl, rfl, rfl, rfl, rfl, rfl, rfl, rfl, rfl, trivial⟩ ?_
            refine nx ?_
            refine wpC_seq ?_
            refine wpC_region ?_
            refine st_val (ex_move rfl) (by decide) trivial ?_
            refine st_val (ex_move rfl) (by decide) trivial ?_
            refine st_val (ex_lss rfl rfl) (by decide) trivial ?_
            refine wpF_end (r := [(7, v4), (9, v46), (11, (.int .i64 x60)), (12, (.int .i64 y66)), (38, v4), (39, (.int .i64 (y3.length : Int))), (40, (.int .i64 i50)), (44, v4), (45, (.int .i64 (y3.length : Int))), (46, (.int .i64 i69)), (52, (.bool (decide (x79 < x60))))]) ⟨rfl, rfl, rfl, rfl, rfl, rfl, rfl, rfl, rfl, rfl, rfl, trivial⟩ ?_
            refine nx ?_
            refine wpC_cond rfl (fun t85 => ?_) (fun t85 => ?_)
            · rw [if_pos t85] at b76
              refine wpC_region ?_
              refine st_val (ex_move rfl) (by decide) trivial ?_
              obtain ⟨x86, hx86, b76⟩ := bind_some b76
              refine st_val (ex_add rfl rfl hx86) (by decide) trivial ?_
              refine st_val (ex_assign rfl) (by decide) trivial ?_
              refine wpF_end (r := [(7, v4), (9, v46), (11, (.int .i64 x60)), (12, (.int .i64 x86)), (38, v4), (39, (.int .i64 (y3.length : Int))), (40, (.int .i64 i50)), (44, v4), (45, (.int .i64 (y3.length : Int))), (46, (.int .i64 i69))]) ⟨rfl, rfl, rfl, rfl, rfl, rfl, rfl, rfl, rfl, rfl, trivial⟩ ?_
              refine nb_norm ?_
              refine nx ?_
              refine wpC_region ?_
              refine st_val (ex_add rfl rfl (ck_in (by omega) (by omega))) (by decide) trivial ?_
              refine st_val (ex_move rfl) (by decide) trivial ?_
              refine wpF_end (r := [(7, v4), (9, v46), (11, (.int .i64 x60)), (12, (.int .i64 x86)), (38, v4), (39, (.int .i64 (y3.length : Int))), (40, (.int .i64 i50)), (44, v4), (45, (.int .i64 (y3.length : Int))), (46, (.int .i64 (i69 + 1)))]) ⟨rfl, rfl, rfl, rfl, rfl, rfl, rfl, rfl, rfl, rfl, trivial⟩ ?_
              refine nt_norm ?_
              have e87 := Option.some.inj b76
              subst e87
              refine to_k (r := [(7, v4), (9, v46), (11, (.int .i64 x60)), (12, (.int .i64 x86)), (38, v4), (39, (.int .i64 (y3.length : Int))), (40, (.int .i64 i50)), (44, v4), (45, (.int .i64 (y3.length : Int))), (46, (.int .i64 (i69 + 1)))]) ⟨rfl, rfl, rfl, rfl, rfl, rfl, rfl, rfl, rfl, rfl, trivial⟩ ?_
              intro a ha
              exact ⟨_, (by rw [← m73]; simp only [List.length_drop]; omega), i69 + 1, x86, o67, n77, rfl, (by omega), ha, hB, h5, h47⟩
            · rw [if_neg (by rw [t85]; decide)] at b76
              refine wpC_skip ?_
              refine nb_norm ?_
              refine nx ?_
              refine wpC_region ?_
              refine st_val (ex_add rfl rfl (ck_in (by omega) (by omega))) (by decide) trivial ?_
              refine st_val (ex_move rfl) (by decide) trivial ?_
              refine wpF_end (r := [(7, v4), (9, v46), (11, (.int .i64 x60)), (12, (.int .i64 y66)), (38, v4), (39, (.int .i64 (y3.length : Int))), (40, (.int .i64 i50)), (44, v4), (45, (.int .i64 (y3.length : Int))), (46, (.int .i64 (i69 + 1)))]) ⟨rfl, rfl, rfl, rfl, rfl, rfl, rfl, rfl, rfl, rfl, trivial⟩ ?_
              refine nt_norm ?_
              have e88 := Option.some.inj b76
              subst e88
              refine to_k (r := [(7, v4), (9, v46), (11, (.int .i64 x60)), (12, (.int .i64 y66)), (38, v4), (39, (.int .i64 (y3.length : Int))), (40, (.int .i64 i50)), (44, v4), (45, (.int .i64 (y3.length : Int))), (46, (.int .i64 (i69 + 1)))]) ⟨rfl, rfl, rfl, rfl, rfl, rfl, rfl, rfl, rfl, rfl, trivial⟩ ?_
              intro a ha
              exact ⟨_, (by rw [← m73]; simp only [List.length_drop]; omega), i69 + 1, y66, o67, n77, rfl, (by omega), ha, hB, h5, h47⟩
          · have r89 := forI_done t78 l71
            refine wp_of ha ?_
            refine wpC_seq ?_
            refine wpC_region ?_
            refine st_val (ex_lss rfl rfl) (by decide) trivial ?_
            refine wpF_end (r := [(7, v4), (9, v46), (11, (.int .i64 x60)), (12, (.int .i64 y66)), (38, v4), (39, (.int .i64 (y3.length : Int))), (40, (.int .i64 i50)), (44, v4), (45, (.int .i64 (y3.length : Int))), (46, (.int .i64 i69)), (47, (.bool (decide (i69 < (y3.length : Int)))))]) ⟨rfl, rfl, rfl, rfl, rfl, rfl, rfl, rfl, rfl, rfl, rfl, trivial⟩ ?_
            refine nx ?_
            refine wpC_seq ?_
            refine wpC_false (congrArg (fun b => some (Value.bool b)) (decide_eq_false t78)) ?_
            refine wpC_exit ?_
            refine nt_exit ?_
            refine nt_exit ?_
            refine nb_hit ?_
            refine np_norm ?_
            refine to_k (r := [(7, v4), (9, v46), (12, (.int .i64 y66)), (38, v4), (39, (.int .i64 (y3.length : Int))), (40, (.int .i64 i50))]) ⟨rfl, rfl, rfl, rfl, rfl, rfl, trivial⟩ ?_
            intro a ha
            exact ⟨y66, o67, r89, ha, hB, h5, h47⟩
        · rintro a w68 ⟨y66, o67, rfl, ha, hB, h5, h47⟩
          dsimp only at b57
          refine ap_k ha ?_
          refine nx ?_
          refine wpC_region ?_
          refine st_val (ex_move rfl) (by decide) trivial ?_
          refine st_val (ex_move rfl) (by decide) trivial ?_
          refine st_op (by decide) trivial ?_
          refine wf_litR (o := o67) (cs := [(.int .i64 y66)]) (xs := ([y66] : List Int)) (vs := [(0, (.int .i64 y66))]) ⟨_, _, rfl, rfl, rfl⟩ rfl ⟨rfl, rfl, trivial⟩ Try.underlying25 Try.sizeOf3 Try.zeroValue3 (by decide) (fill1 rfl) (by simp) ?_
          intro o90 w91 v92 h93 s94 k95
          replace h5 := h5.stp s94 (by decide) (by decide)
          replace h47 := h47.stp s94 (by decide) (by decide)
          replace hB := hB.stp s94 (by decide)
          obtain ⟨x96, hx96, b57⟩ := bind_some b57
          refine st_op (by decide) trivial ?_
          refine wf_cat h47 h93 (push_cat hx96) (by decide) hB.keeps.size rfl rfl Try.underlying25 info2_t_int_O rfl (by decide) ?_
          intro o97 w98 v99 h100 s101
          replace h5 := h5.stp s101 (by decide) (by decide)
          replace h93 := h93.stp s101 (by decide)
          replace hB := hB.stp s101 (by decide)
          refine st_val (ex_assign rfl) (by decide) trivial ?_
          refine wpF_end (r := [(7, v4), (9, v99), (38, v4), (39, (.int .i64 (y3.length : Int))), (40, (.int .i64 i50))]) ⟨rfl, rfl, rfl, rfl, rfl, trivial⟩ ?_
          refine nb_norm ?_
          refine nx ?_
          refine wpC_region ?_
          refine st_val (ex_add rfl rfl (ck_in (by omega) (by omega))) (by decide) trivial ?_
          refine st_val (ex_move rfl) (by decide) trivial ?_
          refine wpF_end (r := [(7, v4), (9, v99), (38, v4), (39, (.int .i64 (y3.length : Int))), (40, (.int .i64 (i50 + 1)))]) ⟨rfl, rfl, rfl, rfl, rfl, trivial⟩ ?_
          refine nt_norm ?_
          have e102 := Option.some.inj b57
          subst e102
          refine to_k (r := [(7, v4), (9, v99), (38, v4), (39, (.int .i64 (y3.length : Int))), (40, (.int .i64 (i50 + 1)))]) ⟨rfl, rfl, rfl, rfl, rfl, trivial⟩ ?_
          intro a ha
          exact ⟨_, (by rw [← m54]; simp only [List.length_drop]; omega), i50 + 1, x96, v99, o97, n58, rfl, (by omega), ha, hB, h5, h100⟩
        · exact fun _ _ h => h.elim
      · have r103 := forI_done t59 l52
        refine wp_of ha ?_
        refine wpC_seq ?_
        refine wpC_region ?_
        refine st_val (ex_lss rfl rfl) (by decide) trivial ?_
        refine wpF_end (r := [(7, v4), (9, v46), (38, v4), (39, (.int .i64 (y3.length : Int))), (40, (.int .i64 i50)), (41, (.bool (decide (i50 < (y3.length : Int)))))]) ⟨rfl, rfl, rfl, rfl, rfl, rfl, trivial⟩ ?_
        refine nx ?_
        refine wpC_seq ?_
        refine wpC_false (congrArg (fun b => some (Value.bool b)) (decide_eq_false t59)) ?_
        refine wpC_exit ?_
        refine nt_exit ?_
        refine nt_exit ?_
        refine nb_hit ?_
        refine np_norm ?_
        refine to_k (r := [(9, v46)]) ⟨rfl, trivial⟩ ?_
        intro a ha
        exact ⟨y45, v46, o48, r103, ha, hB, h47⟩
    · rintro a w49 ⟨y45, v46, o48, rfl, ha, hB, h47⟩
      dsimp only at hF
      refine ap_k ha ?_
      refine nx ?_
      refine wpC_seq ?_
      refine wpC_region ?_
      refine st_val (ex_move rfl) (by decide) trivial ?_
      refine st_val (ex_assign rfl) (by decide) trivial ?_
      refine wpF_end (r := [(6, v46)]) ⟨rfl, trivial⟩ ?_
      refine nx ?_
      refine wpC_ret ?_
      have e104 := Option.some.inj hF
      subst e104
      refine ret_post (P := Try.prog) (vs := [v46]) Try.results155 ⟨rfl, trivial⟩ ?_
      exact ⟨_, rt oo o48 w.heap.size 12 t, rfl, h47.rt hB (by decide) t, hB.keeps, rt_old _ _ _ _ _⟩
    · exact fun _ _ h => h.elim
  · exact fun _ _ h => h.elim

def fS_OrderWindow (fuel : Nat) (p0 : List Int) (p1 : Int) (p2 : Int) : Option ((List Int) × Bool) :=
  (fS_cyWide p0 p2) >>= fun x1 =>
  (
    if !x1 then
      some true
    else
      (ck ((p0.length : Int) - 1)) >>= fun x11 =>
      (fS_l1In p1 0 x11) >>= fun x12 =>
      some (!x12)) >>= fun q7 =>
  if q7 then
    some ([], false)
  else
    (fS_cyWindow fuel p0 p1 p2) >>= fun x23 =>
    some (x23, true)

def fI_idsOk (p0 : List Int) (p1 : Int) : Option Bool :=
  if (p0.length : Int) == 0 then
    some true
  else
    (fX_slices_Clone_int_int p0) >>= fun x3 =>
    (srtO x3) >>= fun x18 =>
    (
      if (p0.length : Int) == p1 then
        (fI_increasing x18 1 999999) >>= fun x24 =>
        some x24
      else
        some false) >>= fun q20 =>
    some q20

def pI_idsOk (w : World) (r : Bool) : Ending → World → Prop := fun e w' => e = .returned (.bool r) ∧ Keeps w w'
set_option maxRecDepth 100000 in
set_option maxHeartbeats 2000000 in
theorem cI_idsOk (w : World) (u0 : Value) (p0 : List Int) (g0 : RdL zt w u0 p0) (p1 : Int) (r : Bool) (hF : fI_idsOk p0 p1 = some r) :
    Calls Try.prog 138 #[u0, .int .i64 p1] w (pI_idsOk w r) := by
  unfold fI_idsOk at hF
  have hB : Bs (fun _ => 1) (col (fun _ => 1)) w w := Bs.start _ _
  refine calls_start (n := 21) (vs := [u0, (.int .i64 p1)]) Try.func138 rfl rfl ?_
  refine wpC_seq ?_
  refine wpC_region ?_
  refine st_val (ex_assign rfl) (by decide) trivial ?_
  refine wpF_end (r := [(0, u0), (1, (.int .i64 p1))]) ⟨rfl, rfl, trivial⟩ ?_
  refine nx ?_
  refine wpC_seq ?_
  refine wpC_seq ?_
  refine wpC_region ?_
  refine st_val (ex_move rfl) (by decide) trivial ?_
  refine st_val (ex_lenR rfl g0 Try.underlying25) (by decide) trivial ?_
  refine st_val (ex_eql rfl rfl) (by decide) trivial ?_
  refine wpF_end (r := [(0, u0), (1, (.int .i64 p1)), (8, (.bool ((p0.length : Int) == 0)))]) ⟨rfl, rfl, rfl, trivial⟩ ?_
  refine nx ?_
  refine wpC_cond rfl (fun t1 => ?_) (fun t1 => ?_)
  · rw [if_pos t1] at hF
    refine wpC_seq ?_
    refine wpC_region ?_
    refine st_val (ex_assign rfl) (by decide) trivial ?_
    refine wpF_end (r := [(4, (.bool true))]) ⟨rfl, trivial⟩ ?_
    refine nx ?_
    refine wpC_ret ?_
    refine nt_ret ?_
    have e2 := Option.some.inj hF
    subst e2
    refine ret_post (P := Try.prog) (vs := [(.bool true)]) Try.results138 ⟨rfl, trivial⟩ ?_
    exact ⟨rfl, hB.keeps⟩
  · rw [if_neg (by rw [t1]; decide)] at hF
    refine wpC_skip ?_
    refine nx ?_
    refine wpC_seq ?_
    refine wpC_region ?_
    refine st_val (ex_move rfl) (by decide) trivial ?_
    obtain ⟨x3, hx3, hF⟩ := bind_some hF
    refine st_op (by decide) trivial ?_
    refine wf_call (cX_slices_Clone_int_int w (col (fun _ => 1)) 11 (by decide) _ p0 (g0.keep hB.keeps) x3 hx3) Try.call135 ⟨rfl, trivial⟩ ?_
    rintro e10 w4 ⟨v5, o11, rfl, h6, k7, k8⟩
    have s9 := k7.stp' 11 k8
    replace h6 := h6.mono hB.keeps.size
    refine ⟨_, rfl, ?_⟩
    replace hB := hB.stp s9 (by decide)
    refine st_val (ex_assign rfl) (by decide) trivial ?_
    refine wpF_end (r := [(0, u0), (1, (.int .i64 p1)), (5, v5)]) ⟨rfl, rfl, rfl, trivial⟩ ?_
    refine nx ?_
    refine wpC_seq ?_
    refine wpC_region ?_
    refine st_val (ex_move rfl) (by decide) trivial ?_
    obtain ⟨x18, hx18, hF⟩ := bind_some hF
    refine st_op (by decide) trivial ?_
    refine wf_call (cX_Sort h6 hx18) Try.call179 ⟨rfl, trivial⟩ ?_
    rintro e13 w12 ⟨rfl, h19, s16⟩
    refine ⟨_, rfl, ?_⟩
    replace hB := hB.stp s16 (by decide)
    refine wpF_end (r := [(0, u0), (1, (.int .i64 p1)), (5, v5)]) ⟨rfl, rfl, rfl, trivial⟩ ?_
    refine nx ?_
    refine wpC_seq ?_
    refine wpC_region ?_
    refine st_val (ex_move rfl) (by decide) trivial ?_
    refine st_val (ex_lenR rfl g0 Try.underlying25) (by decide) trivial ?_
    refine st_val (ex_move rfl) (by decide) trivial ?_
    refine st_val (ex_eql rfl rfl) (by decide) trivial ?_
    refine st_val (ex_move rfl) (by decide) trivial ?_
    obtain ⟨q20, hq20, hF⟩ := bind_some hF
    refine wpF_cutAt 3 (fun a22 w21 => Fr a22 21 [(20, (.bool q20))] ∧ Keeps w12 w21) ?_ ?_
    all_goals simp only [List.take_succ_cons, List.take_zero, List.drop_succ_cons, List.drop_zero]
    · have kp : Keeps w12 w12 := Keeps.refl _
      rcases Bool.eq_false_or_eq_true ((p0.length : Int) == p1) with t23 | t23
      · rw [if_pos t23] at hq20
        refine st_val (ex_move rfl) (by decide) ⟨_, rfl, (congrArg (fun b => some (Value.bool b)) t23)⟩ ?_
        obtain ⟨x24, hx24, hq20⟩ := bind_some hq20
        refine st_op (by decide) ⟨_, rfl, (congrArg (fun b => some (Value.bool b)) t23)⟩ ?_
        refine wf_call (cI_increasing w12 _ x18 h19.z 1 999999 x24 hx24) Try.call181 ⟨rfl, rfl, rfl, trivial⟩ ?_
        rintro e29 w25 ⟨rfl, k26⟩
        have s28 := k26.stp 999 o11
        refine ⟨_, rfl, ?_⟩
        replace h19 := h19.stp s28 (by decide) (by decide)
        replace hB := hB.stp s28 (by decide)
        replace kp := Keeps.trans kp k26
        refine st_val (ex_pick_t (congrArg (fun b => some (Value.bool b)) t23) rfl) (by decide) trivial ?_
        have hq202 := Option.some.inj hq20
        refine wpF_end (r := [(20, (.bool x24))]) ⟨rfl, trivial⟩ ?_
        subst hq202
        refine np_norm (fun a ha => ⟨ha, kp⟩)
      · rw [if_neg (by rw [t23]; decide)] at hq20
        refine st_no rfl rfl (by rw [t23]; rfl) (by decide) ?_
        refine st_no rfl rfl (by rw [t23]; rfl) (by decide) ?_
        refine st_val (ex_pick_f (congrArg (fun b => some (Value.bool b)) t23) rfl) (by decide) trivial ?_
        have hq202 := Option.some.inj hq20
        refine wpF_end (r := [(20, (.bool false))]) ⟨rfl, trivial⟩ ?_
        subst hq202
        refine np_norm (fun a ha => ⟨ha, kp⟩)
    rintro a32 w21 ⟨ha, k30⟩
    have s31 := k30.stp 999 o11
    replace hB := hB.stp s31 (by decide)
    refine wl_of ha ?_
    refine st_val (ex_assign rfl) (by decide) trivial ?_
    refine wpF_end (r := [(4, (.bool q20))]) ⟨rfl, trivial⟩ ?_
    refine nx ?_
    refine wpC_ret ?_
    have e33 := Option.some.inj hF
    subst e33
    refine ret_post (P := Try.prog) (vs := [(.bool q20)]) Try.results138 ⟨rfl, trivial⟩ ?_
    exact ⟨rfl, hB.keeps⟩

def fI_isRing (p0 : List Int) : Option Bool :=
  (fI_within (p0.length : Int) 2 180) >>= fun x1 =>
  some x1

def pI_isRing (w : World) (r : Bool) : Ending → World → Prop := fun e w' => e = .returned (.bool r) ∧ Keeps w w'
set_option maxRecDepth 100000 in
set_option maxHeartbeats 2000000 in
theorem cI_isRing (w : World) (u0 : Value) (p0 : List Int) (g0 : RdL zt w u0 p0) (r : Bool) (hF : fI_isRing p0 = some r) :
    Calls Try.prog 187 #[u0] w (pI_isRing w r) := by
  unfold fI_isRing at hF
  have hB : Bs (fun _ => 1) (col (fun _ => 1)) w w := Bs.start _ _
  refine calls_start (n := 6) (vs := [u0]) Try.func187 rfl rfl ?_
  refine wpC_seq ?_
  refine wpC_region ?_
  refine st_val (ex_assign rfl) (by decide) trivial ?_
  refine wpF_end (r := [(0, u0)]) ⟨rfl, trivial⟩ ?_
  refine nx ?_
  refine wpC_seq ?_
  refine wpC_region ?_
  refine st_val (ex_move rfl) (by decide) trivial ?_
  refine st_val (ex_lenR rfl g0 Try.underlying25) (by decide) trivial ?_
  obtain ⟨x1, hx1, hF⟩ := bind_some hF
  refine st_op (by decide) trivial ?_
  refine wf_call (cI_within w (p0.length : Int) 2 180 x1 hx1) Try.call118 ⟨rfl, rfl, rfl, trivial⟩ ?_
  rintro e6 w2 ⟨rfl, k3⟩
  have s5 := k3.stp 999 (col (fun _ => 1))
  refine ⟨_, rfl, ?_⟩
  replace hB := hB.stp s5 (by decide)
  refine st_val (ex_assign rfl) (by decide) trivial ?_
  refine wpF_end (r := [(2, (.bool x1))]) ⟨rfl, trivial⟩ ?_
  refine nx ?_
  refine wpC_ret ?_
  have e7 := Option.some.inj hF
  subst e7
  refine ret_post (P := Try.prog) (vs := [(.bool x1)]) Try.results187 ⟨rfl, trivial⟩ ?_
  exact ⟨rfl, hB.keeps⟩

def fI_areRingIds (p0 : List Int) : Option Bool :=
  (fI_isRing p0) >>= fun x1 =>
  (
    if x1 then
      (fI_idsOk p0 (p0.length : Int)) >>= fun x11 =>
      some x11
    else
      some false) >>= fun q7 =>
  some q7

def pI_areRingIds (w : World) (r : Bool) : Ending → World → Prop := fun e w' => e = .returned (.bool r) ∧ Keeps w w'
set_option maxRecDepth 100000 in
set_option maxHeartbeats 2000000 in
theorem cI_areRingIds (w : World) (u0 : Value) (p0 : List Int) (g0 : RdL zt w u0 p0) (r : Bool) (hF : fI_areRingIds p0 = some r) :
    Calls Try.prog 158 #[u0] w (pI_areRingIds w r) := by
  unfold fI_areRingIds at hF
  have hB : Bs (fun _ => 1) (col (fun _ => 1)) w w := Bs.start _ _
  refine calls_start (n := 11) (vs := [u0]) Try.func158 rfl rfl ?_
  refine wpC_seq ?_
  refine wpC_region ?_
  refine st_val (ex_assign rfl) (by decide) trivial ?_
  refine wpF_end (r := [(0, u0)]) ⟨rfl, trivial⟩ ?_
  refine nx ?_
  refine wpC_seq ?_
  refine wpC_region ?_
  refine st_val (ex_move rfl) (by decide) trivial ?_
  obtain ⟨x1, hx1, hF⟩ := bind_some hF
  refine st_op (by decide) trivial ?_
  refine wf_call (cI_isRing w _ p0 (g0.keep hB.keeps) x1 hx1) Try.call187 ⟨rfl, trivial⟩ ?_
  rintro e6 w2 ⟨rfl, k3⟩
  have s5 := k3.stp 999 (col (fun _ => 1))
  refine ⟨_, rfl, ?_⟩
  replace hB := hB.stp s5 (by decide)
  refine st_val (ex_move rfl) (by decide) trivial ?_
  obtain ⟨q7, hq7, hF⟩ := bind_some hF
  refine wpF_cutAt 5 (fun a9 w8 => Fr a9 11 [(10, (.bool q7))] ∧ Keeps w2 w8) ?_ ?_
  all_goals simp only [List.take_succ_cons, List.take_zero, List.drop_succ_cons, List.drop_zero]
  · have kp : Keeps w2 w2 := Keeps.refl _
    rcases Bool.eq_false_or_eq_true (x1) with t10 | t10
    · rw [if_pos t10] at hq7
      refine st_val (ex_move rfl) (by decide) ⟨_, rfl, (congrArg (fun b => some (Value.bool b)) t10)⟩ ?_
      refine st_val (ex_move rfl) (by decide) ⟨_, rfl, (congrArg (fun b => some (Value.bool b)) t10)⟩ ?_
      refine st_val (ex_lenR rfl g0 Try.underlying25) (by decide) ⟨_, rfl, (congrArg (fun b => some (Value.bool b)) t10)⟩ ?_
      obtain ⟨x11, hx11, hq7⟩ := bind_some hq7
      refine st_op (by decide) ⟨_, rfl, (congrArg (fun b => some (Value.bool b)) t10)⟩ ?_
      refine wf_call (cI_idsOk w2 _ p0 (g0.keep hB.keeps) (p0.length : Int) x11 hx11) Try.call138 ⟨rfl, rfl, trivial⟩ ?_
      rintro e16 w12 ⟨rfl, k13⟩
      have s15 := k13.stp 999 (col (fun _ => 1))
      refine ⟨_, rfl, ?_⟩
      replace hB := hB.stp s15 (by decide)
      replace kp := Keeps.trans kp k13
      refine st_val (ex_pick_t (congrArg (fun b => some (Value.bool b)) t10) rfl) (by decide) trivial ?_
      have hq72 := Option.some.inj hq7
      refine wpF_end (r := [(10, (.bool x11))]) ⟨rfl, trivial⟩ ?_
      subst hq72
      refine np_norm (fun a ha => ⟨ha, kp⟩)
    · rw [if_neg (by rw [t10]; decide)] at hq7
      refine st_no rfl rfl (by rw [t10]; rfl) (by decide) ?_
      refine st_no rfl rfl (by rw [t10]; rfl) (by decide) ?_
      refine st_no rfl rfl (by rw [t10]; rfl) (by decide) ?_
      refine st_no rfl rfl (by rw [t10]; rfl) (by decide) ?_
      refine st_val (ex_pick_f (congrArg (fun b => some (Value.bool b)) t10) rfl) (by decide) trivial ?_
      have hq72 := Option.some.inj hq7
      refine wpF_end (r := [(10, (.bool false))]) ⟨rfl, trivial⟩ ?_
      subst hq72
      refine np_norm (fun a ha => ⟨ha, kp⟩)
  rintro a19 w8 ⟨ha, k17⟩
  have s18 := k17.stp 999 (col (fun _ => 1))
  replace hB := hB.stp s18 (by decide)
  refine wl_of ha ?_
  refine st_val (ex_assign rfl) (by decide) trivial ?_
  refine wpF_end (r := [(2, (.bool q7))]) ⟨rfl, trivial⟩ ?_
  refine nx ?_
  refine wpC_ret ?_
  have e20 := Option.some.inj hF
  subst e20
  refine ret_post (P := Try.prog) (vs := [(.bool q7)]) Try.results158 ⟨rfl, trivial⟩ ?_
  exact ⟨rfl, hB.keeps⟩

def fI_windowOk (p0 : List Int) (p1 : Int) (p2 : Int) : Option Bool :=
  (fI_areRingIds p0) >>= fun x1 =>
  (
    if x1 then
      (ck ((p0.length : Int) - 1)) >>= fun x11 =>
      (fI_within p1 0 x11) >>= fun x12 =>
      if x12 then
        (fI_within p2 0 180) >>= fun x19 =>
        if x19 then
          (ck (2 * p2)) >>= fun x26 =>
          (ck (x26 + 1)) >>= fun x27 =>
          some (decide (x27 ≤ (p0.length : Int)))
        else
          some false
      else
        some false
    else
      some false) >>= fun q7 =>
  some q7

def pI_windowOk (w : World) (r : Bool) : Ending → World → Prop := fun e w' => e = .returned (.bool r) ∧ Keeps w w'
set_option maxRecDepth 100000 in
set_option maxHeartbeats 2000000 in
theorem cI_windowOk (w : World) (u0 : Value) (p0 : List Int) (g0 : RdL zt w u0 p0) (p1 : Int) (p2 : Int) (r : Bool) (hF : fI_windowOk p0 p1 p2 = some r) :
    Calls Try.prog 104 #[u0, .int .i64 p1, .int .i64 p2] w (pI_windowOk w r) := by
  unfold fI_windowOk at hF
  have hB : Bs (fun _ => 1) (col (fun _ => 1)) w w := Bs.start _ _
  refine calls_start (n := 28) (vs := [u0, (.int .i64 p1), (.int .i64 p2)]) Try.func104 rfl rfl ?_
  refine wpC_seq ?_
  refine wpC_region ?_
  refine st_val (ex_assign rfl) (by decide) trivial ?_
  refine wpF_end (r := [(0, u0), (1, (.int .i64 p1)), (2, (.int .i64 p2))]) ⟨rfl, rfl, rfl, trivial⟩ ?_
  refine nx ?_
  refine wpC_seq ?_
  refine wpC_region ?_
  refine st_val (ex_move rfl) (by decide) trivial ?_
  obtain ⟨x1, hx1, hF⟩ := bind_some hF
  refine st_op (by decide) trivial ?_
  refine wf_call (cI_areRingIds w _ p0 (g0.keep hB.keeps) x1 hx1) Try.call158 ⟨rfl, trivial⟩ ?_
  rintro e6 w2 ⟨rfl, k3⟩
  have s5 := k3.stp 999 (col (fun _ => 1))
  refine ⟨_, rfl, ?_⟩
  replace hB := hB.stp s5 (by decide)
  refine st_val (ex_move rfl) (by decide) trivial ?_
  obtain ⟨q7, hq7, hF⟩ := bind_some hF
  refine wpF_cutAt 18 (fun a9 w8 => Fr a9 28 [(27, (.bool q7))] ∧ Keeps w2 w8) ?_ ?_
  all_goals simp only [List.take_succ_cons, List.take_zero, List.drop_succ_cons, List.drop_zero]
  · have kp : Keeps w2 w2 := Keeps.refl _
    rcases Bool.eq_false_or_eq_true (x1) with t10 | t10
    · rw [if_pos t10] at hq7
      refine st_val (ex_move rfl) (by decide) ⟨_, rfl, (congrArg (fun b => some (Value.bool b)) t10)⟩ ?_
      refine st_val (ex_move rfl) (by decide) ⟨_, rfl, (congrArg (fun b => some (Value.bool b)) t10)⟩ ?_
      refine st_val (ex_lenR rfl g0 Try.underlying25) (by decide) ⟨_, rfl, (congrArg (fun b => some (Value.bool b)) t10)⟩ ?_
      obtain ⟨x11, hx11, hq7⟩ := bind_some hq7
      refine st_val (ex_sub rfl rfl hx11) (by decide) ⟨_, rfl, (congrArg (fun b => some (Value.bool b)) t10)⟩ ?_
      obtain ⟨x12, hx12, hq7⟩ := bind_some hq7
      refine st_op (by decide) ⟨_, rfl, (congrArg (fun b => some (Value.bool b)) t10)⟩ ?_
      refine wf_call (cI_within w2 p1 0 x11 x12 hx12) Try.call118 ⟨rfl, rfl, rfl, trivial⟩ ?_
      rintro e17 w13 ⟨rfl, k14⟩
      have s16 := k14.stp 999 (col (fun _ => 1))
      refine ⟨_, rfl, ?_⟩
      replace hB := hB.stp s16 (by decide)
      replace kp := Keeps.trans kp k14
      refine st_val (ex_pick_t (congrArg (fun b => some (Value.bool b)) t10) rfl) (by decide) trivial ?_
      refine st_val (ex_move rfl) (by decide) trivial ?_
      rcases Bool.eq_false_or_eq_true (x12) with t18 | t18
      · rw [if_pos t18] at hq7
        refine st_val (ex_move rfl) (by decide) ⟨_, rfl, (congrArg (fun b => some (Value.bool b)) t18)⟩ ?_
        obtain ⟨x19, hx19, hq7⟩ := bind_some hq7
        refine st_op (by decide) ⟨_, rfl, (congrArg (fun b => some (Value.bool b)) t18)⟩ ?_
        refine wf_call (cI_within w13 p2 0 180 x19 hx19) Try.call118 ⟨rfl, rfl, rfl, trivial⟩ ?_
        rintro e24 w20 ⟨rfl, k21⟩
        have s23 := k21.stp 999 (col (fun _ => 1))
        refine ⟨_, rfl, ?_⟩
        replace hB := hB.stp s23 (by decide)
        replace kp := Keeps.trans kp k21
        refine st_val (ex_pick_t (congrArg (fun b => some (Value.bool b)) t18) rfl) (by decide) trivial ?_
        refine st_val (ex_move rfl) (by decide) trivial ?_
        rcases Bool.eq_false_or_eq_true (x19) with t25 | t25
        · rw [if_pos t25] at hq7
          refine st_val (ex_move rfl) (by decide) ⟨_, rfl, (congrArg (fun b => some (Value.bool b)) t25)⟩ ?_
          obtain ⟨x26, hx26, hq7⟩ := bind_some hq7
          refine st_val (ex_mul rfl rfl hx26) (by decide) ⟨_, rfl, (congrArg (fun b => some (Value.bool b)) t25)⟩ ?_
          obtain ⟨x27, hx27, hq7⟩ := bind_some hq7
          refine st_val (ex_add rfl rfl hx27) (by decide) ⟨_, rfl, (congrArg (fun b => some (Value.bool b)) t25)⟩ ?_
          refine st_val (ex_move rfl) (by decide) ⟨_, rfl, (congrArg (fun b => some (Value.bool b)) t25)⟩ ?_
          refine st_val (ex_lenR rfl g0 Try.underlying25) (by decide) ⟨_, rfl, (congrArg (fun b => some (Value.bool b)) t25)⟩ ?_
          refine st_val (ex_leq rfl rfl) (by decide) ⟨_, rfl, (congrArg (fun b => some (Value.bool b)) t25)⟩ ?_
          refine st_val (ex_pick_t (congrArg (fun b => some (Value.bool b)) t25) rfl) (by decide) trivial ?_
          have hq72 := Option.some.inj hq7
          refine wpF_end (r := [(27, (.bool (decide (x27 ≤ (p0.length : Int)))))]) ⟨rfl, trivial⟩ ?_
          subst hq72
          refine np_norm (fun a ha => ⟨ha, kp⟩)
        · rw [if_neg (by rw [t25]; decide)] at hq7
          refine st_no rfl rfl (by rw [t25]; rfl) (by decide) ?_
          refine st_no rfl rfl (by rw [t25]; rfl) (by decide) ?_
          refine st_no rfl rfl (by rw [t25]; rfl) (by decide) ?_
          refine st_no rfl rfl (by rw [t25]; rfl) (by decide) ?_
          refine st_no rfl rfl (by rw [t25]; rfl) (by decide) ?_
          refine st_no rfl rfl (by rw [t25]; rfl) (by decide) ?_
          refine st_val (ex_pick_f (congrArg (fun b => some (Value.bool b)) t25) rfl) (by decide) trivial ?_
          have hq72 := Option.some.inj hq7
          refine wpF_end (r := [(27, (.bool false))]) ⟨rfl, trivial⟩ ?_
          subst hq72
          refine np_norm (fun a ha => ⟨ha, kp⟩)
      · rw [if_neg (by rw [t18]; decide)] at hq7
        refine st_no rfl rfl (by rw [t18]; rfl) (by decide) ?_
        refine st_no rfl rfl (by rw [t18]; rfl) (by decide) ?_
        refine st_val (ex_pick_f (congrArg (fun b => some (Value.bool b)) t18) rfl) (by decide) trivial ?_
        refine st_val (ex_move rfl) (by decide) trivial ?_
        refine st_no rfl rfl rfl (by decide) ?_
        refine st_no rfl rfl rfl (by decide) ?_
        refine st_no rfl rfl rfl (by decide) ?_
        refine st_no rfl rfl rfl (by decide) ?_
        refine st_no rfl rfl rfl (by decide) ?_
        refine st_no rfl rfl rfl (by decide) ?_
        refine st_val (ex_pick_f rfl rfl) (by decide) trivial ?_
        have hq72 := Option.some.inj hq7
        refine wpF_end (r := [(27, (.bool false))]) ⟨rfl, trivial⟩ ?_
        subst hq72
        refine np_norm (fun a ha => ⟨ha, kp⟩)
    · rw [if_neg (by rw [t10]; decide)] at hq7
      refine st_no rfl rfl (by rw [t10]; rfl) (by decide) ?_
      refine st_no rfl rfl (by rw [t10]; rfl) (by decide) ?_
      refine st_no rfl rfl (by rw [t10]; rfl) (by decide) ?_
      refine st_no rfl rfl (by rw [t10]; rfl) (by decide) ?_
      refine st_no rfl rfl (by rw [t10]; rfl) (by decide) ?_
      refine st_val (ex_pick_f (congrArg (fun b => some (Value.bool b)) t10) rfl) (by decide) trivial ?_
      refine st_val (ex_move rfl) (by decide) trivial ?_
      refine st_no rfl rfl rfl (by decide) ?_
      refine st_no rfl rfl rfl (by decide) ?_
      refine st_val (ex_pick_f rfl rfl) (by decide) trivial ?_
      refine st_val (ex_move rfl) (by decide) trivial ?_
      refine st_no rfl rfl rfl (by decide) ?_
      refine st_no rfl rfl rfl (by decide) ?_
      refine st_no rfl rfl rfl (by decide) ?_
      refine st_no rfl rfl rfl (by decide) ?_
      refine st_no rfl rfl rfl (by decide) ?_
      refine st_no rfl rfl rfl (by decide) ?_
      refine st_val (ex_pick_f rfl rfl) (by decide) trivial ?_
      have hq72 := Option.some.inj hq7
      refine wpF_end (r := [(27, (.bool false))]) ⟨rfl, trivial⟩ ?_
      subst hq72
      refine np_norm (fun a ha => ⟨ha, kp⟩)
  rintro a30 w8 ⟨ha, k28⟩
  have s29 := k28.stp 999 (col (fun _ => 1))
  replace hB := hB.stp s29 (by decide)
  refine wl_of ha ?_
  refine st_val (ex_assign rfl) (by decide) trivial ?_
  refine wpF_end (r := [(6, (.bool q7))]) ⟨rfl, trivial⟩ ?_
  refine nx ?_
  refine wpC_ret ?_
  have e31 := Option.some.inj hF
  subst e31
  refine ret_post (P := Try.prog) (vs := [(.bool q7)]) Try.results104 ⟨rfl, trivial⟩ ?_
  exact ⟨rfl, hB.keeps⟩

def fI_orderWindow_s1 (p0 : List Int) (p1 : Int) (p2 : Int) : ((List Int) × Int) → Option (Lp ((List Int) × Int) ((List Int) × Int) (List Int)) := fun (s : (List Int) × Int) =>
  if decide (s.2 ≤ p2) then
    (ck (p1 + s.2)) >>= fun x20 =>
    (ck (x20 + (p0.length : Int))) >>= fun x21 =>
    (rem x21 (p0.length : Int)) >>= fun x22 =>
    (ix p0 x22) >>= fun x23 =>
    (push s.1 x23) >>= fun x35 =>
    (ck (s.2 + 1)) >>= fun x41 =>
    some (.go (x35, x41))
  else
    some (.out (s.1, s.2))
def fI_orderWindow_s2 (fuel : Nat) (x58 : List Int) : Int → Int → (List Int) → Option (Lp (List Int) (List Int) (List Int)) := fun (i67 : Int) (x77 : Int) (s : List Int) =>
  (fX_slices_BinarySearch_int_int fuel x58 x77) >>= fun x83 =>
  (push s x83.1) >>= fun x95 =>
  some (.go x95)
def fI_orderWindow (fuel : Nat) (p0 : List Int) (p1 : Int) (p2 : Int) : Option (List Int) :=
  (ck (-p2)) >>= fun x1 =>
  (loopF (fI_orderWindow_s1 p0 p1 p2) fuel ([], (-p2))) >>= fun q9 =>
  match q9 with
  | .inl (y3, y6) =>
    (srtO y3) >>= fun x58 =>
    (forI (fI_orderWindow_s2 fuel x58) y3 0 []) >>= fun q68 =>
    match q68 with
    | .inl y62 =>
      some y62
    | .inr _ => none
  | .inr _ => none

def pI_orderWindow (oo : Tg) (t : Nat) (w : World) (r : List Int) : Ending → World → Prop := fun e w' => ∃ (v0 : Value) (o' : Tg), e = .returned (v0) ∧ Ow w.heap.size 3 t o' w' v0 r ∧ Keeps w w' ∧ ∀ b, b < w.heap.size → o' b = oo b
set_option maxRecDepth 100000 in
set_option maxHeartbeats 2000000 in
theorem cI_orderWindow (fuel : Nat) (w : World) (oo : Tg) (t : Nat) (ht : 2 ≤ t) (u0 : Value) (p0 : List Int) (g0 : RdL zt w u0 p0) (p1 : Int) (p2 : Int) (r : List Int) (hF : fI_orderWindow fuel p0 p1 p2 = some r) :
    Calls Try.prog 161 #[u0, .int .i64 p1, .int .i64 p2] w (pI_orderWindow oo t w r) := by
  unfold fI_orderWindow at hF
  have hB : Bs oo (col oo) w w := Bs.start _ _
  refine calls_start (n := 59) (vs := [u0, (.int .i64 p1), (.int .i64 p2)]) Try.func161 rfl rfl ?_
  generalize col oo = o at *
  refine wpC_seq ?_
  refine wpC_region ?_
  refine st_val (ex_assign rfl) (by decide) trivial ?_
  refine wpF_end (r := [(0, u0), (1, (.int .i64 p1)), (2, (.int .i64 p2))]) ⟨rfl, rfl, rfl, trivial⟩ ?_
  refine nx ?_
  refine wpC_seq ?_
  refine wpC_region ?_
  refine st_val (ex_move rfl) (by decide) trivial ?_
  refine st_val (ex_lenR rfl g0 Try.underlying25) (by decide) trivial ?_
  refine st_val (ex_assign rfl) (by decide) trivial ?_
  refine wpF_end (r := [(0, u0), (1, (.int .i64 p1)), (2, (.int .i64 p2)), (7, (.int .i64 (p0.length : Int)))]) ⟨rfl, rfl, rfl, rfl, trivial⟩ ?_
  refine nx ?_
  refine wpC_seq ?_
  refine wpC_region ?_
  refine st_val (ex_assign rfl) (by decide) trivial ?_
  refine wpF_end (r := [(0, u0), (1, (.int .i64 p1)), (2, (.int .i64 p2)), (7, (.int .i64 (p0.length : Int))), (8, (.slice none 0 0))]) ⟨rfl, rfl, rfl, rfl, rfl, trivial⟩ ?_
  refine nx ?_
  refine wpC_seq ?_
  refine wpC_seq ?_
  refine wpC_region ?_
  refine st_val (ex_move rfl) (by decide) trivial ?_
  obtain ⟨x1, hx1, hF⟩ := bind_some hF
  obtain ⟨rfl, hx1a, hx1b⟩ := ck_some hx1
  refine st_val (ex_neg rfl hx1a hx1b) (by decide) trivial ?_
  refine st_val (ex_assign rfl) (by decide) trivial ?_
  refine wpF_end (r := [(0, u0), (1, (.int .i64 p1)), (2, (.int .i64 p2)), (7, (.int .i64 (p0.length : Int))), (8, (.slice none 0 0)), (9, (.int .i64 (-p2)))]) ⟨rfl, rfl, rfl, rfl, rfl, rfl, trivial⟩ ?_
  refine nx ?_
  have h2 : Ow w.heap.size 3 11 o w (.slice none 0 0) ([] : List Int) := Ow.nil _ _ _ _ _
  obtain ⟨q9, hq9, hF⟩ := bind_some hF
  refine wpC_cutN (fun a w8 => ∃ (y3 : List Int) (y6 : Int) (v4 : Value) (o7 : Tg), q9 = .inl (y3, y6) ∧ Fr a 59 [(8, v4)] ∧ Bs oo o7 w w8 ∧ Ow w.heap.size 3 11 o7 w8 v4 y3) (fun _ _ => False) ?_ ?_ ?_
  · refine wpC_block ?_
    refine wpC_loop (fun (K : Nat) a w8 => ∃ (y3 : List Int) (y6 : Int) (v4 : Value) (o7 : Tg), loopF (fI_orderWindow_s1 p0 p1 p2) K (y3, y6) = some q9 ∧ Fr a 59 [(0, u0), (1, (.int .i64 p1)), (2, (.int .i64 p2)), (7, (.int .i64 (p0.length : Int))), (8, v4), (9, (.int .i64 y6))] ∧ Bs oo o7 w w8 ∧ Ow w.heap.size 3 11 o7 w8 v4 y3) fuel (fun a ha => ⟨[], (-p2), (.slice none 0 0), o, hq9, ha.sub (r := [(0, u0), (1, (.int .i64 p1)), (2, (.int .i64 p2)), (7, (.int .i64 (p0.length : Int))), (8, (.slice none 0 0)), (9, (.int .i64 (-p2)))]) ⟨rfl, rfl, rfl, rfl, rfl, rfl, trivial⟩, hB, h2⟩) ?_
    rintro K13 a w8 ⟨y3, y6, v4, o7, l10, ha, hB, h5⟩
    obtain ⟨K17, q14, e18, b15, n16⟩ := loopF_cons l10
    dsimp only [fI_orderWindow_s1] at b15
    refine wp_of ha ?_
    refine wpC_seq ?_
    refine wpC_seq ?_
    refine wpC_region ?_
    refine st_val (ex_move rfl) (by decide) trivial ?_
    refine st_val (ex_move rfl) (by decide) trivial ?_
    refine st_val (ex_leq rfl rfl) (by decide) trivial ?_
    refine wpF_end (r := [(0, u0), (1, (.int .i64 p1)), (2, (.int .i64 p2)), (7, (.int .i64 (p0.length : Int))), (8, v4), (9, (.int .i64 y6)), (22, (.bool (decide (y6 ≤ p2))))]) ⟨rfl, rfl, rfl, rfl, rfl, rfl, rfl, trivial⟩ ?_
    refine nx ?_
    refine wpC_cond rfl (fun t19 => ?_) (fun t19 => ?_)
    · rw [if_pos t19] at b15
      refine wpC_skip ?_
      refine nx ?_
      refine wpC_seq ?_
      refine wpC_block ?_
      refine wpC_region ?_
      refine st_val (ex_move rfl) (by decide) trivial ?_
      refine st_val (ex_move rfl) (by decide) trivial ?_
      refine st_val (ex_move rfl) (by decide) trivial ?_
      refine st_val (ex_move rfl) (by decide) trivial ?_
      obtain ⟨x20, hx20, b15⟩ := bind_some b15
      refine st_val (ex_add rfl rfl hx20) (by decide) trivial ?_
      refine st_val (ex_move rfl) (by decide) trivial ?_
      obtain ⟨x21, hx21, b15⟩ := bind_some b15
      refine st_val (ex_add rfl rfl hx21) (by decide) trivial ?_
      refine st_val (ex_move rfl) (by decide) trivial ?_
      obtain ⟨x22, hx22, b15⟩ := bind_some b15
      refine st_val (ex_rem rfl rfl hx22) (by decide) trivial ?_
      obtain ⟨x23, hx23, b15⟩ := bind_some b15
      refine st_op (by decide) trivial ?_
      refine wf_atZ g0 hx23 hB rfl rfl Try.underlying25 Try.sizeOf3 ?_
      intro b24 f25 c26 h27 h28
      cases h28
      refine st_val (ex_load1 rfl Try.isAgg3 (cell_of_cells h27)) (by decide) trivial ?_
      refine st_op (by decide) trivial ?_
      refine wf_litR (o := o7) (cs := [(.int .i64 x23)]) (xs := ([x23] : List Int)) (vs := [(0, (.int .i64 x23))]) ⟨_, _, rfl, rfl, rfl⟩ rfl ⟨rfl, rfl, trivial⟩ Try.underlying25 Try.sizeOf3 Try.zeroValue3 (by decide) (fill1 rfl) (by simp) ?_
      intro o29 w30 v31 h32 s33 k34
      replace h5 := h5.stp s33 (by decide) (by decide)
      replace hB := hB.stp s33 (by decide)
      obtain ⟨x35, hx35, b15⟩ := bind_some b15
      refine st_op (by decide) trivial ?_
      refine wf_cat h5 h32 (push_cat hx35) (by decide) hB.keeps.size rfl rfl Try.underlying25 info2_t_int_O rfl (by decide) ?_
      intro o36 w37 v38 h39 s40
      replace h32 := h32.stp s40 (by decide)
      replace hB := hB.stp s40 (by decide)
      refine st_val (ex_assign rfl) (by decide) trivial ?_
      refine wpF_end (r := [(0, u0), (1, (.int .i64 p1)), (2, (.int .i64 p2)), (7, (.int .i64 (p0.length : Int))), (8, v38), (9, (.int .i64 y6))]) ⟨rfl, rfl, rfl, rfl, rfl, rfl, trivial⟩ ?_
      refine nb_norm ?_
      refine nx ?_
      refine wpC_region ?_
      refine st_val (ex_move rfl) (by decide) trivial ?_
      obtain ⟨x41, hx41, b15⟩ := bind_some b15
      refine st_val (ex_add rfl rfl hx41) (by decide) trivial ?_
      refine st_val (ex_assign rfl) (by decide) trivial ?_
      refine wpF_end (r := [(0, u0), (1, (.int .i64 p1)), (2, (.int .i64 p2)), (7, (.int .i64 (p0.length : Int))), (8, v38), (9, (.int .i64 x41))]) ⟨rfl, rfl, rfl, rfl, rfl, rfl, trivial⟩ ?_
      refine nt_norm ?_
      have e42 := Option.some.inj b15
      subst e42
      refine to_k (r := [(0, u0), (1, (.int .i64 p1)), (2, (.int .i64 p2)), (7, (.int .i64 (p0.length : Int))), (8, v38), (9, (.int .i64 x41))]) ⟨rfl, rfl, rfl, rfl, rfl, rfl, trivial⟩ ?_
      intro a ha
      exact ⟨K17, by omega, x35, x41, v38, o36, n16, ha, hB, h39⟩
    · rw [if_neg (by rw [t19]; decide)] at b15
      refine wpC_exit ?_
      refine nt_exit ?_
      refine nt_exit ?_
      refine nb_hit ?_
      refine np_norm ?_
      have e43 := Option.some.inj b15
      subst e43
      refine to_k (r := [(8, v4)]) ⟨rfl, trivial⟩ ?_
      intro a ha
      exact ⟨y3, y6, v4, o7, n16, ha, hB, h5⟩
  · rintro a w8 ⟨y3, y6, v4, o7, rfl, ha, hB, h5⟩
    dsimp only at hF
    refine ap_k ha ?_
    refine nx ?_
    refine wpC_seq ?_
    refine wpC_region ?_
    refine st_val (ex_move rfl) (by decide) trivial ?_
    refine st_op (by decide) trivial ?_
    refine wf_call (cX_Values w8 o7 v4 y3 h5.z) Try.call133 ⟨rfl, trivial⟩ ?_
    rintro e45 w44 ⟨v50, o49, rfl, h51, k46, k47⟩
    have s48 := k46.stp' 999 k47
    refine ⟨_, rfl, ?_⟩
    replace h5 := h5.stp s48 (by decide) (by decide)
    replace hB := hB.stp s48 (by decide)
    obtain ⟨x58, hx58, hF⟩ := bind_some hF
    refine st_op (by decide) trivial ?_
    refine wf_call (cX_Sorted w44 o49 12 v50 v4 _ h51 y3 h5.z x58 hx58) Try.call132 ⟨rfl, trivial⟩ ?_
    rintro e53 w52 ⟨v59, o57, rfl, h60, k54, k55⟩
    have s56 := k54.stp' 12 k55
    replace h60 := h60.mono hB.keeps.size
    refine ⟨_, rfl, ?_⟩
    replace h5 := h5.stp s56 (by decide) (by decide)
    replace h51 := h51.stp s56 (by decide)
    replace hB := hB.stp s56 (by decide)
    refine st_val (ex_assign rfl) (by decide) trivial ?_
    refine wpF_end (r := [(8, v4), (10, v59)]) ⟨rfl, rfl, trivial⟩ ?_
    refine nx ?_
    refine wpC_seq ?_
    refine wpC_region ?_
    refine st_val (ex_assign rfl) (by decide) trivial ?_
    refine wpF_end (r := [(8, v4), (10, v59), (11, (.slice none 0 0))]) ⟨rfl, rfl, rfl, trivial⟩ ?_
    refine nx ?_
    refine wpC_seq ?_
    refine wpC_seq ?_
    refine wpC_region ?_
    refine st_val (ex_move rfl) (by decide) trivial ?_
    refine st_val (ex_lenO rfl h5 Try.underlying25) (by decide) trivial ?_
    refine st_val (ex_move rfl) (by decide) trivial ?_
    refine wpF_end (r := [(10, v59), (11, (.slice none 0 0)), (41, v4), (42, (.int .i64 (y3.length : Int))), (43, (.int .i64 0))]) ⟨rfl, rfl, rfl, rfl, rfl, trivial⟩ ?_
    refine nx ?_
    have h61 : Ow w.heap.size 3 13 o57 w52 (.slice none 0 0) ([] : List Int) := Ow.nil _ _ _ _ _
    obtain ⟨q68, hq68, hF⟩ := bind_some hF
    refine wpC_cutN (fun a w66 => ∃ (y62 : List Int) (v63 : Value) (o65 : Tg), q68 = .inl y62 ∧ Fr a 59 [(11, v63)] ∧ Bs oo o65 w w66 ∧ Ow w.heap.size 3 13 o65 w66 v63 y62) (fun _ _ => False) ?_ ?_ ?_
    · refine wpC_block ?_
      refine wpC_loop (fun (K : Nat) a w66 => ∃ (i67 : Int) (y62 : List Int) (v63 : Value) (o65 : Tg), forI (fI_orderWindow_s2 fuel x58) (y3.drop i67.toNat) i67 y62 = some q68 ∧ (y3.drop i67.toNat).length = K ∧ 0 ≤ i67 ∧ Fr a 59 [(10, v59), (11, v63), (41, v4), (42, (.int .i64 (y3.length : Int))), (43, (.int .i64 i67))] ∧ Bs oo o65 w w66 ∧ Ow w.heap.size 3 12 o65 w66 v59 x58 ∧ Ow w.heap.size 3 13 o65 w66 v63 y62 ∧ Ow w.heap.size 3 11 o65 w66 v4 y3) _ (fun a ha => ⟨0, [], (.slice none 0 0), o57, hq68, rfl, Int.le_refl 0, ha.sub (r := [(10, v59), (11, (.slice none 0 0)), (41, v4), (42, (.int .i64 (y3.length : Int))), (43, (.int .i64 0))]) ⟨rfl, rfl, rfl, rfl, rfl, trivial⟩, hB, h60, h61, h5⟩) ?_
      rintro K72 a w66 ⟨i67, y62, v63, o65, l69, m71, z70, ha, hB, h60, h64, h5⟩
      by_cases t76 : i67 < (y3.length : Int)
      · obtain ⟨x77, q73, hx77, b74, n75⟩ := forI_cons z70 t76 l69
        have hle := h5.len_le
        dsimp only [fI_orderWindow_s2] at b74
        refine wp_of ha ?_
        refine wpC_seq ?_
        refine wpC_region ?_
        refine st_val (ex_lss rfl rfl) (by decide) trivial ?_
        refine wpF_end (r := [(10, v59), (11, v63), (41, v4), (42, (.int .i64 (y3.length : Int))), (43, (.int .i64 i67)), (44, (.bool (decide (i67 < (y3.length : Int)))))]) ⟨rfl, rfl, rfl, rfl, rfl, rfl, trivial⟩ ?_
        refine nx ?_
        refine wpC_seq ?_
        refine wpC_true (congrArg (fun b => some (Value.bool b)) (decide_eq_true t76)) ?_
        refine wpC_skip ?_
        refine nx ?_
        refine wpC_seq ?_
        refine wpC_block ?_
        refine wpC_seq ?_
        refine wpC_region ?_
        refine st_op (by decide) trivial ?_
        refine wf_atW h5 hx77 rfl rfl Try.underlying25 Try.sizeOf3 ?_
        intro b78 f79 c80 h81 h82
        cases h82
        refine st_val (ex_load1 rfl Try.isAgg3 (cell_of_cells h81)) (by decide) trivial ?_
        refine st_val (ex_assign rfl) (by decide) trivial ?_
        refine wpF_end (r := [(10, v59), (11, v63), (13, (.int .i64 x77)), (41, v4), (42, (.int .i64 (y3.length : Int))), (43, (.int .i64 i67))]) ⟨rfl, rfl, rfl, rfl, rfl, rfl, trivial⟩ ?_
        refine nx ?_
        refine wpC_seq ?_
        refine wpC_region ?_
        refine st_val (ex_move rfl) (by decide) trivial ?_
        refine st_val (ex_move rfl) (by decide) trivial ?_
        obtain ⟨x83, hx83, b74⟩ := bind_some b74
        refine st_op (by decide) trivial ?_
        refine wf_call (cX_slices_BinarySearch_int_int fuel w66 _ x58 h60.z x77 x83 hx83) Try.call188 ⟨rfl, rfl, trivial⟩ ?_
        rintro e88 w84 ⟨rfl, k85⟩
        have s87 := k85.stp 999 o65
        refine ⟨_, rfl, ?_⟩
        replace h60 := h60.stp s87 (by decide) (by decide)
        replace h64 := h64.stp s87 (by decide) (by decide)
        replace h5 := h5.stp s87 (by decide) (by decide)
        replace hB := hB.stp s87 (by decide)
        refine st_val (ex_move rfl) (by decide) trivial ?_
        refine st_val (ex_extract rfl rfl) (by decide) trivial ?_
        refine st_val (ex_extract rfl rfl) (by decide) trivial ?_
        refine st_val (ex_assign rfl) (by decide) trivial ?_
        refine st_val (ex_assign rfl) (by decide) trivial ?_
        refine wpF_end (r := [(10, v59), (11, v63), (14, (.int .i64 x83.1)), (41, v4), (42, (.int .i64 (y3.length : Int))), (43, (.int .i64 i67))]) ⟨rfl, rfl, rfl, rfl, rfl, rfl, trivial⟩ ?_
        refine nx ?_
        refine wpC_region ?_
        refine st_val (ex_move rfl) (by decide) trivial ?_
        refine st_val (ex_move rfl) (by decide) trivial ?_
        refine st_op (by decide) trivial ?_
        refine wf_litR (o := o65) (cs := [(.int .i64 x83.1)]) (xs := ([x83.1] : List Int)) (vs := [(0, (.int .i64 x83.1))]) ⟨_, _, rfl, rfl, rfl⟩ rfl ⟨rfl, rfl, trivial⟩ Try.underlying25 Try.sizeOf3 Try.zeroValue3 (by decide) (fill1 rfl) (by simp) ?_
        intro o89 w90 v91 h92 s93 k94
        replace h60 := h60.stp s93 (by decide) (by decide)
        replace h64 := h64.stp s93 (by decide) (by decide)
        replace h5 := h5.stp s93 (by decide) (by decide)
        replace hB := hB.stp s93 (by decide)
        obtain ⟨x95, hx95, b74⟩ := bind_some b74
        refine st_op (by decide) trivial ?_
        refine wf_cat h64 h92 (push_cat hx95) (by decide) hB.keeps.size rfl rfl Try.underlying25 info2_t_int_O rfl (by decide) ?_
        intro o96 w97 v98 h99 s100
        replace h60 := h60.stp s100 (by decide) (by decide)
        replace h5 := h5.stp s100 (by decide) (by decide)
        replace h92 := h92.stp s100 (by decide)
        replace hB := hB.stp s100 (by decide)
        refine st_val (ex_assign rfl) (by decide) trivial ?_
        refine wpF_end (r := [(10, v59), (11, v98), (41, v4), (42, (.int .i64 (y3.length : Int))), (43, (.int .i64 i67))]) ⟨rfl, rfl, rfl, rfl, rfl, trivial⟩ ?_
        refine nb_norm ?_
        refine nx ?_
        refine wpC_region ?_
        refine st_val (ex_add rfl rfl (ck_in (by omega) (by omega))) (by decide) trivial ?_
        refine st_val (ex_move rfl) (by decide) trivial ?_
        refine wpF_end (r := [(10, v59), (11, v98), (41, v4), (42, (.int .i64 (y3.length : Int))), (43, (.int .i64 (i67 + 1)))]) ⟨rfl, rfl, rfl, rfl, rfl, trivial⟩ ?_
        refine nt_norm ?_
        have e101 := Option.some.inj b74
        subst e101
        refine to_k (r := [(10, v59), (11, v98), (41, v4), (42, (.int .i64 (y3.length : Int))), (43, (.int .i64 (i67 + 1)))]) ⟨rfl, rfl, rfl, rfl, rfl, trivial⟩ ?_
        intro a ha
        exact ⟨_, (by rw [← m71]; simp only [List.length_drop]; omega), i67 + 1, x95, v98, o96, n75, rfl, (by omega), ha, hB, h60, h99, h5⟩
      · have r102 := forI_done t76 l69
        refine wp_of ha ?_
        refine wpC_seq ?_
        refine wpC_region ?_
        refine st_val (ex_lss rfl rfl) (by decide) trivial ?_
        refine wpF_end (r := [(10, v59), (11, v63), (41, v4), (42, (.int .i64 (y3.length : Int))), (43, (.int .i64 i67)), (44, (.bool (decide (i67 < (y3.length : Int)))))]) ⟨rfl, rfl, rfl, rfl, rfl, rfl, trivial⟩ ?_
        refine nx ?_
        refine wpC_seq ?_
        refine wpC_false (congrArg (fun b => some (Value.bool b)) (decide_eq_false t76)) ?_
        refine wpC_exit ?_
        refine nt_exit ?_
        refine nt_exit ?_
        refine nb_hit ?_
        refine np_norm ?_
        refine to_k (r := [(11, v63)]) ⟨rfl, trivial⟩ ?_
        intro a ha
        exact ⟨y62, v63, o65, r102, ha, hB, h64⟩
    · rintro a w66 ⟨y62, v63, o65, rfl, ha, hB, h64⟩
      dsimp only at hF
      refine ap_k ha ?_
      refine nx ?_
      refine wpC_seq ?_
      refine wpC_region ?_
      refine st_val (ex_move rfl) (by decide) trivial ?_
      refine st_val (ex_assign rfl) (by decide) trivial ?_
      refine wpF_end (r := [(6, v63)]) ⟨rfl, trivial⟩ ?_
      refine nx ?_
      refine wpC_ret ?_
      have e103 := Option.some.inj hF
      subst e103
      refine ret_post (P := Try.prog) (vs := [v63]) Try.results161 ⟨rfl, trivial⟩ ?_
      exact ⟨_, rt oo o65 w.heap.size 13 t, rfl, h64.rt hB (by decide) t, hB.keeps, rt_old _ _ _ _ _⟩
    · exact fun _ _ h => h.elim
  · exact fun _ _ h => h.elim

def fI_OrderWindow (fuel : Nat) (p0 : List Int) (p1 : Int) (p2 : Int) : Option ((List Int) × Bool) :=
  (fI_windowOk p0 p1 p2) >>= fun x1 =>
  if !x1 then
    some ([], false)
  else
    (fI_orderWindow fuel p0 p1 p2) >>= fun x9 =>
    some (x9, true)

def fS_cyAlike (fuel : Nat) (p0 : List Int) (p1 : Int) (p2 : Int) : Option Bool :=
  (fS_cyWindow fuel p0 p1 p2) >>= fun x1 =>
  (ck (p1 + 1)) >>= fun x10 =>
  (rem x10 (p0.length : Int)) >>= fun x11 =>
  (fS_cyWindow fuel p0 x11 p2) >>= fun x69 =>
  (fS_l1Same x1 x69) >>= fun x78 =>
  some x78

def pS_cyAlike (w : World) (r : Bool) : Ending → World → Prop := fun e w' => e = .returned (.bool r) ∧ Keeps w w'
set_option maxRecDepth 100000 in
set_option maxHeartbeats 2000000 in
theorem cS_cyAlike (fuel : Nat) (w : World) (u0 : Value) (p0 : List Int) (g0 : RdL zt w u0 p0) (p1 : Int) (p2 : Int) (r : Bool) (hF : fS_cyAlike fuel p0 p1 p2 = some r) :
    Calls Try.prog 102 #[u0, .int .i64 p1, .int .i64 p2] w (pS_cyAlike w r) := by
  unfold fS_cyAlike at hF
  have hB : Bs (fun _ => 1) (col (fun _ => 1)) w w := Bs.start _ _
  refine calls_start (n := 20) (vs := [u0, (.int .i64 p1), (.int .i64 p2)]) Try.func102 rfl rfl ?_
  refine wpC_seq ?_
  refine wpC_region ?_
  refine st_val (ex_assign rfl) (by decide) trivial ?_
  refine wpF_end (r := [(0, u0), (1, (.int .i64 p1)), (2, (.int .i64 p2))]) ⟨rfl, rfl, rfl, trivial⟩ ?_
  refine nx ?_
  refine wpC_seq ?_
  obtain ⟨x1, hx1, hF⟩ := bind_some hF
  obtain ⟨x10, hx10, hF⟩ := bind_some hF
  obtain ⟨x11, hx11, hF⟩ := bind_some hF
  refine wpC_drawn (o := (col (fun _ => 1))) [(0, u0), (1, (.int .i64 p1)), (2, (.int .i64 p2))] [0, 1, 2] [7, 8, 9, 10, 11, 12, 13, 14, 15, 16, 17] [[], [], [], [0, 1, 2], [], [], [5], [], [7], [6, 8], []] [none, none, none, none, none, none, none, none, none, none, none] [999, 999, 999, 999, 999, 999, 999, 999, 999, 999, 999] [0, 0, 0, 11, 0, 0, 0, 0, 0, 0, 0] [999] [fun v _ _ => v = u0, fun v _ _ => v = (.int .i64 p1), fun v _ _ => v = (.int .i64 p2), fun v o w9 => Ow w.heap.size 3 11 o w9 v x1, fun v _ _ => v = u0, fun v _ _ => v = (.int .i64 p1), fun v _ _ => v = (.int .i64 x10), fun v _ _ => v = u0, fun v _ _ => v = (.int .i64 (p0.length : Int)), fun v _ _ => v = (.int .i64 x11), fun v _ _ => v = (.int .i64 p2)] (fun o8 w8 => Bs (fun _ => 1) o8 w w8) follows_mixed (by kernel_rfl) rfl ⟨rfl, rfl, rfl, trivial⟩ hB ?_ ⟨st_eq _, st_eq _, st_eq _, fun _ _ _ _ _ _ h0 hb h hs => h.stp hs h0.1 (Ne.symm hb), st_eq _, st_eq _, st_eq _, st_eq _, st_eq _, st_eq _, st_eq _, trivial⟩ ?_ ?_
  · rintro t9 o1 w1 o2 w2 ht9 hB hs9
    have ht9 : t9 = 999 := by simpa using ht9
    subst ht9
    all_goals exact hB.stp hs9 (by decide)
  · refine ⟨?_, ?_, ?_, ?_, ?_, ?_, ?_, ?_, ?_, ?_, ?_, trivial⟩
    · rintro o12 w13 a14 ha hB -
      refine opS_of ha (trivial) ?_
      refine op1_val (ex_move rfl) ?_
      exact ⟨_, Stp.refl _ _ _, rfl⟩
    · rintro o15 w16 a17 ha hB -
      refine opS_of ha (trivial) ?_
      refine op1_val (ex_move rfl) ?_
      exact ⟨_, Stp.refl _ _ _, rfl⟩
    · rintro o18 w19 a20 ha hB -
      refine opS_of ha (trivial) ?_
      refine op1_val (ex_move rfl) ?_
      exact ⟨_, Stp.refl _ _ _, rfl⟩
    · rintro o21 w22 a23 ha hB ⟨r24, r25, r26, -⟩
      have ha := Fr.cons (d := 7) ha r24
      have ha := Fr.cons (d := 8) ha r25
      have ha := Fr.cons (d := 9) ha r26
      refine opS_of ha (trivial) ?_
      refine wf_call (cS_cyWindow fuel w22 o21 11 (by decide) _ p0 (g0.keep hB.keeps) p1 p2 x1 hx1) Try.call155 ⟨rfl, rfl, rfl, trivial⟩ ?_
      rintro e33 w27 ⟨v28, o34, rfl, h29, k30, k31⟩
      have s32 := k30.stp' 999 k31
      replace h29 := h29.mono hB.keeps.size
      refine ⟨_, rfl, ?_⟩
      replace hB := hB.stp s32 (by decide)
      exact ⟨_, s32, h29⟩
    · rintro o35 w36 a37 ha hB -
      refine opS_of ha (trivial) ?_
      refine op1_val (ex_move rfl) ?_
      exact ⟨_, Stp.refl _ _ _, rfl⟩
    · rintro o38 w39 a40 ha hB -
      refine opS_of ha (trivial) ?_
      refine op1_val (ex_move rfl) ?_
      exact ⟨_, Stp.refl _ _ _, rfl⟩
    · rintro o41 w42 a43 ha hB ⟨r44, -⟩
      have ha := Fr.cons (d := 12) ha r44
      refine opS_of ha (trivial) ?_
      refine op1_val (ex_add rfl rfl hx10) ?_
      exact ⟨_, Stp.refl _ _ _, rfl⟩
    · rintro o45 w46 a47 ha hB -
      refine opS_of ha (trivial) ?_
      refine op1_val (ex_move rfl) ?_
      exact ⟨_, Stp.refl _ _ _, rfl⟩
    · rintro o48 w49 a50 ha hB ⟨r51, -⟩
      have ha := Fr.cons (d := 14) ha r51
      refine opS_of ha (trivial) ?_
      refine op1_val (ex_lenR rfl g0 Try.underlying25) ?_
      exact ⟨_, Stp.refl _ _ _, rfl⟩
    · rintro o52 w53 a54 ha hB ⟨r55, r56, -⟩
      have ha := Fr.cons (d := 13) ha r55
      have ha := Fr.cons (d := 15) ha r56
      refine opS_of ha (trivial) ?_
      refine op1_val (ex_rem rfl rfl hx11) ?_
      exact ⟨_, Stp.refl _ _ _, rfl⟩
    · rintro o57 w58 a59 ha hB -
      refine opS_of ha (trivial) ?_
      refine op1_val (ex_move rfl) ?_
      exact ⟨_, Stp.refl _ _ _, rfl⟩
  rintro o60 w61 a62 ha hB ⟨-, -, -, r63, r64, -, -, -, -, r65, r66, -⟩
  replace r63 : Ow w.heap.size 3 11 o60 w61 (a62.tmps.getD 10 undef) x1 := r63
  generalize e68 : a62.tmps.getD 10 undef = v67 at r63
  have ha := Fr.cons (d := 10) ha e68
  have ha := Fr.cons (d := 11) ha r64
  have ha := Fr.cons (d := 16) ha r65
  have ha := Fr.cons (d := 17) ha r66
  refine wl_of ha ?_
  simp only [List.length_cons, List.length_nil, Nat.zero_add, Nat.reduceAdd, List.drop_succ_cons, List.drop_zero]
  obtain ⟨x69, hx69, hF⟩ := bind_some hF
  refine st_op (by decide) trivial ?_
  refine wf_call (cS_cyWindow fuel w61 o60 12 (by decide) _ p0 (g0.keep hB.keeps) x11 p2 x69 hx69) Try.call155 ⟨rfl, rfl, rfl, trivial⟩ ?_
  rintro e76 w70 ⟨v71, o77, rfl, h72, k73, k74⟩
  have s75 := k73.stp' 12 k74
  replace h72 := h72.mono hB.keeps.size
  refine ⟨_, rfl, ?_⟩
  replace r63 := r63.stp s75 (by decide) (by decide)
  replace hB := hB.stp s75 (by decide)
  obtain ⟨x78, hx78, hF⟩ := bind_some hF
  refine st_op (by decide) trivial ?_
  refine wf_call (cS_l1Same w70 _ x1 r63.z _ x69 h72.z x78 hx78) Try.call72 ⟨rfl, rfl, trivial⟩ ?_
  rintro e83 w79 ⟨rfl, k80⟩
  have s82 := k80.stp 999 o77
  refine ⟨_, rfl, ?_⟩
  replace r63 := r63.stp s82 (by decide) (by decide)
  replace h72 := h72.stp s82 (by decide) (by decide)
  replace hB := hB.stp s82 (by decide)
  refine st_val (ex_assign rfl) (by decide) trivial ?_
  refine wpF_end (r := [(6, (.bool x78))]) ⟨rfl, trivial⟩ ?_
  refine nx ?_
  refine wpC_ret ?_
  have e84 := Option.some.inj hF
  subst e84
  refine ret_post (P := Try.prog) (vs := [(.bool x78)]) Try.results102 ⟨rfl, trivial⟩ ?_
  exact ⟨rfl, hB.keeps⟩

def fS_SameOrderPair_s1 (fuel : Nat) (p0 : List Int) (p1 : Int) : Int → Unit → Option (Lp Unit Unit (Int × Bool)) := fun (i11 : Int) (s : Unit) =>
  (fS_cyAlike fuel p0 i11 p1) >>= fun x23 =>
  if x23 then
    some (.ret (i11, true))
  else
    some (.go ())
def fS_SameOrderPair (fuel : Nat) (p0 : List Int) (p1 : Int) : Option (Int × Bool) :=
  (fS_cyWide p0 p1) >>= fun x1 =>
  if !x1 then
    some (0, false)
  else
    ck (p0.length : Int) >>= fun _ =>
    (forN (fS_SameOrderPair_s1 fuel p0 p1) ((p0.length : Int)).toNat 0 ()) >>= fun q12 =>
    match q12 with
    | .inl _ =>
      some (0, false)
    | .inr r' => some r'

def fX_slices_Equal_int_int_s1 (p0 : List Int) (p1 : List Int) : Int → Unit → Option (Lp Unit Unit Bool) := fun (i5 : Int) (s : Unit) =>
  (ix p0 i5) >>= fun x17 =>
  (ix p1 i5) >>= fun x20 =>
  if x17 != x20 then
    some (.ret false)
  else
    some (.go ())
def fX_slices_Equal_int_int (p0 : List Int) (p1 : List Int) : Option Bool :=
  if (p0.length : Int) != (p1.length : Int) then
    some false
  else
    ck (p0.length : Int) >>= fun _ =>
    (forN (fX_slices_Equal_int_int_s1 p0 p1) ((p0.length : Int)).toNat 0 ()) >>= fun q6 =>
    match q6 with
    | .inl _ =>
      some true
    | .inr r' => some r'

def pX_slices_Equal_int_int (w : World) (r : Bool) : Ending → World → Prop := fun e w' => e = .returned (.bool r) ∧ Keeps w w'
set_option maxRecDepth 100000 in
set_option maxHeartbeats 2000000 in
theorem cX_slices_Equal_int_int (w : World) (u0 : Value) (p0 : List Int) (g0 : RdL zt w u0 p0) (u1 : Value) (p1 : List Int) (g1 : RdL zt w u1 p1) (r : Bool) (hF : fX_slices_Equal_int_int p0 p1 = some r) :
    Calls Try.prog 126 #[u0, u1] w (pX_slices_Equal_int_int w r) := by
  unfold fX_slices_Equal_int_int at hF
  have hB : Bs (fun _ => 1) (col (fun _ => 1)) w w := Bs.start _ _
  refine calls_start (n := 26) (vs := [u0, u1]) Try.func126 rfl rfl ?_
  refine wpC_seq ?_
  refine wpC_region ?_
  refine st_val (ex_assign rfl) (by decide) trivial ?_
  refine wpF_end (r := [(0, u0), (1, u1)]) ⟨rfl, rfl, trivial⟩ ?_
  refine nx ?_
  refine wpC_seq ?_
  refine wpC_seq ?_
  refine wpC_region ?_
  refine st_val (ex_move rfl) (by decide) trivial ?_
  refine st_val (ex_lenR rfl g0 Try.underlying25) (by decide) trivial ?_
  refine st_val (ex_move rfl) (by decide) trivial ?_
  refine st_val (ex_lenR rfl g1 Try.underlying25) (by decide) trivial ?_
  refine st_val (ex_neq rfl rfl) (by decide) trivial ?_
  refine wpF_end (r := [(0, u0), (1, u1), (10, (.bool ((p0.length : Int) != (p1.length : Int))))]) ⟨rfl, rfl, rfl, trivial⟩ ?_
  refine nx ?_
  refine wpC_cond rfl (fun t1 => ?_) (fun t1 => ?_)
  · rw [if_pos t1] at hF
    refine wpC_seq ?_
    refine wpC_region ?_
    refine st_val (ex_assign rfl) (by decide) trivial ?_
    refine wpF_end (r := [(4, (.bool false))]) ⟨rfl, trivial⟩ ?_
    refine nx ?_
    refine wpC_ret ?_
    refine nt_ret ?_
    have e2 := Option.some.inj hF
    subst e2
    refine ret_post (P := Try.prog) (vs := [(.bool false)]) Try.results126 ⟨rfl, trivial⟩ ?_
    exact ⟨rfl, hB.keeps⟩
  · rw [if_neg (by rw [t1]; decide)] at hF
    refine wpC_skip ?_
    refine nx ?_
    refine wpC_seq ?_
    refine wpC_seq ?_
    refine wpC_region ?_
    refine st_val (ex_move rfl) (by decide) trivial ?_
    refine st_val (ex_lenR rfl g0 Try.underlying25) (by decide) trivial ?_
    refine st_val (ex_move rfl) (by decide) trivial ?_
    refine wpF_end (r := [(0, u0), (1, u1), (12, (.int .i64 (p0.length : Int))), (13, (.int .i64 0))]) ⟨rfl, rfl, rfl, rfl, trivial⟩ ?_
    refine nx ?_
    obtain ⟨u8, h7, hF⟩ := bind_some hF
    obtain ⟨-, h7a, h7b⟩ := ck_some h7
    obtain ⟨q6, hq6, hF⟩ := bind_some hF
    refine wpC_cutN (fun a w4 => ∃ (o3 : Tg), q6 = .inl () ∧ Fr a 26 [] ∧ Bs (fun _ => 1) o3 w w4) (fun a w' => ∃ r', q6 = .inr r' ∧ bodyPost Try.prog Try.f126 (pX_slices_Equal_int_int w r') .ret a w') ?_ ?_ ?_
    · refine wpC_block ?_
      refine wpC_loop (fun (K : Nat) a w4 => ∃ (i5 : Int) (o3 : Tg), forN (fX_slices_Equal_int_int_s1 p0 p1) ((p0.length : Int) - i5).toNat i5 () = some q6 ∧ ((p0.length : Int) - i5).toNat = K ∧ 0 ≤ i5 ∧ Fr a 26 [(0, u0), (1, u1), (12, (.int .i64 (p0.length : Int))), (13, (.int .i64 i5))] ∧ Bs (fun _ => 1) o3 w w4) _ (fun a ha => ⟨0, (col (fun _ => 1)), (by rw [Int.sub_zero]; exact hq6), rfl, Int.le_refl 0, ha.sub (r := [(0, u0), (1, u1), (12, (.int .i64 (p0.length : Int))), (13, (.int .i64 0))]) ⟨rfl, rfl, rfl, rfl, trivial⟩, hB⟩) ?_
      rintro K12 a w4 ⟨i5, o3, l9, m11, z10, ha, hB⟩
      by_cases t16 : i5 < (p0.length : Int)
      · obtain ⟨q13, b14, n15⟩ := forN_cons t16 l9
        dsimp only [fX_slices_Equal_int_int_s1] at b14
        refine wp_of ha ?_
        refine wpC_seq ?_
        refine wpC_region ?_
        refine st_val (ex_lss rfl rfl) (by decide) trivial ?_
        refine wpF_end (r := [(0, u0), (1, u1), (12, (.int .i64 (p0.length : Int))), (13, (.int .i64 i5)), (14, (.bool (decide (i5 < (p0.length : Int)))))]) ⟨rfl, rfl, rfl, rfl, rfl, trivial⟩ ?_
        refine nx ?_
        refine wpC_seq ?_
        refine wpC_true (congrArg (fun b => some (Value.bool b)) (decide_eq_true t16)) ?_
        refine wpC_skip ?_
        refine nx ?_
        refine wpC_seq ?_
        refine wpC_block ?_
        refine wpC_seq ?_
        refine wpC_region ?_
        refine st_val (ex_move rfl) (by decide) trivial ?_
        refine st_val (ex_assign rfl) (by decide) trivial ?_
        refine wpF_end (r := [(0, u0), (1, u1), (5, (.int .i64 i5)), (12, (.int .i64 (p0.length : Int))), (13, (.int .i64 i5))]) ⟨rfl, rfl, rfl, rfl, rfl, trivial⟩ ?_
        refine nx ?_
        refine wpC_seq ?_
        obtain ⟨x17, hx17, b14⟩ := bind_some b14
        obtain ⟨x20, hx20, b14⟩ := bind_some b14
        refine wpC_drawn (o := o3) [(0, u0), (1, u1), (5, (.int .i64 i5)), (12, (.int .i64 (p0.length : Int))), (13, (.int .i64 i5))] [0, 1, 5, 12, 13] [16, 17, 18, 19, 20, 21, 22, 23] [[], [], [0, 1], [2], [], [], [4, 5], [6]] [none, none, none, none, none, none, none, none] [999, 999, 999, 999, 999, 999, 999, 999] [0, 0, 0, 0, 0, 0, 0, 0] [999] [fun v _ _ => v = u0, fun v _ _ => v = (.int .i64 i5), fun v o w9 => ∃ vl, v = adr vl (i5.toNat * Rp.sz Int) ∧ RdL zt w vl p0, fun v _ _ => v = (.int .i64 x17), fun v _ _ => v = u1, fun v _ _ => v = (.int .i64 i5), fun v o w9 => ∃ vl, v = adr vl (i5.toNat * Rp.sz Int) ∧ RdL zt w vl p1, fun v _ _ => v = (.int .i64 x20)] (fun o8 w8 => Bs (fun _ => 1) o8 w w8) follows_mixed (by kernel_rfl) rfl ⟨rfl, rfl, rfl, rfl, rfl, trivial⟩ hB ?_ ⟨st_eq _, st_eq _, fun _ _ _ _ _ _ h0 hb ⟨vl, e, h⟩ hs => ⟨vl, e, h⟩, st_eq _, st_eq _, st_eq _, fun _ _ _ _ _ _ h0 hb ⟨vl, e, h⟩ hs => ⟨vl, e, h⟩, st_eq _, trivial⟩ ?_ ?_
        · rintro t9 o1 w1 o2 w2 ht9 hB hs9
          have ht9 : t9 = 999 := by simpa using ht9
          subst ht9
          all_goals exact hB.stp hs9 (by decide)
        · refine ⟨?_, ?_, ?_, ?_, ?_, ?_, ?_, ?_, trivial⟩
          · rintro o23 w24 a25 ha hB -
            refine opS_of ha (trivial) ?_
            refine op1_val (ex_move rfl) ?_
            exact ⟨_, Stp.refl _ _ _, rfl⟩
          · rintro o26 w27 a28 ha hB -
            refine opS_of ha (trivial) ?_
            refine op1_val (ex_move rfl) ?_
            exact ⟨_, Stp.refl _ _ _, rfl⟩
          · rintro o29 w30 a31 ha hB ⟨r32, r33, -⟩
            have ha := Fr.cons (d := 16) ha r32
            have ha := Fr.cons (d := 17) ha r33
            refine opS_of ha (trivial) ?_
            refine wd_indexR g0 hx17 rfl rfl Try.underlying25 Try.sizeOf3 ?_
            exact ⟨_, Stp.refl _ _ _, ⟨_, rfl, g0⟩⟩
          · rintro o34 w35 a36 ha hB ⟨r37, -⟩
            obtain ⟨v38, e39, h40⟩ := r37
            have ha := Fr.cons (d := 18) ha e39
            refine opS_of ha (trivial) ?_
            refine wd_load1Z h40 hx17 hB rfl rfl Try.isAgg3 ?_
            intro c41 h42
            cases h42
            exact ⟨_, Stp.refl _ _ _, rfl⟩
          · rintro o43 w44 a45 ha hB -
            refine opS_of ha (trivial) ?_
            refine op1_val (ex_move rfl) ?_
            exact ⟨_, Stp.refl _ _ _, rfl⟩
          · rintro o46 w47 a48 ha hB -
            refine opS_of ha (trivial) ?_
            refine op1_val (ex_move rfl) ?_
            exact ⟨_, Stp.refl _ _ _, rfl⟩
          · rintro o49 w50 a51 ha hB ⟨r52, r53, -⟩
            have ha := Fr.cons (d := 20) ha r52
            have ha := Fr.cons (d := 21) ha r53
            refine opS_of ha (trivial) ?_
            refine wd_indexR g1 hx20 rfl rfl Try.underlying25 Try.sizeOf3 ?_
            exact ⟨_, Stp.refl _ _ _, ⟨_, rfl, g1⟩⟩
          · rintro o54 w55 a56 ha hB ⟨r57, -⟩
            obtain ⟨v58, e59, h60⟩ := r57
            have ha := Fr.cons (d := 22) ha e59
            refine opS_of ha (trivial) ?_
            refine wd_load1Z h60 hx20 hB rfl rfl Try.isAgg3 ?_
            intro c61 h62
            cases h62
            exact ⟨_, Stp.refl _ _ _, rfl⟩
        rintro o63 w64 a65 ha hB ⟨-, -, -, r66, -, -, -, r67, -⟩
        have ha := Fr.cons (d := 19) ha r66
        have ha := Fr.cons (d := 23) ha r67
        refine wl_of ha ?_
        simp only [List.length_cons, List.length_nil, Nat.zero_add, Nat.reduceAdd, List.drop_succ_cons, List.drop_zero]
        refine st_val (ex_neq rfl rfl) (by decide) trivial ?_
        refine wpF_end (r := [(0, u0), (1, u1), (12, (.int .i64 (p0.length : Int))), (13, (.int .i64 i5)), (24, (.bool (x17 != x20)))]) ⟨rfl, rfl, rfl, rfl, rfl, trivial⟩ ?_
        refine nx ?_
        refine wpC_cond rfl (fun t68 => ?_) (fun t68 => ?_)
        · rw [if_pos t68] at b14
          refine wpC_seq ?_
          refine wpC_region ?_
          refine st_val (ex_assign rfl) (by decide) trivial ?_
          refine wpF_end (r := [(4, (.bool false))]) ⟨rfl, trivial⟩ ?_
          refine nx ?_
          refine wpC_ret ?_
          refine nb_ret ?_
          refine nt_ret ?_
          refine nt_ret ?_
          refine nb_ret ?_
          refine np_ret ?_
          have e69 := Option.some.inj b14
          subst e69
          refine fun a ha => ⟨_, n15, ?_⟩
          refine ret_post (P := Try.prog) (vs := [(.bool false)]) Try.results126 ⟨rfl, trivial⟩ ?_ a ha
          exact ⟨rfl, hB.keeps⟩
        · rw [if_neg (by rw [t68]; decide)] at b14
          refine wpC_skip ?_
          refine nb_norm ?_
          refine nx ?_
          refine wpC_region ?_
          refine st_val (ex_add rfl rfl (ck_in (by omega) (by omega))) (by decide) trivial ?_
          refine st_val (ex_move rfl) (by decide) trivial ?_
          refine wpF_end (r := [(0, u0), (1, u1), (12, (.int .i64 (p0.length : Int))), (13, (.int .i64 (i5 + 1)))]) ⟨rfl, rfl, rfl, rfl, trivial⟩ ?_
          refine nt_norm ?_
          have e70 := Option.some.inj b14
          subst e70
          refine to_k (r := [(0, u0), (1, u1), (12, (.int .i64 (p0.length : Int))), (13, (.int .i64 (i5 + 1)))]) ⟨rfl, rfl, rfl, rfl, trivial⟩ ?_
          intro a ha
          exact ⟨_, (by rw [← m11]; omega), i5 + 1, o63, n15, rfl, (by omega), ha, hB⟩
      · have r71 := forN_done t16 l9
        refine wp_of ha ?_
        refine wpC_seq ?_
        refine wpC_region ?_
        refine st_val (ex_lss rfl rfl) (by decide) trivial ?_
        refine wpF_end (r := [(0, u0), (1, u1), (12, (.int .i64 (p0.length : Int))), (13, (.int .i64 i5)), (14, (.bool (decide (i5 < (p0.length : Int)))))]) ⟨rfl, rfl, rfl, rfl, rfl, trivial⟩ ?_
        refine nx ?_
        refine wpC_seq ?_
        refine wpC_false (congrArg (fun b => some (Value.bool b)) (decide_eq_false t16)) ?_
        refine wpC_exit ?_
        refine nt_exit ?_
        refine nt_exit ?_
        refine nb_hit ?_
        refine np_norm ?_
        refine to_k (r := []) trivial ?_
        intro a ha
        exact ⟨o3, r71, ha, hB⟩
    · rintro a w4 ⟨o3, rfl, ha, hB⟩
      dsimp only at hF
      refine ap_k ha ?_
      refine nx ?_
      refine wpC_seq ?_
      refine wpC_region ?_
      refine st_val (ex_assign rfl) (by decide) trivial ?_
      refine wpF_end (r := [(4, (.bool true))]) ⟨rfl, trivial⟩ ?_
      refine nx ?_
      refine wpC_ret ?_
      have e72 := Option.some.inj hF
      subst e72
      refine ret_post (P := Try.prog) (vs := [(.bool true)]) Try.results126 ⟨rfl, trivial⟩ ?_
      exact ⟨rfl, hB.keeps⟩
    · rintro a w4 ⟨r', rfl, b73⟩
      dsimp only at hF
      have e74 := Option.some.inj hF
      subst e74
      exact b73

def fI_sameOrder (fuel : Nat) (p0 : List Int) (p1 : Int) (p2 : Int) : Option Bool :=
  (fI_orderWindow fuel p0 p1 p2) >>= fun x1 =>
  (ck (p1 + 1)) >>= fun x10 =>
  (rem x10 (p0.length : Int)) >>= fun x11 =>
  (fI_orderWindow fuel p0 x11 p2) >>= fun x69 =>
  (fX_slices_Equal_int_int x1 x69) >>= fun x78 =>
  some x78

def pI_sameOrder (w : World) (r : Bool) : Ending → World → Prop := fun e w' => e = .returned (.bool r) ∧ Keeps w w'
set_option maxRecDepth 100000 in
set_option maxHeartbeats 2000000 in
theorem cI_sameOrder (fuel : Nat) (w : World) (u0 : Value) (p0 : List Int) (g0 : RdL zt w u0 p0) (p1 : Int) (p2 : Int) (r : Bool) (hF : fI_sameOrder fuel p0 p1 p2 = some r) :
    Calls Try.prog 106 #[u0, .int .i64 p1, .int .i64 p2] w (pI_sameOrder w r) := by
  unfold fI_sameOrder at hF
  have hB : Bs (fun _ => 1) (col (fun _ => 1)) w w := Bs.start _ _
  refine calls_start (n := 20) (vs := [u0, (.int .i64 p1), (.int .i64 p2)]) Try.func106 rfl rfl ?_
  refine wpC_seq ?_
  refine wpC_region ?_
  refine st_val (ex_assign rfl) (by decide) trivial ?_
  refine wpF_end (r := [(0, u0), (1, (.int .i64 p1)), (2, (.int .i64 p2))]) ⟨rfl, rfl, rfl, trivial⟩ ?_
  refine nx ?_
  refine wpC_seq ?_
  obtain ⟨x1, hx1, hF⟩ := bind_some hF
  obtain ⟨x10, hx10, hF⟩ := bind_some hF
  obtain ⟨x11, hx11, hF⟩ := bind_some hF
  refine wpC_drawn (o := (col (fun _ => 1))) [(0, u0), (1, (.int .i64 p1)), (2, (.int .i64 p2))] [0, 1, 2] [7, 8, 9, 10, 11, 12, 13, 14, 15, 16, 17] [[], [], [], [0, 1, 2], [], [], [5], [], [7], [6, 8], []] [none, none, none, none, none, none, none, none, none, none, none] [999, 999, 999, 999, 999, 999, 999, 999, 999, 999, 999] [0, 0, 0, 11, 0, 0, 0, 0, 0, 0, 0] [999] [fun v _ _ => v = u0, fun v _ _ => v = (.int .i64 p1), fun v _ _ => v = (.int .i64 p2), fun v o w9 => Ow w.heap.size 3 11 o w9 v x1, fun v _ _ => v = u0, fun v _ _ => v = (.int .i64 p1), fun v _ _ => v = (.int .i64 x10), fun v _ _ => v = u0, fun v _ _ => v = (.int .i64 (p0.length : Int)), fun v _ _ => v = (.int .i64 x11), fun v _ _ => v = (.int .i64 p2)] (fun o8 w8 => Bs (fun _ => 1) o8 w w8) follows_mixed (by kernel_rfl) rfl ⟨rfl, rfl, rfl, trivial⟩ hB ?_ ⟨st_eq _, st_eq _, st_eq _, fun _ _ _ _ _ _ h0 hb h hs => h.stp hs h0.1 (Ne.symm hb), st_eq _, st_eq _, st_eq _, st_eq _, st_eq _, st_eq _, st_eq _, trivial⟩ ?_ ?_
  · rintro t9 o1 w1 o2 w2 ht9 hB hs9
    have ht9 : t9 = 999 := by simpa using ht9
    subst ht9
    all_goals exact hB.stp hs9 (by decide)
  · refine ⟨?_, ?_, ?_, ?_, ?_, ?_, ?_, ?_, ?_, ?_, ?_, trivial⟩
    · rintro o12 w13 a14 ha hB -
      refine opS_of ha (trivial) ?_
      refine op1_val (ex_move rfl) ?_
      exact ⟨_, Stp.refl _ _ _, rfl⟩
    · rintro o15 w16 a17 ha hB -
      refine opS_of ha (trivial) ?_
      refine op1_val (ex_move rfl) ?_
      exact ⟨_, Stp.refl _ _ _, rfl⟩
    · rintro o18 w19 a20 ha hB -
      refine opS_of ha (trivial) ?_
      refine op1_val (ex_move rfl) ?_
      exact ⟨_, Stp.refl _ _ _, rfl⟩
    · rintro o21 w22 a23 ha hB ⟨r24, r25, r26, -⟩
      have ha := Fr.cons (d := 7) ha r24
      have ha := Fr.cons (d := 8) ha r25
      have ha := Fr.cons (d := 9) ha r26
      refine opS_of ha (trivial) ?_
      refine wf_call (cI_orderWindow fuel w22 o21 11 (by decide) _ p0 (g0.keep hB.keeps) p1 p2 x1 hx1) Try.call161 ⟨rfl, rfl, rfl, trivial⟩ ?_
      rintro e33 w27 ⟨v28, o34, rfl, h29, k30, k31⟩
      have s32 := k30.stp' 999 k31
      replace h29 := h29.mono hB.keeps.size
      refine ⟨_, rfl, ?_⟩
      replace hB := hB.stp s32 (by decide)
      exact ⟨_, s32, h29⟩
    · rintro o35 w36 a37 ha hB -
      refine opS_of ha (trivial) ?_
      refine op1_val (ex_move rfl) ?_
      exact ⟨_, Stp.refl _ _ _, rfl⟩
    · rintro o38 w39 a40 ha hB -
      refine opS_of ha (trivial) ?_
      refine op1_val (ex_move rfl) ?_
      exact ⟨_, Stp.refl _ _ _, rfl⟩
    · rintro o41 w42 a43 ha hB ⟨r44, -⟩
      have ha := Fr.cons (d := 12) ha r44
      refine opS_of ha (trivial) ?_
      refine op1_val (ex_add rfl rfl hx10) ?_
      exact ⟨_, Stp.refl _ _ _, rfl⟩
    · rintro o45 w46 a47 ha hB -
      refine opS_of ha (trivial) ?_
      refine op1_val (ex_move rfl) ?_
      exact ⟨_, Stp.refl _ _ _, rfl⟩
    · rintro o48 w49 a50 ha hB ⟨r51, -⟩
      have ha := Fr.cons (d := 14) ha r51
      refine opS_of ha (trivial) ?_
      refine op1_val (ex_lenR rfl g0 Try.underlying25) ?_
      exact ⟨_, Stp.refl _ _ _, rfl⟩
    · rintro o52 w53 a54 ha hB ⟨r55, r56, -⟩
      have ha := Fr.cons (d := 13) ha r55
      have ha := Fr.cons (d := 15) ha r56
      refine opS_of ha (trivial) ?_
      refine op1_val (ex_rem rfl rfl hx11) ?_
      exact ⟨_, Stp.refl _ _ _, rfl⟩
    · rintro o57 w58 a59 ha hB -
      refine opS_of ha (trivial) ?_
      refine op1_val (ex_move rfl) ?_
      exact ⟨_, Stp.refl _ _ _, rfl⟩
  rintro o60 w61 a62 ha hB ⟨-, -, -, r63, r64, -, -, -, -, r65, r66, -⟩
  replace r63 : Ow w.heap.size 3 11 o60 w61 (a62.tmps.getD 10 undef) x1 := r63
  generalize e68 : a62.tmps.getD 10 undef = v67 at r63
  have ha := Fr.cons (d := 10) ha e68
  have ha := Fr.cons (d := 11) ha r64
  have ha := Fr.cons (d := 16) ha r65
  have ha := Fr.cons (d := 17) ha r66
  refine wl_of ha ?_
  simp only [List.length_cons, List.length_nil, Nat.zero_add, Nat.reduceAdd, List.drop_succ_cons, List.drop_zero]
  obtain ⟨x69, hx69, hF⟩ := bind_some hF
  refine st_op (by decide) trivial ?_
  refine wf_call (cI_orderWindow fuel w61 o60 12 (by decide) _ p0 (g0.keep hB.keeps) x11 p2 x69 hx69) Try.call161 ⟨rfl, rfl, rfl, trivial⟩ ?_
  rintro e76 w70 ⟨v71, o77, rfl, h72, k73, k74⟩
  have s75 := k73.stp' 12 k74
  replace h72 := h72.mono hB.keeps.size
  refine ⟨_, rfl, ?_⟩
  replace r63 := r63.stp s75 (by decide) (by decide)
  replace hB := hB.stp s75 (by decide)
  obtain ⟨x78, hx78, hF⟩ := bind_some hF
  refine st_op (by decide) trivial ?_
  refine wf_call (cX_slices_Equal_int_int w70 _ x1 r63.z _ x69 h72.z x78 hx78) Try.call126 ⟨rfl, rfl, trivial⟩ ?_
  rintro e83 w79 ⟨rfl, k80⟩
  have s82 := k80.stp 999 o77
  refine ⟨_, rfl, ?_⟩
  replace r63 := r63.stp s82 (by decide) (by decide)
  replace h72 := h72.stp s82 (by decide) (by decide)
  replace hB := hB.stp s82 (by decide)
  refine st_val (ex_assign rfl) (by decide) trivial ?_
  refine wpF_end (r := [(6, (.bool x78))]) ⟨rfl, trivial⟩ ?_
  refine nx ?_
  refine wpC_ret ?_
  have e84 := Option.some.inj hF
  subst e84
  refine ret_post (P := Try.prog) (vs := [(.bool x78)]) Try.results106 ⟨rfl, trivial⟩ ?_
  exact ⟨rfl, hB.keeps⟩

def fI_SameOrderPair_s1 (fuel : Nat) (p0 : List Int) (p1 : Int) : Int → Unit → Option (Lp Unit Unit (Int × Bool)) := fun (i11 : Int) (s : Unit) =>
  (fI_sameOrder fuel p0 i11 p1) >>= fun x23 =>
  if x23 then
    some (.ret (i11, true))
  else
    some (.go ())
def fI_SameOrderPair (fuel : Nat) (p0 : List Int) (p1 : Int) : Option (Int × Bool) :=
  (fI_windowOk p0 0 p1) >>= fun x1 =>
  if !x1 then
    some (0, false)
  else
    ck (p0.length : Int) >>= fun _ =>
    (forN (fI_SameOrderPair_s1 fuel p0 p1) ((p0.length : Int)).toNat 0 ()) >>= fun q12 =>
    match q12 with
    | .inl _ =>
      some (0, false)
    | .inr r' => some r'

end Go.Proofs.Ytiejigogmnkjdaa
