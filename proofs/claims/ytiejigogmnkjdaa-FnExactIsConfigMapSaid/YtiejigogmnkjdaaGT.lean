/- spec.reTwo, spec.reInto, spec.reMap, spec.IsLabelMap, impl.areProblems, impl.isLabelMap$1, impl.isLabelMap, impl.IsLabelMap: plain functions, and the walks that show that the program computes them (printed by gen.py). -/
import Derived.Test.YtiejigogmnkjdaaGR
import Derived.Test.YtiejigogmnkjdaaGIm
import Derived.Test.YtiejigogmnkjdaaGIx
namespace Go.Proofs.Ytiejigogmnkjdaa
open Go.RowKit
set_option linter.unusedSimpArgs false
set_option linter.unusedVariables false

def fS_reTwo (fuel : Nat) (p0 : T_Problem) (p1 : T_Problem) : Option Bool :=
  (fS_prGood fuel p0) >>= fun x19 =>
  (
    if x19 then
      (fS_prGood fuel p1) >>= fun x29 =>
      if x29 then
        some (p0.Degree == p1.Degree)
      else
        some false
    else
      some false) >>= fun q25 =>
  some q25

def pS_reTwo (w : World) (r : Bool) : Ending → World → Prop := fun e w' => e = .returned (.bool r) ∧ Keeps w w'
set_option maxRecDepth 100000 in
set_option maxHeartbeats 2000000 in
theorem cS_reTwo (fuel : Nat) (w : World) (u0 : List Value) (p0 : T_Problem) (g0 : Rp.rd zt w u0 p0) (u1 : List Value) (p1 : T_Problem) (g1 : Rp.rd zt w u1 p1) (r : Bool) (hF : fS_reTwo fuel p0 p1 = some r) :
    Calls Try.prog 65 #[.agg u0.toArray, .agg u1.toArray] w (pS_reTwo w r) := by
  unfold fS_reTwo at hF
  obtain ⟨v1, v3, rfl, h2, h4⟩ := g0
  obtain ⟨v5, v7, rfl, h6, h8⟩ := g1
  have hB : Bs (fun _ => 1) (col (fun _ => 1)) w w := Bs.start _ _
  refine calls_start (n := 18) (vs := [(.agg #[(.int .i64 p0.Labels), (.int .i64 p0.Degree), v1, v3]), (.agg #[(.int .i64 p1.Labels), (.int .i64 p1.Degree), v5, v7])]) Try.func65 rfl rfl ?_
  refine wpC_seq ?_
  refine wpC_region ?_
  refine st_op (by decide) trivial ?_
  refine wf_box (o := (col (fun _ => 1))) w.heap.size 11 hB.keeps.size (cs := [(.int .i64 p0.Labels), (.int .i64 p0.Degree), v1, v3]) rfl rfl ?_
  intro o9 w10 b11 h12 s13
  replace hB := hB.stp s13 (by decide)
  refine st_op (by decide) trivial ?_
  refine wf_box (o := o9) w.heap.size 12 hB.keeps.size (cs := [(.int .i64 p1.Labels), (.int .i64 p1.Degree), v5, v7]) rfl rfl ?_
  intro o14 w15 b16 h17 s18
  replace h12 := h12.stp s18 (by decide)
  replace hB := hB.stp s18 (by decide)
  refine st_val (ex_assign rfl) (by decide) trivial ?_
  refine wpF_end (r := [(2, (.pointer (some ⟨b11, 0, none⟩))), (3, (.pointer (some ⟨b16, 0, none⟩)))]) ⟨rfl, rfl, trivial⟩ ?_
  refine nx ?_
  refine wpC_seq ?_
  refine wpC_region ?_
  refine st_val (ex_loadA rfl Try.isAgg29 Try.sizeOf29 rfl h12.cells) (by decide) trivial ?_
  obtain ⟨x19, hx19, hF⟩ := bind_some hF
  refine st_op (by decide) trivial ?_
  refine wf_call (cS_prGood fuel w15 _ p0 (⟨_, _, rfl, (h2.keep hB.keeps), (h4.keep hB.keeps)⟩) x19 hx19) Try.call78 ⟨rfl, trivial⟩ ?_
  rintro e24 w20 ⟨rfl, k21⟩
  have s23 := k21.stp 999 o14
  refine ⟨_, rfl, ?_⟩
  replace h12 := h12.stp s23 (by decide)
  replace h17 := h17.stp s23 (by decide)
  replace hB := hB.stp s23 (by decide)
  refine st_val (ex_move rfl) (by decide) trivial ?_
  obtain ⟨q25, hq25, hF⟩ := bind_some hF
  refine wpF_cutAt 10 (fun a27 w26 => Fr a27 18 [(17, (.bool q25))] ∧ Keeps w20 w26) ?_ ?_
  all_goals simp only [List.take_succ_cons, List.take_zero, List.drop_succ_cons, List.drop_zero]
  · have kp : Keeps w20 w20 := Keeps.refl _
    rcases Bool.eq_false_or_eq_true (x19) with t28 | t28
    · rw [if_pos t28] at hq25
      refine st_val (ex_loadA rfl Try.isAgg29 Try.sizeOf29 rfl h17.cells) (by decide) ⟨_, rfl, (congrArg (fun b => some (Value.bool b)) t28)⟩ ?_
      obtain ⟨x29, hx29, hq25⟩ := bind_some hq25
      refine st_op (by decide) ⟨_, rfl, (congrArg (fun b => some (Value.bool b)) t28)⟩ ?_
      refine wf_call (cS_prGood fuel w20 _ p1 (⟨_, _, rfl, (h6.keep hB.keeps), (h8.keep hB.keeps)⟩) x29 hx29) Try.call78 ⟨rfl, trivial⟩ ?_
      rintro e34 w30 ⟨rfl, k31⟩
      have s33 := k31.stp 999 o14
      refine ⟨_, rfl, ?_⟩
      replace h12 := h12.stp s33 (by decide)
      replace h17 := h17.stp s33 (by decide)
      replace hB := hB.stp s33 (by decide)
      replace kp := Keeps.trans kp k31
      refine st_val (ex_pick_t (congrArg (fun b => some (Value.bool b)) t28) rfl) (by decide) trivial ?_
      refine st_val (ex_move rfl) (by decide) trivial ?_
      rcases Bool.eq_false_or_eq_true (x29) with t35 | t35
      · rw [if_pos t35] at hq25
        refine st_val (ex_field rfl Try.underlying29 rfl Try.sizeOf3) (by decide) ⟨_, rfl, (congrArg (fun b => some (Value.bool b)) t35)⟩ ?_
        refine st_val (ex_load1 rfl Try.isAgg3 (h12.cell rfl)) (by decide) ⟨_, rfl, (congrArg (fun b => some (Value.bool b)) t35)⟩ ?_
        refine st_val (ex_field rfl Try.underlying29 rfl Try.sizeOf3) (by decide) ⟨_, rfl, (congrArg (fun b => some (Value.bool b)) t35)⟩ ?_
        refine st_val (ex_load1 rfl Try.isAgg3 (h17.cell rfl)) (by decide) ⟨_, rfl, (congrArg (fun b => some (Value.bool b)) t35)⟩ ?_
        refine st_val (ex_eql rfl rfl) (by decide) ⟨_, rfl, (congrArg (fun b => some (Value.bool b)) t35)⟩ ?_
        refine st_val (ex_pick_t (congrArg (fun b => some (Value.bool b)) t35) rfl) (by decide) trivial ?_
        have hq252 := Option.some.inj hq25
        refine wpF_end (r := [(17, (.bool (p0.Degree == p1.Degree)))]) ⟨rfl, trivial⟩ ?_
        subst hq252
        refine np_norm (fun a ha => ⟨ha, kp⟩)
      · rw [if_neg (by rw [t35]; decide)] at hq25
        refine st_no rfl rfl (by rw [t35]; rfl) (by decide) ?_
        refine st_no rfl rfl (by rw [t35]; rfl) (by decide) ?_
        refine st_no rfl rfl (by rw [t35]; rfl) (by decide) ?_
        refine st_no rfl rfl (by rw [t35]; rfl) (by decide) ?_
        refine st_no rfl rfl (by rw [t35]; rfl) (by decide) ?_
        refine st_val (ex_pick_f (congrArg (fun b => some (Value.bool b)) t35) rfl) (by decide) trivial ?_
        have hq252 := Option.some.inj hq25
        refine wpF_end (r := [(17, (.bool false))]) ⟨rfl, trivial⟩ ?_
        subst hq252
        refine np_norm (fun a ha => ⟨ha, kp⟩)
    · rw [if_neg (by rw [t28]; decide)] at hq25
      refine st_no rfl rfl (by rw [t28]; rfl) (by decide) ?_
      refine st_no rfl rfl (by rw [t28]; rfl) (by decide) ?_
      refine st_val (ex_pick_f (congrArg (fun b => some (Value.bool b)) t28) rfl) (by decide) trivial ?_
      refine st_val (ex_move rfl) (by decide) trivial ?_
      refine st_no rfl rfl rfl (by decide) ?_
      refine st_no rfl rfl rfl (by decide) ?_
      refine st_no rfl rfl rfl (by decide) ?_
      refine st_no rfl rfl rfl (by decide) ?_
      refine st_no rfl rfl rfl (by decide) ?_
      refine st_val (ex_pick_f rfl rfl) (by decide) trivial ?_
      have hq252 := Option.some.inj hq25
      refine wpF_end (r := [(17, (.bool false))]) ⟨rfl, trivial⟩ ?_
      subst hq252
      refine np_norm (fun a ha => ⟨ha, kp⟩)
  rintro a38 w26 ⟨ha, k36⟩
  have s37 := k36.stp 999 o14
  replace h12 := h12.stp s37 (by decide)
  replace h17 := h17.stp s37 (by decide)
  replace hB := hB.stp s37 (by decide)
  refine wl_of ha ?_
  refine st_val (ex_assign rfl) (by decide) trivial ?_
  refine wpF_end (r := [(4, (.bool q25))]) ⟨rfl, trivial⟩ ?_
  refine nx ?_
  refine wpC_ret ?_
  have e39 := Option.some.inj hF
  subst e39
  refine ret_post (P := Try.prog) (vs := [(.bool q25)]) Try.results65 ⟨rfl, trivial⟩ ?_
  exact ⟨rfl, hB.keeps⟩

def fS_reInto_s1 (fuel : Nat) (p1 : List (List Int)) (p2 : List Int) : Int → (List Int) → Unit → Option (Lp Unit Unit Bool) := fun (i3 : Int) (x13 : List Int) (s : Unit) =>
  (fS_coThrough p2 x13) >>= fun x21 =>
  (fS_prSorted fuel x21) >>= fun x30 =>
  (fS_prHas p1 x30) >>= fun x39 =>
  if !x39 then
    some (.ret false)
  else
    some (.go ())
def fS_reInto (fuel : Nat) (p0 : List (List Int)) (p1 : List (List Int)) (p2 : List Int) : Option Bool :=
  (forI (fS_reInto_s1 fuel p1 p2) p0 0 ()) >>= fun q4 =>
  match q4 with
  | .inl _ =>
    some true
  | .inr r' => some r'

def pS_reInto (w : World) (r : Bool) : Ending → World → Prop := fun e w' => e = .returned (.bool r) ∧ Keeps w w'
set_option maxRecDepth 100000 in
set_option maxHeartbeats 2000000 in
theorem cS_reInto (fuel : Nat) (w : World) (u0 : Value) (p0 : List (List Int)) (g0 : RdL zt w u0 p0) (u1 : Value) (p1 : List (List Int)) (g1 : RdL zt w u1 p1) (u2 : Value) (p2 : List Int) (g2 : RdL zt w u2 p2) (r : Bool) (hF : fS_reInto fuel p0 p1 p2 = some r) :
    Calls Try.prog 120 #[u0, u1, u2] w (pS_reInto w r) := by
  unfold fS_reInto at hF
  have hB : Bs (fun _ => 1) (col (fun _ => 1)) w w := Bs.start _ _
  refine calls_start (n := 23) (vs := [u0, u1, u2]) Try.func120 rfl rfl ?_
  refine wpC_seq ?_
  refine wpC_region ?_
  refine st_val (ex_assign rfl) (by decide) trivial ?_
  refine wpF_end (r := [(0, u0), (1, u1), (2, u2)]) ⟨rfl, rfl, rfl, trivial⟩ ?_
  refine nx ?_
  refine wpC_seq ?_
  refine wpC_seq ?_
  refine wpC_region ?_
  refine st_val (ex_move rfl) (by decide) trivial ?_
  refine st_val (ex_lenR rfl g0 Try.underlying22) (by decide) trivial ?_
  refine st_val (ex_move rfl) (by decide) trivial ?_
  refine wpF_end (r := [(1, u1), (2, u2), (9, u0), (10, (.int .i64 (p0.length : Int))), (11, (.int .i64 0))]) ⟨rfl, rfl, rfl, rfl, rfl, trivial⟩ ?_
  refine nx ?_
  obtain ⟨q4, hq4, hF⟩ := bind_some hF
  refine wpC_cutN (fun a w2 => ∃ (o1 : Tg), q4 = .inl () ∧ Fr a 23 [] ∧ Bs (fun _ => 1) o1 w w2) (fun a w' => ∃ r', q4 = .inr r' ∧ bodyPost Try.prog Try.f120 (pS_reInto w r') .ret a w') ?_ ?_ ?_
  · refine wpC_block ?_
    refine wpC_loop (fun (K : Nat) a w2 => ∃ (i3 : Int) (o1 : Tg), forI (fS_reInto_s1 fuel p1 p2) (p0.drop i3.toNat) i3 () = some q4 ∧ (p0.drop i3.toNat).length = K ∧ 0 ≤ i3 ∧ Fr a 23 [(1, u1), (2, u2), (9, u0), (10, (.int .i64 (p0.length : Int))), (11, (.int .i64 i3))] ∧ Bs (fun _ => 1) o1 w w2) _ (fun a ha => ⟨0, (col (fun _ => 1)), hq4, rfl, Int.le_refl 0, ha.sub (r := [(1, u1), (2, u2), (9, u0), (10, (.int .i64 (p0.length : Int))), (11, (.int .i64 0))]) ⟨rfl, rfl, rfl, rfl, rfl, trivial⟩, hB⟩) ?_
    rintro K8 a w2 ⟨i3, o1, l5, m7, z6, ha, hB⟩
    by_cases t12 : i3 < (p0.length : Int)
    · obtain ⟨x13, q9, hx13, b10, n11⟩ := forI_cons z6 t12 l5
      have hle := g0.len_le
      dsimp only [fS_reInto_s1] at b10
      refine wp_of ha ?_
      refine wpC_seq ?_
      refine wpC_region ?_
      refine st_val (ex_lss rfl rfl) (by decide) trivial ?_
      refine wpF_end (r := [(1, u1), (2, u2), (9, u0), (10, (.int .i64 (p0.length : Int))), (11, (.int .i64 i3)), (12, (.bool (decide (i3 < (p0.length : Int)))))]) ⟨rfl, rfl, rfl, rfl, rfl, rfl, trivial⟩ ?_
      refine nx ?_
      refine wpC_seq ?_
      refine wpC_true (congrArg (fun b => some (Value.bool b)) (decide_eq_true t12)) ?_
      refine wpC_skip ?_
      refine nx ?_
      refine wpC_seq ?_
      refine wpC_block ?_
      refine wpC_seq ?_
      refine wpC_region ?_
      refine st_op (by decide) trivial ?_
      refine wf_atZ g0 hx13 hB rfl rfl Try.underlying22 Try.sizeOf25 ?_
      intro b14 f15 c16 h17 h18
      obtain ⟨v19, rfl, h20⟩ := h18
      refine st_val (ex_load1 rfl Try.isAgg25 (cell_of_cells h17)) (by decide) trivial ?_
      refine st_val (ex_assign rfl) (by decide) trivial ?_
      refine wpF_end (r := [(1, u1), (2, u2), (8, v19), (9, u0), (10, (.int .i64 (p0.length : Int))), (11, (.int .i64 i3))]) ⟨rfl, rfl, rfl, rfl, rfl, rfl, trivial⟩ ?_
      refine nx ?_
      refine wpC_seq ?_
      refine wpC_region ?_
      refine st_val (ex_move rfl) (by decide) trivial ?_
      refine st_val (ex_move rfl) (by decide) trivial ?_
      refine st_val (ex_move rfl) (by decide) trivial ?_
      obtain ⟨x21, hx21, b10⟩ := bind_some b10
      refine st_op (by decide) trivial ?_
      refine wf_call (cS_coThrough w2 o1 11 (by decide) _ p2 (g2.keep hB.keeps) _ x13 (h20.keep hB.keeps) x21 hx21) Try.call145 ⟨rfl, rfl, trivial⟩ ?_
      rintro e28 w22 ⟨v23, o29, rfl, h24, k25, k26⟩
      have s27 := k25.stp' 11 k26
      replace h24 := h24.mono hB.keeps.size
      refine ⟨_, rfl, ?_⟩
      replace hB := hB.stp s27 (by decide)
      obtain ⟨x30, hx30, b10⟩ := bind_some b10
      refine st_op (by decide) trivial ?_
      refine wf_call (cS_prSorted fuel w22 o29 12 (by decide) _ x21 h24.z x30 hx30) Try.call129 ⟨rfl, trivial⟩ ?_
      rintro e37 w31 ⟨v32, o38, rfl, h33, k34, k35⟩
      have s36 := k34.stp' 12 k35
      replace h33 := h33.mono hB.keeps.size
      refine ⟨_, rfl, ?_⟩
      replace h24 := h24.stp s36 (by decide) (by decide)
      replace hB := hB.stp s36 (by decide)
      obtain ⟨x39, hx39, b10⟩ := bind_some b10
      refine st_op (by decide) trivial ?_
      refine wf_call (cS_prHas w31 _ p1 (g1.keep hB.keeps) _ x30 h33.z x39 hx39) Try.call144 ⟨rfl, rfl, trivial⟩ ?_
      rintro e44 w40 ⟨rfl, k41⟩
      have s43 := k41.stp 999 o38
      refine ⟨_, rfl, ?_⟩
      replace h24 := h24.stp s43 (by decide) (by decide)
      replace h33 := h33.stp s43 (by decide) (by decide)
      replace hB := hB.stp s43 (by decide)
      refine st_val (ex_not rfl) (by decide) trivial ?_
      refine wpF_end (r := [(1, u1), (2, u2), (9, u0), (10, (.int .i64 (p0.length : Int))), (11, (.int .i64 i3)), (21, (.bool (!x39)))]) ⟨rfl, rfl, rfl, rfl, rfl, rfl, trivial⟩ ?_
      refine nx ?_
      refine wpC_cond rfl (fun t45 => ?_) (fun t45 => ?_)
      · rw [if_pos t45] at b10
        refine wpC_seq ?_
        refine wpC_region ?_
        refine st_val (ex_assign rfl) (by decide) trivial ?_
        refine wpF_end (r := [(6, (.bool false))]) ⟨rfl, trivial⟩ ?_
        refine nx ?_
        refine wpC_ret ?_
        refine nb_ret ?_
        refine nt_ret ?_
        refine nt_ret ?_
        refine nb_ret ?_
        refine np_ret ?_
        have e46 := Option.some.inj b10
        subst e46
        refine fun a ha => ⟨_, n11, ?_⟩
        refine ret_post (P := Try.prog) (vs := [(.bool false)]) Try.results120 ⟨rfl, trivial⟩ ?_ a ha
        exact ⟨rfl, hB.keeps⟩
      · rw [if_neg (by rw [t45]; decide)] at b10
        refine wpC_skip ?_
        refine nb_norm ?_
        refine nx ?_
        refine wpC_region ?_
        refine st_val (ex_add rfl rfl (ck_in (by omega) (by omega))) (by decide) trivial ?_
        refine st_val (ex_move rfl) (by decide) trivial ?_
        refine wpF_end (r := [(1, u1), (2, u2), (9, u0), (10, (.int .i64 (p0.length : Int))), (11, (.int .i64 (i3 + 1)))]) ⟨rfl, rfl, rfl, rfl, rfl, trivial⟩ ?_
        refine nt_norm ?_
        have e47 := Option.some.inj b10
        subst e47
        refine to_k (r := [(1, u1), (2, u2), (9, u0), (10, (.int .i64 (p0.length : Int))), (11, (.int .i64 (i3 + 1)))]) ⟨rfl, rfl, rfl, rfl, rfl, trivial⟩ ?_
        intro a ha
        exact ⟨_, (by rw [← m7]; simp only [List.length_drop]; omega), i3 + 1, o38, n11, rfl, (by omega), ha, hB⟩
    · have r48 := forI_done t12 l5
      refine wp_of ha ?_
      refine wpC_seq ?_
      refine wpC_region ?_
      refine st_val (ex_lss rfl rfl) (by decide) trivial ?_
      refine wpF_end (r := [(1, u1), (2, u2), (9, u0), (10, (.int .i64 (p0.length : Int))), (11, (.int .i64 i3)), (12, (.bool (decide (i3 < (p0.length : Int)))))]) ⟨rfl, rfl, rfl, rfl, rfl, rfl, trivial⟩ ?_
      refine nx ?_
      refine wpC_seq ?_
      refine wpC_false (congrArg (fun b => some (Value.bool b)) (decide_eq_false t12)) ?_
      refine wpC_exit ?_
      refine nt_exit ?_
      refine nt_exit ?_
      refine nb_hit ?_
      refine np_norm ?_
      refine to_k (r := []) trivial ?_
      intro a ha
      exact ⟨o1, r48, ha, hB⟩
  · rintro a w2 ⟨o1, rfl, ha, hB⟩
    dsimp only at hF
    refine ap_k ha ?_
    refine nx ?_
    refine wpC_seq ?_
    refine wpC_region ?_
    refine st_val (ex_assign rfl) (by decide) trivial ?_
    refine wpF_end (r := [(6, (.bool true))]) ⟨rfl, trivial⟩ ?_
    refine nx ?_
    refine wpC_ret ?_
    have e49 := Option.some.inj hF
    subst e49
    refine ret_post (P := Try.prog) (vs := [(.bool true)]) Try.results120 ⟨rfl, trivial⟩ ?_
    exact ⟨rfl, hB.keeps⟩
  · rintro a w2 ⟨r', rfl, b50⟩
    dsimp only at hF
    have e51 := Option.some.inj hF
    subst e51
    exact b50

def fS_reMap (fuel : Nat) (p0 : T_Problem) (p1 : T_Problem) (p2 : List Int) : Option Bool :=
  (
    if (p2.length : Int) == p0.Labels then
      (ck (p1.Labels - 1)) >>= fun x23 =>
      (fS_l1All p2 0 x23) >>= fun x24 =>
      if x24 then
        (fS_reInto fuel p0.Nodes p1.Nodes p2) >>= fun x31 =>
        if x31 then
          (fS_reInto fuel p0.Edges p1.Edges p2) >>= fun x38 =>
          some x38
        else
          some false
      else
        some false
    else
      some false) >>= fun q19 =>
  some q19

def pS_reMap (w : World) (r : Bool) : Ending → World → Prop := fun e w' => e = .returned (.bool r) ∧ Keeps w w'
set_option maxRecDepth 100000 in
set_option maxHeartbeats 2000000 in
theorem cS_reMap (fuel : Nat) (w : World) (u0 : List Value) (p0 : T_Problem) (g0 : Rp.rd zt w u0 p0) (u1 : List Value) (p1 : T_Problem) (g1 : Rp.rd zt w u1 p1) (u2 : Value) (p2 : List Int) (g2 : RdL zt w u2 p2) (r : Bool) (hF : fS_reMap fuel p0 p1 p2 = some r) :
    Calls Try.prog 66 #[.agg u0.toArray, .agg u1.toArray, u2] w (pS_reMap w r) := by
  unfold fS_reMap at hF
  obtain ⟨v1, v3, rfl, h2, h4⟩ := g0
  obtain ⟨v5, v7, rfl, h6, h8⟩ := g1
  have hB : Bs (fun _ => 1) (col (fun _ => 1)) w w := Bs.start _ _
  refine calls_start (n := 35) (vs := [(.agg #[(.int .i64 p0.Labels), (.int .i64 p0.Degree), v1, v3]), (.agg #[(.int .i64 p1.Labels), (.int .i64 p1.Degree), v5, v7]), u2]) Try.func66 rfl rfl ?_
  refine wpC_seq ?_
  refine wpC_region ?_
  refine st_op (by decide) trivial ?_
  refine wf_box (o := (col (fun _ => 1))) w.heap.size 11 hB.keeps.size (cs := [(.int .i64 p0.Labels), (.int .i64 p0.Degree), v1, v3]) rfl rfl ?_
  intro o9 w10 b11 h12 s13
  replace hB := hB.stp s13 (by decide)
  refine st_op (by decide) trivial ?_
  refine wf_box (o := o9) w.heap.size 12 hB.keeps.size (cs := [(.int .i64 p1.Labels), (.int .i64 p1.Degree), v5, v7]) rfl rfl ?_
  intro o14 w15 b16 h17 s18
  replace h12 := h12.stp s18 (by decide)
  replace hB := hB.stp s18 (by decide)
  refine st_val (ex_assign rfl) (by decide) trivial ?_
  refine wpF_end (r := [(2, u2), (3, (.pointer (some ⟨b11, 0, none⟩))), (4, (.pointer (some ⟨b16, 0, none⟩)))]) ⟨rfl, rfl, rfl, trivial⟩ ?_
  refine nx ?_
  refine wpC_seq ?_
  refine wpC_region ?_
  refine st_val (ex_move rfl) (by decide) trivial ?_
  refine st_val (ex_lenR rfl g2 Try.underlying25) (by decide) trivial ?_
  refine st_val (ex_field rfl Try.underlying29 rfl Try.sizeOf3) (by decide) trivial ?_
  refine st_val (ex_load1 rfl Try.isAgg3 (h12.cell rfl)) (by decide) trivial ?_
  refine st_val (ex_eql rfl rfl) (by decide) trivial ?_
  refine st_val (ex_move rfl) (by decide) trivial ?_
  obtain ⟨q19, hq19, hF⟩ := bind_some hF
  refine wpF_cutAt 22 (fun a21 w20 => Fr a21 35 [(34, (.bool q19))] ∧ Keeps w15 w20) ?_ ?_
  all_goals simp only [List.take_succ_cons, List.take_zero, List.drop_succ_cons, List.drop_zero]
  · have kp : Keeps w15 w15 := Keeps.refl _
    rcases Bool.eq_false_or_eq_true ((p2.length : Int) == p0.Labels) with t22 | t22
    · rw [if_pos t22] at hq19
      refine st_val (ex_move rfl) (by decide) ⟨_, rfl, (congrArg (fun b => some (Value.bool b)) t22)⟩ ?_
      refine st_val (ex_field rfl Try.underlying29 rfl Try.sizeOf3) (by decide) ⟨_, rfl, (congrArg (fun b => some (Value.bool b)) t22)⟩ ?_
      refine st_val (ex_load1 rfl Try.isAgg3 (h17.cell rfl)) (by decide) ⟨_, rfl, (congrArg (fun b => some (Value.bool b)) t22)⟩ ?_
      obtain ⟨x23, hx23, hq19⟩ := bind_some hq19
      refine st_val (ex_sub rfl rfl hx23) (by decide) ⟨_, rfl, (congrArg (fun b => some (Value.bool b)) t22)⟩ ?_
      obtain ⟨x24, hx24, hq19⟩ := bind_some hq19
      refine st_op (by decide) ⟨_, rfl, (congrArg (fun b => some (Value.bool b)) t22)⟩ ?_
      refine wf_call (cS_l1All w15 _ p2 (g2.keep hB.keeps) 0 x23 x24 hx24) Try.call79 ⟨rfl, rfl, rfl, trivial⟩ ?_
      rintro e29 w25 ⟨rfl, k26⟩
      have s28 := k26.stp 999 o14
      refine ⟨_, rfl, ?_⟩
      replace h12 := h12.stp s28 (by decide)
      replace h17 := h17.stp s28 (by decide)
      replace hB := hB.stp s28 (by decide)
      replace kp := Keeps.trans kp k26
      refine st_val (ex_pick_t (congrArg (fun b => some (Value.bool b)) t22) rfl) (by decide) trivial ?_
      refine st_val (ex_move rfl) (by decide) trivial ?_
      rcases Bool.eq_false_or_eq_true (x24) with t30 | t30
      · rw [if_pos t30] at hq19
        refine st_val (ex_field rfl Try.underlying29 rfl Try.sizeOf22) (by decide) ⟨_, rfl, (congrArg (fun b => some (Value.bool b)) t30)⟩ ?_
        refine st_val (ex_load1 rfl Try.isAgg22 (h12.cell rfl)) (by decide) ⟨_, rfl, (congrArg (fun b => some (Value.bool b)) t30)⟩ ?_
        refine st_val (ex_field rfl Try.underlying29 rfl Try.sizeOf22) (by decide) ⟨_, rfl, (congrArg (fun b => some (Value.bool b)) t30)⟩ ?_
        refine st_val (ex_load1 rfl Try.isAgg22 (h17.cell rfl)) (by decide) ⟨_, rfl, (congrArg (fun b => some (Value.bool b)) t30)⟩ ?_
        refine st_val (ex_move rfl) (by decide) ⟨_, rfl, (congrArg (fun b => some (Value.bool b)) t30)⟩ ?_
        obtain ⟨x31, hx31, hq19⟩ := bind_some hq19
        refine st_op (by decide) ⟨_, rfl, (congrArg (fun b => some (Value.bool b)) t30)⟩ ?_
        refine wf_call (cS_reInto fuel w25 _ p0.Nodes (h2.keep hB.keeps) _ p1.Nodes (h6.keep hB.keeps) _ p2 (g2.keep hB.keeps) x31 hx31) Try.call120 ⟨rfl, rfl, rfl, trivial⟩ ?_
        rintro e36 w32 ⟨rfl, k33⟩
        have s35 := k33.stp 999 o14
        refine ⟨_, rfl, ?_⟩
        replace h12 := h12.stp s35 (by decide)
        replace h17 := h17.stp s35 (by decide)
        replace hB := hB.stp s35 (by decide)
        replace kp := Keeps.trans kp k33
        refine st_val (ex_pick_t (congrArg (fun b => some (Value.bool b)) t30) rfl) (by decide) trivial ?_
        refine st_val (ex_move rfl) (by decide) trivial ?_
        rcases Bool.eq_false_or_eq_true (x31) with t37 | t37
        · rw [if_pos t37] at hq19
          refine st_val (ex_field rfl Try.underlying29 rfl Try.sizeOf22) (by decide) ⟨_, rfl, (congrArg (fun b => some (Value.bool b)) t37)⟩ ?_
          refine st_val (ex_load1 rfl Try.isAgg22 (h12.cell rfl)) (by decide) ⟨_, rfl, (congrArg (fun b => some (Value.bool b)) t37)⟩ ?_
          refine st_val (ex_field rfl Try.underlying29 rfl Try.sizeOf22) (by decide) ⟨_, rfl, (congrArg (fun b => some (Value.bool b)) t37)⟩ ?_
          refine st_val (ex_load1 rfl Try.isAgg22 (h17.cell rfl)) (by decide) ⟨_, rfl, (congrArg (fun b => some (Value.bool b)) t37)⟩ ?_
          refine st_val (ex_move rfl) (by decide) ⟨_, rfl, (congrArg (fun b => some (Value.bool b)) t37)⟩ ?_
          obtain ⟨x38, hx38, hq19⟩ := bind_some hq19
          refine st_op (by decide) ⟨_, rfl, (congrArg (fun b => some (Value.bool b)) t37)⟩ ?_
          refine wf_call (cS_reInto fuel w32 _ p0.Edges (h4.keep hB.keeps) _ p1.Edges (h8.keep hB.keeps) _ p2 (g2.keep hB.keeps) x38 hx38) Try.call120 ⟨rfl, rfl, rfl, trivial⟩ ?_
          rintro e43 w39 ⟨rfl, k40⟩
          have s42 := k40.stp 999 o14
          refine ⟨_, rfl, ?_⟩
          replace h12 := h12.stp s42 (by decide)
          replace h17 := h17.stp s42 (by decide)
          replace hB := hB.stp s42 (by decide)
          replace kp := Keeps.trans kp k40
          refine st_val (ex_pick_t (congrArg (fun b => some (Value.bool b)) t37) rfl) (by decide) trivial ?_
          have hq192 := Option.some.inj hq19
          refine wpF_end (r := [(34, (.bool x38))]) ⟨rfl, trivial⟩ ?_
          subst hq192
          refine np_norm (fun a ha => ⟨ha, kp⟩)
        · rw [if_neg (by rw [t37]; decide)] at hq19
          refine st_no rfl rfl (by rw [t37]; rfl) (by decide) ?_
          refine st_no rfl rfl (by rw [t37]; rfl) (by decide) ?_
          refine st_no rfl rfl (by rw [t37]; rfl) (by decide) ?_
          refine st_no rfl rfl (by rw [t37]; rfl) (by decide) ?_
          refine st_no rfl rfl (by rw [t37]; rfl) (by decide) ?_
          refine st_no rfl rfl (by rw [t37]; rfl) (by decide) ?_
          refine st_val (ex_pick_f (congrArg (fun b => some (Value.bool b)) t37) rfl) (by decide) trivial ?_
          have hq192 := Option.some.inj hq19
          refine wpF_end (r := [(34, (.bool false))]) ⟨rfl, trivial⟩ ?_
          subst hq192
          refine np_norm (fun a ha => ⟨ha, kp⟩)
      · rw [if_neg (by rw [t30]; decide)] at hq19
        refine st_no rfl rfl (by rw [t30]; rfl) (by decide) ?_
        refine st_no rfl rfl (by rw [t30]; rfl) (by decide) ?_
        refine st_no rfl rfl (by rw [t30]; rfl) (by decide) ?_
        refine st_no rfl rfl (by rw [t30]; rfl) (by decide) ?_
        refine st_no rfl rfl (by rw [t30]; rfl) (by decide) ?_
        refine st_no rfl rfl (by rw [t30]; rfl) (by decide) ?_
        refine st_val (ex_pick_f (congrArg (fun b => some (Value.bool b)) t30) rfl) (by decide) trivial ?_
        refine st_val (ex_move rfl) (by decide) trivial ?_
        refine st_no rfl rfl rfl (by decide) ?_
        refine st_no rfl rfl rfl (by decide) ?_
        refine st_no rfl rfl rfl (by decide) ?_
        refine st_no rfl rfl rfl (by decide) ?_
        refine st_no rfl rfl rfl (by decide) ?_
        refine st_no rfl rfl rfl (by decide) ?_
        refine st_val (ex_pick_f rfl rfl) (by decide) trivial ?_
        have hq192 := Option.some.inj hq19
        refine wpF_end (r := [(34, (.bool false))]) ⟨rfl, trivial⟩ ?_
        subst hq192
        refine np_norm (fun a ha => ⟨ha, kp⟩)
    · rw [if_neg (by rw [t22]; decide)] at hq19
      refine st_no rfl rfl (by rw [t22]; rfl) (by decide) ?_
      refine st_no rfl rfl (by rw [t22]; rfl) (by decide) ?_
      refine st_no rfl rfl (by rw [t22]; rfl) (by decide) ?_
      refine st_no rfl rfl (by rw [t22]; rfl) (by decide) ?_
      refine st_no rfl rfl (by rw [t22]; rfl) (by decide) ?_
      refine st_val (ex_pick_f (congrArg (fun b => some (Value.bool b)) t22) rfl) (by decide) trivial ?_
      refine st_val (ex_move rfl) (by decide) trivial ?_
      refine st_no rfl rfl rfl (by decide) ?_
      refine st_no rfl rfl rfl (by decide) ?_
      refine st_no rfl rfl rfl (by decide) ?_
      refine st_no rfl rfl rfl (by decide) ?_
      refine st_no rfl rfl rfl (by decide) ?_
      refine st_no rfl rfl rfl (by decide) ?_
      refine st_val (ex_pick_f rfl rfl) (by decide) trivial ?_
      refine st_val (ex_move rfl) (by decide) trivial ?_
      refine st_no rfl rfl rfl (by decide) ?_
      refine st_no rfl rfl rfl (by decide) ?_
      refine st_no rfl rfl rfl (by decide) ?_
      refine st_no rfl rfl rfl (by decide) ?_
      refine st_no rfl rfl rfl (by decide) ?_
      refine st_no rfl rfl rfl (by decide) ?_
      refine st_val (ex_pick_f rfl rfl) (by decide) trivial ?_
      have hq192 := Option.some.inj hq19
      refine wpF_end (r := [(34, (.bool false))]) ⟨rfl, trivial⟩ ?_
      subst hq192
      refine np_norm (fun a ha => ⟨ha, kp⟩)
  rintro a46 w20 ⟨ha, k44⟩
  have s45 := k44.stp 999 o14
  replace h12 := h12.stp s45 (by decide)
  replace h17 := h17.stp s45 (by decide)
  replace hB := hB.stp s45 (by decide)
  refine wl_of ha ?_
  refine st_val (ex_assign rfl) (by decide) trivial ?_
  refine wpF_end (r := [(6, (.bool q19))]) ⟨rfl, trivial⟩ ?_
  refine nx ?_
  refine wpC_ret ?_
  have e47 := Option.some.inj hF
  subst e47
  refine ret_post (P := Try.prog) (vs := [(.bool q19)]) Try.results66 ⟨rfl, trivial⟩ ?_
  exact ⟨rfl, hB.keeps⟩

def fS_IsLabelMap (fuel : Nat) (p0 : T_Problem) (p1 : T_Problem) (p2 : List Int) : Option (Bool × Bool) :=
  (fS_reTwo fuel p0 p1) >>= fun x19 =>
  if !x19 then
    some (false, false)
  else
    (fS_reMap fuel p0 p1 p2) >>= fun x27 =>
    some (x27, true)

def pS_IsLabelMap (w : World) (r : Bool × Bool) : Ending → World → Prop := fun e w' => e = .returned (.tuple #[.bool r.1, .bool r.2]) ∧ Keeps w w'
set_option maxRecDepth 100000 in
set_option maxHeartbeats 2000000 in
theorem cS_IsLabelMap (fuel : Nat) (w : World) (u0 : List Value) (p0 : T_Problem) (g0 : Rp.rd zt w u0 p0) (u1 : List Value) (p1 : T_Problem) (g1 : Rp.rd zt w u1 p1) (u2 : Value) (p2 : List Int) (g2 : RdL zt w u2 p2) (r : Bool × Bool) (hF : fS_IsLabelMap fuel p0 p1 p2 = some r) :
    Calls Try.prog 16 #[.agg u0.toArray, .agg u1.toArray, u2] w (pS_IsLabelMap w r) := by
  unfold fS_IsLabelMap at hF
  obtain ⟨v1, v3, rfl, h2, h4⟩ := g0
  obtain ⟨v5, v7, rfl, h6, h8⟩ := g1
  have hB : Bs (fun _ => 1) (col (fun _ => 1)) w w := Bs.start _ _
  refine calls_start (n := 16) (vs := [(.agg #[(.int .i64 p0.Labels), (.int .i64 p0.Degree), v1, v3]), (.agg #[(.int .i64 p1.Labels), (.int .i64 p1.Degree), v5, v7]), u2]) Try.func16 rfl rfl ?_
  refine wpC_seq ?_
  refine wpC_region ?_
  refine st_op (by decide) trivial ?_
  refine wf_box (o := (col (fun _ => 1))) w.heap.size 11 hB.keeps.size (cs := [(.int .i64 p0.Labels), (.int .i64 p0.Degree), v1, v3]) rfl rfl ?_
  intro o9 w10 b11 h12 s13
  replace hB := hB.stp s13 (by decide)
  refine st_op (by decide) trivial ?_
  refine wf_box (o := o9) w.heap.size 12 hB.keeps.size (cs := [(.int .i64 p1.Labels), (.int .i64 p1.Degree), v5, v7]) rfl rfl ?_
  intro o14 w15 b16 h17 s18
  replace h12 := h12.stp s18 (by decide)
  replace hB := hB.stp s18 (by decide)
  refine st_val (ex_assign rfl) (by decide) trivial ?_
  refine st_val (ex_assign rfl) (by decide) trivial ?_
  refine wpF_end (r := [(2, u2), (3, (.pointer (some ⟨b11, 0, none⟩))), (4, (.pointer (some ⟨b16, 0, none⟩)))]) ⟨rfl, rfl, rfl, trivial⟩ ?_
  refine nx ?_
  refine wpC_seq ?_
  refine wpC_seq ?_
  refine wpC_region ?_
  refine st_val (ex_loadA rfl Try.isAgg29 Try.sizeOf29 rfl h12.cells) (by decide) trivial ?_
  refine st_val (ex_loadA rfl Try.isAgg29 Try.sizeOf29 rfl h17.cells) (by decide) trivial ?_
  obtain ⟨x19, hx19, hF⟩ := bind_some hF
  refine st_op (by decide) trivial ?_
  refine wf_call (cS_reTwo fuel w15 _ p0 (⟨_, _, rfl, (h2.keep hB.keeps), (h4.keep hB.keeps)⟩) _ p1 (⟨_, _, rfl, (h6.keep hB.keeps), (h8.keep hB.keeps)⟩) x19 hx19) Try.call65 ⟨rfl, rfl, trivial⟩ ?_
  rintro e24 w20 ⟨rfl, k21⟩
  have s23 := k21.stp 999 o14
  refine ⟨_, rfl, ?_⟩
  replace h12 := h12.stp s23 (by decide)
  replace h17 := h17.stp s23 (by decide)
  replace hB := hB.stp s23 (by decide)
  refine st_val (ex_not rfl) (by decide) trivial ?_
  refine wpF_end (r := [(2, u2), (3, (.pointer (some ⟨b11, 0, none⟩))), (4, (.pointer (some ⟨b16, 0, none⟩))), (11, (.bool (!x19)))]) ⟨rfl, rfl, rfl, rfl, trivial⟩ ?_
  refine nx ?_
  refine wpC_cond rfl (fun t25 => ?_) (fun t25 => ?_)
  · rw [if_pos t25] at hF
    refine wpC_seq ?_
    refine wpC_region ?_
    refine st_val (ex_assign rfl) (by decide) trivial ?_
    refine st_val (ex_assign rfl) (by decide) trivial ?_
    refine wpF_end (r := [(6, (.bool false)), (7, (.bool false))]) ⟨rfl, rfl, trivial⟩ ?_
    refine nx ?_
    refine wpC_ret ?_
    refine nt_ret ?_
    have e26 := Option.some.inj hF
    subst e26
    refine ret_post (P := Try.prog) (vs := [(.bool false), (.bool false)]) Try.results16 ⟨rfl, rfl, trivial⟩ ?_
    exact ⟨rfl, hB.keeps⟩
  · rw [if_neg (by rw [t25]; decide)] at hF
    refine wpC_skip ?_
    refine nx ?_
    refine wpC_seq ?_
    refine wpC_region ?_
    refine st_val (ex_loadA rfl Try.isAgg29 Try.sizeOf29 rfl h12.cells) (by decide) trivial ?_
    refine st_val (ex_loadA rfl Try.isAgg29 Try.sizeOf29 rfl h17.cells) (by decide) trivial ?_
    refine st_val (ex_move rfl) (by decide) trivial ?_
    obtain ⟨x27, hx27, hF⟩ := bind_some hF
    refine st_op (by decide) trivial ?_
    refine wf_call (cS_reMap fuel w20 _ p0 (⟨_, _, rfl, (h2.keep hB.keeps), (h4.keep hB.keeps)⟩) _ p1 (⟨_, _, rfl, (h6.keep hB.keeps), (h8.keep hB.keeps)⟩) _ p2 (g2.keep hB.keeps) x27 hx27) Try.call66 ⟨rfl, rfl, rfl, trivial⟩ ?_
    rintro e32 w28 ⟨rfl, k29⟩
    have s31 := k29.stp 999 o14
    refine ⟨_, rfl, ?_⟩
    replace h12 := h12.stp s31 (by decide)
    replace h17 := h17.stp s31 (by decide)
    replace hB := hB.stp s31 (by decide)
    refine st_val (ex_assign rfl) (by decide) trivial ?_
    refine st_val (ex_assign rfl) (by decide) trivial ?_
    refine wpF_end (r := [(6, (.bool x27)), (7, (.bool true))]) ⟨rfl, rfl, trivial⟩ ?_
    refine nx ?_
    refine wpC_ret ?_
    have e33 := Option.some.inj hF
    subst e33
    refine ret_post (P := Try.prog) (vs := [(.bool x27), (.bool true)]) Try.results16 ⟨rfl, rfl, trivial⟩ ?_
    exact ⟨rfl, hB.keeps⟩

def fI_areProblems (fuel : Nat) (p0 : T_Problem) (p1 : T_Problem) : Option Bool :=
  (fI_IsProblem fuel p0) >>= fun x19 =>
  (
    if x19 then
      (fI_IsProblem fuel p1) >>= fun x29 =>
      if x29 then
        some (p0.Degree == p1.Degree)
      else
        some false
    else
      some false) >>= fun q25 =>
  some q25

def pI_areProblems (w : World) (r : Bool) : Ending → World → Prop := fun e w' => e = .returned (.bool r) ∧ Keeps w w'
set_option maxRecDepth 100000 in
set_option maxHeartbeats 2000000 in
theorem cI_areProblems (fuel : Nat) (w : World) (u0 : List Value) (p0 : T_Problem) (g0 : Rp.rd zt w u0 p0) (u1 : List Value) (p1 : T_Problem) (g1 : Rp.rd zt w u1 p1) (r : Bool) (hF : fI_areProblems fuel p0 p1 = some r) :
    Calls Try.prog 67 #[.agg u0.toArray, .agg u1.toArray] w (pI_areProblems w r) := by
  unfold fI_areProblems at hF
  obtain ⟨v1, v3, rfl, h2, h4⟩ := g0
  obtain ⟨v5, v7, rfl, h6, h8⟩ := g1
  have hB : Bs (fun _ => 1) (col (fun _ => 1)) w w := Bs.start _ _
  refine calls_start (n := 18) (vs := [(.agg #[(.int .i64 p0.Labels), (.int .i64 p0.Degree), v1, v3]), (.agg #[(.int .i64 p1.Labels), (.int .i64 p1.Degree), v5, v7])]) Try.func67 rfl rfl ?_
  refine wpC_seq ?_
  refine wpC_region ?_
  refine st_op (by decide) trivial ?_
  refine wf_box (o := (col (fun _ => 1))) w.heap.size 11 hB.keeps.size (cs := [(.int .i64 p0.Labels), (.int .i64 p0.Degree), v1, v3]) rfl rfl ?_
  intro o9 w10 b11 h12 s13
  replace hB := hB.stp s13 (by decide)
  refine st_op (by decide) trivial ?_
  refine wf_box (o := o9) w.heap.size 12 hB.keeps.size (cs := [(.int .i64 p1.Labels), (.int .i64 p1.Degree), v5, v7]) rfl rfl ?_
  intro o14 w15 b16 h17 s18
  replace h12 := h12.stp s18 (by decide)
  replace hB := hB.stp s18 (by decide)
  refine st_val (ex_assign rfl) (by decide) trivial ?_
  refine wpF_end (r := [(2, (.pointer (some ⟨b11, 0, none⟩))), (3, (.pointer (some ⟨b16, 0, none⟩)))]) ⟨rfl, rfl, trivial⟩ ?_
  refine nx ?_
  refine wpC_seq ?_
  refine wpC_region ?_
  refine st_val (ex_loadA rfl Try.isAgg29 Try.sizeOf29 rfl h12.cells) (by decide) trivial ?_
  obtain ⟨x19, hx19, hF⟩ := bind_some hF
  refine st_op (by decide) trivial ?_
  refine wf_call (cI_IsProblem fuel w15 _ p0 (⟨_, _, rfl, (h2.keep hB.keeps), (h4.keep hB.keeps)⟩) x19 hx19) Try.call82 ⟨rfl, trivial⟩ ?_
  rintro e24 w20 ⟨rfl, k21⟩
  have s23 := k21.stp 999 o14
  refine ⟨_, rfl, ?_⟩
  replace h12 := h12.stp s23 (by decide)
  replace h17 := h17.stp s23 (by decide)
  replace hB := hB.stp s23 (by decide)
  refine st_val (ex_move rfl) (by decide) trivial ?_
  obtain ⟨q25, hq25, hF⟩ := bind_some hF
  refine wpF_cutAt 10 (fun a27 w26 => Fr a27 18 [(17, (.bool q25))] ∧ Keeps w20 w26) ?_ ?_
  all_goals simp only [List.take_succ_cons, List.take_zero, List.drop_succ_cons, List.drop_zero]
  · have kp : Keeps w20 w20 := Keeps.refl _
    rcases Bool.eq_false_or_eq_true (x19) with t28 | t28
    · rw [if_pos t28] at hq25
      refine st_val (ex_loadA rfl Try.isAgg29 Try.sizeOf29 rfl h17.cells) (by decide) ⟨_, rfl, (congrArg (fun b => some (Value.bool b)) t28)⟩ ?_
      obtain ⟨x29, hx29, hq25⟩ := bind_some hq25
      refine st_op (by decide) ⟨_, rfl, (congrArg (fun b => some (Value.bool b)) t28)⟩ ?_
      refine wf_call (cI_IsProblem fuel w20 _ p1 (⟨_, _, rfl, (h6.keep hB.keeps), (h8.keep hB.keeps)⟩) x29 hx29) Try.call82 ⟨rfl, trivial⟩ ?_
      rintro e34 w30 ⟨rfl, k31⟩
      have s33 := k31.stp 999 o14
      refine ⟨_, rfl, ?_⟩
      replace h12 := h12.stp s33 (by decide)
      replace h17 := h17.stp s33 (by decide)
      replace hB := hB.stp s33 (by decide)
      replace kp := Keeps.trans kp k31
      refine st_val (ex_pick_t (congrArg (fun b => some (Value.bool b)) t28) rfl) (by decide) trivial ?_
      refine st_val (ex_move rfl) (by decide) trivial ?_
      rcases Bool.eq_false_or_eq_true (x29) with t35 | t35
      · rw [if_pos t35] at hq25
        refine st_val (ex_field rfl Try.underlying29 rfl Try.sizeOf3) (by decide) ⟨_, rfl, (congrArg (fun b => some (Value.bool b)) t35)⟩ ?_
        refine st_val (ex_load1 rfl Try.isAgg3 (h12.cell rfl)) (by decide) ⟨_, rfl, (congrArg (fun b => some (Value.bool b)) t35)⟩ ?_
        refine st_val (ex_field rfl Try.underlying29 rfl Try.sizeOf3) (by decide) ⟨_, rfl, (congrArg (fun b => some (Value.bool b)) t35)⟩ ?_
        refine st_val (ex_load1 rfl Try.isAgg3 (h17.cell rfl)) (by decide) ⟨_, rfl, (congrArg (fun b => some (Value.bool b)) t35)⟩ ?_
        refine st_val (ex_eql rfl rfl) (by decide) ⟨_, rfl, (congrArg (fun b => some (Value.bool b)) t35)⟩ ?_
        refine st_val (ex_pick_t (congrArg (fun b => some (Value.bool b)) t35) rfl) (by decide) trivial ?_
        have hq252 := Option.some.inj hq25
        refine wpF_end (r := [(17, (.bool (p0.Degree == p1.Degree)))]) ⟨rfl, trivial⟩ ?_
        subst hq252
        refine np_norm (fun a ha => ⟨ha, kp⟩)
      · rw [if_neg (by rw [t35]; decide)] at hq25
        refine st_no rfl rfl (by rw [t35]; rfl) (by decide) ?_
        refine st_no rfl rfl (by rw [t35]; rfl) (by decide) ?_
        refine st_no rfl rfl (by rw [t35]; rfl) (by decide) ?_
        refine st_no rfl rfl (by rw [t35]; rfl) (by decide) ?_
        refine st_no rfl rfl (by rw [t35]; rfl) (by decide) ?_
        refine st_val (ex_pick_f (congrArg (fun b => some (Value.bool b)) t35) rfl) (by decide) trivial ?_
        have hq252 := Option.some.inj hq25
        refine wpF_end (r := [(17, (.bool false))]) ⟨rfl, trivial⟩ ?_
        subst hq252
        refine np_norm (fun a ha => ⟨ha, kp⟩)
    · rw [if_neg (by rw [t28]; decide)] at hq25
      refine st_no rfl rfl (by rw [t28]; rfl) (by decide) ?_
      refine st_no rfl rfl (by rw [t28]; rfl) (by decide) ?_
      refine st_val (ex_pick_f (congrArg (fun b => some (Value.bool b)) t28) rfl) (by decide) trivial ?_
      refine st_val (ex_move rfl) (by decide) trivial ?_
      refine st_no rfl rfl rfl (by decide) ?_
      refine st_no rfl rfl rfl (by decide) ?_
      refine st_no rfl rfl rfl (by decide) ?_
      refine st_no rfl rfl rfl (by decide) ?_
      refine st_no rfl rfl rfl (by decide) ?_
      refine st_val (ex_pick_f rfl rfl) (by decide) trivial ?_
      have hq252 := Option.some.inj hq25
      refine wpF_end (r := [(17, (.bool false))]) ⟨rfl, trivial⟩ ?_
      subst hq252
      refine np_norm (fun a ha => ⟨ha, kp⟩)
  rintro a38 w26 ⟨ha, k36⟩
  have s37 := k36.stp 999 o14
  replace h12 := h12.stp s37 (by decide)
  replace h17 := h17.stp s37 (by decide)
  replace hB := hB.stp s37 (by decide)
  refine wl_of ha ?_
  refine st_val (ex_assign rfl) (by decide) trivial ?_
  refine wpF_end (r := [(4, (.bool q25))]) ⟨rfl, trivial⟩ ?_
  refine nx ?_
  refine wpC_ret ?_
  have e39 := Option.some.inj hF
  subst e39
  refine ret_post (P := Try.prog) (vs := [(.bool q25)]) Try.results67 ⟨rfl, trivial⟩ ?_
  exact ⟨rfl, hB.keeps⟩

def fI_isLabelMap_1 (fuel : Nat) (p0 : List Int) (p1 : T_Problem) (p2 : List Int) : Option Bool :=
  (ix p0 0) >>= fun x7 =>
  (ix p2 x7) >>= fun x10 =>
  (ix p0 1) >>= fun x13 =>
  (ix p2 x13) >>= fun x16 =>
  (fI_Problem_edge fuel p1 x10 x16) >>= fun x105 =>
  some (!x105)

def pI_isLabelMap_1 (w : World) (r : Bool) : Ending → World → Prop := fun e w' => e = .returned (.bool r) ∧ Keeps w w'
set_option maxRecDepth 100000 in
set_option maxHeartbeats 2000000 in
theorem cI_isLabelMap_1 (fuel : Nat) (w : World) (u0 : Value) (p0 : List Int) (g0 : RdL zt w u0 p0) (b1 : Nat) (u1 : List Value) (p1 : T_Problem) (k1 : Cells w b1 0 u1) (g1 : Rp.rd zt w u1 p1) (b2 : Nat) (u2 : List Value) (p2 : List Int) (k2 : Cells w b2 0 u2) (g2 : Rp.rd zt w u2 p2) (r : Bool) (hF : fI_isLabelMap_1 fuel p0 p1 p2 = some r) :
    Calls Try.prog 123 #[u0, .pointer (some ⟨b1, 0, none⟩), .pointer (some ⟨b2, 0, none⟩)] w (pI_isLabelMap_1 w r) := by
  unfold fI_isLabelMap_1 at hF
  have g1k := g1
  obtain ⟨v1, v3, rfl, h2, h4⟩ := g1
  have g2k := g2
  obtain ⟨v5, rfl, h6⟩ := g2
  have hB : Bs (fun _ => 1) (col (fun _ => 1)) w w := Bs.start _ _
  refine calls_start (n := 20) (vs := [u0, (.pointer (some ⟨b1, 0, none⟩)), (.pointer (some ⟨b2, 0, none⟩))]) Try.func123 rfl rfl ?_
  refine wpC_seq ?_
  refine wpC_region ?_
  refine st_val (ex_assign rfl) (by decide) trivial ?_
  refine wpF_end (r := [(0, u0), (1, (.pointer (some ⟨b1, 0, none⟩))), (2, (.pointer (some ⟨b2, 0, none⟩)))]) ⟨rfl, rfl, rfl, trivial⟩ ?_
  refine nx ?_
  refine wpC_seq ?_
  obtain ⟨x7, hx7, hF⟩ := bind_some hF
  obtain ⟨x10, hx10, hF⟩ := bind_some hF
  obtain ⟨x13, hx13, hF⟩ := bind_some hF
  obtain ⟨x16, hx16, hF⟩ := bind_some hF
  refine wpC_drawn (o := (col (fun _ => 1))) [(0, u0), (1, (.pointer (some ⟨b1, 0, none⟩))), (2, (.pointer (some ⟨b2, 0, none⟩)))] [0, 1, 2] [5, 6, 7, 8, 9, 10, 11, 12, 13, 14, 15, 16, 17] [[], [], [], [2], [3], [1, 4], [5], [], [], [8], [9], [7, 10], [11]] [none, none, none, none, none, none, none, none, none, none, none, none, none] [999, 999, 999, 999, 999, 999, 999, 999, 999, 999, 999, 999, 999] [0, 0, 0, 0, 0, 0, 0, 0, 0, 0, 0, 0, 0] [999] [fun v o w9 => ∃ (c : List Value), v = .agg c.toArray ∧ Rp.rd zt w c p1, fun v o w9 => RdL zt w v p2, fun v _ _ => v = u0, fun v o w9 => ∃ vl, v = adr vl ((0 : Int).toNat * Rp.sz Int) ∧ RdL zt w vl p0, fun v _ _ => v = (.int .i64 x7), fun v o w9 => ∃ vl, v = adr vl (x7.toNat * Rp.sz Int) ∧ RdL zt w vl p2, fun v _ _ => v = (.int .i64 x10), fun v o w9 => RdL zt w v p2, fun v _ _ => v = u0, fun v o w9 => ∃ vl, v = adr vl ((1 : Int).toNat * Rp.sz Int) ∧ RdL zt w vl p0, fun v _ _ => v = (.int .i64 x13), fun v o w9 => ∃ vl, v = adr vl (x13.toNat * Rp.sz Int) ∧ RdL zt w vl p2, fun v _ _ => v = (.int .i64 x16)] (fun o8 w8 => Bs (fun _ => 1) o8 w w8) follows_mixed (by kernel_rfl) rfl ⟨rfl, rfl, rfl, trivial⟩ hB ?_ ⟨fun _ _ _ _ _ _ h0 hb ⟨c, e, h⟩ hs => ⟨c, e, h⟩, fun _ _ _ _ _ _ h0 hb h hs => h, st_eq _, fun _ _ _ _ _ _ h0 hb ⟨vl, e, h⟩ hs => ⟨vl, e, h⟩, st_eq _, fun _ _ _ _ _ _ h0 hb ⟨vl, e, h⟩ hs => ⟨vl, e, h⟩, st_eq _, fun _ _ _ _ _ _ h0 hb h hs => h, st_eq _, fun _ _ _ _ _ _ h0 hb ⟨vl, e, h⟩ hs => ⟨vl, e, h⟩, st_eq _, fun _ _ _ _ _ _ h0 hb ⟨vl, e, h⟩ hs => ⟨vl, e, h⟩, st_eq _, trivial⟩ ?_ ?_
  · rintro t9 o1 w1 o2 w2 ht9 hB hs9
    have ht9 : t9 = 999 := by simpa using ht9
    subst ht9
    all_goals exact hB.stp hs9 (by decide)
  · refine ⟨?_, ?_, ?_, ?_, ?_, ?_, ?_, ?_, ?_, ?_, ?_, ?_, ?_, trivial⟩
    · rintro o19 w20 a21 ha hB -
      refine opS_of ha (trivial) ?_
      refine op1_val (ex_loadA rfl Try.isAgg29 Try.sizeOf29 rfl (k1.keep hB.keeps)) ?_
      exact ⟨_, Stp.refl _ _ _, ⟨_, rfl, ⟨_, _, rfl, h2, h4⟩⟩⟩
    · rintro o22 w23 a24 ha hB -
      refine opS_of ha (trivial) ?_
      refine op1_val (ex_load1 rfl Try.isAgg25 (cell_of_cells (k2.keep hB.keeps))) ?_
      exact ⟨_, Stp.refl _ _ _, h6⟩
    · rintro o25 w26 a27 ha hB -
      refine opS_of ha (trivial) ?_
      refine op1_val (ex_move rfl) ?_
      exact ⟨_, Stp.refl _ _ _, rfl⟩
    · rintro o28 w29 a30 ha hB ⟨r31, -⟩
      have ha := Fr.cons (d := 7) ha r31
      refine opS_of ha (trivial) ?_
      refine wd_indexR g0 hx7 rfl rfl Try.underlying25 Try.sizeOf3 ?_
      exact ⟨_, Stp.refl _ _ _, ⟨_, rfl, g0⟩⟩
    · rintro o32 w33 a34 ha hB ⟨r35, -⟩
      obtain ⟨v36, e37, h38⟩ := r35
      have ha := Fr.cons (d := 8) ha e37
      refine opS_of ha (trivial) ?_
      refine wd_load1Z h38 hx7 hB rfl rfl Try.isAgg3 ?_
      intro c39 h40
      cases h40
      exact ⟨_, Stp.refl _ _ _, rfl⟩
    · rintro o41 w42 a43 ha hB ⟨r44, r45, -⟩
      replace r44 : RdL zt w (a43.tmps.getD 6 undef) p2 := r44
      generalize e47 : a43.tmps.getD 6 undef = v46 at r44
      have ha := Fr.cons (d := 6) ha e47
      have ha := Fr.cons (d := 9) ha r45
      refine opS_of ha (trivial) ?_
      refine wd_indexR r44 hx10 rfl rfl Try.underlying25 Try.sizeOf3 ?_
      exact ⟨_, Stp.refl _ _ _, ⟨_, rfl, r44⟩⟩
    · rintro o48 w49 a50 ha hB ⟨r51, -⟩
      obtain ⟨v52, e53, h54⟩ := r51
      have ha := Fr.cons (d := 10) ha e53
      refine opS_of ha (trivial) ?_
      refine wd_load1Z h54 hx10 hB rfl rfl Try.isAgg3 ?_
      intro c55 h56
      cases h56
      exact ⟨_, Stp.refl _ _ _, rfl⟩
    · rintro o57 w58 a59 ha hB -
      refine opS_of ha (trivial) ?_
      refine op1_val (ex_load1 rfl Try.isAgg25 (cell_of_cells (k2.keep hB.keeps))) ?_
      exact ⟨_, Stp.refl _ _ _, h6⟩
    · rintro o60 w61 a62 ha hB -
      refine opS_of ha (trivial) ?_
      refine op1_val (ex_move rfl) ?_
      exact ⟨_, Stp.refl _ _ _, rfl⟩
    · rintro o63 w64 a65 ha hB ⟨r66, -⟩
      have ha := Fr.cons (d := 13) ha r66
      refine opS_of ha (trivial) ?_
      refine wd_indexR g0 hx13 rfl rfl Try.underlying25 Try.sizeOf3 ?_
      exact ⟨_, Stp.refl _ _ _, ⟨_, rfl, g0⟩⟩
    · rintro o67 w68 a69 ha hB ⟨r70, -⟩
      obtain ⟨v71, e72, h73⟩ := r70
      have ha := Fr.cons (d := 14) ha e72
      refine opS_of ha (trivial) ?_
      refine wd_load1Z h73 hx13 hB rfl rfl Try.isAgg3 ?_
      intro c74 h75
      cases h75
      exact ⟨_, Stp.refl _ _ _, rfl⟩
    · rintro o76 w77 a78 ha hB ⟨r79, r80, -⟩
      replace r79 : RdL zt w (a78.tmps.getD 12 undef) p2 := r79
      generalize e82 : a78.tmps.getD 12 undef = v81 at r79
      have ha := Fr.cons (d := 12) ha e82
      have ha := Fr.cons (d := 15) ha r80
      refine opS_of ha (trivial) ?_
      refine wd_indexR r79 hx16 rfl rfl Try.underlying25 Try.sizeOf3 ?_
      exact ⟨_, Stp.refl _ _ _, ⟨_, rfl, r79⟩⟩
    · rintro o83 w84 a85 ha hB ⟨r86, -⟩
      obtain ⟨v87, e88, h89⟩ := r86
      have ha := Fr.cons (d := 16) ha e88
      refine opS_of ha (trivial) ?_
      refine wd_load1Z h89 hx16 hB rfl rfl Try.isAgg3 ?_
      intro c90 h91
      cases h91
      exact ⟨_, Stp.refl _ _ _, rfl⟩
  rintro o92 w93 a94 ha hB ⟨r95, -, -, -, -, -, r96, -, -, -, -, -, r97, -⟩
  obtain ⟨c98, e99, h100⟩ := r95
  obtain ⟨v101, v103, rfl, h102, h104⟩ := h100
  have ha := Fr.cons (d := 5) ha e99
  have ha := Fr.cons (d := 11) ha r96
  have ha := Fr.cons (d := 17) ha r97
  refine wl_of ha ?_
  simp only [List.length_cons, List.length_nil, Nat.zero_add, Nat.reduceAdd, List.drop_succ_cons, List.drop_zero]
  obtain ⟨x105, hx105, hF⟩ := bind_some hF
  refine st_op (by decide) trivial ?_
  refine wf_call (cI_Problem_edge fuel w93 _ p1 (⟨_, _, rfl, (h102.keep hB.keeps), (h104.keep hB.keeps)⟩) x10 x16 x105 hx105) Try.call119 ⟨rfl, rfl, rfl, trivial⟩ ?_
  rintro e110 w106 ⟨rfl, k107⟩
  have s109 := k107.stp 999 o92
  refine ⟨_, rfl, ?_⟩
  replace hB := hB.stp s109 (by decide)
  refine st_val (ex_not rfl) (by decide) trivial ?_
  refine st_val (ex_assign rfl) (by decide) trivial ?_
  refine wpF_end (r := [(4, (.bool (!x105)))]) ⟨rfl, trivial⟩ ?_
  refine nx ?_
  refine wpC_ret ?_
  have e111 := Option.some.inj hF
  subst e111
  refine ret_post (P := Try.prog) (vs := [(.bool (!x105))]) Try.results123 ⟨rfl, trivial⟩ ?_
  exact ⟨rfl, hB.keeps⟩

def fI_isLabelMap_s1 (fuel : Nat) (p1 : T_Problem) (p2 : List Int) : Int → (List Int) → Unit → Option (Lp Unit Unit Bool) := fun (i41 : Int) (x51 : List Int) (s : Unit) =>
  (fI_images x51 p2) >>= fun x59 =>
  (fI_Problem_node fuel p1 x59) >>= fun x97 =>
  if !x97 then
    some (.ret false)
  else
    some (.go ())
def fI_isLabelMap (fuel : Nat) (p0 : T_Problem) (p1 : T_Problem) (p2 : List Int) : Option Bool :=
  (
    if (p2.length : Int) != p0.Labels then
      some true
    else
      (fI_Problem_hasLabels p1 p2) >>= fun x28 =>
      some (!x28)) >>= fun q24 =>
  if q24 then
    some false
  else
    (forI (fI_isLabelMap_s1 fuel p1 p2) p0.Nodes 0 ()) >>= fun q42 =>
    match q42 with
    | .inl _ =>
      (fX_slices_ContainsFunc_LLint_int p0.Edges (fun z107 => fI_isLabelMap_1 fuel z107 p1 p2)) >>= fun x110 =>
      some (!x110)
    | .inr r' => some r'

def pI_isLabelMap (w : World) (r : Bool) : Ending → World → Prop := fun e w' => e = .returned (.bool r) ∧ Keeps w w'
set_option maxRecDepth 100000 in
set_option maxHeartbeats 2000000 in
theorem cI_isLabelMap (fuel : Nat) (w : World) (u0 : List Value) (p0 : T_Problem) (g0 : Rp.rd zt w u0 p0) (u1 : List Value) (p1 : T_Problem) (g1 : Rp.rd zt w u1 p1) (u2 : Value) (p2 : List Int) (g2 : RdL zt w u2 p2) (r : Bool) (hF : fI_isLabelMap fuel p0 p1 p2 = some r) :
    Calls Try.prog 68 #[.agg u0.toArray, .agg u1.toArray, u2] w (pI_isLabelMap w r) := by
  unfold fI_isLabelMap at hF
  obtain ⟨v1, v3, rfl, h2, h4⟩ := g0
  obtain ⟨v5, v7, rfl, h6, h8⟩ := g1
  have hB : Bs (fun _ => 1) (col (fun _ => 1)) w w := Bs.start _ _
  refine calls_start (n := 39) (vs := [(.agg #[(.int .i64 p0.Labels), (.int .i64 p0.Degree), v1, v3]), (.agg #[(.int .i64 p1.Labels), (.int .i64 p1.Degree), v5, v7]), u2]) Try.func68 rfl rfl ?_
  refine wpC_seq ?_
  refine wpC_region ?_
  refine st_op (by decide) trivial ?_
  refine wf_box (o := (col (fun _ => 1))) w.heap.size 11 hB.keeps.size (cs := [(.int .i64 p0.Labels), (.int .i64 p0.Degree), v1, v3]) rfl rfl ?_
  intro o9 w10 b11 h12 s13
  replace hB := hB.stp s13 (by decide)
  refine st_op (by decide) trivial ?_
  refine wf_box (o := o9) w.heap.size 12 hB.keeps.size (cs := [(.int .i64 p1.Labels), (.int .i64 p1.Degree), v5, v7]) rfl rfl ?_
  intro o14 w15 b16 h17 s18
  replace h12 := h12.stp s18 (by decide)
  replace hB := hB.stp s18 (by decide)
  refine st_op (by decide) trivial ?_
  refine wf_box (o := o14) w.heap.size 13 hB.keeps.size (cs := [u2]) g2.cells1 rfl ?_
  intro o19 w20 b21 h22 s23
  replace h12 := h12.stp s23 (by decide)
  replace h17 := h17.stp s23 (by decide)
  replace hB := hB.stp s23 (by decide)
  refine st_val (ex_assign rfl) (by decide) trivial ?_
  refine wpF_end (r := [(3, (.pointer (some ⟨b11, 0, none⟩))), (4, (.pointer (some ⟨b16, 0, none⟩))), (5, (.pointer (some ⟨b21, 0, none⟩)))]) ⟨rfl, rfl, rfl, trivial⟩ ?_
  refine nx ?_
  refine wpC_seq ?_
  refine wpC_seq ?_
  refine wpC_region ?_
  refine st_val (ex_load1 rfl Try.isAgg25 (h22.cell rfl)) (by decide) trivial ?_
  refine st_val (ex_lenR rfl g2 Try.underlying25) (by decide) trivial ?_
  refine st_val (ex_field rfl Try.underlying29 rfl Try.sizeOf3) (by decide) trivial ?_
  refine st_val (ex_load1 rfl Try.isAgg3 (h12.cell rfl)) (by decide) trivial ?_
  refine st_val (ex_neq rfl rfl) (by decide) trivial ?_
  refine st_val (ex_move rfl) (by decide) trivial ?_
  obtain ⟨q24, hq24, hF⟩ := bind_some hF
  refine wpF_cutAt 5 (fun a26 w25 => Fr a26 39 [(3, (.pointer (some ⟨b11, 0, none⟩))), (4, (.pointer (some ⟨b16, 0, none⟩))), (5, (.pointer (some ⟨b21, 0, none⟩))), (19, (.bool q24))] ∧ Keeps w20 w25) ?_ ?_
  all_goals simp only [List.take_succ_cons, List.take_zero, List.drop_succ_cons, List.drop_zero]
  · have kp : Keeps w20 w20 := Keeps.refl _
    rcases Bool.eq_false_or_eq_true ((p2.length : Int) != p0.Labels) with t27 | t27
    · rw [if_pos t27] at hq24
      refine st_no rfl rfl (by rw [t27]; rfl) (by decide) ?_
      refine st_no rfl rfl (by rw [t27]; rfl) (by decide) ?_
      refine st_no rfl rfl (by rw [t27]; rfl) (by decide) ?_
      refine st_no rfl rfl (by rw [t27]; rfl) (by decide) ?_
      refine st_val (ex_pick_t (congrArg (fun b => some (Value.bool b)) t27) rfl) (by decide) trivial ?_
      have hq242 := Option.some.inj hq24
      refine wpF_end (r := [(3, (.pointer (some ⟨b11, 0, none⟩))), (4, (.pointer (some ⟨b16, 0, none⟩))), (5, (.pointer (some ⟨b21, 0, none⟩))), (19, (.bool true))]) ⟨rfl, rfl, rfl, rfl, trivial⟩ ?_
      subst hq242
      refine np_norm (fun a ha => ⟨ha, kp⟩)
    · rw [if_neg (by rw [t27]; decide)] at hq24
      refine st_val (ex_loadA rfl Try.isAgg29 Try.sizeOf29 rfl h17.cells) (by decide) ⟨_, rfl, (congrArg (fun b => some (Value.bool b)) t27)⟩ ?_
      refine st_val (ex_load1 rfl Try.isAgg25 (h22.cell rfl)) (by decide) ⟨_, rfl, (congrArg (fun b => some (Value.bool b)) t27)⟩ ?_
      obtain ⟨x28, hx28, hq24⟩ := bind_some hq24
      refine st_op (by decide) ⟨_, rfl, (congrArg (fun b => some (Value.bool b)) t27)⟩ ?_
      refine wf_call (cI_Problem_hasLabels w20 _ p1 (⟨_, _, rfl, (h6.keep hB.keeps), (h8.keep hB.keeps)⟩) _ p2 (g2.keep hB.keeps) x28 hx28) Try.call83 ⟨rfl, rfl, trivial⟩ ?_
      rintro e33 w29 ⟨rfl, k30⟩
      have s32 := k30.stp 999 o19
      refine ⟨_, rfl, ?_⟩
      replace h12 := h12.stp s32 (by decide)
      replace h17 := h17.stp s32 (by decide)
      replace h22 := h22.stp s32 (by decide)
      replace hB := hB.stp s32 (by decide)
      replace kp := Keeps.trans kp k30
      refine st_val (ex_not rfl) (by decide) ⟨_, rfl, (congrArg (fun b => some (Value.bool b)) t27)⟩ ?_
      refine st_val (ex_pick_f (congrArg (fun b => some (Value.bool b)) t27) rfl) (by decide) trivial ?_
      have hq242 := Option.some.inj hq24
      refine wpF_end (r := [(3, (.pointer (some ⟨b11, 0, none⟩))), (4, (.pointer (some ⟨b16, 0, none⟩))), (5, (.pointer (some ⟨b21, 0, none⟩))), (19, (.bool (!x28)))]) ⟨rfl, rfl, rfl, rfl, trivial⟩ ?_
      subst hq242
      refine np_norm (fun a ha => ⟨ha, kp⟩)
  rintro a36 w25 ⟨ha, k34⟩
  have s35 := k34.stp 999 o19
  replace h12 := h12.stp s35 (by decide)
  replace h17 := h17.stp s35 (by decide)
  replace h22 := h22.stp s35 (by decide)
  replace hB := hB.stp s35 (by decide)
  refine wl_of ha ?_
  refine wpF_end (r := [(3, (.pointer (some ⟨b11, 0, none⟩))), (4, (.pointer (some ⟨b16, 0, none⟩))), (5, (.pointer (some ⟨b21, 0, none⟩))), (19, (.bool q24))]) ⟨rfl, rfl, rfl, rfl, trivial⟩ ?_
  refine nx ?_
  refine wpC_cond rfl (fun t37 => ?_) (fun t37 => ?_)
  · rw [if_pos t37] at hF
    refine wpC_seq ?_
    refine wpC_region ?_
    refine st_val (ex_assign rfl) (by decide) trivial ?_
    refine wpF_end (r := [(6, (.bool false))]) ⟨rfl, trivial⟩ ?_
    refine nx ?_
    refine wpC_ret ?_
    refine nt_ret ?_
    have e38 := Option.some.inj hF
    subst e38
    refine ret_post (P := Try.prog) (vs := [(.bool false)]) Try.results68 ⟨rfl, trivial⟩ ?_
    exact ⟨rfl, hB.keeps⟩
  · rw [if_neg (by rw [t37]; decide)] at hF
    refine wpC_skip ?_
    refine nx ?_
    refine wpC_seq ?_
    refine wpC_seq ?_
    refine wpC_region ?_
    refine st_val (ex_field rfl Try.underlying29 rfl Try.sizeOf22) (by decide) trivial ?_
    refine st_val (ex_load1 rfl Try.isAgg22 (h12.cell rfl)) (by decide) trivial ?_
    refine st_val (ex_lenR rfl h2 Try.underlying22) (by decide) trivial ?_
    refine st_val (ex_move rfl) (by decide) trivial ?_
    refine wpF_end (r := [(3, (.pointer (some ⟨b11, 0, none⟩))), (4, (.pointer (some ⟨b16, 0, none⟩))), (5, (.pointer (some ⟨b21, 0, none⟩))), (21, v1), (22, (.int .i64 (p0.Nodes.length : Int))), (23, (.int .i64 0))]) ⟨rfl, rfl, rfl, rfl, rfl, rfl, trivial⟩ ?_
    refine nx ?_
    obtain ⟨q42, hq42, hF⟩ := bind_some hF
    refine wpC_cutN (fun a w40 => ∃ (o39 : Tg), q42 = .inl () ∧ Fr a 39 [(3, (.pointer (some ⟨b11, 0, none⟩))), (4, (.pointer (some ⟨b16, 0, none⟩))), (5, (.pointer (some ⟨b21, 0, none⟩)))] ∧ Bs (fun _ => 1) o39 w w40 ∧ Bx w.heap.size 11 o39 w40 b11 29 [(.int .i64 p0.Labels), (.int .i64 p0.Degree), v1, v3] ∧ Bx w.heap.size 12 o39 w40 b16 29 [(.int .i64 p1.Labels), (.int .i64 p1.Degree), v5, v7] ∧ Bx w.heap.size 13 o39 w40 b21 25 [u2]) (fun a w' => ∃ r', q42 = .inr r' ∧ bodyPost Try.prog Try.f68 (pI_isLabelMap w r') .ret a w') ?_ ?_ ?_
    · refine wpC_block ?_
      refine wpC_loop (fun (K : Nat) a w40 => ∃ (i41 : Int) (o39 : Tg), forI (fI_isLabelMap_s1 fuel p1 p2) (p0.Nodes.drop i41.toNat) i41 () = some q42 ∧ (p0.Nodes.drop i41.toNat).length = K ∧ 0 ≤ i41 ∧ Fr a 39 [(3, (.pointer (some ⟨b11, 0, none⟩))), (4, (.pointer (some ⟨b16, 0, none⟩))), (5, (.pointer (some ⟨b21, 0, none⟩))), (21, v1), (22, (.int .i64 (p0.Nodes.length : Int))), (23, (.int .i64 i41))] ∧ Bs (fun _ => 1) o39 w w40 ∧ Bx w.heap.size 11 o39 w40 b11 29 [(.int .i64 p0.Labels), (.int .i64 p0.Degree), v1, v3] ∧ Bx w.heap.size 12 o39 w40 b16 29 [(.int .i64 p1.Labels), (.int .i64 p1.Degree), v5, v7] ∧ Bx w.heap.size 13 o39 w40 b21 25 [u2]) _ (fun a ha => ⟨0, o19, hq42, rfl, Int.le_refl 0, ha.sub (r := [(3, (.pointer (some ⟨b11, 0, none⟩))), (4, (.pointer (some ⟨b16, 0, none⟩))), (5, (.pointer (some ⟨b21, 0, none⟩))), (21, v1), (22, (.int .i64 (p0.Nodes.length : Int))), (23, (.int .i64 0))]) ⟨rfl, rfl, rfl, rfl, rfl, rfl, trivial⟩, hB, h12, h17, h22⟩) ?_
      rintro K46 a w40 ⟨i41, o39, l43, m45, z44, ha, hB, h12, h17, h22⟩
      by_cases t50 : i41 < (p0.Nodes.length : Int)
      · obtain ⟨x51, q47, hx51, b48, n49⟩ := forI_cons z44 t50 l43
        have hle := h2.len_le
        dsimp only [fI_isLabelMap_s1] at b48
        refine wp_of ha ?_
        refine wpC_seq ?_
        refine wpC_region ?_
        refine st_val (ex_lss rfl rfl) (by decide) trivial ?_
        refine wpF_end (r := [(3, (.pointer (some ⟨b11, 0, none⟩))), (4, (.pointer (some ⟨b16, 0, none⟩))), (5, (.pointer (some ⟨b21, 0, none⟩))), (21, v1), (22, (.int .i64 (p0.Nodes.length : Int))), (23, (.int .i64 i41)), (24, (.bool (decide (i41 < (p0.Nodes.length : Int)))))]) ⟨rfl, rfl, rfl, rfl, rfl, rfl, rfl, trivial⟩ ?_
        refine nx ?_
        refine wpC_seq ?_
        refine wpC_true (congrArg (fun b => some (Value.bool b)) (decide_eq_true t50)) ?_
        refine wpC_skip ?_
        refine nx ?_
        refine wpC_seq ?_
        refine wpC_block ?_
        refine wpC_seq ?_
        refine wpC_region ?_
        refine st_op (by decide) trivial ?_
        refine wf_atZ h2 hx51 hB rfl rfl Try.underlying22 Try.sizeOf25 ?_
        intro b52 f53 c54 h55 h56
        obtain ⟨v57, rfl, h58⟩ := h56
        refine st_val (ex_load1 rfl Try.isAgg25 (cell_of_cells h55)) (by decide) trivial ?_
        refine st_val (ex_assign rfl) (by decide) trivial ?_
        refine wpF_end (r := [(3, (.pointer (some ⟨b11, 0, none⟩))), (4, (.pointer (some ⟨b16, 0, none⟩))), (5, (.pointer (some ⟨b21, 0, none⟩))), (8, v57), (21, v1), (22, (.int .i64 (p0.Nodes.length : Int))), (23, (.int .i64 i41))]) ⟨rfl, rfl, rfl, rfl, rfl, rfl, rfl, trivial⟩ ?_
        refine nx ?_
        refine wpC_seq ?_
        obtain ⟨x59, hx59, b48⟩ := bind_some b48
        refine wpC_drawn (o := o39) [(3, (.pointer (some ⟨b11, 0, none⟩))), (4, (.pointer (some ⟨b16, 0, none⟩))), (5, (.pointer (some ⟨b21, 0, none⟩))), (8, v57), (21, v1), (22, (.int .i64 (p0.Nodes.length : Int))), (23, (.int .i64 i41))] [3, 4, 5, 8, 21, 22, 23] [27, 28, 29, 30] [[], [], [], [1, 2]] [none, none, none, none] [999, 999, 999, 999] [0, 0, 0, 15] [999] [fun v _ _ => v = (.agg #[(.int .i64 p1.Labels), (.int .i64 p1.Degree), v5, v7]), fun v _ _ => v = v57, fun v _ _ => v = u2, fun v o w9 => Ow w.heap.size 3 15 o w9 v x59] (fun o8 w8 => Bs (fun _ => 1) o8 w w8 ∧ Bx w.heap.size 11 o8 w8 b11 29 [(.int .i64 p0.Labels), (.int .i64 p0.Degree), v1, v3] ∧ Bx w.heap.size 12 o8 w8 b16 29 [(.int .i64 p1.Labels), (.int .i64 p1.Degree), v5, v7] ∧ Bx w.heap.size 13 o8 w8 b21 25 [u2]) follows_mixed (by kernel_rfl) rfl ⟨rfl, rfl, rfl, rfl, rfl, rfl, rfl, trivial⟩ ⟨hB, h12, h17, h22⟩ ?_ ⟨st_eq _, st_eq _, st_eq _, fun _ _ _ _ _ _ h0 hb h hs => h.stp hs h0.1 (Ne.symm hb), trivial⟩ ?_ ?_
        · rintro t9 o1 w1 o2 w2 ht9 ⟨hB, h12, h17, h22⟩ hs9
          have ht9 : t9 = 999 := by simpa using ht9
          subst ht9
          all_goals exact ⟨hB.stp hs9 (by decide), h12.stp hs9 (by decide), h17.stp hs9 (by decide), h22.stp hs9 (by decide)⟩
        · refine ⟨?_, ?_, ?_, ?_, trivial⟩
          · rintro o68 w69 a70 ha ⟨hB, h12, h17, h22⟩ -
            refine opS_of ha (trivial) ?_
            refine op1_val (ex_loadA rfl Try.isAgg29 Try.sizeOf29 rfl h17.cells) ?_
            exact ⟨_, Stp.refl _ _ _, rfl⟩
          · rintro o71 w72 a73 ha ⟨hB, h12, h17, h22⟩ -
            refine opS_of ha (trivial) ?_
            refine op1_val (ex_move rfl) ?_
            exact ⟨_, Stp.refl _ _ _, rfl⟩
          · rintro o74 w75 a76 ha ⟨hB, h12, h17, h22⟩ -
            refine opS_of ha (trivial) ?_
            refine op1_val (ex_load1 rfl Try.isAgg25 (h22.cell rfl)) ?_
            exact ⟨_, Stp.refl _ _ _, rfl⟩
          · rintro o77 w78 a79 ha ⟨hB, h12, h17, h22⟩ ⟨r80, r81, -⟩
            have ha := Fr.cons (d := 28) ha r80
            have ha := Fr.cons (d := 29) ha r81
            refine opS_of ha (trivial) ?_
            refine wf_call (cI_images w78 o77 15 (by decide) _ x51 (h58.keep hB.keeps) _ p2 (g2.keep hB.keeps) x59 hx59) Try.call121 ⟨rfl, rfl, trivial⟩ ?_
            rintro e88 w82 ⟨v83, o89, rfl, h84, k85, k86⟩
            have s87 := k85.stp' 999 k86
            replace h84 := h84.mono hB.keeps.size
            refine ⟨_, rfl, ?_⟩
            replace h12 := h12.stp s87 (by decide)
            replace h17 := h17.stp s87 (by decide)
            replace h22 := h22.stp s87 (by decide)
            replace hB := hB.stp s87 (by decide)
            exact ⟨_, s87, h84⟩
        rintro o90 w91 a92 ha ⟨hB, h12, h17, h22⟩ ⟨r93, -, -, r94, -⟩
        have ha := Fr.cons (d := 27) ha r93
        replace r94 : Ow w.heap.size 3 15 o90 w91 (a92.tmps.getD 30 undef) x59 := r94
        generalize e96 : a92.tmps.getD 30 undef = v95 at r94
        have ha := Fr.cons (d := 30) ha e96
        refine wl_of ha ?_
        simp only [List.length_cons, List.length_nil, Nat.zero_add, Nat.reduceAdd, List.drop_succ_cons, List.drop_zero]
        obtain ⟨x97, hx97, b48⟩ := bind_some b48
        refine st_op (by decide) trivial ?_
        refine wf_call (cI_Problem_node fuel w91 _ p1 (⟨_, _, rfl, (h6.keep hB.keeps), (h8.keep hB.keeps)⟩) _ x59 r94.z x97 hx97) Try.call117 ⟨rfl, rfl, trivial⟩ ?_
        rintro e102 w98 ⟨rfl, k99⟩
        have s101 := k99.stp 999 o90
        refine ⟨_, rfl, ?_⟩
        replace r94 := r94.stp s101 (by decide) (by decide)
        replace h12 := h12.stp s101 (by decide)
        replace h17 := h17.stp s101 (by decide)
        replace h22 := h22.stp s101 (by decide)
        replace hB := hB.stp s101 (by decide)
        refine st_val (ex_not rfl) (by decide) trivial ?_
        refine wpF_end (r := [(3, (.pointer (some ⟨b11, 0, none⟩))), (4, (.pointer (some ⟨b16, 0, none⟩))), (5, (.pointer (some ⟨b21, 0, none⟩))), (21, v1), (22, (.int .i64 (p0.Nodes.length : Int))), (23, (.int .i64 i41)), (32, (.bool (!x97)))]) ⟨rfl, rfl, rfl, rfl, rfl, rfl, rfl, trivial⟩ ?_
        refine nx ?_
        refine wpC_cond rfl (fun t103 => ?_) (fun t103 => ?_)
        · rw [if_pos t103] at b48
          refine wpC_seq ?_
          refine wpC_region ?_
          refine st_val (ex_assign rfl) (by decide) trivial ?_
          refine wpF_end (r := [(6, (.bool false))]) ⟨rfl, trivial⟩ ?_
          refine nx ?_
          refine wpC_ret ?_
          refine nb_ret ?_
          refine nt_ret ?_
          refine nt_ret ?_
          refine nb_ret ?_
          refine np_ret ?_
          have e104 := Option.some.inj b48
          subst e104
          refine fun a ha => ⟨_, n49, ?_⟩
          refine ret_post (P := Try.prog) (vs := [(.bool false)]) Try.results68 ⟨rfl, trivial⟩ ?_ a ha
          exact ⟨rfl, hB.keeps⟩
        · rw [if_neg (by rw [t103]; decide)] at b48
          refine wpC_skip ?_
          refine nb_norm ?_
          refine nx ?_
          refine wpC_region ?_
          refine st_val (ex_add rfl rfl (ck_in (by omega) (by omega))) (by decide) trivial ?_
          refine st_val (ex_move rfl) (by decide) trivial ?_
          refine wpF_end (r := [(3, (.pointer (some ⟨b11, 0, none⟩))), (4, (.pointer (some ⟨b16, 0, none⟩))), (5, (.pointer (some ⟨b21, 0, none⟩))), (21, v1), (22, (.int .i64 (p0.Nodes.length : Int))), (23, (.int .i64 (i41 + 1)))]) ⟨rfl, rfl, rfl, rfl, rfl, rfl, trivial⟩ ?_
          refine nt_norm ?_
          have e105 := Option.some.inj b48
          subst e105
          refine to_k (r := [(3, (.pointer (some ⟨b11, 0, none⟩))), (4, (.pointer (some ⟨b16, 0, none⟩))), (5, (.pointer (some ⟨b21, 0, none⟩))), (21, v1), (22, (.int .i64 (p0.Nodes.length : Int))), (23, (.int .i64 (i41 + 1)))]) ⟨rfl, rfl, rfl, rfl, rfl, rfl, trivial⟩ ?_
          intro a ha
          exact ⟨_, (by rw [← m45]; simp only [List.length_drop]; omega), i41 + 1, o90, n49, rfl, (by omega), ha, hB, h12, h17, h22⟩
      · have r106 := forI_done t50 l43
        refine wp_of ha ?_
        refine wpC_seq ?_
        refine wpC_region ?_
        refine st_val (ex_lss rfl rfl) (by decide) trivial ?_
        refine wpF_end (r := [(3, (.pointer (some ⟨b11, 0, none⟩))), (4, (.pointer (some ⟨b16, 0, none⟩))), (5, (.pointer (some ⟨b21, 0, none⟩))), (21, v1), (22, (.int .i64 (p0.Nodes.length : Int))), (23, (.int .i64 i41)), (24, (.bool (decide (i41 < (p0.Nodes.length : Int)))))]) ⟨rfl, rfl, rfl, rfl, rfl, rfl, rfl, trivial⟩ ?_
        refine nx ?_
        refine wpC_seq ?_
        refine wpC_false (congrArg (fun b => some (Value.bool b)) (decide_eq_false t50)) ?_
        refine wpC_exit ?_
        refine nt_exit ?_
        refine nt_exit ?_
        refine nb_hit ?_
        refine np_norm ?_
        refine to_k (r := [(3, (.pointer (some ⟨b11, 0, none⟩))), (4, (.pointer (some ⟨b16, 0, none⟩))), (5, (.pointer (some ⟨b21, 0, none⟩)))]) ⟨rfl, rfl, rfl, trivial⟩ ?_
        intro a ha
        exact ⟨o39, r106, ha, hB, h12, h17, h22⟩
    · rintro a w40 ⟨o39, rfl, ha, hB, h12, h17, h22⟩
      dsimp only at hF
      refine ap_k ha ?_
      refine nx ?_
      refine wpC_seq ?_
      refine wpC_region ?_
      refine st_val (ex_field rfl Try.underlying29 rfl Try.sizeOf22) (by decide) trivial ?_
      refine st_val (ex_load1 rfl Try.isAgg22 (h12.cell rfl)) (by decide) trivial ?_
      refine st_val (ex_func (vs := [(.pointer (some ⟨b16, 0, none⟩)), (.pointer (some ⟨b21, 0, none⟩))]) ⟨rfl, rfl, trivial⟩) (by decide) trivial ?_
      obtain ⟨x110, hx110, hF⟩ := bind_some hF
      refine st_op (by decide) trivial ?_
      refine wf_call (cX_slices_ContainsFunc_LLint_int w40 _ p0.Edges (h4.keep hB.keeps) _ (fun z107 => fI_isLabelMap_1 fuel z107 p1 p2) (show FnV Try.prog w40 (.func (.func 123) #[] #[(.pointer (some ⟨b16, 0, none⟩)), (.pointer (some ⟨b21, 0, none⟩))]) (fun z107 => fI_isLabelMap_1 fuel z107 p1 p2) from ⟨_, _, rfl, Try.call123, fun ww vs xx rr kk hok hG => by (obtain ⟨v108, rfl, h109⟩ := hok; exact cI_isLabelMap_1 fuel ww _ xx h109 b16 _ p1 ((h17.cells).keep kk) (Rp.keep ((show Rp.rd zt w40 [(.int .i64 p1.Labels), (.int .i64 p1.Degree), v5, v7] (p1 : T_Problem) from ⟨_, _, rfl, (h6.keep hB.keeps), (h8.keep hB.keeps)⟩)) kk) b21 _ p2 ((h22.cells).keep kk) (Rp.keep ((show Rp.rd zt w40 [u2] (p2 : List Int) from rd_list (g2.keep hB.keeps))) kk) rr hG)⟩) x110 hx110) Try.call122 ⟨rfl, rfl, trivial⟩ ?_
      rintro e115 w111 ⟨rfl, k112⟩
      have s114 := k112.stp 999 o39
      refine ⟨_, rfl, ?_⟩
      replace h12 := h12.stp s114 (by decide)
      replace h17 := h17.stp s114 (by decide)
      replace h22 := h22.stp s114 (by decide)
      replace hB := hB.stp s114 (by decide)
      refine st_val (ex_not rfl) (by decide) trivial ?_
      refine st_val (ex_assign rfl) (by decide) trivial ?_
      refine wpF_end (r := [(6, (.bool (!x110)))]) ⟨rfl, trivial⟩ ?_
      refine nx ?_
      refine wpC_ret ?_
      have e116 := Option.some.inj hF
      subst e116
      refine ret_post (P := Try.prog) (vs := [(.bool (!x110))]) Try.results68 ⟨rfl, trivial⟩ ?_
      exact ⟨rfl, hB.keeps⟩
    · rintro a w40 ⟨r', rfl, b117⟩
      dsimp only at hF
      have e118 := Option.some.inj hF
      subst e118
      exact b117

def fI_IsLabelMap (fuel : Nat) (p0 : T_Problem) (p1 : T_Problem) (p2 : List Int) : Option (Bool × Bool) :=
  (fI_areProblems fuel p0 p1) >>= fun x19 =>
  if !x19 then
    some (false, false)
  else
    (fI_isLabelMap fuel p0 p1 p2) >>= fun x27 =>
    some (x27, true)

def pI_IsLabelMap (w : World) (r : Bool × Bool) : Ending → World → Prop := fun e w' => e = .returned (.tuple #[.bool r.1, .bool r.2]) ∧ Keeps w w'
set_option maxRecDepth 100000 in
set_option maxHeartbeats 2000000 in
theorem cI_IsLabelMap (fuel : Nat) (w : World) (u0 : List Value) (p0 : T_Problem) (g0 : Rp.rd zt w u0 p0) (u1 : List Value) (p1 : T_Problem) (g1 : Rp.rd zt w u1 p1) (u2 : Value) (p2 : List Int) (g2 : RdL zt w u2 p2) (r : Bool × Bool) (hF : fI_IsLabelMap fuel p0 p1 p2 = some r) :
    Calls Try.prog 19 #[.agg u0.toArray, .agg u1.toArray, u2] w (pI_IsLabelMap w r) := by
  unfold fI_IsLabelMap at hF
  obtain ⟨v1, v3, rfl, h2, h4⟩ := g0
  obtain ⟨v5, v7, rfl, h6, h8⟩ := g1
  have hB : Bs (fun _ => 1) (col (fun _ => 1)) w w := Bs.start _ _
  refine calls_start (n := 16) (vs := [(.agg #[(.int .i64 p0.Labels), (.int .i64 p0.Degree), v1, v3]), (.agg #[(.int .i64 p1.Labels), (.int .i64 p1.Degree), v5, v7]), u2]) Try.func19 rfl rfl ?_
  refine wpC_seq ?_
  refine wpC_region ?_
  refine st_op (by decide) trivial ?_
  refine wf_box (o := (col (fun _ => 1))) w.heap.size 11 hB.keeps.size (cs := [(.int .i64 p0.Labels), (.int .i64 p0.Degree), v1, v3]) rfl rfl ?_
  intro o9 w10 b11 h12 s13
  replace hB := hB.stp s13 (by decide)
  refine st_op (by decide) trivial ?_
  refine wf_box (o := o9) w.heap.size 12 hB.keeps.size (cs := [(.int .i64 p1.Labels), (.int .i64 p1.Degree), v5, v7]) rfl rfl ?_
  intro o14 w15 b16 h17 s18
  replace h12 := h12.stp s18 (by decide)
  replace hB := hB.stp s18 (by decide)
  refine st_val (ex_assign rfl) (by decide) trivial ?_
  refine st_val (ex_assign rfl) (by decide) trivial ?_
  refine wpF_end (r := [(2, u2), (3, (.pointer (some ⟨b11, 0, none⟩))), (4, (.pointer (some ⟨b16, 0, none⟩)))]) ⟨rfl, rfl, rfl, trivial⟩ ?_
  refine nx ?_
  refine wpC_seq ?_
  refine wpC_seq ?_
  refine wpC_region ?_
  refine st_val (ex_loadA rfl Try.isAgg29 Try.sizeOf29 rfl h12.cells) (by decide) trivial ?_
  refine st_val (ex_loadA rfl Try.isAgg29 Try.sizeOf29 rfl h17.cells) (by decide) trivial ?_
  obtain ⟨x19, hx19, hF⟩ := bind_some hF
  refine st_op (by decide) trivial ?_
  refine wf_call (cI_areProblems fuel w15 _ p0 (⟨_, _, rfl, (h2.keep hB.keeps), (h4.keep hB.keeps)⟩) _ p1 (⟨_, _, rfl, (h6.keep hB.keeps), (h8.keep hB.keeps)⟩) x19 hx19) Try.call67 ⟨rfl, rfl, trivial⟩ ?_
  rintro e24 w20 ⟨rfl, k21⟩
  have s23 := k21.stp 999 o14
  refine ⟨_, rfl, ?_⟩
  replace h12 := h12.stp s23 (by decide)
  replace h17 := h17.stp s23 (by decide)
  replace hB := hB.stp s23 (by decide)
  refine st_val (ex_not rfl) (by decide) trivial ?_
  refine wpF_end (r := [(2, u2), (3, (.pointer (some ⟨b11, 0, none⟩))), (4, (.pointer (some ⟨b16, 0, none⟩))), (11, (.bool (!x19)))]) ⟨rfl, rfl, rfl, rfl, trivial⟩ ?_
  refine nx ?_
  refine wpC_cond rfl (fun t25 => ?_) (fun t25 => ?_)
  · rw [if_pos t25] at hF
    refine wpC_seq ?_
    refine wpC_region ?_
    refine st_val (ex_assign rfl) (by decide) trivial ?_
    refine st_val (ex_assign rfl) (by decide) trivial ?_
    refine wpF_end (r := [(6, (.bool false)), (7, (.bool false))]) ⟨rfl, rfl, trivial⟩ ?_
    refine nx ?_
    refine wpC_ret ?_
    refine nt_ret ?_
    have e26 := Option.some.inj hF
    subst e26
    refine ret_post (P := Try.prog) (vs := [(.bool false), (.bool false)]) Try.results19 ⟨rfl, rfl, trivial⟩ ?_
    exact ⟨rfl, hB.keeps⟩
  · rw [if_neg (by rw [t25]; decide)] at hF
    refine wpC_skip ?_
    refine nx ?_
    refine wpC_seq ?_
    refine wpC_region ?_
    refine st_val (ex_loadA rfl Try.isAgg29 Try.sizeOf29 rfl h12.cells) (by decide) trivial ?_
    refine st_val (ex_loadA rfl Try.isAgg29 Try.sizeOf29 rfl h17.cells) (by decide) trivial ?_
    refine st_val (ex_move rfl) (by decide) trivial ?_
    obtain ⟨x27, hx27, hF⟩ := bind_some hF
    refine st_op (by decide) trivial ?_
    refine wf_call (cI_isLabelMap fuel w20 _ p0 (⟨_, _, rfl, (h2.keep hB.keeps), (h4.keep hB.keeps)⟩) _ p1 (⟨_, _, rfl, (h6.keep hB.keeps), (h8.keep hB.keeps)⟩) _ p2 (g2.keep hB.keeps) x27 hx27) Try.call68 ⟨rfl, rfl, rfl, trivial⟩ ?_
    rintro e32 w28 ⟨rfl, k29⟩
    have s31 := k29.stp 999 o14
    refine ⟨_, rfl, ?_⟩
    replace h12 := h12.stp s31 (by decide)
    replace h17 := h17.stp s31 (by decide)
    replace hB := hB.stp s31 (by decide)
    refine st_val (ex_assign rfl) (by decide) trivial ?_
    refine st_val (ex_assign rfl) (by decide) trivial ?_
    refine wpF_end (r := [(6, (.bool x27)), (7, (.bool true))]) ⟨rfl, rfl, trivial⟩ ?_
    refine nx ?_
    refine wpC_ret ?_
    have e33 := Option.some.inj hF
    subst e33
    refine ret_post (P := Try.prog) (vs := [(.bool x27), (.bool true)]) Try.results19 ⟨rfl, rfl, trivial⟩ ?_
    exact ⟨rfl, hB.keeps⟩

end Go.Proofs.Ytiejigogmnkjdaa
