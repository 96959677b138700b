/- spec.neIds, spec.neGood, spec.neNode, impl.idsOk, impl.inputsOk, (impl.Network).hasNode, (impl.Network).hasPort, impl.IsNetwork, impl.nodesOk: plain functions, and the walks that show that the program computes them (printed by gen.py). -/
import Derived.Test.YtijaojnaamkinaaGN
import Derived.Test.YtijaojnaamkinaaKn
import Derived.Test.YtijaojnaamkinaaKh
namespace Go.Proofs.Ytijaojnaamkinaa
open Go.RowKit
set_option linter.unusedSimpArgs false
set_option linter.unusedVariables false

theorem info1_t_impl_End_Na : (Try.prog.info? 115).map (·.size) = some 2 := by kernel_rfl

def fS_neIds_s1 (p0 : List Int) : Int → Int → Unit → Option (Lp Unit Unit Bool) := fun (i3 : Int) (x13 : Int) (s : Unit) =>
  (fS_l1In x13 1 999999) >>= fun x19 =>
  (
    if !x19 then
      some true
    else
      (cut p0 0 i3) >>= fun x29 =>
      (fS_l1Has x29 x13) >>= fun x32 =>
      some x32) >>= fun q25 =>
  if q25 then
    some (.ret false)
  else
    some (.go ())
def fS_neIds (p0 : List Int) (p1 : Int) : Option Bool :=
  (forI (fS_neIds_s1 p0) p0 0 ()) >>= fun q4 =>
  match q4 with
  | .inl _ =>
    (
      if (p0.length : Int) == 0 then
        some true
      else
        some ((p0.length : Int) == p1)) >>= fun q45 =>
    some q45
  | .inr r' => some r'

def pS_neIds (w : World) (r : Bool) : Ending → World → Prop := fun e w' => e = .returned (.bool r) ∧ Keeps w w'
set_option maxRecDepth 100000 in
set_option maxHeartbeats 2000000 in
theorem cS_neIds (w : World) (u0 : Value) (p0 : List Int) (g0 : RdL zt w u0 p0) (p1 : Int) (r : Bool) (hF : fS_neIds p0 p1 = some r) :
    Calls Try.prog 110 #[u0, .int .i64 p1] w (pS_neIds w r) := by
  unfold fS_neIds at hF
  have hB : Bs (fun _ => 1) (col (fun _ => 1)) w w := Bs.start _ _
  refine calls_start (n := 34) (vs := [u0, (.int .i64 p1)]) Try.func110 rfl rfl ?_
  refine wpC_seq ?_
  refine wpC_region ?_
  refine st_val (ex_assign rfl) (by decide) trivial ?_
  refine wpF_end (r := [(0, u0), (1, (.int .i64 p1))]) ⟨rfl, rfl, trivial⟩ ?_
  refine nx ?_
  refine wpC_seq ?_
  refine wpC_seq ?_
  refine wpC_region ?_
  refine st_val (ex_move rfl) (by decide) trivial ?_
  refine st_val (ex_lenR rfl g0 Try.underlying23) (by decide) trivial ?_
  refine st_val (ex_move rfl) (by decide) trivial ?_
  refine wpF_end (r := [(0, u0), (1, (.int .i64 p1)), (7, u0), (8, (.int .i64 (p0.length : Int))), (9, (.int .i64 0))]) ⟨rfl, rfl, rfl, rfl, rfl, trivial⟩ ?_
  refine nx ?_
  obtain ⟨q4, hq4, hF⟩ := bind_some hF
  refine wpC_cutN (fun a w2 => ∃ (o1 : Tg), q4 = .inl () ∧ Fr a 34 [(0, u0), (1, (.int .i64 p1))] ∧ Bs (fun _ => 1) o1 w w2) (fun a w' => ∃ r', q4 = .inr r' ∧ bodyPost Try.prog Try.f110 (pS_neIds w r') .ret a w') ?_ ?_ ?_
  · refine wpC_block ?_
    refine wpC_loop (fun (K : Nat) a w2 => ∃ (i3 : Int) (o1 : Tg), forI (fS_neIds_s1 p0) (p0.drop i3.toNat) i3 () = some q4 ∧ (p0.drop i3.toNat).length = K ∧ 0 ≤ i3 ∧ Fr a 34 [(0, u0), (1, (.int .i64 p1)), (7, u0), (8, (.int .i64 (p0.length : Int))), (9, (.int .i64 i3))] ∧ Bs (fun _ => 1) o1 w w2) _ (fun a ha => ⟨0, (col (fun _ => 1)), hq4, rfl, Int.le_refl 0, ha.sub (r := [(0, u0), (1, (.int .i64 p1)), (7, u0), (8, (.int .i64 (p0.length : Int))), (9, (.int .i64 0))]) ⟨rfl, rfl, rfl, rfl, rfl, trivial⟩, hB⟩) ?_
    rintro K8 a w2 ⟨i3, o1, l5, m7, z6, ha, hB⟩
    by_cases t12 : i3 < (p0.length : Int)
    · obtain ⟨x13, q9, hx13, b10, n11⟩ := forI_cons z6 t12 l5
      have hle := g0.len_le
      dsimp only [fS_neIds_s1] at b10
      refine wp_of ha ?_
      refine wpC_seq ?_
      refine wpC_region ?_
      refine st_val (ex_lss rfl rfl) (by decide) trivial ?_
      refine wpF_end (r := [(0, u0), (1, (.int .i64 p1)), (7, u0), (8, (.int .i64 (p0.length : Int))), (9, (.int .i64 i3)), (10, (.bool (decide (i3 < (p0.length : Int)))))]) ⟨rfl, rfl, rfl, rfl, rfl, rfl, trivial⟩ ?_
      refine nx ?_
      refine wpC_seq ?_
      refine wpC_true (congrArg (fun b => some (Value.bool b)) (decide_eq_true t12)) ?_
      refine wpC_skip ?_
      refine nx ?_
      refine wpC_seq ?_
      refine wpC_block ?_
      refine wpC_seq ?_
      refine wpC_region ?_
      refine st_val (ex_move rfl) (by decide) trivial ?_
      refine st_op (by decide) trivial ?_
      refine wf_atZ g0 hx13 hB rfl rfl Try.underlying23 Try.sizeOf3 ?_
      intro b14 f15 c16 h17 h18
      cases h18
      refine st_val (ex_load1 rfl Try.isAgg3 (cell_of_cells h17)) (by decide) trivial ?_
      refine st_val (ex_assign rfl) (by decide) trivial ?_
      refine st_val (ex_assign rfl) (by decide) trivial ?_
      refine wpF_end (r := [(0, u0), (1, (.int .i64 p1)), (5, (.int .i64 i3)), (6, (.int .i64 x13)), (7, u0), (8, (.int .i64 (p0.length : Int))), (9, (.int .i64 i3))]) ⟨rfl, rfl, rfl, rfl, rfl, rfl, rfl, trivial⟩ ?_
      refine nx ?_
      refine wpC_seq ?_
      refine wpC_region ?_
      refine st_val (ex_move rfl) (by decide) trivial ?_
      obtain ⟨x19, hx19, b10⟩ := bind_some b10
      refine st_op (by decide) trivial ?_
      refine wf_call (cS_l1In w2 x13 1 999999 x19 hx19) Try.call90 ⟨rfl, rfl, rfl, trivial⟩ ?_
      rintro e24 w20 ⟨rfl, k21⟩
      have s23 := k21.stp 999 o1
      refine ⟨_, rfl, ?_⟩
      replace hB := hB.stp s23 (by decide)
      refine st_val (ex_not rfl) (by decide) trivial ?_
      refine st_val (ex_move rfl) (by decide) trivial ?_
      obtain ⟨q25, hq25, b10⟩ := bind_some b10
      refine wpF_cutAt 6 (fun a27 w26 => Fr a27 34 [(0, u0), (1, (.int .i64 p1)), (7, u0), (8, (.int .i64 (p0.length : Int))), (9, (.int .i64 i3)), (23, (.bool q25))] ∧ Keeps w20 w26) ?_ ?_
      all_goals simp only [List.take_succ_cons, List.take_zero, List.drop_succ_cons, List.drop_zero]
      · have kp : Keeps w20 w20 := Keeps.refl _
        rcases Bool.eq_false_or_eq_true (!x19) with t28 | t28
        · rw [if_pos t28] at hq25
          refine st_no rfl rfl (by rw [t28]; rfl) (by decide) ?_
          refine st_no rfl rfl (by rw [t28]; rfl) (by decide) ?_
          refine st_no rfl rfl (by rw [t28]; rfl) (by decide) ?_
          refine st_no rfl rfl (by rw [t28]; rfl) (by decide) ?_
          refine st_no rfl rfl (by rw [t28]; rfl) (by decide) ?_
          refine st_val (ex_pick_t (congrArg (fun b => some (Value.bool b)) t28) rfl) (by decide) trivial ?_
          have hq252 := Option.some.inj hq25
          refine wpF_end (r := [(0, u0), (1, (.int .i64 p1)), (7, u0), (8, (.int .i64 (p0.length : Int))), (9, (.int .i64 i3)), (23, (.bool true))]) ⟨rfl, rfl, rfl, rfl, rfl, rfl, trivial⟩ ?_
          subst hq252
          refine np_norm (fun a ha => ⟨ha, kp⟩)
        · rw [if_neg (by rw [t28]; decide)] at hq25
          refine st_val (ex_move rfl) (by decide) ⟨_, rfl, (congrArg (fun b => some (Value.bool b)) t28)⟩ ?_
          refine st_val (ex_move rfl) (by decide) ⟨_, rfl, (congrArg (fun b => some (Value.bool b)) t28)⟩ ?_
          obtain ⟨x29, hx29, hq25⟩ := bind_some hq25
          refine st_op (by decide) ⟨_, rfl, (congrArg (fun b => some (Value.bool b)) t28)⟩ ?_
          refine wf_cutZ g0 hx29 rfl rfl rfl Try.underlying23 Try.sizeOf3 ?_
          intro v30 h31
          refine st_val (ex_move rfl) (by decide) ⟨_, rfl, (congrArg (fun b => some (Value.bool b)) t28)⟩ ?_
          obtain ⟨x32, hx32, hq25⟩ := bind_some hq25
          refine st_op (by decide) ⟨_, rfl, (congrArg (fun b => some (Value.bool b)) t28)⟩ ?_
          refine wf_call (cS_l1Has w20 _ x29 (h31.keep hB.keeps) x13 x32 hx32) Try.call94 ⟨rfl, rfl, trivial⟩ ?_
          rintro e37 w33 ⟨rfl, k34⟩
          have s36 := k34.stp 999 o1
          refine ⟨_, rfl, ?_⟩
          replace hB := hB.stp s36 (by decide)
          replace kp := Keeps.trans kp k34
          refine st_val (ex_pick_f (congrArg (fun b => some (Value.bool b)) t28) rfl) (by decide) trivial ?_
          have hq252 := Option.some.inj hq25
          refine wpF_end (r := [(0, u0), (1, (.int .i64 p1)), (7, u0), (8, (.int .i64 (p0.length : Int))), (9, (.int .i64 i3)), (23, (.bool x32))]) ⟨rfl, rfl, rfl, rfl, rfl, rfl, trivial⟩ ?_
          subst hq252
          refine np_norm (fun a ha => ⟨ha, kp⟩)
      rintro a40 w26 ⟨ha, k38⟩
      have s39 := k38.stp 999 o1
      replace hB := hB.stp s39 (by decide)
      refine wl_of ha ?_
      refine wpF_end (r := [(0, u0), (1, (.int .i64 p1)), (7, u0), (8, (.int .i64 (p0.length : Int))), (9, (.int .i64 i3)), (23, (.bool q25))]) ⟨rfl, rfl, rfl, rfl, rfl, rfl, trivial⟩ ?_
      refine nx ?_
      refine wpC_cond rfl (fun t41 => ?_) (fun t41 => ?_)
      · rw [if_pos t41] at b10
        refine wpC_seq ?_
        refine wpC_region ?_
        refine st_val (ex_assign rfl) (by decide) trivial ?_
        refine wpF_end (r := [(4, (.bool false))]) ⟨rfl, trivial⟩ ?_
        refine nx ?_
        refine wpC_ret ?_
        refine nb_ret ?_
        refine nt_ret ?_
        refine nt_ret ?_
        refine nb_ret ?_
        refine np_ret ?_
        have e42 := Option.some.inj b10
        subst e42
        refine fun a ha => ⟨_, n11, ?_⟩
        refine ret_post (P := Try.prog) (vs := [(.bool false)]) Try.results110 ⟨rfl, trivial⟩ ?_ a ha
        exact ⟨rfl, hB.keeps⟩
      · rw [if_neg (by rw [t41]; decide)] at b10
        refine wpC_skip ?_
        refine nb_norm ?_
        refine nx ?_
        refine wpC_region ?_
        refine st_val (ex_add rfl rfl (ck_in (by omega) (by omega))) (by decide) trivial ?_
        refine st_val (ex_move rfl) (by decide) trivial ?_
        refine wpF_end (r := [(0, u0), (1, (.int .i64 p1)), (7, u0), (8, (.int .i64 (p0.length : Int))), (9, (.int .i64 (i3 + 1)))]) ⟨rfl, rfl, rfl, rfl, rfl, trivial⟩ ?_
        refine nt_norm ?_
        have e43 := Option.some.inj b10
        subst e43
        refine to_k (r := [(0, u0), (1, (.int .i64 p1)), (7, u0), (8, (.int .i64 (p0.length : Int))), (9, (.int .i64 (i3 + 1)))]) ⟨rfl, rfl, rfl, rfl, rfl, trivial⟩ ?_
        intro a ha
        exact ⟨_, (by rw [← m7]; simp only [List.length_drop]; omega), i3 + 1, o1, n11, rfl, (by omega), ha, hB⟩
    · have r44 := forI_done t12 l5
      refine wp_of ha ?_
      refine wpC_seq ?_
      refine wpC_region ?_
      refine st_val (ex_lss rfl rfl) (by decide) trivial ?_
      refine wpF_end (r := [(0, u0), (1, (.int .i64 p1)), (7, u0), (8, (.int .i64 (p0.length : Int))), (9, (.int .i64 i3)), (10, (.bool (decide (i3 < (p0.length : Int)))))]) ⟨rfl, rfl, rfl, rfl, rfl, rfl, trivial⟩ ?_
      refine nx ?_
      refine wpC_seq ?_
      refine wpC_false (congrArg (fun b => some (Value.bool b)) (decide_eq_false t12)) ?_
      refine wpC_exit ?_
      refine nt_exit ?_
      refine nt_exit ?_
      refine nb_hit ?_
      refine np_norm ?_
      refine to_k (r := [(0, u0), (1, (.int .i64 p1))]) ⟨rfl, rfl, trivial⟩ ?_
      intro a ha
      exact ⟨o1, r44, ha, hB⟩
  · rintro a w2 ⟨o1, rfl, ha, hB⟩
    dsimp only at hF
    refine ap_k ha ?_
    refine nx ?_
    refine wpC_seq ?_
    refine wpC_region ?_
    refine st_val (ex_move rfl) (by decide) trivial ?_
    refine st_val (ex_lenR rfl g0 Try.underlying23) (by decide) trivial ?_
    refine st_val (ex_eql rfl rfl) (by decide) trivial ?_
    refine st_val (ex_move rfl) (by decide) trivial ?_
    obtain ⟨q45, hq45, hF⟩ := bind_some hF
    refine wpF_cutAt 5 (fun a47 w46 => Fr a47 34 [(33, (.bool q45))] ∧ Keeps w2 w46) ?_ ?_
    all_goals simp only [List.take_succ_cons, List.take_zero, List.drop_succ_cons, List.drop_zero]
    · have kp : Keeps w2 w2 := Keeps.refl _
      rcases Bool.eq_false_or_eq_true ((p0.length : Int) == 0) with t48 | t48
      · rw [if_pos t48] at hq45
        refine st_no rfl rfl (by rw [t48]; rfl) (by decide) ?_
        refine st_no rfl rfl (by rw [t48]; rfl) (by decide) ?_
        refine st_no rfl rfl (by rw [t48]; rfl) (by decide) ?_
        refine st_no rfl rfl (by rw [t48]; rfl) (by decide) ?_
        refine st_val (ex_pick_t (congrArg (fun b => some (Value.bool b)) t48) rfl) (by decide) trivial ?_
        have hq452 := Option.some.inj hq45
        refine wpF_end (r := [(33, (.bool true))]) ⟨rfl, trivial⟩ ?_
        subst hq452
        refine np_norm (fun a ha => ⟨ha, kp⟩)
      · rw [if_neg (by rw [t48]; decide)] at hq45
        refine st_val (ex_move rfl) (by decide) ⟨_, rfl, (congrArg (fun b => some (Value.bool b)) t48)⟩ ?_
        refine st_val (ex_lenR rfl g0 Try.underlying23) (by decide) ⟨_, rfl, (congrArg (fun b => some (Value.bool b)) t48)⟩ ?_
        refine st_val (ex_move rfl) (by decide) ⟨_, rfl, (congrArg (fun b => some (Value.bool b)) t48)⟩ ?_
        refine st_val (ex_eql rfl rfl) (by decide) ⟨_, rfl, (congrArg (fun b => some (Value.bool b)) t48)⟩ ?_
        refine st_val (ex_pick_f (congrArg (fun b => some (Value.bool b)) t48) rfl) (by decide) trivial ?_
        have hq452 := Option.some.inj hq45
        refine wpF_end (r := [(33, (.bool ((p0.length : Int) == p1)))]) ⟨rfl, trivial⟩ ?_
        subst hq452
        refine np_norm (fun a ha => ⟨ha, kp⟩)
    rintro a51 w46 ⟨ha, k49⟩
    have s50 := k49.stp 999 o1
    replace hB := hB.stp s50 (by decide)
    refine wl_of ha ?_
    refine st_val (ex_assign rfl) (by decide) trivial ?_
    refine wpF_end (r := [(4, (.bool q45))]) ⟨rfl, trivial⟩ ?_
    refine nx ?_
    refine wpC_ret ?_
    have e52 := Option.some.inj hF
    subst e52
    refine ret_post (P := Try.prog) (vs := [(.bool q45)]) Try.results110 ⟨rfl, trivial⟩ ?_
    exact ⟨rfl, hB.keeps⟩
  · rintro a w2 ⟨r', rfl, b53⟩
    dsimp only at hF
    have e54 := Option.some.inj hF
    subst e54
    exact b53

def fS_neGood_s2 (p0 : T_Network) (i43 : Int) : Int → T_End → Unit → Option (Lp Unit Unit Bool) := fun (i65 : Int) (x75 : T_End) (s : Unit) =>
  (
    (ck ((p0.Ends.length : Int) - 1)) >>= fun x93 =>
    (fS_l1In x75.Node 0 x93) >>= fun x94 =>
    if !x94 then
      some true
    else
      (ix p0.Ends x75.Node) >>= fun x257 =>
      (ck ((x257.length : Int) - 1)) >>= fun x263 =>
      (fS_l1In x75.Port 0 x263) >>= fun x264 =>
      if !x264 then
        some true
      else
        (ix p0.Ends x75.Node) >>= fun x453 =>
        (ix x453 x75.Port) >>= fun x459 =>
        some (!(x459.Node == i43 && x459.Port == i65))) >>= fun q89 =>
  if q89 then
    some (.ret false)
  else
    some (.go ())
def fS_neGood_s1 (p0 : T_Network) : Int → (List T_End) → Unit → Option (Lp Unit Unit Bool) := fun (i43 : Int) (x53 : List T_End) (s : Unit) =>
  if decide ((x53.length : Int) > 6) then
    some (.ret false)
  else
    (forI (fS_neGood_s2 p0 i43) x53 0 ()) >>= fun q66 =>
    match q66 with
    | .inl _ =>
      some (.go ())
    | .inr r' => some (.ret r')
def fS_neGood (p0 : T_Network) : Option Bool :=
  (fS_l1In (p0.Ends.length : Int) 1 40) >>= fun x12 =>
  (
    if !x12 then
      some true
    else
      (fS_neIds p0.Ids (p0.Ends.length : Int)) >>= fun x22 =>
      if !x22 then
        some true
      else
        if (p0.Inputs.length : Int) != (p0.Ends.length : Int) then
          some true
        else
          (fS_l1All p0.Inputs 0 9) >>= fun x30 =>
          some (!x30)) >>= fun q18 =>
  if q18 then
    some false
  else
    (forI (fS_neGood_s1 p0) p0.Ends 0 ()) >>= fun q44 =>
    match q44 with
    | .inl _ =>
      some true
    | .inr r' => some r'

def pS_neGood (w : World) (r : Bool) : Ending → World → Prop := fun e w' => e = .returned (.bool r) ∧ Keeps w w'
set_option maxRecDepth 100000 in
set_option maxHeartbeats 2000000 in
theorem cS_neGood (w : World) (u0 : List Value) (p0 : T_Network) (g0 : Rp.rd zt w u0 p0) (r : Bool) (hF : fS_neGood p0 = some r) :
    Calls Try.prog 76 #[.agg u0.toArray] w (pS_neGood w r) := by
  unfold fS_neGood at hF
  obtain ⟨v1, v3, v5, rfl, h2, h4, h6⟩ := g0
  have hB : Bs (fun _ => 1) (col (fun _ => 1)) w w := Bs.start _ _
  refine calls_start (n := 94) (vs := [(.agg #[v1, v3, v5])]) Try.func76 rfl rfl ?_
  refine wpC_seq ?_
  refine wpC_region ?_
  refine st_op (by decide) trivial ?_
  refine wf_box (o := (col (fun _ => 1))) w.heap.size 11 hB.keeps.size (cs := [v1, v3, v5]) rfl rfl ?_
  intro o7 w8 b9 h10 s11
  replace hB := hB.stp s11 (by decide)
  refine st_val (ex_assign rfl) (by decide) trivial ?_
  refine wpF_end (r := [(1, (.pointer (some ⟨b9, 0, none⟩)))]) ⟨rfl, trivial⟩ ?_
  refine nx ?_
  refine wpC_seq ?_
  refine wpC_seq ?_
  refine wpC_region ?_
  refine st_val (ex_field rfl Try.underlying31 rfl Try.sizeOf29) (by decide) trivial ?_
  refine st_val (ex_load1 rfl Try.isAgg29 (h10.cell rfl)) (by decide) trivial ?_
  refine st_val (ex_lenR rfl h2 Try.underlying29) (by decide) trivial ?_
  obtain ⟨x12, hx12, hF⟩ := bind_some hF
  refine st_op (by decide) trivial ?_
  refine wf_call (cS_l1In w8 (p0.Ends.length : Int) 1 40 x12 hx12) Try.call90 ⟨rfl, rfl, rfl, trivial⟩ ?_
  rintro e17 w13 ⟨rfl, k14⟩
  have s16 := k14.stp 999 o7
  refine ⟨_, rfl, ?_⟩
  replace h10 := h10.stp s16 (by decide)
  replace hB := hB.stp s16 (by decide)
  refine st_val (ex_not rfl) (by decide) trivial ?_
  refine st_val (ex_move rfl) (by decide) trivial ?_
  obtain ⟨q18, hq18, hF⟩ := bind_some hF
  refine wpF_cutAt 23 (fun a20 w19 => Fr a20 94 [(1, (.pointer (some ⟨b9, 0, none⟩))), (35, (.bool q18))] ∧ Keeps w13 w19) ?_ ?_
  all_goals simp only [List.take_succ_cons, List.take_zero, List.drop_succ_cons, List.drop_zero]
  · have kp : Keeps w13 w13 := Keeps.refl _
    rcases Bool.eq_false_or_eq_true (!x12) with t21 | t21
    · rw [if_pos t21] at hq18
      refine st_no rfl rfl (by rw [t21]; rfl) (by decide) ?_
      refine st_no rfl rfl (by rw [t21]; rfl) (by decide) ?_
      refine st_no rfl rfl (by rw [t21]; rfl) (by decide) ?_
      refine st_no rfl rfl (by rw [t21]; rfl) (by decide) ?_
      refine st_no rfl rfl (by rw [t21]; rfl) (by decide) ?_
      refine st_no rfl rfl (by rw [t21]; rfl) (by decide) ?_
      refine st_no rfl rfl (by rw [t21]; rfl) (by decide) ?_
      refine st_val (ex_pick_t (congrArg (fun b => some (Value.bool b)) t21) rfl) (by decide) trivial ?_
      refine st_val (ex_move rfl) (by decide) trivial ?_
      refine st_no rfl rfl rfl (by decide) ?_
      refine st_no rfl rfl rfl (by decide) ?_
      refine st_no rfl rfl rfl (by decide) ?_
      refine st_no rfl rfl rfl (by decide) ?_
      refine st_no rfl rfl rfl (by decide) ?_
      refine st_no rfl rfl rfl (by decide) ?_
      refine st_no rfl rfl rfl (by decide) ?_
      refine st_val (ex_pick_t rfl rfl) (by decide) trivial ?_
      refine st_val (ex_move rfl) (by decide) trivial ?_
      refine st_no rfl rfl rfl (by decide) ?_
      refine st_no rfl rfl rfl (by decide) ?_
      refine st_no rfl rfl rfl (by decide) ?_
      refine st_no rfl rfl rfl (by decide) ?_
      refine st_val (ex_pick_t rfl rfl) (by decide) trivial ?_
      have hq182 := Option.some.inj hq18
      refine wpF_end (r := [(1, (.pointer (some ⟨b9, 0, none⟩))), (35, (.bool true))]) ⟨rfl, rfl, trivial⟩ ?_
      subst hq182
      refine np_norm (fun a ha => ⟨ha, kp⟩)
    · rw [if_neg (by rw [t21]; decide)] at hq18
      refine st_val (ex_field rfl Try.underlying31 rfl Try.sizeOf23) (by decide) ⟨_, rfl, (congrArg (fun b => some (Value.bool b)) t21)⟩ ?_
      refine st_val (ex_load1 rfl Try.isAgg23 (h10.cell rfl)) (by decide) ⟨_, rfl, (congrArg (fun b => some (Value.bool b)) t21)⟩ ?_
      refine st_val (ex_field rfl Try.underlying31 rfl Try.sizeOf29) (by decide) ⟨_, rfl, (congrArg (fun b => some (Value.bool b)) t21)⟩ ?_
      refine st_val (ex_load1 rfl Try.isAgg29 (h10.cell rfl)) (by decide) ⟨_, rfl, (congrArg (fun b => some (Value.bool b)) t21)⟩ ?_
      refine st_val (ex_lenR rfl h2 Try.underlying29) (by decide) ⟨_, rfl, (congrArg (fun b => some (Value.bool b)) t21)⟩ ?_
      obtain ⟨x22, hx22, hq18⟩ := bind_some hq18
      refine st_op (by decide) ⟨_, rfl, (congrArg (fun b => some (Value.bool b)) t21)⟩ ?_
      refine wf_call (cS_neIds w13 _ p0.Ids (h4.keep hB.keeps) (p0.Ends.length : Int) x22 hx22) Try.call110 ⟨rfl, rfl, trivial⟩ ?_
      rintro e27 w23 ⟨rfl, k24⟩
      have s26 := k24.stp 999 o7
      refine ⟨_, rfl, ?_⟩
      replace h10 := h10.stp s26 (by decide)
      replace hB := hB.stp s26 (by decide)
      replace kp := Keeps.trans kp k24
      refine st_val (ex_not rfl) (by decide) ⟨_, rfl, (congrArg (fun b => some (Value.bool b)) t21)⟩ ?_
      refine st_val (ex_pick_f (congrArg (fun b => some (Value.bool b)) t21) rfl) (by decide) trivial ?_
      refine st_val (ex_move rfl) (by decide) trivial ?_
      rcases Bool.eq_false_or_eq_true (!x22) with t28 | t28
      · rw [if_pos t28] at hq18
        refine st_no rfl rfl (by rw [t28]; rfl) (by decide) ?_
        refine st_no rfl rfl (by rw [t28]; rfl) (by decide) ?_
        refine st_no rfl rfl (by rw [t28]; rfl) (by decide) ?_
        refine st_no rfl rfl (by rw [t28]; rfl) (by decide) ?_
        refine st_no rfl rfl (by rw [t28]; rfl) (by decide) ?_
        refine st_no rfl rfl (by rw [t28]; rfl) (by decide) ?_
        refine st_no rfl rfl (by rw [t28]; rfl) (by decide) ?_
        refine st_val (ex_pick_t (congrArg (fun b => some (Value.bool b)) t28) rfl) (by decide) trivial ?_
        refine st_val (ex_move rfl) (by decide) trivial ?_
        refine st_no rfl rfl rfl (by decide) ?_
        refine st_no rfl rfl rfl (by decide) ?_
        refine st_no rfl rfl rfl (by decide) ?_
        refine st_no rfl rfl rfl (by decide) ?_
        refine st_val (ex_pick_t rfl rfl) (by decide) trivial ?_
        have hq182 := Option.some.inj hq18
        refine wpF_end (r := [(1, (.pointer (some ⟨b9, 0, none⟩))), (35, (.bool true))]) ⟨rfl, rfl, trivial⟩ ?_
        subst hq182
        refine np_norm (fun a ha => ⟨ha, kp⟩)
      · rw [if_neg (by rw [t28]; decide)] at hq18
        refine st_val (ex_field rfl Try.underlying31 rfl Try.sizeOf23) (by decide) ⟨_, rfl, (congrArg (fun b => some (Value.bool b)) t28)⟩ ?_
        refine st_val (ex_load1 rfl Try.isAgg23 (h10.cell rfl)) (by decide) ⟨_, rfl, (congrArg (fun b => some (Value.bool b)) t28)⟩ ?_
        refine st_val (ex_lenR rfl h6 Try.underlying23) (by decide) ⟨_, rfl, (congrArg (fun b => some (Value.bool b)) t28)⟩ ?_
        refine st_val (ex_field rfl Try.underlying31 rfl Try.sizeOf29) (by decide) ⟨_, rfl, (congrArg (fun b => some (Value.bool b)) t28)⟩ ?_
        refine st_val (ex_load1 rfl Try.isAgg29 (h10.cell rfl)) (by decide) ⟨_, rfl, (congrArg (fun b => some (Value.bool b)) t28)⟩ ?_
        refine st_val (ex_lenR rfl h2 Try.underlying29) (by decide) ⟨_, rfl, (congrArg (fun b => some (Value.bool b)) t28)⟩ ?_
        refine st_val (ex_neq rfl rfl) (by decide) ⟨_, rfl, (congrArg (fun b => some (Value.bool b)) t28)⟩ ?_
        refine st_val (ex_pick_f (congrArg (fun b => some (Value.bool b)) t28) rfl) (by decide) trivial ?_
        refine st_val (ex_move rfl) (by decide) trivial ?_
        rcases Bool.eq_false_or_eq_true ((p0.Inputs.length : Int) != (p0.Ends.length : Int)) with t29 | t29
        · rw [if_pos t29] at hq18
          refine st_no rfl rfl (by rw [t29]; rfl) (by decide) ?_
          refine st_no rfl rfl (by rw [t29]; rfl) (by decide) ?_
          refine st_no rfl rfl (by rw [t29]; rfl) (by decide) ?_
          refine st_no rfl rfl (by rw [t29]; rfl) (by decide) ?_
          refine st_val (ex_pick_t (congrArg (fun b => some (Value.bool b)) t29) rfl) (by decide) trivial ?_
          have hq182 := Option.some.inj hq18
          refine wpF_end (r := [(1, (.pointer (some ⟨b9, 0, none⟩))), (35, (.bool true))]) ⟨rfl, rfl, trivial⟩ ?_
          subst hq182
          refine np_norm (fun a ha => ⟨ha, kp⟩)
        · rw [if_neg (by rw [t29]; decide)] at hq18
          refine st_val (ex_field rfl Try.underlying31 rfl Try.sizeOf23) (by decide) ⟨_, rfl, (congrArg (fun b => some (Value.bool b)) t29)⟩ ?_
          refine st_val (ex_load1 rfl Try.isAgg23 (h10.cell rfl)) (by decide) ⟨_, rfl, (congrArg (fun b => some (Value.bool b)) t29)⟩ ?_
          obtain ⟨x30, hx30, hq18⟩ := bind_some hq18
          refine st_op (by decide) ⟨_, rfl, (congrArg (fun b => some (Value.bool b)) t29)⟩ ?_
          refine wf_call (cS_l1All w23 _ p0.Inputs (h6.keep hB.keeps) 0 9 x30 hx30) Try.call100 ⟨rfl, rfl, rfl, trivial⟩ ?_
          rintro e35 w31 ⟨rfl, k32⟩
          have s34 := k32.stp 999 o7
          refine ⟨_, rfl, ?_⟩
          replace h10 := h10.stp s34 (by decide)
          replace hB := hB.stp s34 (by decide)
          replace kp := Keeps.trans kp k32
          refine st_val (ex_not rfl) (by decide) ⟨_, rfl, (congrArg (fun b => some (Value.bool b)) t29)⟩ ?_
          refine st_val (ex_pick_f (congrArg (fun b => some (Value.bool b)) t29) rfl) (by decide) trivial ?_
          have hq182 := Option.some.inj hq18
          refine wpF_end (r := [(1, (.pointer (some ⟨b9, 0, none⟩))), (35, (.bool (!x30)))]) ⟨rfl, rfl, trivial⟩ ?_
          subst hq182
          refine np_norm (fun a ha => ⟨ha, kp⟩)
  rintro a38 w19 ⟨ha, k36⟩
  have s37 := k36.stp 999 o7
  replace h10 := h10.stp s37 (by decide)
  replace hB := hB.stp s37 (by decide)
  refine wl_of ha ?_
  refine wpF_end (r := [(1, (.pointer (some ⟨b9, 0, none⟩))), (35, (.bool q18))]) ⟨rfl, rfl, trivial⟩ ?_
  refine nx ?_
  refine wpC_cond rfl (fun t39 => ?_) (fun t39 => ?_)
  · rw [if_pos t39] at hF
    refine wpC_seq ?_
    refine wpC_region ?_
    refine st_val (ex_assign rfl) (by decide) trivial ?_
    refine wpF_end (r := [(2, (.bool false))]) ⟨rfl, trivial⟩ ?_
    refine nx ?_
    refine wpC_ret ?_
    refine nt_ret ?_
    have e40 := Option.some.inj hF
    subst e40
    refine ret_post (P := Try.prog) (vs := [(.bool false)]) Try.results76 ⟨rfl, trivial⟩ ?_
    exact ⟨rfl, hB.keeps⟩
  · rw [if_neg (by rw [t39]; decide)] at hF
    refine wpC_skip ?_
    refine nx ?_
    refine wpC_seq ?_
    refine wpC_seq ?_
    refine wpC_region ?_
    refine st_val (ex_field rfl Try.underlying31 rfl Try.sizeOf29) (by decide) trivial ?_
    refine st_val (ex_load1 rfl Try.isAgg29 (h10.cell rfl)) (by decide) trivial ?_
    refine st_val (ex_lenR rfl h2 Try.underlying29) (by decide) trivial ?_
    refine st_val (ex_move rfl) (by decide) trivial ?_
    refine wpF_end (r := [(1, (.pointer (some ⟨b9, 0, none⟩))), (37, v1), (38, (.int .i64 (p0.Ends.length : Int))), (39, (.int .i64 0))]) ⟨rfl, rfl, rfl, rfl, trivial⟩ ?_
    refine nx ?_
    obtain ⟨q44, hq44, hF⟩ := bind_some hF
    refine wpC_cutN (fun a w42 => ∃ (o41 : Tg), q44 = .inl () ∧ Fr a 94 [] ∧ Bs (fun _ => 1) o41 w w42) (fun a w' => ∃ r', q44 = .inr r' ∧ bodyPost Try.prog Try.f76 (pS_neGood w r') .ret a w') ?_ ?_ ?_
    · refine wpC_block ?_
      refine wpC_loop (fun (K : Nat) a w42 => ∃ (i43 : Int) (o41 : Tg), forI (fS_neGood_s1 p0) (p0.Ends.drop i43.toNat) i43 () = some q44 ∧ (p0.Ends.drop i43.toNat).length = K ∧ 0 ≤ i43 ∧ Fr a 94 [(1, (.pointer (some ⟨b9, 0, none⟩))), (37, v1), (38, (.int .i64 (p0.Ends.length : Int))), (39, (.int .i64 i43))] ∧ Bs (fun _ => 1) o41 w w42 ∧ Bx w.heap.size 11 o41 w42 b9 31 [v1, v3, v5]) _ (fun a ha => ⟨0, o7, hq44, rfl, Int.le_refl 0, ha.sub (r := [(1, (.pointer (some ⟨b9, 0, none⟩))), (37, v1), (38, (.int .i64 (p0.Ends.length : Int))), (39, (.int .i64 0))]) ⟨rfl, rfl, rfl, rfl, trivial⟩, hB, h10⟩) ?_
      rintro K48 a w42 ⟨i43, o41, l45, m47, z46, ha, hB, h10⟩
      by_cases t52 : i43 < (p0.Ends.length : Int)
      · obtain ⟨x53, q49, hx53, b50, n51⟩ := forI_cons z46 t52 l45
        have hle := h2.len_le
        dsimp only [fS_neGood_s1] at b50
        refine wp_of ha ?_
        refine wpC_seq ?_
        refine wpC_region ?_
        refine st_val (ex_lss rfl rfl) (by decide) trivial ?_
        refine wpF_end (r := [(1, (.pointer (some ⟨b9, 0, none⟩))), (37, v1), (38, (.int .i64 (p0.Ends.length : Int))), (39, (.int .i64 i43)), (40, (.bool (decide (i43 < (p0.Ends.length : Int)))))]) ⟨rfl, rfl, rfl, rfl, rfl, trivial⟩ ?_
        refine nx ?_
        refine wpC_seq ?_
        refine wpC_true (congrArg (fun b => some (Value.bool b)) (decide_eq_true t52)) ?_
        refine wpC_skip ?_
        refine nx ?_
        refine wpC_seq ?_
        refine wpC_block ?_
        refine wpC_seq ?_
        refine wpC_region ?_
        refine st_val (ex_move rfl) (by decide) trivial ?_
        refine st_op (by decide) trivial ?_
        refine wf_atZ h2 hx53 hB rfl rfl Try.underlying29 Try.sizeOf110 ?_
        intro b54 f55 c56 h57 h58
        obtain ⟨v59, rfl, h60⟩ := h58
        refine st_val (ex_load1 rfl Try.isAgg110 (cell_of_cells h57)) (by decide) trivial ?_
        refine st_val (ex_assign rfl) (by decide) trivial ?_
        refine st_val (ex_assign rfl) (by decide) trivial ?_
        refine wpF_end (r := [(1, (.pointer (some ⟨b9, 0, none⟩))), (3, (.int .i64 i43)), (4, v59), (37, v1), (38, (.int .i64 (p0.Ends.length : Int))), (39, (.int .i64 i43))]) ⟨rfl, rfl, rfl, rfl, rfl, rfl, trivial⟩ ?_
        refine nx ?_
        refine wpC_seq ?_
        refine wpC_seq ?_
        refine wpC_region ?_
        refine st_val (ex_move rfl) (by decide) trivial ?_
        refine st_val (ex_lenR rfl h60 Try.underlying110) (by decide) trivial ?_
        refine st_val (ex_gtr rfl rfl) (by decide) trivial ?_
        refine wpF_end (r := [(1, (.pointer (some ⟨b9, 0, none⟩))), (3, (.int .i64 i43)), (4, v59), (37, v1), (38, (.int .i64 (p0.Ends.length : Int))), (39, (.int .i64 i43)), (46, (.bool (decide ((x53.length : Int) > 6))))]) ⟨rfl, rfl, rfl, rfl, rfl, rfl, rfl, trivial⟩ ?_
        refine nx ?_
        refine wpC_cond rfl (fun t61 => ?_) (fun t61 => ?_)
        · rw [if_pos t61] at b50
          refine wpC_seq ?_
          refine wpC_region ?_
          refine st_val (ex_assign rfl) (by decide) trivial ?_
          refine wpF_end (r := [(2, (.bool false))]) ⟨rfl, trivial⟩ ?_
          refine nx ?_
          refine wpC_ret ?_
          refine nt_ret ?_
          refine nb_ret ?_
          refine nt_ret ?_
          refine nt_ret ?_
          refine nb_ret ?_
          refine np_ret ?_
          have e62 := Option.some.inj b50
          subst e62
          refine fun a ha => ⟨_, n51, ?_⟩
          refine ret_post (P := Try.prog) (vs := [(.bool false)]) Try.results76 ⟨rfl, trivial⟩ ?_ a ha
          exact ⟨rfl, hB.keeps⟩
        · rw [if_neg (by rw [t61]; decide)] at b50
          refine wpC_skip ?_
          refine nx ?_
          refine wpC_seq ?_
          refine wpC_region ?_
          refine st_val (ex_move rfl) (by decide) trivial ?_
          refine st_val (ex_lenR rfl h60 Try.underlying110) (by decide) trivial ?_
          refine st_val (ex_move rfl) (by decide) trivial ?_
          refine wpF_end (r := [(1, (.pointer (some ⟨b9, 0, none⟩))), (3, (.int .i64 i43)), (37, v1), (38, (.int .i64 (p0.Ends.length : Int))), (39, (.int .i64 i43)), (47, v59), (48, (.int .i64 (x53.length : Int))), (49, (.int .i64 0))]) ⟨rfl, rfl, rfl, rfl, rfl, rfl, rfl, rfl, trivial⟩ ?_
          refine nx ?_
          obtain ⟨q66, hq66, b50⟩ := bind_some b50
          refine wpC_cutN (fun a w64 => ∃ (o63 : Tg), q66 = .inl () ∧ Fr a 94 [(1, (.pointer (some ⟨b9, 0, none⟩))), (37, v1), (38, (.int .i64 (p0.Ends.length : Int))), (39, (.int .i64 i43))] ∧ Bs (fun _ => 1) o63 w w64 ∧ Bx w.heap.size 11 o63 w64 b9 31 [v1, v3, v5]) (fun a w' => ∃ r', q66 = .inr r' ∧ bodyPost Try.prog Try.f76 (pS_neGood w r') .ret a w') ?_ ?_ ?_
          · refine wpC_block ?_
            refine wpC_loop (fun (K : Nat) a w64 => ∃ (i65 : Int) (o63 : Tg), forI (fS_neGood_s2 p0 i43) (x53.drop i65.toNat) i65 () = some q66 ∧ (x53.drop i65.toNat).length = K ∧ 0 ≤ i65 ∧ Fr a 94 [(1, (.pointer (some ⟨b9, 0, none⟩))), (3, (.int .i64 i43)), (37, v1), (38, (.int .i64 (p0.Ends.length : Int))), (39, (.int .i64 i43)), (47, v59), (48, (.int .i64 (x53.length : Int))), (49, (.int .i64 i65))] ∧ Bs (fun _ => 1) o63 w w64 ∧ Bx w.heap.size 11 o63 w64 b9 31 [v1, v3, v5]) _ (fun a ha => ⟨0, o41, hq66, rfl, Int.le_refl 0, ha.sub (r := [(1, (.pointer (some ⟨b9, 0, none⟩))), (3, (.int .i64 i43)), (37, v1), (38, (.int .i64 (p0.Ends.length : Int))), (39, (.int .i64 i43)), (47, v59), (48, (.int .i64 (x53.length : Int))), (49, (.int .i64 0))]) ⟨rfl, rfl, rfl, rfl, rfl, rfl, rfl, rfl, trivial⟩, hB, h10⟩) ?_
            rintro K70 a w64 ⟨i65, o63, l67, m69, z68, ha, hB, h10⟩
            by_cases t74 : i65 < (x53.length : Int)
            · obtain ⟨x75, q71, hx75, b72, n73⟩ := forI_cons z68 t74 l67
              have hle := h60.len_le
              dsimp only [fS_neGood_s2] at b72
              refine wp_of ha ?_
              refine wpC_seq ?_
              refine wpC_region ?_
              refine st_val (ex_lss rfl rfl) (by decide) trivial ?_
              refine wpF_end (r := [(1, (.pointer (some ⟨b9, 0, none⟩))), (3, (.int .i64 i43)), (37, v1), (38, (.int .i64 (p0.Ends.length : Int))), (39, (.int .i64 i43)), (47, v59), (48, (.int .i64 (x53.length : Int))), (49, (.int .i64 i65)), (50, (.bool (decide (i65 < (x53.length : Int)))))]) ⟨rfl, rfl, rfl, rfl, rfl, rfl, rfl, rfl, rfl, trivial⟩ ?_
              refine nx ?_
              refine wpC_seq ?_
              refine wpC_true (congrArg (fun b => some (Value.bool b)) (decide_eq_true t74)) ?_
              refine wpC_skip ?_
              refine nx ?_
              refine wpC_seq ?_
              refine wpC_block ?_
              refine wpC_seq ?_
              refine wpC_region ?_
              refine st_val (ex_move rfl) (by decide) trivial ?_
              refine st_op (by decide) trivial ?_
              refine wf_atZ h60 hx75 hB rfl rfl Try.underlying110 Try.sizeOf115 ?_
              intro b76 f77 c78 h79 h80
              cases h80
              refine st_val (ex_loadA rfl Try.isAgg115 Try.sizeOf115 rfl h79) (by decide) trivial ?_
              refine st_op (by decide) trivial ?_
              refine wf_alloc (o := o63) w.heap.size 15 hB.keeps.size (cs := [(.int .i64 0), (.int .i64 0)]) Try.zeroValue115 rfl ?_
              intro o81 w82 b83 h84 s85
              replace h10 := h10.stp s85 (by decide)
              replace hB := hB.stp s85 (by decide)
              refine st_val (ex_assign rfl) (by decide) trivial ?_
              refine st_op0 trivial ?_
              refine wf_storeA h84 rfl rfl rfl info1_t_impl_End_Na (by intro c hc; simp only [List.mem_cons, List.not_mem_nil, or_false] at hc; rcases hc with rfl | rfl <;> first | rfl) ?_
              intro w86 h88 s87
              replace h10 := h10.stp s87 (by decide)
              replace hB := hB.stp s87 (by decide)
              refine wpF_end (r := [(1, (.pointer (some ⟨b9, 0, none⟩))), (3, (.int .i64 i43)), (5, (.int .i64 i65)), (6, (.pointer (some ⟨b83, 0, none⟩))), (37, v1), (38, (.int .i64 (p0.Ends.length : Int))), (39, (.int .i64 i43)), (47, v59), (48, (.int .i64 (x53.length : Int))), (49, (.int .i64 i65))]) ⟨rfl, rfl, rfl, rfl, rfl, rfl, rfl, rfl, rfl, rfl, trivial⟩ ?_
              refine nx ?_
              refine wpC_seq ?_
              obtain ⟨q89, hq89, b72⟩ := bind_some b72
              refine wpC_cutN (fun a92 w91 => ∃ o90 : Tg, Fr a92 94 [(1, (.pointer (some ⟨b9, 0, none⟩))), (3, (.int .i64 i43)), (37, v1), (38, (.int .i64 (p0.Ends.length : Int))), (39, (.int .i64 i43)), (47, v59), (48, (.int .i64 (x53.length : Int))), (49, (.int .i64 i65)), (91, (.bool q89))] ∧ Bs (fun _ => 1) o90 w w91 ∧ Bx w.heap.size 11 o90 w91 b9 31 [v1, v3, v5]) (fun _ _ => False) ?_ ?_ (fun _ _ h => h.elim)
              · obtain ⟨x93, hx93, hq89⟩ := bind_some hq89
                obtain ⟨x94, hx94, hq89⟩ := bind_some hq89
                rcases Bool.eq_false_or_eq_true (!x94) with t100 | t100
                · rw [if_pos t100] at hq89
                  refine wpC_drawn (o := o81) [(1, (.pointer (some ⟨b9, 0, none⟩))), (3, (.int .i64 i43)), (5, (.int .i64 i65)), (6, (.pointer (some ⟨b83, 0, none⟩))), (37, v1), (38, (.int .i64 (p0.Ends.length : Int))), (39, (.int .i64 i43)), (47, v59), (48, (.int .i64 (x53.length : Int))), (49, (.int .i64 i65))] [1, 3, 5, 6, 37, 38, 39, 47, 48, 49] [54, 55, 56, 57, 58, 59, 60, 61, 62, 63, 64, 65, 66, 67, 68, 69, 70, 71, 72, 73, 74, 75, 76, 77, 78, 79, 80, 81, 82, 83, 84, 85, 86, 87, 88, 89] [[], [0], [], [2], [3], [4], [1, 5], [6], [7], [8], [8], [8], [8], [8], [8], [8], [8], [8], [8], [8], [8], [8, 20], [21], [22], [22], [22], [22], [22], [22], [22], [22], [22], [22], [22], [22], [22]] [none, none, none, none, none, none, none, none, none, none, none, none, none, none, none, none, none, none, none, none, none, none, none, none, none, none, none, none, none, none, none, none, none, none, none, none] [999, 999, 999, 999, 999, 999, 999, 999, 999, 999, 999, 999, 999, 999, 999, 999, 999, 999, 999, 999, 999, 999, 999, 999, 999, 999, 999, 999, 999, 999, 999, 999, 999, 999, 999, 999] [0, 0, 0, 0, 0, 0, 0, 0, 0, 0, 0, 0, 0, 0, 0, 0, 0, 0, 0, 0, 0, 0, 0, 0, 0, 0, 0, 0, 0, 0, 0, 0, 0, 0, 0, 0] [999] [fun v _ _ => v = (.pointer (some ⟨b83, 0 + 0, none⟩)), fun v _ _ => v = (.int .i64 x75.Node), fun v _ _ => v = (.pointer (some ⟨b9, 0 + 0, none⟩)), fun v _ _ => v = v1, fun v _ _ => v = (.int .i64 (p0.Ends.length : Int)), fun v _ _ => v = (.int .i64 x93), fun v _ _ => v = (.bool x94), fun v _ _ => v = (.bool (!x94)), fun v _ _ => v = (.bool (!x94)), fun v _ _ => v = undef, fun v _ _ => v = undef, fun v _ _ => v = undef, fun v _ _ => v = undef, fun v _ _ => v = undef, fun v _ _ => v = undef, fun v _ _ => v = undef, fun v _ _ => v = undef, fun v _ _ => v = undef, fun v _ _ => v = undef, fun v _ _ => v = undef, fun v _ _ => v = undef, fun v _ _ => v = (.bool true), fun v _ _ => v = (.bool true), fun v _ _ => v = undef, fun v _ _ => v = undef, fun v _ _ => v = undef, fun v _ _ => v = undef, fun v _ _ => v = undef, fun v _ _ => v = undef, fun v _ _ => v = undef, fun v _ _ => v = undef, fun v _ _ => v = undef, fun v _ _ => v = undef, fun v _ _ => v = undef, fun v _ _ => v = undef, fun v _ _ => v = undef] (fun o8 w8 => Bs (fun _ => 1) o8 w w8 ∧ Bx w.heap.size 11 o8 w8 b9 31 [v1, v3, v5] ∧ Bx w.heap.size 15 o8 w8 b83 115 [(.int .i64 x75.Node), (.int .i64 x75.Port)]) follows_mixed (by kernel_rfl) rfl ⟨rfl, rfl, rfl, rfl, rfl, rfl, rfl, rfl, rfl, rfl, trivial⟩ ⟨hB, h10, h88⟩ ?_ ⟨st_eq _, st_eq _, st_eq _, st_eq _, st_eq _, st_eq _, st_eq _, st_eq _, st_eq _, st_eq _, st_eq _, st_eq _, st_eq _, st_eq _, st_eq _, st_eq _, st_eq _, st_eq _, st_eq _, st_eq _, st_eq _, st_eq _, st_eq _, st_eq _, st_eq _, st_eq _, st_eq _, st_eq _, st_eq _, st_eq _, st_eq _, st_eq _, st_eq _, st_eq _, st_eq _, st_eq _, trivial⟩ ?_ ?_
                  · rintro t9 o1 w1 o2 w2 ht9 ⟨hB, h10, h88⟩ hs9
                    have ht9 : t9 = 999 := by simpa using ht9
                    subst ht9
                    all_goals exact ⟨hB.stp hs9 (by decide), h10.stp hs9 (by decide), h88.stp hs9 (by decide)⟩
                  · refine ⟨?_, ?_, ?_, ?_, ?_, ?_, ?_, ?_, ?_, ?_, ?_, ?_, ?_, ?_, ?_, ?_, ?_, ?_, ?_, ?_, ?_, ?_, ?_, ?_, ?_, ?_, ?_, ?_, ?_, ?_, ?_, ?_, ?_, ?_, ?_, ?_, trivial⟩
                    · rintro o101 w102 a103 ha ⟨hB, h10, h88⟩ -
                      refine opS_of ha (trivial) ?_
                      refine op1_val (ex_field rfl Try.underlying115 rfl Try.sizeOf3) ?_
                      exact ⟨_, Stp.refl _ _ _, rfl⟩
                    · rintro o104 w105 a106 ha ⟨hB, h10, h88⟩ ⟨r107, -⟩
                      have ha := Fr.cons (d := 54) ha r107
                      refine opS_of ha (trivial) ?_
                      refine op1_val (ex_load1 rfl Try.isAgg3 (h88.cell rfl)) ?_
                      exact ⟨_, Stp.refl _ _ _, rfl⟩
                    · rintro o108 w109 a110 ha ⟨hB, h10, h88⟩ -
                      refine opS_of ha (trivial) ?_
                      refine op1_val (ex_field rfl Try.underlying31 rfl Try.sizeOf29) ?_
                      exact ⟨_, Stp.refl _ _ _, rfl⟩
                    · rintro o111 w112 a113 ha ⟨hB, h10, h88⟩ ⟨r114, -⟩
                      have ha := Fr.cons (d := 56) ha r114
                      refine opS_of ha (trivial) ?_
                      refine op1_val (ex_load1 rfl Try.isAgg29 (h10.cell rfl)) ?_
                      exact ⟨_, Stp.refl _ _ _, rfl⟩
                    · rintro o115 w116 a117 ha ⟨hB, h10, h88⟩ ⟨r118, -⟩
                      have ha := Fr.cons (d := 57) ha r118
                      refine opS_of ha (trivial) ?_
                      refine op1_val (ex_lenR rfl h2 Try.underlying29) ?_
                      exact ⟨_, Stp.refl _ _ _, rfl⟩
                    · rintro o119 w120 a121 ha ⟨hB, h10, h88⟩ ⟨r122, -⟩
                      have ha := Fr.cons (d := 58) ha r122
                      refine opS_of ha (trivial) ?_
                      refine op1_val (ex_sub rfl rfl hx93) ?_
                      exact ⟨_, Stp.refl _ _ _, rfl⟩
                    · rintro o123 w124 a125 ha ⟨hB, h10, h88⟩ ⟨r126, r127, -⟩
                      have ha := Fr.cons (d := 55) ha r126
                      have ha := Fr.cons (d := 59) ha r127
                      refine opS_of ha (trivial) ?_
                      refine wf_call (cS_l1In w124 x75.Node 0 x93 x94 hx94) Try.call90 ⟨rfl, rfl, rfl, trivial⟩ ?_
                      rintro e132 w128 ⟨rfl, k129⟩
                      have s131 := k129.stp 999 o123
                      refine ⟨_, rfl, ?_⟩
                      replace h10 := h10.stp s131 (by decide)
                      replace h88 := h88.stp s131 (by decide)
                      replace hB := hB.stp s131 (by decide)
                      exact ⟨_, s131, rfl⟩
                    · rintro o133 w134 a135 ha ⟨hB, h10, h88⟩ ⟨r136, -⟩
                      have ha := Fr.cons (d := 60) ha r136
                      refine opS_of ha (trivial) ?_
                      refine op1_val (ex_not rfl) ?_
                      exact ⟨_, Stp.refl _ _ _, rfl⟩
                    · rintro o137 w138 a139 ha ⟨hB, h10, h88⟩ ⟨r140, -⟩
                      have ha := Fr.cons (d := 61) ha r140
                      refine opS_of ha (trivial) ?_
                      refine op1_val (ex_move rfl) ?_
                      exact ⟨_, Stp.refl _ _ _, rfl⟩
                    · rintro o141 w142 a143 ha ⟨hB, h10, h88⟩ ⟨r144, -⟩
                      have ha := Fr.cons (d := 62) ha r144
                      exact opS_no ha rfl rfl rfl (by rw [t100]; rfl) ⟨_, Stp.refl _ _ _, rfl⟩
                    · rintro o145 w146 a147 ha ⟨hB, h10, h88⟩ ⟨r148, -⟩
                      have ha := Fr.cons (d := 62) ha r148
                      exact opS_no ha rfl rfl rfl (by rw [t100]; rfl) ⟨_, Stp.refl _ _ _, rfl⟩
                    · rintro o149 w150 a151 ha ⟨hB, h10, h88⟩ ⟨r152, -⟩
                      have ha := Fr.cons (d := 62) ha r152
                      exact opS_no ha rfl rfl rfl (by rw [t100]; rfl) ⟨_, Stp.refl _ _ _, rfl⟩
                    · rintro o153 w154 a155 ha ⟨hB, h10, h88⟩ ⟨r156, -⟩
                      have ha := Fr.cons (d := 62) ha r156
                      exact opS_no ha rfl rfl rfl (by rw [t100]; rfl) ⟨_, Stp.refl _ _ _, rfl⟩
                    · rintro o157 w158 a159 ha ⟨hB, h10, h88⟩ ⟨r160, -⟩
                      have ha := Fr.cons (d := 62) ha r160
                      exact opS_no ha rfl rfl rfl (by rw [t100]; rfl) ⟨_, Stp.refl _ _ _, rfl⟩
                    · rintro o161 w162 a163 ha ⟨hB, h10, h88⟩ ⟨r164, -⟩
                      have ha := Fr.cons (d := 62) ha r164
                      exact opS_no ha rfl rfl rfl (by rw [t100]; rfl) ⟨_, Stp.refl _ _ _, rfl⟩
                    · rintro o165 w166 a167 ha ⟨hB, h10, h88⟩ ⟨r168, -⟩
                      have ha := Fr.cons (d := 62) ha r168
                      exact opS_no ha rfl rfl rfl (by rw [t100]; rfl) ⟨_, Stp.refl _ _ _, rfl⟩
                    · rintro o169 w170 a171 ha ⟨hB, h10, h88⟩ ⟨r172, -⟩
                      have ha := Fr.cons (d := 62) ha r172
                      exact opS_no ha rfl rfl rfl (by rw [t100]; rfl) ⟨_, Stp.refl _ _ _, rfl⟩
                    · rintro o173 w174 a175 ha ⟨hB, h10, h88⟩ ⟨r176, -⟩
                      have ha := Fr.cons (d := 62) ha r176
                      exact opS_no ha rfl rfl rfl (by rw [t100]; rfl) ⟨_, Stp.refl _ _ _, rfl⟩
                    · rintro o177 w178 a179 ha ⟨hB, h10, h88⟩ ⟨r180, -⟩
                      have ha := Fr.cons (d := 62) ha r180
                      exact opS_no ha rfl rfl rfl (by rw [t100]; rfl) ⟨_, Stp.refl _ _ _, rfl⟩
                    · rintro o181 w182 a183 ha ⟨hB, h10, h88⟩ ⟨r184, -⟩
                      have ha := Fr.cons (d := 62) ha r184
                      exact opS_no ha rfl rfl rfl (by rw [t100]; rfl) ⟨_, Stp.refl _ _ _, rfl⟩
                    · rintro o185 w186 a187 ha ⟨hB, h10, h88⟩ ⟨r188, -⟩
                      have ha := Fr.cons (d := 62) ha r188
                      exact opS_no ha rfl rfl rfl (by rw [t100]; rfl) ⟨_, Stp.refl _ _ _, rfl⟩
                    · rintro o189 w190 a191 ha ⟨hB, h10, h88⟩ ⟨r192, r193, -⟩
                      have ha := Fr.cons (d := 62) ha r192
                      have ha := Fr.cons (d := 74) ha r193
                      refine opS_of ha (trivial) ?_
                      refine op1_val (ex_pick_t (congrArg (fun b => some (Value.bool b)) t100) rfl) ?_
                      exact ⟨_, Stp.refl _ _ _, rfl⟩
                    · rintro o194 w195 a196 ha ⟨hB, h10, h88⟩ ⟨r197, -⟩
                      have ha := Fr.cons (d := 75) ha r197
                      refine opS_of ha (trivial) ?_
                      refine op1_val (ex_move rfl) ?_
                      exact ⟨_, Stp.refl _ _ _, rfl⟩
                    · rintro o198 w199 a200 ha ⟨hB, h10, h88⟩ ⟨r201, -⟩
                      have ha := Fr.cons (d := 76) ha r201
                      exact opS_no ha rfl rfl rfl rfl ⟨_, Stp.refl _ _ _, rfl⟩
                    · rintro o202 w203 a204 ha ⟨hB, h10, h88⟩ ⟨r205, -⟩
                      have ha := Fr.cons (d := 76) ha r205
                      exact opS_no ha rfl rfl rfl rfl ⟨_, Stp.refl _ _ _, rfl⟩
                    · rintro o206 w207 a208 ha ⟨hB, h10, h88⟩ ⟨r209, -⟩
                      have ha := Fr.cons (d := 76) ha r209
                      exact opS_no ha rfl rfl rfl rfl ⟨_, Stp.refl _ _ _, rfl⟩
                    · rintro o210 w211 a212 ha ⟨hB, h10, h88⟩ ⟨r213, -⟩
                      have ha := Fr.cons (d := 76) ha r213
                      exact opS_no ha rfl rfl rfl rfl ⟨_, Stp.refl _ _ _, rfl⟩
                    · rintro o214 w215 a216 ha ⟨hB, h10, h88⟩ ⟨r217, -⟩
                      have ha := Fr.cons (d := 76) ha r217
                      exact opS_no ha rfl rfl rfl rfl ⟨_, Stp.refl _ _ _, rfl⟩
                    · rintro o218 w219 a220 ha ⟨hB, h10, h88⟩ ⟨r221, -⟩
                      have ha := Fr.cons (d := 76) ha r221
                      exact opS_no ha rfl rfl rfl rfl ⟨_, Stp.refl _ _ _, rfl⟩
                    · rintro o222 w223 a224 ha ⟨hB, h10, h88⟩ ⟨r225, -⟩
                      have ha := Fr.cons (d := 76) ha r225
                      exact opS_no ha rfl rfl rfl rfl ⟨_, Stp.refl _ _ _, rfl⟩
                    · rintro o226 w227 a228 ha ⟨hB, h10, h88⟩ ⟨r229, -⟩
                      have ha := Fr.cons (d := 76) ha r229
                      exact opS_no ha rfl rfl rfl rfl ⟨_, Stp.refl _ _ _, rfl⟩
                    · rintro o230 w231 a232 ha ⟨hB, h10, h88⟩ ⟨r233, -⟩
                      have ha := Fr.cons (d := 76) ha r233
                      exact opS_no ha rfl rfl rfl rfl ⟨_, Stp.refl _ _ _, rfl⟩
                    · rintro o234 w235 a236 ha ⟨hB, h10, h88⟩ ⟨r237, -⟩
                      have ha := Fr.cons (d := 76) ha r237
                      exact opS_no ha rfl rfl rfl rfl ⟨_, Stp.refl _ _ _, rfl⟩
                    · rintro o238 w239 a240 ha ⟨hB, h10, h88⟩ ⟨r241, -⟩
                      have ha := Fr.cons (d := 76) ha r241
                      exact opS_no ha rfl rfl rfl rfl ⟨_, Stp.refl _ _ _, rfl⟩
                    · rintro o242 w243 a244 ha ⟨hB, h10, h88⟩ ⟨r245, -⟩
                      have ha := Fr.cons (d := 76) ha r245
                      exact opS_no ha rfl rfl rfl rfl ⟨_, Stp.refl _ _ _, rfl⟩
                    · rintro o246 w247 a248 ha ⟨hB, h10, h88⟩ ⟨r249, -⟩
                      have ha := Fr.cons (d := 76) ha r249
                      exact opS_no ha rfl rfl rfl rfl ⟨_, Stp.refl _ _ _, rfl⟩
                  rintro o250 w251 a252 ha ⟨hB, h10, h88⟩ ⟨-, -, -, -, -, -, -, -, -, -, -, -, -, -, -, -, -, -, -, -, -, -, r253, -, -, -, -, -, -, -, -, -, r254, -, -, r255, -⟩
                  have ha := Fr.cons (d := 76) ha r253
                  have ha := Fr.cons (d := 86) ha r254
                  have ha := Fr.cons (d := 89) ha r255
                  refine wl_of ha ?_
                  simp only [List.length_cons, List.length_nil, Nat.zero_add, Nat.reduceAdd, List.drop_succ_cons, List.drop_zero]
                  refine st_no rfl rfl rfl (by decide) ?_
                  refine st_val (ex_pick_t rfl rfl) (by decide) trivial ?_
                  have e256 := Option.some.inj hq89
                  subst e256
                  refine wpF_end (r := [(1, (.pointer (some ⟨b9, 0, none⟩))), (3, (.int .i64 i43)), (37, v1), (38, (.int .i64 (p0.Ends.length : Int))), (39, (.int .i64 i43)), (47, v59), (48, (.int .i64 (x53.length : Int))), (49, (.int .i64 i65)), (91, (.bool true))]) ⟨rfl, rfl, rfl, rfl, rfl, rfl, rfl, rfl, rfl, trivial⟩ ?_
                  refine np_norm (fun a ha => ⟨o250, ha, hB, h10⟩)
                · rw [if_neg (by rw [t100]; decide)] at hq89
                  obtain ⟨x257, hx257, hq89⟩ := bind_some hq89
                  obtain ⟨x263, hx263, hq89⟩ := bind_some hq89
                  obtain ⟨x264, hx264, hq89⟩ := bind_some hq89
                  rcases Bool.eq_false_or_eq_true (!x264) with t270 | t270
                  · rw [if_pos t270] at hq89
                    refine wpC_drawn (o := o81) [(1, (.pointer (some ⟨b9, 0, none⟩))), (3, (.int .i64 i43)), (5, (.int .i64 i65)), (6, (.pointer (some ⟨b83, 0, none⟩))), (37, v1), (38, (.int .i64 (p0.Ends.length : Int))), (39, (.int .i64 i43)), (47, v59), (48, (.int .i64 (x53.length : Int))), (49, (.int .i64 i65))] [1, 3, 5, 6, 37, 38, 39, 47, 48, 49] [54, 55, 56, 57, 58, 59, 60, 61, 62, 63, 64, 65, 66, 67, 68, 69, 70, 71, 72, 73, 74, 75, 76, 77, 78, 79, 80, 81, 82, 83, 84, 85, 86, 87, 88, 89] [[], [0], [], [2], [3], [4], [1, 5], [6], [7], [8], [8, 9], [8], [8, 11], [8], [8, 13], [8, 12, 14], [8, 15], [8, 16], [8, 17], [8, 10, 18], [8, 19], [8, 20], [21], [22], [22], [22], [22], [22], [22], [22], [22], [22], [22], [22], [22], [22]] [none, none, none, none, none, none, none, none, none, none, none, none, none, none, none, none, none, none, none, none, none, none, none, none, none, none, none, none, none, none, none, none, none, none, none, none] [999, 999, 999, 999, 999, 999, 999, 999, 999, 999, 999, 999, 999, 999, 999, 999, 999, 999, 999, 999, 999, 999, 999, 999, 999, 999, 999, 999, 999, 999, 999, 999, 999, 999, 999, 999] [0, 0, 0, 0, 0, 0, 0, 0, 0, 0, 0, 0, 0, 0, 0, 0, 0, 0, 0, 0, 0, 0, 0, 0, 0, 0, 0, 0, 0, 0, 0, 0, 0, 0, 0, 0] [999] [fun v _ _ => v = (.pointer (some ⟨b83, 0 + 0, none⟩)), fun v _ _ => v = (.int .i64 x75.Node), fun v _ _ => v = (.pointer (some ⟨b9, 0 + 0, none⟩)), fun v _ _ => v = v1, fun v _ _ => v = (.int .i64 (p0.Ends.length : Int)), fun v _ _ => v = (.int .i64 x93), fun v _ _ => v = (.bool x94), fun v _ _ => v = (.bool (!x94)), fun v _ _ => v = (.bool (!x94)), fun v _ _ => v = (.pointer (some ⟨b83, 0 + 1, none⟩)), fun v _ _ => v = (.int .i64 x75.Port), fun v _ _ => v = (.pointer (some ⟨b9, 0 + 0, none⟩)), fun v _ _ => v = v1, fun v _ _ => v = (.pointer (some ⟨b83, 0 + 0, none⟩)), fun v _ _ => v = (.int .i64 x75.Node), fun v o w9 => ∃ vl, v = adr vl (x75.Node.toNat * Rp.sz (List T_End)) ∧ RdL zt w vl (p0.Ends : List (List T_End)), fun v o w9 => RdL zt w v x257, fun v _ _ => v = (.int .i64 (x257.length : Int)), fun v _ _ => v = (.int .i64 x263), fun v _ _ => v = (.bool x264), fun v _ _ => v = (.bool (!x264)), fun v _ _ => v = (.bool (!x264)), fun v _ _ => v = (.bool (!x264)), fun v _ _ => v = undef, fun v _ _ => v = undef, fun v _ _ => v = undef, fun v _ _ => v = undef, fun v _ _ => v = undef, fun v _ _ => v = undef, fun v _ _ => v = undef, fun v _ _ => v = undef, fun v _ _ => v = undef, fun v _ _ => v = undef, fun v _ _ => v = undef, fun v _ _ => v = undef, fun v _ _ => v = undef] (fun o8 w8 => Bs (fun _ => 1) o8 w w8 ∧ Bx w.heap.size 11 o8 w8 b9 31 [v1, v3, v5] ∧ Bx w.heap.size 15 o8 w8 b83 115 [(.int .i64 x75.Node), (.int .i64 x75.Port)]) follows_mixed (by kernel_rfl) rfl ⟨rfl, rfl, rfl, rfl, rfl, rfl, rfl, rfl, rfl, rfl, trivial⟩ ⟨hB, h10, h88⟩ ?_ ⟨st_eq _, st_eq _, st_eq _, st_eq _, st_eq _, st_eq _, st_eq _, st_eq _, st_eq _, st_eq _, st_eq _, st_eq _, st_eq _, st_eq _, st_eq _, fun _ _ _ _ _ _ h0 hb ⟨vl, e, h⟩ hs => ⟨vl, e, h⟩, fun _ _ _ _ _ _ h0 hb h hs => h, st_eq _, st_eq _, st_eq _, st_eq _, st_eq _, st_eq _, st_eq _, st_eq _, st_eq _, st_eq _, st_eq _, st_eq _, st_eq _, st_eq _, st_eq _, st_eq _, st_eq _, st_eq _, st_eq _, trivial⟩ ?_ ?_
                    · rintro t9 o1 w1 o2 w2 ht9 ⟨hB, h10, h88⟩ hs9
                      have ht9 : t9 = 999 := by simpa using ht9
                      subst ht9
                      all_goals exact ⟨hB.stp hs9 (by decide), h10.stp hs9 (by decide), h88.stp hs9 (by decide)⟩
                    · refine ⟨?_, ?_, ?_, ?_, ?_, ?_, ?_, ?_, ?_, ?_, ?_, ?_, ?_, ?_, ?_, ?_, ?_, ?_, ?_, ?_, ?_, ?_, ?_, ?_, ?_, ?_, ?_, ?_, ?_, ?_, ?_, ?_, ?_, ?_, ?_, ?_, trivial⟩
                      · rintro o271 w272 a273 ha ⟨hB, h10, h88⟩ -
                        refine opS_of ha (trivial) ?_
                        refine op1_val (ex_field rfl Try.underlying115 rfl Try.sizeOf3) ?_
                        exact ⟨_, Stp.refl _ _ _, rfl⟩
                      · rintro o274 w275 a276 ha ⟨hB, h10, h88⟩ ⟨r277, -⟩
                        have ha := Fr.cons (d := 54) ha r277
                        refine opS_of ha (trivial) ?_
                        refine op1_val (ex_load1 rfl Try.isAgg3 (h88.cell rfl)) ?_
                        exact ⟨_, Stp.refl _ _ _, rfl⟩
                      · rintro o278 w279 a280 ha ⟨hB, h10, h88⟩ -
                        refine opS_of ha (trivial) ?_
                        refine op1_val (ex_field rfl Try.underlying31 rfl Try.sizeOf29) ?_
                        exact ⟨_, Stp.refl _ _ _, rfl⟩
                      · rintro o281 w282 a283 ha ⟨hB, h10, h88⟩ ⟨r284, -⟩
                        have ha := Fr.cons (d := 56) ha r284
                        refine opS_of ha (trivial) ?_
                        refine op1_val (ex_load1 rfl Try.isAgg29 (h10.cell rfl)) ?_
                        exact ⟨_, Stp.refl _ _ _, rfl⟩
                      · rintro o285 w286 a287 ha ⟨hB, h10, h88⟩ ⟨r288, -⟩
                        have ha := Fr.cons (d := 57) ha r288
                        refine opS_of ha (trivial) ?_
                        refine op1_val (ex_lenR rfl h2 Try.underlying29) ?_
                        exact ⟨_, Stp.refl _ _ _, rfl⟩
                      · rintro o289 w290 a291 ha ⟨hB, h10, h88⟩ ⟨r292, -⟩
                        have ha := Fr.cons (d := 58) ha r292
                        refine opS_of ha (trivial) ?_
                        refine op1_val (ex_sub rfl rfl hx93) ?_
                        exact ⟨_, Stp.refl _ _ _, rfl⟩
                      · rintro o293 w294 a295 ha ⟨hB, h10, h88⟩ ⟨r296, r297, -⟩
                        have ha := Fr.cons (d := 55) ha r296
                        have ha := Fr.cons (d := 59) ha r297
                        refine opS_of ha (trivial) ?_
                        refine wf_call (cS_l1In w294 x75.Node 0 x93 x94 hx94) Try.call90 ⟨rfl, rfl, rfl, trivial⟩ ?_
                        rintro e302 w298 ⟨rfl, k299⟩
                        have s301 := k299.stp 999 o293
                        refine ⟨_, rfl, ?_⟩
                        replace h10 := h10.stp s301 (by decide)
                        replace h88 := h88.stp s301 (by decide)
                        replace hB := hB.stp s301 (by decide)
                        exact ⟨_, s301, rfl⟩
                      · rintro o303 w304 a305 ha ⟨hB, h10, h88⟩ ⟨r306, -⟩
                        have ha := Fr.cons (d := 60) ha r306
                        refine opS_of ha (trivial) ?_
                        refine op1_val (ex_not rfl) ?_
                        exact ⟨_, Stp.refl _ _ _, rfl⟩
                      · rintro o307 w308 a309 ha ⟨hB, h10, h88⟩ ⟨r310, -⟩
                        have ha := Fr.cons (d := 61) ha r310
                        refine opS_of ha (trivial) ?_
                        refine op1_val (ex_move rfl) ?_
                        exact ⟨_, Stp.refl _ _ _, rfl⟩
                      · rintro o311 w312 a313 ha ⟨hB, h10, h88⟩ ⟨r314, -⟩
                        have ha := Fr.cons (d := 62) ha r314
                        refine opS_of ha (⟨_, rfl, (congrArg (fun b => some (Value.bool b)) t100)⟩) ?_
                        refine op1_val (ex_field rfl Try.underlying115 rfl Try.sizeOf3) ?_
                        exact ⟨_, Stp.refl _ _ _, rfl⟩
                      · rintro o315 w316 a317 ha ⟨hB, h10, h88⟩ ⟨r318, r319, -⟩
                        have ha := Fr.cons (d := 62) ha r318
                        have ha := Fr.cons (d := 63) ha r319
                        refine opS_of ha (⟨_, rfl, (congrArg (fun b => some (Value.bool b)) t100)⟩) ?_
                        refine op1_val (ex_load1 rfl Try.isAgg3 (h88.cell rfl)) ?_
                        exact ⟨_, Stp.refl _ _ _, rfl⟩
                      · rintro o320 w321 a322 ha ⟨hB, h10, h88⟩ ⟨r323, -⟩
                        have ha := Fr.cons (d := 62) ha r323
                        refine opS_of ha (⟨_, rfl, (congrArg (fun b => some (Value.bool b)) t100)⟩) ?_
                        refine op1_val (ex_field rfl Try.underlying31 rfl Try.sizeOf29) ?_
                        exact ⟨_, Stp.refl _ _ _, rfl⟩
                      · rintro o324 w325 a326 ha ⟨hB, h10, h88⟩ ⟨r327, r328, -⟩
                        have ha := Fr.cons (d := 62) ha r327
                        have ha := Fr.cons (d := 65) ha r328
                        refine opS_of ha (⟨_, rfl, (congrArg (fun b => some (Value.bool b)) t100)⟩) ?_
                        refine op1_val (ex_load1 rfl Try.isAgg29 (h10.cell rfl)) ?_
                        exact ⟨_, Stp.refl _ _ _, rfl⟩
                      · rintro o329 w330 a331 ha ⟨hB, h10, h88⟩ ⟨r332, -⟩
                        have ha := Fr.cons (d := 62) ha r332
                        refine opS_of ha (⟨_, rfl, (congrArg (fun b => some (Value.bool b)) t100)⟩) ?_
                        refine op1_val (ex_field rfl Try.underlying115 rfl Try.sizeOf3) ?_
                        exact ⟨_, Stp.refl _ _ _, rfl⟩
                      · rintro o333 w334 a335 ha ⟨hB, h10, h88⟩ ⟨r336, r337, -⟩
                        have ha := Fr.cons (d := 62) ha r336
                        have ha := Fr.cons (d := 67) ha r337
                        refine opS_of ha (⟨_, rfl, (congrArg (fun b => some (Value.bool b)) t100)⟩) ?_
                        refine op1_val (ex_load1 rfl Try.isAgg3 (h88.cell rfl)) ?_
                        exact ⟨_, Stp.refl _ _ _, rfl⟩
                      · rintro o338 w339 a340 ha ⟨hB, h10, h88⟩ ⟨r341, r342, r343, -⟩
                        have ha := Fr.cons (d := 62) ha r341
                        have ha := Fr.cons (d := 66) ha r342
                        have ha := Fr.cons (d := 68) ha r343
                        refine opS_of ha (⟨_, rfl, (congrArg (fun b => some (Value.bool b)) t100)⟩) ?_
                        refine wd_indexR h2 hx257 rfl rfl Try.underlying29 Try.sizeOf110 ?_
                        exact ⟨_, Stp.refl _ _ _, ⟨_, rfl, h2⟩⟩
                      · rintro o344 w345 a346 ha ⟨hB, h10, h88⟩ ⟨r347, r348, -⟩
                        have ha := Fr.cons (d := 62) ha r347
                        obtain ⟨v349, e350, h351⟩ := r348
                        have ha := Fr.cons (d := 69) ha e350
                        refine opS_of ha (⟨_, rfl, (congrArg (fun b => some (Value.bool b)) t100)⟩) ?_
                        refine wd_load1Z h351 hx257 hB rfl rfl Try.isAgg110 ?_
                        intro c352 h353
                        obtain ⟨v354, e356, h355⟩ := h353
                        cases e356
                        exact ⟨_, Stp.refl _ _ _, h355⟩
                      · rintro o357 w358 a359 ha ⟨hB, h10, h88⟩ ⟨r360, r361, -⟩
                        have ha := Fr.cons (d := 62) ha r360
                        replace r361 : RdL zt w (a359.tmps.getD 70 undef) x257 := r361
                        generalize e363 : a359.tmps.getD 70 undef = v362 at r361
                        have ha := Fr.cons (d := 70) ha e363
                        refine opS_of ha (⟨_, rfl, (congrArg (fun b => some (Value.bool b)) t100)⟩) ?_
                        refine op1_val (ex_lenR rfl r361 Try.underlying110) ?_
                        exact ⟨_, Stp.refl _ _ _, rfl⟩
                      · rintro o364 w365 a366 ha ⟨hB, h10, h88⟩ ⟨r367, r368, -⟩
                        have ha := Fr.cons (d := 62) ha r367
                        have ha := Fr.cons (d := 71) ha r368
                        refine opS_of ha (⟨_, rfl, (congrArg (fun b => some (Value.bool b)) t100)⟩) ?_
                        refine op1_val (ex_sub rfl rfl hx263) ?_
                        exact ⟨_, Stp.refl _ _ _, rfl⟩
                      · rintro o369 w370 a371 ha ⟨hB, h10, h88⟩ ⟨r372, r373, r374, -⟩
                        have ha := Fr.cons (d := 62) ha r372
                        have ha := Fr.cons (d := 64) ha r373
                        have ha := Fr.cons (d := 72) ha r374
                        refine opS_of ha (⟨_, rfl, (congrArg (fun b => some (Value.bool b)) t100)⟩) ?_
                        refine wf_call (cS_l1In w370 x75.Port 0 x263 x264 hx264) Try.call90 ⟨rfl, rfl, rfl, trivial⟩ ?_
                        rintro e379 w375 ⟨rfl, k376⟩
                        have s378 := k376.stp 999 o369
                        refine ⟨_, rfl, ?_⟩
                        replace h10 := h10.stp s378 (by decide)
                        replace h88 := h88.stp s378 (by decide)
                        replace hB := hB.stp s378 (by decide)
                        exact ⟨_, s378, rfl⟩
                      · rintro o380 w381 a382 ha ⟨hB, h10, h88⟩ ⟨r383, r384, -⟩
                        have ha := Fr.cons (d := 62) ha r383
                        have ha := Fr.cons (d := 73) ha r384
                        refine opS_of ha (⟨_, rfl, (congrArg (fun b => some (Value.bool b)) t100)⟩) ?_
                        refine op1_val (ex_not rfl) ?_
                        exact ⟨_, Stp.refl _ _ _, rfl⟩
                      · rintro o385 w386 a387 ha ⟨hB, h10, h88⟩ ⟨r388, r389, -⟩
                        have ha := Fr.cons (d := 62) ha r388
                        have ha := Fr.cons (d := 74) ha r389
                        refine opS_of ha (trivial) ?_
                        refine op1_val (ex_pick_f (congrArg (fun b => some (Value.bool b)) t100) rfl) ?_
                        exact ⟨_, Stp.refl _ _ _, rfl⟩
                      · rintro o390 w391 a392 ha ⟨hB, h10, h88⟩ ⟨r393, -⟩
                        have ha := Fr.cons (d := 75) ha r393
                        refine opS_of ha (trivial) ?_
                        refine op1_val (ex_move rfl) ?_
                        exact ⟨_, Stp.refl _ _ _, rfl⟩
                      · rintro o394 w395 a396 ha ⟨hB, h10, h88⟩ ⟨r397, -⟩
                        have ha := Fr.cons (d := 76) ha r397
                        exact opS_no ha rfl rfl rfl (by rw [t270]; rfl) ⟨_, Stp.refl _ _ _, rfl⟩
                      · rintro o398 w399 a400 ha ⟨hB, h10, h88⟩ ⟨r401, -⟩
                        have ha := Fr.cons (d := 76) ha r401
                        exact opS_no ha rfl rfl rfl (by rw [t270]; rfl) ⟨_, Stp.refl _ _ _, rfl⟩
                      · rintro o402 w403 a404 ha ⟨hB, h10, h88⟩ ⟨r405, -⟩
                        have ha := Fr.cons (d := 76) ha r405
                        exact opS_no ha rfl rfl rfl (by rw [t270]; rfl) ⟨_, Stp.refl _ _ _, rfl⟩
                      · rintro o406 w407 a408 ha ⟨hB, h10, h88⟩ ⟨r409, -⟩
                        have ha := Fr.cons (d := 76) ha r409
                        exact opS_no ha rfl rfl rfl (by rw [t270]; rfl) ⟨_, Stp.refl _ _ _, rfl⟩
                      · rintro o410 w411 a412 ha ⟨hB, h10, h88⟩ ⟨r413, -⟩
                        have ha := Fr.cons (d := 76) ha r413
                        exact opS_no ha rfl rfl rfl (by rw [t270]; rfl) ⟨_, Stp.refl _ _ _, rfl⟩
                      · rintro o414 w415 a416 ha ⟨hB, h10, h88⟩ ⟨r417, -⟩
                        have ha := Fr.cons (d := 76) ha r417
                        exact opS_no ha rfl rfl rfl (by rw [t270]; rfl) ⟨_, Stp.refl _ _ _, rfl⟩
                      · rintro o418 w419 a420 ha ⟨hB, h10, h88⟩ ⟨r421, -⟩
                        have ha := Fr.cons (d := 76) ha r421
                        exact opS_no ha rfl rfl rfl (by rw [t270]; rfl) ⟨_, Stp.refl _ _ _, rfl⟩
                      · rintro o422 w423 a424 ha ⟨hB, h10, h88⟩ ⟨r425, -⟩
                        have ha := Fr.cons (d := 76) ha r425
                        exact opS_no ha rfl rfl rfl (by rw [t270]; rfl) ⟨_, Stp.refl _ _ _, rfl⟩
                      · rintro o426 w427 a428 ha ⟨hB, h10, h88⟩ ⟨r429, -⟩
                        have ha := Fr.cons (d := 76) ha r429
                        exact opS_no ha rfl rfl rfl (by rw [t270]; rfl) ⟨_, Stp.refl _ _ _, rfl⟩
                      · rintro o430 w431 a432 ha ⟨hB, h10, h88⟩ ⟨r433, -⟩
                        have ha := Fr.cons (d := 76) ha r433
                        exact opS_no ha rfl rfl rfl (by rw [t270]; rfl) ⟨_, Stp.refl _ _ _, rfl⟩
                      · rintro o434 w435 a436 ha ⟨hB, h10, h88⟩ ⟨r437, -⟩
                        have ha := Fr.cons (d := 76) ha r437
                        exact opS_no ha rfl rfl rfl (by rw [t270]; rfl) ⟨_, Stp.refl _ _ _, rfl⟩
                      · rintro o438 w439 a440 ha ⟨hB, h10, h88⟩ ⟨r441, -⟩
                        have ha := Fr.cons (d := 76) ha r441
                        exact opS_no ha rfl rfl rfl (by rw [t270]; rfl) ⟨_, Stp.refl _ _ _, rfl⟩
                      · rintro o442 w443 a444 ha ⟨hB, h10, h88⟩ ⟨r445, -⟩
                        have ha := Fr.cons (d := 76) ha r445
                        exact opS_no ha rfl rfl rfl (by rw [t270]; rfl) ⟨_, Stp.refl _ _ _, rfl⟩
                    rintro o446 w447 a448 ha ⟨hB, h10, h88⟩ ⟨-, -, -, -, -, -, -, -, -, -, -, -, -, -, -, -, -, -, -, -, -, -, r449, -, -, -, -, -, -, -, -, -, r450, -, -, r451, -⟩
                    have ha := Fr.cons (d := 76) ha r449
                    have ha := Fr.cons (d := 86) ha r450
                    have ha := Fr.cons (d := 89) ha r451
                    refine wl_of ha ?_
                    simp only [List.length_cons, List.length_nil, Nat.zero_add, Nat.reduceAdd, List.drop_succ_cons, List.drop_zero]
                    refine st_no rfl rfl (by rw [t270]; rfl) (by decide) ?_
                    refine st_val (ex_pick_t (congrArg (fun b => some (Value.bool b)) t270) rfl) (by decide) trivial ?_
                    have e452 := Option.some.inj hq89
                    subst e452
                    refine wpF_end (r := [(1, (.pointer (some ⟨b9, 0, none⟩))), (3, (.int .i64 i43)), (37, v1), (38, (.int .i64 (p0.Ends.length : Int))), (39, (.int .i64 i43)), (47, v59), (48, (.int .i64 (x53.length : Int))), (49, (.int .i64 i65)), (91, (.bool true))]) ⟨rfl, rfl, rfl, rfl, rfl, rfl, rfl, rfl, rfl, trivial⟩ ?_
                    refine np_norm (fun a ha => ⟨o446, ha, hB, h10⟩)
                  · rw [if_neg (by rw [t270]; decide)] at hq89
                    obtain ⟨x453, hx453, hq89⟩ := bind_some hq89
                    obtain ⟨x459, hx459, hq89⟩ := bind_some hq89
                    refine wpC_drawn (o := o81) [(1, (.pointer (some ⟨b9, 0, none⟩))), (3, (.int .i64 i43)), (5, (.int .i64 i65)), (6, (.pointer (some ⟨b83, 0, none⟩))), (37, v1), (38, (.int .i64 (p0.Ends.length : Int))), (39, (.int .i64 i43)), (47, v59), (48, (.int .i64 (x53.length : Int))), (49, (.int .i64 i65))] [1, 3, 5, 6, 37, 38, 39, 47, 48, 49] [54, 55, 56, 57, 58, 59, 60, 61, 62, 63, 64, 65, 66, 67, 68, 69, 70, 71, 72, 73, 74, 75, 76, 77, 78, 79, 80, 81, 82, 83, 84, 85, 86, 87, 88, 89] [[], [0], [], [2], [3], [4], [1, 5], [6], [7], [8], [8, 9], [8], [8, 11], [8], [8, 13], [8, 12, 14], [8, 15], [8, 16], [8, 17], [8, 10, 18], [8, 19], [8, 20], [21], [22], [22, 23], [22], [22, 25], [22, 24, 26], [22, 27], [22], [22, 29], [22, 28, 30], [22, 31], [22], [22], [22, 33, 34]] [none, none, none, none, none, none, none, none, none, none, none, none, none, none, none, none, none, none, none, none, none, none, none, none, none, none, none, none, none, none, none, none, none, none, none, none] [999, 999, 999, 999, 999, 999, 999, 999, 999, 999, 999, 999, 999, 999, 999, 999, 999, 999, 999, 999, 999, 999, 999, 999, 999, 999, 999, 999, 999, 999, 999, 999, 999, 999, 999, 999] [0, 0, 0, 0, 0, 0, 0, 0, 0, 0, 0, 0, 0, 0, 0, 0, 0, 0, 0, 0, 0, 0, 0, 0, 0, 0, 0, 0, 0, 0, 0, 0, 0, 0, 0, 0] [999] [fun v _ _ => v = (.pointer (some ⟨b83, 0 + 0, none⟩)), fun v _ _ => v = (.int .i64 x75.Node), fun v _ _ => v = (.pointer (some ⟨b9, 0 + 0, none⟩)), fun v _ _ => v = v1, fun v _ _ => v = (.int .i64 (p0.Ends.length : Int)), fun v _ _ => v = (.int .i64 x93), fun v _ _ => v = (.bool x94), fun v _ _ => v = (.bool (!x94)), fun v _ _ => v = (.bool (!x94)), fun v _ _ => v = (.pointer (some ⟨b83, 0 + 1, none⟩)), fun v _ _ => v = (.int .i64 x75.Port), fun v _ _ => v = (.pointer (some ⟨b9, 0 + 0, none⟩)), fun v _ _ => v = v1, fun v _ _ => v = (.pointer (some ⟨b83, 0 + 0, none⟩)), fun v _ _ => v = (.int .i64 x75.Node), fun v o w9 => ∃ vl, v = adr vl (x75.Node.toNat * Rp.sz (List T_End)) ∧ RdL zt w vl (p0.Ends : List (List T_End)), fun v o w9 => RdL zt w v x257, fun v _ _ => v = (.int .i64 (x257.length : Int)), fun v _ _ => v = (.int .i64 x263), fun v _ _ => v = (.bool x264), fun v _ _ => v = (.bool (!x264)), fun v _ _ => v = (.bool (!x264)), fun v _ _ => v = (.bool (!x264)), fun v _ _ => v = (.pointer (some ⟨b9, 0 + 0, none⟩)), fun v _ _ => v = v1, fun v _ _ => v = (.pointer (some ⟨b83, 0 + 0, none⟩)), fun v _ _ => v = (.int .i64 x75.Node), fun v o w9 => ∃ vl, v = adr vl (x75.Node.toNat * Rp.sz (List T_End)) ∧ RdL zt w vl (p0.Ends : List (List T_End)), fun v o w9 => RdL zt w v x453, fun v _ _ => v = (.pointer (some ⟨b83, 0 + 1, none⟩)), fun v _ _ => v = (.int .i64 x75.Port), fun v o w9 => ∃ vl, v = adr vl (x75.Port.toNat * Rp.sz T_End) ∧ RdL zt w vl x453, fun v _ _ => v = (.agg #[(.int .i64 x459.Node), (.int .i64 x459.Port)]), fun v _ _ => v = (.int .i64 i43), fun v _ _ => v = (.int .i64 i65), fun v _ _ => v = (.agg #[(.int .i64 i43), (.int .i64 i65)])] (fun o8 w8 => Bs (fun _ => 1) o8 w w8 ∧ Bx w.heap.size 11 o8 w8 b9 31 [v1, v3, v5] ∧ Bx w.heap.size 15 o8 w8 b83 115 [(.int .i64 x75.Node), (.int .i64 x75.Port)]) follows_mixed (by kernel_rfl) rfl ⟨rfl, rfl, rfl, rfl, rfl, rfl, rfl, rfl, rfl, rfl, trivial⟩ ⟨hB, h10, h88⟩ ?_ ⟨st_eq _, st_eq _, st_eq _, st_eq _, st_eq _, st_eq _, st_eq _, st_eq _, st_eq _, st_eq _, st_eq _, st_eq _, st_eq _, st_eq _, st_eq _, fun _ _ _ _ _ _ h0 hb ⟨vl, e, h⟩ hs => ⟨vl, e, h⟩, fun _ _ _ _ _ _ h0 hb h hs => h, st_eq _, st_eq _, st_eq _, st_eq _, st_eq _, st_eq _, st_eq _, st_eq _, st_eq _, st_eq _, fun _ _ _ _ _ _ h0 hb ⟨vl, e, h⟩ hs => ⟨vl, e, h⟩, fun _ _ _ _ _ _ h0 hb h hs => h, st_eq _, st_eq _, fun _ _ _ _ _ _ h0 hb ⟨vl, e, h⟩ hs => ⟨vl, e, h⟩, st_eq _, st_eq _, st_eq _, st_eq _, trivial⟩ ?_ ?_
                    · rintro t9 o1 w1 o2 w2 ht9 ⟨hB, h10, h88⟩ hs9
                      have ht9 : t9 = 999 := by simpa using ht9
                      subst ht9
                      all_goals exact ⟨hB.stp hs9 (by decide), h10.stp hs9 (by decide), h88.stp hs9 (by decide)⟩
                    · refine ⟨?_, ?_, ?_, ?_, ?_, ?_, ?_, ?_, ?_, ?_, ?_, ?_, ?_, ?_, ?_, ?_, ?_, ?_, ?_, ?_, ?_, ?_, ?_, ?_, ?_, ?_, ?_, ?_, ?_, ?_, ?_, ?_, ?_, ?_, ?_, ?_, trivial⟩
                      · rintro o462 w463 a464 ha ⟨hB, h10, h88⟩ -
                        refine opS_of ha (trivial) ?_
                        refine op1_val (ex_field rfl Try.underlying115 rfl Try.sizeOf3) ?_
                        exact ⟨_, Stp.refl _ _ _, rfl⟩
                      · rintro o465 w466 a467 ha ⟨hB, h10, h88⟩ ⟨r468, -⟩
                        have ha := Fr.cons (d := 54) ha r468
                        refine opS_of ha (trivial) ?_
                        refine op1_val (ex_load1 rfl Try.isAgg3 (h88.cell rfl)) ?_
                        exact ⟨_, Stp.refl _ _ _, rfl⟩
                      · rintro o469 w470 a471 ha ⟨hB, h10, h88⟩ -
                        refine opS_of ha (trivial) ?_
                        refine op1_val (ex_field rfl Try.underlying31 rfl Try.sizeOf29) ?_
                        exact ⟨_, Stp.refl _ _ _, rfl⟩
                      · rintro o472 w473 a474 ha ⟨hB, h10, h88⟩ ⟨r475, -⟩
                        have ha := Fr.cons (d := 56) ha r475
                        refine opS_of ha (trivial) ?_
                        refine op1_val (ex_load1 rfl Try.isAgg29 (h10.cell rfl)) ?_
                        exact ⟨_, Stp.refl _ _ _, rfl⟩
                      · rintro o476 w477 a478 ha ⟨hB, h10, h88⟩ ⟨r479, -⟩
                        have ha := Fr.cons (d := 57) ha r479
                        refine opS_of ha (trivial) ?_
                        refine op1_val (ex_lenR rfl h2 Try.underlying29) ?_
                        exact ⟨_, Stp.refl _ _ _, rfl⟩
                      · rintro o480 w481 a482 ha ⟨hB, h10, h88⟩ ⟨r483, -⟩
                        have ha := Fr.cons (d := 58) ha r483
                        refine opS_of ha (trivial) ?_
                        refine op1_val (ex_sub rfl rfl hx93) ?_
                        exact ⟨_, Stp.refl _ _ _, rfl⟩
                      · rintro o484 w485 a486 ha ⟨hB, h10, h88⟩ ⟨r487, r488, -⟩
                        have ha := Fr.cons (d := 55) ha r487
                        have ha := Fr.cons (d := 59) ha r488
                        refine opS_of ha (trivial) ?_
                        refine wf_call (cS_l1In w485 x75.Node 0 x93 x94 hx94) Try.call90 ⟨rfl, rfl, rfl, trivial⟩ ?_
                        rintro e493 w489 ⟨rfl, k490⟩
                        have s492 := k490.stp 999 o484
                        refine ⟨_, rfl, ?_⟩
                        replace h10 := h10.stp s492 (by decide)
                        replace h88 := h88.stp s492 (by decide)
                        replace hB := hB.stp s492 (by decide)
                        exact ⟨_, s492, rfl⟩
                      · rintro o494 w495 a496 ha ⟨hB, h10, h88⟩ ⟨r497, -⟩
                        have ha := Fr.cons (d := 60) ha r497
                        refine opS_of ha (trivial) ?_
                        refine op1_val (ex_not rfl) ?_
                        exact ⟨_, Stp.refl _ _ _, rfl⟩
                      · rintro o498 w499 a500 ha ⟨hB, h10, h88⟩ ⟨r501, -⟩
                        have ha := Fr.cons (d := 61) ha r501
                        refine opS_of ha (trivial) ?_
                        refine op1_val (ex_move rfl) ?_
                        exact ⟨_, Stp.refl _ _ _, rfl⟩
                      · rintro o502 w503 a504 ha ⟨hB, h10, h88⟩ ⟨r505, -⟩
                        have ha := Fr.cons (d := 62) ha r505
                        refine opS_of ha (⟨_, rfl, (congrArg (fun b => some (Value.bool b)) t100)⟩) ?_
                        refine op1_val (ex_field rfl Try.underlying115 rfl Try.sizeOf3) ?_
                        exact ⟨_, Stp.refl _ _ _, rfl⟩
                      · rintro o506 w507 a508 ha ⟨hB, h10, h88⟩ ⟨r509, r510, -⟩
                        have ha := Fr.cons (d := 62) ha r509
                        have ha := Fr.cons (d := 63) ha r510
                        refine opS_of ha (⟨_, rfl, (congrArg (fun b => some (Value.bool b)) t100)⟩) ?_
                        refine op1_val (ex_load1 rfl Try.isAgg3 (h88.cell rfl)) ?_
                        exact ⟨_, Stp.refl _ _ _, rfl⟩
                      · rintro o511 w512 a513 ha ⟨hB, h10, h88⟩ ⟨r514, -⟩
                        have ha := Fr.cons (d := 62) ha r514
                        refine opS_of ha (⟨_, rfl, (congrArg (fun b => some (Value.bool b)) t100)⟩) ?_
                        refine op1_val (ex_field rfl Try.underlying31 rfl Try.sizeOf29) ?_
                        exact ⟨_, Stp.refl _ _ _, rfl⟩
                      · rintro o515 w516 a517 ha ⟨hB, h10, h88⟩ ⟨r518, r519, -⟩
                        have ha := Fr.cons (d := 62) ha r518
                        have ha := Fr.cons (d := 65) ha r519
                        refine opS_of ha (⟨_, rfl, (congrArg (fun b => some (Value.bool b)) t100)⟩) ?_
                        refine op1_val (ex_load1 rfl Try.isAgg29 (h10.cell rfl)) ?_
                        exact ⟨_, Stp.refl _ _ _, rfl⟩
                      · rintro o520 w521 a522 ha ⟨hB, h10, h88⟩ ⟨r523, -⟩
                        have ha := Fr.cons (d := 62) ha r523
                        refine opS_of ha (⟨_, rfl, (congrArg (fun b => some (Value.bool b)) t100)⟩) ?_
                        refine op1_val (ex_field rfl Try.underlying115 rfl Try.sizeOf3) ?_
                        exact ⟨_, Stp.refl _ _ _, rfl⟩
                      · rintro o524 w525 a526 ha ⟨hB, h10, h88⟩ ⟨r527, r528, -⟩
                        have ha := Fr.cons (d := 62) ha r527
                        have ha := Fr.cons (d := 67) ha r528
                        refine opS_of ha (⟨_, rfl, (congrArg (fun b => some (Value.bool b)) t100)⟩) ?_
                        refine op1_val (ex_load1 rfl Try.isAgg3 (h88.cell rfl)) ?_
                        exact ⟨_, Stp.refl _ _ _, rfl⟩
                      · rintro o529 w530 a531 ha ⟨hB, h10, h88⟩ ⟨r532, r533, r534, -⟩
                        have ha := Fr.cons (d := 62) ha r532
                        have ha := Fr.cons (d := 66) ha r533
                        have ha := Fr.cons (d := 68) ha r534
                        refine opS_of ha (⟨_, rfl, (congrArg (fun b => some (Value.bool b)) t100)⟩) ?_
                        refine wd_indexR h2 hx257 rfl rfl Try.underlying29 Try.sizeOf110 ?_
                        exact ⟨_, Stp.refl _ _ _, ⟨_, rfl, h2⟩⟩
                      · rintro o535 w536 a537 ha ⟨hB, h10, h88⟩ ⟨r538, r539, -⟩
                        have ha := Fr.cons (d := 62) ha r538
                        obtain ⟨v540, e541, h542⟩ := r539
                        have ha := Fr.cons (d := 69) ha e541
                        refine opS_of ha (⟨_, rfl, (congrArg (fun b => some (Value.bool b)) t100)⟩) ?_
                        refine wd_load1Z h542 hx257 hB rfl rfl Try.isAgg110 ?_
                        intro c543 h544
                        obtain ⟨v545, e547, h546⟩ := h544
                        cases e547
                        exact ⟨_, Stp.refl _ _ _, h546⟩
                      · rintro o548 w549 a550 ha ⟨hB, h10, h88⟩ ⟨r551, r552, -⟩
                        have ha := Fr.cons (d := 62) ha r551
                        replace r552 : RdL zt w (a550.tmps.getD 70 undef) x257 := r552
                        generalize e554 : a550.tmps.getD 70 undef = v553 at r552
                        have ha := Fr.cons (d := 70) ha e554
                        refine opS_of ha (⟨_, rfl, (congrArg (fun b => some (Value.bool b)) t100)⟩) ?_
                        refine op1_val (ex_lenR rfl r552 Try.underlying110) ?_
                        exact ⟨_, Stp.refl _ _ _, rfl⟩
                      · rintro o555 w556 a557 ha ⟨hB, h10, h88⟩ ⟨r558, r559, -⟩
                        have ha := Fr.cons (d := 62) ha r558
                        have ha := Fr.cons (d := 71) ha r559
                        refine opS_of ha (⟨_, rfl, (congrArg (fun b => some (Value.bool b)) t100)⟩) ?_
                        refine op1_val (ex_sub rfl rfl hx263) ?_
                        exact ⟨_, Stp.refl _ _ _, rfl⟩
                      · rintro o560 w561 a562 ha ⟨hB, h10, h88⟩ ⟨r563, r564, r565, -⟩
                        have ha := Fr.cons (d := 62) ha r563
                        have ha := Fr.cons (d := 64) ha r564
                        have ha := Fr.cons (d := 72) ha r565
                        refine opS_of ha (⟨_, rfl, (congrArg (fun b => some (Value.bool b)) t100)⟩) ?_
                        refine wf_call (cS_l1In w561 x75.Port 0 x263 x264 hx264) Try.call90 ⟨rfl, rfl, rfl, trivial⟩ ?_
                        rintro e570 w566 ⟨rfl, k567⟩
                        have s569 := k567.stp 999 o560
                        refine ⟨_, rfl, ?_⟩
                        replace h10 := h10.stp s569 (by decide)
                        replace h88 := h88.stp s569 (by decide)
                        replace hB := hB.stp s569 (by decide)
                        exact ⟨_, s569, rfl⟩
                      · rintro o571 w572 a573 ha ⟨hB, h10, h88⟩ ⟨r574, r575, -⟩
                        have ha := Fr.cons (d := 62) ha r574
                        have ha := Fr.cons (d := 73) ha r575
                        refine opS_of ha (⟨_, rfl, (congrArg (fun b => some (Value.bool b)) t100)⟩) ?_
                        refine op1_val (ex_not rfl) ?_
                        exact ⟨_, Stp.refl _ _ _, rfl⟩
                      · rintro o576 w577 a578 ha ⟨hB, h10, h88⟩ ⟨r579, r580, -⟩
                        have ha := Fr.cons (d := 62) ha r579
                        have ha := Fr.cons (d := 74) ha r580
                        refine opS_of ha (trivial) ?_
                        refine op1_val (ex_pick_f (congrArg (fun b => some (Value.bool b)) t100) rfl) ?_
                        exact ⟨_, Stp.refl _ _ _, rfl⟩
                      · rintro o581 w582 a583 ha ⟨hB, h10, h88⟩ ⟨r584, -⟩
                        have ha := Fr.cons (d := 75) ha r584
                        refine opS_of ha (trivial) ?_
                        refine op1_val (ex_move rfl) ?_
                        exact ⟨_, Stp.refl _ _ _, rfl⟩
                      · rintro o585 w586 a587 ha ⟨hB, h10, h88⟩ ⟨r588, -⟩
                        have ha := Fr.cons (d := 76) ha r588
                        refine opS_of ha (⟨_, rfl, (congrArg (fun b => some (Value.bool b)) t270)⟩) ?_
                        refine op1_val (ex_field rfl Try.underlying31 rfl Try.sizeOf29) ?_
                        exact ⟨_, Stp.refl _ _ _, rfl⟩
                      · rintro o589 w590 a591 ha ⟨hB, h10, h88⟩ ⟨r592, r593, -⟩
                        have ha := Fr.cons (d := 76) ha r592
                        have ha := Fr.cons (d := 77) ha r593
                        refine opS_of ha (⟨_, rfl, (congrArg (fun b => some (Value.bool b)) t270)⟩) ?_
                        refine op1_val (ex_load1 rfl Try.isAgg29 (h10.cell rfl)) ?_
                        exact ⟨_, Stp.refl _ _ _, rfl⟩
                      · rintro o594 w595 a596 ha ⟨hB, h10, h88⟩ ⟨r597, -⟩
                        have ha := Fr.cons (d := 76) ha r597
                        refine opS_of ha (⟨_, rfl, (congrArg (fun b => some (Value.bool b)) t270)⟩) ?_
                        refine op1_val (ex_field rfl Try.underlying115 rfl Try.sizeOf3) ?_
                        exact ⟨_, Stp.refl _ _ _, rfl⟩
                      · rintro o598 w599 a600 ha ⟨hB, h10, h88⟩ ⟨r601, r602, -⟩
                        have ha := Fr.cons (d := 76) ha r601
                        have ha := Fr.cons (d := 79) ha r602
                        refine opS_of ha (⟨_, rfl, (congrArg (fun b => some (Value.bool b)) t270)⟩) ?_
                        refine op1_val (ex_load1 rfl Try.isAgg3 (h88.cell rfl)) ?_
                        exact ⟨_, Stp.refl _ _ _, rfl⟩
                      · rintro o603 w604 a605 ha ⟨hB, h10, h88⟩ ⟨r606, r607, r608, -⟩
                        have ha := Fr.cons (d := 76) ha r606
                        have ha := Fr.cons (d := 78) ha r607
                        have ha := Fr.cons (d := 80) ha r608
                        refine opS_of ha (⟨_, rfl, (congrArg (fun b => some (Value.bool b)) t270)⟩) ?_
                        refine wd_indexR h2 hx453 rfl rfl Try.underlying29 Try.sizeOf110 ?_
                        exact ⟨_, Stp.refl _ _ _, ⟨_, rfl, h2⟩⟩
                      · rintro o609 w610 a611 ha ⟨hB, h10, h88⟩ ⟨r612, r613, -⟩
                        have ha := Fr.cons (d := 76) ha r612
                        obtain ⟨v614, e615, h616⟩ := r613
                        have ha := Fr.cons (d := 81) ha e615
                        refine opS_of ha (⟨_, rfl, (congrArg (fun b => some (Value.bool b)) t270)⟩) ?_
                        refine wd_load1Z h616 hx453 hB rfl rfl Try.isAgg110 ?_
                        intro c617 h618
                        obtain ⟨v619, e621, h620⟩ := h618
                        cases e621
                        exact ⟨_, Stp.refl _ _ _, h620⟩
                      · rintro o622 w623 a624 ha ⟨hB, h10, h88⟩ ⟨r625, -⟩
                        have ha := Fr.cons (d := 76) ha r625
                        refine opS_of ha (⟨_, rfl, (congrArg (fun b => some (Value.bool b)) t270)⟩) ?_
                        refine op1_val (ex_field rfl Try.underlying115 rfl Try.sizeOf3) ?_
                        exact ⟨_, Stp.refl _ _ _, rfl⟩
                      · rintro o626 w627 a628 ha ⟨hB, h10, h88⟩ ⟨r629, r630, -⟩
                        have ha := Fr.cons (d := 76) ha r629
                        have ha := Fr.cons (d := 83) ha r630
                        refine opS_of ha (⟨_, rfl, (congrArg (fun b => some (Value.bool b)) t270)⟩) ?_
                        refine op1_val (ex_load1 rfl Try.isAgg3 (h88.cell rfl)) ?_
                        exact ⟨_, Stp.refl _ _ _, rfl⟩
                      · rintro o631 w632 a633 ha ⟨hB, h10, h88⟩ ⟨r634, r635, r636, -⟩
                        have ha := Fr.cons (d := 76) ha r634
                        replace r635 : RdL zt w (a633.tmps.getD 82 undef) x453 := r635
                        generalize e638 : a633.tmps.getD 82 undef = v637 at r635
                        have ha := Fr.cons (d := 82) ha e638
                        have ha := Fr.cons (d := 84) ha r636
                        refine opS_of ha (⟨_, rfl, (congrArg (fun b => some (Value.bool b)) t270)⟩) ?_
                        refine wd_indexR r635 hx459 rfl rfl Try.underlying110 Try.sizeOf115 ?_
                        exact ⟨_, Stp.refl _ _ _, ⟨_, rfl, r635⟩⟩
                      · rintro o639 w640 a641 ha ⟨hB, h10, h88⟩ ⟨r642, r643, -⟩
                        have ha := Fr.cons (d := 76) ha r642
                        obtain ⟨v644, e645, h646⟩ := r643
                        have ha := Fr.cons (d := 85) ha e645
                        refine opS_of ha (⟨_, rfl, (congrArg (fun b => some (Value.bool b)) t270)⟩) ?_
                        refine wd_loadAZ h646 hx459 hB rfl Try.isAgg115 Try.sizeOf115 ?_
                        intro c647 h648
                        cases h648
                        exact ⟨_, Stp.refl _ _ _, rfl⟩
                      · rintro o649 w650 a651 ha ⟨hB, h10, h88⟩ ⟨r652, -⟩
                        have ha := Fr.cons (d := 76) ha r652
                        refine opS_of ha (⟨_, rfl, (congrArg (fun b => some (Value.bool b)) t270)⟩) ?_
                        refine op1_val (ex_move rfl) ?_
                        exact ⟨_, Stp.refl _ _ _, rfl⟩
                      · rintro o653 w654 a655 ha ⟨hB, h10, h88⟩ ⟨r656, -⟩
                        have ha := Fr.cons (d := 76) ha r656
                        refine opS_of ha (⟨_, rfl, (congrArg (fun b => some (Value.bool b)) t270)⟩) ?_
                        refine op1_val (ex_move rfl) ?_
                        exact ⟨_, Stp.refl _ _ _, rfl⟩
                      · rintro o657 w658 a659 ha ⟨hB, h10, h88⟩ ⟨r660, r661, r662, -⟩
                        have ha := Fr.cons (d := 76) ha r660
                        have ha := Fr.cons (d := 87) ha r661
                        have ha := Fr.cons (d := 88) ha r662
                        refine opS_of ha (⟨_, rfl, (congrArg (fun b => some (Value.bool b)) t270)⟩) ?_
                        refine op1_val (ex_build (vs := [(0, (.int .i64 i43)), (1, (.int .i64 i65))]) (cs := [(.int .i64 i43), (.int .i64 i65)]) ⟨rfl, rfl, rfl, rfl, trivial⟩ (by kernel_rfl)) ?_
                        exact ⟨_, Stp.refl _ _ _, rfl⟩
                    rintro o663 w664 a665 ha ⟨hB, h10, h88⟩ ⟨-, -, -, -, -, -, -, -, -, -, -, -, -, -, -, -, -, -, -, -, -, -, r666, -, -, -, -, -, -, -, -, -, r667, -, -, r668, -⟩
                    have ha := Fr.cons (d := 76) ha r666
                    have ha := Fr.cons (d := 86) ha r667
                    have ha := Fr.cons (d := 89) ha r668
                    refine wl_of ha ?_
                    simp only [List.length_cons, List.length_nil, Nat.zero_add, Nat.reduceAdd, List.drop_succ_cons, List.drop_zero]
                    refine st_val (ex_neqEnd rfl rfl) (by decide) ⟨_, rfl, (congrArg (fun b => some (Value.bool b)) t270)⟩ ?_
                    refine st_val (ex_pick_f (congrArg (fun b => some (Value.bool b)) t270) rfl) (by decide) trivial ?_
                    have e669 := Option.some.inj hq89
                    subst e669
                    refine wpF_end (r := [(1, (.pointer (some ⟨b9, 0, none⟩))), (3, (.int .i64 i43)), (37, v1), (38, (.int .i64 (p0.Ends.length : Int))), (39, (.int .i64 i43)), (47, v59), (48, (.int .i64 (x53.length : Int))), (49, (.int .i64 i65)), (91, (.bool (!(x459.Node == i43 && x459.Port == i65))))]) ⟨rfl, rfl, rfl, rfl, rfl, rfl, rfl, rfl, rfl, trivial⟩ ?_
                    refine np_norm (fun a ha => ⟨o663, ha, hB, h10⟩)
              rintro a670 w91 ⟨o90, ha, hB, h10⟩
              refine ap_k ha ?_
              refine nx ?_
              refine wpC_cond rfl (fun t671 => ?_) (fun t671 => ?_)
              · rw [if_pos t671] at b72
                refine wpC_seq ?_
                refine wpC_region ?_
                refine st_val (ex_assign rfl) (by decide) trivial ?_
                refine wpF_end (r := [(2, (.bool false))]) ⟨rfl, trivial⟩ ?_
                refine nx ?_
                refine wpC_ret ?_
                refine nb_ret ?_
                refine nt_ret ?_
                refine nt_ret ?_
                refine nb_ret ?_
                refine np_ret ?_
                have e672 := Option.some.inj b72
                subst e672
                refine fun a ha => ⟨_, n73, ?_⟩
                refine ret_post (P := Try.prog) (vs := [(.bool false)]) Try.results76 ⟨rfl, trivial⟩ ?_ a ha
                exact ⟨rfl, hB.keeps⟩
              · rw [if_neg (by rw [t671]; decide)] at b72
                refine wpC_skip ?_
                refine nb_norm ?_
                refine nx ?_
                refine wpC_region ?_
                refine st_val (ex_add rfl rfl (ck_in (by omega) (by omega))) (by decide) trivial ?_
                refine st_val (ex_move rfl) (by decide) trivial ?_
                refine wpF_end (r := [(1, (.pointer (some ⟨b9, 0, none⟩))), (3, (.int .i64 i43)), (37, v1), (38, (.int .i64 (p0.Ends.length : Int))), (39, (.int .i64 i43)), (47, v59), (48, (.int .i64 (x53.length : Int))), (49, (.int .i64 (i65 + 1)))]) ⟨rfl, rfl, rfl, rfl, rfl, rfl, rfl, rfl, trivial⟩ ?_
                refine nt_norm ?_
                have e673 := Option.some.inj b72
                subst e673
                refine to_k (r := [(1, (.pointer (some ⟨b9, 0, none⟩))), (3, (.int .i64 i43)), (37, v1), (38, (.int .i64 (p0.Ends.length : Int))), (39, (.int .i64 i43)), (47, v59), (48, (.int .i64 (x53.length : Int))), (49, (.int .i64 (i65 + 1)))]) ⟨rfl, rfl, rfl, rfl, rfl, rfl, rfl, rfl, trivial⟩ ?_
                intro a ha
                exact ⟨_, (by rw [← m69]; simp only [List.length_drop]; omega), i65 + 1, o90, n73, rfl, (by omega), ha, hB, h10⟩
            · have r674 := forI_done t74 l67
              refine wp_of ha ?_
              refine wpC_seq ?_
              refine wpC_region ?_
              refine st_val (ex_lss rfl rfl) (by decide) trivial ?_
              refine wpF_end (r := [(1, (.pointer (some ⟨b9, 0, none⟩))), (3, (.int .i64 i43)), (37, v1), (38, (.int .i64 (p0.Ends.length : Int))), (39, (.int .i64 i43)), (47, v59), (48, (.int .i64 (x53.length : Int))), (49, (.int .i64 i65)), (50, (.bool (decide (i65 < (x53.length : Int)))))]) ⟨rfl, rfl, rfl, rfl, rfl, rfl, rfl, rfl, rfl, trivial⟩ ?_
              refine nx ?_
              refine wpC_seq ?_
              refine wpC_false (congrArg (fun b => some (Value.bool b)) (decide_eq_false t74)) ?_
              refine wpC_exit ?_
              refine nt_exit ?_
              refine nt_exit ?_
              refine nb_hit ?_
              refine np_norm ?_
              refine to_k (r := [(1, (.pointer (some ⟨b9, 0, none⟩))), (37, v1), (38, (.int .i64 (p0.Ends.length : Int))), (39, (.int .i64 i43))]) ⟨rfl, rfl, rfl, rfl, trivial⟩ ?_
              intro a ha
              exact ⟨o63, r674, ha, hB, h10⟩
          · rintro a w64 ⟨o63, rfl, ha, hB, h10⟩
            dsimp only at b50
            refine ap_k ha ?_
            refine nb_norm ?_
            refine nx ?_
            refine wpC_region ?_
            refine st_val (ex_add rfl rfl (ck_in (by omega) (by omega))) (by decide) trivial ?_
            refine st_val (ex_move rfl) (by decide) trivial ?_
            refine wpF_end (r := [(1, (.pointer (some ⟨b9, 0, none⟩))), (37, v1), (38, (.int .i64 (p0.Ends.length : Int))), (39, (.int .i64 (i43 + 1)))]) ⟨rfl, rfl, rfl, rfl, trivial⟩ ?_
            refine nt_norm ?_
            have e675 := Option.some.inj b50
            subst e675
            refine to_k (r := [(1, (.pointer (some ⟨b9, 0, none⟩))), (37, v1), (38, (.int .i64 (p0.Ends.length : Int))), (39, (.int .i64 (i43 + 1)))]) ⟨rfl, rfl, rfl, rfl, trivial⟩ ?_
            intro a ha
            exact ⟨_, (by rw [← m47]; simp only [List.length_drop]; omega), i43 + 1, o63, n51, rfl, (by omega), ha, hB, h10⟩
          · rintro a w64 ⟨r', rfl, b676⟩
            dsimp only at b50
            have e677 := Option.some.inj b50
            subst e677
            exact ⟨_, n51, b676⟩
      · have r678 := forI_done t52 l45
        refine wp_of ha ?_
        refine wpC_seq ?_
        refine wpC_region ?_
        refine st_val (ex_lss rfl rfl) (by decide) trivial ?_
        refine wpF_end (r := [(1, (.pointer (some ⟨b9, 0, none⟩))), (37, v1), (38, (.int .i64 (p0.Ends.length : Int))), (39, (.int .i64 i43)), (40, (.bool (decide (i43 < (p0.Ends.length : Int)))))]) ⟨rfl, rfl, rfl, rfl, rfl, trivial⟩ ?_
        refine nx ?_
        refine wpC_seq ?_
        refine wpC_false (congrArg (fun b => some (Value.bool b)) (decide_eq_false t52)) ?_
        refine wpC_exit ?_
        refine nt_exit ?_
        refine nt_exit ?_
        refine nb_hit ?_
        refine np_norm ?_
        refine to_k (r := []) trivial ?_
        intro a ha
        exact ⟨o41, r678, ha, hB⟩
    · rintro a w42 ⟨o41, rfl, ha, hB⟩
      dsimp only at hF
      refine ap_k ha ?_
      refine nx ?_
      refine wpC_seq ?_
      refine wpC_region ?_
      refine st_val (ex_assign rfl) (by decide) trivial ?_
      refine wpF_end (r := [(2, (.bool true))]) ⟨rfl, trivial⟩ ?_
      refine nx ?_
      refine wpC_ret ?_
      have e679 := Option.some.inj hF
      subst e679
      refine ret_post (P := Try.prog) (vs := [(.bool true)]) Try.results76 ⟨rfl, trivial⟩ ?_
      exact ⟨rfl, hB.keeps⟩
    · rintro a w42 ⟨r', rfl, b680⟩
      dsimp only at hF
      have e681 := Option.some.inj hF
      subst e681
      exact b680

def fS_neNode (p0 : T_Network) (p1 : Int) : Option Bool :=
  (fS_neGood p0) >>= fun x12 =>
  (
    if x12 then
      (ck ((p0.Ends.length : Int) - 1)) >>= fun x22 =>
      (fS_l1In p1 0 x22) >>= fun x23 =>
      some x23
    else
      some false) >>= fun q18 =>
  some q18

def fI_idsOk (p0 : List Int) (p1 : Int) : Option Bool :=
  if (p0.length : Int) == 0 then
    some true
  else
    (fX_slices_Clone_int_int p0) >>= fun x3 =>
    (srtO x3) >>= fun x18 =>
    (
      if (p0.length : Int) == p1 then
        (fI_increasing x18 1 999999) >>= fun x24 =>
        some x24
      else
        some false) >>= fun q20 =>
    some q20

def pI_idsOk (w : World) (r : Bool) : Ending → World → Prop := fun e w' => e = .returned (.bool r) ∧ Keeps w w'
set_option maxRecDepth 100000 in
set_option maxHeartbeats 2000000 in
theorem cI_idsOk (w : World) (u0 : Value) (p0 : List Int) (g0 : RdL zt w u0 p0) (p1 : Int) (r : Bool) (hF : fI_idsOk p0 p1 = some r) :
    Calls Try.prog 96 #[u0, .int .i64 p1] w (pI_idsOk w r) := by
  unfold fI_idsOk at hF
  have hB : Bs (fun _ => 1) (col (fun _ => 1)) w w := Bs.start _ _
  refine calls_start (n := 21) (vs := [u0, (.int .i64 p1)]) Try.func96 rfl rfl ?_
  refine wpC_seq ?_
  refine wpC_region ?_
  refine st_val (ex_assign rfl) (by decide) trivial ?_
  refine wpF_end (r := [(0, u0), (1, (.int .i64 p1))]) ⟨rfl, rfl, trivial⟩ ?_
  refine nx ?_
  refine wpC_seq ?_
  refine wpC_seq ?_
  refine wpC_region ?_
  refine st_val (ex_move rfl) (by decide) trivial ?_
  refine st_val (ex_lenR rfl g0 Try.underlying23) (by decide) trivial ?_
  refine st_val (ex_eql rfl rfl) (by decide) trivial ?_
  refine wpF_end (r := [(0, u0), (1, (.int .i64 p1)), (8, (.bool ((p0.length : Int) == 0)))]) ⟨rfl, rfl, rfl, trivial⟩ ?_
  refine nx ?_
  refine wpC_cond rfl (fun t1 => ?_) (fun t1 => ?_)
  · rw [if_pos t1] at hF
    refine wpC_seq ?_
    refine wpC_region ?_
    refine st_val (ex_assign rfl) (by decide) trivial ?_
    refine wpF_end (r := [(4, (.bool true))]) ⟨rfl, trivial⟩ ?_
    refine nx ?_
    refine wpC_ret ?_
    refine nt_ret ?_
    have e2 := Option.some.inj hF
    subst e2
    refine ret_post (P := Try.prog) (vs := [(.bool true)]) Try.results96 ⟨rfl, trivial⟩ ?_
    exact ⟨rfl, hB.keeps⟩
  · rw [if_neg (by rw [t1]; decide)] at hF
    refine wpC_skip ?_
    refine nx ?_
    refine wpC_seq ?_
    refine wpC_region ?_
    refine st_val (ex_move rfl) (by decide) trivial ?_
    obtain ⟨x3, hx3, hF⟩ := bind_some hF
    refine st_op (by decide) trivial ?_
    refine wf_call (cX_slices_Clone_int_int w (col (fun _ => 1)) 11 (by decide) _ p0 (g0.keep hB.keeps) x3 hx3) Try.call129 ⟨rfl, trivial⟩ ?_
    rintro e10 w4 ⟨v5, o11, rfl, h6, k7, k8⟩
    have s9 := k7.stp' 11 k8
    replace h6 := h6.mono hB.keeps.size
    refine ⟨_, rfl, ?_⟩
    replace hB := hB.stp s9 (by decide)
    refine st_val (ex_assign rfl) (by decide) trivial ?_
    refine wpF_end (r := [(0, u0), (1, (.int .i64 p1)), (5, v5)]) ⟨rfl, rfl, rfl, trivial⟩ ?_
    refine nx ?_
    refine wpC_seq ?_
    refine wpC_region ?_
    refine st_val (ex_move rfl) (by decide) trivial ?_
    obtain ⟨x18, hx18, hF⟩ := bind_some hF
    refine st_op (by decide) trivial ?_
    refine wf_call (cX_Sort h6 hx18) Try.call122 ⟨rfl, trivial⟩ ?_
    rintro e13 w12 ⟨rfl, h19, s16⟩
    refine ⟨_, rfl, ?_⟩
    replace hB := hB.stp s16 (by decide)
    refine wpF_end (r := [(0, u0), (1, (.int .i64 p1)), (5, v5)]) ⟨rfl, rfl, rfl, trivial⟩ ?_
    refine nx ?_
    refine wpC_seq ?_
    refine wpC_region ?_
    refine st_val (ex_move rfl) (by decide) trivial ?_
    refine st_val (ex_lenR rfl g0 Try.underlying23) (by decide) trivial ?_
    refine st_val (ex_move rfl) (by decide) trivial ?_
    refine st_val (ex_eql rfl rfl) (by decide) trivial ?_
    refine st_val (ex_move rfl) (by decide) trivial ?_
    obtain ⟨q20, hq20, hF⟩ := bind_some hF
    refine wpF_cutAt 3 (fun a22 w21 => Fr a22 21 [(20, (.bool q20))] ∧ Keeps w12 w21) ?_ ?_
    all_goals simp only [List.take_succ_cons, List.take_zero, List.drop_succ_cons, List.drop_zero]
    · have kp : Keeps w12 w12 := Keeps.refl _
      rcases Bool.eq_false_or_eq_true ((p0.length : Int) == p1) with t23 | t23
      · rw [if_pos t23] at hq20
        refine st_val (ex_move rfl) (by decide) ⟨_, rfl, (congrArg (fun b => some (Value.bool b)) t23)⟩ ?_
        obtain ⟨x24, hx24, hq20⟩ := bind_some hq20
        refine st_op (by decide) ⟨_, rfl, (congrArg (fun b => some (Value.bool b)) t23)⟩ ?_
        refine wf_call (cI_increasing w12 _ x18 h19.z 1 999999 x24 hx24) Try.call130 ⟨rfl, rfl, rfl, trivial⟩ ?_
        rintro e29 w25 ⟨rfl, k26⟩
        have s28 := k26.stp 999 o11
        refine ⟨_, rfl, ?_⟩
        replace h19 := h19.stp s28 (by decide) (by decide)
        replace hB := hB.stp s28 (by decide)
        replace kp := Keeps.trans kp k26
        refine st_val (ex_pick_t (congrArg (fun b => some (Value.bool b)) t23) rfl) (by decide) trivial ?_
        have hq202 := Option.some.inj hq20
        refine wpF_end (r := [(20, (.bool x24))]) ⟨rfl, trivial⟩ ?_
        subst hq202
        refine np_norm (fun a ha => ⟨ha, kp⟩)
      · rw [if_neg (by rw [t23]; decide)] at hq20
        refine st_no rfl rfl (by rw [t23]; rfl) (by decide) ?_
        refine st_no rfl rfl (by rw [t23]; rfl) (by decide) ?_
        refine st_val (ex_pick_f (congrArg (fun b => some (Value.bool b)) t23) rfl) (by decide) trivial ?_
        have hq202 := Option.some.inj hq20
        refine wpF_end (r := [(20, (.bool false))]) ⟨rfl, trivial⟩ ?_
        subst hq202
        refine np_norm (fun a ha => ⟨ha, kp⟩)
    rintro a32 w21 ⟨ha, k30⟩
    have s31 := k30.stp 999 o11
    replace hB := hB.stp s31 (by decide)
    refine wl_of ha ?_
    refine st_val (ex_assign rfl) (by decide) trivial ?_
    refine wpF_end (r := [(4, (.bool q20))]) ⟨rfl, trivial⟩ ?_
    refine nx ?_
    refine wpC_ret ?_
    have e33 := Option.some.inj hF
    subst e33
    refine ret_post (P := Try.prog) (vs := [(.bool q20)]) Try.results96 ⟨rfl, trivial⟩ ?_
    exact ⟨rfl, hB.keeps⟩

def fI_inputsOk (p0 : List Int) (p1 : Int) : Option Bool :=
  (
    if (p0.length : Int) == p1 then
      (fI_allWithin p0 0 9) >>= fun x5 =>
      some x5
    else
      some false) >>= fun q1 =>
  some q1

def pI_inputsOk (w : World) (r : Bool) : Ending → World → Prop := fun e w' => e = .returned (.bool r) ∧ Keeps w w'
set_option maxRecDepth 100000 in
set_option maxHeartbeats 2000000 in
theorem cI_inputsOk (w : World) (u0 : Value) (p0 : List Int) (g0 : RdL zt w u0 p0) (p1 : Int) (r : Bool) (hF : fI_inputsOk p0 p1 = some r) :
    Calls Try.prog 97 #[u0, .int .i64 p1] w (pI_inputsOk w r) := by
  unfold fI_inputsOk at hF
  have hB : Bs (fun _ => 1) (col (fun _ => 1)) w w := Bs.start _ _
  refine calls_start (n := 13) (vs := [u0, (.int .i64 p1)]) Try.func97 rfl rfl ?_
  refine wpC_seq ?_
  refine wpC_region ?_
  refine st_val (ex_assign rfl) (by decide) trivial ?_
  refine wpF_end (r := [(0, u0), (1, (.int .i64 p1))]) ⟨rfl, rfl, trivial⟩ ?_
  refine nx ?_
  refine wpC_seq ?_
  refine wpC_region ?_
  refine st_val (ex_move rfl) (by decide) trivial ?_
  refine st_val (ex_lenR rfl g0 Try.underlying23) (by decide) trivial ?_
  refine st_val (ex_move rfl) (by decide) trivial ?_
  refine st_val (ex_eql rfl rfl) (by decide) trivial ?_
  refine st_val (ex_move rfl) (by decide) trivial ?_
  obtain ⟨q1, hq1, hF⟩ := bind_some hF
  refine wpF_cutAt 3 (fun a3 w2 => Fr a3 13 [(12, (.bool q1))] ∧ Keeps w w2) ?_ ?_
  all_goals simp only [List.take_succ_cons, List.take_zero, List.drop_succ_cons, List.drop_zero]
  · have kp : Keeps w w := Keeps.refl _
    rcases Bool.eq_false_or_eq_true ((p0.length : Int) == p1) with t4 | t4
    · rw [if_pos t4] at hq1
      refine st_val (ex_move rfl) (by decide) ⟨_, rfl, (congrArg (fun b => some (Value.bool b)) t4)⟩ ?_
      obtain ⟨x5, hx5, hq1⟩ := bind_some hq1
      refine st_op (by decide) ⟨_, rfl, (congrArg (fun b => some (Value.bool b)) t4)⟩ ?_
      refine wf_call (cI_allWithin w _ p0 (g0.keep hB.keeps) 0 9 x5 hx5) Try.call131 ⟨rfl, rfl, rfl, trivial⟩ ?_
      rintro e10 w6 ⟨rfl, k7⟩
      have s9 := k7.stp 999 (col (fun _ => 1))
      refine ⟨_, rfl, ?_⟩
      replace hB := hB.stp s9 (by decide)
      replace kp := Keeps.trans kp k7
      refine st_val (ex_pick_t (congrArg (fun b => some (Value.bool b)) t4) rfl) (by decide) trivial ?_
      have hq12 := Option.some.inj hq1
      refine wpF_end (r := [(12, (.bool x5))]) ⟨rfl, trivial⟩ ?_
      subst hq12
      refine np_norm (fun a ha => ⟨ha, kp⟩)
    · rw [if_neg (by rw [t4]; decide)] at hq1
      refine st_no rfl rfl (by rw [t4]; rfl) (by decide) ?_
      refine st_no rfl rfl (by rw [t4]; rfl) (by decide) ?_
      refine st_val (ex_pick_f (congrArg (fun b => some (Value.bool b)) t4) rfl) (by decide) trivial ?_
      have hq12 := Option.some.inj hq1
      refine wpF_end (r := [(12, (.bool false))]) ⟨rfl, trivial⟩ ?_
      subst hq12
      refine np_norm (fun a ha => ⟨ha, kp⟩)
  rintro a13 w2 ⟨ha, k11⟩
  have s12 := k11.stp 999 (col (fun _ => 1))
  replace hB := hB.stp s12 (by decide)
  refine wl_of ha ?_
  refine st_val (ex_assign rfl) (by decide) trivial ?_
  refine wpF_end (r := [(4, (.bool q1))]) ⟨rfl, trivial⟩ ?_
  refine nx ?_
  refine wpC_ret ?_
  have e14 := Option.some.inj hF
  subst e14
  refine ret_post (P := Try.prog) (vs := [(.bool q1)]) Try.results97 ⟨rfl, trivial⟩ ?_
  exact ⟨rfl, hB.keeps⟩

def fI_Network_hasNode (p0 : T_Network) (p1 : Int) : Option Bool :=
  (ck ((p0.Ends.length : Int) - 1)) >>= fun x12 =>
  (fI_within p1 0 x12) >>= fun x13 =>
  some x13

def pI_Network_hasNode (w : World) (r : Bool) : Ending → World → Prop := fun e w' => e = .returned (.bool r) ∧ Keeps w w'
set_option maxRecDepth 100000 in
set_option maxHeartbeats 2000000 in
theorem cI_Network_hasNode (w : World) (u0 : List Value) (p0 : T_Network) (g0 : Rp.rd zt w u0 p0) (p1 : Int) (r : Bool) (hF : fI_Network_hasNode p0 p1 = some r) :
    Calls Try.prog 66 #[.agg u0.toArray, .int .i64 p1] w (pI_Network_hasNode w r) := by
  unfold fI_Network_hasNode at hF
  obtain ⟨v1, v3, v5, rfl, h2, h4, h6⟩ := g0
  have hB : Bs (fun _ => 1) (col (fun _ => 1)) w w := Bs.start _ _
  refine calls_start (n := 11) (vs := [(.agg #[v1, v3, v5]), (.int .i64 p1)]) Try.func66 rfl rfl ?_
  refine wpC_seq ?_
  refine wpC_region ?_
  refine st_op (by decide) trivial ?_
  refine wf_box (o := (col (fun _ => 1))) w.heap.size 11 hB.keeps.size (cs := [v1, v3, v5]) rfl rfl ?_
  intro o7 w8 b9 h10 s11
  replace hB := hB.stp s11 (by decide)
  refine st_val (ex_assign rfl) (by decide) trivial ?_
  refine wpF_end (r := [(1, (.int .i64 p1)), (2, (.pointer (some ⟨b9, 0, none⟩)))]) ⟨rfl, rfl, trivial⟩ ?_
  refine nx ?_
  refine wpC_seq ?_
  refine wpC_region ?_
  refine st_val (ex_move rfl) (by decide) trivial ?_
  refine st_val (ex_field rfl Try.underlying31 rfl Try.sizeOf29) (by decide) trivial ?_
  refine st_val (ex_load1 rfl Try.isAgg29 (h10.cell rfl)) (by decide) trivial ?_
  refine st_val (ex_lenR rfl h2 Try.underlying29) (by decide) trivial ?_
  obtain ⟨x12, hx12, hF⟩ := bind_some hF
  refine st_val (ex_sub rfl rfl hx12) (by decide) trivial ?_
  obtain ⟨x13, hx13, hF⟩ := bind_some hF
  refine st_op (by decide) trivial ?_
  refine wf_call (cI_within w8 p1 0 x12 x13 hx13) Try.call95 ⟨rfl, rfl, rfl, trivial⟩ ?_
  rintro e18 w14 ⟨rfl, k15⟩
  have s17 := k15.stp 999 o7
  refine ⟨_, rfl, ?_⟩
  replace h10 := h10.stp s17 (by decide)
  replace hB := hB.stp s17 (by decide)
  refine st_val (ex_assign rfl) (by decide) trivial ?_
  refine wpF_end (r := [(4, (.bool x13))]) ⟨rfl, trivial⟩ ?_
  refine nx ?_
  refine wpC_ret ?_
  have e19 := Option.some.inj hF
  subst e19
  refine ret_post (P := Try.prog) (vs := [(.bool x13)]) Try.results66 ⟨rfl, trivial⟩ ?_
  exact ⟨rfl, hB.keeps⟩

def fI_Network_hasPort (p0 : T_Network) (p1 : Int) (p2 : Int) : Option Bool :=
  (fI_Network_hasNode p0 p1) >>= fun x12 =>
  (
    if x12 then
      (ix p0.Ends p1) >>= fun x22 =>
      (ck ((x22.length : Int) - 1)) >>= fun x30 =>
      (fI_within p2 0 x30) >>= fun x31 =>
      some x31
    else
      some false) >>= fun q18 =>
  some q18

def pI_Network_hasPort (w : World) (r : Bool) : Ending → World → Prop := fun e w' => e = .returned (.bool r) ∧ Keeps w w'
set_option maxRecDepth 100000 in
set_option maxHeartbeats 2000000 in
theorem cI_Network_hasPort (w : World) (u0 : List Value) (p0 : T_Network) (g0 : Rp.rd zt w u0 p0) (p1 : Int) (p2 : Int) (r : Bool) (hF : fI_Network_hasPort p0 p1 p2 = some r) :
    Calls Try.prog 98 #[.agg u0.toArray, .int .i64 p1, .int .i64 p2] w (pI_Network_hasPort w r) := by
  unfold fI_Network_hasPort at hF
  obtain ⟨v1, v3, v5, rfl, h2, h4, h6⟩ := g0
  have hB : Bs (fun _ => 1) (col (fun _ => 1)) w w := Bs.start _ _
  refine calls_start (n := 21) (vs := [(.agg #[v1, v3, v5]), (.int .i64 p1), (.int .i64 p2)]) Try.func98 rfl rfl ?_
  refine wpC_seq ?_
  refine wpC_region ?_
  refine st_op (by decide) trivial ?_
  refine wf_box (o := (col (fun _ => 1))) w.heap.size 11 hB.keeps.size (cs := [v1, v3, v5]) rfl rfl ?_
  intro o7 w8 b9 h10 s11
  replace hB := hB.stp s11 (by decide)
  refine st_val (ex_assign rfl) (by decide) trivial ?_
  refine wpF_end (r := [(1, (.int .i64 p1)), (2, (.int .i64 p2)), (3, (.pointer (some ⟨b9, 0, none⟩)))]) ⟨rfl, rfl, rfl, trivial⟩ ?_
  refine nx ?_
  refine wpC_seq ?_
  refine wpC_region ?_
  refine st_val (ex_loadA rfl Try.isAgg31 Try.sizeOf31 rfl h10.cells) (by decide) trivial ?_
  refine st_val (ex_move rfl) (by decide) trivial ?_
  obtain ⟨x12, hx12, hF⟩ := bind_some hF
  refine st_op (by decide) trivial ?_
  refine wf_call (cI_Network_hasNode w8 _ p0 (⟨_, _, _, rfl, (h2.keep hB.keeps), (h4.keep hB.keeps), (h6.keep hB.keeps)⟩) p1 x12 hx12) Try.call66 ⟨rfl, rfl, trivial⟩ ?_
  rintro e17 w13 ⟨rfl, k14⟩
  have s16 := k14.stp 999 o7
  refine ⟨_, rfl, ?_⟩
  replace h10 := h10.stp s16 (by decide)
  replace hB := hB.stp s16 (by decide)
  refine st_val (ex_move rfl) (by decide) trivial ?_
  obtain ⟨q18, hq18, hF⟩ := bind_some hF
  refine wpF_cutAt 10 (fun a20 w19 => Fr a20 21 [(20, (.bool q18))] ∧ Keeps w13 w19) ?_ ?_
  all_goals simp only [List.take_succ_cons, List.take_zero, List.drop_succ_cons, List.drop_zero]
  · have kp : Keeps w13 w13 := Keeps.refl _
    rcases Bool.eq_false_or_eq_true (x12) with t21 | t21
    · rw [if_pos t21] at hq18
      refine st_val (ex_move rfl) (by decide) ⟨_, rfl, (congrArg (fun b => some (Value.bool b)) t21)⟩ ?_
      refine st_val (ex_field rfl Try.underlying31 rfl Try.sizeOf29) (by decide) ⟨_, rfl, (congrArg (fun b => some (Value.bool b)) t21)⟩ ?_
      refine st_val (ex_load1 rfl Try.isAgg29 (h10.cell rfl)) (by decide) ⟨_, rfl, (congrArg (fun b => some (Value.bool b)) t21)⟩ ?_
      refine st_val (ex_move rfl) (by decide) ⟨_, rfl, (congrArg (fun b => some (Value.bool b)) t21)⟩ ?_
      obtain ⟨x22, hx22, hq18⟩ := bind_some hq18
      refine st_op (by decide) ⟨_, rfl, (congrArg (fun b => some (Value.bool b)) t21)⟩ ?_
      refine wf_atZ h2 hx22 hB rfl rfl Try.underlying29 Try.sizeOf110 ?_
      intro b23 f24 c25 h26 h27
      obtain ⟨v28, rfl, h29⟩ := h27
      refine st_val (ex_load1 rfl Try.isAgg110 (cell_of_cells h26)) (by decide) ⟨_, rfl, (congrArg (fun b => some (Value.bool b)) t21)⟩ ?_
      refine st_val (ex_lenR rfl h29 Try.underlying110) (by decide) ⟨_, rfl, (congrArg (fun b => some (Value.bool b)) t21)⟩ ?_
      obtain ⟨x30, hx30, hq18⟩ := bind_some hq18
      refine st_val (ex_sub rfl rfl hx30) (by decide) ⟨_, rfl, (congrArg (fun b => some (Value.bool b)) t21)⟩ ?_
      obtain ⟨x31, hx31, hq18⟩ := bind_some hq18
      refine st_op (by decide) ⟨_, rfl, (congrArg (fun b => some (Value.bool b)) t21)⟩ ?_
      refine wf_call (cI_within w13 p2 0 x30 x31 hx31) Try.call95 ⟨rfl, rfl, rfl, trivial⟩ ?_
      rintro e36 w32 ⟨rfl, k33⟩
      have s35 := k33.stp 999 o7
      refine ⟨_, rfl, ?_⟩
      replace h10 := h10.stp s35 (by decide)
      replace hB := hB.stp s35 (by decide)
      replace kp := Keeps.trans kp k33
      refine st_val (ex_pick_t (congrArg (fun b => some (Value.bool b)) t21) rfl) (by decide) trivial ?_
      have hq182 := Option.some.inj hq18
      refine wpF_end (r := [(20, (.bool x31))]) ⟨rfl, trivial⟩ ?_
      subst hq182
      refine np_norm (fun a ha => ⟨ha, kp⟩)
    · rw [if_neg (by rw [t21]; decide)] at hq18
      refine st_no rfl rfl (by rw [t21]; rfl) (by decide) ?_
      refine st_no rfl rfl (by rw [t21]; rfl) (by decide) ?_
      refine st_no rfl rfl (by rw [t21]; rfl) (by decide) ?_
      refine st_no rfl rfl (by rw [t21]; rfl) (by decide) ?_
      refine st_no rfl rfl (by rw [t21]; rfl) (by decide) ?_
      refine st_no rfl rfl (by rw [t21]; rfl) (by decide) ?_
      refine st_no rfl rfl (by rw [t21]; rfl) (by decide) ?_
      refine st_no rfl rfl (by rw [t21]; rfl) (by decide) ?_
      refine st_no rfl rfl (by rw [t21]; rfl) (by decide) ?_
      refine st_val (ex_pick_f (congrArg (fun b => some (Value.bool b)) t21) rfl) (by decide) trivial ?_
      have hq182 := Option.some.inj hq18
      refine wpF_end (r := [(20, (.bool false))]) ⟨rfl, trivial⟩ ?_
      subst hq182
      refine np_norm (fun a ha => ⟨ha, kp⟩)
  rintro a39 w19 ⟨ha, k37⟩
  have s38 := k37.stp 999 o7
  replace h10 := h10.stp s38 (by decide)
  replace hB := hB.stp s38 (by decide)
  refine wl_of ha ?_
  refine st_val (ex_assign rfl) (by decide) trivial ?_
  refine wpF_end (r := [(6, (.bool q18))]) ⟨rfl, trivial⟩ ?_
  refine nx ?_
  refine wpC_ret ?_
  have e40 := Option.some.inj hF
  subst e40
  refine ret_post (P := Try.prog) (vs := [(.bool q18)]) Try.results98 ⟨rfl, trivial⟩ ?_
  exact ⟨rfl, hB.keeps⟩

def fI_IsNetwork_s2 (p0 : T_Network) (i42 : Int) : Int → T_End → Unit → Option (Lp Unit Unit Bool) := fun (i64 : Int) (x74 : T_End) (s : Unit) =>
  (
    (fI_Network_hasPort p0 x74.Node x74.Port) >>= fun x92 =>
    if !x92 then
      some true
    else
      (ix p0.Ends x74.Node) >>= fun x194 =>
      (ix x194 x74.Port) >>= fun x200 =>
      some (!(x200.Node == i42 && x200.Port == i64))) >>= fun q88 =>
  if q88 then
    some (.ret false)
  else
    some (.go ())
def fI_IsNetwork_s1 (p0 : T_Network) : Int → (List T_End) → Unit → Option (Lp Unit Unit Bool) := fun (i42 : Int) (x52 : List T_End) (s : Unit) =>
  if decide ((x52.length : Int) > 6) then
    some (.ret false)
  else
    (forI (fI_IsNetwork_s2 p0 i42) x52 0 ()) >>= fun q65 =>
    match q65 with
    | .inl _ =>
      some (.go ())
    | .inr r' => some (.ret r')
def fI_IsNetwork (p0 : T_Network) : Option Bool :=
  (fI_within (p0.Ends.length : Int) 1 40) >>= fun x12 =>
  (
    if !x12 then
      some true
    else
      (fI_idsOk p0.Ids (p0.Ends.length : Int)) >>= fun x22 =>
      if !x22 then
        some true
      else
        (fI_inputsOk p0.Inputs (p0.Ends.length : Int)) >>= fun x29 =>
        some (!x29)) >>= fun q18 =>
  if q18 then
    some false
  else
    (forI (fI_IsNetwork_s1 p0) p0.Ends 0 ()) >>= fun q43 =>
    match q43 with
    | .inl _ =>
      some true
    | .inr r' => some r'

def pI_IsNetwork (w : World) (r : Bool) : Ending → World → Prop := fun e w' => e = .returned (.bool r) ∧ Keeps w w'
set_option maxRecDepth 100000 in
set_option maxHeartbeats 2000000 in
theorem cI_IsNetwork (w : World) (u0 : List Value) (p0 : T_Network) (g0 : Rp.rd zt w u0 p0) (r : Bool) (hF : fI_IsNetwork p0 = some r) :
    Calls Try.prog 65 #[.agg u0.toArray] w (pI_IsNetwork w r) := by
  unfold fI_IsNetwork at hF
  obtain ⟨v1, v3, v5, rfl, h2, h4, h6⟩ := g0
  have hB : Bs (fun _ => 1) (col (fun _ => 1)) w w := Bs.start _ _
  refine calls_start (n := 73) (vs := [(.agg #[v1, v3, v5])]) Try.func65 rfl rfl ?_
  refine wpC_seq ?_
  refine wpC_region ?_
  refine st_op (by decide) trivial ?_
  refine wf_box (o := (col (fun _ => 1))) w.heap.size 11 hB.keeps.size (cs := [v1, v3, v5]) rfl rfl ?_
  intro o7 w8 b9 h10 s11
  replace hB := hB.stp s11 (by decide)
  refine st_val (ex_assign rfl) (by decide) trivial ?_
  refine wpF_end (r := [(1, (.pointer (some ⟨b9, 0, none⟩)))]) ⟨rfl, trivial⟩ ?_
  refine nx ?_
  refine wpC_seq ?_
  refine wpC_seq ?_
  refine wpC_region ?_
  refine st_val (ex_field rfl Try.underlying31 rfl Try.sizeOf29) (by decide) trivial ?_
  refine st_val (ex_load1 rfl Try.isAgg29 (h10.cell rfl)) (by decide) trivial ?_
  refine st_val (ex_lenR rfl h2 Try.underlying29) (by decide) trivial ?_
  obtain ⟨x12, hx12, hF⟩ := bind_some hF
  refine st_op (by decide) trivial ?_
  refine wf_call (cI_within w8 (p0.Ends.length : Int) 1 40 x12 hx12) Try.call95 ⟨rfl, rfl, rfl, trivial⟩ ?_
  rintro e17 w13 ⟨rfl, k14⟩
  have s16 := k14.stp 999 o7
  refine ⟨_, rfl, ?_⟩
  replace h10 := h10.stp s16 (by decide)
  replace hB := hB.stp s16 (by decide)
  refine st_val (ex_not rfl) (by decide) trivial ?_
  refine st_val (ex_move rfl) (by decide) trivial ?_
  obtain ⟨q18, hq18, hF⟩ := bind_some hF
  refine wpF_cutAt 17 (fun a20 w19 => Fr a20 73 [(1, (.pointer (some ⟨b9, 0, none⟩))), (29, (.bool q18))] ∧ Keeps w13 w19) ?_ ?_
  all_goals simp only [List.take_succ_cons, List.take_zero, List.drop_succ_cons, List.drop_zero]
  · have kp : Keeps w13 w13 := Keeps.refl _
    rcases Bool.eq_false_or_eq_true (!x12) with t21 | t21
    · rw [if_pos t21] at hq18
      refine st_no rfl rfl (by rw [t21]; rfl) (by decide) ?_
      refine st_no rfl rfl (by rw [t21]; rfl) (by decide) ?_
      refine st_no rfl rfl (by rw [t21]; rfl) (by decide) ?_
      refine st_no rfl rfl (by rw [t21]; rfl) (by decide) ?_
      refine st_no rfl rfl (by rw [t21]; rfl) (by decide) ?_
      refine st_no rfl rfl (by rw [t21]; rfl) (by decide) ?_
      refine st_no rfl rfl (by rw [t21]; rfl) (by decide) ?_
      refine st_val (ex_pick_t (congrArg (fun b => some (Value.bool b)) t21) rfl) (by decide) trivial ?_
      refine st_val (ex_move rfl) (by decide) trivial ?_
      refine st_no rfl rfl rfl (by decide) ?_
      refine st_no rfl rfl rfl (by decide) ?_
      refine st_no rfl rfl rfl (by decide) ?_
      refine st_no rfl rfl rfl (by decide) ?_
      refine st_no rfl rfl rfl (by decide) ?_
      refine st_no rfl rfl rfl (by decide) ?_
      refine st_no rfl rfl rfl (by decide) ?_
      refine st_val (ex_pick_t rfl rfl) (by decide) trivial ?_
      have hq182 := Option.some.inj hq18
      refine wpF_end (r := [(1, (.pointer (some ⟨b9, 0, none⟩))), (29, (.bool true))]) ⟨rfl, rfl, trivial⟩ ?_
      subst hq182
      refine np_norm (fun a ha => ⟨ha, kp⟩)
    · rw [if_neg (by rw [t21]; decide)] at hq18
      refine st_val (ex_field rfl Try.underlying31 rfl Try.sizeOf23) (by decide) ⟨_, rfl, (congrArg (fun b => some (Value.bool b)) t21)⟩ ?_
      refine st_val (ex_load1 rfl Try.isAgg23 (h10.cell rfl)) (by decide) ⟨_, rfl, (congrArg (fun b => some (Value.bool b)) t21)⟩ ?_
      refine st_val (ex_field rfl Try.underlying31 rfl Try.sizeOf29) (by decide) ⟨_, rfl, (congrArg (fun b => some (Value.bool b)) t21)⟩ ?_
      refine st_val (ex_load1 rfl Try.isAgg29 (h10.cell rfl)) (by decide) ⟨_, rfl, (congrArg (fun b => some (Value.bool b)) t21)⟩ ?_
      refine st_val (ex_lenR rfl h2 Try.underlying29) (by decide) ⟨_, rfl, (congrArg (fun b => some (Value.bool b)) t21)⟩ ?_
      obtain ⟨x22, hx22, hq18⟩ := bind_some hq18
      refine st_op (by decide) ⟨_, rfl, (congrArg (fun b => some (Value.bool b)) t21)⟩ ?_
      refine wf_call (cI_idsOk w13 _ p0.Ids (h4.keep hB.keeps) (p0.Ends.length : Int) x22 hx22) Try.call96 ⟨rfl, rfl, trivial⟩ ?_
      rintro e27 w23 ⟨rfl, k24⟩
      have s26 := k24.stp 999 o7
      refine ⟨_, rfl, ?_⟩
      replace h10 := h10.stp s26 (by decide)
      replace hB := hB.stp s26 (by decide)
      replace kp := Keeps.trans kp k24
      refine st_val (ex_not rfl) (by decide) ⟨_, rfl, (congrArg (fun b => some (Value.bool b)) t21)⟩ ?_
      refine st_val (ex_pick_f (congrArg (fun b => some (Value.bool b)) t21) rfl) (by decide) trivial ?_
      refine st_val (ex_move rfl) (by decide) trivial ?_
      rcases Bool.eq_false_or_eq_true (!x22) with t28 | t28
      · rw [if_pos t28] at hq18
        refine st_no rfl rfl (by rw [t28]; rfl) (by decide) ?_
        refine st_no rfl rfl (by rw [t28]; rfl) (by decide) ?_
        refine st_no rfl rfl (by rw [t28]; rfl) (by decide) ?_
        refine st_no rfl rfl (by rw [t28]; rfl) (by decide) ?_
        refine st_no rfl rfl (by rw [t28]; rfl) (by decide) ?_
        refine st_no rfl rfl (by rw [t28]; rfl) (by decide) ?_
        refine st_no rfl rfl (by rw [t28]; rfl) (by decide) ?_
        refine st_val (ex_pick_t (congrArg (fun b => some (Value.bool b)) t28) rfl) (by decide) trivial ?_
        have hq182 := Option.some.inj hq18
        refine wpF_end (r := [(1, (.pointer (some ⟨b9, 0, none⟩))), (29, (.bool true))]) ⟨rfl, rfl, trivial⟩ ?_
        subst hq182
        refine np_norm (fun a ha => ⟨ha, kp⟩)
      · rw [if_neg (by rw [t28]; decide)] at hq18
        refine st_val (ex_field rfl Try.underlying31 rfl Try.sizeOf23) (by decide) ⟨_, rfl, (congrArg (fun b => some (Value.bool b)) t28)⟩ ?_
        refine st_val (ex_load1 rfl Try.isAgg23 (h10.cell rfl)) (by decide) ⟨_, rfl, (congrArg (fun b => some (Value.bool b)) t28)⟩ ?_
        refine st_val (ex_field rfl Try.underlying31 rfl Try.sizeOf29) (by decide) ⟨_, rfl, (congrArg (fun b => some (Value.bool b)) t28)⟩ ?_
        refine st_val (ex_load1 rfl Try.isAgg29 (h10.cell rfl)) (by decide) ⟨_, rfl, (congrArg (fun b => some (Value.bool b)) t28)⟩ ?_
        refine st_val (ex_lenR rfl h2 Try.underlying29) (by decide) ⟨_, rfl, (congrArg (fun b => some (Value.bool b)) t28)⟩ ?_
        obtain ⟨x29, hx29, hq18⟩ := bind_some hq18
        refine st_op (by decide) ⟨_, rfl, (congrArg (fun b => some (Value.bool b)) t28)⟩ ?_
        refine wf_call (cI_inputsOk w23 _ p0.Inputs (h6.keep hB.keeps) (p0.Ends.length : Int) x29 hx29) Try.call97 ⟨rfl, rfl, trivial⟩ ?_
        rintro e34 w30 ⟨rfl, k31⟩
        have s33 := k31.stp 999 o7
        refine ⟨_, rfl, ?_⟩
        replace h10 := h10.stp s33 (by decide)
        replace hB := hB.stp s33 (by decide)
        replace kp := Keeps.trans kp k31
        refine st_val (ex_not rfl) (by decide) ⟨_, rfl, (congrArg (fun b => some (Value.bool b)) t28)⟩ ?_
        refine st_val (ex_pick_f (congrArg (fun b => some (Value.bool b)) t28) rfl) (by decide) trivial ?_
        have hq182 := Option.some.inj hq18
        refine wpF_end (r := [(1, (.pointer (some ⟨b9, 0, none⟩))), (29, (.bool (!x29)))]) ⟨rfl, rfl, trivial⟩ ?_
        subst hq182
        refine np_norm (fun a ha => ⟨ha, kp⟩)
  rintro a37 w19 ⟨ha, k35⟩
  have s36 := k35.stp 999 o7
  replace h10 := h10.stp s36 (by decide)
  replace hB := hB.stp s36 (by decide)
  refine wl_of ha ?_
  refine wpF_end (r := [(1, (.pointer (some ⟨b9, 0, none⟩))), (29, (.bool q18))]) ⟨rfl, rfl, trivial⟩ ?_
  refine nx ?_
  refine wpC_cond rfl (fun t38 => ?_) (fun t38 => ?_)
  · rw [if_pos t38] at hF
    refine wpC_seq ?_
    refine wpC_region ?_
    refine st_val (ex_assign rfl) (by decide) trivial ?_
    refine wpF_end (r := [(2, (.bool false))]) ⟨rfl, trivial⟩ ?_
    refine nx ?_
    refine wpC_ret ?_
    refine nt_ret ?_
    have e39 := Option.some.inj hF
    subst e39
    refine ret_post (P := Try.prog) (vs := [(.bool false)]) Try.results65 ⟨rfl, trivial⟩ ?_
    exact ⟨rfl, hB.keeps⟩
  · rw [if_neg (by rw [t38]; decide)] at hF
    refine wpC_skip ?_
    refine nx ?_
    refine wpC_seq ?_
    refine wpC_seq ?_
    refine wpC_region ?_
    refine st_val (ex_field rfl Try.underlying31 rfl Try.sizeOf29) (by decide) trivial ?_
    refine st_val (ex_load1 rfl Try.isAgg29 (h10.cell rfl)) (by decide) trivial ?_
    refine st_val (ex_lenR rfl h2 Try.underlying29) (by decide) trivial ?_
    refine st_val (ex_move rfl) (by decide) trivial ?_
    refine wpF_end (r := [(1, (.pointer (some ⟨b9, 0, none⟩))), (31, v1), (32, (.int .i64 (p0.Ends.length : Int))), (33, (.int .i64 0))]) ⟨rfl, rfl, rfl, rfl, trivial⟩ ?_
    refine nx ?_
    obtain ⟨q43, hq43, hF⟩ := bind_some hF
    refine wpC_cutN (fun a w41 => ∃ (o40 : Tg), q43 = .inl () ∧ Fr a 73 [] ∧ Bs (fun _ => 1) o40 w w41) (fun a w' => ∃ r', q43 = .inr r' ∧ bodyPost Try.prog Try.f65 (pI_IsNetwork w r') .ret a w') ?_ ?_ ?_
    · refine wpC_block ?_
      refine wpC_loop (fun (K : Nat) a w41 => ∃ (i42 : Int) (o40 : Tg), forI (fI_IsNetwork_s1 p0) (p0.Ends.drop i42.toNat) i42 () = some q43 ∧ (p0.Ends.drop i42.toNat).length = K ∧ 0 ≤ i42 ∧ Fr a 73 [(1, (.pointer (some ⟨b9, 0, none⟩))), (31, v1), (32, (.int .i64 (p0.Ends.length : Int))), (33, (.int .i64 i42))] ∧ Bs (fun _ => 1) o40 w w41 ∧ Bx w.heap.size 11 o40 w41 b9 31 [v1, v3, v5]) _ (fun a ha => ⟨0, o7, hq43, rfl, Int.le_refl 0, ha.sub (r := [(1, (.pointer (some ⟨b9, 0, none⟩))), (31, v1), (32, (.int .i64 (p0.Ends.length : Int))), (33, (.int .i64 0))]) ⟨rfl, rfl, rfl, rfl, trivial⟩, hB, h10⟩) ?_
      rintro K47 a w41 ⟨i42, o40, l44, m46, z45, ha, hB, h10⟩
      by_cases t51 : i42 < (p0.Ends.length : Int)
      · obtain ⟨x52, q48, hx52, b49, n50⟩ := forI_cons z45 t51 l44
        have hle := h2.len_le
        dsimp only [fI_IsNetwork_s1] at b49
        refine wp_of ha ?_
        refine wpC_seq ?_
        refine wpC_region ?_
        refine st_val (ex_lss rfl rfl) (by decide) trivial ?_
        refine wpF_end (r := [(1, (.pointer (some ⟨b9, 0, none⟩))), (31, v1), (32, (.int .i64 (p0.Ends.length : Int))), (33, (.int .i64 i42)), (34, (.bool (decide (i42 < (p0.Ends.length : Int)))))]) ⟨rfl, rfl, rfl, rfl, rfl, trivial⟩ ?_
        refine nx ?_
        refine wpC_seq ?_
        refine wpC_true (congrArg (fun b => some (Value.bool b)) (decide_eq_true t51)) ?_
        refine wpC_skip ?_
        refine nx ?_
        refine wpC_seq ?_
        refine wpC_block ?_
        refine wpC_seq ?_
        refine wpC_region ?_
        refine st_val (ex_move rfl) (by decide) trivial ?_
        refine st_op (by decide) trivial ?_
        refine wf_atZ h2 hx52 hB rfl rfl Try.underlying29 Try.sizeOf110 ?_
        intro b53 f54 c55 h56 h57
        obtain ⟨v58, rfl, h59⟩ := h57
        refine st_val (ex_load1 rfl Try.isAgg110 (cell_of_cells h56)) (by decide) trivial ?_
        refine st_val (ex_assign rfl) (by decide) trivial ?_
        refine st_val (ex_assign rfl) (by decide) trivial ?_
        refine wpF_end (r := [(1, (.pointer (some ⟨b9, 0, none⟩))), (3, (.int .i64 i42)), (4, v58), (31, v1), (32, (.int .i64 (p0.Ends.length : Int))), (33, (.int .i64 i42))]) ⟨rfl, rfl, rfl, rfl, rfl, rfl, trivial⟩ ?_
        refine nx ?_
        refine wpC_seq ?_
        refine wpC_seq ?_
        refine wpC_region ?_
        refine st_val (ex_move rfl) (by decide) trivial ?_
        refine st_val (ex_lenR rfl h59 Try.underlying110) (by decide) trivial ?_
        refine st_val (ex_gtr rfl rfl) (by decide) trivial ?_
        refine wpF_end (r := [(1, (.pointer (some ⟨b9, 0, none⟩))), (3, (.int .i64 i42)), (4, v58), (31, v1), (32, (.int .i64 (p0.Ends.length : Int))), (33, (.int .i64 i42)), (40, (.bool (decide ((x52.length : Int) > 6))))]) ⟨rfl, rfl, rfl, rfl, rfl, rfl, rfl, trivial⟩ ?_
        refine nx ?_
        refine wpC_cond rfl (fun t60 => ?_) (fun t60 => ?_)
        · rw [if_pos t60] at b49
          refine wpC_seq ?_
          refine wpC_region ?_
          refine st_val (ex_assign rfl) (by decide) trivial ?_
          refine wpF_end (r := [(2, (.bool false))]) ⟨rfl, trivial⟩ ?_
          refine nx ?_
          refine wpC_ret ?_
          refine nt_ret ?_
          refine nb_ret ?_
          refine nt_ret ?_
          refine nt_ret ?_
          refine nb_ret ?_
          refine np_ret ?_
          have e61 := Option.some.inj b49
          subst e61
          refine fun a ha => ⟨_, n50, ?_⟩
          refine ret_post (P := Try.prog) (vs := [(.bool false)]) Try.results65 ⟨rfl, trivial⟩ ?_ a ha
          exact ⟨rfl, hB.keeps⟩
        · rw [if_neg (by rw [t60]; decide)] at b49
          refine wpC_skip ?_
          refine nx ?_
          refine wpC_seq ?_
          refine wpC_region ?_
          refine st_val (ex_move rfl) (by decide) trivial ?_
          refine st_val (ex_lenR rfl h59 Try.underlying110) (by decide) trivial ?_
          refine st_val (ex_move rfl) (by decide) trivial ?_
          refine wpF_end (r := [(1, (.pointer (some ⟨b9, 0, none⟩))), (3, (.int .i64 i42)), (31, v1), (32, (.int .i64 (p0.Ends.length : Int))), (33, (.int .i64 i42)), (41, v58), (42, (.int .i64 (x52.length : Int))), (43, (.int .i64 0))]) ⟨rfl, rfl, rfl, rfl, rfl, rfl, rfl, rfl, trivial⟩ ?_
          refine nx ?_
          obtain ⟨q65, hq65, b49⟩ := bind_some b49
          refine wpC_cutN (fun a w63 => ∃ (o62 : Tg), q65 = .inl () ∧ Fr a 73 [(1, (.pointer (some ⟨b9, 0, none⟩))), (31, v1), (32, (.int .i64 (p0.Ends.length : Int))), (33, (.int .i64 i42))] ∧ Bs (fun _ => 1) o62 w w63 ∧ Bx w.heap.size 11 o62 w63 b9 31 [v1, v3, v5]) (fun a w' => ∃ r', q65 = .inr r' ∧ bodyPost Try.prog Try.f65 (pI_IsNetwork w r') .ret a w') ?_ ?_ ?_
          · refine wpC_block ?_
            refine wpC_loop (fun (K : Nat) a w63 => ∃ (i64 : Int) (o62 : Tg), forI (fI_IsNetwork_s2 p0 i42) (x52.drop i64.toNat) i64 () = some q65 ∧ (x52.drop i64.toNat).length = K ∧ 0 ≤ i64 ∧ Fr a 73 [(1, (.pointer (some ⟨b9, 0, none⟩))), (3, (.int .i64 i42)), (31, v1), (32, (.int .i64 (p0.Ends.length : Int))), (33, (.int .i64 i42)), (41, v58), (42, (.int .i64 (x52.length : Int))), (43, (.int .i64 i64))] ∧ Bs (fun _ => 1) o62 w w63 ∧ Bx w.heap.size 11 o62 w63 b9 31 [v1, v3, v5]) _ (fun a ha => ⟨0, o40, hq65, rfl, Int.le_refl 0, ha.sub (r := [(1, (.pointer (some ⟨b9, 0, none⟩))), (3, (.int .i64 i42)), (31, v1), (32, (.int .i64 (p0.Ends.length : Int))), (33, (.int .i64 i42)), (41, v58), (42, (.int .i64 (x52.length : Int))), (43, (.int .i64 0))]) ⟨rfl, rfl, rfl, rfl, rfl, rfl, rfl, rfl, trivial⟩, hB, h10⟩) ?_
            rintro K69 a w63 ⟨i64, o62, l66, m68, z67, ha, hB, h10⟩
            by_cases t73 : i64 < (x52.length : Int)
            · obtain ⟨x74, q70, hx74, b71, n72⟩ := forI_cons z67 t73 l66
              have hle := h59.len_le
              dsimp only [fI_IsNetwork_s2] at b71
              refine wp_of ha ?_
              refine wpC_seq ?_
              refine wpC_region ?_
              refine st_val (ex_lss rfl rfl) (by decide) trivial ?_
              refine wpF_end (r := [(1, (.pointer (some ⟨b9, 0, none⟩))), (3, (.int .i64 i42)), (31, v1), (32, (.int .i64 (p0.Ends.length : Int))), (33, (.int .i64 i42)), (41, v58), (42, (.int .i64 (x52.length : Int))), (43, (.int .i64 i64)), (44, (.bool (decide (i64 < (x52.length : Int)))))]) ⟨rfl, rfl, rfl, rfl, rfl, rfl, rfl, rfl, rfl, trivial⟩ ?_
              refine nx ?_
              refine wpC_seq ?_
              refine wpC_true (congrArg (fun b => some (Value.bool b)) (decide_eq_true t73)) ?_
              refine wpC_skip ?_
              refine nx ?_
              refine wpC_seq ?_
              refine wpC_block ?_
              refine wpC_seq ?_
              refine wpC_region ?_
              refine st_val (ex_move rfl) (by decide) trivial ?_
              refine st_op (by decide) trivial ?_
              refine wf_atZ h59 hx74 hB rfl rfl Try.underlying110 Try.sizeOf115 ?_
              intro b75 f76 c77 h78 h79
              cases h79
              refine st_val (ex_loadA rfl Try.isAgg115 Try.sizeOf115 rfl h78) (by decide) trivial ?_
              refine st_op (by decide) trivial ?_
              refine wf_alloc (o := o62) w.heap.size 15 hB.keeps.size (cs := [(.int .i64 0), (.int .i64 0)]) Try.zeroValue115 rfl ?_
              intro o80 w81 b82 h83 s84
              replace h10 := h10.stp s84 (by decide)
              replace hB := hB.stp s84 (by decide)
              refine st_val (ex_assign rfl) (by decide) trivial ?_
              refine st_op0 trivial ?_
              refine wf_storeA h83 rfl rfl rfl info1_t_impl_End_Na (by intro c hc; simp only [List.mem_cons, List.not_mem_nil, or_false] at hc; rcases hc with rfl | rfl <;> first | rfl) ?_
              intro w85 h87 s86
              replace h10 := h10.stp s86 (by decide)
              replace hB := hB.stp s86 (by decide)
              refine wpF_end (r := [(1, (.pointer (some ⟨b9, 0, none⟩))), (3, (.int .i64 i42)), (5, (.int .i64 i64)), (6, (.pointer (some ⟨b82, 0, none⟩))), (31, v1), (32, (.int .i64 (p0.Ends.length : Int))), (33, (.int .i64 i42)), (41, v58), (42, (.int .i64 (x52.length : Int))), (43, (.int .i64 i64))]) ⟨rfl, rfl, rfl, rfl, rfl, rfl, rfl, rfl, rfl, rfl, trivial⟩ ?_
              refine nx ?_
              refine wpC_seq ?_
              obtain ⟨q88, hq88, b71⟩ := bind_some b71
              refine wpC_cutN (fun a91 w90 => ∃ o89 : Tg, Fr a91 73 [(1, (.pointer (some ⟨b9, 0, none⟩))), (3, (.int .i64 i42)), (31, v1), (32, (.int .i64 (p0.Ends.length : Int))), (33, (.int .i64 i42)), (41, v58), (42, (.int .i64 (x52.length : Int))), (43, (.int .i64 i64)), (70, (.bool q88))] ∧ Bs (fun _ => 1) o89 w w90 ∧ Bx w.heap.size 11 o89 w90 b9 31 [v1, v3, v5]) (fun _ _ => False) ?_ ?_ (fun _ _ h => h.elim)
              · obtain ⟨x92, hx92, hq88⟩ := bind_some hq88
                rcases Bool.eq_false_or_eq_true (!x92) with t98 | t98
                · rw [if_pos t98] at hq88
                  refine wpC_drawn (o := o80) [(1, (.pointer (some ⟨b9, 0, none⟩))), (3, (.int .i64 i42)), (5, (.int .i64 i64)), (6, (.pointer (some ⟨b82, 0, none⟩))), (31, v1), (32, (.int .i64 (p0.Ends.length : Int))), (33, (.int .i64 i42)), (41, v58), (42, (.int .i64 (x52.length : Int))), (43, (.int .i64 i64))] [1, 3, 5, 6, 31, 32, 33, 41, 42, 43] [48, 49, 50, 51, 52, 53, 54, 55, 56, 57, 58, 59, 60, 61, 62, 63, 64, 65, 66, 67, 68] [[], [], [1], [], [3], [0, 2, 4], [5], [6], [7], [7], [7], [7], [7], [7], [7], [7], [7], [7], [7], [7], [7]] [none, none, none, none, none, none, none, none, none, none, none, none, none, none, none, none, none, none, none, none, none] [999, 999, 999, 999, 999, 999, 999, 999, 999, 999, 999, 999, 999, 999, 999, 999, 999, 999, 999, 999, 999] [0, 0, 0, 0, 0, 0, 0, 0, 0, 0, 0, 0, 0, 0, 0, 0, 0, 0, 0, 0, 0] [999] [fun v _ _ => v = (.agg #[v1, v3, v5]), fun v _ _ => v = (.pointer (some ⟨b82, 0 + 0, none⟩)), fun v _ _ => v = (.int .i64 x74.Node), fun v _ _ => v = (.pointer (some ⟨b82, 0 + 1, none⟩)), fun v _ _ => v = (.int .i64 x74.Port), fun v _ _ => v = (.bool x92), fun v _ _ => v = (.bool (!x92)), fun v _ _ => v = (.bool (!x92)), fun v _ _ => v = undef, fun v _ _ => v = undef, fun v _ _ => v = undef, fun v _ _ => v = undef, fun v _ _ => v = undef, fun v _ _ => v = undef, fun v _ _ => v = undef, fun v _ _ => v = undef, fun v _ _ => v = undef, fun v _ _ => v = undef, fun v _ _ => v = undef, fun v _ _ => v = undef, fun v _ _ => v = undef] (fun o8 w8 => Bs (fun _ => 1) o8 w w8 ∧ Bx w.heap.size 11 o8 w8 b9 31 [v1, v3, v5] ∧ Bx w.heap.size 15 o8 w8 b82 115 [(.int .i64 x74.Node), (.int .i64 x74.Port)]) follows_mixed (by kernel_rfl) rfl ⟨rfl, rfl, rfl, rfl, rfl, rfl, rfl, rfl, rfl, rfl, trivial⟩ ⟨hB, h10, h87⟩ ?_ ⟨st_eq _, st_eq _, st_eq _, st_eq _, st_eq _, st_eq _, st_eq _, st_eq _, st_eq _, st_eq _, st_eq _, st_eq _, st_eq _, st_eq _, st_eq _, st_eq _, st_eq _, st_eq _, st_eq _, st_eq _, st_eq _, trivial⟩ ?_ ?_
                  · rintro t9 o1 w1 o2 w2 ht9 ⟨hB, h10, h87⟩ hs9
                    have ht9 : t9 = 999 := by simpa using ht9
                    subst ht9
                    all_goals exact ⟨hB.stp hs9 (by decide), h10.stp hs9 (by decide), h87.stp hs9 (by decide)⟩
                  · refine ⟨?_, ?_, ?_, ?_, ?_, ?_, ?_, ?_, ?_, ?_, ?_, ?_, ?_, ?_, ?_, ?_, ?_, ?_, ?_, ?_, ?_, trivial⟩
                    · rintro o99 w100 a101 ha ⟨hB, h10, h87⟩ -
                      refine opS_of ha (trivial) ?_
                      refine op1_val (ex_loadA rfl Try.isAgg31 Try.sizeOf31 rfl h10.cells) ?_
                      exact ⟨_, Stp.refl _ _ _, rfl⟩
                    · rintro o102 w103 a104 ha ⟨hB, h10, h87⟩ -
                      refine opS_of ha (trivial) ?_
                      refine op1_val (ex_field rfl Try.underlying115 rfl Try.sizeOf3) ?_
                      exact ⟨_, Stp.refl _ _ _, rfl⟩
                    · rintro o105 w106 a107 ha ⟨hB, h10, h87⟩ ⟨r108, -⟩
                      have ha := Fr.cons (d := 49) ha r108
                      refine opS_of ha (trivial) ?_
                      refine op1_val (ex_load1 rfl Try.isAgg3 (h87.cell rfl)) ?_
                      exact ⟨_, Stp.refl _ _ _, rfl⟩
                    · rintro o109 w110 a111 ha ⟨hB, h10, h87⟩ -
                      refine opS_of ha (trivial) ?_
                      refine op1_val (ex_field rfl Try.underlying115 rfl Try.sizeOf3) ?_
                      exact ⟨_, Stp.refl _ _ _, rfl⟩
                    · rintro o112 w113 a114 ha ⟨hB, h10, h87⟩ ⟨r115, -⟩
                      have ha := Fr.cons (d := 51) ha r115
                      refine opS_of ha (trivial) ?_
                      refine op1_val (ex_load1 rfl Try.isAgg3 (h87.cell rfl)) ?_
                      exact ⟨_, Stp.refl _ _ _, rfl⟩
                    · rintro o116 w117 a118 ha ⟨hB, h10, h87⟩ ⟨r119, r120, r121, -⟩
                      have ha := Fr.cons (d := 48) ha r119
                      have ha := Fr.cons (d := 50) ha r120
                      have ha := Fr.cons (d := 52) ha r121
                      refine opS_of ha (trivial) ?_
                      refine wf_call (cI_Network_hasPort w117 _ p0 (⟨_, _, _, rfl, (h2.keep hB.keeps), (h4.keep hB.keeps), (h6.keep hB.keeps)⟩) x74.Node x74.Port x92 hx92) Try.call98 ⟨rfl, rfl, rfl, trivial⟩ ?_
                      rintro e126 w122 ⟨rfl, k123⟩
                      have s125 := k123.stp 999 o116
                      refine ⟨_, rfl, ?_⟩
                      replace h10 := h10.stp s125 (by decide)
                      replace h87 := h87.stp s125 (by decide)
                      replace hB := hB.stp s125 (by decide)
                      exact ⟨_, s125, rfl⟩
                    · rintro o127 w128 a129 ha ⟨hB, h10, h87⟩ ⟨r130, -⟩
                      have ha := Fr.cons (d := 53) ha r130
                      refine opS_of ha (trivial) ?_
                      refine op1_val (ex_not rfl) ?_
                      exact ⟨_, Stp.refl _ _ _, rfl⟩
                    · rintro o131 w132 a133 ha ⟨hB, h10, h87⟩ ⟨r134, -⟩
                      have ha := Fr.cons (d := 54) ha r134
                      refine opS_of ha (trivial) ?_
                      refine op1_val (ex_move rfl) ?_
                      exact ⟨_, Stp.refl _ _ _, rfl⟩
                    · rintro o135 w136 a137 ha ⟨hB, h10, h87⟩ ⟨r138, -⟩
                      have ha := Fr.cons (d := 55) ha r138
                      exact opS_no ha rfl rfl rfl (by rw [t98]; rfl) ⟨_, Stp.refl _ _ _, rfl⟩
                    · rintro o139 w140 a141 ha ⟨hB, h10, h87⟩ ⟨r142, -⟩
                      have ha := Fr.cons (d := 55) ha r142
                      exact opS_no ha rfl rfl rfl (by rw [t98]; rfl) ⟨_, Stp.refl _ _ _, rfl⟩
                    · rintro o143 w144 a145 ha ⟨hB, h10, h87⟩ ⟨r146, -⟩
                      have ha := Fr.cons (d := 55) ha r146
                      exact opS_no ha rfl rfl rfl (by rw [t98]; rfl) ⟨_, Stp.refl _ _ _, rfl⟩
                    · rintro o147 w148 a149 ha ⟨hB, h10, h87⟩ ⟨r150, -⟩
                      have ha := Fr.cons (d := 55) ha r150
                      exact opS_no ha rfl rfl rfl (by rw [t98]; rfl) ⟨_, Stp.refl _ _ _, rfl⟩
                    · rintro o151 w152 a153 ha ⟨hB, h10, h87⟩ ⟨r154, -⟩
                      have ha := Fr.cons (d := 55) ha r154
                      exact opS_no ha rfl rfl rfl (by rw [t98]; rfl) ⟨_, Stp.refl _ _ _, rfl⟩
                    · rintro o155 w156 a157 ha ⟨hB, h10, h87⟩ ⟨r158, -⟩
                      have ha := Fr.cons (d := 55) ha r158
                      exact opS_no ha rfl rfl rfl (by rw [t98]; rfl) ⟨_, Stp.refl _ _ _, rfl⟩
                    · rintro o159 w160 a161 ha ⟨hB, h10, h87⟩ ⟨r162, -⟩
                      have ha := Fr.cons (d := 55) ha r162
                      exact opS_no ha rfl rfl rfl (by rw [t98]; rfl) ⟨_, Stp.refl _ _ _, rfl⟩
                    · rintro o163 w164 a165 ha ⟨hB, h10, h87⟩ ⟨r166, -⟩
                      have ha := Fr.cons (d := 55) ha r166
                      exact opS_no ha rfl rfl rfl (by rw [t98]; rfl) ⟨_, Stp.refl _ _ _, rfl⟩
                    · rintro o167 w168 a169 ha ⟨hB, h10, h87⟩ ⟨r170, -⟩
                      have ha := Fr.cons (d := 55) ha r170
                      exact opS_no ha rfl rfl rfl (by rw [t98]; rfl) ⟨_, Stp.refl _ _ _, rfl⟩
                    · rintro o171 w172 a173 ha ⟨hB, h10, h87⟩ ⟨r174, -⟩
                      have ha := Fr.cons (d := 55) ha r174
                      exact opS_no ha rfl rfl rfl (by rw [t98]; rfl) ⟨_, Stp.refl _ _ _, rfl⟩
                    · rintro o175 w176 a177 ha ⟨hB, h10, h87⟩ ⟨r178, -⟩
                      have ha := Fr.cons (d := 55) ha r178
                      exact opS_no ha rfl rfl rfl (by rw [t98]; rfl) ⟨_, Stp.refl _ _ _, rfl⟩
                    · rintro o179 w180 a181 ha ⟨hB, h10, h87⟩ ⟨r182, -⟩
                      have ha := Fr.cons (d := 55) ha r182
                      exact opS_no ha rfl rfl rfl (by rw [t98]; rfl) ⟨_, Stp.refl _ _ _, rfl⟩
                    · rintro o183 w184 a185 ha ⟨hB, h10, h87⟩ ⟨r186, -⟩
                      have ha := Fr.cons (d := 55) ha r186
                      exact opS_no ha rfl rfl rfl (by rw [t98]; rfl) ⟨_, Stp.refl _ _ _, rfl⟩
                  rintro o187 w188 a189 ha ⟨hB, h10, h87⟩ ⟨-, -, -, -, -, -, -, r190, -, -, -, -, -, -, -, -, -, r191, -, -, r192, -⟩
                  have ha := Fr.cons (d := 55) ha r190
                  have ha := Fr.cons (d := 65) ha r191
                  have ha := Fr.cons (d := 68) ha r192
                  refine wl_of ha ?_
                  simp only [List.length_cons, List.length_nil, Nat.zero_add, Nat.reduceAdd, List.drop_succ_cons, List.drop_zero]
                  refine st_no rfl rfl (by rw [t98]; rfl) (by decide) ?_
                  refine st_val (ex_pick_t (congrArg (fun b => some (Value.bool b)) t98) rfl) (by decide) trivial ?_
                  have e193 := Option.some.inj hq88
                  subst e193
                  refine wpF_end (r := [(1, (.pointer (some ⟨b9, 0, none⟩))), (3, (.int .i64 i42)), (31, v1), (32, (.int .i64 (p0.Ends.length : Int))), (33, (.int .i64 i42)), (41, v58), (42, (.int .i64 (x52.length : Int))), (43, (.int .i64 i64)), (70, (.bool true))]) ⟨rfl, rfl, rfl, rfl, rfl, rfl, rfl, rfl, rfl, trivial⟩ ?_
                  refine np_norm (fun a ha => ⟨o187, ha, hB, h10⟩)
                · rw [if_neg (by rw [t98]; decide)] at hq88
                  obtain ⟨x194, hx194, hq88⟩ := bind_some hq88
                  obtain ⟨x200, hx200, hq88⟩ := bind_some hq88
                  refine wpC_drawn (o := o80) [(1, (.pointer (some ⟨b9, 0, none⟩))), (3, (.int .i64 i42)), (5, (.int .i64 i64)), (6, (.pointer (some ⟨b82, 0, none⟩))), (31, v1), (32, (.int .i64 (p0.Ends.length : Int))), (33, (.int .i64 i42)), (41, v58), (42, (.int .i64 (x52.length : Int))), (43, (.int .i64 i64))] [1, 3, 5, 6, 31, 32, 33, 41, 42, 43] [48, 49, 50, 51, 52, 53, 54, 55, 56, 57, 58, 59, 60, 61, 62, 63, 64, 65, 66, 67, 68] [[], [], [1], [], [3], [0, 2, 4], [5], [6], [7], [7, 8], [7], [7, 10], [7, 9, 11], [7, 12], [7], [7, 14], [7, 13, 15], [7, 16], [7], [7], [7, 18, 19]] [none, none, none, none, none, none, none, none, none, none, none, none, none, none, none, none, none, none, none, none, none] [999, 999, 999, 999, 999, 999, 999, 999, 999, 999, 999, 999, 999, 999, 999, 999, 999, 999, 999, 999, 999] [0, 0, 0, 0, 0, 0, 0, 0, 0, 0, 0, 0, 0, 0, 0, 0, 0, 0, 0, 0, 0] [999] [fun v _ _ => v = (.agg #[v1, v3, v5]), fun v _ _ => v = (.pointer (some ⟨b82, 0 + 0, none⟩)), fun v _ _ => v = (.int .i64 x74.Node), fun v _ _ => v = (.pointer (some ⟨b82, 0 + 1, none⟩)), fun v _ _ => v = (.int .i64 x74.Port), fun v _ _ => v = (.bool x92), fun v _ _ => v = (.bool (!x92)), fun v _ _ => v = (.bool (!x92)), fun v _ _ => v = (.pointer (some ⟨b9, 0 + 0, none⟩)), fun v _ _ => v = v1, fun v _ _ => v = (.pointer (some ⟨b82, 0 + 0, none⟩)), fun v _ _ => v = (.int .i64 x74.Node), fun v o w9 => ∃ vl, v = adr vl (x74.Node.toNat * Rp.sz (List T_End)) ∧ RdL zt w vl (p0.Ends : List (List T_End)), fun v o w9 => RdL zt w v x194, fun v _ _ => v = (.pointer (some ⟨b82, 0 + 1, none⟩)), fun v _ _ => v = (.int .i64 x74.Port), fun v o w9 => ∃ vl, v = adr vl (x74.Port.toNat * Rp.sz T_End) ∧ RdL zt w vl x194, fun v _ _ => v = (.agg #[(.int .i64 x200.Node), (.int .i64 x200.Port)]), fun v _ _ => v = (.int .i64 i42), fun v _ _ => v = (.int .i64 i64), fun v _ _ => v = (.agg #[(.int .i64 i42), (.int .i64 i64)])] (fun o8 w8 => Bs (fun _ => 1) o8 w w8 ∧ Bx w.heap.size 11 o8 w8 b9 31 [v1, v3, v5] ∧ Bx w.heap.size 15 o8 w8 b82 115 [(.int .i64 x74.Node), (.int .i64 x74.Port)]) follows_mixed (by kernel_rfl) rfl ⟨rfl, rfl, rfl, rfl, rfl, rfl, rfl, rfl, rfl, rfl, trivial⟩ ⟨hB, h10, h87⟩ ?_ ⟨st_eq _, st_eq _, st_eq _, st_eq _, st_eq _, st_eq _, st_eq _, st_eq _, st_eq _, st_eq _, st_eq _, st_eq _, fun _ _ _ _ _ _ h0 hb ⟨vl, e, h⟩ hs => ⟨vl, e, h⟩, fun _ _ _ _ _ _ h0 hb h hs => h, st_eq _, st_eq _, fun _ _ _ _ _ _ h0 hb ⟨vl, e, h⟩ hs => ⟨vl, e, h⟩, st_eq _, st_eq _, st_eq _, st_eq _, trivial⟩ ?_ ?_
                  · rintro t9 o1 w1 o2 w2 ht9 ⟨hB, h10, h87⟩ hs9
                    have ht9 : t9 = 999 := by simpa using ht9
                    subst ht9
                    all_goals exact ⟨hB.stp hs9 (by decide), h10.stp hs9 (by decide), h87.stp hs9 (by decide)⟩
                  · refine ⟨?_, ?_, ?_, ?_, ?_, ?_, ?_, ?_, ?_, ?_, ?_, ?_, ?_, ?_, ?_, ?_, ?_, ?_, ?_, ?_, ?_, trivial⟩
                    · rintro o203 w204 a205 ha ⟨hB, h10, h87⟩ -
                      refine opS_of ha (trivial) ?_
                      refine op1_val (ex_loadA rfl Try.isAgg31 Try.sizeOf31 rfl h10.cells) ?_
                      exact ⟨_, Stp.refl _ _ _, rfl⟩
                    · rintro o206 w207 a208 ha ⟨hB, h10, h87⟩ -
                      refine opS_of ha (trivial) ?_
                      refine op1_val (ex_field rfl Try.underlying115 rfl Try.sizeOf3) ?_
                      exact ⟨_, Stp.refl _ _ _, rfl⟩
                    · rintro o209 w210 a211 ha ⟨hB, h10, h87⟩ ⟨r212, -⟩
                      have ha := Fr.cons (d := 49) ha r212
                      refine opS_of ha (trivial) ?_
                      refine op1_val (ex_load1 rfl Try.isAgg3 (h87.cell rfl)) ?_
                      exact ⟨_, Stp.refl _ _ _, rfl⟩
                    · rintro o213 w214 a215 ha ⟨hB, h10, h87⟩ -
                      refine opS_of ha (trivial) ?_
                      refine op1_val (ex_field rfl Try.underlying115 rfl Try.sizeOf3) ?_
                      exact ⟨_, Stp.refl _ _ _, rfl⟩
                    · rintro o216 w217 a218 ha ⟨hB, h10, h87⟩ ⟨r219, -⟩
                      have ha := Fr.cons (d := 51) ha r219
                      refine opS_of ha (trivial) ?_
                      refine op1_val (ex_load1 rfl Try.isAgg3 (h87.cell rfl)) ?_
                      exact ⟨_, Stp.refl _ _ _, rfl⟩
                    · rintro o220 w221 a222 ha ⟨hB, h10, h87⟩ ⟨r223, r224, r225, -⟩
                      have ha := Fr.cons (d := 48) ha r223
                      have ha := Fr.cons (d := 50) ha r224
                      have ha := Fr.cons (d := 52) ha r225
                      refine opS_of ha (trivial) ?_
                      refine wf_call (cI_Network_hasPort w221 _ p0 (⟨_, _, _, rfl, (h2.keep hB.keeps), (h4.keep hB.keeps), (h6.keep hB.keeps)⟩) x74.Node x74.Port x92 hx92) Try.call98 ⟨rfl, rfl, rfl, trivial⟩ ?_
                      rintro e230 w226 ⟨rfl, k227⟩
                      have s229 := k227.stp 999 o220
                      refine ⟨_, rfl, ?_⟩
                      replace h10 := h10.stp s229 (by decide)
                      replace h87 := h87.stp s229 (by decide)
                      replace hB := hB.stp s229 (by decide)
                      exact ⟨_, s229, rfl⟩
                    · rintro o231 w232 a233 ha ⟨hB, h10, h87⟩ ⟨r234, -⟩
                      have ha := Fr.cons (d := 53) ha r234
                      refine opS_of ha (trivial) ?_
                      refine op1_val (ex_not rfl) ?_
                      exact ⟨_, Stp.refl _ _ _, rfl⟩
                    · rintro o235 w236 a237 ha ⟨hB, h10, h87⟩ ⟨r238, -⟩
                      have ha := Fr.cons (d := 54) ha r238
                      refine opS_of ha (trivial) ?_
                      refine op1_val (ex_move rfl) ?_
                      exact ⟨_, Stp.refl _ _ _, rfl⟩
                    · rintro o239 w240 a241 ha ⟨hB, h10, h87⟩ ⟨r242, -⟩
                      have ha := Fr.cons (d := 55) ha r242
                      refine opS_of ha (⟨_, rfl, (congrArg (fun b => some (Value.bool b)) t98)⟩) ?_
                      refine op1_val (ex_field rfl Try.underlying31 rfl Try.sizeOf29) ?_
                      exact ⟨_, Stp.refl _ _ _, rfl⟩
                    · rintro o243 w244 a245 ha ⟨hB, h10, h87⟩ ⟨r246, r247, -⟩
                      have ha := Fr.cons (d := 55) ha r246
                      have ha := Fr.cons (d := 56) ha r247
                      refine opS_of ha (⟨_, rfl, (congrArg (fun b => some (Value.bool b)) t98)⟩) ?_
                      refine op1_val (ex_load1 rfl Try.isAgg29 (h10.cell rfl)) ?_
                      exact ⟨_, Stp.refl _ _ _, rfl⟩
                    · rintro o248 w249 a250 ha ⟨hB, h10, h87⟩ ⟨r251, -⟩
                      have ha := Fr.cons (d := 55) ha r251
                      refine opS_of ha (⟨_, rfl, (congrArg (fun b => some (Value.bool b)) t98)⟩) ?_
                      refine op1_val (ex_field rfl Try.underlying115 rfl Try.sizeOf3) ?_
                      exact ⟨_, Stp.refl _ _ _, rfl⟩
                    · rintro o252 w253 a254 ha ⟨hB, h10, h87⟩ ⟨r255, r256, -⟩
                      have ha := Fr.cons (d := 55) ha r255
                      have ha := Fr.cons (d := 58) ha r256
                      refine opS_of ha (⟨_, rfl, (congrArg (fun b => some (Value.bool b)) t98)⟩) ?_
                      refine op1_val (ex_load1 rfl Try.isAgg3 (h87.cell rfl)) ?_
                      exact ⟨_, Stp.refl _ _ _, rfl⟩
                    · rintro o257 w258 a259 ha ⟨hB, h10, h87⟩ ⟨r260, r261, r262, -⟩
                      have ha := Fr.cons (d := 55) ha r260
                      have ha := Fr.cons (d := 57) ha r261
                      have ha := Fr.cons (d := 59) ha r262
                      refine opS_of ha (⟨_, rfl, (congrArg (fun b => some (Value.bool b)) t98)⟩) ?_
                      refine wd_indexR h2 hx194 rfl rfl Try.underlying29 Try.sizeOf110 ?_
                      exact ⟨_, Stp.refl _ _ _, ⟨_, rfl, h2⟩⟩
                    · rintro o263 w264 a265 ha ⟨hB, h10, h87⟩ ⟨r266, r267, -⟩
                      have ha := Fr.cons (d := 55) ha r266
                      obtain ⟨v268, e269, h270⟩ := r267
                      have ha := Fr.cons (d := 60) ha e269
                      refine opS_of ha (⟨_, rfl, (congrArg (fun b => some (Value.bool b)) t98)⟩) ?_
                      refine wd_load1Z h270 hx194 hB rfl rfl Try.isAgg110 ?_
                      intro c271 h272
                      obtain ⟨v273, e275, h274⟩ := h272
                      cases e275
                      exact ⟨_, Stp.refl _ _ _, h274⟩
                    · rintro o276 w277 a278 ha ⟨hB, h10, h87⟩ ⟨r279, -⟩
                      have ha := Fr.cons (d := 55) ha r279
                      refine opS_of ha (⟨_, rfl, (congrArg (fun b => some (Value.bool b)) t98)⟩) ?_
                      refine op1_val (ex_field rfl Try.underlying115 rfl Try.sizeOf3) ?_
                      exact ⟨_, Stp.refl _ _ _, rfl⟩
                    · rintro o280 w281 a282 ha ⟨hB, h10, h87⟩ ⟨r283, r284, -⟩
                      have ha := Fr.cons (d := 55) ha r283
                      have ha := Fr.cons (d := 62) ha r284
                      refine opS_of ha (⟨_, rfl, (congrArg (fun b => some (Value.bool b)) t98)⟩) ?_
                      refine op1_val (ex_load1 rfl Try.isAgg3 (h87.cell rfl)) ?_
                      exact ⟨_, Stp.refl _ _ _, rfl⟩
                    · rintro o285 w286 a287 ha ⟨hB, h10, h87⟩ ⟨r288, r289, r290, -⟩
                      have ha := Fr.cons (d := 55) ha r288
                      replace r289 : RdL zt w (a287.tmps.getD 61 undef) x194 := r289
                      generalize e292 : a287.tmps.getD 61 undef = v291 at r289
                      have ha := Fr.cons (d := 61) ha e292
                      have ha := Fr.cons (d := 63) ha r290
                      refine opS_of ha (⟨_, rfl, (congrArg (fun b => some (Value.bool b)) t98)⟩) ?_
                      refine wd_indexR r289 hx200 rfl rfl Try.underlying110 Try.sizeOf115 ?_
                      exact ⟨_, Stp.refl _ _ _, ⟨_, rfl, r289⟩⟩
                    · rintro o293 w294 a295 ha ⟨hB, h10, h87⟩ ⟨r296, r297, -⟩
                      have ha := Fr.cons (d := 55) ha r296
                      obtain ⟨v298, e299, h300⟩ := r297
                      have ha := Fr.cons (d := 64) ha e299
                      refine opS_of ha (⟨_, rfl, (congrArg (fun b => some (Value.bool b)) t98)⟩) ?_
                      refine wd_loadAZ h300 hx200 hB rfl Try.isAgg115 Try.sizeOf115 ?_
                      intro c301 h302
                      cases h302
                      exact ⟨_, Stp.refl _ _ _, rfl⟩
                    · rintro o303 w304 a305 ha ⟨hB, h10, h87⟩ ⟨r306, -⟩
                      have ha := Fr.cons (d := 55) ha r306
                      refine opS_of ha (⟨_, rfl, (congrArg (fun b => some (Value.bool b)) t98)⟩) ?_
                      refine op1_val (ex_move rfl) ?_
                      exact ⟨_, Stp.refl _ _ _, rfl⟩
                    · rintro o307 w308 a309 ha ⟨hB, h10, h87⟩ ⟨r310, -⟩
                      have ha := Fr.cons (d := 55) ha r310
                      refine opS_of ha (⟨_, rfl, (congrArg (fun b => some (Value.bool b)) t98)⟩) ?_
                      refine op1_val (ex_move rfl) ?_
                      exact ⟨_, Stp.refl _ _ _, rfl⟩
                    · rintro o311 w312 a313 ha ⟨hB, h10, h87⟩ ⟨r314, r315, r316, -⟩
                      have ha := Fr.cons (d := 55) ha r314
                      have ha := Fr.cons (d := 66) ha r315
                      have ha := Fr.cons (d := 67) ha r316
                      refine opS_of ha (⟨_, rfl, (congrArg (fun b => some (Value.bool b)) t98)⟩) ?_
                      refine op1_val (ex_build (vs := [(0, (.int .i64 i42)), (1, (.int .i64 i64))]) (cs := [(.int .i64 i42), (.int .i64 i64)]) ⟨rfl, rfl, rfl, rfl, trivial⟩ (by kernel_rfl)) ?_
                      exact ⟨_, Stp.refl _ _ _, rfl⟩
                  rintro o317 w318 a319 ha ⟨hB, h10, h87⟩ ⟨-, -, -, -, -, -, -, r320, -, -, -, -, -, -, -, -, -, r321, -, -, r322, -⟩
                  have ha := Fr.cons (d := 55) ha r320
                  have ha := Fr.cons (d := 65) ha r321
                  have ha := Fr.cons (d := 68) ha r322
                  refine wl_of ha ?_
                  simp only [List.length_cons, List.length_nil, Nat.zero_add, Nat.reduceAdd, List.drop_succ_cons, List.drop_zero]
                  refine st_val (ex_neqEnd rfl rfl) (by decide) ⟨_, rfl, (congrArg (fun b => some (Value.bool b)) t98)⟩ ?_
                  refine st_val (ex_pick_f (congrArg (fun b => some (Value.bool b)) t98) rfl) (by decide) trivial ?_
                  have e323 := Option.some.inj hq88
                  subst e323
                  refine wpF_end (r := [(1, (.pointer (some ⟨b9, 0, none⟩))), (3, (.int .i64 i42)), (31, v1), (32, (.int .i64 (p0.Ends.length : Int))), (33, (.int .i64 i42)), (41, v58), (42, (.int .i64 (x52.length : Int))), (43, (.int .i64 i64)), (70, (.bool (!(x200.Node == i42 && x200.Port == i64))))]) ⟨rfl, rfl, rfl, rfl, rfl, rfl, rfl, rfl, rfl, trivial⟩ ?_
                  refine np_norm (fun a ha => ⟨o317, ha, hB, h10⟩)
              rintro a324 w90 ⟨o89, ha, hB, h10⟩
              refine ap_k ha ?_
              refine nx ?_
              refine wpC_cond rfl (fun t325 => ?_) (fun t325 => ?_)
              · rw [if_pos t325] at b71
                refine wpC_seq ?_
                refine wpC_region ?_
                refine st_val (ex_assign rfl) (by decide) trivial ?_
                refine wpF_end (r := [(2, (.bool false))]) ⟨rfl, trivial⟩ ?_
                refine nx ?_
                refine wpC_ret ?_
                refine nb_ret ?_
                refine nt_ret ?_
                refine nt_ret ?_
                refine nb_ret ?_
                refine np_ret ?_
                have e326 := Option.some.inj b71
                subst e326
                refine fun a ha => ⟨_, n72, ?_⟩
                refine ret_post (P := Try.prog) (vs := [(.bool false)]) Try.results65 ⟨rfl, trivial⟩ ?_ a ha
                exact ⟨rfl, hB.keeps⟩
              · rw [if_neg (by rw [t325]; decide)] at b71
                refine wpC_skip ?_
                refine nb_norm ?_
                refine nx ?_
                refine wpC_region ?_
                refine st_val (ex_add rfl rfl (ck_in (by omega) (by omega))) (by decide) trivial ?_
                refine st_val (ex_move rfl) (by decide) trivial ?_
                refine wpF_end (r := [(1, (.pointer (some ⟨b9, 0, none⟩))), (3, (.int .i64 i42)), (31, v1), (32, (.int .i64 (p0.Ends.length : Int))), (33, (.int .i64 i42)), (41, v58), (42, (.int .i64 (x52.length : Int))), (43, (.int .i64 (i64 + 1)))]) ⟨rfl, rfl, rfl, rfl, rfl, rfl, rfl, rfl, trivial⟩ ?_
                refine nt_norm ?_
                have e327 := Option.some.inj b71
                subst e327
                refine to_k (r := [(1, (.pointer (some ⟨b9, 0, none⟩))), (3, (.int .i64 i42)), (31, v1), (32, (.int .i64 (p0.Ends.length : Int))), (33, (.int .i64 i42)), (41, v58), (42, (.int .i64 (x52.length : Int))), (43, (.int .i64 (i64 + 1)))]) ⟨rfl, rfl, rfl, rfl, rfl, rfl, rfl, rfl, trivial⟩ ?_
                intro a ha
                exact ⟨_, (by rw [← m68]; simp only [List.length_drop]; omega), i64 + 1, o89, n72, rfl, (by omega), ha, hB, h10⟩
            · have r328 := forI_done t73 l66
              refine wp_of ha ?_
              refine wpC_seq ?_
              refine wpC_region ?_
              refine st_val (ex_lss rfl rfl) (by decide) trivial ?_
              refine wpF_end (r := [(1, (.pointer (some ⟨b9, 0, none⟩))), (3, (.int .i64 i42)), (31, v1), (32, (.int .i64 (p0.Ends.length : Int))), (33, (.int .i64 i42)), (41, v58), (42, (.int .i64 (x52.length : Int))), (43, (.int .i64 i64)), (44, (.bool (decide (i64 < (x52.length : Int)))))]) ⟨rfl, rfl, rfl, rfl, rfl, rfl, rfl, rfl, rfl, trivial⟩ ?_
              refine nx ?_
              refine wpC_seq ?_
              refine wpC_false (congrArg (fun b => some (Value.bool b)) (decide_eq_false t73)) ?_
              refine wpC_exit ?_
              refine nt_exit ?_
              refine nt_exit ?_
              refine nb_hit ?_
              refine np_norm ?_
              refine to_k (r := [(1, (.pointer (some ⟨b9, 0, none⟩))), (31, v1), (32, (.int .i64 (p0.Ends.length : Int))), (33, (.int .i64 i42))]) ⟨rfl, rfl, rfl, rfl, trivial⟩ ?_
              intro a ha
              exact ⟨o62, r328, ha, hB, h10⟩
          · rintro a w63 ⟨o62, rfl, ha, hB, h10⟩
            dsimp only at b49
            refine ap_k ha ?_
            refine nb_norm ?_
            refine nx ?_
            refine wpC_region ?_
            refine st_val (ex_add rfl rfl (ck_in (by omega) (by omega))) (by decide) trivial ?_
            refine st_val (ex_move rfl) (by decide) trivial ?_
            refine wpF_end (r := [(1, (.pointer (some ⟨b9, 0, none⟩))), (31, v1), (32, (.int .i64 (p0.Ends.length : Int))), (33, (.int .i64 (i42 + 1)))]) ⟨rfl, rfl, rfl, rfl, trivial⟩ ?_
            refine nt_norm ?_
            have e329 := Option.some.inj b49
            subst e329
            refine to_k (r := [(1, (.pointer (some ⟨b9, 0, none⟩))), (31, v1), (32, (.int .i64 (p0.Ends.length : Int))), (33, (.int .i64 (i42 + 1)))]) ⟨rfl, rfl, rfl, rfl, trivial⟩ ?_
            intro a ha
            exact ⟨_, (by rw [← m46]; simp only [List.length_drop]; omega), i42 + 1, o62, n50, rfl, (by omega), ha, hB, h10⟩
          · rintro a w63 ⟨r', rfl, b330⟩
            dsimp only at b49
            have e331 := Option.some.inj b49
            subst e331
            exact ⟨_, n50, b330⟩
      · have r332 := forI_done t51 l44
        refine wp_of ha ?_
        refine wpC_seq ?_
        refine wpC_region ?_
        refine st_val (ex_lss rfl rfl) (by decide) trivial ?_
        refine wpF_end (r := [(1, (.pointer (some ⟨b9, 0, none⟩))), (31, v1), (32, (.int .i64 (p0.Ends.length : Int))), (33, (.int .i64 i42)), (34, (.bool (decide (i42 < (p0.Ends.length : Int)))))]) ⟨rfl, rfl, rfl, rfl, rfl, trivial⟩ ?_
        refine nx ?_
        refine wpC_seq ?_
        refine wpC_false (congrArg (fun b => some (Value.bool b)) (decide_eq_false t51)) ?_
        refine wpC_exit ?_
        refine nt_exit ?_
        refine nt_exit ?_
        refine nb_hit ?_
        refine np_norm ?_
        refine to_k (r := []) trivial ?_
        intro a ha
        exact ⟨o40, r332, ha, hB⟩
    · rintro a w41 ⟨o40, rfl, ha, hB⟩
      dsimp only at hF
      refine ap_k ha ?_
      refine nx ?_
      refine wpC_seq ?_
      refine wpC_region ?_
      refine st_val (ex_assign rfl) (by decide) trivial ?_
      refine wpF_end (r := [(2, (.bool true))]) ⟨rfl, trivial⟩ ?_
      refine nx ?_
      refine wpC_ret ?_
      have e333 := Option.some.inj hF
      subst e333
      refine ret_post (P := Try.prog) (vs := [(.bool true)]) Try.results65 ⟨rfl, trivial⟩ ?_
      exact ⟨rfl, hB.keeps⟩
    · rintro a w41 ⟨r', rfl, b334⟩
      dsimp only at hF
      have e335 := Option.some.inj hF
      subst e335
      exact b334

def fI_nodesOk (p0 : T_Network) (p1 : Int) (p2 : T_Network) (p3 : Int) : Option Bool :=
  (fI_IsNetwork p0) >>= fun x23 =>
  (
    if x23 then
      (fI_IsNetwork p2) >>= fun x33 =>
      if x33 then
        (fI_Network_hasNode p0 p1) >>= fun x40 =>
        if x40 then
          (fI_Network_hasNode p2 p3) >>= fun x47 =>
          some x47
        else
          some false
      else
        some false
    else
      some false) >>= fun q29 =>
  some q29

end Go.Proofs.Ytijaojnaamkinaa
