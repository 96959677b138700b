/- spec.nuBit, spec.nuDiffer, spec.cyColours, spec.cyBit, spec.BitStep, impl.areRingColours, impl.bitStep, impl.BitStep: plain functions, and the walks that show that the program computes them (printed by gen.py). -/
import Derived.Test.YthhpcledhflapaaDoorGO
import Derived.Test.YthhpcledhflapaaDoorTzk
namespace Go.Proofs.YthhpcledhflapaaDoor
open Go.RowKit
set_option linter.unusedSimpArgs false
set_option linter.unusedVariables false

theorem info2_t_int_Ta : Inf Tryd.prog 3 (.int .i64 0) 1 8 := by unfold Inf; kernel_rfl

def fS_nuBit_s1 : (Int × Int) → Option (Lp (Int × Int) (Int × Int) Int) := fun (s : Int × Int) =>
  if decide (s.2 > 0) then
    (quo s.1 2) >>= fun x16 =>
    (ck (s.2 - 1)) >>= fun x17 =>
    some (.go (x16, x17))
  else
    some (.out (s.1, s.2))
def fS_nuBit (fuel : Nat) (p0 : Int) (p1 : Int) : Option Int :=
  (loopF (fS_nuBit_s1) fuel (p0, p1)) >>= fun q5 =>
  match q5 with
  | .inl (y1, y2) =>
    (rem y1 2) >>= fun x20 =>
    some x20
  | .inr _ => none

def pS_nuBit (w : World) (r : Int) : Ending → World → Prop := fun e w' => e = .returned (.int .i64 r) ∧ Keeps w w'
set_option maxRecDepth 100000 in
set_option maxHeartbeats 2000000 in
theorem cS_nuBit (fuel : Nat) (w : World) (p0 : Int) (p1 : Int) (r : Int) (hF : fS_nuBit fuel p0 p1 = some r) :
    Calls Tryd.prog 44 #[.int .i64 p0, .int .i64 p1] w (pS_nuBit w r) := by
  unfold fS_nuBit at hF
  have hB : Bs (fun _ => 1) (col (fun _ => 1)) w w := Bs.start _ _
  refine calls_start (n := 13) (vs := [(.int .i64 p0), (.int .i64 p1)]) Tryd.func44 rfl rfl ?_
  refine wpC_seq ?_
  refine wpC_region ?_
  refine st_val (ex_assign rfl) (by decide) trivial ?_
  refine wpF_end (r := [(0, (.int .i64 p0)), (1, (.int .i64 p1))]) ⟨rfl, rfl, trivial⟩ ?_
  refine nx ?_
  obtain ⟨q5, hq5, hF⟩ := bind_some hF
  refine wpC_cutP (fun a w4 => ∃ (y1 : Int) (y2 : Int) (o3 : Tg), q5 = .inl (y1, y2) ∧ Fr a 13 [(0, (.int .i64 y1))] ∧ Bs (fun _ => 1) o3 w w4) (fun _ _ => False) ?_ ?_ ?_
  · refine wpC_block ?_
    refine wpC_loop (fun (K : Nat) a w4 => ∃ (y1 : Int) (y2 : Int) (o3 : Tg), loopF (fS_nuBit_s1) K (y1, y2) = some q5 ∧ Fr a 13 [(0, (.int .i64 y1)), (1, (.int .i64 y2))] ∧ Bs (fun _ => 1) o3 w w4) fuel (fun a ha => ⟨p0, p1, (col (fun _ => 1)), hq5, ha.sub (r := [(0, (.int .i64 p0)), (1, (.int .i64 p1))]) ⟨rfl, rfl, trivial⟩, hB⟩) ?_
    rintro K9 a w4 ⟨y1, y2, o3, l6, ha, hB⟩
    obtain ⟨K13, q10, e14, b11, n12⟩ := loopF_cons l6
    dsimp only [fS_nuBit_s1] at b11
    refine wp_of ha ?_
    refine wpC_seq ?_
    refine wpC_seq ?_
    refine wpC_region ?_
    refine st_val (ex_move rfl) (by decide) trivial ?_
    refine st_val (ex_gtr rfl rfl) (by decide) trivial ?_
    refine wpF_end (r := [(0, (.int .i64 y1)), (1, (.int .i64 y2)), (6, (.bool (decide (y2 > 0))))]) ⟨rfl, rfl, rfl, trivial⟩ ?_
    refine nx ?_
    refine wpC_cond rfl (fun t15 => ?_) (fun t15 => ?_)
    · rw [if_pos t15] at b11
      refine wpC_skip ?_
      refine nx ?_
      refine wpC_seq ?_
      refine wpC_block ?_
      refine wpC_region ?_
      refine st_val (ex_move rfl) (by decide) trivial ?_
      obtain ⟨x16, hx16, b11⟩ := bind_some b11
      refine st_val (ex_quo rfl rfl hx16) (by decide) trivial ?_
      refine st_val (ex_assign rfl) (by decide) trivial ?_
      refine wpF_end (r := [(0, (.int .i64 x16)), (1, (.int .i64 y2))]) ⟨rfl, rfl, trivial⟩ ?_
      refine nb_norm ?_
      refine nx ?_
      refine wpC_region ?_
      refine st_val (ex_move rfl) (by decide) trivial ?_
      obtain ⟨x17, hx17, b11⟩ := bind_some b11
      refine st_val (ex_sub rfl rfl hx17) (by decide) trivial ?_
      refine st_val (ex_assign rfl) (by decide) trivial ?_
      refine wpF_end (r := [(0, (.int .i64 x16)), (1, (.int .i64 x17))]) ⟨rfl, rfl, trivial⟩ ?_
      refine nt_norm ?_
      have e18 := Option.some.inj b11
      subst e18
      refine to_k (r := [(0, (.int .i64 x16)), (1, (.int .i64 x17))]) ⟨rfl, rfl, trivial⟩ ?_
      intro a ha
      exact ⟨K13, by omega, x16, x17, o3, n12, ha, hB⟩
    · rw [if_neg (by rw [t15]; decide)] at b11
      refine wpC_exit ?_
      refine nt_exit ?_
      refine nt_exit ?_
      refine nb_hit ?_
      refine np_norm ?_
      have e19 := Option.some.inj b11
      subst e19
      refine to_k (r := [(0, (.int .i64 y1))]) ⟨rfl, trivial⟩ ?_
      intro a ha
      exact ⟨y1, y2, o3, n12, ha, hB⟩
  · rintro a w4 ⟨y1, y2, o3, rfl, ha, hB⟩
    dsimp only at hF
    refine wp_of ha ?_
    refine wpC_seq ?_
    refine wpC_region ?_
    refine st_val (ex_move rfl) (by decide) trivial ?_
    obtain ⟨x20, hx20, hF⟩ := bind_some hF
    refine st_val (ex_rem rfl rfl hx20) (by decide) trivial ?_
    refine st_val (ex_assign rfl) (by decide) trivial ?_
    refine wpF_end (r := [(4, (.int .i64 x20))]) ⟨rfl, trivial⟩ ?_
    refine nx ?_
    refine wpC_ret ?_
    have e21 := Option.some.inj hF
    subst e21
    refine ret_post (P := Tryd.prog) (vs := [(.int .i64 x20)]) Tryd.results44 ⟨rfl, trivial⟩ ?_
    exact ⟨rfl, hB.keeps⟩
  · exact fun _ _ h => h.elim

def fS_nuDiffer_s1 (fuel : Nat) (p0 : Int) (p1 : Int) : Int → Option (Lp Int Int Int) := fun (s : Int) =>
  (fS_nuBit fuel p0 s) >>= fun x14 =>
  (fS_nuBit fuel p1 s) >>= fun x20 =>
  if x14 == x20 then
    (ck (s + 1)) >>= fun x27 =>
    some (.go x27)
  else
    some (.out s)
def fS_nuDiffer (fuel : Nat) (p0 : Int) (p1 : Int) : Option Int :=
  (loopF (fS_nuDiffer_s1 fuel p0 p1) fuel 0) >>= fun q4 =>
  match q4 with
  | .inl y1 =>
    some y1
  | .inr _ => none

def pS_nuDiffer (w : World) (r : Int) : Ending → World → Prop := fun e w' => e = .returned (.int .i64 r) ∧ Keeps w w'
set_option maxRecDepth 100000 in
set_option maxHeartbeats 2000000 in
theorem cS_nuDiffer (fuel : Nat) (w : World) (p0 : Int) (p1 : Int) (r : Int) (hF : fS_nuDiffer fuel p0 p1 = some r) :
    Calls Tryd.prog 43 #[.int .i64 p0, .int .i64 p1] w (pS_nuDiffer w r) := by
  unfold fS_nuDiffer at hF
  have hB : Bs (fun _ => 1) (col (fun _ => 1)) w w := Bs.start _ _
  refine calls_start (n := 16) (vs := [(.int .i64 p0), (.int .i64 p1)]) Tryd.func43 rfl rfl ?_
  refine wpC_seq ?_
  refine wpC_region ?_
  refine st_val (ex_assign rfl) (by decide) trivial ?_
  refine wpF_end (r := [(0, (.int .i64 p0)), (1, (.int .i64 p1))]) ⟨rfl, rfl, trivial⟩ ?_
  refine nx ?_
  refine wpC_seq ?_
  refine wpC_region ?_
  refine st_val (ex_assign rfl) (by decide) trivial ?_
  refine wpF_end (r := [(0, (.int .i64 p0)), (1, (.int .i64 p1)), (5, (.int .i64 0))]) ⟨rfl, rfl, rfl, trivial⟩ ?_
  refine nx ?_
  obtain ⟨q4, hq4, hF⟩ := bind_some hF
  refine wpC_cutP (fun a w3 => ∃ (y1 : Int) (o2 : Tg), q4 = .inl y1 ∧ Fr a 16 [(5, (.int .i64 y1))] ∧ Bs (fun _ => 1) o2 w w3) (fun _ _ => False) ?_ ?_ ?_
  · refine wpC_block ?_
    refine wpC_loop (fun (K : Nat) a w3 => ∃ (y1 : Int) (o2 : Tg), loopF (fS_nuDiffer_s1 fuel p0 p1) K y1 = some q4 ∧ Fr a 16 [(0, (.int .i64 p0)), (1, (.int .i64 p1)), (5, (.int .i64 y1))] ∧ Bs (fun _ => 1) o2 w w3) fuel (fun a ha => ⟨0, (col (fun _ => 1)), hq4, ha.sub (r := [(0, (.int .i64 p0)), (1, (.int .i64 p1)), (5, (.int .i64 0))]) ⟨rfl, rfl, rfl, trivial⟩, hB⟩) ?_
    rintro K8 a w3 ⟨y1, o2, l5, ha, hB⟩
    obtain ⟨K12, q9, e13, b10, n11⟩ := loopF_cons l5
    dsimp only [fS_nuDiffer_s1] at b10
    refine wp_of ha ?_
    refine wpC_seq ?_
    refine wpC_seq ?_
    refine wpC_region ?_
    refine st_val (ex_move rfl) (by decide) trivial ?_
    refine st_val (ex_move rfl) (by decide) trivial ?_
    obtain ⟨x14, hx14, b10⟩ := bind_some b10
    refine st_op (by decide) trivial ?_
    refine wf_call (cS_nuBit fuel w3 p0 y1 x14 hx14) Tryd.call44 ⟨rfl, rfl, trivial⟩ ?_
    rintro e19 w15 ⟨rfl, k16⟩
    have s18 := k16.stp 999 o2
    refine ⟨_, rfl, ?_⟩
    replace hB := hB.stp s18 (by decide)
    refine st_val (ex_move rfl) (by decide) trivial ?_
    refine st_val (ex_move rfl) (by decide) trivial ?_
    obtain ⟨x20, hx20, b10⟩ := bind_some b10
    refine st_op (by decide) trivial ?_
    refine wf_call (cS_nuBit fuel w15 p1 y1 x20 hx20) Tryd.call44 ⟨rfl, rfl, trivial⟩ ?_
    rintro e25 w21 ⟨rfl, k22⟩
    have s24 := k22.stp 999 o2
    refine ⟨_, rfl, ?_⟩
    replace hB := hB.stp s24 (by decide)
    refine st_val (ex_eql rfl rfl) (by decide) trivial ?_
    refine wpF_end (r := [(0, (.int .i64 p0)), (1, (.int .i64 p1)), (5, (.int .i64 y1)), (12, (.bool (x14 == x20)))]) ⟨rfl, rfl, rfl, rfl, trivial⟩ ?_
    refine nx ?_
    refine wpC_cond rfl (fun t26 => ?_) (fun t26 => ?_)
    · rw [if_pos t26] at b10
      refine wpC_skip ?_
      refine nx ?_
      refine wpC_block ?_
      refine wpC_region ?_
      refine st_val (ex_move rfl) (by decide) trivial ?_
      obtain ⟨x27, hx27, b10⟩ := bind_some b10
      refine st_val (ex_add rfl rfl hx27) (by decide) trivial ?_
      refine st_val (ex_assign rfl) (by decide) trivial ?_
      refine wpF_end (r := [(0, (.int .i64 p0)), (1, (.int .i64 p1)), (5, (.int .i64 x27))]) ⟨rfl, rfl, rfl, trivial⟩ ?_
      refine nb_norm ?_
      refine nt_norm ?_
      have e28 := Option.some.inj b10
      subst e28
      refine to_k (r := [(0, (.int .i64 p0)), (1, (.int .i64 p1)), (5, (.int .i64 x27))]) ⟨rfl, rfl, rfl, trivial⟩ ?_
      intro a ha
      exact ⟨K12, by omega, x27, o2, n11, ha, hB⟩
    · rw [if_neg (by rw [t26]; decide)] at b10
      refine wpC_exit ?_
      refine nt_exit ?_
      refine nt_exit ?_
      refine nb_hit ?_
      refine np_norm ?_
      have e29 := Option.some.inj b10
      subst e29
      refine to_k (r := [(5, (.int .i64 y1))]) ⟨rfl, trivial⟩ ?_
      intro a ha
      exact ⟨y1, o2, n11, ha, hB⟩
  · rintro a w3 ⟨y1, o2, rfl, ha, hB⟩
    dsimp only at hF
    refine wp_of ha ?_
    refine wpC_seq ?_
    refine wpC_region ?_
    refine st_val (ex_move rfl) (by decide) trivial ?_
    refine st_val (ex_assign rfl) (by decide) trivial ?_
    refine wpF_end (r := [(4, (.int .i64 y1))]) ⟨rfl, trivial⟩ ?_
    refine nx ?_
    refine wpC_ret ?_
    have e30 := Option.some.inj hF
    subst e30
    refine ret_post (P := Tryd.prog) (vs := [(.int .i64 y1)]) Tryd.results43 ⟨rfl, trivial⟩ ?_
    exact ⟨rfl, hB.keeps⟩
  · exact fun _ _ h => h.elim

def fS_cyColours_s1 (p0 : List Int) : Int → Int → Unit → Option (Lp Unit Unit Bool) := fun (i24 : Int) (x34 : Int) (s : Unit) =>
  (ck (i24 + 1)) >>= fun x40 =>
  (rem x40 (p0.length : Int)) >>= fun x41 =>
  (ix p0 x41) >>= fun x42 =>
  if x34 == x42 then
    some (.ret false)
  else
    some (.go ())
def fS_cyColours (p0 : List Int) : Option Bool :=
  (fS_cyLong p0) >>= fun x1 =>
  (
    if !x1 then
      some true
    else
      (fS_l1All p0 0 1000000000000) >>= fun x11 =>
      some (!x11)) >>= fun q7 =>
  if q7 then
    some false
  else
    (forI (fS_cyColours_s1 p0) p0 0 ()) >>= fun q25 =>
    match q25 with
    | .inl _ =>
      some true
    | .inr r' => some r'

def pS_cyColours (w : World) (r : Bool) : Ending → World → Prop := fun e w' => e = .returned (.bool r) ∧ Keeps w w'
set_option maxRecDepth 100000 in
set_option maxHeartbeats 2000000 in
theorem cS_cyColours (w : World) (u0 : Value) (p0 : List Int) (g0 : RdL zt w u0 p0) (r : Bool) (hF : fS_cyColours p0 = some r) :
    Calls Tryd.prog 22 #[u0] w (pS_cyColours w r) := by
  unfold fS_cyColours at hF
  have hB : Bs (fun _ => 1) (col (fun _ => 1)) w w := Bs.start _ _
  refine calls_start (n := 31) (vs := [u0]) Tryd.func22 rfl rfl ?_
  refine wpC_seq ?_
  refine wpC_region ?_
  refine st_val (ex_assign rfl) (by decide) trivial ?_
  refine wpF_end (r := [(0, u0)]) ⟨rfl, trivial⟩ ?_
  refine nx ?_
  refine wpC_seq ?_
  refine wpC_seq ?_
  refine wpC_region ?_
  refine st_val (ex_move rfl) (by decide) trivial ?_
  obtain ⟨x1, hx1, hF⟩ := bind_some hF
  refine st_op (by decide) trivial ?_
  refine wf_call (cS_cyLong w _ p0 (g0.keep hB.keeps) x1 hx1) Tryd.call41 ⟨rfl, trivial⟩ ?_
  rintro e6 w2 ⟨rfl, k3⟩
  have s5 := k3.stp 999 (col (fun _ => 1))
  refine ⟨_, rfl, ?_⟩
  replace hB := hB.stp s5 (by decide)
  refine st_val (ex_not rfl) (by decide) trivial ?_
  refine st_val (ex_move rfl) (by decide) trivial ?_
  obtain ⟨q7, hq7, hF⟩ := bind_some hF
  refine wpF_cutAt 4 (fun a9 w8 => Fr a9 31 [(0, u0), (12, (.bool q7))] ∧ Keeps w2 w8) ?_ ?_
  all_goals simp only [List.take_succ_cons, List.take_zero, List.drop_succ_cons, List.drop_zero]
  · have kp : Keeps w2 w2 := Keeps.refl _
    rcases Bool.eq_false_or_eq_true (!x1) with t10 | t10
    · rw [if_pos t10] at hq7
      refine st_no rfl rfl (by rw [t10]; rfl) (by decide) ?_
      refine st_no rfl rfl (by rw [t10]; rfl) (by decide) ?_
      refine st_no rfl rfl (by rw [t10]; rfl) (by decide) ?_
      refine st_val (ex_pick_t (congrArg (fun b => some (Value.bool b)) t10) rfl) (by decide) trivial ?_
      have hq72 := Option.some.inj hq7
      refine wpF_end (r := [(0, u0), (12, (.bool true))]) ⟨rfl, rfl, trivial⟩ ?_
      subst hq72
      refine np_norm (fun a ha => ⟨ha, kp⟩)
    · rw [if_neg (by rw [t10]; decide)] at hq7
      refine st_val (ex_move rfl) (by decide) ⟨_, rfl, (congrArg (fun b => some (Value.bool b)) t10)⟩ ?_
      obtain ⟨x11, hx11, hq7⟩ := bind_some hq7
      refine st_op (by decide) ⟨_, rfl, (congrArg (fun b => some (Value.bool b)) t10)⟩ ?_
      refine wf_call (cS_l1All w2 _ p0 (g0.keep hB.keeps) 0 1000000000000 x11 hx11) Tryd.call42 ⟨rfl, rfl, rfl, trivial⟩ ?_
      rintro e16 w12 ⟨rfl, k13⟩
      have s15 := k13.stp 999 (col (fun _ => 1))
      refine ⟨_, rfl, ?_⟩
      replace hB := hB.stp s15 (by decide)
      replace kp := Keeps.trans kp k13
      refine st_val (ex_not rfl) (by decide) ⟨_, rfl, (congrArg (fun b => some (Value.bool b)) t10)⟩ ?_
      refine st_val (ex_pick_f (congrArg (fun b => some (Value.bool b)) t10) rfl) (by decide) trivial ?_
      have hq72 := Option.some.inj hq7
      refine wpF_end (r := [(0, u0), (12, (.bool (!x11)))]) ⟨rfl, rfl, trivial⟩ ?_
      subst hq72
      refine np_norm (fun a ha => ⟨ha, kp⟩)
  rintro a19 w8 ⟨ha, k17⟩
  have s18 := k17.stp 999 (col (fun _ => 1))
  replace hB := hB.stp s18 (by decide)
  refine wl_of ha ?_
  refine wpF_end (r := [(0, u0), (12, (.bool q7))]) ⟨rfl, rfl, trivial⟩ ?_
  refine nx ?_
  refine wpC_cond rfl (fun t20 => ?_) (fun t20 => ?_)
  · rw [if_pos t20] at hF
    refine wpC_seq ?_
    refine wpC_region ?_
    refine st_val (ex_assign rfl) (by decide) trivial ?_
    refine wpF_end (r := [(2, (.bool false))]) ⟨rfl, trivial⟩ ?_
    refine nx ?_
    refine wpC_ret ?_
    refine nt_ret ?_
    have e21 := Option.some.inj hF
    subst e21
    refine ret_post (P := Tryd.prog) (vs := [(.bool false)]) Tryd.results22 ⟨rfl, trivial⟩ ?_
    exact ⟨rfl, hB.keeps⟩
  · rw [if_neg (by rw [t20]; decide)] at hF
    refine wpC_skip ?_
    refine nx ?_
    refine wpC_seq ?_
    refine wpC_seq ?_
    refine wpC_region ?_
    refine st_val (ex_move rfl) (by decide) trivial ?_
    refine st_val (ex_lenR rfl g0 Tryd.underlying22) (by decide) trivial ?_
    refine st_val (ex_move rfl) (by decide) trivial ?_
    refine wpF_end (r := [(0, u0), (13, u0), (14, (.int .i64 (p0.length : Int))), (15, (.int .i64 0))]) ⟨rfl, rfl, rfl, rfl, trivial⟩ ?_
    refine nx ?_
    obtain ⟨q25, hq25, hF⟩ := bind_some hF
    refine wpC_cutN (fun a w23 => ∃ (o22 : Tg), q25 = .inl () ∧ Fr a 31 [] ∧ Bs (fun _ => 1) o22 w w23) (fun a w' => ∃ r', q25 = .inr r' ∧ bodyPost Tryd.prog Tryd.f22 (pS_cyColours w r') .ret a w') ?_ ?_ ?_
    · refine wpC_block ?_
      refine wpC_loop (fun (K : Nat) a w23 => ∃ (i24 : Int) (o22 : Tg), forI (fS_cyColours_s1 p0) (p0.drop i24.toNat) i24 () = some q25 ∧ (p0.drop i24.toNat).length = K ∧ 0 ≤ i24 ∧ Fr a 31 [(0, u0), (13, u0), (14, (.int .i64 (p0.length : Int))), (15, (.int .i64 i24))] ∧ Bs (fun _ => 1) o22 w w23) _ (fun a ha => ⟨0, (col (fun _ => 1)), hq25, rfl, Int.le_refl 0, ha.sub (r := [(0, u0), (13, u0), (14, (.int .i64 (p0.length : Int))), (15, (.int .i64 0))]) ⟨rfl, rfl, rfl, rfl, trivial⟩, hB⟩) ?_
      rintro K29 a w23 ⟨i24, o22, l26, m28, z27, ha, hB⟩
      by_cases t33 : i24 < (p0.length : Int)
      · obtain ⟨x34, q30, hx34, b31, n32⟩ := forI_cons z27 t33 l26
        have hle := g0.len_le
        dsimp only [fS_cyColours_s1] at b31
        refine wp_of ha ?_
        refine wpC_seq ?_
        refine wpC_region ?_
        refine st_val (ex_lss rfl rfl) (by decide) trivial ?_
        refine wpF_end (r := [(0, u0), (13, u0), (14, (.int .i64 (p0.length : Int))), (15, (.int .i64 i24)), (16, (.bool (decide (i24 < (p0.length : Int)))))]) ⟨rfl, rfl, rfl, rfl, rfl, trivial⟩ ?_
        refine nx ?_
        refine wpC_seq ?_
        refine wpC_true (congrArg (fun b => some (Value.bool b)) (decide_eq_true t33)) ?_
        refine wpC_skip ?_
        refine nx ?_
        refine wpC_seq ?_
        refine wpC_block ?_
        refine wpC_seq ?_
        refine wpC_region ?_
        refine st_val (ex_move rfl) (by decide) trivial ?_
        refine st_op (by decide) trivial ?_
        refine wf_atZ g0 hx34 hB rfl rfl Tryd.underlying22 Tryd.sizeOf3 ?_
        intro b35 f36 c37 h38 h39
        cases h39
        refine st_val (ex_load1 rfl Tryd.isAgg3 (cell_of_cells h38)) (by decide) trivial ?_
        refine st_val (ex_assign rfl) (by decide) trivial ?_
        refine st_val (ex_assign rfl) (by decide) trivial ?_
        refine wpF_end (r := [(0, u0), (3, (.int .i64 i24)), (4, (.int .i64 x34)), (13, u0), (14, (.int .i64 (p0.length : Int))), (15, (.int .i64 i24))]) ⟨rfl, rfl, rfl, rfl, rfl, rfl, trivial⟩ ?_
        refine nx ?_
        refine wpC_seq ?_
        refine wpC_region ?_
        refine st_val (ex_move rfl) (by decide) trivial ?_
        refine st_val (ex_move rfl) (by decide) trivial ?_
        refine st_val (ex_move rfl) (by decide) trivial ?_
        obtain ⟨x40, hx40, b31⟩ := bind_some b31
        refine st_val (ex_add rfl rfl hx40) (by decide) trivial ?_
        refine st_val (ex_move rfl) (by decide) trivial ?_
        refine st_val (ex_lenR rfl g0 Tryd.underlying22) (by decide) trivial ?_
        obtain ⟨x41, hx41, b31⟩ := bind_some b31
        refine st_val (ex_rem rfl rfl hx41) (by decide) trivial ?_
        obtain ⟨x42, hx42, b31⟩ := bind_some b31
        refine st_op (by decide) trivial ?_
        refine wf_atZ g0 hx42 hB rfl rfl Tryd.underlying22 Tryd.sizeOf3 ?_
        intro b43 f44 c45 h46 h47
        cases h47
        refine st_val (ex_load1 rfl Tryd.isAgg3 (cell_of_cells h46)) (by decide) trivial ?_
        refine st_val (ex_eql rfl rfl) (by decide) trivial ?_
        refine wpF_end (r := [(0, u0), (13, u0), (14, (.int .i64 (p0.length : Int))), (15, (.int .i64 i24)), (29, (.bool (x34 == x42)))]) ⟨rfl, rfl, rfl, rfl, rfl, trivial⟩ ?_
        refine nx ?_
        refine wpC_cond rfl (fun t48 => ?_) (fun t48 => ?_)
        · rw [if_pos t48] at b31
          refine wpC_seq ?_
          refine wpC_region ?_
          refine st_val (ex_assign rfl) (by decide) trivial ?_
          refine wpF_end (r := [(2, (.bool false))]) ⟨rfl, trivial⟩ ?_
          refine nx ?_
          refine wpC_ret ?_
          refine nb_ret ?_
          refine nt_ret ?_
          refine nt_ret ?_
          refine nb_ret ?_
          refine np_ret ?_
          have e49 := Option.some.inj b31
          subst e49
          refine fun a ha => ⟨_, n32, ?_⟩
          refine ret_post (P := Tryd.prog) (vs := [(.bool false)]) Tryd.results22 ⟨rfl, trivial⟩ ?_ a ha
          exact ⟨rfl, hB.keeps⟩
        · rw [if_neg (by rw [t48]; decide)] at b31
          refine wpC_skip ?_
          refine nb_norm ?_
          refine nx ?_
          refine wpC_region ?_
          refine st_val (ex_add rfl rfl (ck_in (by omega) (by omega))) (by decide) trivial ?_
          refine st_val (ex_move rfl) (by decide) trivial ?_
          refine wpF_end (r := [(0, u0), (13, u0), (14, (.int .i64 (p0.length : Int))), (15, (.int .i64 (i24 + 1)))]) ⟨rfl, rfl, rfl, rfl, trivial⟩ ?_
          refine nt_norm ?_
          have e50 := Option.some.inj b31
          subst e50
          refine to_k (r := [(0, u0), (13, u0), (14, (.int .i64 (p0.length : Int))), (15, (.int .i64 (i24 + 1)))]) ⟨rfl, rfl, rfl, rfl, trivial⟩ ?_
          intro a ha
          exact ⟨_, (by rw [← m28]; simp only [List.length_drop]; omega), i24 + 1, o22, n32, rfl, (by omega), ha, hB⟩
      · have r51 := forI_done t33 l26
        refine wp_of ha ?_
        refine wpC_seq ?_
        refine wpC_region ?_
        refine st_val (ex_lss rfl rfl) (by decide) trivial ?_
        refine wpF_end (r := [(0, u0), (13, u0), (14, (.int .i64 (p0.length : Int))), (15, (.int .i64 i24)), (16, (.bool (decide (i24 < (p0.length : Int)))))]) ⟨rfl, rfl, rfl, rfl, rfl, trivial⟩ ?_
        refine nx ?_
        refine wpC_seq ?_
        refine wpC_false (congrArg (fun b => some (Value.bool b)) (decide_eq_false t33)) ?_
        refine wpC_exit ?_
        refine nt_exit ?_
        refine nt_exit ?_
        refine nb_hit ?_
        refine np_norm ?_
        refine to_k (r := []) trivial ?_
        intro a ha
        exact ⟨o22, r51, ha, hB⟩
    · rintro a w23 ⟨o22, rfl, ha, hB⟩
      dsimp only at hF
      refine ap_k ha ?_
      refine nx ?_
      refine wpC_seq ?_
      refine wpC_region ?_
      refine st_val (ex_assign rfl) (by decide) trivial ?_
      refine wpF_end (r := [(2, (.bool true))]) ⟨rfl, trivial⟩ ?_
      refine nx ?_
      refine wpC_ret ?_
      have e52 := Option.some.inj hF
      subst e52
      refine ret_post (P := Tryd.prog) (vs := [(.bool true)]) Tryd.results22 ⟨rfl, trivial⟩ ?_
      exact ⟨rfl, hB.keeps⟩
    · rintro a w23 ⟨r', rfl, b53⟩
      dsimp only at hF
      have e54 := Option.some.inj hF
      subst e54
      exact b53

def fS_cyBit_s1 (fuel : Nat) (p0 : List Int) : Int → Int → (List Int) → Option (Lp (List Int) (List Int) (List Int)) := fun (i7 : Int) (x17 : Int) (s : List Int) =>
  (ck (i7 + 1)) >>= fun x23 =>
  (rem x23 (p0.length : Int)) >>= fun x24 =>
  (ix p0 x24) >>= fun x25 =>
  (fS_nuDiffer fuel x17 x25) >>= fun x31 =>
  (ck (2 * x31)) >>= fun x37 =>
  (fS_nuBit fuel x17 x31) >>= fun x38 =>
  (ck (x37 + x38)) >>= fun x44 =>
  (push s x44) >>= fun x51 =>
  some (.go x51)
def fS_cyBit (fuel : Nat) (p0 : List Int) : Option (List Int) :=
  (forI (fS_cyBit_s1 fuel p0) p0 0 []) >>= fun q8 =>
  match q8 with
  | .inl y2 =>
    some y2
  | .inr _ => none

def pS_cyBit (oo : Tg) (t : Nat) (w : World) (r : List Int) : Ending → World → Prop := fun e w' => ∃ (v0 : Value) (o' : Tg), e = .returned (v0) ∧ Ow w.heap.size 3 t o' w' v0 r ∧ Keeps w w' ∧ ∀ b, b < w.heap.size → o' b = oo b
set_option maxRecDepth 100000 in
set_option maxHeartbeats 2000000 in
theorem cS_cyBit (fuel : Nat) (w : World) (oo : Tg) (t : Nat) (ht : 2 ≤ t) (u0 : Value) (p0 : List Int) (g0 : RdL zt w u0 p0) (r : List Int) (hF : fS_cyBit fuel p0 = some r) :
    Calls Tryd.prog 23 #[u0] w (pS_cyBit oo t w r) := by
  unfold fS_cyBit at hF
  have hB : Bs oo (col oo) w w := Bs.start _ _
  refine calls_start (n := 35) (vs := [u0]) Tryd.func23 rfl rfl ?_
  generalize col oo = o at *
  refine wpC_seq ?_
  refine wpC_region ?_
  refine st_val (ex_assign rfl) (by decide) trivial ?_
  refine wpF_end (r := [(0, u0)]) ⟨rfl, trivial⟩ ?_
  refine nx ?_
  refine wpC_seq ?_
  refine wpC_region ?_
  refine st_val (ex_assign rfl) (by decide) trivial ?_
  refine wpF_end (r := [(0, u0), (3, (.slice none 0 0))]) ⟨rfl, rfl, trivial⟩ ?_
  refine nx ?_
  refine wpC_seq ?_
  refine wpC_seq ?_
  refine wpC_region ?_
  refine st_val (ex_move rfl) (by decide) trivial ?_
  refine st_val (ex_lenR rfl g0 Tryd.underlying22) (by decide) trivial ?_
  refine st_val (ex_move rfl) (by decide) trivial ?_
  refine wpF_end (r := [(0, u0), (3, (.slice none 0 0)), (7, u0), (8, (.int .i64 (p0.length : Int))), (9, (.int .i64 0))]) ⟨rfl, rfl, rfl, rfl, rfl, trivial⟩ ?_
  refine nx ?_
  have h1 : Ow w.heap.size 3 11 o w (.slice none 0 0) ([] : List Int) := Ow.nil _ _ _ _ _
  obtain ⟨q8, hq8, hF⟩ := bind_some hF
  refine wpC_cutN (fun a w6 => ∃ (y2 : List Int) (v3 : Value) (o5 : Tg), q8 = .inl y2 ∧ Fr a 35 [(3, v3)] ∧ Bs oo o5 w w6 ∧ Ow w.heap.size 3 11 o5 w6 v3 y2) (fun _ _ => False) ?_ ?_ ?_
  · refine wpC_block ?_
    refine wpC_loop (fun (K : Nat) a w6 => ∃ (i7 : Int) (y2 : List Int) (v3 : Value) (o5 : Tg), forI (fS_cyBit_s1 fuel p0) (p0.drop i7.toNat) i7 y2 = some q8 ∧ (p0.drop i7.toNat).length = K ∧ 0 ≤ i7 ∧ Fr a 35 [(0, u0), (3, v3), (7, u0), (8, (.int .i64 (p0.length : Int))), (9, (.int .i64 i7))] ∧ Bs oo o5 w w6 ∧ Ow w.heap.size 3 11 o5 w6 v3 y2) _ (fun a ha => ⟨0, [], (.slice none 0 0), o, hq8, rfl, Int.le_refl 0, ha.sub (r := [(0, u0), (3, (.slice none 0 0)), (7, u0), (8, (.int .i64 (p0.length : Int))), (9, (.int .i64 0))]) ⟨rfl, rfl, rfl, rfl, rfl, trivial⟩, hB, h1⟩) ?_
    rintro K12 a w6 ⟨i7, y2, v3, o5, l9, m11, z10, ha, hB, h4⟩
    by_cases t16 : i7 < (p0.length : Int)
    · obtain ⟨x17, q13, hx17, b14, n15⟩ := forI_cons z10 t16 l9
      have hle := g0.len_le
      dsimp only [fS_cyBit_s1] at b14
      refine wp_of ha ?_
      refine wpC_seq ?_
      refine wpC_region ?_
      refine st_val (ex_lss rfl rfl) (by decide) trivial ?_
      refine wpF_end (r := [(0, u0), (3, v3), (7, u0), (8, (.int .i64 (p0.length : Int))), (9, (.int .i64 i7)), (10, (.bool (decide (i7 < (p0.length : Int)))))]) ⟨rfl, rfl, rfl, rfl, rfl, rfl, trivial⟩ ?_
      refine nx ?_
      refine wpC_seq ?_
      refine wpC_true (congrArg (fun b => some (Value.bool b)) (decide_eq_true t16)) ?_
      refine wpC_skip ?_
      refine nx ?_
      refine wpC_seq ?_
      refine wpC_block ?_
      refine wpC_seq ?_
      refine wpC_region ?_
      refine st_val (ex_move rfl) (by decide) trivial ?_
      refine st_op (by decide) trivial ?_
      refine wf_atZ g0 hx17 hB rfl rfl Tryd.underlying22 Tryd.sizeOf3 ?_
      intro b18 f19 c20 h21 h22
      cases h22
      refine st_val (ex_load1 rfl Tryd.isAgg3 (cell_of_cells h21)) (by decide) trivial ?_
      refine st_val (ex_assign rfl) (by decide) trivial ?_
      refine st_val (ex_assign rfl) (by decide) trivial ?_
      refine wpF_end (r := [(0, u0), (3, v3), (4, (.int .i64 i7)), (5, (.int .i64 x17)), (7, u0), (8, (.int .i64 (p0.length : Int))), (9, (.int .i64 i7))]) ⟨rfl, rfl, rfl, rfl, rfl, rfl, rfl, trivial⟩ ?_
      refine nx ?_
      refine wpC_seq ?_
      refine wpC_region ?_
      refine st_val (ex_move rfl) (by decide) trivial ?_
      refine st_val (ex_move rfl) (by decide) trivial ?_
      refine st_val (ex_move rfl) (by decide) trivial ?_
      obtain ⟨x23, hx23, b14⟩ := bind_some b14
      refine st_val (ex_add rfl rfl hx23) (by decide) trivial ?_
      refine st_val (ex_move rfl) (by decide) trivial ?_
      refine st_val (ex_lenR rfl g0 Tryd.underlying22) (by decide) trivial ?_
      obtain ⟨x24, hx24, b14⟩ := bind_some b14
      refine st_val (ex_rem rfl rfl hx24) (by decide) trivial ?_
      obtain ⟨x25, hx25, b14⟩ := bind_some b14
      refine st_op (by decide) trivial ?_
      refine wf_atZ g0 hx25 hB rfl rfl Tryd.underlying22 Tryd.sizeOf3 ?_
      intro b26 f27 c28 h29 h30
      cases h30
      refine st_val (ex_load1 rfl Tryd.isAgg3 (cell_of_cells h29)) (by decide) trivial ?_
      obtain ⟨x31, hx31, b14⟩ := bind_some b14
      refine st_op (by decide) trivial ?_
      refine wf_call (cS_nuDiffer fuel w6 x17 x25 x31 hx31) Tryd.call43 ⟨rfl, rfl, trivial⟩ ?_
      rintro e36 w32 ⟨rfl, k33⟩
      have s35 := k33.stp 999 o5
      refine ⟨_, rfl, ?_⟩
      replace h4 := h4.stp s35 (by decide) (by decide)
      replace hB := hB.stp s35 (by decide)
      refine st_val (ex_assign rfl) (by decide) trivial ?_
      refine wpF_end (r := [(0, u0), (3, v3), (5, (.int .i64 x17)), (6, (.int .i64 x31)), (7, u0), (8, (.int .i64 (p0.length : Int))), (9, (.int .i64 i7))]) ⟨rfl, rfl, rfl, rfl, rfl, rfl, rfl, trivial⟩ ?_
      refine nx ?_
      refine wpC_region ?_
      refine st_val (ex_move rfl) (by decide) trivial ?_
      refine st_val (ex_move rfl) (by decide) trivial ?_
      obtain ⟨x37, hx37, b14⟩ := bind_some b14
      refine st_val (ex_mul rfl rfl hx37) (by decide) trivial ?_
      refine st_val (ex_move rfl) (by decide) trivial ?_
      refine st_val (ex_move rfl) (by decide) trivial ?_
      obtain ⟨x38, hx38, b14⟩ := bind_some b14
      refine st_op (by decide) trivial ?_
      refine wf_call (cS_nuBit fuel w32 x17 x31 x38 hx38) Tryd.call44 ⟨rfl, rfl, trivial⟩ ?_
      rintro e43 w39 ⟨rfl, k40⟩
      have s42 := k40.stp 999 o5
      refine ⟨_, rfl, ?_⟩
      replace h4 := h4.stp s42 (by decide) (by decide)
      replace hB := hB.stp s42 (by decide)
      obtain ⟨x44, hx44, b14⟩ := bind_some b14
      refine st_val (ex_add rfl rfl hx44) (by decide) trivial ?_
      refine st_op (by decide) trivial ?_
      refine wf_litR (o := o5) (cs := [(.int .i64 x44)]) (xs := ([x44] : List Int)) (vs := [(0, (.int .i64 x44))]) ⟨_, _, rfl, rfl, rfl⟩ rfl ⟨rfl, rfl, trivial⟩ Tryd.underlying22 Tryd.sizeOf3 Tryd.zeroValue3 (by decide) (fill1 rfl) (by simp) ?_
      intro o45 w46 v47 h48 s49 k50
      replace h4 := h4.stp s49 (by decide) (by decide)
      replace hB := hB.stp s49 (by decide)
      obtain ⟨x51, hx51, b14⟩ := bind_some b14
      refine st_op (by decide) trivial ?_
      refine wf_cat h4 h48 (push_cat hx51) (by decide) hB.keeps.size rfl rfl Tryd.underlying22 info2_t_int_Ta rfl (by decide) ?_
      intro o52 w53 v54 h55 s56
      replace h48 := h48.stp s56 (by decide)
      replace hB := hB.stp s56 (by decide)
      refine st_val (ex_assign rfl) (by decide) trivial ?_
      refine wpF_end (r := [(0, u0), (3, v54), (7, u0), (8, (.int .i64 (p0.length : Int))), (9, (.int .i64 i7))]) ⟨rfl, rfl, rfl, rfl, rfl, trivial⟩ ?_
      refine nb_norm ?_
      refine nx ?_
      refine wpC_region ?_
      refine st_val (ex_add rfl rfl (ck_in (by omega) (by omega))) (by decide) trivial ?_
      refine st_val (ex_move rfl) (by decide) trivial ?_
      refine wpF_end (r := [(0, u0), (3, v54), (7, u0), (8, (.int .i64 (p0.length : Int))), (9, (.int .i64 (i7 + 1)))]) ⟨rfl, rfl, rfl, rfl, rfl, trivial⟩ ?_
      refine nt_norm ?_
      have e57 := Option.some.inj b14
      subst e57
      refine to_k (r := [(0, u0), (3, v54), (7, u0), (8, (.int .i64 (p0.length : Int))), (9, (.int .i64 (i7 + 1)))]) ⟨rfl, rfl, rfl, rfl, rfl, trivial⟩ ?_
      intro a ha
      exact ⟨_, (by rw [← m11]; simp only [List.length_drop]; omega), i7 + 1, x51, v54, o52, n15, rfl, (by omega), ha, hB, h55⟩
    · have r58 := forI_done t16 l9
      refine wp_of ha ?_
      refine wpC_seq ?_
      refine wpC_region ?_
      refine st_val (ex_lss rfl rfl) (by decide) trivial ?_
      refine wpF_end (r := [(0, u0), (3, v3), (7, u0), (8, (.int .i64 (p0.length : Int))), (9, (.int .i64 i7)), (10, (.bool (decide (i7 < (p0.length : Int)))))]) ⟨rfl, rfl, rfl, rfl, rfl, rfl, trivial⟩ ?_
      refine nx ?_
      refine wpC_seq ?_
      refine wpC_false (congrArg (fun b => some (Value.bool b)) (decide_eq_false t16)) ?_
      refine wpC_exit ?_
      refine nt_exit ?_
      refine nt_exit ?_
      refine nb_hit ?_
      refine np_norm ?_
      refine to_k (r := [(3, v3)]) ⟨rfl, trivial⟩ ?_
      intro a ha
      exact ⟨y2, v3, o5, r58, ha, hB, h4⟩
  · rintro a w6 ⟨y2, v3, o5, rfl, ha, hB, h4⟩
    dsimp only at hF
    refine ap_k ha ?_
    refine nx ?_
    refine wpC_seq ?_
    refine wpC_region ?_
    refine st_val (ex_move rfl) (by decide) trivial ?_
    refine st_val (ex_assign rfl) (by decide) trivial ?_
    refine wpF_end (r := [(2, v3)]) ⟨rfl, trivial⟩ ?_
    refine nx ?_
    refine wpC_ret ?_
    have e59 := Option.some.inj hF
    subst e59
    refine ret_post (P := Tryd.prog) (vs := [v3]) Tryd.results23 ⟨rfl, trivial⟩ ?_
    exact ⟨_, rt oo o5 w.heap.size 11 t, rfl, h4.rt hB (by decide) t, hB.keeps, rt_old _ _ _ _ _⟩
  · exact fun _ _ h => h.elim

def fS_BitStep (fuel : Nat) (p0 : List Int) : Option ((List Int) × Bool) :=
  (fS_cyColours p0) >>= fun x1 =>
  if !x1 then
    some ([], false)
  else
    (fS_cyBit fuel p0) >>= fun x9 =>
    some (x9, true)

def pS_BitStep (oo : Tg) (t : Nat) (w : World) (r : (List Int) × Bool) : Ending → World → Prop := fun e w' => ∃ (v0 : Value) (o' : Tg), e = .returned (.tuple #[v0, .bool r.2]) ∧ Ow w.heap.size 3 t o' w' v0 r.1 ∧ Keeps w w' ∧ ∀ b, b < w.heap.size → o' b = oo b
set_option maxRecDepth 100000 in
set_option maxHeartbeats 2000000 in
theorem cS_BitStep (fuel : Nat) (w : World) (oo : Tg) (t : Nat) (ht : 2 ≤ t) (u0 : Value) (p0 : List Int) (g0 : RdL zt w u0 p0) (r : (List Int) × Bool) (hF : fS_BitStep fuel p0 = some r) :
    Calls Tryd.prog 7 #[u0] w (pS_BitStep oo t w r) := by
  unfold fS_BitStep at hF
  have hB : Bs oo (col oo) w w := Bs.start _ _
  refine calls_start (n := 9) (vs := [u0]) Tryd.func7 rfl rfl ?_
  generalize col oo = o at *
  refine wpC_seq ?_
  refine wpC_region ?_
  refine st_val (ex_assign rfl) (by decide) trivial ?_
  refine st_val (ex_assign rfl) (by decide) trivial ?_
  refine wpF_end (r := [(0, u0)]) ⟨rfl, trivial⟩ ?_
  refine nx ?_
  refine wpC_seq ?_
  refine wpC_seq ?_
  refine wpC_region ?_
  refine st_val (ex_move rfl) (by decide) trivial ?_
  obtain ⟨x1, hx1, hF⟩ := bind_some hF
  refine st_op (by decide) trivial ?_
  refine wf_call (cS_cyColours w _ p0 (g0.keep hB.keeps) x1 hx1) Tryd.call22 ⟨rfl, trivial⟩ ?_
  rintro e6 w2 ⟨rfl, k3⟩
  have s5 := k3.stp 999 o
  refine ⟨_, rfl, ?_⟩
  replace hB := hB.stp s5 (by decide)
  refine st_val (ex_not rfl) (by decide) trivial ?_
  refine wpF_end (r := [(0, u0), (6, (.bool (!x1)))]) ⟨rfl, rfl, trivial⟩ ?_
  refine nx ?_
  refine wpC_cond rfl (fun t7 => ?_) (fun t7 => ?_)
  · rw [if_pos t7] at hF
    refine wpC_seq ?_
    refine wpC_region ?_
    refine st_val (ex_assign rfl) (by decide) trivial ?_
    refine st_val (ex_assign rfl) (by decide) trivial ?_
    refine wpF_end (r := [(2, (.slice none 0 0)), (3, (.bool false))]) ⟨rfl, rfl, trivial⟩ ?_
    refine nx ?_
    refine wpC_ret ?_
    refine nt_ret ?_
    have e8 := Option.some.inj hF
    subst e8
    refine ret_post (P := Tryd.prog) (vs := [(.slice none 0 0), (.bool false)]) Tryd.results7 ⟨rfl, rfl, trivial⟩ ?_
    exact ⟨_, rt oo o w.heap.size 9 t, rfl, (Ow.nil _ _ _ _ _), hB.keeps, rt_old _ _ _ _ _⟩
  · rw [if_neg (by rw [t7]; decide)] at hF
    refine wpC_skip ?_
    refine nx ?_
    refine wpC_seq ?_
    refine wpC_region ?_
    refine st_val (ex_move rfl) (by decide) trivial ?_
    obtain ⟨x9, hx9, hF⟩ := bind_some hF
    refine st_op (by decide) trivial ?_
    refine wf_call (cS_cyBit fuel w2 o 12 (by decide) _ p0 (g0.keep hB.keeps) x9 hx9) Tryd.call23 ⟨rfl, trivial⟩ ?_
    rintro e16 w10 ⟨v11, o17, rfl, h12, k13, k14⟩
    have s15 := k13.stp' 12 k14
    replace h12 := h12.mono hB.keeps.size
    refine ⟨_, rfl, ?_⟩
    replace hB := hB.stp s15 (by decide)
    refine st_val (ex_assign rfl) (by decide) trivial ?_
    refine st_val (ex_assign rfl) (by decide) trivial ?_
    refine wpF_end (r := [(2, v11), (3, (.bool true))]) ⟨rfl, rfl, trivial⟩ ?_
    refine nx ?_
    refine wpC_ret ?_
    have e18 := Option.some.inj hF
    subst e18
    refine ret_post (P := Tryd.prog) (vs := [v11, (.bool true)]) Tryd.results7 ⟨rfl, rfl, trivial⟩ ?_
    exact ⟨_, rt oo o17 w.heap.size 12 t, rfl, h12.rt hB (by decide) t, hB.keeps, rt_old _ _ _ _ _⟩

def fI_areRingColours_s1 (p0 : List Int) : Int → Int → Unit → Option (Lp Unit Unit Bool) := fun (i24 : Int) (x34 : Int) (s : Unit) =>
  (ck (i24 + 1)) >>= fun x40 =>
  (rem x40 (p0.length : Int)) >>= fun x41 =>
  (ix p0 x41) >>= fun x42 =>
  if x34 == x42 then
    some (.ret false)
  else
    some (.go ())
def fI_areRingColours (p0 : List Int) : Option Bool :=
  (fI_isRing p0) >>= fun x1 =>
  (
    if !x1 then
      some true
    else
      (fI_allWithin p0 0 1000000000000) >>= fun x11 =>
      some (!x11)) >>= fun q7 =>
  if q7 then
    some false
  else
    (forI (fI_areRingColours_s1 p0) p0 0 ()) >>= fun q25 =>
    match q25 with
    | .inl _ =>
      some true
    | .inr r' => some r'

def pI_areRingColours (w : World) (r : Bool) : Ending → World → Prop := fun e w' => e = .returned (.bool r) ∧ Keeps w w'
set_option maxRecDepth 100000 in
set_option maxHeartbeats 2000000 in
theorem cI_areRingColours (w : World) (u0 : Value) (p0 : List Int) (g0 : RdL zt w u0 p0) (r : Bool) (hF : fI_areRingColours p0 = some r) :
    Calls Tryd.prog 24 #[u0] w (pI_areRingColours w r) := by
  unfold fI_areRingColours at hF
  have hB : Bs (fun _ => 1) (col (fun _ => 1)) w w := Bs.start _ _
  refine calls_start (n := 31) (vs := [u0]) Tryd.func24 rfl rfl ?_
  refine wpC_seq ?_
  refine wpC_region ?_
  refine st_val (ex_assign rfl) (by decide) trivial ?_
  refine wpF_end (r := [(0, u0)]) ⟨rfl, trivial⟩ ?_
  refine nx ?_
  refine wpC_seq ?_
  refine wpC_seq ?_
  refine wpC_region ?_
  refine st_val (ex_move rfl) (by decide) trivial ?_
  obtain ⟨x1, hx1, hF⟩ := bind_some hF
  refine st_op (by decide) trivial ?_
  refine wf_call (cI_isRing w _ p0 (g0.keep hB.keeps) x1 hx1) Tryd.call45 ⟨rfl, trivial⟩ ?_
  rintro e6 w2 ⟨rfl, k3⟩
  have s5 := k3.stp 999 (col (fun _ => 1))
  refine ⟨_, rfl, ?_⟩
  replace hB := hB.stp s5 (by decide)
  refine st_val (ex_not rfl) (by decide) trivial ?_
  refine st_val (ex_move rfl) (by decide) trivial ?_
  obtain ⟨q7, hq7, hF⟩ := bind_some hF
  refine wpF_cutAt 4 (fun a9 w8 => Fr a9 31 [(0, u0), (12, (.bool q7))] ∧ Keeps w2 w8) ?_ ?_
  all_goals simp only [List.take_succ_cons, List.take_zero, List.drop_succ_cons, List.drop_zero]
  · have kp : Keeps w2 w2 := Keeps.refl _
    rcases Bool.eq_false_or_eq_true (!x1) with t10 | t10
    · rw [if_pos t10] at hq7
      refine st_no rfl rfl (by rw [t10]; rfl) (by decide) ?_
      refine st_no rfl rfl (by rw [t10]; rfl) (by decide) ?_
      refine st_no rfl rfl (by rw [t10]; rfl) (by decide) ?_
      refine st_val (ex_pick_t (congrArg (fun b => some (Value.bool b)) t10) rfl) (by decide) trivial ?_
      have hq72 := Option.some.inj hq7
      refine wpF_end (r := [(0, u0), (12, (.bool true))]) ⟨rfl, rfl, trivial⟩ ?_
      subst hq72
      refine np_norm (fun a ha => ⟨ha, kp⟩)
    · rw [if_neg (by rw [t10]; decide)] at hq7
      refine st_val (ex_move rfl) (by decide) ⟨_, rfl, (congrArg (fun b => some (Value.bool b)) t10)⟩ ?_
      obtain ⟨x11, hx11, hq7⟩ := bind_some hq7
      refine st_op (by decide) ⟨_, rfl, (congrArg (fun b => some (Value.bool b)) t10)⟩ ?_
      refine wf_call (cI_allWithin w2 _ p0 (g0.keep hB.keeps) 0 1000000000000 x11 hx11) Tryd.call46 ⟨rfl, rfl, rfl, trivial⟩ ?_
      rintro e16 w12 ⟨rfl, k13⟩
      have s15 := k13.stp 999 (col (fun _ => 1))
      refine ⟨_, rfl, ?_⟩
      replace hB := hB.stp s15 (by decide)
      replace kp := Keeps.trans kp k13
      refine st_val (ex_not rfl) (by decide) ⟨_, rfl, (congrArg (fun b => some (Value.bool b)) t10)⟩ ?_
      refine st_val (ex_pick_f (congrArg (fun b => some (Value.bool b)) t10) rfl) (by decide) trivial ?_
      have hq72 := Option.some.inj hq7
      refine wpF_end (r := [(0, u0), (12, (.bool (!x11)))]) ⟨rfl, rfl, trivial⟩ ?_
      subst hq72
      refine np_norm (fun a ha => ⟨ha, kp⟩)
  rintro a19 w8 ⟨ha, k17⟩
  have s18 := k17.stp 999 (col (fun _ => 1))
  replace hB := hB.stp s18 (by decide)
  refine wl_of ha ?_
  refine wpF_end (r := [(0, u0), (12, (.bool q7))]) ⟨rfl, rfl, trivial⟩ ?_
  refine nx ?_
  refine wpC_cond rfl (fun t20 => ?_) (fun t20 => ?_)
  · rw [if_pos t20] at hF
    refine wpC_seq ?_
    refine wpC_region ?_
    refine st_val (ex_assign rfl) (by decide) trivial ?_
    refine wpF_end (r := [(2, (.bool false))]) ⟨rfl, trivial⟩ ?_
    refine nx ?_
    refine wpC_ret ?_
    refine nt_ret ?_
    have e21 := Option.some.inj hF
    subst e21
    refine ret_post (P := Tryd.prog) (vs := [(.bool false)]) Tryd.results24 ⟨rfl, trivial⟩ ?_
    exact ⟨rfl, hB.keeps⟩
  · rw [if_neg (by rw [t20]; decide)] at hF
    refine wpC_skip ?_
    refine nx ?_
    refine wpC_seq ?_
    refine wpC_seq ?_
    refine wpC_region ?_
    refine st_val (ex_move rfl) (by decide) trivial ?_
    refine st_val (ex_lenR rfl g0 Tryd.underlying22) (by decide) trivial ?_
    refine st_val (ex_move rfl) (by decide) trivial ?_
    refine wpF_end (r := [(0, u0), (13, u0), (14, (.int .i64 (p0.length : Int))), (15, (.int .i64 0))]) ⟨rfl, rfl, rfl, rfl, trivial⟩ ?_
    refine nx ?_
    obtain ⟨q25, hq25, hF⟩ := bind_some hF
    refine wpC_cutN (fun a w23 => ∃ (o22 : Tg), q25 = .inl () ∧ Fr a 31 [] ∧ Bs (fun _ => 1) o22 w w23) (fun a w' => ∃ r', q25 = .inr r' ∧ bodyPost Tryd.prog Tryd.f24 (pI_areRingColours w r') .ret a w') ?_ ?_ ?_
    · refine wpC_block ?_
      refine wpC_loop (fun (K : Nat) a w23 => ∃ (i24 : Int) (o22 : Tg), forI (fI_areRingColours_s1 p0) (p0.drop i24.toNat) i24 () = some q25 ∧ (p0.drop i24.toNat).length = K ∧ 0 ≤ i24 ∧ Fr a 31 [(0, u0), (13, u0), (14, (.int .i64 (p0.length : Int))), (15, (.int .i64 i24))] ∧ Bs (fun _ => 1) o22 w w23) _ (fun a ha => ⟨0, (col (fun _ => 1)), hq25, rfl, Int.le_refl 0, ha.sub (r := [(0, u0), (13, u0), (14, (.int .i64 (p0.length : Int))), (15, (.int .i64 0))]) ⟨rfl, rfl, rfl, rfl, trivial⟩, hB⟩) ?_
      rintro K29 a w23 ⟨i24, o22, l26, m28, z27, ha, hB⟩
      by_cases t33 : i24 < (p0.length : Int)
      · obtain ⟨x34, q30, hx34, b31, n32⟩ := forI_cons z27 t33 l26
        have hle := g0.len_le
        dsimp only [fI_areRingColours_s1] at b31
        refine wp_of ha ?_
        refine wpC_seq ?_
        refine wpC_region ?_
        refine st_val (ex_lss rfl rfl) (by decide) trivial ?_
        refine wpF_end (r := [(0, u0), (13, u0), (14, (.int .i64 (p0.length : Int))), (15, (.int .i64 i24)), (16, (.bool (decide (i24 < (p0.length : Int)))))]) ⟨rfl, rfl, rfl, rfl, rfl, trivial⟩ ?_
        refine nx ?_
        refine wpC_seq ?_
        refine wpC_true (congrArg (fun b => some (Value.bool b)) (decide_eq_true t33)) ?_
        refine wpC_skip ?_
        refine nx ?_
        refine wpC_seq ?_
        refine wpC_block ?_
        refine wpC_seq ?_
        refine wpC_region ?_
        refine st_val (ex_move rfl) (by decide) trivial ?_
        refine st_op (by decide) trivial ?_
        refine wf_atZ g0 hx34 hB rfl rfl Tryd.underlying22 Tryd.sizeOf3 ?_
        intro b35 f36 c37 h38 h39
        cases h39
        refine st_val (ex_load1 rfl Tryd.isAgg3 (cell_of_cells h38)) (by decide) trivial ?_
        refine st_val (ex_assign rfl) (by decide) trivial ?_
        refine st_val (ex_assign rfl) (by decide) trivial ?_
        refine wpF_end (r := [(0, u0), (3, (.int .i64 i24)), (4, (.int .i64 x34)), (13, u0), (14, (.int .i64 (p0.length : Int))), (15, (.int .i64 i24))]) ⟨rfl, rfl, rfl, rfl, rfl, rfl, trivial⟩ ?_
        refine nx ?_
        refine wpC_seq ?_
        refine wpC_region ?_
        refine st_val (ex_move rfl) (by decide) trivial ?_
        refine st_val (ex_move rfl) (by decide) trivial ?_
        refine st_val (ex_move rfl) (by decide) trivial ?_
        obtain ⟨x40, hx40, b31⟩ := bind_some b31
        refine st_val (ex_add rfl rfl hx40) (by decide) trivial ?_
        refine st_val (ex_move rfl) (by decide) trivial ?_
        refine st_val (ex_lenR rfl g0 Tryd.underlying22) (by decide) trivial ?_
        obtain ⟨x41, hx41, b31⟩ := bind_some b31
        refine st_val (ex_rem rfl rfl hx41) (by decide) trivial ?_
        obtain ⟨x42, hx42, b31⟩ := bind_some b31
        refine st_op (by decide) trivial ?_
        refine wf_atZ g0 hx42 hB rfl rfl Tryd.underlying22 Tryd.sizeOf3 ?_
        intro b43 f44 c45 h46 h47
        cases h47
        refine st_val (ex_load1 rfl Tryd.isAgg3 (cell_of_cells h46)) (by decide) trivial ?_
        refine st_val (ex_eql rfl rfl) (by decide) trivial ?_
        refine wpF_end (r := [(0, u0), (13, u0), (14, (.int .i64 (p0.length : Int))), (15, (.int .i64 i24)), (29, (.bool (x34 == x42)))]) ⟨rfl, rfl, rfl, rfl, rfl, trivial⟩ ?_
        refine nx ?_
        refine wpC_cond rfl (fun t48 => ?_) (fun t48 => ?_)
        · rw [if_pos t48] at b31
          refine wpC_seq ?_
          refine wpC_region ?_
          refine st_val (ex_assign rfl) (by decide) trivial ?_
          refine wpF_end (r := [(2, (.bool false))]) ⟨rfl, trivial⟩ ?_
          refine nx ?_
          refine wpC_ret ?_
          refine nb_ret ?_
          refine nt_ret ?_
          refine nt_ret ?_
          refine nb_ret ?_
          refine np_ret ?_
          have e49 := Option.some.inj b31
          subst e49
          refine fun a ha => ⟨_, n32, ?_⟩
          refine ret_post (P := Tryd.prog) (vs := [(.bool false)]) Tryd.results24 ⟨rfl, trivial⟩ ?_ a ha
          exact ⟨rfl, hB.keeps⟩
        · rw [if_neg (by rw [t48]; decide)] at b31
          refine wpC_skip ?_
          refine nb_norm ?_
          refine nx ?_
          refine wpC_region ?_
          refine st_val (ex_add rfl rfl (ck_in (by omega) (by omega))) (by decide) trivial ?_
          refine st_val (ex_move rfl) (by decide) trivial ?_
          refine wpF_end (r := [(0, u0), (13, u0), (14, (.int .i64 (p0.length : Int))), (15, (.int .i64 (i24 + 1)))]) ⟨rfl, rfl, rfl, rfl, trivial⟩ ?_
          refine nt_norm ?_
          have e50 := Option.some.inj b31
          subst e50
          refine to_k (r := [(0, u0), (13, u0), (14, (.int .i64 (p0.length : Int))), (15, (.int .i64 (i24 + 1)))]) ⟨rfl, rfl, rfl, rfl, trivial⟩ ?_
          intro a ha
          exact ⟨_, (by rw [← m28]; simp only [List.length_drop]; omega), i24 + 1, o22, n32, rfl, (by omega), ha, hB⟩
      · have r51 := forI_done t33 l26
        refine wp_of ha ?_
        refine wpC_seq ?_
        refine wpC_region ?_
        refine st_val (ex_lss rfl rfl) (by decide) trivial ?_
        refine wpF_end (r := [(0, u0), (13, u0), (14, (.int .i64 (p0.length : Int))), (15, (.int .i64 i24)), (16, (.bool (decide (i24 < (p0.length : Int)))))]) ⟨rfl, rfl, rfl, rfl, rfl, trivial⟩ ?_
        refine nx ?_
        refine wpC_seq ?_
        refine wpC_false (congrArg (fun b => some (Value.bool b)) (decide_eq_false t33)) ?_
        refine wpC_exit ?_
        refine nt_exit ?_
        refine nt_exit ?_
        refine nb_hit ?_
        refine np_norm ?_
        refine to_k (r := []) trivial ?_
        intro a ha
        exact ⟨o22, r51, ha, hB⟩
    · rintro a w23 ⟨o22, rfl, ha, hB⟩
      dsimp only at hF
      refine ap_k ha ?_
      refine nx ?_
      refine wpC_seq ?_
      refine wpC_region ?_
      refine st_val (ex_assign rfl) (by decide) trivial ?_
      refine wpF_end (r := [(2, (.bool true))]) ⟨rfl, trivial⟩ ?_
      refine nx ?_
      refine wpC_ret ?_
      have e52 := Option.some.inj hF
      subst e52
      refine ret_post (P := Tryd.prog) (vs := [(.bool true)]) Tryd.results24 ⟨rfl, trivial⟩ ?_
      exact ⟨rfl, hB.keeps⟩
    · rintro a w23 ⟨r', rfl, b53⟩
      dsimp only at hF
      have e54 := Option.some.inj hF
      subst e54
      exact b53

def fI_bitStep_s1 (p0 : List Int) : Int → Int → (List Int) → Option (Lp (List Int) (List Int) (List Int)) := fun (i7 : Int) (x17 : Int) (s : List Int) =>
  (ck (i7 + 1)) >>= fun x23 =>
  (rem x23 (p0.length : Int)) >>= fun x24 =>
  (ix p0 x24) >>= fun x25 =>
  (cvU (bxor x17 x25)) >>= fun x31 =>
  (ctzI x31) >>= fun x36 =>
  (ck (2 * x36)) >>= fun x37 =>
  (shr x17 x36) >>= fun x38 =>
  (ck (x37 + (band x38 1))) >>= fun x39 =>
  (push s x39) >>= fun x46 =>
  some (.go x46)
def fI_bitStep (p0 : List Int) : Option (List Int) :=
  (forI (fI_bitStep_s1 p0) p0 0 []) >>= fun q8 =>
  match q8 with
  | .inl y2 =>
    some y2
  | .inr _ => none

def pI_bitStep (oo : Tg) (t : Nat) (w : World) (r : List Int) : Ending → World → Prop := fun e w' => ∃ (v0 : Value) (o' : Tg), e = .returned (v0) ∧ Ow w.heap.size 3 t o' w' v0 r ∧ Keeps w w' ∧ ∀ b, b < w.heap.size → o' b = oo b
set_option maxRecDepth 100000 in
set_option maxHeartbeats 2000000 in
theorem cI_bitStep (w : World) (oo : Tg) (t : Nat) (ht : 2 ≤ t) (u0 : Value) (p0 : List Int) (g0 : RdL zt w u0 p0) (r : List Int) (hF : fI_bitStep p0 = some r) (hTab : TabAt 0 Lib.deBruijn64tab w) :
    Calls Tryd.prog 25 #[u0] w (pI_bitStep oo t w r) := by
  unfold fI_bitStep at hF
  have hB : Bs oo (col oo) w w := Bs.start _ _
  refine calls_start (n := 38) (vs := [u0]) Tryd.func25 rfl rfl ?_
  generalize col oo = o at *
  refine wpC_seq ?_
  refine wpC_region ?_
  refine st_val (ex_assign rfl) (by decide) trivial ?_
  refine wpF_end (r := [(0, u0)]) ⟨rfl, trivial⟩ ?_
  refine nx ?_
  refine wpC_seq ?_
  refine wpC_region ?_
  refine st_val (ex_assign rfl) (by decide) trivial ?_
  refine wpF_end (r := [(0, u0), (3, (.slice none 0 0))]) ⟨rfl, rfl, trivial⟩ ?_
  refine nx ?_
  refine wpC_seq ?_
  refine wpC_seq ?_
  refine wpC_region ?_
  refine st_val (ex_move rfl) (by decide) trivial ?_
  refine st_val (ex_lenR rfl g0 Tryd.underlying22) (by decide) trivial ?_
  refine st_val (ex_move rfl) (by decide) trivial ?_
  refine wpF_end (r := [(0, u0), (3, (.slice none 0 0)), (7, u0), (8, (.int .i64 (p0.length : Int))), (9, (.int .i64 0))]) ⟨rfl, rfl, rfl, rfl, rfl, trivial⟩ ?_
  refine nx ?_
  have h1 : Ow w.heap.size 3 11 o w (.slice none 0 0) ([] : List Int) := Ow.nil _ _ _ _ _
  obtain ⟨q8, hq8, hF⟩ := bind_some hF
  refine wpC_cutN (fun a w6 => ∃ (y2 : List Int) (v3 : Value) (o5 : Tg), q8 = .inl y2 ∧ Fr a 38 [(3, v3)] ∧ Bs oo o5 w w6 ∧ Ow w.heap.size 3 11 o5 w6 v3 y2) (fun _ _ => False) ?_ ?_ ?_
  · refine wpC_block ?_
    refine wpC_loop (fun (K : Nat) a w6 => ∃ (i7 : Int) (y2 : List Int) (v3 : Value) (o5 : Tg), forI (fI_bitStep_s1 p0) (p0.drop i7.toNat) i7 y2 = some q8 ∧ (p0.drop i7.toNat).length = K ∧ 0 ≤ i7 ∧ Fr a 38 [(0, u0), (3, v3), (7, u0), (8, (.int .i64 (p0.length : Int))), (9, (.int .i64 i7))] ∧ Bs oo o5 w w6 ∧ Ow w.heap.size 3 11 o5 w6 v3 y2) _ (fun a ha => ⟨0, [], (.slice none 0 0), o, hq8, rfl, Int.le_refl 0, ha.sub (r := [(0, u0), (3, (.slice none 0 0)), (7, u0), (8, (.int .i64 (p0.length : Int))), (9, (.int .i64 0))]) ⟨rfl, rfl, rfl, rfl, rfl, trivial⟩, hB, h1⟩) ?_
    rintro K12 a w6 ⟨i7, y2, v3, o5, l9, m11, z10, ha, hB, h4⟩
    by_cases t16 : i7 < (p0.length : Int)
    · obtain ⟨x17, q13, hx17, b14, n15⟩ := forI_cons z10 t16 l9
      have hle := g0.len_le
      dsimp only [fI_bitStep_s1] at b14
      refine wp_of ha ?_
      refine wpC_seq ?_
      refine wpC_region ?_
      refine st_val (ex_lss rfl rfl) (by decide) trivial ?_
      refine wpF_end (r := [(0, u0), (3, v3), (7, u0), (8, (.int .i64 (p0.length : Int))), (9, (.int .i64 i7)), (10, (.bool (decide (i7 < (p0.length : Int)))))]) ⟨rfl, rfl, rfl, rfl, rfl, rfl, trivial⟩ ?_
      refine nx ?_
      refine wpC_seq ?_
      refine wpC_true (congrArg (fun b => some (Value.bool b)) (decide_eq_true t16)) ?_
      refine wpC_skip ?_
      refine nx ?_
      refine wpC_seq ?_
      refine wpC_block ?_
      refine wpC_seq ?_
      refine wpC_region ?_
      refine st_val (ex_move rfl) (by decide) trivial ?_
      refine st_op (by decide) trivial ?_
      refine wf_atZ g0 hx17 hB rfl rfl Tryd.underlying22 Tryd.sizeOf3 ?_
      intro b18 f19 c20 h21 h22
      cases h22
      refine st_val (ex_load1 rfl Tryd.isAgg3 (cell_of_cells h21)) (by decide) trivial ?_
      refine st_val (ex_assign rfl) (by decide) trivial ?_
      refine st_val (ex_assign rfl) (by decide) trivial ?_
      refine wpF_end (r := [(0, u0), (3, v3), (4, (.int .i64 i7)), (5, (.int .i64 x17)), (7, u0), (8, (.int .i64 (p0.length : Int))), (9, (.int .i64 i7))]) ⟨rfl, rfl, rfl, rfl, rfl, rfl, rfl, trivial⟩ ?_
      refine nx ?_
      refine wpC_seq ?_
      refine wpC_region ?_
      refine st_val (ex_move rfl) (by decide) trivial ?_
      refine st_val (ex_move rfl) (by decide) trivial ?_
      refine st_val (ex_move rfl) (by decide) trivial ?_
      obtain ⟨x23, hx23, b14⟩ := bind_some b14
      refine st_val (ex_add rfl rfl hx23) (by decide) trivial ?_
      refine st_val (ex_move rfl) (by decide) trivial ?_
      refine st_val (ex_lenR rfl g0 Tryd.underlying22) (by decide) trivial ?_
      obtain ⟨x24, hx24, b14⟩ := bind_some b14
      refine st_val (ex_rem rfl rfl hx24) (by decide) trivial ?_
      obtain ⟨x25, hx25, b14⟩ := bind_some b14
      refine st_op (by decide) trivial ?_
      refine wf_atZ g0 hx25 hB rfl rfl Tryd.underlying22 Tryd.sizeOf3 ?_
      intro b26 f27 c28 h29 h30
      cases h30
      refine st_val (ex_load1 rfl Tryd.isAgg3 (cell_of_cells h29)) (by decide) trivial ?_
      refine st_val (ex_xor rfl rfl) (by decide) trivial ?_
      obtain ⟨x31, hx31, b14⟩ := bind_some b14
      refine st_val (ex_convU hx31 rfl Tryd.underlying3 Tryd.underlying55) (by decide) trivial ?_
      obtain ⟨x36, hx36, b14⟩ := bind_some b14
      refine st_op (by decide) trivial ?_
      refine wf_call (cX_Tz w6 x31 x36 hx36 (tab_keep hTab hB.keeps)) Tryd.call47 ⟨rfl, trivial⟩ ?_
      rintro e33 w32 ⟨rfl, k34⟩
      have s35 := k34.stp 999 o5
      refine ⟨_, rfl, ?_⟩
      replace h4 := h4.stp s35 (by decide) (by decide)
      replace hB := hB.stp s35 (by decide)
      refine st_val (ex_assign rfl) (by decide) trivial ?_
      refine wpF_end (r := [(0, u0), (3, v3), (5, (.int .i64 x17)), (6, (.int .i64 x36)), (7, u0), (8, (.int .i64 (p0.length : Int))), (9, (.int .i64 i7))]) ⟨rfl, rfl, rfl, rfl, rfl, rfl, rfl, trivial⟩ ?_
      refine nx ?_
      refine wpC_region ?_
      refine st_val (ex_move rfl) (by decide) trivial ?_
      refine st_val (ex_move rfl) (by decide) trivial ?_
      obtain ⟨x37, hx37, b14⟩ := bind_some b14
      refine st_val (ex_mul rfl rfl hx37) (by decide) trivial ?_
      refine st_val (ex_move rfl) (by decide) trivial ?_
      refine st_val (ex_move rfl) (by decide) trivial ?_
      obtain ⟨x38, hx38, b14⟩ := bind_some b14
      refine st_val (ex_shr rfl rfl hx38) (by decide) trivial ?_
      refine st_val (ex_and rfl rfl) (by decide) trivial ?_
      obtain ⟨x39, hx39, b14⟩ := bind_some b14
      refine st_val (ex_add rfl rfl hx39) (by decide) trivial ?_
      refine st_op (by decide) trivial ?_
      refine wf_litR (o := o5) (cs := [(.int .i64 x39)]) (xs := ([x39] : List Int)) (vs := [(0, (.int .i64 x39))]) ⟨_, _, rfl, rfl, rfl⟩ rfl ⟨rfl, rfl, trivial⟩ Tryd.underlying22 Tryd.sizeOf3 Tryd.zeroValue3 (by decide) (fill1 rfl) (by simp) ?_
      intro o40 w41 v42 h43 s44 k45
      replace h4 := h4.stp s44 (by decide) (by decide)
      replace hB := hB.stp s44 (by decide)
      obtain ⟨x46, hx46, b14⟩ := bind_some b14
      refine st_op (by decide) trivial ?_
      refine wf_cat h4 h43 (push_cat hx46) (by decide) hB.keeps.size rfl rfl Tryd.underlying22 info2_t_int_Ta rfl (by decide) ?_
      intro o47 w48 v49 h50 s51
      replace h43 := h43.stp s51 (by decide)
      replace hB := hB.stp s51 (by decide)
      refine st_val (ex_assign rfl) (by decide) trivial ?_
      refine wpF_end (r := [(0, u0), (3, v49), (7, u0), (8, (.int .i64 (p0.length : Int))), (9, (.int .i64 i7))]) ⟨rfl, rfl, rfl, rfl, rfl, trivial⟩ ?_
      refine nb_norm ?_
      refine nx ?_
      refine wpC_region ?_
      refine st_val (ex_add rfl rfl (ck_in (by omega) (by omega))) (by decide) trivial ?_
      refine st_val (ex_move rfl) (by decide) trivial ?_
      refine wpF_end (r := [(0, u0), (3, v49), (7, u0), (8, (.int .i64 (p0.length : Int))), (9, (.int .i64 (i7 + 1)))]) ⟨rfl, rfl, rfl, rfl, rfl, trivial⟩ ?_
      refine nt_norm ?_
      have e52 := Option.some.inj b14
      subst e52
      refine to_k (r := [(0, u0), (3, v49), (7, u0), (8, (.int .i64 (p0.length : Int))), (9, (.int .i64 (i7 + 1)))]) ⟨rfl, rfl, rfl, rfl, rfl, trivial⟩ ?_
      intro a ha
      exact ⟨_, (by rw [← m11]; simp only [List.length_drop]; omega), i7 + 1, x46, v49, o47, n15, rfl, (by omega), ha, hB, h50⟩
    · have r53 := forI_done t16 l9
      refine wp_of ha ?_
      refine wpC_seq ?_
      refine wpC_region ?_
      refine st_val (ex_lss rfl rfl) (by decide) trivial ?_
      refine wpF_end (r := [(0, u0), (3, v3), (7, u0), (8, (.int .i64 (p0.length : Int))), (9, (.int .i64 i7)), (10, (.bool (decide (i7 < (p0.length : Int)))))]) ⟨rfl, rfl, rfl, rfl, rfl, rfl, trivial⟩ ?_
      refine nx ?_
      refine wpC_seq ?_
      refine wpC_false (congrArg (fun b => some (Value.bool b)) (decide_eq_false t16)) ?_
      refine wpC_exit ?_
      refine nt_exit ?_
      refine nt_exit ?_
      refine nb_hit ?_
      refine np_norm ?_
      refine to_k (r := [(3, v3)]) ⟨rfl, trivial⟩ ?_
      intro a ha
      exact ⟨y2, v3, o5, r53, ha, hB, h4⟩
  · rintro a w6 ⟨y2, v3, o5, rfl, ha, hB, h4⟩
    dsimp only at hF
    refine ap_k ha ?_
    refine nx ?_
    refine wpC_seq ?_
    refine wpC_region ?_
    refine st_val (ex_move rfl) (by decide) trivial ?_
    refine st_val (ex_assign rfl) (by decide) trivial ?_
    refine wpF_end (r := [(2, v3)]) ⟨rfl, trivial⟩ ?_
    refine nx ?_
    refine wpC_ret ?_
    have e54 := Option.some.inj hF
    subst e54
    refine ret_post (P := Tryd.prog) (vs := [v3]) Tryd.results25 ⟨rfl, trivial⟩ ?_
    exact ⟨_, rt oo o5 w.heap.size 11 t, rfl, h4.rt hB (by decide) t, hB.keeps, rt_old _ _ _ _ _⟩
  · exact fun _ _ h => h.elim

def fI_BitStep (p0 : List Int) : Option ((List Int) × Bool) :=
  (fI_areRingColours p0) >>= fun x1 =>
  if !x1 then
    some ([], false)
  else
    (fI_bitStep p0) >>= fun x9 =>
    some (x9, true)

def pI_BitStep (oo : Tg) (t : Nat) (w : World) (r : (List Int) × Bool) : Ending → World → Prop := fun e w' => ∃ (v0 : Value) (o' : Tg), e = .returned (.tuple #[v0, .bool r.2]) ∧ Ow w.heap.size 3 t o' w' v0 r.1 ∧ Keeps w w' ∧ ∀ b, b < w.heap.size → o' b = oo b
set_option maxRecDepth 100000 in
set_option maxHeartbeats 2000000 in
theorem cI_BitStep (w : World) (oo : Tg) (t : Nat) (ht : 2 ≤ t) (u0 : Value) (p0 : List Int) (g0 : RdL zt w u0 p0) (r : (List Int) × Bool) (hF : fI_BitStep p0 = some r) (hTab : TabAt 0 Lib.deBruijn64tab w) :
    Calls Tryd.prog 9 #[u0] w (pI_BitStep oo t w r) := by
  unfold fI_BitStep at hF
  have hB : Bs oo (col oo) w w := Bs.start _ _
  refine calls_start (n := 9) (vs := [u0]) Tryd.func9 rfl rfl ?_
  generalize col oo = o at *
  refine wpC_seq ?_
  refine wpC_region ?_
  refine st_val (ex_assign rfl) (by decide) trivial ?_
  refine st_val (ex_assign rfl) (by decide) trivial ?_
  refine wpF_end (r := [(0, u0)]) ⟨rfl, trivial⟩ ?_
  refine nx ?_
  refine wpC_seq ?_
  refine wpC_seq ?_
  refine wpC_region ?_
  refine st_val (ex_move rfl) (by decide) trivial ?_
  obtain ⟨x1, hx1, hF⟩ := bind_some hF
  refine st_op (by decide) trivial ?_
  refine wf_call (cI_areRingColours w _ p0 (g0.keep hB.keeps) x1 hx1) Tryd.call24 ⟨rfl, trivial⟩ ?_
  rintro e6 w2 ⟨rfl, k3⟩
  have s5 := k3.stp 999 o
  refine ⟨_, rfl, ?_⟩
  replace hB := hB.stp s5 (by decide)
  refine st_val (ex_not rfl) (by decide) trivial ?_
  refine wpF_end (r := [(0, u0), (6, (.bool (!x1)))]) ⟨rfl, rfl, trivial⟩ ?_
  refine nx ?_
  refine wpC_cond rfl (fun t7 => ?_) (fun t7 => ?_)
  · rw [if_pos t7] at hF
    refine wpC_seq ?_
    refine wpC_region ?_
    refine st_val (ex_assign rfl) (by decide) trivial ?_
    refine st_val (ex_assign rfl) (by decide) trivial ?_
    refine wpF_end (r := [(2, (.slice none 0 0)), (3, (.bool false))]) ⟨rfl, rfl, trivial⟩ ?_
    refine nx ?_
    refine wpC_ret ?_
    refine nt_ret ?_
    have e8 := Option.some.inj hF
    subst e8
    refine ret_post (P := Tryd.prog) (vs := [(.slice none 0 0), (.bool false)]) Tryd.results9 ⟨rfl, rfl, trivial⟩ ?_
    exact ⟨_, rt oo o w.heap.size 9 t, rfl, (Ow.nil _ _ _ _ _), hB.keeps, rt_old _ _ _ _ _⟩
  · rw [if_neg (by rw [t7]; decide)] at hF
    refine wpC_skip ?_
    refine nx ?_
    refine wpC_seq ?_
    refine wpC_region ?_
    refine st_val (ex_move rfl) (by decide) trivial ?_
    obtain ⟨x9, hx9, hF⟩ := bind_some hF
    refine st_op (by decide) trivial ?_
    refine wf_call (cI_bitStep w2 o 12 (by decide) _ p0 (g0.keep hB.keeps) x9 hx9 (tab_keep hTab hB.keeps)) Tryd.call25 ⟨rfl, trivial⟩ ?_
    rintro e16 w10 ⟨v11, o17, rfl, h12, k13, k14⟩
    have s15 := k13.stp' 12 k14
    replace h12 := h12.mono hB.keeps.size
    refine ⟨_, rfl, ?_⟩
    replace hB := hB.stp s15 (by decide)
    refine st_val (ex_assign rfl) (by decide) trivial ?_
    refine st_val (ex_assign rfl) (by decide) trivial ?_
    refine wpF_end (r := [(2, v11), (3, (.bool true))]) ⟨rfl, rfl, trivial⟩ ?_
    refine nx ?_
    refine wpC_ret ?_
    have e18 := Option.some.inj hF
    subst e18
    refine ret_post (P := Tryd.prog) (vs := [v11, (.bool true)]) Tryd.results9 ⟨rfl, rfl, trivial⟩ ?_
    exact ⟨_, rt oo o17 w.heap.size 12 t, rfl, h12.rt hB (by decide) t, hB.keeps, rt_old _ _ _ _ _⟩

end Go.Proofs.YthhpcledhflapaaDoor
