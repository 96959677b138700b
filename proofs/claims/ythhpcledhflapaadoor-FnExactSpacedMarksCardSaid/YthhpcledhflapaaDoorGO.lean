/- spec.cyLong, spec.cyIds, spec.cyWide, spec.cyWindow, spec.OrderWindow, impl.idsOk, impl.isRing, impl.areRingIds, impl.windowOk, impl.orderWindow, impl.OrderWindow, spec.cyAlike, spec.SameOrderPair, slices.Equal[[]int,int], impl.sameOrder, impl.SameOrderPair: plain functions, and the walks that show that the program computes them (printed by gen.py). -/
import Derived.Test.YthhpcledhflapaaDoorGN
namespace Go.Proofs.YthhpcledhflapaaDoor
open Go.RowKit
set_option linter.unusedSimpArgs false
set_option linter.unusedVariables false

theorem info2_t_int_O : Inf Tryd.prog 3 (.int .i64 0) 1 8 := by unfold Inf; kernel_rfl

def fS_cyLong (p0 : List Int) : Option Bool :=
  (fS_l1In (p0.length : Int) 2 180) >>= fun x1 =>
  some x1

def pS_cyLong (w : World) (r : Bool) : Ending → World → Prop := fun e w' => e = .returned (.bool r) ∧ Keeps w w'
set_option maxRecDepth 100000 in
set_option maxHeartbeats 2000000 in
theorem cS_cyLong (w : World) (u0 : Value) (p0 : List Int) (g0 : RdL zt w u0 p0) (r : Bool) (hF : fS_cyLong p0 = some r) :
    Calls Tryd.prog 41 #[u0] w (pS_cyLong w r) := by
  unfold fS_cyLong at hF
  have hB : Bs (fun _ => 1) (col (fun _ => 1)) w w := Bs.start _ _
  refine calls_start (n := 6) (vs := [u0]) Tryd.func41 rfl rfl ?_
  refine wpC_seq ?_
  refine wpC_region ?_
  refine st_val (ex_assign rfl) (by decide) trivial ?_
  refine wpF_end (r := [(0, u0)]) ⟨rfl, trivial⟩ ?_
  refine nx ?_
  refine wpC_seq ?_
  refine wpC_region ?_
  refine st_val (ex_move rfl) (by decide) trivial ?_
  refine st_val (ex_lenR rfl g0 Tryd.underlying22) (by decide) trivial ?_
  obtain ⟨x1, hx1, hF⟩ := bind_some hF
  refine st_op (by decide) trivial ?_
  refine wf_call (cS_l1In w (p0.length : Int) 2 180 x1 hx1) Tryd.call30 ⟨rfl, rfl, rfl, trivial⟩ ?_
  rintro e6 w2 ⟨rfl, k3⟩
  have s5 := k3.stp 999 (col (fun _ => 1))
  refine ⟨_, rfl, ?_⟩
  replace hB := hB.stp s5 (by decide)
  refine st_val (ex_assign rfl) (by decide) trivial ?_
  refine wpF_end (r := [(2, (.bool x1))]) ⟨rfl, trivial⟩ ?_
  refine nx ?_
  refine wpC_ret ?_
  have e7 := Option.some.inj hF
  subst e7
  refine ret_post (P := Tryd.prog) (vs := [(.bool x1)]) Tryd.results41 ⟨rfl, trivial⟩ ?_
  exact ⟨rfl, hB.keeps⟩

def fS_cyIds_s1 (p0 : List Int) : Int → Int → Unit → Option (Lp Unit Unit Bool) := fun (i3 : Int) (x13 : Int) (s : Unit) =>
  (fS_l1In x13 1 999999) >>= fun x19 =>
  (
    if !x19 then
      some true
    else
      (cut p0 0 i3) >>= fun x29 =>
      (fS_l1Has x29 x13) >>= fun x32 =>
      some x32) >>= fun q25 =>
  if q25 then
    some (.ret false)
  else
    some (.go ())
def fS_cyIds (p0 : List Int) : Option Bool :=
  (forI (fS_cyIds_s1 p0) p0 0 ()) >>= fun q4 =>
  match q4 with
  | .inl _ =>
    (fS_cyLong p0) >>= fun x45 =>
    some x45
  | .inr r' => some r'

def pS_cyIds (w : World) (r : Bool) : Ending → World → Prop := fun e w' => e = .returned (.bool r) ∧ Keeps w w'
set_option maxRecDepth 100000 in
set_option maxHeartbeats 2000000 in
theorem cS_cyIds (w : World) (u0 : Value) (p0 : List Int) (g0 : RdL zt w u0 p0) (r : Bool) (hF : fS_cyIds p0 = some r) :
    Calls Tryd.prog 26 #[u0] w (pS_cyIds w r) := by
  unfold fS_cyIds at hF
  have hB : Bs (fun _ => 1) (col (fun _ => 1)) w w := Bs.start _ _
  refine calls_start (n := 25) (vs := [u0]) Tryd.func26 rfl rfl ?_
  refine wpC_seq ?_
  refine wpC_region ?_
  refine st_val (ex_assign rfl) (by decide) trivial ?_
  refine wpF_end (r := [(0, u0)]) ⟨rfl, trivial⟩ ?_
  refine nx ?_
  refine wpC_seq ?_
  refine wpC_seq ?_
  refine wpC_region ?_
  refine st_val (ex_move rfl) (by decide) trivial ?_
  refine st_val (ex_lenR rfl g0 Tryd.underlying22) (by decide) trivial ?_
  refine st_val (ex_move rfl) (by decide) trivial ?_
  refine wpF_end (r := [(0, u0), (5, u0), (6, (.int .i64 (p0.length : Int))), (7, (.int .i64 0))]) ⟨rfl, rfl, rfl, rfl, trivial⟩ ?_
  refine nx ?_
  obtain ⟨q4, hq4, hF⟩ := bind_some hF
  refine wpC_cutN (fun a w2 => ∃ (o1 : Tg), q4 = .inl () ∧ Fr a 25 [(0, u0)] ∧ Bs (fun _ => 1) o1 w w2) (fun a w' => ∃ r', q4 = .inr r' ∧ bodyPost Tryd.prog Tryd.f26 (pS_cyIds w r') .ret a w') ?_ ?_ ?_
  · refine wpC_block ?_
    refine wpC_loop (fun (K : Nat) a w2 => ∃ (i3 : Int) (o1 : Tg), forI (fS_cyIds_s1 p0) (p0.drop i3.toNat) i3 () = some q4 ∧ (p0.drop i3.toNat).length = K ∧ 0 ≤ i3 ∧ Fr a 25 [(0, u0), (5, u0), (6, (.int .i64 (p0.length : Int))), (7, (.int .i64 i3))] ∧ Bs (fun _ => 1) o1 w w2) _ (fun a ha => ⟨0, (col (fun _ => 1)), hq4, rfl, Int.le_refl 0, ha.sub (r := [(0, u0), (5, u0), (6, (.int .i64 (p0.length : Int))), (7, (.int .i64 0))]) ⟨rfl, rfl, rfl, rfl, trivial⟩, hB⟩) ?_
    rintro K8 a w2 ⟨i3, o1, l5, m7, z6, ha, hB⟩
    by_cases t12 : i3 < (p0.length : Int)
    · obtain ⟨x13, q9, hx13, b10, n11⟩ := forI_cons z6 t12 l5
      have hle := g0.len_le
      dsimp only [fS_cyIds_s1] at b10
      refine wp_of ha ?_
      refine wpC_seq ?_
      refine wpC_region ?_
      refine st_val (ex_lss rfl rfl) (by decide) trivial ?_
      refine wpF_end (r := [(0, u0), (5, u0), (6, (.int .i64 (p0.length : Int))), (7, (.int .i64 i3)), (8, (.bool (decide (i3 < (p0.length : Int)))))]) ⟨rfl, rfl, rfl, rfl, rfl, trivial⟩ ?_
      refine nx ?_
      refine wpC_seq ?_
      refine wpC_true (congrArg (fun b => some (Value.bool b)) (decide_eq_true t12)) ?_
      refine wpC_skip ?_
      refine nx ?_
      refine wpC_seq ?_
      refine wpC_block ?_
      refine wpC_seq ?_
      refine wpC_region ?_
      refine st_val (ex_move rfl) (by decide) trivial ?_
      refine st_op (by decide) trivial ?_
      refine wf_atZ g0 hx13 hB rfl rfl Tryd.underlying22 Tryd.sizeOf3 ?_
      intro b14 f15 c16 h17 h18
      cases h18
      refine st_val (ex_load1 rfl Tryd.isAgg3 (cell_of_cells h17)) (by decide) trivial ?_
      refine st_val (ex_assign rfl) (by decide) trivial ?_
      refine st_val (ex_assign rfl) (by decide) trivial ?_
      refine wpF_end (r := [(0, u0), (3, (.int .i64 i3)), (4, (.int .i64 x13)), (5, u0), (6, (.int .i64 (p0.length : Int))), (7, (.int .i64 i3))]) ⟨rfl, rfl, rfl, rfl, rfl, rfl, trivial⟩ ?_
      refine nx ?_
      refine wpC_seq ?_
      refine wpC_region ?_
      refine st_val (ex_move rfl) (by decide) trivial ?_
      obtain ⟨x19, hx19, b10⟩ := bind_some b10
      refine st_op (by decide) trivial ?_
      refine wf_call (cS_l1In w2 x13 1 999999 x19 hx19) Tryd.call30 ⟨rfl, rfl, rfl, trivial⟩ ?_
      rintro e24 w20 ⟨rfl, k21⟩
      have s23 := k21.stp 999 o1
      refine ⟨_, rfl, ?_⟩
      replace hB := hB.stp s23 (by decide)
      refine st_val (ex_not rfl) (by decide) trivial ?_
      refine st_val (ex_move rfl) (by decide) trivial ?_
      obtain ⟨q25, hq25, b10⟩ := bind_some b10
      refine wpF_cutAt 6 (fun a27 w26 => Fr a27 25 [(0, u0), (5, u0), (6, (.int .i64 (p0.length : Int))), (7, (.int .i64 i3)), (21, (.bool q25))] ∧ Keeps w20 w26) ?_ ?_
      all_goals simp only [List.take_succ_cons, List.take_zero, List.drop_succ_cons, List.drop_zero]
      · have kp : Keeps w20 w20 := Keeps.refl _
        rcases Bool.eq_false_or_eq_true (!x19) with t28 | t28
        · rw [if_pos t28] at hq25
          refine st_no rfl rfl (by rw [t28]; rfl) (by decide) ?_
          refine st_no rfl rfl (by rw [t28]; rfl) (by decide) ?_
          refine st_no rfl rfl (by rw [t28]; rfl) (by decide) ?_
          refine st_no rfl rfl (by rw [t28]; rfl) (by decide) ?_
          refine st_no rfl rfl (by rw [t28]; rfl) (by decide) ?_
          refine st_val (ex_pick_t (congrArg (fun b => some (Value.bool b)) t28) rfl) (by decide) trivial ?_
          have hq252 := Option.some.inj hq25
          refine wpF_end (r := [(0, u0), (5, u0), (6, (.int .i64 (p0.length : Int))), (7, (.int .i64 i3)), (21, (.bool true))]) ⟨rfl, rfl, rfl, rfl, rfl, trivial⟩ ?_
          subst hq252
          refine np_norm (fun a ha => ⟨ha, kp⟩)
        · rw [if_neg (by rw [t28]; decide)] at hq25
          refine st_val (ex_move rfl) (by decide) ⟨_, rfl, (congrArg (fun b => some (Value.bool b)) t28)⟩ ?_
          refine st_val (ex_move rfl) (by decide) ⟨_, rfl, (congrArg (fun b => some (Value.bool b)) t28)⟩ ?_
          obtain ⟨x29, hx29, hq25⟩ := bind_some hq25
          refine st_op (by decide) ⟨_, rfl, (congrArg (fun b => some (Value.bool b)) t28)⟩ ?_
          refine wf_cutZ g0 hx29 rfl rfl rfl Tryd.underlying22 Tryd.sizeOf3 ?_
          intro v30 h31
          refine st_val (ex_move rfl) (by decide) ⟨_, rfl, (congrArg (fun b => some (Value.bool b)) t28)⟩ ?_
          obtain ⟨x32, hx32, hq25⟩ := bind_some hq25
          refine st_op (by decide) ⟨_, rfl, (congrArg (fun b => some (Value.bool b)) t28)⟩ ?_
          refine wf_call (cS_l1Has w20 _ x29 (h31.keep hB.keeps) x13 x32 hx32) Tryd.call48 ⟨rfl, rfl, trivial⟩ ?_
          rintro e37 w33 ⟨rfl, k34⟩
          have s36 := k34.stp 999 o1
          refine ⟨_, rfl, ?_⟩
          replace hB := hB.stp s36 (by decide)
          replace kp := Keeps.trans kp k34
          refine st_val (ex_pick_f (congrArg (fun b => some (Value.bool b)) t28) rfl) (by decide) trivial ?_
          have hq252 := Option.some.inj hq25
          refine wpF_end (r := [(0, u0), (5, u0), (6, (.int .i64 (p0.length : Int))), (7, (.int .i64 i3)), (21, (.bool x32))]) ⟨rfl, rfl, rfl, rfl, rfl, trivial⟩ ?_
          subst hq252
          refine np_norm (fun a ha => ⟨ha, kp⟩)
      rintro a40 w26 ⟨ha, k38⟩
      have s39 := k38.stp 999 o1
      replace hB := hB.stp s39 (by decide)
      refine wl_of ha ?_
      refine wpF_end (r := [(0, u0), (5, u0), (6, (.int .i64 (p0.length : Int))), (7, (.int .i64 i3)), (21, (.bool q25))]) ⟨rfl, rfl, rfl, rfl, rfl, trivial⟩ ?_
      refine nx ?_
      refine wpC_cond rfl (fun t41 => ?_) (fun t41 => ?_)
      · rw [if_pos t41] at b10
        refine wpC_seq ?_
        refine wpC_region ?_
        refine st_val (ex_assign rfl) (by decide) trivial ?_
        refine wpF_end (r := [(2, (.bool false))]) ⟨rfl, trivial⟩ ?_
        refine nx ?_
        refine wpC_ret ?_
        refine nb_ret ?_
        refine nt_ret ?_
        refine nt_ret ?_
        refine nb_ret ?_
        refine np_ret ?_
        have e42 := Option.some.inj b10
        subst e42
        refine fun a ha => ⟨_, n11, ?_⟩
        refine ret_post (P := Tryd.prog) (vs := [(.bool false)]) Tryd.results26 ⟨rfl, trivial⟩ ?_ a ha
        exact ⟨rfl, hB.keeps⟩
      · rw [if_neg (by rw [t41]; decide)] at b10
        refine wpC_skip ?_
        refine nb_norm ?_
        refine nx ?_
        refine wpC_region ?_
        refine st_val (ex_add rfl rfl (ck_in (by omega) (by omega))) (by decide) trivial ?_
        refine st_val (ex_move rfl) (by decide) trivial ?_
        refine wpF_end (r := [(0, u0), (5, u0), (6, (.int .i64 (p0.length : Int))), (7, (.int .i64 (i3 + 1)))]) ⟨rfl, rfl, rfl, rfl, trivial⟩ ?_
        refine nt_norm ?_
        have e43 := Option.some.inj b10
        subst e43
        refine to_k (r := [(0, u0), (5, u0), (6, (.int .i64 (p0.length : Int))), (7, (.int .i64 (i3 + 1)))]) ⟨rfl, rfl, rfl, rfl, trivial⟩ ?_
        intro a ha
        exact ⟨_, (by rw [← m7]; simp only [List.length_drop]; omega), i3 + 1, o1, n11, rfl, (by omega), ha, hB⟩
    · have r44 := forI_done t12 l5
      refine wp_of ha ?_
      refine wpC_seq ?_
      refine wpC_region ?_
      refine st_val (ex_lss rfl rfl) (by decide) trivial ?_
      refine wpF_end (r := [(0, u0), (5, u0), (6, (.int .i64 (p0.length : Int))), (7, (.int .i64 i3)), (8, (.bool (decide (i3 < (p0.length : Int)))))]) ⟨rfl, rfl, rfl, rfl, rfl, trivial⟩ ?_
      refine nx ?_
      refine wpC_seq ?_
      refine wpC_false (congrArg (fun b => some (Value.bool b)) (decide_eq_false t12)) ?_
      refine wpC_exit ?_
      refine nt_exit ?_
      refine nt_exit ?_
      refine nb_hit ?_
      refine np_norm ?_
      refine to_k (r := [(0, u0)]) ⟨rfl, trivial⟩ ?_
      intro a ha
      exact ⟨o1, r44, ha, hB⟩
  · rintro a w2 ⟨o1, rfl, ha, hB⟩
    dsimp only at hF
    refine ap_k ha ?_
    refine nx ?_
    refine wpC_seq ?_
    refine wpC_region ?_
    refine st_val (ex_move rfl) (by decide) trivial ?_
    obtain ⟨x45, hx45, hF⟩ := bind_some hF
    refine st_op (by decide) trivial ?_
    refine wf_call (cS_cyLong w2 _ p0 (g0.keep hB.keeps) x45 hx45) Tryd.call41 ⟨rfl, trivial⟩ ?_
    rintro e50 w46 ⟨rfl, k47⟩
    have s49 := k47.stp 999 o1
    refine ⟨_, rfl, ?_⟩
    replace hB := hB.stp s49 (by decide)
    refine st_val (ex_assign rfl) (by decide) trivial ?_
    refine wpF_end (r := [(2, (.bool x45))]) ⟨rfl, trivial⟩ ?_
    refine nx ?_
    refine wpC_ret ?_
    have e51 := Option.some.inj hF
    subst e51
    refine ret_post (P := Tryd.prog) (vs := [(.bool x45)]) Tryd.results26 ⟨rfl, trivial⟩ ?_
    exact ⟨rfl, hB.keeps⟩
  · rintro a w2 ⟨r', rfl, b52⟩
    dsimp only at hF
    have e53 := Option.some.inj hF
    subst e53
    exact b52

def fS_cyWide (p0 : List Int) (p1 : Int) : Option Bool :=
  (fS_cyIds p0) >>= fun x1 =>
  (
    if x1 then
      (fS_l1In p1 0 180) >>= fun x11 =>
      if x11 then
        (ck (2 * p1)) >>= fun x18 =>
        (ck (x18 + 1)) >>= fun x19 =>
        some (decide (x19 ≤ (p0.length : Int)))
      else
        some false
    else
      some false) >>= fun q7 =>
  some q7

def fS_cyWindow_s1 (p0 : List Int) (p1 : Int) (p2 : Int) : ((List Int) × Int) → Option (Lp ((List Int) × Int) ((List Int) × Int) (List Int)) := fun (s : (List Int) × Int) =>
  (ck (p1 + p2)) >>= fun x19 =>
  if decide (s.2 ≤ x19) then
    (ck (s.2 + (p0.length : Int))) >>= fun x21 =>
    (rem x21 (p0.length : Int)) >>= fun x22 =>
    (ix p0 x22) >>= fun x23 =>
    (push s.1 x23) >>= fun x35 =>
    (ck (s.2 + 1)) >>= fun x41 =>
    some (.go (x35, x41))
  else
    some (.out (s.1, s.2))
def fS_cyWindow_s3 (x60 : Int) : Int → Int → Int → Option (Lp Int Int (List Int)) := fun (i69 : Int) (x79 : Int) (s : Int) =>
  if decide (x79 < x60) then
    (ck (s + 1)) >>= fun x86 =>
    some (.go x86)
  else
    some (.go s)
def fS_cyWindow_s2 (y3 : List Int) : Int → Int → (List Int) → Option (Lp (List Int) (List Int) (List Int)) := fun (i50 : Int) (x60 : Int) (s : List Int) =>
  (forI (fS_cyWindow_s3 x60) y3 0 0) >>= fun q70 =>
  match q70 with
  | .inl y66 =>
    (push s y66) >>= fun x96 =>
    some (.go x96)
  | .inr _ => none
def fS_cyWindow (fuel : Nat) (p0 : List Int) (p1 : Int) (p2 : Int) : Option (List Int) :=
  (ck (p1 - p2)) >>= fun x1 =>
  (loopF (fS_cyWindow_s1 p0 p1 p2) fuel ([], x1)) >>= fun q9 =>
  match q9 with
  | .inl (y3, y6) =>
    (forI (fS_cyWindow_s2 y3) y3 0 []) >>= fun q51 =>
    match q51 with
    | .inl y45 =>
      some y45
    | .inr _ => none
  | .inr _ => none

def fS_OrderWindow (fuel : Nat) (p0 : List Int) (p1 : Int) (p2 : Int) : Option ((List Int) × Bool) :=
  (fS_cyWide p0 p2) >>= fun x1 =>
  (
    if !x1 then
      some true
    else
      (ck ((p0.length : Int) - 1)) >>= fun x11 =>
      (fS_l1In p1 0 x11) >>= fun x12 =>
      some (!x12)) >>= fun q7 =>
  if q7 then
    some ([], false)
  else
    (fS_cyWindow fuel p0 p1 p2) >>= fun x23 =>
    some (x23, true)

def fI_idsOk (p0 : List Int) (p1 : Int) : Option Bool :=
  if (p0.length : Int) == 0 then
    some true
  else
    (fX_slices_Clone_int_int p0) >>= fun x3 =>
    (srtO x3) >>= fun x18 =>
    (
      if (p0.length : Int) == p1 then
        (fI_increasing x18 1 999999) >>= fun x24 =>
        some x24
      else
        some false) >>= fun q20 =>
    some q20

def pI_idsOk (w : World) (r : Bool) : Ending → World → Prop := fun e w' => e = .returned (.bool r) ∧ Keeps w w'
set_option maxRecDepth 100000 in
set_option maxHeartbeats 2000000 in
theorem cI_idsOk (w : World) (u0 : Value) (p0 : List Int) (g0 : RdL zt w u0 p0) (p1 : Int) (r : Bool) (hF : fI_idsOk p0 p1 = some r) :
    Calls Tryd.prog 51 #[u0, .int .i64 p1] w (pI_idsOk w r) := by
  unfold fI_idsOk at hF
  have hB : Bs (fun _ => 1) (col (fun _ => 1)) w w := Bs.start _ _
  refine calls_start (n := 21) (vs := [u0, (.int .i64 p1)]) Tryd.func51 rfl rfl ?_
  refine wpC_seq ?_
  refine wpC_region ?_
  refine st_val (ex_assign rfl) (by decide) trivial ?_
  refine wpF_end (r := [(0, u0), (1, (.int .i64 p1))]) ⟨rfl, rfl, trivial⟩ ?_
  refine nx ?_
  refine wpC_seq ?_
  refine wpC_seq ?_
  refine wpC_region ?_
  refine st_val (ex_move rfl) (by decide) trivial ?_
  refine st_val (ex_lenR rfl g0 Tryd.underlying22) (by decide) trivial ?_
  refine st_val (ex_eql rfl rfl) (by decide) trivial ?_
  refine wpF_end (r := [(0, u0), (1, (.int .i64 p1)), (8, (.bool ((p0.length : Int) == 0)))]) ⟨rfl, rfl, rfl, trivial⟩ ?_
  refine nx ?_
  refine wpC_cond rfl (fun t1 => ?_) (fun t1 => ?_)
  · rw [if_pos t1] at hF
    refine wpC_seq ?_
    refine wpC_region ?_
    refine st_val (ex_assign rfl) (by decide) trivial ?_
    refine wpF_end (r := [(4, (.bool true))]) ⟨rfl, trivial⟩ ?_
    refine nx ?_
    refine wpC_ret ?_
    refine nt_ret ?_
    have e2 := Option.some.inj hF
    subst e2
    refine ret_post (P := Tryd.prog) (vs := [(.bool true)]) Tryd.results51 ⟨rfl, trivial⟩ ?_
    exact ⟨rfl, hB.keeps⟩
  · rw [if_neg (by rw [t1]; decide)] at hF
    refine wpC_skip ?_
    refine nx ?_
    refine wpC_seq ?_
    refine wpC_region ?_
    refine st_val (ex_move rfl) (by decide) trivial ?_
    obtain ⟨x3, hx3, hF⟩ := bind_some hF
    refine st_op (by decide) trivial ?_
    refine wf_call (cX_slices_Clone_int_int w (col (fun _ => 1)) 11 (by decide) _ p0 (g0.keep hB.keeps) x3 hx3) Tryd.call52 ⟨rfl, trivial⟩ ?_
    rintro e10 w4 ⟨v5, o11, rfl, h6, k7, k8⟩
    have s9 := k7.stp' 11 k8
    replace h6 := h6.mono hB.keeps.size
    refine ⟨_, rfl, ?_⟩
    replace hB := hB.stp s9 (by decide)
    refine st_val (ex_assign rfl) (by decide) trivial ?_
    refine wpF_end (r := [(0, u0), (1, (.int .i64 p1)), (5, v5)]) ⟨rfl, rfl, rfl, trivial⟩ ?_
    refine nx ?_
    refine wpC_seq ?_
    refine wpC_region ?_
    refine st_val (ex_move rfl) (by decide) trivial ?_
    obtain ⟨x18, hx18, hF⟩ := bind_some hF
    refine st_op (by decide) trivial ?_
    refine wf_call (cX_Sort h6 hx18) Tryd.call71 ⟨rfl, trivial⟩ ?_
    rintro e13 w12 ⟨rfl, h19, s16⟩
    refine ⟨_, rfl, ?_⟩
    replace hB := hB.stp s16 (by decide)
    refine wpF_end (r := [(0, u0), (1, (.int .i64 p1)), (5, v5)]) ⟨rfl, rfl, rfl, trivial⟩ ?_
    refine nx ?_
    refine wpC_seq ?_
    refine wpC_region ?_
    refine st_val (ex_move rfl) (by decide) trivial ?_
    refine st_val (ex_lenR rfl g0 Tryd.underlying22) (by decide) trivial ?_
    refine st_val (ex_move rfl) (by decide) trivial ?_
    refine st_val (ex_eql rfl rfl) (by decide) trivial ?_
    refine st_val (ex_move rfl) (by decide) trivial ?_
    obtain ⟨q20, hq20, hF⟩ := bind_some hF
    refine wpF_cutAt 3 (fun a22 w21 => Fr a22 21 [(20, (.bool q20))] ∧ Keeps w12 w21) ?_ ?_
    all_goals simp only [List.take_succ_cons, List.take_zero, List.drop_succ_cons, List.drop_zero]
    · have kp : Keeps w12 w12 := Keeps.refl _
      rcases Bool.eq_false_or_eq_true ((p0.length : Int) == p1) with t23 | t23
      · rw [if_pos t23] at hq20
        refine st_val (ex_move rfl) (by decide) ⟨_, rfl, (congrArg (fun b => some (Value.bool b)) t23)⟩ ?_
        obtain ⟨x24, hx24, hq20⟩ := bind_some hq20
        refine st_op (by decide) ⟨_, rfl, (congrArg (fun b => some (Value.bool b)) t23)⟩ ?_
        refine wf_call (cI_increasing w12 _ x18 h19.z 1 999999 x24 hx24) Tryd.call72 ⟨rfl, rfl, rfl, trivial⟩ ?_
        rintro e29 w25 ⟨rfl, k26⟩
        have s28 := k26.stp 999 o11
        refine ⟨_, rfl, ?_⟩
        replace h19 := h19.stp s28 (by decide) (by decide)
        replace hB := hB.stp s28 (by decide)
        replace kp := Keeps.trans kp k26
        refine st_val (ex_pick_t (congrArg (fun b => some (Value.bool b)) t23) rfl) (by decide) trivial ?_
        have hq202 := Option.some.inj hq20
        refine wpF_end (r := [(20, (.bool x24))]) ⟨rfl, trivial⟩ ?_
        subst hq202
        refine np_norm (fun a ha => ⟨ha, kp⟩)
      · rw [if_neg (by rw [t23]; decide)] at hq20
        refine st_no rfl rfl (by rw [t23]; rfl) (by decide) ?_
        refine st_no rfl rfl (by rw [t23]; rfl) (by decide) ?_
        refine st_val (ex_pick_f (congrArg (fun b => some (Value.bool b)) t23) rfl) (by decide) trivial ?_
        have hq202 := Option.some.inj hq20
        refine wpF_end (r := [(20, (.bool false))]) ⟨rfl, trivial⟩ ?_
        subst hq202
        refine np_norm (fun a ha => ⟨ha, kp⟩)
    rintro a32 w21 ⟨ha, k30⟩
    have s31 := k30.stp 999 o11
    replace hB := hB.stp s31 (by decide)
    refine wl_of ha ?_
    refine st_val (ex_assign rfl) (by decide) trivial ?_
    refine wpF_end (r := [(4, (.bool q20))]) ⟨rfl, trivial⟩ ?_
    refine nx ?_
    refine wpC_ret ?_
    have e33 := Option.some.inj hF
    subst e33
    refine ret_post (P := Tryd.prog) (vs := [(.bool q20)]) Tryd.results51 ⟨rfl, trivial⟩ ?_
    exact ⟨rfl, hB.keeps⟩

def fI_isRing (p0 : List Int) : Option Bool :=
  (fI_within (p0.length : Int) 2 180) >>= fun x1 =>
  some x1

def pI_isRing (w : World) (r : Bool) : Ending → World → Prop := fun e w' => e = .returned (.bool r) ∧ Keeps w w'
set_option maxRecDepth 100000 in
set_option maxHeartbeats 2000000 in
theorem cI_isRing (w : World) (u0 : Value) (p0 : List Int) (g0 : RdL zt w u0 p0) (r : Bool) (hF : fI_isRing p0 = some r) :
    Calls Tryd.prog 45 #[u0] w (pI_isRing w r) := by
  unfold fI_isRing at hF
  have hB : Bs (fun _ => 1) (col (fun _ => 1)) w w := Bs.start _ _
  refine calls_start (n := 6) (vs := [u0]) Tryd.func45 rfl rfl ?_
  refine wpC_seq ?_
  refine wpC_region ?_
  refine st_val (ex_assign rfl) (by decide) trivial ?_
  refine wpF_end (r := [(0, u0)]) ⟨rfl, trivial⟩ ?_
  refine nx ?_
  refine wpC_seq ?_
  refine wpC_region ?_
  refine st_val (ex_move rfl) (by decide) trivial ?_
  refine st_val (ex_lenR rfl g0 Tryd.underlying22) (by decide) trivial ?_
  obtain ⟨x1, hx1, hF⟩ := bind_some hF
  refine st_op (by decide) trivial ?_
  refine wf_call (cI_within w (p0.length : Int) 2 180 x1 hx1) Tryd.call32 ⟨rfl, rfl, rfl, trivial⟩ ?_
  rintro e6 w2 ⟨rfl, k3⟩
  have s5 := k3.stp 999 (col (fun _ => 1))
  refine ⟨_, rfl, ?_⟩
  replace hB := hB.stp s5 (by decide)
  refine st_val (ex_assign rfl) (by decide) trivial ?_
  refine wpF_end (r := [(2, (.bool x1))]) ⟨rfl, trivial⟩ ?_
  refine nx ?_
  refine wpC_ret ?_
  have e7 := Option.some.inj hF
  subst e7
  refine ret_post (P := Tryd.prog) (vs := [(.bool x1)]) Tryd.results45 ⟨rfl, trivial⟩ ?_
  exact ⟨rfl, hB.keeps⟩

def fI_areRingIds (p0 : List Int) : Option Bool :=
  (fI_isRing p0) >>= fun x1 =>
  (
    if x1 then
      (fI_idsOk p0 (p0.length : Int)) >>= fun x11 =>
      some x11
    else
      some false) >>= fun q7 =>
  some q7

def pI_areRingIds (w : World) (r : Bool) : Ending → World → Prop := fun e w' => e = .returned (.bool r) ∧ Keeps w w'
set_option maxRecDepth 100000 in
set_option maxHeartbeats 2000000 in
theorem cI_areRingIds (w : World) (u0 : Value) (p0 : List Int) (g0 : RdL zt w u0 p0) (r : Bool) (hF : fI_areRingIds p0 = some r) :
    Calls Tryd.prog 28 #[u0] w (pI_areRingIds w r) := by
  unfold fI_areRingIds at hF
  have hB : Bs (fun _ => 1) (col (fun _ => 1)) w w := Bs.start _ _
  refine calls_start (n := 11) (vs := [u0]) Tryd.func28 rfl rfl ?_
  refine wpC_seq ?_
  refine wpC_region ?_
  refine st_val (ex_assign rfl) (by decide) trivial ?_
  refine wpF_end (r := [(0, u0)]) ⟨rfl, trivial⟩ ?_
  refine nx ?_
  refine wpC_seq ?_
  refine wpC_region ?_
  refine st_val (ex_move rfl) (by decide) trivial ?_
  obtain ⟨x1, hx1, hF⟩ := bind_some hF
  refine st_op (by decide) trivial ?_
  refine wf_call (cI_isRing w _ p0 (g0.keep hB.keeps) x1 hx1) Tryd.call45 ⟨rfl, trivial⟩ ?_
  rintro e6 w2 ⟨rfl, k3⟩
  have s5 := k3.stp 999 (col (fun _ => 1))
  refine ⟨_, rfl, ?_⟩
  replace hB := hB.stp s5 (by decide)
  refine st_val (ex_move rfl) (by decide) trivial ?_
  obtain ⟨q7, hq7, hF⟩ := bind_some hF
  refine wpF_cutAt 5 (fun a9 w8 => Fr a9 11 [(10, (.bool q7))] ∧ Keeps w2 w8) ?_ ?_
  all_goals simp only [List.take_succ_cons, List.take_zero, List.drop_succ_cons, List.drop_zero]
  · have kp : Keeps w2 w2 := Keeps.refl _
    rcases Bool.eq_false_or_eq_true (x1) with t10 | t10
    · rw [if_pos t10] at hq7
      refine st_val (ex_move rfl) (by decide) ⟨_, rfl, (congrArg (fun b => some (Value.bool b)) t10)⟩ ?_
      refine st_val (ex_move rfl) (by decide) ⟨_, rfl, (congrArg (fun b => some (Value.bool b)) t10)⟩ ?_
      refine st_val (ex_lenR rfl g0 Tryd.underlying22) (by decide) ⟨_, rfl, (congrArg (fun b => some (Value.bool b)) t10)⟩ ?_
      obtain ⟨x11, hx11, hq7⟩ := bind_some hq7
      refine st_op (by decide) ⟨_, rfl, (congrArg (fun b => some (Value.bool b)) t10)⟩ ?_
      refine wf_call (cI_idsOk w2 _ p0 (g0.keep hB.keeps) (p0.length : Int) x11 hx11) Tryd.call51 ⟨rfl, rfl, trivial⟩ ?_
      rintro e16 w12 ⟨rfl, k13⟩
      have s15 := k13.stp 999 (col (fun _ => 1))
      refine ⟨_, rfl, ?_⟩
      replace hB := hB.stp s15 (by decide)
      replace kp := Keeps.trans kp k13
      refine st_val (ex_pick_t (congrArg (fun b => some (Value.bool b)) t10) rfl) (by decide) trivial ?_
      have hq72 := Option.some.inj hq7
      refine wpF_end (r := [(10, (.bool x11))]) ⟨rfl, trivial⟩ ?_
      subst hq72
      refine np_norm (fun a ha => ⟨ha, kp⟩)
    · rw [if_neg (by rw [t10]; decide)] at hq7
      refine st_no rfl rfl (by rw [t10]; rfl) (by decide) ?_
      refine st_no rfl rfl (by rw [t10]; rfl) (by decide) ?_
      refine st_no rfl rfl (by rw [t10]; rfl) (by decide) ?_
      refine st_no rfl rfl (by rw [t10]; rfl) (by decide) ?_
      refine st_val (ex_pick_f (congrArg (fun b => some (Value.bool b)) t10) rfl) (by decide) trivial ?_
      have hq72 := Option.some.inj hq7
      refine wpF_end (r := [(10, (.bool false))]) ⟨rfl, trivial⟩ ?_
      subst hq72
      refine np_norm (fun a ha => ⟨ha, kp⟩)
  rintro a19 w8 ⟨ha, k17⟩
  have s18 := k17.stp 999 (col (fun _ => 1))
  replace hB := hB.stp s18 (by decide)
  refine wl_of ha ?_
  refine st_val (ex_assign rfl) (by decide) trivial ?_
  refine wpF_end (r := [(2, (.bool q7))]) ⟨rfl, trivial⟩ ?_
  refine nx ?_
  refine wpC_ret ?_
  have e20 := Option.some.inj hF
  subst e20
  refine ret_post (P := Tryd.prog) (vs := [(.bool q7)]) Tryd.results28 ⟨rfl, trivial⟩ ?_
  exact ⟨rfl, hB.keeps⟩

def fI_windowOk (p0 : List Int) (p1 : Int) (p2 : Int) : Option Bool :=
  (fI_areRingIds p0) >>= fun x1 =>
  (
    if x1 then
      (ck ((p0.length : Int) - 1)) >>= fun x11 =>
      (fI_within p1 0 x11) >>= fun x12 =>
      if x12 then
        (fI_within p2 0 180) >>= fun x19 =>
        if x19 then
          (ck (2 * p2)) >>= fun x26 =>
          (ck (x26 + 1)) >>= fun x27 =>
          some (decide (x27 ≤ (p0.length : Int)))
        else
          some false
      else
        some false
    else
      some false) >>= fun q7 =>
  some q7

def fI_orderWindow_s1 (p0 : List Int) (p1 : Int) (p2 : Int) : ((List Int) × Int) → Option (Lp ((List Int) × Int) ((List Int) × Int) (List Int)) := fun (s : (List Int) × Int) =>
  if decide (s.2 ≤ p2) then
    (ck (p1 + s.2)) >>= fun x20 =>
    (ck (x20 + (p0.length : Int))) >>= fun x21 =>
    (rem x21 (p0.length : Int)) >>= fun x22 =>
    (ix p0 x22) >>= fun x23 =>
    (push s.1 x23) >>= fun x35 =>
    (ck (s.2 + 1)) >>= fun x41 =>
    some (.go (x35, x41))
  else
    some (.out (s.1, s.2))
def fI_orderWindow_s2 (fuel : Nat) (x58 : List Int) : Int → Int → (List Int) → Option (Lp (List Int) (List Int) (List Int)) := fun (i67 : Int) (x77 : Int) (s : List Int) =>
  (fX_slices_BinarySearch_int_int fuel x58 x77) >>= fun x83 =>
  (push s x83.1) >>= fun x95 =>
  some (.go x95)
def fI_orderWindow (fuel : Nat) (p0 : List Int) (p1 : Int) (p2 : Int) : Option (List Int) :=
  (ck (-p2)) >>= fun x1 =>
  (loopF (fI_orderWindow_s1 p0 p1 p2) fuel ([], (-p2))) >>= fun q9 =>
  match q9 with
  | .inl (y3, y6) =>
    (srtO y3) >>= fun x58 =>
    (forI (fI_orderWindow_s2 fuel x58) y3 0 []) >>= fun q68 =>
    match q68 with
    | .inl y62 =>
      some y62
    | .inr _ => none
  | .inr _ => none

def fI_OrderWindow (fuel : Nat) (p0 : List Int) (p1 : Int) (p2 : Int) : Option ((List Int) × Bool) :=
  (fI_windowOk p0 p1 p2) >>= fun x1 =>
  if !x1 then
    some ([], false)
  else
    (fI_orderWindow fuel p0 p1 p2) >>= fun x9 =>
    some (x9, true)

def fS_cyAlike (fuel : Nat) (p0 : List Int) (p1 : Int) (p2 : Int) : Option Bool :=
  (fS_cyWindow fuel p0 p1 p2) >>= fun x1 =>
  (ck (p1 + 1)) >>= fun x10 =>
  (rem x10 (p0.length : Int)) >>= fun x11 =>
  (fS_cyWindow fuel p0 x11 p2) >>= fun x69 =>
  (fS_l1Same x1 x69) >>= fun x78 =>
  some x78

def fS_SameOrderPair_s1 (fuel : Nat) (p0 : List Int) (p1 : Int) : Int → Unit → Option (Lp Unit Unit (Int × Bool)) := fun (i11 : Int) (s : Unit) =>
  (fS_cyAlike fuel p0 i11 p1) >>= fun x23 =>
  if x23 then
    some (.ret (i11, true))
  else
    some (.go ())
def fS_SameOrderPair (fuel : Nat) (p0 : List Int) (p1 : Int) : Option (Int × Bool) :=
  (fS_cyWide p0 p1) >>= fun x1 =>
  if !x1 then
    some (0, false)
  else
    ck (p0.length : Int) >>= fun _ =>
    (forN (fS_SameOrderPair_s1 fuel p0 p1) ((p0.length : Int)).toNat 0 ()) >>= fun q12 =>
    match q12 with
    | .inl _ =>
      some (0, false)
    | .inr r' => some r'

def fX_slices_Equal_int_int_s1 (p0 : List Int) (p1 : List Int) : Int → Unit → Option (Lp Unit Unit Bool) := fun (i5 : Int) (s : Unit) =>
  (ix p0 i5) >>= fun x17 =>
  (ix p1 i5) >>= fun x20 =>
  if x17 != x20 then
    some (.ret false)
  else
    some (.go ())
def fX_slices_Equal_int_int (p0 : List Int) (p1 : List Int) : Option Bool :=
  if (p0.length : Int) != (p1.length : Int) then
    some false
  else
    ck (p0.length : Int) >>= fun _ =>
    (forN (fX_slices_Equal_int_int_s1 p0 p1) ((p0.length : Int)).toNat 0 ()) >>= fun q6 =>
    match q6 with
    | .inl _ =>
      some true
    | .inr r' => some r'

def fI_sameOrder (fuel : Nat) (p0 : List Int) (p1 : Int) (p2 : Int) : Option Bool :=
  (fI_orderWindow fuel p0 p1 p2) >>= fun x1 =>
  (ck (p1 + 1)) >>= fun x10 =>
  (rem x10 (p0.length : Int)) >>= fun x11 =>
  (fI_orderWindow fuel p0 x11 p2) >>= fun x69 =>
  (fX_slices_Equal_int_int x1 x69) >>= fun x78 =>
  some x78

def fI_SameOrderPair_s1 (fuel : Nat) (p0 : List Int) (p1 : Int) : Int → Unit → Option (Lp Unit Unit (Int × Bool)) := fun (i11 : Int) (s : Unit) =>
  (fI_sameOrder fuel p0 i11 p1) >>= fun x23 =>
  if x23 then
    some (.ret (i11, true))
  else
    some (.go ())
def fI_SameOrderPair (fuel : Nat) (p0 : List Int) (p1 : Int) : Option (Int × Bool) :=
  (fI_windowOk p0 0 p1) >>= fun x1 =>
  if !x1 then
    some (0, false)
  else
    ck (p0.length : Int) >>= fun _ =>
    (forN (fI_SameOrderPair_s1 fuel p0 p1) ((p0.length : Int)).toNat 0 ()) >>= fun q12 =>
    match q12 with
    | .inl _ =>
      some (0, false)
    | .inr r' => some r'

end Go.Proofs.YthhpcledhflapaaDoor
