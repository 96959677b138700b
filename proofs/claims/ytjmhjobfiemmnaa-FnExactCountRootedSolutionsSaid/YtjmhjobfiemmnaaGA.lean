/- spec.l1In, spec.l1Least, spec.l1Has, spec.l1All, spec.l1Put, spec.l1Own, spec.l1Sign, spec.l1Rising, spec.l1Same, spec.coThrough, spec.prOrder, spec.prAll, spec.prSorted, impl.within, impl.numbersTo, impl.labelsIn, impl.increasing, cmp.isNaN[int], cmp.Compare[int], cmp.Less[int], slices.IndexFunc[[]int,int], slices.ContainsFunc[[]int,int], impl.allWithin$1, impl.allWithin, slices.Compare[[]int,int], slices.IsSorted[[]int,int]: plain functions, and the walks that show that the program computes them (printed by gen.py). -/
import Derived.Test.YtjmhjobfiemmnaaTy
namespace Go.Proofs.Ytjmhjobfiemmnaa
open Go.RowKit
set_option linter.unusedSimpArgs false
set_option linter.unusedVariables false

theorem info2_t_int_A : Inf Try.prog 3 (.int .i64 0) 1 8 := by unfold Inf; kernel_rfl

def fS_l1In (p0 : Int) (p1 : Int) (p2 : Int) : Option Bool :=
  (
    if decide (p0 ≥ p1) then
      some (decide (p0 ≤ p2))
    else
      some false) >>= fun q1 =>
  some q1

def pS_l1In (w : World) (r : Bool) : Ending → World → Prop := fun e w' => e = .returned (.bool r) ∧ Keeps w w'
set_option maxRecDepth 100000 in
set_option maxHeartbeats 2000000 in
theorem cS_l1In (w : World) (p0 : Int) (p1 : Int) (p2 : Int) (r : Bool) (hF : fS_l1In p0 p1 p2 = some r) :
    Calls Try.prog 52 #[.int .i64 p0, .int .i64 p1, .int .i64 p2] w (pS_l1In w r) := by
  unfold fS_l1In at hF
  have hB : Bs (fun _ => 1) (col (fun _ => 1)) w w := Bs.start _ _
  refine calls_start (n := 15) (vs := [(.int .i64 p0), (.int .i64 p1), (.int .i64 p2)]) Try.func52 rfl rfl ?_
  refine wpC_seq ?_
  refine wpC_region ?_
  refine st_val (ex_assign rfl) (by decide) trivial ?_
  refine wpF_end (r := [(0, (.int .i64 p0)), (1, (.int .i64 p1)), (2, (.int .i64 p2))]) ⟨rfl, rfl, rfl, trivial⟩ ?_
  refine nx ?_
  refine wpC_seq ?_
  refine wpC_region ?_
  refine st_val (ex_move rfl) (by decide) trivial ?_
  refine st_val (ex_move rfl) (by decide) trivial ?_
  refine st_val (ex_geq rfl rfl) (by decide) trivial ?_
  refine st_val (ex_move rfl) (by decide) trivial ?_
  obtain ⟨q1, hq1, hF⟩ := bind_some hF
  refine wpF_cutAt 4 (fun a3 w2 => Fr a3 15 [(14, (.bool q1))] ∧ Keeps w w2) ?_ ?_
  all_goals simp only [List.take_succ_cons, List.take_zero, List.drop_succ_cons, List.drop_zero]
  · have kp : Keeps w w := Keeps.refl _
    rcases Bool.eq_false_or_eq_true (decide (p0 ≥ p1)) with t4 | t4
    · rw [if_pos t4] at hq1
      refine st_val (ex_move rfl) (by decide) ⟨_, rfl, (congrArg (fun b => some (Value.bool b)) t4)⟩ ?_
      refine st_val (ex_move rfl) (by decide) ⟨_, rfl, (congrArg (fun b => some (Value.bool b)) t4)⟩ ?_
      refine st_val (ex_leq rfl rfl) (by decide) ⟨_, rfl, (congrArg (fun b => some (Value.bool b)) t4)⟩ ?_
      refine st_val (ex_pick_t (congrArg (fun b => some (Value.bool b)) t4) rfl) (by decide) trivial ?_
      have hq12 := Option.some.inj hq1
      refine wpF_end (r := [(14, (.bool (decide (p0 ≤ p2))))]) ⟨rfl, trivial⟩ ?_
      subst hq12
      refine np_norm (fun a ha => ⟨ha, kp⟩)
    · rw [if_neg (by rw [t4]; decide)] at hq1
      refine st_no rfl rfl (by rw [t4]; rfl) (by decide) ?_
      refine st_no rfl rfl (by rw [t4]; rfl) (by decide) ?_
      refine st_no rfl rfl (by rw [t4]; rfl) (by decide) ?_
      refine st_val (ex_pick_f (congrArg (fun b => some (Value.bool b)) t4) rfl) (by decide) trivial ?_
      have hq12 := Option.some.inj hq1
      refine wpF_end (r := [(14, (.bool false))]) ⟨rfl, trivial⟩ ?_
      subst hq12
      refine np_norm (fun a ha => ⟨ha, kp⟩)
  rintro a7 w2 ⟨ha, k5⟩
  have s6 := k5.stp 999 (col (fun _ => 1))
  replace hB := hB.stp s6 (by decide)
  refine wl_of ha ?_
  refine st_val (ex_assign rfl) (by decide) trivial ?_
  refine wpF_end (r := [(6, (.bool q1))]) ⟨rfl, trivial⟩ ?_
  refine nx ?_
  refine wpC_ret ?_
  have e8 := Option.some.inj hF
  subst e8
  refine ret_post (P := Try.prog) (vs := [(.bool q1)]) Try.results52 ⟨rfl, trivial⟩ ?_
  exact ⟨rfl, hB.keeps⟩

def fS_l1Least (p0 : Int) (p1 : Int) : Option Int :=
  if decide (p0 < p1) then
    some p0
  else
    some p1

def pS_l1Least (w : World) (r : Int) : Ending → World → Prop := fun e w' => e = .returned (.int .i64 r) ∧ Keeps w w'
set_option maxRecDepth 100000 in
set_option maxHeartbeats 2000000 in
theorem cS_l1Least (w : World) (p0 : Int) (p1 : Int) (r : Int) (hF : fS_l1Least p0 p1 = some r) :
    Calls Try.prog 21 #[.int .i64 p0, .int .i64 p1] w (pS_l1Least w r) := by
  unfold fS_l1Least at hF
  have hB : Bs (fun _ => 1) (col (fun _ => 1)) w w := Bs.start _ _
  refine calls_start (n := 10) (vs := [(.int .i64 p0), (.int .i64 p1)]) Try.func21 rfl rfl ?_
  refine wpC_seq ?_
  refine wpC_region ?_
  refine st_val (ex_assign rfl) (by decide) trivial ?_
  refine wpF_end (r := [(0, (.int .i64 p0)), (1, (.int .i64 p1))]) ⟨rfl, rfl, trivial⟩ ?_
  refine nx ?_
  refine wpC_seq ?_
  refine wpC_seq ?_
  refine wpC_region ?_
  refine st_val (ex_move rfl) (by decide) trivial ?_
  refine st_val (ex_move rfl) (by decide) trivial ?_
  refine st_val (ex_lss rfl rfl) (by decide) trivial ?_
  refine wpF_end (r := [(0, (.int .i64 p0)), (1, (.int .i64 p1)), (7, (.bool (decide (p0 < p1))))]) ⟨rfl, rfl, rfl, trivial⟩ ?_
  refine nx ?_
  refine wpC_cond rfl (fun t1 => ?_) (fun t1 => ?_)
  · rw [if_pos t1] at hF
    refine wpC_seq ?_
    refine wpC_region ?_
    refine st_val (ex_move rfl) (by decide) trivial ?_
    refine st_val (ex_assign rfl) (by decide) trivial ?_
    refine wpF_end (r := [(4, (.int .i64 p0))]) ⟨rfl, trivial⟩ ?_
    refine nx ?_
    refine wpC_ret ?_
    refine nt_ret ?_
    have e2 := Option.some.inj hF
    subst e2
    refine ret_post (P := Try.prog) (vs := [(.int .i64 p0)]) Try.results21 ⟨rfl, trivial⟩ ?_
    exact ⟨rfl, hB.keeps⟩
  · rw [if_neg (by rw [t1]; decide)] at hF
    refine wpC_skip ?_
    refine nx ?_
    refine wpC_seq ?_
    refine wpC_region ?_
    refine st_val (ex_move rfl) (by decide) trivial ?_
    refine st_val (ex_assign rfl) (by decide) trivial ?_
    refine wpF_end (r := [(4, (.int .i64 p1))]) ⟨rfl, trivial⟩ ?_
    refine nx ?_
    refine wpC_ret ?_
    have e3 := Option.some.inj hF
    subst e3
    refine ret_post (P := Try.prog) (vs := [(.int .i64 p1)]) Try.results21 ⟨rfl, trivial⟩ ?_
    exact ⟨rfl, hB.keeps⟩

def fS_l1Has_s1 (p1 : Int) : Int → Int → Unit → Option (Lp Unit Unit Bool) := fun (i3 : Int) (x13 : Int) (s : Unit) =>
  if x13 == p1 then
    some (.ret true)
  else
    some (.go ())
def fS_l1Has (p0 : List Int) (p1 : Int) : Option Bool :=
  (forI (fS_l1Has_s1 p1) p0 0 ()) >>= fun q4 =>
  match q4 with
  | .inl _ =>
    some false
  | .inr r' => some r'

def fS_l1All_s1 (p1 : Int) (p2 : Int) : Int → Int → Unit → Option (Lp Unit Unit Bool) := fun (i3 : Int) (x13 : Int) (s : Unit) =>
  (fS_l1In x13 p1 p2) >>= fun x19 =>
  if !x19 then
    some (.ret false)
  else
    some (.go ())
def fS_l1All (p0 : List Int) (p1 : Int) (p2 : Int) : Option Bool :=
  (forI (fS_l1All_s1 p1 p2) p0 0 ()) >>= fun q4 =>
  match q4 with
  | .inl _ =>
    some true
  | .inr r' => some r'

def pS_l1All (w : World) (r : Bool) : Ending → World → Prop := fun e w' => e = .returned (.bool r) ∧ Keeps w w'
set_option maxRecDepth 100000 in
set_option maxHeartbeats 2000000 in
theorem cS_l1All (w : World) (u0 : Value) (p0 : List Int) (g0 : RdL zt w u0 p0) (p1 : Int) (p2 : Int) (r : Bool) (hF : fS_l1All p0 p1 p2 = some r) :
    Calls Try.prog 32 #[u0, .int .i64 p1, .int .i64 p2] w (pS_l1All w r) := by
  unfold fS_l1All at hF
  have hB : Bs (fun _ => 1) (col (fun _ => 1)) w w := Bs.start _ _
  refine calls_start (n := 21) (vs := [u0, (.int .i64 p1), (.int .i64 p2)]) Try.func32 rfl rfl ?_
  refine wpC_seq ?_
  refine wpC_region ?_
  refine st_val (ex_assign rfl) (by decide) trivial ?_
  refine wpF_end (r := [(0, u0), (1, (.int .i64 p1)), (2, (.int .i64 p2))]) ⟨rfl, rfl, rfl, trivial⟩ ?_
  refine nx ?_
  refine wpC_seq ?_
  refine wpC_seq ?_
  refine wpC_region ?_
  refine st_val (ex_move rfl) (by decide) trivial ?_
  refine st_val (ex_lenR rfl g0 Try.underlying25) (by decide) trivial ?_
  refine st_val (ex_move rfl) (by decide) trivial ?_
  refine wpF_end (r := [(1, (.int .i64 p1)), (2, (.int .i64 p2)), (9, u0), (10, (.int .i64 (p0.length : Int))), (11, (.int .i64 0))]) ⟨rfl, rfl, rfl, rfl, rfl, trivial⟩ ?_
  refine nx ?_
  obtain ⟨q4, hq4, hF⟩ := bind_some hF
  refine wpC_cutN (fun a w2 => ∃ (o1 : Tg), q4 = .inl () ∧ Fr a 21 [] ∧ Bs (fun _ => 1) o1 w w2) (fun a w' => ∃ r', q4 = .inr r' ∧ bodyPost Try.prog Try.f32 (pS_l1All w r') .ret a w') ?_ ?_ ?_
  · refine wpC_block ?_
    refine wpC_loop (fun (K : Nat) a w2 => ∃ (i3 : Int) (o1 : Tg), forI (fS_l1All_s1 p1 p2) (p0.drop i3.toNat) i3 () = some q4 ∧ (p0.drop i3.toNat).length = K ∧ 0 ≤ i3 ∧ Fr a 21 [(1, (.int .i64 p1)), (2, (.int .i64 p2)), (9, u0), (10, (.int .i64 (p0.length : Int))), (11, (.int .i64 i3))] ∧ Bs (fun _ => 1) o1 w w2) _ (fun a ha => ⟨0, (col (fun _ => 1)), hq4, rfl, Int.le_refl 0, ha.sub (r := [(1, (.int .i64 p1)), (2, (.int .i64 p2)), (9, u0), (10, (.int .i64 (p0.length : Int))), (11, (.int .i64 0))]) ⟨rfl, rfl, rfl, rfl, rfl, trivial⟩, hB⟩) ?_
    rintro K8 a w2 ⟨i3, o1, l5, m7, z6, ha, hB⟩
    by_cases t12 : i3 < (p0.length : Int)
    · obtain ⟨x13, q9, hx13, b10, n11⟩ := forI_cons z6 t12 l5
      have hle := g0.len_le
      dsimp only [fS_l1All_s1] at b10
      refine wp_of ha ?_
      refine wpC_seq ?_
      refine wpC_region ?_
      refine st_val (ex_lss rfl rfl) (by decide) trivial ?_
      refine wpF_end (r := [(1, (.int .i64 p1)), (2, (.int .i64 p2)), (9, u0), (10, (.int .i64 (p0.length : Int))), (11, (.int .i64 i3)), (12, (.bool (decide (i3 < (p0.length : Int)))))]) ⟨rfl, rfl, rfl, rfl, rfl, rfl, trivial⟩ ?_
      refine nx ?_
      refine wpC_seq ?_
      refine wpC_true (congrArg (fun b => some (Value.bool b)) (decide_eq_true t12)) ?_
      refine wpC_skip ?_
      refine nx ?_
      refine wpC_seq ?_
      refine wpC_block ?_
      refine wpC_seq ?_
      refine wpC_region ?_
      refine st_op (by decide) trivial ?_
      refine wf_atZ g0 hx13 hB rfl rfl Try.underlying25 Try.sizeOf3 ?_
      intro b14 f15 c16 h17 h18
      cases h18
      refine st_val (ex_load1 rfl Try.isAgg3 (cell_of_cells h17)) (by decide) trivial ?_
      refine st_val (ex_assign rfl) (by decide) trivial ?_
      refine wpF_end (r := [(1, (.int .i64 p1)), (2, (.int .i64 p2)), (8, (.int .i64 x13)), (9, u0), (10, (.int .i64 (p0.length : Int))), (11, (.int .i64 i3))]) ⟨rfl, rfl, rfl, rfl, rfl, rfl, trivial⟩ ?_
      refine nx ?_
      refine wpC_seq ?_
      refine wpC_region ?_
      refine st_val (ex_move rfl) (by decide) trivial ?_
      refine st_val (ex_move rfl) (by decide) trivial ?_
      refine st_val (ex_move rfl) (by decide) trivial ?_
      obtain ⟨x19, hx19, b10⟩ := bind_some b10
      refine st_op (by decide) trivial ?_
      refine wf_call (cS_l1In w2 x13 p1 p2 x19 hx19) Try.call52 ⟨rfl, rfl, rfl, trivial⟩ ?_
      rintro e24 w20 ⟨rfl, k21⟩
      have s23 := k21.stp 999 o1
      refine ⟨_, rfl, ?_⟩
      replace hB := hB.stp s23 (by decide)
      refine st_val (ex_not rfl) (by decide) trivial ?_
      refine wpF_end (r := [(1, (.int .i64 p1)), (2, (.int .i64 p2)), (9, u0), (10, (.int .i64 (p0.length : Int))), (11, (.int .i64 i3)), (19, (.bool (!x19)))]) ⟨rfl, rfl, rfl, rfl, rfl, rfl, trivial⟩ ?_
      refine nx ?_
      refine wpC_cond rfl (fun t25 => ?_) (fun t25 => ?_)
      · rw [if_pos t25] at b10
        refine wpC_seq ?_
        refine wpC_region ?_
        refine st_val (ex_assign rfl) (by decide) trivial ?_
        refine wpF_end (r := [(6, (.bool false))]) ⟨rfl, trivial⟩ ?_
        refine nx ?_
        refine wpC_ret ?_
        refine nb_ret ?_
        refine nt_ret ?_
        refine nt_ret ?_
        refine nb_ret ?_
        refine np_ret ?_
        have e26 := Option.some.inj b10
        subst e26
        refine fun a ha => ⟨_, n11, ?_⟩
        refine ret_post (P := Try.prog) (vs := [(.bool false)]) Try.results32 ⟨rfl, trivial⟩ ?_ a ha
        exact ⟨rfl, hB.keeps⟩
      · rw [if_neg (by rw [t25]; decide)] at b10
        refine wpC_skip ?_
        refine nb_norm ?_
        refine nx ?_
        refine wpC_region ?_
        refine st_val (ex_add rfl rfl (ck_in (by omega) (by omega))) (by decide) trivial ?_
        refine st_val (ex_move rfl) (by decide) trivial ?_
        refine wpF_end (r := [(1, (.int .i64 p1)), (2, (.int .i64 p2)), (9, u0), (10, (.int .i64 (p0.length : Int))), (11, (.int .i64 (i3 + 1)))]) ⟨rfl, rfl, rfl, rfl, rfl, trivial⟩ ?_
        refine nt_norm ?_
        have e27 := Option.some.inj b10
        subst e27
        refine to_k (r := [(1, (.int .i64 p1)), (2, (.int .i64 p2)), (9, u0), (10, (.int .i64 (p0.length : Int))), (11, (.int .i64 (i3 + 1)))]) ⟨rfl, rfl, rfl, rfl, rfl, trivial⟩ ?_
        intro a ha
        exact ⟨_, (by rw [← m7]; simp only [List.length_drop]; omega), i3 + 1, o1, n11, rfl, (by omega), ha, hB⟩
    · have r28 := forI_done t12 l5
      refine wp_of ha ?_
      refine wpC_seq ?_
      refine wpC_region ?_
      refine st_val (ex_lss rfl rfl) (by decide) trivial ?_
      refine wpF_end (r := [(1, (.int .i64 p1)), (2, (.int .i64 p2)), (9, u0), (10, (.int .i64 (p0.length : Int))), (11, (.int .i64 i3)), (12, (.bool (decide (i3 < (p0.length : Int)))))]) ⟨rfl, rfl, rfl, rfl, rfl, rfl, trivial⟩ ?_
      refine nx ?_
      refine wpC_seq ?_
      refine wpC_false (congrArg (fun b => some (Value.bool b)) (decide_eq_false t12)) ?_
      refine wpC_exit ?_
      refine nt_exit ?_
      refine nt_exit ?_
      refine nb_hit ?_
      refine np_norm ?_
      refine to_k (r := []) trivial ?_
      intro a ha
      exact ⟨o1, r28, ha, hB⟩
  · rintro a w2 ⟨o1, rfl, ha, hB⟩
    dsimp only at hF
    refine ap_k ha ?_
    refine nx ?_
    refine wpC_seq ?_
    refine wpC_region ?_
    refine st_val (ex_assign rfl) (by decide) trivial ?_
    refine wpF_end (r := [(6, (.bool true))]) ⟨rfl, trivial⟩ ?_
    refine nx ?_
    refine wpC_ret ?_
    have e29 := Option.some.inj hF
    subst e29
    refine ret_post (P := Try.prog) (vs := [(.bool true)]) Try.results32 ⟨rfl, trivial⟩ ?_
    exact ⟨rfl, hB.keeps⟩
  · rintro a w2 ⟨r', rfl, b30⟩
    dsimp only at hF
    have e31 := Option.some.inj hF
    subst e31
    exact b30

def fS_l1Put_s1 (p0 : List Int) (p1 : Int) : Int → Option (Lp Int Int (List Int)) := fun (s : Int) =>
  (
    if decide (s < (p0.length : Int)) then
      (ix p0 s) >>= fun x18 =>
      some (decide (x18 < p1))
    else
      some false) >>= fun q14 =>
  if q14 then
    (ck (s + 1)) >>= fun x28 =>
    some (.go x28)
  else
    some (.out s)
def fS_l1Put (fuel : Nat) (p0 : List Int) (p1 : Int) : Option (List Int) :=
  (loopF (fS_l1Put_s1 p0 p1) fuel 0) >>= fun q4 =>
  match q4 with
  | .inl y1 =>
    (
      if decide (y1 < (p0.length : Int)) then
        (ix p0 y1) >>= fun x35 =>
        some (x35 == p1)
      else
        some false) >>= fun q31 =>
    if q31 then
      some p0
    else
      (cut p0 0 y1) >>= fun x51 =>
      (cat ([] : List Int) x51) >>= fun x54 =>
      (push x54 p1) >>= fun x66 =>
      (cut p0 y1 p0.length) >>= fun x72 =>
      (cat x66 x72) >>= fun x75 =>
      some x75
  | .inr _ => none

def fS_l1Own (p0 : List Int) : Option (List Int) :=
  (cat ([] : List Int) p0) >>= fun x6 =>
  some x6

def pS_l1Own (oo : Tg) (t : Nat) (w : World) (r : List Int) : Ending → World → Prop := fun e w' => ∃ (v0 : Value) (o' : Tg), e = .returned (v0) ∧ Ow w.heap.size 3 t o' w' v0 r ∧ Keeps w w' ∧ ∀ b, b < w.heap.size → o' b = oo b
set_option maxRecDepth 100000 in
set_option maxHeartbeats 2000000 in
theorem cS_l1Own (w : World) (oo : Tg) (t : Nat) (ht : 2 ≤ t) (u0 : Value) (p0 : List Int) (g0 : RdL zt w u0 p0) (r : List Int) (hF : fS_l1Own p0 = some r) :
    Calls Try.prog 61 #[u0] w (pS_l1Own oo t w r) := by
  unfold fS_l1Own at hF
  have hB : Bs oo (col oo) w w := Bs.start _ _
  refine calls_start (n := 6) (vs := [u0]) Try.func61 rfl rfl ?_
  generalize col oo = o at *
  refine wpC_seq ?_
  refine wpC_region ?_
  refine st_val (ex_assign rfl) (by decide) trivial ?_
  refine wpF_end (r := [(0, u0)]) ⟨rfl, trivial⟩ ?_
  refine nx ?_
  refine wpC_seq ?_
  refine wpC_region ?_
  refine st_op (by decide) trivial ?_
  refine wf_litW w.heap.size 11 hB.keeps.size (o := o) (cs := []) (xs := ([] : List Int)) (vs := []) rfl rfl trivial Try.underlying25 Try.sizeOf3 Try.zeroValue3 (by decide) fill0 (by simp) ?_
  intro o1 w2 v3 h4 s5
  replace hB := hB.stp s5 (by decide)
  refine st_val (ex_move rfl) (by decide) trivial ?_
  obtain ⟨x6, hx6, hF⟩ := bind_some hF
  refine st_op (by decide) trivial ?_
  refine wf_catZ h4 (g0.keep hB.keeps) hx6 (by decide) hB.keeps.size (fun _ _ h => h) rfl rfl Try.underlying25 info2_t_int_A rfl (by decide) ?_
  intro o7 w8 v9 h10 s11
  replace hB := hB.stp s11 (by decide)
  refine st_val (ex_assign rfl) (by decide) trivial ?_
  refine wpF_end (r := [(2, v9)]) ⟨rfl, trivial⟩ ?_
  refine nx ?_
  refine wpC_ret ?_
  have e12 := Option.some.inj hF
  subst e12
  refine ret_post (P := Try.prog) (vs := [v9]) Try.results61 ⟨rfl, trivial⟩ ?_
  exact ⟨_, rt oo o7 w.heap.size 11 t, rfl, h10.rt hB (by decide) t, hB.keeps, rt_old _ _ _ _ _⟩

def fS_l1Sign (p0 : Int) : Option Int :=
  if decide (p0 > 0) then
    some 1
  else
    if decide (p0 < 0) then
      some (-1)
    else
      some 0

def pS_l1Sign (w : World) (r : Int) : Ending → World → Prop := fun e w' => e = .returned (.int .i64 r) ∧ Keeps w w'
set_option maxRecDepth 100000 in
set_option maxHeartbeats 2000000 in
theorem cS_l1Sign (w : World) (p0 : Int) (r : Int) (hF : fS_l1Sign p0 = some r) :
    Calls Try.prog 74 #[.int .i64 p0] w (pS_l1Sign w r) := by
  unfold fS_l1Sign at hF
  have hB : Bs (fun _ => 1) (col (fun _ => 1)) w w := Bs.start _ _
  refine calls_start (n := 9) (vs := [(.int .i64 p0)]) Try.func74 rfl rfl ?_
  refine wpC_seq ?_
  refine wpC_region ?_
  refine st_val (ex_assign rfl) (by decide) trivial ?_
  refine wpF_end (r := [(0, (.int .i64 p0))]) ⟨rfl, trivial⟩ ?_
  refine nx ?_
  refine wpC_seq ?_
  refine wpC_block ?_
  refine wpC_seq ?_
  refine wpC_region ?_
  refine st_val (ex_move rfl) (by decide) trivial ?_
  refine st_val (ex_gtr rfl rfl) (by decide) trivial ?_
  refine st_val (ex_assign rfl) (by decide) trivial ?_
  refine wpF_end (r := [(0, (.int .i64 p0)), (3, (.bool (decide (p0 > 0))))]) ⟨rfl, rfl, trivial⟩ ?_
  refine nx ?_
  refine wpC_cond rfl (fun t1 => ?_) (fun t1 => ?_)
  · rw [if_pos t1] at hF
    refine wpC_seq ?_
    refine wpC_region ?_
    refine st_val (ex_assign rfl) (by decide) trivial ?_
    refine wpF_end (r := [(2, (.int .i64 1))]) ⟨rfl, trivial⟩ ?_
    refine nx ?_
    refine wpC_ret ?_
    refine nb_ret ?_
    refine nt_ret ?_
    have e2 := Option.some.inj hF
    subst e2
    refine ret_post (P := Try.prog) (vs := [(.int .i64 1)]) Try.results74 ⟨rfl, trivial⟩ ?_
    exact ⟨rfl, hB.keeps⟩
  · rw [if_neg (by rw [t1]; decide)] at hF
    refine wpC_seq ?_
    refine wpC_region ?_
    refine st_val (ex_move rfl) (by decide) trivial ?_
    refine st_val (ex_lss rfl rfl) (by decide) trivial ?_
    refine st_val (ex_assign rfl) (by decide) trivial ?_
    refine wpF_end (r := [(6, (.bool (decide (p0 < 0))))]) ⟨rfl, trivial⟩ ?_
    refine nx ?_
    refine wpC_cond rfl (fun t3 => ?_) (fun t3 => ?_)
    · rw [if_pos t3] at hF
      refine wpC_seq ?_
      refine wpC_region ?_
      refine st_val (ex_assign rfl) (by decide) trivial ?_
      refine wpF_end (r := [(2, (.int .i64 (-1)))]) ⟨rfl, trivial⟩ ?_
      refine nx ?_
      refine wpC_ret ?_
      refine nb_ret ?_
      refine nt_ret ?_
      have e4 := Option.some.inj hF
      subst e4
      refine ret_post (P := Try.prog) (vs := [(.int .i64 (-1))]) Try.results74 ⟨rfl, trivial⟩ ?_
      exact ⟨rfl, hB.keeps⟩
    · rw [if_neg (by rw [t3]; decide)] at hF
      refine wpC_skip ?_
      refine nb_norm ?_
      refine nx ?_
      refine wpC_seq ?_
      refine wpC_region ?_
      refine st_val (ex_assign rfl) (by decide) trivial ?_
      refine wpF_end (r := [(2, (.int .i64 0))]) ⟨rfl, trivial⟩ ?_
      refine nx ?_
      refine wpC_ret ?_
      have e5 := Option.some.inj hF
      subst e5
      refine ret_post (P := Try.prog) (vs := [(.int .i64 0)]) Try.results74 ⟨rfl, trivial⟩ ?_
      exact ⟨rfl, hB.keeps⟩

def fS_l1Rising_s1 (p0 : List Int) (p1 : Int) (p2 : Int) : Int → Int → Unit → Option (Lp Unit Unit Bool) := fun (i3 : Int) (x13 : Int) (s : Unit) =>
  (fS_l1In x13 p1 p2) >>= fun x19 =>
  (
    if !x19 then
      some true
    else
      if decide (i3 > 0) then
        (ck (i3 - 1)) >>= fun x30 =>
        (ix p0 x30) >>= fun x31 =>
        some (decide (x31 ≥ x13))
      else
        some false) >>= fun q25 =>
  if q25 then
    some (.ret false)
  else
    some (.go ())
def fS_l1Rising (p0 : List Int) (p1 : Int) (p2 : Int) : Option Bool :=
  (forI (fS_l1Rising_s1 p0 p1 p2) p0 0 ()) >>= fun q4 =>
  match q4 with
  | .inl _ =>
    some true
  | .inr r' => some r'

def fS_l1Same_s1 (p0 : List Int) (p1 : List Int) : Int → Unit → Option (Lp Unit Unit Bool) := fun (i5 : Int) (s : Unit) =>
  (ix p0 i5) >>= fun x17 =>
  (ix p1 i5) >>= fun x20 =>
  if x17 != x20 then
    some (.ret false)
  else
    some (.go ())
def fS_l1Same (p0 : List Int) (p1 : List Int) : Option Bool :=
  if (p0.length : Int) != (p1.length : Int) then
    some false
  else
    ck (p0.length : Int) >>= fun _ =>
    (forN (fS_l1Same_s1 p0 p1) ((p0.length : Int)).toNat 0 ()) >>= fun q6 =>
    match q6 with
    | .inl _ =>
      some true
    | .inr r' => some r'

def pS_l1Same (w : World) (r : Bool) : Ending → World → Prop := fun e w' => e = .returned (.bool r) ∧ Keeps w w'
set_option maxRecDepth 100000 in
set_option maxHeartbeats 2000000 in
theorem cS_l1Same (w : World) (u0 : Value) (p0 : List Int) (g0 : RdL zt w u0 p0) (u1 : Value) (p1 : List Int) (g1 : RdL zt w u1 p1) (r : Bool) (hF : fS_l1Same p0 p1 = some r) :
    Calls Try.prog 58 #[u0, u1] w (pS_l1Same w r) := by
  unfold fS_l1Same at hF
  have hB : Bs (fun _ => 1) (col (fun _ => 1)) w w := Bs.start _ _
  refine calls_start (n := 26) (vs := [u0, u1]) Try.func58 rfl rfl ?_
  refine wpC_seq ?_
  refine wpC_region ?_
  refine st_val (ex_assign rfl) (by decide) trivial ?_
  refine wpF_end (r := [(0, u0), (1, u1)]) ⟨rfl, rfl, trivial⟩ ?_
  refine nx ?_
  refine wpC_seq ?_
  refine wpC_seq ?_
  refine wpC_region ?_
  refine st_val (ex_move rfl) (by decide) trivial ?_
  refine st_val (ex_lenR rfl g0 Try.underlying25) (by decide) trivial ?_
  refine st_val (ex_move rfl) (by decide) trivial ?_
  refine st_val (ex_lenR rfl g1 Try.underlying25) (by decide) trivial ?_
  refine st_val (ex_neq rfl rfl) (by decide) trivial ?_
  refine wpF_end (r := [(0, u0), (1, u1), (10, (.bool ((p0.length : Int) != (p1.length : Int))))]) ⟨rfl, rfl, rfl, trivial⟩ ?_
  refine nx ?_
  refine wpC_cond rfl (fun t1 => ?_) (fun t1 => ?_)
  · rw [if_pos t1] at hF
    refine wpC_seq ?_
    refine wpC_region ?_
    refine st_val (ex_assign rfl) (by decide) trivial ?_
    refine wpF_end (r := [(4, (.bool false))]) ⟨rfl, trivial⟩ ?_
    refine nx ?_
    refine wpC_ret ?_
    refine nt_ret ?_
    have e2 := Option.some.inj hF
    subst e2
    refine ret_post (P := Try.prog) (vs := [(.bool false)]) Try.results58 ⟨rfl, trivial⟩ ?_
    exact ⟨rfl, hB.keeps⟩
  · rw [if_neg (by rw [t1]; decide)] at hF
    refine wpC_skip ?_
    refine nx ?_
    refine wpC_seq ?_
    refine wpC_seq ?_
    refine wpC_region ?_
    refine st_val (ex_move rfl) (by decide) trivial ?_
    refine st_val (ex_lenR rfl g0 Try.underlying25) (by decide) trivial ?_
    refine st_val (ex_move rfl) (by decide) trivial ?_
    refine wpF_end (r := [(0, u0), (1, u1), (12, (.int .i64 (p0.length : Int))), (13, (.int .i64 0))]) ⟨rfl, rfl, rfl, rfl, trivial⟩ ?_
    refine nx ?_
    obtain ⟨u8, h7, hF⟩ := bind_some hF
    obtain ⟨-, h7a, h7b⟩ := ck_some h7
    obtain ⟨q6, hq6, hF⟩ := bind_some hF
    refine wpC_cutN (fun a w4 => ∃ (o3 : Tg), q6 = .inl () ∧ Fr a 26 [] ∧ Bs (fun _ => 1) o3 w w4) (fun a w' => ∃ r', q6 = .inr r' ∧ bodyPost Try.prog Try.f58 (pS_l1Same w r') .ret a w') ?_ ?_ ?_
    · refine wpC_block ?_
      refine wpC_loop (fun (K : Nat) a w4 => ∃ (i5 : Int) (o3 : Tg), forN (fS_l1Same_s1 p0 p1) ((p0.length : Int) - i5).toNat i5 () = some q6 ∧ ((p0.length : Int) - i5).toNat = K ∧ 0 ≤ i5 ∧ Fr a 26 [(0, u0), (1, u1), (12, (.int .i64 (p0.length : Int))), (13, (.int .i64 i5))] ∧ Bs (fun _ => 1) o3 w w4) _ (fun a ha => ⟨0, (col (fun _ => 1)), hq6, rfl, Int.le_refl 0, ha.sub (r := [(0, u0), (1, u1), (12, (.int .i64 (p0.length : Int))), (13, (.int .i64 0))]) ⟨rfl, rfl, rfl, rfl, trivial⟩, hB⟩) ?_
      rintro K12 a w4 ⟨i5, o3, l9, m11, z10, ha, hB⟩
      by_cases t16 : i5 < (p0.length : Int)
      · obtain ⟨q13, b14, n15⟩ := forN_cons t16 l9
        dsimp only [fS_l1Same_s1] at b14
        refine wp_of ha ?_
        refine wpC_seq ?_
        refine wpC_region ?_
        refine st_val (ex_lss rfl rfl) (by decide) trivial ?_
        refine wpF_end (r := [(0, u0), (1, u1), (12, (.int .i64 (p0.length : Int))), (13, (.int .i64 i5)), (14, (.bool (decide (i5 < (p0.length : Int)))))]) ⟨rfl, rfl, rfl, rfl, rfl, trivial⟩ ?_
        refine nx ?_
        refine wpC_seq ?_
        refine wpC_true (congrArg (fun b => some (Value.bool b)) (decide_eq_true t16)) ?_
        refine wpC_skip ?_
        refine nx ?_
        refine wpC_seq ?_
        refine wpC_block ?_
        refine wpC_seq ?_
        refine wpC_region ?_
        refine st_val (ex_move rfl) (by decide) trivial ?_
        refine st_val (ex_assign rfl) (by decide) trivial ?_
        refine wpF_end (r := [(0, u0), (1, u1), (5, (.int .i64 i5)), (12, (.int .i64 (p0.length : Int))), (13, (.int .i64 i5))]) ⟨rfl, rfl, rfl, rfl, rfl, trivial⟩ ?_
        refine nx ?_
        refine wpC_seq ?_
        obtain ⟨x17, hx17, b14⟩ := bind_some b14
        obtain ⟨x20, hx20, b14⟩ := bind_some b14
        refine wpC_drawn (o := o3) [(0, u0), (1, u1), (5, (.int .i64 i5)), (12, (.int .i64 (p0.length : Int))), (13, (.int .i64 i5))] [0, 1, 5, 12, 13] [16, 17, 18, 19, 20, 21, 22, 23] [[], [], [0, 1], [2], [], [], [4, 5], [6]] [none, none, none, none, none, none, none, none] [999, 999, 999, 999, 999, 999, 999, 999] [0, 0, 0, 0, 0, 0, 0, 0] [999] [fun v _ _ => v = u0, fun v _ _ => v = (.int .i64 i5), fun v o w9 => ∃ vl, v = adr vl (i5.toNat * Rp.sz Int) ∧ RdL zt w vl p0, fun v _ _ => v = (.int .i64 x17), fun v _ _ => v = u1, fun v _ _ => v = (.int .i64 i5), fun v o w9 => ∃ vl, v = adr vl (i5.toNat * Rp.sz Int) ∧ RdL zt w vl p1, fun v _ _ => v = (.int .i64 x20)] (fun o8 w8 => Bs (fun _ => 1) o8 w w8) follows_mixed (by kernel_rfl) rfl ⟨rfl, rfl, rfl, rfl, rfl, trivial⟩ hB ?_ ⟨st_eq _, st_eq _, fun _ _ _ _ _ _ h0 hb ⟨vl, e, h⟩ hs => ⟨vl, e, h⟩, st_eq _, st_eq _, st_eq _, fun _ _ _ _ _ _ h0 hb ⟨vl, e, h⟩ hs => ⟨vl, e, h⟩, st_eq _, trivial⟩ ?_ ?_
        · rintro t9 o1 w1 o2 w2 ht9 hB hs9
          have ht9 : t9 = 999 := by simpa using ht9
          subst ht9
          all_goals exact hB.stp hs9 (by decide)
        · refine ⟨?_, ?_, ?_, ?_, ?_, ?_, ?_, ?_, trivial⟩
          · rintro o23 w24 a25 ha hB -
            refine opS_of ha (trivial) ?_
            refine op1_val (ex_move rfl) ?_
            exact ⟨_, Stp.refl _ _ _, rfl⟩
          · rintro o26 w27 a28 ha hB -
            refine opS_of ha (trivial) ?_
            refine op1_val (ex_move rfl) ?_
            exact ⟨_, Stp.refl _ _ _, rfl⟩
          · rintro o29 w30 a31 ha hB ⟨r32, r33, -⟩
            have ha := Fr.cons (d := 16) ha r32
            have ha := Fr.cons (d := 17) ha r33
            refine opS_of ha (trivial) ?_
            refine wd_indexR g0 hx17 rfl rfl Try.underlying25 Try.sizeOf3 ?_
            exact ⟨_, Stp.refl _ _ _, ⟨_, rfl, g0⟩⟩
          · rintro o34 w35 a36 ha hB ⟨r37, -⟩
            obtain ⟨v38, e39, h40⟩ := r37
            have ha := Fr.cons (d := 18) ha e39
            refine opS_of ha (trivial) ?_
            refine wd_load1Z h40 hx17 hB rfl rfl Try.isAgg3 ?_
            intro c41 h42
            cases h42
            exact ⟨_, Stp.refl _ _ _, rfl⟩
          · rintro o43 w44 a45 ha hB -
            refine opS_of ha (trivial) ?_
            refine op1_val (ex_move rfl) ?_
            exact ⟨_, Stp.refl _ _ _, rfl⟩
          · rintro o46 w47 a48 ha hB -
            refine opS_of ha (trivial) ?_
            refine op1_val (ex_move rfl) ?_
            exact ⟨_, Stp.refl _ _ _, rfl⟩
          · rintro o49 w50 a51 ha hB ⟨r52, r53, -⟩
            have ha := Fr.cons (d := 20) ha r52
            have ha := Fr.cons (d := 21) ha r53
            refine opS_of ha (trivial) ?_
            refine wd_indexR g1 hx20 rfl rfl Try.underlying25 Try.sizeOf3 ?_
            exact ⟨_, Stp.refl _ _ _, ⟨_, rfl, g1⟩⟩
          · rintro o54 w55 a56 ha hB ⟨r57, -⟩
            obtain ⟨v58, e59, h60⟩ := r57
            have ha := Fr.cons (d := 22) ha e59
            refine opS_of ha (trivial) ?_
            refine wd_load1Z h60 hx20 hB rfl rfl Try.isAgg3 ?_
            intro c61 h62
            cases h62
            exact ⟨_, Stp.refl _ _ _, rfl⟩
        rintro o63 w64 a65 ha hB ⟨-, -, -, r66, -, -, -, r67, -⟩
        have ha := Fr.cons (d := 19) ha r66
        have ha := Fr.cons (d := 23) ha r67
        refine wl_of ha ?_
        simp only [List.length_cons, List.length_nil, Nat.zero_add, Nat.reduceAdd, List.drop_succ_cons, List.drop_zero]
        refine st_val (ex_neq rfl rfl) (by decide) trivial ?_
        refine wpF_end (r := [(0, u0), (1, u1), (12, (.int .i64 (p0.length : Int))), (13, (.int .i64 i5)), (24, (.bool (x17 != x20)))]) ⟨rfl, rfl, rfl, rfl, rfl, trivial⟩ ?_
        refine nx ?_
        refine wpC_cond rfl (fun t68 => ?_) (fun t68 => ?_)
        · rw [if_pos t68] at b14
          refine wpC_seq ?_
          refine wpC_region ?_
          refine st_val (ex_assign rfl) (by decide) trivial ?_
          refine wpF_end (r := [(4, (.bool false))]) ⟨rfl, trivial⟩ ?_
          refine nx ?_
          refine wpC_ret ?_
          refine nb_ret ?_
          refine nt_ret ?_
          refine nt_ret ?_
          refine nb_ret ?_
          refine np_ret ?_
          have e69 := Option.some.inj b14
          subst e69
          refine fun a ha => ⟨_, n15, ?_⟩
          refine ret_post (P := Try.prog) (vs := [(.bool false)]) Try.results58 ⟨rfl, trivial⟩ ?_ a ha
          exact ⟨rfl, hB.keeps⟩
        · rw [if_neg (by rw [t68]; decide)] at b14
          refine wpC_skip ?_
          refine nb_norm ?_
          refine nx ?_
          refine wpC_region ?_
          refine st_val (ex_add rfl rfl (ck_in (by omega) (by omega))) (by decide) trivial ?_
          refine st_val (ex_move rfl) (by decide) trivial ?_
          refine wpF_end (r := [(0, u0), (1, u1), (12, (.int .i64 (p0.length : Int))), (13, (.int .i64 (i5 + 1)))]) ⟨rfl, rfl, rfl, rfl, trivial⟩ ?_
          refine nt_norm ?_
          have e70 := Option.some.inj b14
          subst e70
          refine to_k (r := [(0, u0), (1, u1), (12, (.int .i64 (p0.length : Int))), (13, (.int .i64 (i5 + 1)))]) ⟨rfl, rfl, rfl, rfl, trivial⟩ ?_
          intro a ha
          exact ⟨_, (by rw [← m11]; omega), i5 + 1, o63, n15, rfl, (by omega), ha, hB⟩
      · have r71 := forN_done t16 l9
        refine wp_of ha ?_
        refine wpC_seq ?_
        refine wpC_region ?_
        refine st_val (ex_lss rfl rfl) (by decide) trivial ?_
        refine wpF_end (r := [(0, u0), (1, u1), (12, (.int .i64 (p0.length : Int))), (13, (.int .i64 i5)), (14, (.bool (decide (i5 < (p0.length : Int)))))]) ⟨rfl, rfl, rfl, rfl, rfl, trivial⟩ ?_
        refine nx ?_
        refine wpC_seq ?_
        refine wpC_false (congrArg (fun b => some (Value.bool b)) (decide_eq_false t16)) ?_
        refine wpC_exit ?_
        refine nt_exit ?_
        refine nt_exit ?_
        refine nb_hit ?_
        refine np_norm ?_
        refine to_k (r := []) trivial ?_
        intro a ha
        exact ⟨o3, r71, ha, hB⟩
    · rintro a w4 ⟨o3, rfl, ha, hB⟩
      dsimp only at hF
      refine ap_k ha ?_
      refine nx ?_
      refine wpC_seq ?_
      refine wpC_region ?_
      refine st_val (ex_assign rfl) (by decide) trivial ?_
      refine wpF_end (r := [(4, (.bool true))]) ⟨rfl, trivial⟩ ?_
      refine nx ?_
      refine wpC_ret ?_
      have e72 := Option.some.inj hF
      subst e72
      refine ret_post (P := Try.prog) (vs := [(.bool true)]) Try.results58 ⟨rfl, trivial⟩ ?_
      exact ⟨rfl, hB.keeps⟩
    · rintro a w4 ⟨r', rfl, b73⟩
      dsimp only at hF
      have e74 := Option.some.inj hF
      subst e74
      exact b73

def fS_coThrough_s1 (p0 : List Int) : Int → Int → (List Int) → Option (Lp (List Int) (List Int) (List Int)) := fun (i7 : Int) (x17 : Int) (s : List Int) =>
  (ix p0 x17) >>= fun x23 =>
  (push s x23) >>= fun x35 =>
  some (.go x35)
def fS_coThrough (p0 : List Int) (p1 : List Int) : Option (List Int) :=
  (forI (fS_coThrough_s1 p0) p1 0 []) >>= fun q8 =>
  match q8 with
  | .inl y2 =>
    some y2
  | .inr _ => none

def fS_prOrder_s1 (p1 : List Int) : Int → Int → Unit → Option (Lp Unit Unit Int) := fun (i3 : Int) (x13 : Int) (s : Unit) =>
  (ix p1 i3) >>= fun x19 =>
  if x13 != x19 then
    (ix p1 i3) >>= fun x26 =>
    (ck (x13 - x26)) >>= fun x32 =>
    (fS_l1Sign x32) >>= fun x33 =>
    some (.ret x33)
  else
    some (.go ())
def fS_prOrder (p0 : List Int) (p1 : List Int) : Option Int :=
  (forI (fS_prOrder_s1 p1) p0 0 ()) >>= fun q4 =>
  match q4 with
  | .inl _ =>
    some 0
  | .inr r' => some r'

def pS_prOrder (w : World) (r : Int) : Ending → World → Prop := fun e w' => e = .returned (.int .i64 r) ∧ Keeps w w'
set_option maxRecDepth 100000 in
set_option maxHeartbeats 2000000 in
theorem cS_prOrder (w : World) (u0 : Value) (p0 : List Int) (g0 : RdL zt w u0 p0) (u1 : Value) (p1 : List Int) (g1 : RdL zt w u1 p1) (r : Int) (hF : fS_prOrder p0 p1 = some r) :
    Calls Try.prog 60 #[u0, u1] w (pS_prOrder w r) := by
  unfold fS_prOrder at hF
  have hB : Bs (fun _ => 1) (col (fun _ => 1)) w w := Bs.start _ _
  refine calls_start (n := 28) (vs := [u0, u1]) Try.func60 rfl rfl ?_
  refine wpC_seq ?_
  refine wpC_region ?_
  refine st_val (ex_assign rfl) (by decide) trivial ?_
  refine wpF_end (r := [(0, u0), (1, u1)]) ⟨rfl, rfl, trivial⟩ ?_
  refine nx ?_
  refine wpC_seq ?_
  refine wpC_seq ?_
  refine wpC_region ?_
  refine st_val (ex_move rfl) (by decide) trivial ?_
  refine st_val (ex_lenR rfl g0 Try.underlying25) (by decide) trivial ?_
  refine st_val (ex_move rfl) (by decide) trivial ?_
  refine wpF_end (r := [(1, u1), (7, u0), (8, (.int .i64 (p0.length : Int))), (9, (.int .i64 0))]) ⟨rfl, rfl, rfl, rfl, trivial⟩ ?_
  refine nx ?_
  obtain ⟨q4, hq4, hF⟩ := bind_some hF
  refine wpC_cutN (fun a w2 => ∃ (o1 : Tg), q4 = .inl () ∧ Fr a 28 [] ∧ Bs (fun _ => 1) o1 w w2) (fun a w' => ∃ r', q4 = .inr r' ∧ bodyPost Try.prog Try.f60 (pS_prOrder w r') .ret a w') ?_ ?_ ?_
  · refine wpC_block ?_
    refine wpC_loop (fun (K : Nat) a w2 => ∃ (i3 : Int) (o1 : Tg), forI (fS_prOrder_s1 p1) (p0.drop i3.toNat) i3 () = some q4 ∧ (p0.drop i3.toNat).length = K ∧ 0 ≤ i3 ∧ Fr a 28 [(1, u1), (7, u0), (8, (.int .i64 (p0.length : Int))), (9, (.int .i64 i3))] ∧ Bs (fun _ => 1) o1 w w2) _ (fun a ha => ⟨0, (col (fun _ => 1)), hq4, rfl, Int.le_refl 0, ha.sub (r := [(1, u1), (7, u0), (8, (.int .i64 (p0.length : Int))), (9, (.int .i64 0))]) ⟨rfl, rfl, rfl, rfl, trivial⟩, hB⟩) ?_
    rintro K8 a w2 ⟨i3, o1, l5, m7, z6, ha, hB⟩
    by_cases t12 : i3 < (p0.length : Int)
    · obtain ⟨x13, q9, hx13, b10, n11⟩ := forI_cons z6 t12 l5
      have hle := g0.len_le
      dsimp only [fS_prOrder_s1] at b10
      refine wp_of ha ?_
      refine wpC_seq ?_
      refine wpC_region ?_
      refine st_val (ex_lss rfl rfl) (by decide) trivial ?_
      refine wpF_end (r := [(1, u1), (7, u0), (8, (.int .i64 (p0.length : Int))), (9, (.int .i64 i3)), (10, (.bool (decide (i3 < (p0.length : Int)))))]) ⟨rfl, rfl, rfl, rfl, rfl, trivial⟩ ?_
      refine nx ?_
      refine wpC_seq ?_
      refine wpC_true (congrArg (fun b => some (Value.bool b)) (decide_eq_true t12)) ?_
      refine wpC_skip ?_
      refine nx ?_
      refine wpC_seq ?_
      refine wpC_block ?_
      refine wpC_seq ?_
      refine wpC_region ?_
      refine st_val (ex_move rfl) (by decide) trivial ?_
      refine st_op (by decide) trivial ?_
      refine wf_atZ g0 hx13 hB rfl rfl Try.underlying25 Try.sizeOf3 ?_
      intro b14 f15 c16 h17 h18
      cases h18
      refine st_val (ex_load1 rfl Try.isAgg3 (cell_of_cells h17)) (by decide) trivial ?_
      refine st_val (ex_assign rfl) (by decide) trivial ?_
      refine st_val (ex_assign rfl) (by decide) trivial ?_
      refine wpF_end (r := [(1, u1), (5, (.int .i64 i3)), (6, (.int .i64 x13)), (7, u0), (8, (.int .i64 (p0.length : Int))), (9, (.int .i64 i3))]) ⟨rfl, rfl, rfl, rfl, rfl, rfl, trivial⟩ ?_
      refine nx ?_
      refine wpC_seq ?_
      refine wpC_region ?_
      refine st_val (ex_move rfl) (by decide) trivial ?_
      refine st_val (ex_move rfl) (by decide) trivial ?_
      refine st_val (ex_move rfl) (by decide) trivial ?_
      obtain ⟨x19, hx19, b10⟩ := bind_some b10
      refine st_op (by decide) trivial ?_
      refine wf_atZ g1 hx19 hB rfl rfl Try.underlying25 Try.sizeOf3 ?_
      intro b20 f21 c22 h23 h24
      cases h24
      refine st_val (ex_load1 rfl Try.isAgg3 (cell_of_cells h23)) (by decide) trivial ?_
      refine st_val (ex_neq rfl rfl) (by decide) trivial ?_
      refine wpF_end (r := [(1, u1), (5, (.int .i64 i3)), (6, (.int .i64 x13)), (7, u0), (8, (.int .i64 (p0.length : Int))), (9, (.int .i64 i3)), (19, (.bool (x13 != x19)))]) ⟨rfl, rfl, rfl, rfl, rfl, rfl, rfl, trivial⟩ ?_
      refine nx ?_
      refine wpC_cond rfl (fun t25 => ?_) (fun t25 => ?_)
      · rw [if_pos t25] at b10
        refine wpC_seq ?_
        refine wpC_region ?_
        refine st_val (ex_move rfl) (by decide) trivial ?_
        refine st_val (ex_move rfl) (by decide) trivial ?_
        refine st_val (ex_move rfl) (by decide) trivial ?_
        obtain ⟨x26, hx26, b10⟩ := bind_some b10
        refine st_op (by decide) trivial ?_
        refine wf_atZ g1 hx26 hB rfl rfl Try.underlying25 Try.sizeOf3 ?_
        intro b27 f28 c29 h30 h31
        cases h31
        refine st_val (ex_load1 rfl Try.isAgg3 (cell_of_cells h30)) (by decide) trivial ?_
        obtain ⟨x32, hx32, b10⟩ := bind_some b10
        refine st_val (ex_sub rfl rfl hx32) (by decide) trivial ?_
        obtain ⟨x33, hx33, b10⟩ := bind_some b10
        refine st_op (by decide) trivial ?_
        refine wf_call (cS_l1Sign w2 x32 x33 hx33) Try.call74 ⟨rfl, trivial⟩ ?_
        rintro e38 w34 ⟨rfl, k35⟩
        have s37 := k35.stp 999 o1
        refine ⟨_, rfl, ?_⟩
        replace hB := hB.stp s37 (by decide)
        refine st_val (ex_assign rfl) (by decide) trivial ?_
        refine wpF_end (r := [(4, (.int .i64 x33))]) ⟨rfl, trivial⟩ ?_
        refine nx ?_
        refine wpC_ret ?_
        refine nb_ret ?_
        refine nt_ret ?_
        refine nt_ret ?_
        refine nb_ret ?_
        refine np_ret ?_
        have e39 := Option.some.inj b10
        subst e39
        refine fun a ha => ⟨_, n11, ?_⟩
        refine ret_post (P := Try.prog) (vs := [(.int .i64 x33)]) Try.results60 ⟨rfl, trivial⟩ ?_ a ha
        exact ⟨rfl, hB.keeps⟩
      · rw [if_neg (by rw [t25]; decide)] at b10
        refine wpC_skip ?_
        refine nb_norm ?_
        refine nx ?_
        refine wpC_region ?_
        refine st_val (ex_add rfl rfl (ck_in (by omega) (by omega))) (by decide) trivial ?_
        refine st_val (ex_move rfl) (by decide) trivial ?_
        refine wpF_end (r := [(1, u1), (7, u0), (8, (.int .i64 (p0.length : Int))), (9, (.int .i64 (i3 + 1)))]) ⟨rfl, rfl, rfl, rfl, trivial⟩ ?_
        refine nt_norm ?_
        have e40 := Option.some.inj b10
        subst e40
        refine to_k (r := [(1, u1), (7, u0), (8, (.int .i64 (p0.length : Int))), (9, (.int .i64 (i3 + 1)))]) ⟨rfl, rfl, rfl, rfl, trivial⟩ ?_
        intro a ha
        exact ⟨_, (by rw [← m7]; simp only [List.length_drop]; omega), i3 + 1, o1, n11, rfl, (by omega), ha, hB⟩
    · have r41 := forI_done t12 l5
      refine wp_of ha ?_
      refine wpC_seq ?_
      refine wpC_region ?_
      refine st_val (ex_lss rfl rfl) (by decide) trivial ?_
      refine wpF_end (r := [(1, u1), (7, u0), (8, (.int .i64 (p0.length : Int))), (9, (.int .i64 i3)), (10, (.bool (decide (i3 < (p0.length : Int)))))]) ⟨rfl, rfl, rfl, rfl, rfl, trivial⟩ ?_
      refine nx ?_
      refine wpC_seq ?_
      refine wpC_false (congrArg (fun b => some (Value.bool b)) (decide_eq_false t12)) ?_
      refine wpC_exit ?_
      refine nt_exit ?_
      refine nt_exit ?_
      refine nb_hit ?_
      refine np_norm ?_
      refine to_k (r := []) trivial ?_
      intro a ha
      exact ⟨o1, r41, ha, hB⟩
  · rintro a w2 ⟨o1, rfl, ha, hB⟩
    dsimp only at hF
    refine ap_k ha ?_
    refine nx ?_
    refine wpC_seq ?_
    refine wpC_region ?_
    refine st_val (ex_assign rfl) (by decide) trivial ?_
    refine wpF_end (r := [(4, (.int .i64 0))]) ⟨rfl, trivial⟩ ?_
    refine nx ?_
    refine wpC_ret ?_
    have e42 := Option.some.inj hF
    subst e42
    refine ret_post (P := Try.prog) (vs := [(.int .i64 0)]) Try.results60 ⟨rfl, trivial⟩ ?_
    exact ⟨rfl, hB.keeps⟩
  · rintro a w2 ⟨r', rfl, b43⟩
    dsimp only at hF
    have e44 := Option.some.inj hF
    subst e44
    exact b43

def fS_prAll_s1 (p1 : List Int) : Int → Int → Unit → Option (Lp Unit Unit Bool) := fun (i3 : Int) (x13 : Int) (s : Unit) =>
  (fS_l1Has p1 x13) >>= fun x19 =>
  if !x19 then
    some (.ret false)
  else
    some (.go ())
def fS_prAll (p0 : List Int) (p1 : List Int) : Option Bool :=
  (forI (fS_prAll_s1 p1) p0 0 ()) >>= fun q4 =>
  match q4 with
  | .inl _ =>
    some true
  | .inr r' => some r'

def fS_prSorted_s2 : ((List Int) × Int) → Option (Lp ((List Int) × Int) ((List Int) × Int) (List Int)) := fun (s : (List Int) × Int) =>
  (
    if decide (s.2 > 0) then
      (ck (s.2 - 1)) >>= fun x46 =>
      (ix s.1 x46) >>= fun x47 =>
      (ix s.1 s.2) >>= fun x50 =>
      some (decide (x47 > x50))
    else
      some false) >>= fun q41 =>
  if q41 then
    (ix s.1 s.2) >>= fun x180 =>
    (ck (s.2 - 1)) >>= fun x186 =>
    (ix s.1 x186) >>= fun x187 =>
    (ix s.1 s.2) >>= fun x193 =>
    (st s.1 s.2 x187) >>= fun x202 =>
    (ck (s.2 - 1)) >>= fun x204 =>
    (ix x202 x204) >>= fun x205 =>
    (st x202 x204 x180) >>= fun x214 =>
    (ck (s.2 - 1)) >>= fun x216 =>
    some (.go (x214, x216))
  else
    some (.out (s.1, s.2))
def fS_prSorted_s1 (fuel : Nat) : Int → (List Int) → Option (Lp (List Int) (List Int) (List Int)) := fun (i14 : Int) (s : List Int) =>
  (loopF (fS_prSorted_s2) fuel (s, i14)) >>= fun q31 =>
  match q31 with
  | .inl (y26, y28) =>
    some (.go y26)
  | .inr _ => none
def fS_prSorted (fuel : Nat) (p0 : List Int) : Option (List Int) :=
  (fS_l1Own p0) >>= fun x1 =>
  ck (x1.length : Int) >>= fun _ =>
  (forN (fS_prSorted_s1 fuel) ((x1.length : Int)).toNat 0 x1) >>= fun q15 =>
  match q15 with
  | .inl y10 =>
    some y10
  | .inr _ => none

def pS_prSorted (oo : Tg) (t : Nat) (w : World) (r : List Int) : Ending → World → Prop := fun e w' => ∃ (v0 : Value) (o' : Tg), e = .returned (v0) ∧ Ow w.heap.size 3 t o' w' v0 r ∧ Keeps w w' ∧ ∀ b, b < w.heap.size → o' b = oo b
set_option maxRecDepth 100000 in
set_option maxHeartbeats 2000000 in
theorem cS_prSorted (fuel : Nat) (w : World) (oo : Tg) (t : Nat) (ht : 2 ≤ t) (u0 : Value) (p0 : List Int) (g0 : RdL zt w u0 p0) (r : List Int) (hF : fS_prSorted fuel p0 = some r) :
    Calls Try.prog 59 #[u0] w (pS_prSorted oo t w r) := by
  unfold fS_prSorted at hF
  have hB : Bs oo (col oo) w w := Bs.start _ _
  refine calls_start (n := 50) (vs := [u0]) Try.func59 rfl rfl ?_
  generalize col oo = o at *
  refine wpC_seq ?_
  refine wpC_region ?_
  refine st_val (ex_assign rfl) (by decide) trivial ?_
  refine wpF_end (r := [(0, u0)]) ⟨rfl, trivial⟩ ?_
  refine nx ?_
  refine wpC_seq ?_
  refine wpC_region ?_
  refine st_val (ex_move rfl) (by decide) trivial ?_
  obtain ⟨x1, hx1, hF⟩ := bind_some hF
  refine st_op (by decide) trivial ?_
  refine wf_call (cS_l1Own w o 11 (by decide) _ p0 (g0.keep hB.keeps) x1 hx1) Try.call61 ⟨rfl, trivial⟩ ?_
  rintro e8 w2 ⟨v3, o9, rfl, h4, k5, k6⟩
  have s7 := k5.stp' 11 k6
  replace h4 := h4.mono hB.keeps.size
  refine ⟨_, rfl, ?_⟩
  replace hB := hB.stp s7 (by decide)
  refine st_val (ex_assign rfl) (by decide) trivial ?_
  refine wpF_end (r := [(3, v3)]) ⟨rfl, trivial⟩ ?_
  refine nx ?_
  refine wpC_seq ?_
  refine wpC_seq ?_
  refine wpC_region ?_
  refine st_val (ex_move rfl) (by decide) trivial ?_
  refine st_val (ex_lenO rfl h4 Try.underlying25) (by decide) trivial ?_
  refine st_val (ex_move rfl) (by decide) trivial ?_
  refine wpF_end (r := [(3, v3), (10, (.int .i64 (x1.length : Int))), (11, (.int .i64 0))]) ⟨rfl, rfl, rfl, trivial⟩ ?_
  refine nx ?_
  obtain ⟨u17, h16, hF⟩ := bind_some hF
  obtain ⟨-, h16a, h16b⟩ := ck_some h16
  obtain ⟨q15, hq15, hF⟩ := bind_some hF
  refine wpC_cutN (fun a w13 => ∃ (y10 : List Int) (o12 : Tg), q15 = .inl y10 ∧ Fr a 50 [(3, v3)] ∧ Bs oo o12 w w13 ∧ Ow w.heap.size 3 11 o12 w13 v3 y10) (fun _ _ => False) ?_ ?_ ?_
  · refine wpC_block ?_
    refine wpC_loop (fun (K : Nat) a w13 => ∃ (i14 : Int) (y10 : List Int) (o12 : Tg), forN (fS_prSorted_s1 fuel) ((x1.length : Int) - i14).toNat i14 y10 = some q15 ∧ ((x1.length : Int) - i14).toNat = K ∧ 0 ≤ i14 ∧ Fr a 50 [(3, v3), (10, (.int .i64 (x1.length : Int))), (11, (.int .i64 i14))] ∧ Bs oo o12 w w13 ∧ Ow w.heap.size 3 11 o12 w13 v3 y10) _ (fun a ha => ⟨0, x1, o9, hq15, rfl, Int.le_refl 0, ha.sub (r := [(3, v3), (10, (.int .i64 (x1.length : Int))), (11, (.int .i64 0))]) ⟨rfl, rfl, rfl, trivial⟩, hB, h4⟩) ?_
    rintro K21 a w13 ⟨i14, y10, o12, l18, m20, z19, ha, hB, h11⟩
    by_cases t25 : i14 < (x1.length : Int)
    · obtain ⟨q22, b23, n24⟩ := forN_cons t25 l18
      dsimp only [fS_prSorted_s1] at b23
      refine wp_of ha ?_
      refine wpC_seq ?_
      refine wpC_region ?_
      refine st_val (ex_lss rfl rfl) (by decide) trivial ?_
      refine wpF_end (r := [(3, v3), (10, (.int .i64 (x1.length : Int))), (11, (.int .i64 i14)), (12, (.bool (decide (i14 < (x1.length : Int)))))]) ⟨rfl, rfl, rfl, rfl, trivial⟩ ?_
      refine nx ?_
      refine wpC_seq ?_
      refine wpC_true (congrArg (fun b => some (Value.bool b)) (decide_eq_true t25)) ?_
      refine wpC_skip ?_
      refine nx ?_
      refine wpC_seq ?_
      refine wpC_block ?_
      refine wpC_seq ?_
      refine wpC_region ?_
      refine st_val (ex_move rfl) (by decide) trivial ?_
      refine st_val (ex_assign rfl) (by decide) trivial ?_
      refine wpF_end (r := [(3, v3), (4, (.int .i64 i14)), (10, (.int .i64 (x1.length : Int))), (11, (.int .i64 i14))]) ⟨rfl, rfl, rfl, rfl, trivial⟩ ?_
      refine nx ?_
      refine wpC_seq ?_
      refine wpC_region ?_
      refine st_val (ex_move rfl) (by decide) trivial ?_
      refine st_val (ex_assign rfl) (by decide) trivial ?_
      refine wpF_end (r := [(3, v3), (5, (.int .i64 i14)), (10, (.int .i64 (x1.length : Int))), (11, (.int .i64 i14))]) ⟨rfl, rfl, rfl, rfl, trivial⟩ ?_
      refine nx ?_
      obtain ⟨q31, hq31, b23⟩ := bind_some b23
      refine wpC_cutN (fun a w30 => ∃ (y26 : List Int) (y28 : Int) (o29 : Tg), q31 = .inl (y26, y28) ∧ Fr a 50 [(3, v3), (10, (.int .i64 (x1.length : Int))), (11, (.int .i64 i14))] ∧ Bs oo o29 w w30 ∧ Ow w.heap.size 3 11 o29 w30 v3 y26) (fun _ _ => False) ?_ ?_ ?_
      · refine wpC_block ?_
        refine wpC_loop (fun (K : Nat) a w30 => ∃ (y26 : List Int) (y28 : Int) (o29 : Tg), loopF (fS_prSorted_s2) K (y26, y28) = some q31 ∧ Fr a 50 [(3, v3), (5, (.int .i64 y28)), (10, (.int .i64 (x1.length : Int))), (11, (.int .i64 i14))] ∧ Bs oo o29 w w30 ∧ Ow w.heap.size 3 11 o29 w30 v3 y26) fuel (fun a ha => ⟨y10, i14, o12, hq31, ha.sub (r := [(3, v3), (5, (.int .i64 i14)), (10, (.int .i64 (x1.length : Int))), (11, (.int .i64 i14))]) ⟨rfl, rfl, rfl, rfl, trivial⟩, hB, h11⟩) ?_
        rintro K35 a w30 ⟨y26, y28, o29, l32, ha, hB, h27⟩
        obtain ⟨K39, q36, e40, b37, n38⟩ := loopF_cons l32
        dsimp only [fS_prSorted_s2] at b37
        refine wp_of ha ?_
        refine wpC_seq ?_
        refine wpC_seq ?_
        obtain ⟨q41, hq41, b37⟩ := bind_some b37
        refine wpC_cutN (fun a44 w43 => ∃ o42 : Tg, Fr a44 50 [(3, v3), (5, (.int .i64 y28)), (10, (.int .i64 (x1.length : Int))), (11, (.int .i64 i14)), (28, (.bool q41))] ∧ Bs oo o42 w w43 ∧ Ow w.heap.size 3 11 o42 w43 v3 y26) (fun _ _ => False) ?_ ?_ (fun _ _ h => h.elim)
        · rcases Bool.eq_false_or_eq_true (decide (y28 > 0)) with t45 | t45
          · rw [if_pos t45] at hq41
            obtain ⟨x46, hx46, hq41⟩ := bind_some hq41
            obtain ⟨x47, hx47, hq41⟩ := bind_some hq41
            obtain ⟨x50, hx50, hq41⟩ := bind_some hq41
            refine wpC_drawn (o := o29) [(3, v3), (5, (.int .i64 y28)), (10, (.int .i64 (x1.length : Int))), (11, (.int .i64 i14))] [3, 5, 10, 11] [15, 16, 17, 18, 19, 20, 21, 22, 23, 24, 25, 26] [[], [0], [1], [2], [2], [2, 4], [2, 3, 5], [2, 6], [2], [2], [2, 8, 9], [2, 10]] [none, none, none, none, none, none, none, none, none, none, none, none] [999, 999, 999, 999, 999, 999, 999, 999, 999, 999, 999, 999] [0, 0, 0, 0, 0, 0, 11, 0, 0, 0, 11, 0] [999] [fun v _ _ => v = (.int .i64 y28), fun v _ _ => v = (.bool (decide (y28 > 0))), fun v _ _ => v = (.bool (decide (y28 > 0))), fun v _ _ => v = v3, fun v _ _ => v = (.int .i64 y28), fun v _ _ => v = (.int .i64 x46), fun v o w9 => ∃ vl, v = adr vl (x46.toNat * Rp.sz Int) ∧ Ow w.heap.size 3 11 o w9 vl y26, fun v _ _ => v = (.int .i64 x47), fun v _ _ => v = v3, fun v _ _ => v = (.int .i64 y28), fun v o w9 => ∃ vl, v = adr vl (y28.toNat * Rp.sz Int) ∧ Ow w.heap.size 3 11 o w9 vl y26, fun v _ _ => v = (.int .i64 x50)] (fun o8 w8 => Bs oo o8 w w8 ∧ Ow w.heap.size 3 11 o8 w8 v3 y26) follows_mixed (by kernel_rfl) rfl ⟨rfl, rfl, rfl, rfl, trivial⟩ ⟨hB, h27⟩ ?_ ⟨st_eq _, st_eq _, st_eq _, st_eq _, st_eq _, st_eq _, fun _ _ _ _ _ _ h0 hb ⟨vl, e, h⟩ hs => ⟨vl, e, h.stp hs h0.1 (Ne.symm hb)⟩, st_eq _, st_eq _, st_eq _, fun _ _ _ _ _ _ h0 hb ⟨vl, e, h⟩ hs => ⟨vl, e, h.stp hs h0.1 (Ne.symm hb)⟩, st_eq _, trivial⟩ ?_ ?_
            · rintro t9 o1 w1 o2 w2 ht9 ⟨hB, h27⟩ hs9
              have ht9 : t9 = 999 := by simpa using ht9
              subst ht9
              all_goals exact ⟨hB.stp hs9 (by decide), h27.stp hs9 (by decide) (by decide)⟩
            · refine ⟨?_, ?_, ?_, ?_, ?_, ?_, ?_, ?_, ?_, ?_, ?_, ?_, trivial⟩
              · rintro o53 w54 a55 ha ⟨hB, h27⟩ -
                refine opS_of ha (trivial) ?_
                refine op1_val (ex_move rfl) ?_
                exact ⟨_, Stp.refl _ _ _, rfl⟩
              · rintro o56 w57 a58 ha ⟨hB, h27⟩ ⟨r59, -⟩
                have ha := Fr.cons (d := 15) ha r59
                refine opS_of ha (trivial) ?_
                refine op1_val (ex_gtr rfl rfl) ?_
                exact ⟨_, Stp.refl _ _ _, rfl⟩
              · rintro o60 w61 a62 ha ⟨hB, h27⟩ ⟨r63, -⟩
                have ha := Fr.cons (d := 16) ha r63
                refine opS_of ha (trivial) ?_
                refine op1_val (ex_move rfl) ?_
                exact ⟨_, Stp.refl _ _ _, rfl⟩
              · rintro o64 w65 a66 ha ⟨hB, h27⟩ ⟨r67, -⟩
                have ha := Fr.cons (d := 17) ha r67
                refine opS_of ha (⟨_, rfl, (congrArg (fun b => some (Value.bool b)) t45)⟩) ?_
                refine op1_val (ex_move rfl) ?_
                exact ⟨_, Stp.refl _ _ _, rfl⟩
              · rintro o68 w69 a70 ha ⟨hB, h27⟩ ⟨r71, -⟩
                have ha := Fr.cons (d := 17) ha r71
                refine opS_of ha (⟨_, rfl, (congrArg (fun b => some (Value.bool b)) t45)⟩) ?_
                refine op1_val (ex_move rfl) ?_
                exact ⟨_, Stp.refl _ _ _, rfl⟩
              · rintro o72 w73 a74 ha ⟨hB, h27⟩ ⟨r75, r76, -⟩
                have ha := Fr.cons (d := 17) ha r75
                have ha := Fr.cons (d := 19) ha r76
                refine opS_of ha (⟨_, rfl, (congrArg (fun b => some (Value.bool b)) t45)⟩) ?_
                refine op1_val (ex_sub rfl rfl hx46) ?_
                exact ⟨_, Stp.refl _ _ _, rfl⟩
              · rintro o77 w78 a79 ha ⟨hB, h27⟩ ⟨r80, r81, r82, -⟩
                have ha := Fr.cons (d := 17) ha r80
                have ha := Fr.cons (d := 18) ha r81
                have ha := Fr.cons (d := 20) ha r82
                refine opS_of ha (⟨_, rfl, (congrArg (fun b => some (Value.bool b)) t45)⟩) ?_
                refine wd_indexW h27 hx47 rfl rfl Try.underlying25 Try.sizeOf3 ?_
                exact ⟨_, Stp.refl _ _ _, ⟨_, rfl, h27⟩⟩
              · rintro o83 w84 a85 ha ⟨hB, h27⟩ ⟨r86, r87, -⟩
                have ha := Fr.cons (d := 17) ha r86
                obtain ⟨v88, e89, h90⟩ := r87
                have ha := Fr.cons (d := 21) ha e89
                refine opS_of ha (⟨_, rfl, (congrArg (fun b => some (Value.bool b)) t45)⟩) ?_
                refine wd_load1W h90 hx47 rfl rfl Try.isAgg3 ?_
                intro c91 h92
                cases h92
                exact ⟨_, Stp.refl _ _ _, rfl⟩
              · rintro o93 w94 a95 ha ⟨hB, h27⟩ ⟨r96, -⟩
                have ha := Fr.cons (d := 17) ha r96
                refine opS_of ha (⟨_, rfl, (congrArg (fun b => some (Value.bool b)) t45)⟩) ?_
                refine op1_val (ex_move rfl) ?_
                exact ⟨_, Stp.refl _ _ _, rfl⟩
              · rintro o97 w98 a99 ha ⟨hB, h27⟩ ⟨r100, -⟩
                have ha := Fr.cons (d := 17) ha r100
                refine opS_of ha (⟨_, rfl, (congrArg (fun b => some (Value.bool b)) t45)⟩) ?_
                refine op1_val (ex_move rfl) ?_
                exact ⟨_, Stp.refl _ _ _, rfl⟩
              · rintro o101 w102 a103 ha ⟨hB, h27⟩ ⟨r104, r105, r106, -⟩
                have ha := Fr.cons (d := 17) ha r104
                have ha := Fr.cons (d := 23) ha r105
                have ha := Fr.cons (d := 24) ha r106
                refine opS_of ha (⟨_, rfl, (congrArg (fun b => some (Value.bool b)) t45)⟩) ?_
                refine wd_indexW h27 hx50 rfl rfl Try.underlying25 Try.sizeOf3 ?_
                exact ⟨_, Stp.refl _ _ _, ⟨_, rfl, h27⟩⟩
              · rintro o107 w108 a109 ha ⟨hB, h27⟩ ⟨r110, r111, -⟩
                have ha := Fr.cons (d := 17) ha r110
                obtain ⟨v112, e113, h114⟩ := r111
                have ha := Fr.cons (d := 25) ha e113
                refine opS_of ha (⟨_, rfl, (congrArg (fun b => some (Value.bool b)) t45)⟩) ?_
                refine wd_load1W h114 hx50 rfl rfl Try.isAgg3 ?_
                intro c115 h116
                cases h116
                exact ⟨_, Stp.refl _ _ _, rfl⟩
            rintro o117 w118 a119 ha ⟨hB, h27⟩ ⟨-, -, r120, -, -, -, -, r121, -, -, -, r122, -⟩
            have ha := Fr.cons (d := 17) ha r120
            have ha := Fr.cons (d := 22) ha r121
            have ha := Fr.cons (d := 26) ha r122
            refine wl_of ha ?_
            simp only [List.length_cons, List.length_nil, Nat.zero_add, Nat.reduceAdd, List.drop_succ_cons, List.drop_zero]
            refine st_val (ex_gtr rfl rfl) (by decide) ⟨_, rfl, (congrArg (fun b => some (Value.bool b)) t45)⟩ ?_
            refine st_val (ex_pick_t (congrArg (fun b => some (Value.bool b)) t45) rfl) (by decide) trivial ?_
            have e123 := Option.some.inj hq41
            subst e123
            refine wpF_end (r := [(3, v3), (5, (.int .i64 y28)), (10, (.int .i64 (x1.length : Int))), (11, (.int .i64 i14)), (28, (.bool (decide (x47 > x50))))]) ⟨rfl, rfl, rfl, rfl, rfl, trivial⟩ ?_
            refine np_norm (fun a ha => ⟨o117, ha, hB, h27⟩)
          · rw [if_neg (by rw [t45]; decide)] at hq41
            refine wpC_drawn (o := o29) [(3, v3), (5, (.int .i64 y28)), (10, (.int .i64 (x1.length : Int))), (11, (.int .i64 i14))] [3, 5, 10, 11] [15, 16, 17, 18, 19, 20, 21, 22, 23, 24, 25, 26] [[], [0], [1], [2], [2], [2], [2], [2], [2], [2], [2], [2]] [none, none, none, none, none, none, none, none, none, none, none, none] [999, 999, 999, 999, 999, 999, 999, 999, 999, 999, 999, 999] [0, 0, 0, 0, 0, 0, 0, 0, 0, 0, 0, 0] [999] [fun v _ _ => v = (.int .i64 y28), fun v _ _ => v = (.bool (decide (y28 > 0))), fun v _ _ => v = (.bool (decide (y28 > 0))), fun v _ _ => v = undef, fun v _ _ => v = undef, fun v _ _ => v = undef, fun v _ _ => v = undef, fun v _ _ => v = undef, fun v _ _ => v = undef, fun v _ _ => v = undef, fun v _ _ => v = undef, fun v _ _ => v = undef] (fun o8 w8 => Bs oo o8 w w8 ∧ Ow w.heap.size 3 11 o8 w8 v3 y26) follows_mixed (by kernel_rfl) rfl ⟨rfl, rfl, rfl, rfl, trivial⟩ ⟨hB, h27⟩ ?_ ⟨st_eq _, st_eq _, st_eq _, st_eq _, st_eq _, st_eq _, st_eq _, st_eq _, st_eq _, st_eq _, st_eq _, st_eq _, trivial⟩ ?_ ?_
            · rintro t9 o1 w1 o2 w2 ht9 ⟨hB, h27⟩ hs9
              have ht9 : t9 = 999 := by simpa using ht9
              subst ht9
              all_goals exact ⟨hB.stp hs9 (by decide), h27.stp hs9 (by decide) (by decide)⟩
            · refine ⟨?_, ?_, ?_, ?_, ?_, ?_, ?_, ?_, ?_, ?_, ?_, ?_, trivial⟩
              · rintro o124 w125 a126 ha ⟨hB, h27⟩ -
                refine opS_of ha (trivial) ?_
                refine op1_val (ex_move rfl) ?_
                exact ⟨_, Stp.refl _ _ _, rfl⟩
              · rintro o127 w128 a129 ha ⟨hB, h27⟩ ⟨r130, -⟩
                have ha := Fr.cons (d := 15) ha r130
                refine opS_of ha (trivial) ?_
                refine op1_val (ex_gtr rfl rfl) ?_
                exact ⟨_, Stp.refl _ _ _, rfl⟩
              · rintro o131 w132 a133 ha ⟨hB, h27⟩ ⟨r134, -⟩
                have ha := Fr.cons (d := 16) ha r134
                refine opS_of ha (trivial) ?_
                refine op1_val (ex_move rfl) ?_
                exact ⟨_, Stp.refl _ _ _, rfl⟩
              · rintro o135 w136 a137 ha ⟨hB, h27⟩ ⟨r138, -⟩
                have ha := Fr.cons (d := 17) ha r138
                exact opS_no ha rfl rfl rfl (by rw [t45]; rfl) ⟨_, Stp.refl _ _ _, rfl⟩
              · rintro o139 w140 a141 ha ⟨hB, h27⟩ ⟨r142, -⟩
                have ha := Fr.cons (d := 17) ha r142
                exact opS_no ha rfl rfl rfl (by rw [t45]; rfl) ⟨_, Stp.refl _ _ _, rfl⟩
              · rintro o143 w144 a145 ha ⟨hB, h27⟩ ⟨r146, -⟩
                have ha := Fr.cons (d := 17) ha r146
                exact opS_no ha rfl rfl rfl (by rw [t45]; rfl) ⟨_, Stp.refl _ _ _, rfl⟩
              · rintro o147 w148 a149 ha ⟨hB, h27⟩ ⟨r150, -⟩
                have ha := Fr.cons (d := 17) ha r150
                exact opS_no ha rfl rfl rfl (by rw [t45]; rfl) ⟨_, Stp.refl _ _ _, rfl⟩
              · rintro o151 w152 a153 ha ⟨hB, h27⟩ ⟨r154, -⟩
                have ha := Fr.cons (d := 17) ha r154
                exact opS_no ha rfl rfl rfl (by rw [t45]; rfl) ⟨_, Stp.refl _ _ _, rfl⟩
              · rintro o155 w156 a157 ha ⟨hB, h27⟩ ⟨r158, -⟩
                have ha := Fr.cons (d := 17) ha r158
                exact opS_no ha rfl rfl rfl (by rw [t45]; rfl) ⟨_, Stp.refl _ _ _, rfl⟩
              · rintro o159 w160 a161 ha ⟨hB, h27⟩ ⟨r162, -⟩
                have ha := Fr.cons (d := 17) ha r162
                exact opS_no ha rfl rfl rfl (by rw [t45]; rfl) ⟨_, Stp.refl _ _ _, rfl⟩
              · rintro o163 w164 a165 ha ⟨hB, h27⟩ ⟨r166, -⟩
                have ha := Fr.cons (d := 17) ha r166
                exact opS_no ha rfl rfl rfl (by rw [t45]; rfl) ⟨_, Stp.refl _ _ _, rfl⟩
              · rintro o167 w168 a169 ha ⟨hB, h27⟩ ⟨r170, -⟩
                have ha := Fr.cons (d := 17) ha r170
                exact opS_no ha rfl rfl rfl (by rw [t45]; rfl) ⟨_, Stp.refl _ _ _, rfl⟩
            rintro o171 w172 a173 ha ⟨hB, h27⟩ ⟨-, -, r174, -, -, -, -, r175, -, -, -, r176, -⟩
            have ha := Fr.cons (d := 17) ha r174
            have ha := Fr.cons (d := 22) ha r175
            have ha := Fr.cons (d := 26) ha r176
            refine wl_of ha ?_
            simp only [List.length_cons, List.length_nil, Nat.zero_add, Nat.reduceAdd, List.drop_succ_cons, List.drop_zero]
            refine st_no rfl rfl (by rw [t45]; rfl) (by decide) ?_
            refine st_val (ex_pick_f (congrArg (fun b => some (Value.bool b)) t45) rfl) (by decide) trivial ?_
            have e177 := Option.some.inj hq41
            subst e177
            refine wpF_end (r := [(3, v3), (5, (.int .i64 y28)), (10, (.int .i64 (x1.length : Int))), (11, (.int .i64 i14)), (28, (.bool false))]) ⟨rfl, rfl, rfl, rfl, rfl, trivial⟩ ?_
            refine np_norm (fun a ha => ⟨o171, ha, hB, h27⟩)
        rintro a178 w43 ⟨o42, ha, hB, h27⟩
        refine ap_k ha ?_
        refine nx ?_
        refine wpC_cond rfl (fun t179 => ?_) (fun t179 => ?_)
        · rw [if_pos t179] at b37
          refine wpC_skip ?_
          refine nx ?_
          refine wpC_seq ?_
          refine wpC_block ?_
          refine wpC_seq ?_
          refine wpC_region ?_
          refine st_val (ex_move rfl) (by decide) trivial ?_
          refine st_val (ex_move rfl) (by decide) trivial ?_
          obtain ⟨x180, hx180, b37⟩ := bind_some b37
          refine st_op (by decide) trivial ?_
          refine wf_atW h27 hx180 rfl rfl Try.underlying25 Try.sizeOf3 ?_
          intro b181 f182 c183 h184 h185
          cases h185
          refine st_val (ex_load1 rfl Try.isAgg3 (cell_of_cells h184)) (by decide) trivial ?_
          refine st_val (ex_assign rfl) (by decide) trivial ?_
          refine wpF_end (r := [(3, v3), (5, (.int .i64 y28)), (6, (.int .i64 x180)), (10, (.int .i64 (x1.length : Int))), (11, (.int .i64 i14))]) ⟨rfl, rfl, rfl, rfl, rfl, trivial⟩ ?_
          refine nx ?_
          refine wpC_seq ?_
          refine wpC_region ?_
          refine st_val (ex_move rfl) (by decide) trivial ?_
          refine st_val (ex_move rfl) (by decide) trivial ?_
          refine st_val (ex_move rfl) (by decide) trivial ?_
          refine st_val (ex_move rfl) (by decide) trivial ?_
          obtain ⟨x186, hx186, b37⟩ := bind_some b37
          refine st_val (ex_sub rfl rfl hx186) (by decide) trivial ?_
          obtain ⟨x187, hx187, b37⟩ := bind_some b37
          refine st_op (by decide) trivial ?_
          refine wf_atW h27 hx187 rfl rfl Try.underlying25 Try.sizeOf3 ?_
          intro b188 f189 c190 h191 h192
          cases h192
          refine st_val (ex_load1 rfl Try.isAgg3 (cell_of_cells h191)) (by decide) trivial ?_
          obtain ⟨x193, hx193, b37⟩ := bind_some b37
          refine st_op (by decide) trivial ?_
          refine wf_atP h27 hx193 rfl rfl Try.underlying25 Try.sizeOf3 ?_
          intro b194 c196 h199 h197 h198
          cases h198
          obtain ⟨x202, hx202, b37⟩ := bind_some b37
          refine st_op0 trivial ?_
          refine wf_storeW h27 h199 hx202 rfl (by decide) rfl rfl rfl Try.sizeOf3 rfl ?_
          intro w200 h203 s201
          replace hB := hB.stp s201 (by decide)
          refine wpF_end (r := [(3, v3), (5, (.int .i64 y28)), (6, (.int .i64 x180)), (10, (.int .i64 (x1.length : Int))), (11, (.int .i64 i14))]) ⟨rfl, rfl, rfl, rfl, rfl, trivial⟩ ?_
          refine nx ?_
          refine wpC_region ?_
          refine st_val (ex_move rfl) (by decide) trivial ?_
          refine st_val (ex_move rfl) (by decide) trivial ?_
          obtain ⟨x204, hx204, b37⟩ := bind_some b37
          refine st_val (ex_sub rfl rfl hx204) (by decide) trivial ?_
          refine st_val (ex_move rfl) (by decide) trivial ?_
          obtain ⟨x205, hx205, b37⟩ := bind_some b37
          refine st_op (by decide) trivial ?_
          refine wf_atP h203 hx205 rfl rfl Try.underlying25 Try.sizeOf3 ?_
          intro b206 c208 h211 h209 h210
          cases h210
          obtain ⟨x214, hx214, b37⟩ := bind_some b37
          refine st_op0 trivial ?_
          refine wf_storeW h203 h211 hx214 rfl (by decide) rfl rfl rfl Try.sizeOf3 rfl ?_
          intro w212 h215 s213
          replace hB := hB.stp s213 (by decide)
          refine wpF_end (r := [(3, v3), (5, (.int .i64 y28)), (10, (.int .i64 (x1.length : Int))), (11, (.int .i64 i14))]) ⟨rfl, rfl, rfl, rfl, trivial⟩ ?_
          refine nb_norm ?_
          refine nx ?_
          refine wpC_region ?_
          refine st_val (ex_move rfl) (by decide) trivial ?_
          obtain ⟨x216, hx216, b37⟩ := bind_some b37
          refine st_val (ex_sub rfl rfl hx216) (by decide) trivial ?_
          refine st_val (ex_assign rfl) (by decide) trivial ?_
          refine wpF_end (r := [(3, v3), (5, (.int .i64 x216)), (10, (.int .i64 (x1.length : Int))), (11, (.int .i64 i14))]) ⟨rfl, rfl, rfl, rfl, trivial⟩ ?_
          refine nt_norm ?_
          have e217 := Option.some.inj b37
          subst e217
          refine to_k (r := [(3, v3), (5, (.int .i64 x216)), (10, (.int .i64 (x1.length : Int))), (11, (.int .i64 i14))]) ⟨rfl, rfl, rfl, rfl, trivial⟩ ?_
          intro a ha
          exact ⟨K39, by omega, x214, x216, o42, n38, ha, hB, h215⟩
        · rw [if_neg (by rw [t179]; decide)] at b37
          refine wpC_exit ?_
          refine nt_exit ?_
          refine nt_exit ?_
          refine nb_hit ?_
          refine np_norm ?_
          have e218 := Option.some.inj b37
          subst e218
          refine to_k (r := [(3, v3), (10, (.int .i64 (x1.length : Int))), (11, (.int .i64 i14))]) ⟨rfl, rfl, rfl, trivial⟩ ?_
          intro a ha
          exact ⟨y26, y28, o42, n38, ha, hB, h27⟩
      · rintro a w30 ⟨y26, y28, o29, rfl, ha, hB, h27⟩
        dsimp only at b23
        refine ap_k ha ?_
        refine nb_norm ?_
        refine nx ?_
        refine wpC_region ?_
        refine st_val (ex_add rfl rfl (ck_in (by omega) (by omega))) (by decide) trivial ?_
        refine st_val (ex_move rfl) (by decide) trivial ?_
        refine wpF_end (r := [(3, v3), (10, (.int .i64 (x1.length : Int))), (11, (.int .i64 (i14 + 1)))]) ⟨rfl, rfl, rfl, trivial⟩ ?_
        refine nt_norm ?_
        have e219 := Option.some.inj b23
        subst e219
        refine to_k (r := [(3, v3), (10, (.int .i64 (x1.length : Int))), (11, (.int .i64 (i14 + 1)))]) ⟨rfl, rfl, rfl, trivial⟩ ?_
        intro a ha
        exact ⟨_, (by rw [← m20]; omega), i14 + 1, y26, o29, n24, rfl, (by omega), ha, hB, h27⟩
      · exact fun _ _ h => h.elim
    · have r220 := forN_done t25 l18
      refine wp_of ha ?_
      refine wpC_seq ?_
      refine wpC_region ?_
      refine st_val (ex_lss rfl rfl) (by decide) trivial ?_
      refine wpF_end (r := [(3, v3), (10, (.int .i64 (x1.length : Int))), (11, (.int .i64 i14)), (12, (.bool (decide (i14 < (x1.length : Int)))))]) ⟨rfl, rfl, rfl, rfl, trivial⟩ ?_
      refine nx ?_
      refine wpC_seq ?_
      refine wpC_false (congrArg (fun b => some (Value.bool b)) (decide_eq_false t25)) ?_
      refine wpC_exit ?_
      refine nt_exit ?_
      refine nt_exit ?_
      refine nb_hit ?_
      refine np_norm ?_
      refine to_k (r := [(3, v3)]) ⟨rfl, trivial⟩ ?_
      intro a ha
      exact ⟨y10, o12, r220, ha, hB, h11⟩
  · rintro a w13 ⟨y10, o12, rfl, ha, hB, h11⟩
    dsimp only at hF
    refine ap_k ha ?_
    refine nx ?_
    refine wpC_seq ?_
    refine wpC_region ?_
    refine st_val (ex_move rfl) (by decide) trivial ?_
    refine st_val (ex_assign rfl) (by decide) trivial ?_
    refine wpF_end (r := [(2, v3)]) ⟨rfl, trivial⟩ ?_
    refine nx ?_
    refine wpC_ret ?_
    have e221 := Option.some.inj hF
    subst e221
    refine ret_post (P := Try.prog) (vs := [v3]) Try.results59 ⟨rfl, trivial⟩ ?_
    exact ⟨_, rt oo o12 w.heap.size 11 t, rfl, h11.rt hB (by decide) t, hB.keeps, rt_old _ _ _ _ _⟩
  · exact fun _ _ h => h.elim

def fI_within (p0 : Int) (p1 : Int) (p2 : Int) : Option Bool :=
  (
    if decide (p1 ≤ p0) then
      some (decide (p0 ≤ p2))
    else
      some false) >>= fun q1 =>
  some q1

def pI_within (w : World) (r : Bool) : Ending → World → Prop := fun e w' => e = .returned (.bool r) ∧ Keeps w w'
set_option maxRecDepth 100000 in
set_option maxHeartbeats 2000000 in
theorem cI_within (w : World) (p0 : Int) (p1 : Int) (p2 : Int) (r : Bool) (hF : fI_within p0 p1 p2 = some r) :
    Calls Try.prog 55 #[.int .i64 p0, .int .i64 p1, .int .i64 p2] w (pI_within w r) := by
  unfold fI_within at hF
  have hB : Bs (fun _ => 1) (col (fun _ => 1)) w w := Bs.start _ _
  refine calls_start (n := 15) (vs := [(.int .i64 p0), (.int .i64 p1), (.int .i64 p2)]) Try.func55 rfl rfl ?_
  refine wpC_seq ?_
  refine wpC_region ?_
  refine st_val (ex_assign rfl) (by decide) trivial ?_
  refine wpF_end (r := [(0, (.int .i64 p0)), (1, (.int .i64 p1)), (2, (.int .i64 p2))]) ⟨rfl, rfl, rfl, trivial⟩ ?_
  refine nx ?_
  refine wpC_seq ?_
  refine wpC_region ?_
  refine st_val (ex_move rfl) (by decide) trivial ?_
  refine st_val (ex_move rfl) (by decide) trivial ?_
  refine st_val (ex_leq rfl rfl) (by decide) trivial ?_
  refine st_val (ex_move rfl) (by decide) trivial ?_
  obtain ⟨q1, hq1, hF⟩ := bind_some hF
  refine wpF_cutAt 4 (fun a3 w2 => Fr a3 15 [(14, (.bool q1))] ∧ Keeps w w2) ?_ ?_
  all_goals simp only [List.take_succ_cons, List.take_zero, List.drop_succ_cons, List.drop_zero]
  · have kp : Keeps w w := Keeps.refl _
    rcases Bool.eq_false_or_eq_true (decide (p1 ≤ p0)) with t4 | t4
    · rw [if_pos t4] at hq1
      refine st_val (ex_move rfl) (by decide) ⟨_, rfl, (congrArg (fun b => some (Value.bool b)) t4)⟩ ?_
      refine st_val (ex_move rfl) (by decide) ⟨_, rfl, (congrArg (fun b => some (Value.bool b)) t4)⟩ ?_
      refine st_val (ex_leq rfl rfl) (by decide) ⟨_, rfl, (congrArg (fun b => some (Value.bool b)) t4)⟩ ?_
      refine st_val (ex_pick_t (congrArg (fun b => some (Value.bool b)) t4) rfl) (by decide) trivial ?_
      have hq12 := Option.some.inj hq1
      refine wpF_end (r := [(14, (.bool (decide (p0 ≤ p2))))]) ⟨rfl, trivial⟩ ?_
      subst hq12
      refine np_norm (fun a ha => ⟨ha, kp⟩)
    · rw [if_neg (by rw [t4]; decide)] at hq1
      refine st_no rfl rfl (by rw [t4]; rfl) (by decide) ?_
      refine st_no rfl rfl (by rw [t4]; rfl) (by decide) ?_
      refine st_no rfl rfl (by rw [t4]; rfl) (by decide) ?_
      refine st_val (ex_pick_f (congrArg (fun b => some (Value.bool b)) t4) rfl) (by decide) trivial ?_
      have hq12 := Option.some.inj hq1
      refine wpF_end (r := [(14, (.bool false))]) ⟨rfl, trivial⟩ ?_
      subst hq12
      refine np_norm (fun a ha => ⟨ha, kp⟩)
  rintro a7 w2 ⟨ha, k5⟩
  have s6 := k5.stp 999 (col (fun _ => 1))
  replace hB := hB.stp s6 (by decide)
  refine wl_of ha ?_
  refine st_val (ex_assign rfl) (by decide) trivial ?_
  refine wpF_end (r := [(6, (.bool q1))]) ⟨rfl, trivial⟩ ?_
  refine nx ?_
  refine wpC_ret ?_
  have e8 := Option.some.inj hF
  subst e8
  refine ret_post (P := Try.prog) (vs := [(.bool q1)]) Try.results55 ⟨rfl, trivial⟩ ?_
  exact ⟨rfl, hB.keeps⟩

def fI_numbersTo_s1 : Int → (List Int) → Option (Lp (List Int) (List Int) (List Int)) := fun (i11 : Int) (s : List Int) =>
  (ix s i11) >>= fun x23 =>
  (st s i11 i11) >>= fun x32 =>
  some (.go x32)
def fI_numbersTo (p0 : Int) : Option (List Int) :=
  (mk (Rz.z : Int) p0) >>= fun x1 =>
  ck (x1.length : Int) >>= fun _ =>
  (forN (fI_numbersTo_s1) ((x1.length : Int)).toNat 0 x1) >>= fun q12 =>
  match q12 with
  | .inl y7 =>
    some y7
  | .inr _ => none

def fI_labelsIn_s1 (p0 : Int) : ((List Int) × Int) → Option (Lp ((List Int) × Int) ((List Int) × Int) (List Int)) := fun (s : (List Int) × Int) =>
  (shr p0 s.2) >>= fun x18 =>
  if x18 != 0 then
    (shr p0 s.2) >>= fun x20 =>
    if (band x20 1) == 1 then
      (push s.1 s.2) >>= fun x28 =>
      (ck (s.2 + 1)) >>= fun x34 =>
      some (.go (x28, x34))
    else
      (ck (s.2 + 1)) >>= fun x36 =>
      some (.go (s.1, x36))
  else
    some (.out (s.1, s.2))
def fI_labelsIn (fuel : Nat) (p0 : Int) : Option (List Int) :=
  (loopF (fI_labelsIn_s1 p0) fuel ([], 0)) >>= fun q8 =>
  match q8 with
  | .inl (y2, y5) =>
    some y2
  | .inr _ => none

def pI_labelsIn (oo : Tg) (t : Nat) (w : World) (r : List Int) : Ending → World → Prop := fun e w' => ∃ (v0 : Value) (o' : Tg), e = .returned (v0) ∧ Ow w.heap.size 3 t o' w' v0 r ∧ Keeps w w' ∧ ∀ b, b < w.heap.size → o' b = oo b
set_option maxRecDepth 100000 in
set_option maxHeartbeats 2000000 in
theorem cI_labelsIn (fuel : Nat) (w : World) (oo : Tg) (t : Nat) (ht : 2 ≤ t) (p0 : Int) (r : List Int) (hF : fI_labelsIn fuel p0 = some r) :
    Calls Try.prog 38 #[.int .i64 p0] w (pI_labelsIn oo t w r) := by
  unfold fI_labelsIn at hF
  have hB : Bs oo (col oo) w w := Bs.start _ _
  refine calls_start (n := 21) (vs := [(.int .i64 p0)]) Try.func38 rfl rfl ?_
  generalize col oo = o at *
  refine wpC_seq ?_
  refine wpC_region ?_
  refine st_val (ex_assign rfl) (by decide) trivial ?_
  refine wpF_end (r := [(0, (.int .i64 p0))]) ⟨rfl, trivial⟩ ?_
  refine nx ?_
  refine wpC_seq ?_
  refine wpC_region ?_
  refine st_val (ex_assign rfl) (by decide) trivial ?_
  refine wpF_end (r := [(0, (.int .i64 p0)), (3, (.slice none 0 0))]) ⟨rfl, rfl, trivial⟩ ?_
  refine nx ?_
  refine wpC_seq ?_
  refine wpC_seq ?_
  refine wpC_region ?_
  refine st_val (ex_assign rfl) (by decide) trivial ?_
  refine wpF_end (r := [(0, (.int .i64 p0)), (3, (.slice none 0 0)), (4, (.int .i64 0))]) ⟨rfl, rfl, rfl, trivial⟩ ?_
  refine nx ?_
  have h1 : Ow w.heap.size 3 11 o w (.slice none 0 0) ([] : List Int) := Ow.nil _ _ _ _ _
  obtain ⟨q8, hq8, hF⟩ := bind_some hF
  refine wpC_cutN (fun a w7 => ∃ (y2 : List Int) (y5 : Int) (v3 : Value) (o6 : Tg), q8 = .inl (y2, y5) ∧ Fr a 21 [(3, v3)] ∧ Bs oo o6 w w7 ∧ Ow w.heap.size 3 11 o6 w7 v3 y2) (fun _ _ => False) ?_ ?_ ?_
  · refine wpC_block ?_
    refine wpC_loop (fun (K : Nat) a w7 => ∃ (y2 : List Int) (y5 : Int) (v3 : Value) (o6 : Tg), loopF (fI_labelsIn_s1 p0) K (y2, y5) = some q8 ∧ Fr a 21 [(0, (.int .i64 p0)), (3, v3), (4, (.int .i64 y5))] ∧ Bs oo o6 w w7 ∧ Ow w.heap.size 3 11 o6 w7 v3 y2) fuel (fun a ha => ⟨[], 0, (.slice none 0 0), o, hq8, ha.sub (r := [(0, (.int .i64 p0)), (3, (.slice none 0 0)), (4, (.int .i64 0))]) ⟨rfl, rfl, rfl, trivial⟩, hB, h1⟩) ?_
    rintro K12 a w7 ⟨y2, y5, v3, o6, l9, ha, hB, h4⟩
    obtain ⟨K16, q13, e17, b14, n15⟩ := loopF_cons l9
    dsimp only [fI_labelsIn_s1] at b14
    refine wp_of ha ?_
    refine wpC_seq ?_
    refine wpC_seq ?_
    refine wpC_region ?_
    refine st_val (ex_move rfl) (by decide) trivial ?_
    refine st_val (ex_move rfl) (by decide) trivial ?_
    obtain ⟨x18, hx18, b14⟩ := bind_some b14
    refine st_val (ex_shr rfl rfl hx18) (by decide) trivial ?_
    refine st_val (ex_neq rfl rfl) (by decide) trivial ?_
    refine wpF_end (r := [(0, (.int .i64 p0)), (3, v3), (4, (.int .i64 y5)), (8, (.bool (x18 != 0)))]) ⟨rfl, rfl, rfl, rfl, trivial⟩ ?_
    refine nx ?_
    refine wpC_cond rfl (fun t19 => ?_) (fun t19 => ?_)
    · rw [if_pos t19] at b14
      refine wpC_skip ?_
      refine nx ?_
      refine wpC_seq ?_
      refine wpC_block ?_
      refine wpC_seq ?_
      refine wpC_region ?_
      refine st_val (ex_move rfl) (by decide) trivial ?_
      refine st_val (ex_move rfl) (by decide) trivial ?_
      obtain ⟨x20, hx20, b14⟩ := bind_some b14
      refine st_val (ex_shr rfl rfl hx20) (by decide) trivial ?_
      refine st_val (ex_and rfl rfl) (by decide) trivial ?_
      refine st_val (ex_eql rfl rfl) (by decide) trivial ?_
      refine wpF_end (r := [(0, (.int .i64 p0)), (3, v3), (4, (.int .i64 y5)), (15, (.bool ((band x20 1) == 1)))]) ⟨rfl, rfl, rfl, rfl, trivial⟩ ?_
      refine nx ?_
      refine wpC_cond rfl (fun t21 => ?_) (fun t21 => ?_)
      · rw [if_pos t21] at b14
        refine wpC_region ?_
        refine st_val (ex_move rfl) (by decide) trivial ?_
        refine st_val (ex_move rfl) (by decide) trivial ?_
        refine st_op (by decide) trivial ?_
        refine wf_litR (o := o6) (cs := [(.int .i64 y5)]) (xs := ([y5] : List Int)) (vs := [(0, (.int .i64 y5))]) ⟨_, _, rfl, rfl, rfl⟩ rfl ⟨rfl, rfl, trivial⟩ Try.underlying25 Try.sizeOf3 Try.zeroValue3 (by decide) (fill1 rfl) (by simp) ?_
        intro o22 w23 v24 h25 s26 k27
        replace h4 := h4.stp s26 (by decide) (by decide)
        replace hB := hB.stp s26 (by decide)
        obtain ⟨x28, hx28, b14⟩ := bind_some b14
        refine st_op (by decide) trivial ?_
        refine wf_cat h4 h25 (push_cat hx28) (by decide) hB.keeps.size rfl rfl Try.underlying25 info2_t_int_A rfl (by decide) ?_
        intro o29 w30 v31 h32 s33
        replace h25 := h25.stp s33 (by decide)
        replace hB := hB.stp s33 (by decide)
        refine st_val (ex_assign rfl) (by decide) trivial ?_
        refine wpF_end (r := [(0, (.int .i64 p0)), (3, v31), (4, (.int .i64 y5))]) ⟨rfl, rfl, rfl, trivial⟩ ?_
        refine nb_norm ?_
        refine nx ?_
        refine wpC_region ?_
        refine st_val (ex_move rfl) (by decide) trivial ?_
        obtain ⟨x34, hx34, b14⟩ := bind_some b14
        refine st_val (ex_add rfl rfl hx34) (by decide) trivial ?_
        refine st_val (ex_assign rfl) (by decide) trivial ?_
        refine wpF_end (r := [(0, (.int .i64 p0)), (3, v31), (4, (.int .i64 x34))]) ⟨rfl, rfl, rfl, trivial⟩ ?_
        refine nt_norm ?_
        have e35 := Option.some.inj b14
        subst e35
        refine to_k (r := [(0, (.int .i64 p0)), (3, v31), (4, (.int .i64 x34))]) ⟨rfl, rfl, rfl, trivial⟩ ?_
        intro a ha
        exact ⟨K16, by omega, x28, x34, v31, o29, n15, ha, hB, h32⟩
      · rw [if_neg (by rw [t21]; decide)] at b14
        refine wpC_skip ?_
        refine nb_norm ?_
        refine nx ?_
        refine wpC_region ?_
        refine st_val (ex_move rfl) (by decide) trivial ?_
        obtain ⟨x36, hx36, b14⟩ := bind_some b14
        refine st_val (ex_add rfl rfl hx36) (by decide) trivial ?_
        refine st_val (ex_assign rfl) (by decide) trivial ?_
        refine wpF_end (r := [(0, (.int .i64 p0)), (3, v3), (4, (.int .i64 x36))]) ⟨rfl, rfl, rfl, trivial⟩ ?_
        refine nt_norm ?_
        have e37 := Option.some.inj b14
        subst e37
        refine to_k (r := [(0, (.int .i64 p0)), (3, v3), (4, (.int .i64 x36))]) ⟨rfl, rfl, rfl, trivial⟩ ?_
        intro a ha
        exact ⟨K16, by omega, y2, x36, v3, o6, n15, ha, hB, h4⟩
    · rw [if_neg (by rw [t19]; decide)] at b14
      refine wpC_exit ?_
      refine nt_exit ?_
      refine nt_exit ?_
      refine nb_hit ?_
      refine np_norm ?_
      have e38 := Option.some.inj b14
      subst e38
      refine to_k (r := [(3, v3)]) ⟨rfl, trivial⟩ ?_
      intro a ha
      exact ⟨y2, y5, v3, o6, n15, ha, hB, h4⟩
  · rintro a w7 ⟨y2, y5, v3, o6, rfl, ha, hB, h4⟩
    dsimp only at hF
    refine ap_k ha ?_
    refine nx ?_
    refine wpC_seq ?_
    refine wpC_region ?_
    refine st_val (ex_move rfl) (by decide) trivial ?_
    refine st_val (ex_assign rfl) (by decide) trivial ?_
    refine wpF_end (r := [(2, v3)]) ⟨rfl, trivial⟩ ?_
    refine nx ?_
    refine wpC_ret ?_
    have e39 := Option.some.inj hF
    subst e39
    refine ret_post (P := Try.prog) (vs := [v3]) Try.results38 ⟨rfl, trivial⟩ ?_
    exact ⟨_, rt oo o6 w.heap.size 11 t, rfl, h4.rt hB (by decide) t, hB.keeps, rt_old _ _ _ _ _⟩
  · exact fun _ _ h => h.elim

def fI_increasing_s1 (p0 : List Int) (p1 : Int) (p2 : Int) : Int → Int → Unit → Option (Lp Unit Unit Bool) := fun (i3 : Int) (x13 : Int) (s : Unit) =>
  (fI_within x13 p1 p2) >>= fun x19 =>
  (
    if !x19 then
      some true
    else
      if decide (i3 > 0) then
        (ck (i3 - 1)) >>= fun x30 =>
        (ix p0 x30) >>= fun x31 =>
        some (decide (x31 ≥ x13))
      else
        some false) >>= fun q25 =>
  if q25 then
    some (.ret false)
  else
    some (.go ())
def fI_increasing (p0 : List Int) (p1 : Int) (p2 : Int) : Option Bool :=
  (forI (fI_increasing_s1 p0 p1 p2) p0 0 ()) >>= fun q4 =>
  match q4 with
  | .inl _ =>
    some true
  | .inr r' => some r'

def fX_cmp_isNaN_int (p0 : Int) : Option Bool :=
  some (p0 != p0)

def pX_cmp_isNaN_int (w : World) (r : Bool) : Ending → World → Prop := fun e w' => e = .returned (.bool r) ∧ Keeps w w'
set_option maxRecDepth 100000 in
set_option maxHeartbeats 2000000 in
theorem cX_cmp_isNaN_int (w : World) (p0 : Int) (r : Bool) (hF : fX_cmp_isNaN_int p0 = some r) :
    Calls Try.prog 80 #[.int .i64 p0] w (pX_cmp_isNaN_int w r) := by
  unfold fX_cmp_isNaN_int at hF
  have hB : Bs (fun _ => 1) (col (fun _ => 1)) w w := Bs.start _ _
  refine calls_start (n := 6) (vs := [(.int .i64 p0)]) Try.func80 rfl rfl ?_
  refine wpC_seq ?_
  refine wpC_region ?_
  refine st_val (ex_assign rfl) (by decide) trivial ?_
  refine wpF_end (r := [(0, (.int .i64 p0))]) ⟨rfl, trivial⟩ ?_
  refine nx ?_
  refine wpC_seq ?_
  refine wpC_region ?_
  refine st_val (ex_move rfl) (by decide) trivial ?_
  refine st_val (ex_move rfl) (by decide) trivial ?_
  refine st_val (ex_neq rfl rfl) (by decide) trivial ?_
  refine st_val (ex_assign rfl) (by decide) trivial ?_
  refine wpF_end (r := [(2, (.bool (p0 != p0)))]) ⟨rfl, trivial⟩ ?_
  refine nx ?_
  refine wpC_ret ?_
  have e1 := Option.some.inj hF
  subst e1
  refine ret_post (P := Try.prog) (vs := [(.bool (p0 != p0))]) Try.results80 ⟨rfl, trivial⟩ ?_
  exact ⟨rfl, hB.keeps⟩

def fX_cmp_Compare_int (p0 : Int) (p1 : Int) : Option Int :=
  (fX_cmp_isNaN_int p0) >>= fun x1 =>
  (fX_cmp_isNaN_int p1) >>= fun x7 =>
  if x1 then
    if x7 then
      some 0
    else
      some (-1)
  else
    if x7 then
      some 1
    else
      if decide (p0 < p1) then
        some (-1)
      else
        if decide (p0 > p1) then
          some 1
        else
          some 0

def pX_cmp_Compare_int (w : World) (r : Int) : Ending → World → Prop := fun e w' => e = .returned (.int .i64 r) ∧ Keeps w w'
set_option maxRecDepth 100000 in
set_option maxHeartbeats 2000000 in
theorem cX_cmp_Compare_int (w : World) (p0 : Int) (p1 : Int) (r : Int) (hF : fX_cmp_Compare_int p0 p1 = some r) :
    Calls Try.prog 71 #[.int .i64 p0, .int .i64 p1] w (pX_cmp_Compare_int w r) := by
  unfold fX_cmp_Compare_int at hF
  have hB : Bs (fun _ => 1) (col (fun _ => 1)) w w := Bs.start _ _
  refine calls_start (n := 20) (vs := [(.int .i64 p0), (.int .i64 p1)]) Try.func71 rfl rfl ?_
  refine wpC_seq ?_
  refine wpC_region ?_
  refine st_val (ex_assign rfl) (by decide) trivial ?_
  refine wpF_end (r := [(0, (.int .i64 p0)), (1, (.int .i64 p1))]) ⟨rfl, rfl, trivial⟩ ?_
  refine nx ?_
  refine wpC_seq ?_
  refine wpC_region ?_
  refine st_val (ex_move rfl) (by decide) trivial ?_
  obtain ⟨x1, hx1, hF⟩ := bind_some hF
  refine st_op (by decide) trivial ?_
  refine wf_call (cX_cmp_isNaN_int w p0 x1 hx1) Try.call80 ⟨rfl, trivial⟩ ?_
  rintro e6 w2 ⟨rfl, k3⟩
  have s5 := k3.stp 999 (col (fun _ => 1))
  refine ⟨_, rfl, ?_⟩
  replace hB := hB.stp s5 (by decide)
  refine st_val (ex_assign rfl) (by decide) trivial ?_
  refine wpF_end (r := [(0, (.int .i64 p0)), (1, (.int .i64 p1)), (5, (.bool x1))]) ⟨rfl, rfl, rfl, trivial⟩ ?_
  refine nx ?_
  refine wpC_seq ?_
  refine wpC_region ?_
  refine st_val (ex_move rfl) (by decide) trivial ?_
  obtain ⟨x7, hx7, hF⟩ := bind_some hF
  refine st_op (by decide) trivial ?_
  refine wf_call (cX_cmp_isNaN_int w2 p1 x7 hx7) Try.call80 ⟨rfl, trivial⟩ ?_
  rintro e12 w8 ⟨rfl, k9⟩
  have s11 := k9.stp 999 (col (fun _ => 1))
  refine ⟨_, rfl, ?_⟩
  replace hB := hB.stp s11 (by decide)
  refine st_val (ex_assign rfl) (by decide) trivial ?_
  refine wpF_end (r := [(0, (.int .i64 p0)), (1, (.int .i64 p1)), (5, (.bool x1)), (6, (.bool x7))]) ⟨rfl, rfl, rfl, rfl, trivial⟩ ?_
  refine nx ?_
  refine wpC_seq ?_
  refine wpC_seq ?_
  refine wpC_region ?_
  refine st_val (ex_move rfl) (by decide) trivial ?_
  refine wpF_end (r := [(0, (.int .i64 p0)), (1, (.int .i64 p1)), (6, (.bool x7)), (11, (.bool x1))]) ⟨rfl, rfl, rfl, rfl, trivial⟩ ?_
  refine nx ?_
  refine wpC_cond rfl (fun t13 => ?_) (fun t13 => ?_)
  · rw [if_pos t13] at hF
    refine wpC_seq ?_
    refine wpC_seq ?_
    refine wpC_region ?_
    refine st_val (ex_move rfl) (by decide) trivial ?_
    refine wpF_end (r := [(12, (.bool x7))]) ⟨rfl, trivial⟩ ?_
    refine nx ?_
    refine wpC_cond rfl (fun t14 => ?_) (fun t14 => ?_)
    · rw [if_pos t14] at hF
      refine wpC_seq ?_
      refine wpC_region ?_
      refine st_val (ex_assign rfl) (by decide) trivial ?_
      refine wpF_end (r := [(4, (.int .i64 0))]) ⟨rfl, trivial⟩ ?_
      refine nx ?_
      refine wpC_ret ?_
      refine nt_ret ?_
      refine nt_ret ?_
      have e15 := Option.some.inj hF
      subst e15
      refine ret_post (P := Try.prog) (vs := [(.int .i64 0)]) Try.results71 ⟨rfl, trivial⟩ ?_
      exact ⟨rfl, hB.keeps⟩
    · rw [if_neg (by rw [t14]; decide)] at hF
      refine wpC_skip ?_
      refine nx ?_
      refine wpC_seq ?_
      refine wpC_region ?_
      refine st_val (ex_assign rfl) (by decide) trivial ?_
      refine wpF_end (r := [(4, (.int .i64 (-1)))]) ⟨rfl, trivial⟩ ?_
      refine nx ?_
      refine wpC_ret ?_
      refine nt_ret ?_
      have e16 := Option.some.inj hF
      subst e16
      refine ret_post (P := Try.prog) (vs := [(.int .i64 (-1))]) Try.results71 ⟨rfl, trivial⟩ ?_
      exact ⟨rfl, hB.keeps⟩
  · rw [if_neg (by rw [t13]; decide)] at hF
    refine wpC_skip ?_
    refine nx ?_
    refine wpC_seq ?_
    refine wpC_seq ?_
    refine wpC_region ?_
    refine st_val (ex_move rfl) (by decide) trivial ?_
    refine wpF_end (r := [(0, (.int .i64 p0)), (1, (.int .i64 p1)), (13, (.bool x7))]) ⟨rfl, rfl, rfl, trivial⟩ ?_
    refine nx ?_
    refine wpC_cond rfl (fun t17 => ?_) (fun t17 => ?_)
    · rw [if_pos t17] at hF
      refine wpC_seq ?_
      refine wpC_region ?_
      refine st_val (ex_assign rfl) (by decide) trivial ?_
      refine wpF_end (r := [(4, (.int .i64 1))]) ⟨rfl, trivial⟩ ?_
      refine nx ?_
      refine wpC_ret ?_
      refine nt_ret ?_
      have e18 := Option.some.inj hF
      subst e18
      refine ret_post (P := Try.prog) (vs := [(.int .i64 1)]) Try.results71 ⟨rfl, trivial⟩ ?_
      exact ⟨rfl, hB.keeps⟩
    · rw [if_neg (by rw [t17]; decide)] at hF
      refine wpC_skip ?_
      refine nx ?_
      refine wpC_seq ?_
      refine wpC_seq ?_
      refine wpC_region ?_
      refine st_val (ex_move rfl) (by decide) trivial ?_
      refine st_val (ex_move rfl) (by decide) trivial ?_
      refine st_val (ex_lss rfl rfl) (by decide) trivial ?_
      refine wpF_end (r := [(0, (.int .i64 p0)), (1, (.int .i64 p1)), (16, (.bool (decide (p0 < p1))))]) ⟨rfl, rfl, rfl, trivial⟩ ?_
      refine nx ?_
      refine wpC_cond rfl (fun t19 => ?_) (fun t19 => ?_)
      · rw [if_pos t19] at hF
        refine wpC_seq ?_
        refine wpC_region ?_
        refine st_val (ex_assign rfl) (by decide) trivial ?_
        refine wpF_end (r := [(4, (.int .i64 (-1)))]) ⟨rfl, trivial⟩ ?_
        refine nx ?_
        refine wpC_ret ?_
        refine nt_ret ?_
        have e20 := Option.some.inj hF
        subst e20
        refine ret_post (P := Try.prog) (vs := [(.int .i64 (-1))]) Try.results71 ⟨rfl, trivial⟩ ?_
        exact ⟨rfl, hB.keeps⟩
      · rw [if_neg (by rw [t19]; decide)] at hF
        refine wpC_skip ?_
        refine nx ?_
        refine wpC_seq ?_
        refine wpC_seq ?_
        refine wpC_region ?_
        refine st_val (ex_move rfl) (by decide) trivial ?_
        refine st_val (ex_move rfl) (by decide) trivial ?_
        refine st_val (ex_gtr rfl rfl) (by decide) trivial ?_
        refine wpF_end (r := [(19, (.bool (decide (p0 > p1))))]) ⟨rfl, trivial⟩ ?_
        refine nx ?_
        refine wpC_cond rfl (fun t21 => ?_) (fun t21 => ?_)
        · rw [if_pos t21] at hF
          refine wpC_seq ?_
          refine wpC_region ?_
          refine st_val (ex_assign rfl) (by decide) trivial ?_
          refine wpF_end (r := [(4, (.int .i64 1))]) ⟨rfl, trivial⟩ ?_
          refine nx ?_
          refine wpC_ret ?_
          refine nt_ret ?_
          have e22 := Option.some.inj hF
          subst e22
          refine ret_post (P := Try.prog) (vs := [(.int .i64 1)]) Try.results71 ⟨rfl, trivial⟩ ?_
          exact ⟨rfl, hB.keeps⟩
        · rw [if_neg (by rw [t21]; decide)] at hF
          refine wpC_skip ?_
          refine nx ?_
          refine wpC_seq ?_
          refine wpC_region ?_
          refine st_val (ex_assign rfl) (by decide) trivial ?_
          refine wpF_end (r := [(4, (.int .i64 0))]) ⟨rfl, trivial⟩ ?_
          refine nx ?_
          refine wpC_ret ?_
          have e23 := Option.some.inj hF
          subst e23
          refine ret_post (P := Try.prog) (vs := [(.int .i64 0)]) Try.results71 ⟨rfl, trivial⟩ ?_
          exact ⟨rfl, hB.keeps⟩

def fX_cmp_Less_int (p0 : Int) (p1 : Int) : Option Bool :=
  (fX_cmp_isNaN_int p0) >>= fun x1 =>
  (
    if x1 then
      (fX_cmp_isNaN_int p1) >>= fun x11 =>
      if !x11 then
        some true
      else
        some (decide (p0 < p1))
    else
      some (decide (p0 < p1))) >>= fun q7 =>
  some q7

def pX_cmp_Less_int (w : World) (r : Bool) : Ending → World → Prop := fun e w' => e = .returned (.bool r) ∧ Keeps w w'
set_option maxRecDepth 100000 in
set_option maxHeartbeats 2000000 in
theorem cX_cmp_Less_int (w : World) (p0 : Int) (p1 : Int) (r : Bool) (hF : fX_cmp_Less_int p0 p1 = some r) :
    Calls Try.prog 75 #[.int .i64 p0, .int .i64 p1] w (pX_cmp_Less_int w r) := by
  unfold fX_cmp_Less_int at hF
  have hB : Bs (fun _ => 1) (col (fun _ => 1)) w w := Bs.start _ _
  refine calls_start (n := 17) (vs := [(.int .i64 p0), (.int .i64 p1)]) Try.func75 rfl rfl ?_
  refine wpC_seq ?_
  refine wpC_region ?_
  refine st_val (ex_assign rfl) (by decide) trivial ?_
  refine wpF_end (r := [(0, (.int .i64 p0)), (1, (.int .i64 p1))]) ⟨rfl, rfl, trivial⟩ ?_
  refine nx ?_
  refine wpC_seq ?_
  refine wpC_region ?_
  refine st_val (ex_move rfl) (by decide) trivial ?_
  obtain ⟨x1, hx1, hF⟩ := bind_some hF
  refine st_op (by decide) trivial ?_
  refine wf_call (cX_cmp_isNaN_int w p0 x1 hx1) Try.call80 ⟨rfl, trivial⟩ ?_
  rintro e6 w2 ⟨rfl, k3⟩
  have s5 := k3.stp 999 (col (fun _ => 1))
  refine ⟨_, rfl, ?_⟩
  replace hB := hB.stp s5 (by decide)
  refine st_val (ex_move rfl) (by decide) trivial ?_
  obtain ⟨q7, hq7, hF⟩ := bind_some hF
  refine wpF_cutAt 9 (fun a9 w8 => Fr a9 17 [(16, (.bool q7))] ∧ Keeps w2 w8) ?_ ?_
  all_goals simp only [List.take_succ_cons, List.take_zero, List.drop_succ_cons, List.drop_zero]
  · have kp : Keeps w2 w2 := Keeps.refl _
    rcases Bool.eq_false_or_eq_true (x1) with t10 | t10
    · rw [if_pos t10] at hq7
      refine st_val (ex_move rfl) (by decide) ⟨_, rfl, (congrArg (fun b => some (Value.bool b)) t10)⟩ ?_
      obtain ⟨x11, hx11, hq7⟩ := bind_some hq7
      refine st_op (by decide) ⟨_, rfl, (congrArg (fun b => some (Value.bool b)) t10)⟩ ?_
      refine wf_call (cX_cmp_isNaN_int w2 p1 x11 hx11) Try.call80 ⟨rfl, trivial⟩ ?_
      rintro e16 w12 ⟨rfl, k13⟩
      have s15 := k13.stp 999 (col (fun _ => 1))
      refine ⟨_, rfl, ?_⟩
      replace hB := hB.stp s15 (by decide)
      replace kp := Keeps.trans kp k13
      refine st_val (ex_not rfl) (by decide) ⟨_, rfl, (congrArg (fun b => some (Value.bool b)) t10)⟩ ?_
      refine st_val (ex_pick_t (congrArg (fun b => some (Value.bool b)) t10) rfl) (by decide) trivial ?_
      refine st_val (ex_move rfl) (by decide) trivial ?_
      rcases Bool.eq_false_or_eq_true (!x11) with t17 | t17
      · rw [if_pos t17] at hq7
        refine st_no rfl rfl (by rw [t17]; rfl) (by decide) ?_
        refine st_no rfl rfl (by rw [t17]; rfl) (by decide) ?_
        refine st_no rfl rfl (by rw [t17]; rfl) (by decide) ?_
        refine st_val (ex_pick_t (congrArg (fun b => some (Value.bool b)) t17) rfl) (by decide) trivial ?_
        have hq72 := Option.some.inj hq7
        refine wpF_end (r := [(16, (.bool true))]) ⟨rfl, trivial⟩ ?_
        subst hq72
        refine np_norm (fun a ha => ⟨ha, kp⟩)
      · rw [if_neg (by rw [t17]; decide)] at hq7
        refine st_val (ex_move rfl) (by decide) ⟨_, rfl, (congrArg (fun b => some (Value.bool b)) t17)⟩ ?_
        refine st_val (ex_move rfl) (by decide) ⟨_, rfl, (congrArg (fun b => some (Value.bool b)) t17)⟩ ?_
        refine st_val (ex_lss rfl rfl) (by decide) ⟨_, rfl, (congrArg (fun b => some (Value.bool b)) t17)⟩ ?_
        refine st_val (ex_pick_f (congrArg (fun b => some (Value.bool b)) t17) rfl) (by decide) trivial ?_
        have hq72 := Option.some.inj hq7
        refine wpF_end (r := [(16, (.bool (decide (p0 < p1))))]) ⟨rfl, trivial⟩ ?_
        subst hq72
        refine np_norm (fun a ha => ⟨ha, kp⟩)
    · rw [if_neg (by rw [t10]; decide)] at hq7
      refine st_no rfl rfl (by rw [t10]; rfl) (by decide) ?_
      refine st_no rfl rfl (by rw [t10]; rfl) (by decide) ?_
      refine st_no rfl rfl (by rw [t10]; rfl) (by decide) ?_
      refine st_val (ex_pick_f (congrArg (fun b => some (Value.bool b)) t10) rfl) (by decide) trivial ?_
      refine st_val (ex_move rfl) (by decide) trivial ?_
      refine st_val (ex_move rfl) (by decide) ⟨_, rfl, rfl⟩ ?_
      refine st_val (ex_move rfl) (by decide) ⟨_, rfl, rfl⟩ ?_
      refine st_val (ex_lss rfl rfl) (by decide) ⟨_, rfl, rfl⟩ ?_
      refine st_val (ex_pick_f rfl rfl) (by decide) trivial ?_
      have hq72 := Option.some.inj hq7
      refine wpF_end (r := [(16, (.bool (decide (p0 < p1))))]) ⟨rfl, trivial⟩ ?_
      subst hq72
      refine np_norm (fun a ha => ⟨ha, kp⟩)
  rintro a20 w8 ⟨ha, k18⟩
  have s19 := k18.stp 999 (col (fun _ => 1))
  replace hB := hB.stp s19 (by decide)
  refine wl_of ha ?_
  refine st_val (ex_assign rfl) (by decide) trivial ?_
  refine wpF_end (r := [(4, (.bool q7))]) ⟨rfl, trivial⟩ ?_
  refine nx ?_
  refine wpC_ret ?_
  have e21 := Option.some.inj hF
  subst e21
  refine ret_post (P := Try.prog) (vs := [(.bool q7)]) Try.results75 ⟨rfl, trivial⟩ ?_
  exact ⟨rfl, hB.keeps⟩

def fX_slices_IndexFunc_int_int_s1 (p0 : List Int) (p1 : Int → Option Bool) : Int → Unit → Option (Lp Unit Unit Int) := fun (i3 : Int) (s : Unit) =>
  (ix p0 i3) >>= fun x15 =>
  (p1 x15) >>= fun x21 =>
  if x21 then
    some (.ret i3)
  else
    some (.go ())
def fX_slices_IndexFunc_int_int (p0 : List Int) (p1 : Int → Option Bool) : Option Int :=
  ck (p0.length : Int) >>= fun _ =>
  (forN (fX_slices_IndexFunc_int_int_s1 p0 p1) ((p0.length : Int)).toNat 0 ()) >>= fun q4 =>
  match q4 with
  | .inl _ =>
    some (-1)
  | .inr r' => some r'

def pX_slices_IndexFunc_int_int (w : World) (r : Int) : Ending → World → Prop := fun e w' => e = .returned (.int .i64 r) ∧ Keeps w w'
set_option maxRecDepth 100000 in
set_option maxHeartbeats 2000000 in
theorem cX_slices_IndexFunc_int_int (w : World) (u0 : Value) (p0 : List Int) (g0 : RdL zt w u0 p0) (u1 : Value) (p1 : Int → Option Bool) (g1 : FnV Try.prog w u1 p1) (r : Int) (hF : fX_slices_IndexFunc_int_int p0 p1 = some r) :
    Calls Try.prog 72 #[u0, u1] w (pX_slices_IndexFunc_int_int w r) := by
  unfold fX_slices_IndexFunc_int_int at hF
  have hB : Bs (fun _ => 1) (col (fun _ => 1)) w w := Bs.start _ _
  refine calls_start (n := 19) (vs := [u0, u1]) Try.func72 rfl rfl ?_
  refine wpC_seq ?_
  refine wpC_region ?_
  refine st_val (ex_assign rfl) (by decide) trivial ?_
  refine wpF_end (r := [(0, u0), (1, u1)]) ⟨rfl, rfl, trivial⟩ ?_
  refine nx ?_
  refine wpC_seq ?_
  refine wpC_seq ?_
  refine wpC_region ?_
  refine st_val (ex_move rfl) (by decide) trivial ?_
  refine st_val (ex_lenR rfl g0 Try.underlying25) (by decide) trivial ?_
  refine st_val (ex_move rfl) (by decide) trivial ?_
  refine wpF_end (r := [(0, u0), (1, u1), (7, (.int .i64 (p0.length : Int))), (8, (.int .i64 0))]) ⟨rfl, rfl, rfl, rfl, trivial⟩ ?_
  refine nx ?_
  obtain ⟨u6, h5, hF⟩ := bind_some hF
  obtain ⟨-, h5a, h5b⟩ := ck_some h5
  obtain ⟨q4, hq4, hF⟩ := bind_some hF
  refine wpC_cutN (fun a w2 => ∃ (o1 : Tg), q4 = .inl () ∧ Fr a 19 [] ∧ Bs (fun _ => 1) o1 w w2) (fun a w' => ∃ r', q4 = .inr r' ∧ bodyPost Try.prog Try.f72 (pX_slices_IndexFunc_int_int w r') .ret a w') ?_ ?_ ?_
  · refine wpC_block ?_
    refine wpC_loop (fun (K : Nat) a w2 => ∃ (i3 : Int) (o1 : Tg), forN (fX_slices_IndexFunc_int_int_s1 p0 p1) ((p0.length : Int) - i3).toNat i3 () = some q4 ∧ ((p0.length : Int) - i3).toNat = K ∧ 0 ≤ i3 ∧ Fr a 19 [(0, u0), (1, u1), (7, (.int .i64 (p0.length : Int))), (8, (.int .i64 i3))] ∧ Bs (fun _ => 1) o1 w w2) _ (fun a ha => ⟨0, (col (fun _ => 1)), hq4, rfl, Int.le_refl 0, ha.sub (r := [(0, u0), (1, u1), (7, (.int .i64 (p0.length : Int))), (8, (.int .i64 0))]) ⟨rfl, rfl, rfl, rfl, trivial⟩, hB⟩) ?_
    rintro K10 a w2 ⟨i3, o1, l7, m9, z8, ha, hB⟩
    by_cases t14 : i3 < (p0.length : Int)
    · obtain ⟨q11, b12, n13⟩ := forN_cons t14 l7
      dsimp only [fX_slices_IndexFunc_int_int_s1] at b12
      refine wp_of ha ?_
      refine wpC_seq ?_
      refine wpC_region ?_
      refine st_val (ex_lss rfl rfl) (by decide) trivial ?_
      refine wpF_end (r := [(0, u0), (1, u1), (7, (.int .i64 (p0.length : Int))), (8, (.int .i64 i3)), (9, (.bool (decide (i3 < (p0.length : Int)))))]) ⟨rfl, rfl, rfl, rfl, rfl, trivial⟩ ?_
      refine nx ?_
      refine wpC_seq ?_
      refine wpC_true (congrArg (fun b => some (Value.bool b)) (decide_eq_true t14)) ?_
      refine wpC_skip ?_
      refine nx ?_
      refine wpC_seq ?_
      refine wpC_block ?_
      refine wpC_seq ?_
      refine wpC_region ?_
      refine st_val (ex_move rfl) (by decide) trivial ?_
      refine st_val (ex_assign rfl) (by decide) trivial ?_
      refine wpF_end (r := [(0, u0), (1, u1), (5, (.int .i64 i3)), (7, (.int .i64 (p0.length : Int))), (8, (.int .i64 i3))]) ⟨rfl, rfl, rfl, rfl, rfl, trivial⟩ ?_
      refine nx ?_
      refine wpC_seq ?_
      refine wpC_region ?_
      refine st_val (ex_move rfl) (by decide) trivial ?_
      refine st_val (ex_move rfl) (by decide) trivial ?_
      refine st_val (ex_move rfl) (by decide) trivial ?_
      obtain ⟨x15, hx15, b12⟩ := bind_some b12
      refine st_op (by decide) trivial ?_
      refine wf_atZ g0 hx15 hB rfl rfl Try.underlying25 Try.sizeOf3 ?_
      intro b16 f17 c18 h19 h20
      cases h20
      refine st_val (ex_load1 rfl Try.isAgg3 (cell_of_cells h19)) (by decide) trivial ?_
      obtain ⟨x21, hx21, b12⟩ := bind_some b12
      refine st_op (by decide) trivial ?_
      refine wf_callv (x := x15) (vs := [(.int .i64 x15)]) (g1.keep hB.keeps) hx21 rfl rfl ⟨rfl, trivial⟩ ?_
      intro w22 k23
      have s24 := k23.stp 999 o1
      replace hB := hB.stp s24 (by decide)
      refine wpF_end (r := [(0, u0), (1, u1), (5, (.int .i64 i3)), (7, (.int .i64 (p0.length : Int))), (8, (.int .i64 i3)), (16, (.bool x21))]) ⟨rfl, rfl, rfl, rfl, rfl, rfl, trivial⟩ ?_
      refine nx ?_
      refine wpC_cond rfl (fun t25 => ?_) (fun t25 => ?_)
      · rw [if_pos t25] at b12
        refine wpC_seq ?_
        refine wpC_region ?_
        refine st_val (ex_move rfl) (by decide) trivial ?_
        refine st_val (ex_assign rfl) (by decide) trivial ?_
        refine wpF_end (r := [(4, (.int .i64 i3))]) ⟨rfl, trivial⟩ ?_
        refine nx ?_
        refine wpC_ret ?_
        refine nb_ret ?_
        refine nt_ret ?_
        refine nt_ret ?_
        refine nb_ret ?_
        refine np_ret ?_
        have e26 := Option.some.inj b12
        subst e26
        refine fun a ha => ⟨_, n13, ?_⟩
        refine ret_post (P := Try.prog) (vs := [(.int .i64 i3)]) Try.results72 ⟨rfl, trivial⟩ ?_ a ha
        exact ⟨rfl, hB.keeps⟩
      · rw [if_neg (by rw [t25]; decide)] at b12
        refine wpC_skip ?_
        refine nb_norm ?_
        refine nx ?_
        refine wpC_region ?_
        refine st_val (ex_add rfl rfl (ck_in (by omega) (by omega))) (by decide) trivial ?_
        refine st_val (ex_move rfl) (by decide) trivial ?_
        refine wpF_end (r := [(0, u0), (1, u1), (7, (.int .i64 (p0.length : Int))), (8, (.int .i64 (i3 + 1)))]) ⟨rfl, rfl, rfl, rfl, trivial⟩ ?_
        refine nt_norm ?_
        have e27 := Option.some.inj b12
        subst e27
        refine to_k (r := [(0, u0), (1, u1), (7, (.int .i64 (p0.length : Int))), (8, (.int .i64 (i3 + 1)))]) ⟨rfl, rfl, rfl, rfl, trivial⟩ ?_
        intro a ha
        exact ⟨_, (by rw [← m9]; omega), i3 + 1, o1, n13, rfl, (by omega), ha, hB⟩
    · have r28 := forN_done t14 l7
      refine wp_of ha ?_
      refine wpC_seq ?_
      refine wpC_region ?_
      refine st_val (ex_lss rfl rfl) (by decide) trivial ?_
      refine wpF_end (r := [(0, u0), (1, u1), (7, (.int .i64 (p0.length : Int))), (8, (.int .i64 i3)), (9, (.bool (decide (i3 < (p0.length : Int)))))]) ⟨rfl, rfl, rfl, rfl, rfl, trivial⟩ ?_
      refine nx ?_
      refine wpC_seq ?_
      refine wpC_false (congrArg (fun b => some (Value.bool b)) (decide_eq_false t14)) ?_
      refine wpC_exit ?_
      refine nt_exit ?_
      refine nt_exit ?_
      refine nb_hit ?_
      refine np_norm ?_
      refine to_k (r := []) trivial ?_
      intro a ha
      exact ⟨o1, r28, ha, hB⟩
  · rintro a w2 ⟨o1, rfl, ha, hB⟩
    dsimp only at hF
    refine ap_k ha ?_
    refine nx ?_
    refine wpC_seq ?_
    refine wpC_region ?_
    refine st_val (ex_assign rfl) (by decide) trivial ?_
    refine wpF_end (r := [(4, (.int .i64 (-1)))]) ⟨rfl, trivial⟩ ?_
    refine nx ?_
    refine wpC_ret ?_
    have e29 := Option.some.inj hF
    subst e29
    refine ret_post (P := Try.prog) (vs := [(.int .i64 (-1))]) Try.results72 ⟨rfl, trivial⟩ ?_
    exact ⟨rfl, hB.keeps⟩
  · rintro a w2 ⟨r', rfl, b30⟩
    dsimp only at hF
    have e31 := Option.some.inj hF
    subst e31
    exact b30

def fX_slices_ContainsFunc_int_int (p0 : List Int) (p1 : Int → Option Bool) : Option Bool :=
  (fX_slices_IndexFunc_int_int p0 p1) >>= fun x1 =>
  some (decide (x1 ≥ 0))

def pX_slices_ContainsFunc_int_int (w : World) (r : Bool) : Ending → World → Prop := fun e w' => e = .returned (.bool r) ∧ Keeps w w'
set_option maxRecDepth 100000 in
set_option maxHeartbeats 2000000 in
theorem cX_slices_ContainsFunc_int_int (w : World) (u0 : Value) (p0 : List Int) (g0 : RdL zt w u0 p0) (u1 : Value) (p1 : Int → Option Bool) (g1 : FnV Try.prog w u1 p1) (r : Bool) (hF : fX_slices_ContainsFunc_int_int p0 p1 = some r) :
    Calls Try.prog 53 #[u0, u1] w (pX_slices_ContainsFunc_int_int w r) := by
  unfold fX_slices_ContainsFunc_int_int at hF
  have hB : Bs (fun _ => 1) (col (fun _ => 1)) w w := Bs.start _ _
  refine calls_start (n := 9) (vs := [u0, u1]) Try.func53 rfl rfl ?_
  refine wpC_seq ?_
  refine wpC_region ?_
  refine st_val (ex_assign rfl) (by decide) trivial ?_
  refine wpF_end (r := [(0, u0), (1, u1)]) ⟨rfl, rfl, trivial⟩ ?_
  refine nx ?_
  refine wpC_seq ?_
  refine wpC_region ?_
  refine st_val (ex_move rfl) (by decide) trivial ?_
  refine st_val (ex_move rfl) (by decide) trivial ?_
  obtain ⟨x1, hx1, hF⟩ := bind_some hF
  refine st_op (by decide) trivial ?_
  refine wf_call (cX_slices_IndexFunc_int_int w _ p0 (g0.keep hB.keeps) _ p1 (g1.keep hB.keeps) x1 hx1) Try.call72 ⟨rfl, rfl, trivial⟩ ?_
  rintro e6 w2 ⟨rfl, k3⟩
  have s5 := k3.stp 999 (col (fun _ => 1))
  refine ⟨_, rfl, ?_⟩
  replace hB := hB.stp s5 (by decide)
  refine st_val (ex_geq rfl rfl) (by decide) trivial ?_
  refine st_val (ex_assign rfl) (by decide) trivial ?_
  refine wpF_end (r := [(4, (.bool (decide (x1 ≥ 0))))]) ⟨rfl, trivial⟩ ?_
  refine nx ?_
  refine wpC_ret ?_
  have e7 := Option.some.inj hF
  subst e7
  refine ret_post (P := Try.prog) (vs := [(.bool (decide (x1 ≥ 0)))]) Try.results53 ⟨rfl, trivial⟩ ?_
  exact ⟨rfl, hB.keeps⟩

def fI_allWithin_1 (p0 : Int) (p1 : Int) (p2 : Int) : Option Bool :=
  (fI_within p0 p1 p2) >>= fun x1 =>
  some (!x1)

def pI_allWithin_1 (w : World) (r : Bool) : Ending → World → Prop := fun e w' => e = .returned (.bool r) ∧ Keeps w w'
set_option maxRecDepth 100000 in
set_option maxHeartbeats 2000000 in
theorem cI_allWithin_1 (w : World) (p0 : Int) (b1 : Nat) (u1 : List Value) (p1 : Int) (k1 : Cells w b1 0 u1) (g1 : Rp.rd zt w u1 p1) (b2 : Nat) (u2 : List Value) (p2 : Int) (k2 : Cells w b2 0 u2) (g2 : Rp.rd zt w u2 p2) (r : Bool) (hF : fI_allWithin_1 p0 p1 p2 = some r) :
    Calls Try.prog 54 #[.int .i64 p0, .pointer (some ⟨b1, 0, none⟩), .pointer (some ⟨b2, 0, none⟩)] w (pI_allWithin_1 w r) := by
  unfold fI_allWithin_1 at hF
  have g1k := g1
  cases g1
  have g2k := g2
  cases g2
  have hB : Bs (fun _ => 1) (col (fun _ => 1)) w w := Bs.start _ _
  refine calls_start (n := 10) (vs := [(.int .i64 p0), (.pointer (some ⟨b1, 0, none⟩)), (.pointer (some ⟨b2, 0, none⟩))]) Try.func54 rfl rfl ?_
  refine wpC_seq ?_
  refine wpC_region ?_
  refine st_val (ex_assign rfl) (by decide) trivial ?_
  refine wpF_end (r := [(0, (.int .i64 p0)), (1, (.pointer (some ⟨b1, 0, none⟩))), (2, (.pointer (some ⟨b2, 0, none⟩)))]) ⟨rfl, rfl, rfl, trivial⟩ ?_
  refine nx ?_
  refine wpC_seq ?_
  refine wpC_region ?_
  refine st_val (ex_move rfl) (by decide) trivial ?_
  refine st_val (ex_load1 rfl Try.isAgg3 (cell_of_cells (k1.keep hB.keeps))) (by decide) trivial ?_
  refine st_val (ex_load1 rfl Try.isAgg3 (cell_of_cells (k2.keep hB.keeps))) (by decide) trivial ?_
  obtain ⟨x1, hx1, hF⟩ := bind_some hF
  refine st_op (by decide) trivial ?_
  refine wf_call (cI_within w p0 p1 p2 x1 hx1) Try.call55 ⟨rfl, rfl, rfl, trivial⟩ ?_
  rintro e6 w2 ⟨rfl, k3⟩
  have s5 := k3.stp 999 (col (fun _ => 1))
  refine ⟨_, rfl, ?_⟩
  replace hB := hB.stp s5 (by decide)
  refine st_val (ex_not rfl) (by decide) trivial ?_
  refine st_val (ex_assign rfl) (by decide) trivial ?_
  refine wpF_end (r := [(4, (.bool (!x1)))]) ⟨rfl, trivial⟩ ?_
  refine nx ?_
  refine wpC_ret ?_
  have e7 := Option.some.inj hF
  subst e7
  refine ret_post (P := Try.prog) (vs := [(.bool (!x1))]) Try.results54 ⟨rfl, trivial⟩ ?_
  exact ⟨rfl, hB.keeps⟩

def fI_allWithin (p0 : List Int) (p1 : Int) (p2 : Int) : Option Bool :=
  (fX_slices_ContainsFunc_int_int p0 (fun z11 => fI_allWithin_1 z11 p1 p2)) >>= fun x12 =>
  some (!x12)

def pI_allWithin (w : World) (r : Bool) : Ending → World → Prop := fun e w' => e = .returned (.bool r) ∧ Keeps w w'
set_option maxRecDepth 100000 in
set_option maxHeartbeats 2000000 in
theorem cI_allWithin (w : World) (u0 : Value) (p0 : List Int) (g0 : RdL zt w u0 p0) (p1 : Int) (p2 : Int) (r : Bool) (hF : fI_allWithin p0 p1 p2 = some r) :
    Calls Try.prog 35 #[u0, .int .i64 p1, .int .i64 p2] w (pI_allWithin w r) := by
  unfold fI_allWithin at hF
  have hB : Bs (fun _ => 1) (col (fun _ => 1)) w w := Bs.start _ _
  refine calls_start (n := 11) (vs := [u0, (.int .i64 p1), (.int .i64 p2)]) Try.func35 rfl rfl ?_
  refine wpC_seq ?_
  refine wpC_region ?_
  refine st_op (by decide) trivial ?_
  refine wf_box (o := (col (fun _ => 1))) w.heap.size 11 hB.keeps.size (cs := [(.int .i64 p1)]) rfl rfl ?_
  intro o1 w2 b3 h4 s5
  replace hB := hB.stp s5 (by decide)
  refine st_op (by decide) trivial ?_
  refine wf_box (o := o1) w.heap.size 12 hB.keeps.size (cs := [(.int .i64 p2)]) rfl rfl ?_
  intro o6 w7 b8 h9 s10
  replace h4 := h4.stp s10 (by decide)
  replace hB := hB.stp s10 (by decide)
  refine st_val (ex_assign rfl) (by decide) trivial ?_
  refine wpF_end (r := [(0, u0), (4, (.pointer (some ⟨b3, 0, none⟩))), (5, (.pointer (some ⟨b8, 0, none⟩)))]) ⟨rfl, rfl, rfl, trivial⟩ ?_
  refine nx ?_
  refine wpC_seq ?_
  refine wpC_region ?_
  refine st_val (ex_move rfl) (by decide) trivial ?_
  refine st_val (ex_func (vs := [(.pointer (some ⟨b3, 0, none⟩)), (.pointer (some ⟨b8, 0, none⟩))]) ⟨rfl, rfl, trivial⟩) (by decide) trivial ?_
  obtain ⟨x12, hx12, hF⟩ := bind_some hF
  refine st_op (by decide) trivial ?_
  refine wf_call (cX_slices_ContainsFunc_int_int w7 _ p0 (g0.keep hB.keeps) _ (fun z11 => fI_allWithin_1 z11 p1 p2) (show FnV Try.prog w7 (.func (.func 54) #[] #[(.pointer (some ⟨b3, 0, none⟩)), (.pointer (some ⟨b8, 0, none⟩))]) (fun z11 => fI_allWithin_1 z11 p1 p2) from ⟨_, _, rfl, Try.call54, fun ww vs xx rr kk hok hG => by (cases hok; exact cI_allWithin_1 ww xx b3 _ p1 ((h4.cells).keep kk) (Rp.keep ((show Rp.rd zt w7 [(.int .i64 p1)] (p1 : Int) from rfl)) kk) b8 _ p2 ((h9.cells).keep kk) (Rp.keep ((show Rp.rd zt w7 [(.int .i64 p2)] (p2 : Int) from rfl)) kk) rr hG)⟩) x12 hx12) Try.call53 ⟨rfl, rfl, trivial⟩ ?_
  rintro e17 w13 ⟨rfl, k14⟩
  have s16 := k14.stp 999 o6
  refine ⟨_, rfl, ?_⟩
  replace h4 := h4.stp s16 (by decide)
  replace h9 := h9.stp s16 (by decide)
  replace hB := hB.stp s16 (by decide)
  refine st_val (ex_not rfl) (by decide) trivial ?_
  refine st_val (ex_assign rfl) (by decide) trivial ?_
  refine wpF_end (r := [(6, (.bool (!x12)))]) ⟨rfl, trivial⟩ ?_
  refine nx ?_
  refine wpC_ret ?_
  have e18 := Option.some.inj hF
  subst e18
  refine ret_post (P := Try.prog) (vs := [(.bool (!x12))]) Try.results35 ⟨rfl, trivial⟩ ?_
  exact ⟨rfl, hB.keeps⟩

def fX_slices_Compare_int_int_s1 (p1 : List Int) : Int → Int → Unit → Option (Lp Unit Unit Int) := fun (i3 : Int) (x13 : Int) (s : Unit) =>
  if decide (i3 ≥ (p1.length : Int)) then
    some (.ret 1)
  else
    (ix p1 i3) >>= fun x21 =>
    (fX_cmp_Compare_int x13 x21) >>= fun x27 =>
    if x27 != 0 then
      some (.ret x27)
    else
      some (.go ())
def fX_slices_Compare_int_int (p0 : List Int) (p1 : List Int) : Option Int :=
  (forI (fX_slices_Compare_int_int_s1 p1) p0 0 ()) >>= fun q4 =>
  match q4 with
  | .inl _ =>
    if decide ((p0.length : Int) < (p1.length : Int)) then
      some (-1)
    else
      some 0
  | .inr r' => some r'

def pX_slices_Compare_int_int (w : World) (r : Int) : Ending → World → Prop := fun e w' => e = .returned (.int .i64 r) ∧ Keeps w w'
set_option maxRecDepth 100000 in
set_option maxHeartbeats 2000000 in
theorem cX_slices_Compare_int_int (w : World) (u0 : Value) (p0 : List Int) (g0 : RdL zt w u0 p0) (u1 : Value) (p1 : List Int) (g1 : RdL zt w u1 p1) (r : Int) (hF : fX_slices_Compare_int_int p0 p1 = some r) :
    Calls Try.prog 51 #[u0, u1] w (pX_slices_Compare_int_int w r) := by
  unfold fX_slices_Compare_int_int at hF
  have hB : Bs (fun _ => 1) (col (fun _ => 1)) w w := Bs.start _ _
  refine calls_start (n := 36) (vs := [u0, u1]) Try.func51 rfl rfl ?_
  refine wpC_seq ?_
  refine wpC_region ?_
  refine st_val (ex_assign rfl) (by decide) trivial ?_
  refine wpF_end (r := [(0, u0), (1, u1)]) ⟨rfl, rfl, trivial⟩ ?_
  refine nx ?_
  refine wpC_seq ?_
  refine wpC_seq ?_
  refine wpC_region ?_
  refine st_val (ex_move rfl) (by decide) trivial ?_
  refine st_val (ex_lenR rfl g0 Try.underlying25) (by decide) trivial ?_
  refine st_val (ex_move rfl) (by decide) trivial ?_
  refine wpF_end (r := [(0, u0), (1, u1), (9, u0), (10, (.int .i64 (p0.length : Int))), (11, (.int .i64 0))]) ⟨rfl, rfl, rfl, rfl, rfl, trivial⟩ ?_
  refine nx ?_
  obtain ⟨q4, hq4, hF⟩ := bind_some hF
  refine wpC_cutN (fun a w2 => ∃ (o1 : Tg), q4 = .inl () ∧ Fr a 36 [(0, u0), (1, u1)] ∧ Bs (fun _ => 1) o1 w w2) (fun a w' => ∃ r', q4 = .inr r' ∧ bodyPost Try.prog Try.f51 (pX_slices_Compare_int_int w r') .ret a w') ?_ ?_ ?_
  · refine wpC_block ?_
    refine wpC_loop (fun (K : Nat) a w2 => ∃ (i3 : Int) (o1 : Tg), forI (fX_slices_Compare_int_int_s1 p1) (p0.drop i3.toNat) i3 () = some q4 ∧ (p0.drop i3.toNat).length = K ∧ 0 ≤ i3 ∧ Fr a 36 [(0, u0), (1, u1), (9, u0), (10, (.int .i64 (p0.length : Int))), (11, (.int .i64 i3))] ∧ Bs (fun _ => 1) o1 w w2) _ (fun a ha => ⟨0, (col (fun _ => 1)), hq4, rfl, Int.le_refl 0, ha.sub (r := [(0, u0), (1, u1), (9, u0), (10, (.int .i64 (p0.length : Int))), (11, (.int .i64 0))]) ⟨rfl, rfl, rfl, rfl, rfl, trivial⟩, hB⟩) ?_
    rintro K8 a w2 ⟨i3, o1, l5, m7, z6, ha, hB⟩
    by_cases t12 : i3 < (p0.length : Int)
    · obtain ⟨x13, q9, hx13, b10, n11⟩ := forI_cons z6 t12 l5
      have hle := g0.len_le
      dsimp only [fX_slices_Compare_int_int_s1] at b10
      refine wp_of ha ?_
      refine wpC_seq ?_
      refine wpC_region ?_
      refine st_val (ex_lss rfl rfl) (by decide) trivial ?_
      refine wpF_end (r := [(0, u0), (1, u1), (9, u0), (10, (.int .i64 (p0.length : Int))), (11, (.int .i64 i3)), (12, (.bool (decide (i3 < (p0.length : Int)))))]) ⟨rfl, rfl, rfl, rfl, rfl, rfl, trivial⟩ ?_
      refine nx ?_
      refine wpC_seq ?_
      refine wpC_true (congrArg (fun b => some (Value.bool b)) (decide_eq_true t12)) ?_
      refine wpC_skip ?_
      refine nx ?_
      refine wpC_seq ?_
      refine wpC_block ?_
      refine wpC_seq ?_
      refine wpC_region ?_
      refine st_val (ex_move rfl) (by decide) trivial ?_
      refine st_op (by decide) trivial ?_
      refine wf_atZ g0 hx13 hB rfl rfl Try.underlying25 Try.sizeOf3 ?_
      intro b14 f15 c16 h17 h18
      cases h18
      refine st_val (ex_load1 rfl Try.isAgg3 (cell_of_cells h17)) (by decide) trivial ?_
      refine st_val (ex_assign rfl) (by decide) trivial ?_
      refine st_val (ex_assign rfl) (by decide) trivial ?_
      refine wpF_end (r := [(0, u0), (1, u1), (5, (.int .i64 i3)), (6, (.int .i64 x13)), (9, u0), (10, (.int .i64 (p0.length : Int))), (11, (.int .i64 i3))]) ⟨rfl, rfl, rfl, rfl, rfl, rfl, rfl, trivial⟩ ?_
      refine nx ?_
      refine wpC_seq ?_
      refine wpC_seq ?_
      refine wpC_region ?_
      refine st_val (ex_move rfl) (by decide) trivial ?_
      refine st_val (ex_move rfl) (by decide) trivial ?_
      refine st_val (ex_lenR rfl g1 Try.underlying25) (by decide) trivial ?_
      refine st_val (ex_geq rfl rfl) (by decide) trivial ?_
      refine wpF_end (r := [(0, u0), (1, u1), (5, (.int .i64 i3)), (6, (.int .i64 x13)), (9, u0), (10, (.int .i64 (p0.length : Int))), (11, (.int .i64 i3)), (19, (.bool (decide (i3 ≥ (p1.length : Int)))))]) ⟨rfl, rfl, rfl, rfl, rfl, rfl, rfl, rfl, trivial⟩ ?_
      refine nx ?_
      refine wpC_cond rfl (fun t19 => ?_) (fun t19 => ?_)
      · rw [if_pos t19] at b10
        refine wpC_seq ?_
        refine wpC_region ?_
        refine st_val (ex_assign rfl) (by decide) trivial ?_
        refine wpF_end (r := [(4, (.int .i64 1))]) ⟨rfl, trivial⟩ ?_
        refine nx ?_
        refine wpC_ret ?_
        refine nt_ret ?_
        refine nb_ret ?_
        refine nt_ret ?_
        refine nt_ret ?_
        refine nb_ret ?_
        refine np_ret ?_
        have e20 := Option.some.inj b10
        subst e20
        refine fun a ha => ⟨_, n11, ?_⟩
        refine ret_post (P := Try.prog) (vs := [(.int .i64 1)]) Try.results51 ⟨rfl, trivial⟩ ?_ a ha
        exact ⟨rfl, hB.keeps⟩
      · rw [if_neg (by rw [t19]; decide)] at b10
        refine wpC_skip ?_
        refine nx ?_
        refine wpC_seq ?_
        refine wpC_region ?_
        refine st_val (ex_move rfl) (by decide) trivial ?_
        refine st_val (ex_move rfl) (by decide) trivial ?_
        obtain ⟨x21, hx21, b10⟩ := bind_some b10
        refine st_op (by decide) trivial ?_
        refine wf_atZ g1 hx21 hB rfl rfl Try.underlying25 Try.sizeOf3 ?_
        intro b22 f23 c24 h25 h26
        cases h26
        refine st_val (ex_load1 rfl Try.isAgg3 (cell_of_cells h25)) (by decide) trivial ?_
        refine st_val (ex_assign rfl) (by decide) trivial ?_
        refine wpF_end (r := [(0, u0), (1, u1), (6, (.int .i64 x13)), (7, (.int .i64 x21)), (9, u0), (10, (.int .i64 (p0.length : Int))), (11, (.int .i64 i3))]) ⟨rfl, rfl, rfl, rfl, rfl, rfl, rfl, trivial⟩ ?_
        refine nx ?_
        refine wpC_seq ?_
        refine wpC_region ?_
        refine st_val (ex_move rfl) (by decide) trivial ?_
        refine st_val (ex_move rfl) (by decide) trivial ?_
        obtain ⟨x27, hx27, b10⟩ := bind_some b10
        refine st_op (by decide) trivial ?_
        refine wf_call (cX_cmp_Compare_int w2 x13 x21 x27 hx27) Try.call71 ⟨rfl, rfl, trivial⟩ ?_
        rintro e32 w28 ⟨rfl, k29⟩
        have s31 := k29.stp 999 o1
        refine ⟨_, rfl, ?_⟩
        replace hB := hB.stp s31 (by decide)
        refine st_val (ex_assign rfl) (by decide) trivial ?_
        refine wpF_end (r := [(0, u0), (1, u1), (8, (.int .i64 x27)), (9, u0), (10, (.int .i64 (p0.length : Int))), (11, (.int .i64 i3))]) ⟨rfl, rfl, rfl, rfl, rfl, rfl, trivial⟩ ?_
        refine nx ?_
        refine wpC_seq ?_
        refine wpC_region ?_
        refine st_val (ex_move rfl) (by decide) trivial ?_
        refine st_val (ex_neq rfl rfl) (by decide) trivial ?_
        refine wpF_end (r := [(0, u0), (1, u1), (8, (.int .i64 x27)), (9, u0), (10, (.int .i64 (p0.length : Int))), (11, (.int .i64 i3)), (28, (.bool (x27 != 0)))]) ⟨rfl, rfl, rfl, rfl, rfl, rfl, rfl, trivial⟩ ?_
        refine nx ?_
        refine wpC_cond rfl (fun t33 => ?_) (fun t33 => ?_)
        · rw [if_pos t33] at b10
          refine wpC_seq ?_
          refine wpC_region ?_
          refine st_val (ex_move rfl) (by decide) trivial ?_
          refine st_val (ex_assign rfl) (by decide) trivial ?_
          refine wpF_end (r := [(4, (.int .i64 x27))]) ⟨rfl, trivial⟩ ?_
          refine nx ?_
          refine wpC_ret ?_
          refine nb_ret ?_
          refine nt_ret ?_
          refine nt_ret ?_
          refine nb_ret ?_
          refine np_ret ?_
          have e34 := Option.some.inj b10
          subst e34
          refine fun a ha => ⟨_, n11, ?_⟩
          refine ret_post (P := Try.prog) (vs := [(.int .i64 x27)]) Try.results51 ⟨rfl, trivial⟩ ?_ a ha
          exact ⟨rfl, hB.keeps⟩
        · rw [if_neg (by rw [t33]; decide)] at b10
          refine wpC_skip ?_
          refine nb_norm ?_
          refine nx ?_
          refine wpC_region ?_
          refine st_val (ex_add rfl rfl (ck_in (by omega) (by omega))) (by decide) trivial ?_
          refine st_val (ex_move rfl) (by decide) trivial ?_
          refine wpF_end (r := [(0, u0), (1, u1), (9, u0), (10, (.int .i64 (p0.length : Int))), (11, (.int .i64 (i3 + 1)))]) ⟨rfl, rfl, rfl, rfl, rfl, trivial⟩ ?_
          refine nt_norm ?_
          have e35 := Option.some.inj b10
          subst e35
          refine to_k (r := [(0, u0), (1, u1), (9, u0), (10, (.int .i64 (p0.length : Int))), (11, (.int .i64 (i3 + 1)))]) ⟨rfl, rfl, rfl, rfl, rfl, trivial⟩ ?_
          intro a ha
          exact ⟨_, (by rw [← m7]; simp only [List.length_drop]; omega), i3 + 1, o1, n11, rfl, (by omega), ha, hB⟩
    · have r36 := forI_done t12 l5
      refine wp_of ha ?_
      refine wpC_seq ?_
      refine wpC_region ?_
      refine st_val (ex_lss rfl rfl) (by decide) trivial ?_
      refine wpF_end (r := [(0, u0), (1, u1), (9, u0), (10, (.int .i64 (p0.length : Int))), (11, (.int .i64 i3)), (12, (.bool (decide (i3 < (p0.length : Int)))))]) ⟨rfl, rfl, rfl, rfl, rfl, rfl, trivial⟩ ?_
      refine nx ?_
      refine wpC_seq ?_
      refine wpC_false (congrArg (fun b => some (Value.bool b)) (decide_eq_false t12)) ?_
      refine wpC_exit ?_
      refine nt_exit ?_
      refine nt_exit ?_
      refine nb_hit ?_
      refine np_norm ?_
      refine to_k (r := [(0, u0), (1, u1)]) ⟨rfl, rfl, trivial⟩ ?_
      intro a ha
      exact ⟨o1, r36, ha, hB⟩
  · rintro a w2 ⟨o1, rfl, ha, hB⟩
    dsimp only at hF
    refine ap_k ha ?_
    refine nx ?_
    refine wpC_seq ?_
    refine wpC_seq ?_
    refine wpC_region ?_
    refine st_val (ex_move rfl) (by decide) trivial ?_
    refine st_val (ex_lenR rfl g0 Try.underlying25) (by decide) trivial ?_
    refine st_val (ex_move rfl) (by decide) trivial ?_
    refine st_val (ex_lenR rfl g1 Try.underlying25) (by decide) trivial ?_
    refine st_val (ex_lss rfl rfl) (by decide) trivial ?_
    refine wpF_end (r := [(35, (.bool (decide ((p0.length : Int) < (p1.length : Int)))))]) ⟨rfl, trivial⟩ ?_
    refine nx ?_
    refine wpC_cond rfl (fun t37 => ?_) (fun t37 => ?_)
    · rw [if_pos t37] at hF
      refine wpC_seq ?_
      refine wpC_region ?_
      refine st_val (ex_assign rfl) (by decide) trivial ?_
      refine wpF_end (r := [(4, (.int .i64 (-1)))]) ⟨rfl, trivial⟩ ?_
      refine nx ?_
      refine wpC_ret ?_
      refine nt_ret ?_
      have e38 := Option.some.inj hF
      subst e38
      refine ret_post (P := Try.prog) (vs := [(.int .i64 (-1))]) Try.results51 ⟨rfl, trivial⟩ ?_
      exact ⟨rfl, hB.keeps⟩
    · rw [if_neg (by rw [t37]; decide)] at hF
      refine wpC_skip ?_
      refine nx ?_
      refine wpC_seq ?_
      refine wpC_region ?_
      refine st_val (ex_assign rfl) (by decide) trivial ?_
      refine wpF_end (r := [(4, (.int .i64 0))]) ⟨rfl, trivial⟩ ?_
      refine nx ?_
      refine wpC_ret ?_
      have e39 := Option.some.inj hF
      subst e39
      refine ret_post (P := Try.prog) (vs := [(.int .i64 0)]) Try.results51 ⟨rfl, trivial⟩ ?_
      exact ⟨rfl, hB.keeps⟩
  · rintro a w2 ⟨r', rfl, b40⟩
    dsimp only at hF
    have e41 := Option.some.inj hF
    subst e41
    exact b40

def fX_slices_IsSorted_int_int_s1 (p0 : List Int) : Int → Option (Lp Int Int Bool) := fun (s : Int) =>
  if decide (s > 0) then
    (ix p0 s) >>= fun x16 =>
    (ck (s - 1)) >>= fun x19 =>
    (ix p0 x19) >>= fun x20 =>
    (fX_cmp_Less_int x16 x20) >>= fun x72 =>
    if x72 then
      some (.ret false)
    else
      (ck (s - 1)) >>= fun x80 =>
      some (.go x80)
  else
    some (.out s)
def fX_slices_IsSorted_int_int (fuel : Nat) (p0 : List Int) : Option Bool :=
  (ck ((p0.length : Int) - 1)) >>= fun x1 =>
  (loopF (fX_slices_IsSorted_int_int_s1 p0) fuel x1) >>= fun q5 =>
  match q5 with
  | .inl y2 =>
    some true
  | .inr r' => some r'

def pX_slices_IsSorted_int_int (w : World) (r : Bool) : Ending → World → Prop := fun e w' => e = .returned (.bool r) ∧ Keeps w w'
set_option maxRecDepth 100000 in
set_option maxHeartbeats 2000000 in
theorem cX_slices_IsSorted_int_int (fuel : Nat) (w : World) (u0 : Value) (p0 : List Int) (g0 : RdL zt w u0 p0) (r : Bool) (hF : fX_slices_IsSorted_int_int fuel p0 = some r) :
    Calls Try.prog 63 #[u0] w (pX_slices_IsSorted_int_int w r) := by
  unfold fX_slices_IsSorted_int_int at hF
  have hB : Bs (fun _ => 1) (col (fun _ => 1)) w w := Bs.start _ _
  refine calls_start (n := 21) (vs := [u0]) Try.func63 rfl rfl ?_
  refine wpC_seq ?_
  refine wpC_region ?_
  refine st_val (ex_assign rfl) (by decide) trivial ?_
  refine wpF_end (r := [(0, u0)]) ⟨rfl, trivial⟩ ?_
  refine nx ?_
  refine wpC_seq ?_
  refine wpC_seq ?_
  refine wpC_region ?_
  refine st_val (ex_move rfl) (by decide) trivial ?_
  refine st_val (ex_lenR rfl g0 Try.underlying25) (by decide) trivial ?_
  obtain ⟨x1, hx1, hF⟩ := bind_some hF
  refine st_val (ex_sub rfl rfl hx1) (by decide) trivial ?_
  refine st_val (ex_assign rfl) (by decide) trivial ?_
  refine wpF_end (r := [(0, u0), (3, (.int .i64 x1))]) ⟨rfl, rfl, trivial⟩ ?_
  refine nx ?_
  obtain ⟨q5, hq5, hF⟩ := bind_some hF
  refine wpC_cutN (fun a w4 => ∃ (y2 : Int) (o3 : Tg), q5 = .inl y2 ∧ Fr a 21 [] ∧ Bs (fun _ => 1) o3 w w4) (fun a w' => ∃ r', q5 = .inr r' ∧ bodyPost Try.prog Try.f63 (pX_slices_IsSorted_int_int w r') .ret a w') ?_ ?_ ?_
  · refine wpC_block ?_
    refine wpC_loop (fun (K : Nat) a w4 => ∃ (y2 : Int) (o3 : Tg), loopF (fX_slices_IsSorted_int_int_s1 p0) K y2 = some q5 ∧ Fr a 21 [(0, u0), (3, (.int .i64 y2))] ∧ Bs (fun _ => 1) o3 w w4) fuel (fun a ha => ⟨x1, (col (fun _ => 1)), hq5, ha.sub (r := [(0, u0), (3, (.int .i64 x1))]) ⟨rfl, rfl, trivial⟩, hB⟩) ?_
    rintro K9 a w4 ⟨y2, o3, l6, ha, hB⟩
    obtain ⟨K13, q10, e14, b11, n12⟩ := loopF_cons l6
    dsimp only [fX_slices_IsSorted_int_int_s1] at b11
    refine wp_of ha ?_
    refine wpC_seq ?_
    refine wpC_seq ?_
    refine wpC_region ?_
    refine st_val (ex_move rfl) (by decide) trivial ?_
    refine st_val (ex_gtr rfl rfl) (by decide) trivial ?_
    refine wpF_end (r := [(0, u0), (3, (.int .i64 y2)), (8, (.bool (decide (y2 > 0))))]) ⟨rfl, rfl, rfl, trivial⟩ ?_
    refine nx ?_
    refine wpC_cond rfl (fun t15 => ?_) (fun t15 => ?_)
    · rw [if_pos t15] at b11
      refine wpC_skip ?_
      refine nx ?_
      refine wpC_seq ?_
      refine wpC_block ?_
      refine wpC_seq ?_
      obtain ⟨x16, hx16, b11⟩ := bind_some b11
      obtain ⟨x19, hx19, b11⟩ := bind_some b11
      obtain ⟨x20, hx20, b11⟩ := bind_some b11
      refine wpC_drawn (o := o3) [(0, u0), (3, (.int .i64 y2))] [0, 3] [11, 12, 13, 14, 15, 16, 17, 18, 19] [[], [], [0, 1], [2], [], [], [5], [4, 6], [7]] [none, none, none, none, none, none, none, none, none] [999, 999, 999, 999, 999, 999, 999, 999, 999] [0, 0, 0, 0, 0, 0, 0, 0, 0] [999] [fun v _ _ => v = u0, fun v _ _ => v = (.int .i64 y2), fun v o w9 => ∃ vl, v = adr vl (y2.toNat * Rp.sz Int) ∧ RdL zt w vl p0, fun v _ _ => v = (.int .i64 x16), fun v _ _ => v = u0, fun v _ _ => v = (.int .i64 y2), fun v _ _ => v = (.int .i64 x19), fun v o w9 => ∃ vl, v = adr vl (x19.toNat * Rp.sz Int) ∧ RdL zt w vl p0, fun v _ _ => v = (.int .i64 x20)] (fun o8 w8 => Bs (fun _ => 1) o8 w w8) follows_mixed (by kernel_rfl) rfl ⟨rfl, rfl, trivial⟩ hB ?_ ⟨st_eq _, st_eq _, fun _ _ _ _ _ _ h0 hb ⟨vl, e, h⟩ hs => ⟨vl, e, h⟩, st_eq _, st_eq _, st_eq _, st_eq _, fun _ _ _ _ _ _ h0 hb ⟨vl, e, h⟩ hs => ⟨vl, e, h⟩, st_eq _, trivial⟩ ?_ ?_
      · rintro t9 o1 w1 o2 w2 ht9 hB hs9
        have ht9 : t9 = 999 := by simpa using ht9
        subst ht9
        all_goals exact hB.stp hs9 (by decide)
      · refine ⟨?_, ?_, ?_, ?_, ?_, ?_, ?_, ?_, ?_, trivial⟩
        · rintro o23 w24 a25 ha hB -
          refine opS_of ha (trivial) ?_
          refine op1_val (ex_move rfl) ?_
          exact ⟨_, Stp.refl _ _ _, rfl⟩
        · rintro o26 w27 a28 ha hB -
          refine opS_of ha (trivial) ?_
          refine op1_val (ex_move rfl) ?_
          exact ⟨_, Stp.refl _ _ _, rfl⟩
        · rintro o29 w30 a31 ha hB ⟨r32, r33, -⟩
          have ha := Fr.cons (d := 11) ha r32
          have ha := Fr.cons (d := 12) ha r33
          refine opS_of ha (trivial) ?_
          refine wd_indexR g0 hx16 rfl rfl Try.underlying25 Try.sizeOf3 ?_
          exact ⟨_, Stp.refl _ _ _, ⟨_, rfl, g0⟩⟩
        · rintro o34 w35 a36 ha hB ⟨r37, -⟩
          obtain ⟨v38, e39, h40⟩ := r37
          have ha := Fr.cons (d := 13) ha e39
          refine opS_of ha (trivial) ?_
          refine wd_load1Z h40 hx16 hB rfl rfl Try.isAgg3 ?_
          intro c41 h42
          cases h42
          exact ⟨_, Stp.refl _ _ _, rfl⟩
        · rintro o43 w44 a45 ha hB -
          refine opS_of ha (trivial) ?_
          refine op1_val (ex_move rfl) ?_
          exact ⟨_, Stp.refl _ _ _, rfl⟩
        · rintro o46 w47 a48 ha hB -
          refine opS_of ha (trivial) ?_
          refine op1_val (ex_move rfl) ?_
          exact ⟨_, Stp.refl _ _ _, rfl⟩
        · rintro o49 w50 a51 ha hB ⟨r52, -⟩
          have ha := Fr.cons (d := 16) ha r52
          refine opS_of ha (trivial) ?_
          refine op1_val (ex_sub rfl rfl hx19) ?_
          exact ⟨_, Stp.refl _ _ _, rfl⟩
        · rintro o53 w54 a55 ha hB ⟨r56, r57, -⟩
          have ha := Fr.cons (d := 15) ha r56
          have ha := Fr.cons (d := 17) ha r57
          refine opS_of ha (trivial) ?_
          refine wd_indexR g0 hx20 rfl rfl Try.underlying25 Try.sizeOf3 ?_
          exact ⟨_, Stp.refl _ _ _, ⟨_, rfl, g0⟩⟩
        · rintro o58 w59 a60 ha hB ⟨r61, -⟩
          obtain ⟨v62, e63, h64⟩ := r61
          have ha := Fr.cons (d := 18) ha e63
          refine opS_of ha (trivial) ?_
          refine wd_load1Z h64 hx20 hB rfl rfl Try.isAgg3 ?_
          intro c65 h66
          cases h66
          exact ⟨_, Stp.refl _ _ _, rfl⟩
      rintro o67 w68 a69 ha hB ⟨-, -, -, r70, -, -, -, -, r71, -⟩
      have ha := Fr.cons (d := 14) ha r70
      have ha := Fr.cons (d := 19) ha r71
      refine wl_of ha ?_
      simp only [List.length_cons, List.length_nil, Nat.zero_add, Nat.reduceAdd, List.drop_succ_cons, List.drop_zero]
      obtain ⟨x72, hx72, b11⟩ := bind_some b11
      refine st_op (by decide) trivial ?_
      refine wf_call (cX_cmp_Less_int w68 x16 x20 x72 hx72) Try.call75 ⟨rfl, rfl, trivial⟩ ?_
      rintro e77 w73 ⟨rfl, k74⟩
      have s76 := k74.stp 999 o67
      refine ⟨_, rfl, ?_⟩
      replace hB := hB.stp s76 (by decide)
      refine wpF_end (r := [(0, u0), (3, (.int .i64 y2)), (20, (.bool x72))]) ⟨rfl, rfl, rfl, trivial⟩ ?_
      refine nx ?_
      refine wpC_cond rfl (fun t78 => ?_) (fun t78 => ?_)
      · rw [if_pos t78] at b11
        refine wpC_seq ?_
        refine wpC_region ?_
        refine st_val (ex_assign rfl) (by decide) trivial ?_
        refine wpF_end (r := [(2, (.bool false))]) ⟨rfl, trivial⟩ ?_
        refine nx ?_
        refine wpC_ret ?_
        refine nb_ret ?_
        refine nt_ret ?_
        refine nt_ret ?_
        refine nb_ret ?_
        refine np_ret ?_
        have e79 := Option.some.inj b11
        subst e79
        refine fun a ha => ⟨_, n12, ?_⟩
        refine ret_post (P := Try.prog) (vs := [(.bool false)]) Try.results63 ⟨rfl, trivial⟩ ?_ a ha
        exact ⟨rfl, hB.keeps⟩
      · rw [if_neg (by rw [t78]; decide)] at b11
        refine wpC_skip ?_
        refine nb_norm ?_
        refine nx ?_
        refine wpC_region ?_
        refine st_val (ex_move rfl) (by decide) trivial ?_
        obtain ⟨x80, hx80, b11⟩ := bind_some b11
        refine st_val (ex_sub rfl rfl hx80) (by decide) trivial ?_
        refine st_val (ex_assign rfl) (by decide) trivial ?_
        refine wpF_end (r := [(0, u0), (3, (.int .i64 x80))]) ⟨rfl, rfl, trivial⟩ ?_
        refine nt_norm ?_
        have e81 := Option.some.inj b11
        subst e81
        refine to_k (r := [(0, u0), (3, (.int .i64 x80))]) ⟨rfl, rfl, trivial⟩ ?_
        intro a ha
        exact ⟨K13, by omega, x80, o67, n12, ha, hB⟩
    · rw [if_neg (by rw [t15]; decide)] at b11
      refine wpC_exit ?_
      refine nt_exit ?_
      refine nt_exit ?_
      refine nb_hit ?_
      refine np_norm ?_
      have e82 := Option.some.inj b11
      subst e82
      refine to_k (r := []) trivial ?_
      intro a ha
      exact ⟨y2, o3, n12, ha, hB⟩
  · rintro a w4 ⟨y2, o3, rfl, ha, hB⟩
    dsimp only at hF
    refine ap_k ha ?_
    refine nx ?_
    refine wpC_seq ?_
    refine wpC_region ?_
    refine st_val (ex_assign rfl) (by decide) trivial ?_
    refine wpF_end (r := [(2, (.bool true))]) ⟨rfl, trivial⟩ ?_
    refine nx ?_
    refine wpC_ret ?_
    have e83 := Option.some.inj hF
    subst e83
    refine ret_post (P := Try.prog) (vs := [(.bool true)]) Try.results63 ⟨rfl, trivial⟩ ?_
    exact ⟨rfl, hB.keeps⟩
  · rintro a w4 ⟨r', rfl, b84⟩
    dsimp only at hF
    have e85 := Option.some.inj hF
    subst e85
    exact b84

end Go.Proofs.Ytjmhjobfiemmnaa
