/- spec.prShape, spec.IsLabeling, impl.portsOk, impl.isLabeling$1, impl.isLabeling, impl.IsLabeling: plain functions, and the walks that show that the program computes them (printed by gen.py). -/
import Derived.Test.YtijaojnaamkinaaGNa
import Derived.Test.YtijaojnaamkinaaGR
import Derived.Test.YtijaojnaamkinaaGIx
namespace Go.Proofs.Ytijaojnaamkinaa
open Go.RowKit
set_option linter.unusedSimpArgs false
set_option linter.unusedVariables false

def fS_prShape_s1 (p0 : T_Problem) (p1 : T_Network) : Int → (List Int) → Unit → Option (Lp Unit Unit Bool) := fun (i25 : Int) (x35 : List Int) (s : Unit) =>
  (ix p1.Ends i25) >>= fun x43 =>
  (
    if (x35.length : Int) != (x43.length : Int) then
      some true
    else
      (ck (p0.Labels - 1)) >>= fun x55 =>
      (fS_l1All x35 0 x55) >>= fun x56 =>
      some (!x56)) >>= fun q51 =>
  if q51 then
    some (.ret false)
  else
    some (.go ())
def fS_prShape (p0 : T_Problem) (p1 : T_Network) (p2 : List (List Int)) : Option Bool :=
  if (p2.length : Int) != (p1.Ends.length : Int) then
    some false
  else
    (forI (fS_prShape_s1 p0 p1) p2 0 ()) >>= fun q26 =>
    match q26 with
    | .inl _ =>
      some true
    | .inr r' => some r'

def pS_prShape (w : World) (r : Bool) : Ending → World → Prop := fun e w' => e = .returned (.bool r) ∧ Keeps w w'
set_option maxRecDepth 100000 in
set_option maxHeartbeats 2000000 in
theorem cS_prShape (w : World) (u0 : List Value) (p0 : T_Problem) (g0 : Rp.rd zt w u0 p0) (u1 : List Value) (p1 : T_Network) (g1 : Rp.rd zt w u1 p1) (u2 : Value) (p2 : List (List Int)) (g2 : RdL zt w u2 p2) (r : Bool) (hF : fS_prShape p0 p1 p2 = some r) :
    Calls Try.prog 80 #[.agg u0.toArray, .agg u1.toArray, u2] w (pS_prShape w r) := by
  unfold fS_prShape at hF
  obtain ⟨v1, v3, rfl, h2, h4⟩ := g0
  obtain ⟨v5, v7, v9, rfl, h6, h8, h10⟩ := g1
  have hB : Bs (fun _ => 1) (col (fun _ => 1)) w w := Bs.start _ _
  refine calls_start (n := 40) (vs := [(.agg #[(.int .i64 p0.Labels), (.int .i64 p0.Degree), v1, v3]), (.agg #[v5, v7, v9]), u2]) Try.func80 rfl rfl ?_
  refine wpC_seq ?_
  refine wpC_region ?_
  refine st_op (by decide) trivial ?_
  refine wf_box (o := (col (fun _ => 1))) w.heap.size 11 hB.keeps.size (cs := [(.int .i64 p0.Labels), (.int .i64 p0.Degree), v1, v3]) rfl rfl ?_
  intro o11 w12 b13 h14 s15
  replace hB := hB.stp s15 (by decide)
  refine st_op (by decide) trivial ?_
  refine wf_box (o := o11) w.heap.size 12 hB.keeps.size (cs := [v5, v7, v9]) rfl rfl ?_
  intro o16 w17 b18 h19 s20
  replace h14 := h14.stp s20 (by decide)
  replace hB := hB.stp s20 (by decide)
  refine st_val (ex_assign rfl) (by decide) trivial ?_
  refine wpF_end (r := [(2, u2), (3, (.pointer (some ⟨b13, 0, none⟩))), (4, (.pointer (some ⟨b18, 0, none⟩)))]) ⟨rfl, rfl, rfl, trivial⟩ ?_
  refine nx ?_
  refine wpC_seq ?_
  refine wpC_seq ?_
  refine wpC_region ?_
  refine st_val (ex_move rfl) (by decide) trivial ?_
  refine st_val (ex_lenR rfl g2 Try.underlying41) (by decide) trivial ?_
  refine st_val (ex_field rfl Try.underlying31 rfl Try.sizeOf29) (by decide) trivial ?_
  refine st_val (ex_load1 rfl Try.isAgg29 (h19.cell rfl)) (by decide) trivial ?_
  refine st_val (ex_lenR rfl h6 Try.underlying29) (by decide) trivial ?_
  refine st_val (ex_neq rfl rfl) (by decide) trivial ?_
  refine wpF_end (r := [(2, u2), (3, (.pointer (some ⟨b13, 0, none⟩))), (4, (.pointer (some ⟨b18, 0, none⟩))), (14, (.bool ((p2.length : Int) != (p1.Ends.length : Int))))]) ⟨rfl, rfl, rfl, rfl, trivial⟩ ?_
  refine nx ?_
  refine wpC_cond rfl (fun t21 => ?_) (fun t21 => ?_)
  · rw [if_pos t21] at hF
    refine wpC_seq ?_
    refine wpC_region ?_
    refine st_val (ex_assign rfl) (by decide) trivial ?_
    refine wpF_end (r := [(6, (.bool false))]) ⟨rfl, trivial⟩ ?_
    refine nx ?_
    refine wpC_ret ?_
    refine nt_ret ?_
    have e22 := Option.some.inj hF
    subst e22
    refine ret_post (P := Try.prog) (vs := [(.bool false)]) Try.results80 ⟨rfl, trivial⟩ ?_
    exact ⟨rfl, hB.keeps⟩
  · rw [if_neg (by rw [t21]; decide)] at hF
    refine wpC_skip ?_
    refine nx ?_
    refine wpC_seq ?_
    refine wpC_seq ?_
    refine wpC_region ?_
    refine st_val (ex_move rfl) (by decide) trivial ?_
    refine st_val (ex_lenR rfl g2 Try.underlying41) (by decide) trivial ?_
    refine st_val (ex_move rfl) (by decide) trivial ?_
    refine wpF_end (r := [(3, (.pointer (some ⟨b13, 0, none⟩))), (4, (.pointer (some ⟨b18, 0, none⟩))), (15, u2), (16, (.int .i64 (p2.length : Int))), (17, (.int .i64 0))]) ⟨rfl, rfl, rfl, rfl, rfl, trivial⟩ ?_
    refine nx ?_
    obtain ⟨q26, hq26, hF⟩ := bind_some hF
    refine wpC_cutN (fun a w24 => ∃ (o23 : Tg), q26 = .inl () ∧ Fr a 40 [] ∧ Bs (fun _ => 1) o23 w w24) (fun a w' => ∃ r', q26 = .inr r' ∧ bodyPost Try.prog Try.f80 (pS_prShape w r') .ret a w') ?_ ?_ ?_
    · refine wpC_block ?_
      refine wpC_loop (fun (K : Nat) a w24 => ∃ (i25 : Int) (o23 : Tg), forI (fS_prShape_s1 p0 p1) (p2.drop i25.toNat) i25 () = some q26 ∧ (p2.drop i25.toNat).length = K ∧ 0 ≤ i25 ∧ Fr a 40 [(3, (.pointer (some ⟨b13, 0, none⟩))), (4, (.pointer (some ⟨b18, 0, none⟩))), (15, u2), (16, (.int .i64 (p2.length : Int))), (17, (.int .i64 i25))] ∧ Bs (fun _ => 1) o23 w w24 ∧ Bx w.heap.size 11 o23 w24 b13 64 [(.int .i64 p0.Labels), (.int .i64 p0.Degree), v1, v3] ∧ Bx w.heap.size 12 o23 w24 b18 31 [v5, v7, v9]) _ (fun a ha => ⟨0, o16, hq26, rfl, Int.le_refl 0, ha.sub (r := [(3, (.pointer (some ⟨b13, 0, none⟩))), (4, (.pointer (some ⟨b18, 0, none⟩))), (15, u2), (16, (.int .i64 (p2.length : Int))), (17, (.int .i64 0))]) ⟨rfl, rfl, rfl, rfl, rfl, trivial⟩, hB, h14, h19⟩) ?_
      rintro K30 a w24 ⟨i25, o23, l27, m29, z28, ha, hB, h14, h19⟩
      by_cases t34 : i25 < (p2.length : Int)
      · obtain ⟨x35, q31, hx35, b32, n33⟩ := forI_cons z28 t34 l27
        have hle := g2.len_le
        dsimp only [fS_prShape_s1] at b32
        refine wp_of ha ?_
        refine wpC_seq ?_
        refine wpC_region ?_
        refine st_val (ex_lss rfl rfl) (by decide) trivial ?_
        refine wpF_end (r := [(3, (.pointer (some ⟨b13, 0, none⟩))), (4, (.pointer (some ⟨b18, 0, none⟩))), (15, u2), (16, (.int .i64 (p2.length : Int))), (17, (.int .i64 i25)), (18, (.bool (decide (i25 < (p2.length : Int)))))]) ⟨rfl, rfl, rfl, rfl, rfl, rfl, trivial⟩ ?_
        refine nx ?_
        refine wpC_seq ?_
        refine wpC_true (congrArg (fun b => some (Value.bool b)) (decide_eq_true t34)) ?_
        refine wpC_skip ?_
        refine nx ?_
        refine wpC_seq ?_
        refine wpC_block ?_
        refine wpC_seq ?_
        refine wpC_region ?_
        refine st_val (ex_move rfl) (by decide) trivial ?_
        refine st_op (by decide) trivial ?_
        refine wf_atZ g2 hx35 hB rfl rfl Try.underlying41 Try.sizeOf23 ?_
        intro b36 f37 c38 h39 h40
        obtain ⟨v41, rfl, h42⟩ := h40
        refine st_val (ex_load1 rfl Try.isAgg23 (cell_of_cells h39)) (by decide) trivial ?_
        refine st_val (ex_assign rfl) (by decide) trivial ?_
        refine st_val (ex_assign rfl) (by decide) trivial ?_
        refine wpF_end (r := [(3, (.pointer (some ⟨b13, 0, none⟩))), (4, (.pointer (some ⟨b18, 0, none⟩))), (7, (.int .i64 i25)), (8, v41), (15, u2), (16, (.int .i64 (p2.length : Int))), (17, (.int .i64 i25))]) ⟨rfl, rfl, rfl, rfl, rfl, rfl, rfl, trivial⟩ ?_
        refine nx ?_
        refine wpC_seq ?_
        refine wpC_region ?_
        refine st_val (ex_move rfl) (by decide) trivial ?_
        refine st_val (ex_lenR rfl h42 Try.underlying23) (by decide) trivial ?_
        refine st_val (ex_field rfl Try.underlying31 rfl Try.sizeOf29) (by decide) trivial ?_
        refine st_val (ex_load1 rfl Try.isAgg29 (h19.cell rfl)) (by decide) trivial ?_
        refine st_val (ex_move rfl) (by decide) trivial ?_
        obtain ⟨x43, hx43, b32⟩ := bind_some b32
        refine st_op (by decide) trivial ?_
        refine wf_atZ h6 hx43 hB rfl rfl Try.underlying29 Try.sizeOf110 ?_
        intro b44 f45 c46 h47 h48
        obtain ⟨v49, rfl, h50⟩ := h48
        refine st_val (ex_load1 rfl Try.isAgg110 (cell_of_cells h47)) (by decide) trivial ?_
        refine st_val (ex_lenR rfl h50 Try.underlying110) (by decide) trivial ?_
        refine st_val (ex_neq rfl rfl) (by decide) trivial ?_
        refine st_val (ex_move rfl) (by decide) trivial ?_
        obtain ⟨q51, hq51, b32⟩ := bind_some b32
        refine wpF_cutAt 7 (fun a53 w52 => Fr a53 40 [(3, (.pointer (some ⟨b13, 0, none⟩))), (4, (.pointer (some ⟨b18, 0, none⟩))), (15, u2), (16, (.int .i64 (p2.length : Int))), (17, (.int .i64 i25)), (38, (.bool q51))] ∧ Keeps w24 w52) ?_ ?_
        all_goals simp only [List.take_succ_cons, List.take_zero, List.drop_succ_cons, List.drop_zero]
        · have kp : Keeps w24 w24 := Keeps.refl _
          rcases Bool.eq_false_or_eq_true ((x35.length : Int) != (x43.length : Int)) with t54 | t54
          · rw [if_pos t54] at hq51
            refine st_no rfl rfl (by rw [t54]; rfl) (by decide) ?_
            refine st_no rfl rfl (by rw [t54]; rfl) (by decide) ?_
            refine st_no rfl rfl (by rw [t54]; rfl) (by decide) ?_
            refine st_no rfl rfl (by rw [t54]; rfl) (by decide) ?_
            refine st_no rfl rfl (by rw [t54]; rfl) (by decide) ?_
            refine st_no rfl rfl (by rw [t54]; rfl) (by decide) ?_
            refine st_val (ex_pick_t (congrArg (fun b => some (Value.bool b)) t54) rfl) (by decide) trivial ?_
            have hq512 := Option.some.inj hq51
            refine wpF_end (r := [(3, (.pointer (some ⟨b13, 0, none⟩))), (4, (.pointer (some ⟨b18, 0, none⟩))), (15, u2), (16, (.int .i64 (p2.length : Int))), (17, (.int .i64 i25)), (38, (.bool true))]) ⟨rfl, rfl, rfl, rfl, rfl, rfl, trivial⟩ ?_
            subst hq512
            refine np_norm (fun a ha => ⟨ha, kp⟩)
          · rw [if_neg (by rw [t54]; decide)] at hq51
            refine st_val (ex_move rfl) (by decide) ⟨_, rfl, (congrArg (fun b => some (Value.bool b)) t54)⟩ ?_
            refine st_val (ex_field rfl Try.underlying64 rfl Try.sizeOf3) (by decide) ⟨_, rfl, (congrArg (fun b => some (Value.bool b)) t54)⟩ ?_
            refine st_val (ex_load1 rfl Try.isAgg3 (h14.cell rfl)) (by decide) ⟨_, rfl, (congrArg (fun b => some (Value.bool b)) t54)⟩ ?_
            obtain ⟨x55, hx55, hq51⟩ := bind_some hq51
            refine st_val (ex_sub rfl rfl hx55) (by decide) ⟨_, rfl, (congrArg (fun b => some (Value.bool b)) t54)⟩ ?_
            obtain ⟨x56, hx56, hq51⟩ := bind_some hq51
            refine st_op (by decide) ⟨_, rfl, (congrArg (fun b => some (Value.bool b)) t54)⟩ ?_
            refine wf_call (cS_l1All w24 _ x35 (h42.keep hB.keeps) 0 x55 x56 hx56) Try.call100 ⟨rfl, rfl, rfl, trivial⟩ ?_
            rintro e61 w57 ⟨rfl, k58⟩
            have s60 := k58.stp 999 o23
            refine ⟨_, rfl, ?_⟩
            replace h14 := h14.stp s60 (by decide)
            replace h19 := h19.stp s60 (by decide)
            replace hB := hB.stp s60 (by decide)
            replace kp := Keeps.trans kp k58
            refine st_val (ex_not rfl) (by decide) ⟨_, rfl, (congrArg (fun b => some (Value.bool b)) t54)⟩ ?_
            refine st_val (ex_pick_f (congrArg (fun b => some (Value.bool b)) t54) rfl) (by decide) trivial ?_
            have hq512 := Option.some.inj hq51
            refine wpF_end (r := [(3, (.pointer (some ⟨b13, 0, none⟩))), (4, (.pointer (some ⟨b18, 0, none⟩))), (15, u2), (16, (.int .i64 (p2.length : Int))), (17, (.int .i64 i25)), (38, (.bool (!x56)))]) ⟨rfl, rfl, rfl, rfl, rfl, rfl, trivial⟩ ?_
            subst hq512
            refine np_norm (fun a ha => ⟨ha, kp⟩)
        rintro a64 w52 ⟨ha, k62⟩
        have s63 := k62.stp 999 o23
        replace h14 := h14.stp s63 (by decide)
        replace h19 := h19.stp s63 (by decide)
        replace hB := hB.stp s63 (by decide)
        refine wl_of ha ?_
        refine wpF_end (r := [(3, (.pointer (some ⟨b13, 0, none⟩))), (4, (.pointer (some ⟨b18, 0, none⟩))), (15, u2), (16, (.int .i64 (p2.length : Int))), (17, (.int .i64 i25)), (38, (.bool q51))]) ⟨rfl, rfl, rfl, rfl, rfl, rfl, trivial⟩ ?_
        refine nx ?_
        refine wpC_cond rfl (fun t65 => ?_) (fun t65 => ?_)
        · rw [if_pos t65] at b32
          refine wpC_seq ?_
          refine wpC_region ?_
          refine st_val (ex_assign rfl) (by decide) trivial ?_
          refine wpF_end (r := [(6, (.bool false))]) ⟨rfl, trivial⟩ ?_
          refine nx ?_
          refine wpC_ret ?_
          refine nb_ret ?_
          refine nt_ret ?_
          refine nt_ret ?_
          refine nb_ret ?_
          refine np_ret ?_
          have e66 := Option.some.inj b32
          subst e66
          refine fun a ha => ⟨_, n33, ?_⟩
          refine ret_post (P := Try.prog) (vs := [(.bool false)]) Try.results80 ⟨rfl, trivial⟩ ?_ a ha
          exact ⟨rfl, hB.keeps⟩
        · rw [if_neg (by rw [t65]; decide)] at b32
          refine wpC_skip ?_
          refine nb_norm ?_
          refine nx ?_
          refine wpC_region ?_
          refine st_val (ex_add rfl rfl (ck_in (by omega) (by omega))) (by decide) trivial ?_
          refine st_val (ex_move rfl) (by decide) trivial ?_
          refine wpF_end (r := [(3, (.pointer (some ⟨b13, 0, none⟩))), (4, (.pointer (some ⟨b18, 0, none⟩))), (15, u2), (16, (.int .i64 (p2.length : Int))), (17, (.int .i64 (i25 + 1)))]) ⟨rfl, rfl, rfl, rfl, rfl, trivial⟩ ?_
          refine nt_norm ?_
          have e67 := Option.some.inj b32
          subst e67
          refine to_k (r := [(3, (.pointer (some ⟨b13, 0, none⟩))), (4, (.pointer (some ⟨b18, 0, none⟩))), (15, u2), (16, (.int .i64 (p2.length : Int))), (17, (.int .i64 (i25 + 1)))]) ⟨rfl, rfl, rfl, rfl, rfl, trivial⟩ ?_
          intro a ha
          exact ⟨_, (by rw [← m29]; simp only [List.length_drop]; omega), i25 + 1, o23, n33, rfl, (by omega), ha, hB, h14, h19⟩
      · have r68 := forI_done t34 l27
        refine wp_of ha ?_
        refine wpC_seq ?_
        refine wpC_region ?_
        refine st_val (ex_lss rfl rfl) (by decide) trivial ?_
        refine wpF_end (r := [(3, (.pointer (some ⟨b13, 0, none⟩))), (4, (.pointer (some ⟨b18, 0, none⟩))), (15, u2), (16, (.int .i64 (p2.length : Int))), (17, (.int .i64 i25)), (18, (.bool (decide (i25 < (p2.length : Int)))))]) ⟨rfl, rfl, rfl, rfl, rfl, rfl, trivial⟩ ?_
        refine nx ?_
        refine wpC_seq ?_
        refine wpC_false (congrArg (fun b => some (Value.bool b)) (decide_eq_false t34)) ?_
        refine wpC_exit ?_
        refine nt_exit ?_
        refine nt_exit ?_
        refine nb_hit ?_
        refine np_norm ?_
        refine to_k (r := []) trivial ?_
        intro a ha
        exact ⟨o23, r68, ha, hB⟩
    · rintro a w24 ⟨o23, rfl, ha, hB⟩
      dsimp only at hF
      refine ap_k ha ?_
      refine nx ?_
      refine wpC_seq ?_
      refine wpC_region ?_
      refine st_val (ex_assign rfl) (by decide) trivial ?_
      refine wpF_end (r := [(6, (.bool true))]) ⟨rfl, trivial⟩ ?_
      refine nx ?_
      refine wpC_ret ?_
      have e69 := Option.some.inj hF
      subst e69
      refine ret_post (P := Try.prog) (vs := [(.bool true)]) Try.results80 ⟨rfl, trivial⟩ ?_
      exact ⟨rfl, hB.keeps⟩
    · rintro a w24 ⟨r', rfl, b70⟩
      dsimp only at hF
      have e71 := Option.some.inj hF
      subst e71
      exact b70

def fS_IsLabeling (fuel : Nat) (p0 : T_Problem) (p1 : T_Network) (p2 : List (List Int)) : Option (Bool × Bool) :=
  (fS_prGood fuel p0) >>= fun x21 =>
  (
    if !x21 then
      some true
    else
      (fS_neGood p1) >>= fun x31 =>
      some (!x31)) >>= fun q27 =>
  if q27 then
    some (false, false)
  else
    (fS_prShape p0 p1 p2) >>= fun x42 =>
    some (x42, true)

def pS_IsLabeling (w : World) (r : Bool × Bool) : Ending → World → Prop := fun e w' => e = .returned (.tuple #[.bool r.1, .bool r.2]) ∧ Keeps w w'
set_option maxRecDepth 100000 in
set_option maxHeartbeats 2000000 in
theorem cS_IsLabeling (fuel : Nat) (w : World) (u0 : List Value) (p0 : T_Problem) (g0 : Rp.rd zt w u0 p0) (u1 : List Value) (p1 : T_Network) (g1 : Rp.rd zt w u1 p1) (u2 : Value) (p2 : List (List Int)) (g2 : RdL zt w u2 p2) (r : Bool × Bool) (hF : fS_IsLabeling fuel p0 p1 p2 = some r) :
    Calls Try.prog 39 #[.agg u0.toArray, .agg u1.toArray, u2] w (pS_IsLabeling w r) := by
  unfold fS_IsLabeling at hF
  obtain ⟨v1, v3, rfl, h2, h4⟩ := g0
  obtain ⟨v5, v7, v9, rfl, h6, h8, h10⟩ := g1
  have hB : Bs (fun _ => 1) (col (fun _ => 1)) w w := Bs.start _ _
  refine calls_start (n := 20) (vs := [(.agg #[(.int .i64 p0.Labels), (.int .i64 p0.Degree), v1, v3]), (.agg #[v5, v7, v9]), u2]) Try.func39 rfl rfl ?_
  refine wpC_seq ?_
  refine wpC_region ?_
  refine st_op (by decide) trivial ?_
  refine wf_box (o := (col (fun _ => 1))) w.heap.size 11 hB.keeps.size (cs := [(.int .i64 p0.Labels), (.int .i64 p0.Degree), v1, v3]) rfl rfl ?_
  intro o11 w12 b13 h14 s15
  replace hB := hB.stp s15 (by decide)
  refine st_op (by decide) trivial ?_
  refine wf_box (o := o11) w.heap.size 12 hB.keeps.size (cs := [v5, v7, v9]) rfl rfl ?_
  intro o16 w17 b18 h19 s20
  replace h14 := h14.stp s20 (by decide)
  replace hB := hB.stp s20 (by decide)
  refine st_val (ex_assign rfl) (by decide) trivial ?_
  refine st_val (ex_assign rfl) (by decide) trivial ?_
  refine wpF_end (r := [(2, u2), (3, (.pointer (some ⟨b13, 0, none⟩))), (4, (.pointer (some ⟨b18, 0, none⟩)))]) ⟨rfl, rfl, rfl, trivial⟩ ?_
  refine nx ?_
  refine wpC_seq ?_
  refine wpC_seq ?_
  refine wpC_region ?_
  refine st_val (ex_loadA rfl Try.isAgg64 Try.sizeOf64 rfl h14.cells) (by decide) trivial ?_
  obtain ⟨x21, hx21, hF⟩ := bind_some hF
  refine st_op (by decide) trivial ?_
  refine wf_call (cS_prGood fuel w17 _ p0 (⟨_, _, rfl, (h2.keep hB.keeps), (h4.keep hB.keeps)⟩) x21 hx21) Try.call79 ⟨rfl, trivial⟩ ?_
  rintro e26 w22 ⟨rfl, k23⟩
  have s25 := k23.stp 999 o16
  refine ⟨_, rfl, ?_⟩
  replace h14 := h14.stp s25 (by decide)
  replace h19 := h19.stp s25 (by decide)
  replace hB := hB.stp s25 (by decide)
  refine st_val (ex_not rfl) (by decide) trivial ?_
  refine st_val (ex_move rfl) (by decide) trivial ?_
  obtain ⟨q27, hq27, hF⟩ := bind_some hF
  refine wpF_cutAt 4 (fun a29 w28 => Fr a29 20 [(2, u2), (3, (.pointer (some ⟨b13, 0, none⟩))), (4, (.pointer (some ⟨b18, 0, none⟩))), (15, (.bool q27))] ∧ Keeps w22 w28) ?_ ?_
  all_goals simp only [List.take_succ_cons, List.take_zero, List.drop_succ_cons, List.drop_zero]
  · have kp : Keeps w22 w22 := Keeps.refl _
    rcases Bool.eq_false_or_eq_true (!x21) with t30 | t30
    · rw [if_pos t30] at hq27
      refine st_no rfl rfl (by rw [t30]; rfl) (by decide) ?_
      refine st_no rfl rfl (by rw [t30]; rfl) (by decide) ?_
      refine st_no rfl rfl (by rw [t30]; rfl) (by decide) ?_
      refine st_val (ex_pick_t (congrArg (fun b => some (Value.bool b)) t30) rfl) (by decide) trivial ?_
      have hq272 := Option.some.inj hq27
      refine wpF_end (r := [(2, u2), (3, (.pointer (some ⟨b13, 0, none⟩))), (4, (.pointer (some ⟨b18, 0, none⟩))), (15, (.bool true))]) ⟨rfl, rfl, rfl, rfl, trivial⟩ ?_
      subst hq272
      refine np_norm (fun a ha => ⟨ha, kp⟩)
    · rw [if_neg (by rw [t30]; decide)] at hq27
      refine st_val (ex_loadA rfl Try.isAgg31 Try.sizeOf31 rfl h19.cells) (by decide) ⟨_, rfl, (congrArg (fun b => some (Value.bool b)) t30)⟩ ?_
      obtain ⟨x31, hx31, hq27⟩ := bind_some hq27
      refine st_op (by decide) ⟨_, rfl, (congrArg (fun b => some (Value.bool b)) t30)⟩ ?_
      refine wf_call (cS_neGood w22 _ p1 (⟨_, _, _, rfl, (h6.keep hB.keeps), (h8.keep hB.keeps), (h10.keep hB.keeps)⟩) x31 hx31) Try.call76 ⟨rfl, trivial⟩ ?_
      rintro e36 w32 ⟨rfl, k33⟩
      have s35 := k33.stp 999 o16
      refine ⟨_, rfl, ?_⟩
      replace h14 := h14.stp s35 (by decide)
      replace h19 := h19.stp s35 (by decide)
      replace hB := hB.stp s35 (by decide)
      replace kp := Keeps.trans kp k33
      refine st_val (ex_not rfl) (by decide) ⟨_, rfl, (congrArg (fun b => some (Value.bool b)) t30)⟩ ?_
      refine st_val (ex_pick_f (congrArg (fun b => some (Value.bool b)) t30) rfl) (by decide) trivial ?_
      have hq272 := Option.some.inj hq27
      refine wpF_end (r := [(2, u2), (3, (.pointer (some ⟨b13, 0, none⟩))), (4, (.pointer (some ⟨b18, 0, none⟩))), (15, (.bool (!x31)))]) ⟨rfl, rfl, rfl, rfl, trivial⟩ ?_
      subst hq272
      refine np_norm (fun a ha => ⟨ha, kp⟩)
  rintro a39 w28 ⟨ha, k37⟩
  have s38 := k37.stp 999 o16
  replace h14 := h14.stp s38 (by decide)
  replace h19 := h19.stp s38 (by decide)
  replace hB := hB.stp s38 (by decide)
  refine wl_of ha ?_
  refine wpF_end (r := [(2, u2), (3, (.pointer (some ⟨b13, 0, none⟩))), (4, (.pointer (some ⟨b18, 0, none⟩))), (15, (.bool q27))]) ⟨rfl, rfl, rfl, rfl, trivial⟩ ?_
  refine nx ?_
  refine wpC_cond rfl (fun t40 => ?_) (fun t40 => ?_)
  · rw [if_pos t40] at hF
    refine wpC_seq ?_
    refine wpC_region ?_
    refine st_val (ex_assign rfl) (by decide) trivial ?_
    refine st_val (ex_assign rfl) (by decide) trivial ?_
    refine wpF_end (r := [(6, (.bool false)), (7, (.bool false))]) ⟨rfl, rfl, trivial⟩ ?_
    refine nx ?_
    refine wpC_ret ?_
    refine nt_ret ?_
    have e41 := Option.some.inj hF
    subst e41
    refine ret_post (P := Try.prog) (vs := [(.bool false), (.bool false)]) Try.results39 ⟨rfl, rfl, trivial⟩ ?_
    exact ⟨rfl, hB.keeps⟩
  · rw [if_neg (by rw [t40]; decide)] at hF
    refine wpC_skip ?_
    refine nx ?_
    refine wpC_seq ?_
    refine wpC_region ?_
    refine st_val (ex_loadA rfl Try.isAgg64 Try.sizeOf64 rfl h14.cells) (by decide) trivial ?_
    refine st_val (ex_loadA rfl Try.isAgg31 Try.sizeOf31 rfl h19.cells) (by decide) trivial ?_
    refine st_val (ex_move rfl) (by decide) trivial ?_
    obtain ⟨x42, hx42, hF⟩ := bind_some hF
    refine st_op (by decide) trivial ?_
    refine wf_call (cS_prShape w28 _ p0 (⟨_, _, rfl, (h2.keep hB.keeps), (h4.keep hB.keeps)⟩) _ p1 (⟨_, _, _, rfl, (h6.keep hB.keeps), (h8.keep hB.keeps), (h10.keep hB.keeps)⟩) _ p2 (g2.keep hB.keeps) x42 hx42) Try.call80 ⟨rfl, rfl, rfl, trivial⟩ ?_
    rintro e47 w43 ⟨rfl, k44⟩
    have s46 := k44.stp 999 o16
    refine ⟨_, rfl, ?_⟩
    replace h14 := h14.stp s46 (by decide)
    replace h19 := h19.stp s46 (by decide)
    replace hB := hB.stp s46 (by decide)
    refine st_val (ex_assign rfl) (by decide) trivial ?_
    refine st_val (ex_assign rfl) (by decide) trivial ?_
    refine wpF_end (r := [(6, (.bool x42)), (7, (.bool true))]) ⟨rfl, rfl, trivial⟩ ?_
    refine nx ?_
    refine wpC_ret ?_
    have e48 := Option.some.inj hF
    subst e48
    refine ret_post (P := Try.prog) (vs := [(.bool x42), (.bool true)]) Try.results39 ⟨rfl, rfl, trivial⟩ ?_
    exact ⟨rfl, hB.keeps⟩

def fI_portsOk_s1 (p0 : T_Network) : Int → (List Int) → Unit → Option (Lp Unit Unit Bool) := fun (i16 : Int) (x26 : List Int) (s : Unit) =>
  (ix p0.Ends i16) >>= fun x34 =>
  if (x26.length : Int) != (x34.length : Int) then
    some (.ret false)
  else
    some (.go ())
def fI_portsOk (p0 : T_Network) (p1 : List (List Int)) : Option Bool :=
  if (p1.length : Int) != (p0.Ends.length : Int) then
    some false
  else
    (forI (fI_portsOk_s1 p0) p1 0 ()) >>= fun q17 =>
    match q17 with
    | .inl _ =>
      some true
    | .inr r' => some r'

def pI_portsOk (w : World) (r : Bool) : Ending → World → Prop := fun e w' => e = .returned (.bool r) ∧ Keeps w w'
set_option maxRecDepth 100000 in
set_option maxHeartbeats 2000000 in
theorem cI_portsOk (w : World) (u0 : List Value) (p0 : T_Network) (g0 : Rp.rd zt w u0 p0) (u1 : Value) (p1 : List (List Int)) (g1 : RdL zt w u1 p1) (r : Bool) (hF : fI_portsOk p0 p1 = some r) :
    Calls Try.prog 115 #[.agg u0.toArray, u1] w (pI_portsOk w r) := by
  unfold fI_portsOk at hF
  obtain ⟨v1, v3, v5, rfl, h2, h4, h6⟩ := g0
  have hB : Bs (fun _ => 1) (col (fun _ => 1)) w w := Bs.start _ _
  refine calls_start (n := 30) (vs := [(.agg #[v1, v3, v5]), u1]) Try.func115 rfl rfl ?_
  refine wpC_seq ?_
  refine wpC_region ?_
  refine st_op (by decide) trivial ?_
  refine wf_box (o := (col (fun _ => 1))) w.heap.size 11 hB.keeps.size (cs := [v1, v3, v5]) rfl rfl ?_
  intro o7 w8 b9 h10 s11
  replace hB := hB.stp s11 (by decide)
  refine st_val (ex_assign rfl) (by decide) trivial ?_
  refine wpF_end (r := [(1, u1), (2, (.pointer (some ⟨b9, 0, none⟩)))]) ⟨rfl, rfl, trivial⟩ ?_
  refine nx ?_
  refine wpC_seq ?_
  refine wpC_seq ?_
  refine wpC_region ?_
  refine st_val (ex_move rfl) (by decide) trivial ?_
  refine st_val (ex_lenR rfl g1 Try.underlying41) (by decide) trivial ?_
  refine st_val (ex_field rfl Try.underlying31 rfl Try.sizeOf29) (by decide) trivial ?_
  refine st_val (ex_load1 rfl Try.isAgg29 (h10.cell rfl)) (by decide) trivial ?_
  refine st_val (ex_lenR rfl h2 Try.underlying29) (by decide) trivial ?_
  refine st_val (ex_neq rfl rfl) (by decide) trivial ?_
  refine wpF_end (r := [(1, u1), (2, (.pointer (some ⟨b9, 0, none⟩))), (12, (.bool ((p1.length : Int) != (p0.Ends.length : Int))))]) ⟨rfl, rfl, rfl, trivial⟩ ?_
  refine nx ?_
  refine wpC_cond rfl (fun t12 => ?_) (fun t12 => ?_)
  · rw [if_pos t12] at hF
    refine wpC_seq ?_
    refine wpC_region ?_
    refine st_val (ex_assign rfl) (by decide) trivial ?_
    refine wpF_end (r := [(4, (.bool false))]) ⟨rfl, trivial⟩ ?_
    refine nx ?_
    refine wpC_ret ?_
    refine nt_ret ?_
    have e13 := Option.some.inj hF
    subst e13
    refine ret_post (P := Try.prog) (vs := [(.bool false)]) Try.results115 ⟨rfl, trivial⟩ ?_
    exact ⟨rfl, hB.keeps⟩
  · rw [if_neg (by rw [t12]; decide)] at hF
    refine wpC_skip ?_
    refine nx ?_
    refine wpC_seq ?_
    refine wpC_seq ?_
    refine wpC_region ?_
    refine st_val (ex_move rfl) (by decide) trivial ?_
    refine st_val (ex_lenR rfl g1 Try.underlying41) (by decide) trivial ?_
    refine st_val (ex_move rfl) (by decide) trivial ?_
    refine wpF_end (r := [(2, (.pointer (some ⟨b9, 0, none⟩))), (13, u1), (14, (.int .i64 (p1.length : Int))), (15, (.int .i64 0))]) ⟨rfl, rfl, rfl, rfl, trivial⟩ ?_
    refine nx ?_
    obtain ⟨q17, hq17, hF⟩ := bind_some hF
    refine wpC_cutN (fun a w15 => ∃ (o14 : Tg), q17 = .inl () ∧ Fr a 30 [] ∧ Bs (fun _ => 1) o14 w w15) (fun a w' => ∃ r', q17 = .inr r' ∧ bodyPost Try.prog Try.f115 (pI_portsOk w r') .ret a w') ?_ ?_ ?_
    · refine wpC_block ?_
      refine wpC_loop (fun (K : Nat) a w15 => ∃ (i16 : Int) (o14 : Tg), forI (fI_portsOk_s1 p0) (p1.drop i16.toNat) i16 () = some q17 ∧ (p1.drop i16.toNat).length = K ∧ 0 ≤ i16 ∧ Fr a 30 [(2, (.pointer (some ⟨b9, 0, none⟩))), (13, u1), (14, (.int .i64 (p1.length : Int))), (15, (.int .i64 i16))] ∧ Bs (fun _ => 1) o14 w w15 ∧ Bx w.heap.size 11 o14 w15 b9 31 [v1, v3, v5]) _ (fun a ha => ⟨0, o7, hq17, rfl, Int.le_refl 0, ha.sub (r := [(2, (.pointer (some ⟨b9, 0, none⟩))), (13, u1), (14, (.int .i64 (p1.length : Int))), (15, (.int .i64 0))]) ⟨rfl, rfl, rfl, rfl, trivial⟩, hB, h10⟩) ?_
      rintro K21 a w15 ⟨i16, o14, l18, m20, z19, ha, hB, h10⟩
      by_cases t25 : i16 < (p1.length : Int)
      · obtain ⟨x26, q22, hx26, b23, n24⟩ := forI_cons z19 t25 l18
        have hle := g1.len_le
        dsimp only [fI_portsOk_s1] at b23
        refine wp_of ha ?_
        refine wpC_seq ?_
        refine wpC_region ?_
        refine st_val (ex_lss rfl rfl) (by decide) trivial ?_
        refine wpF_end (r := [(2, (.pointer (some ⟨b9, 0, none⟩))), (13, u1), (14, (.int .i64 (p1.length : Int))), (15, (.int .i64 i16)), (16, (.bool (decide (i16 < (p1.length : Int)))))]) ⟨rfl, rfl, rfl, rfl, rfl, trivial⟩ ?_
        refine nx ?_
        refine wpC_seq ?_
        refine wpC_true (congrArg (fun b => some (Value.bool b)) (decide_eq_true t25)) ?_
        refine wpC_skip ?_
        refine nx ?_
        refine wpC_seq ?_
        refine wpC_block ?_
        refine wpC_seq ?_
        refine wpC_region ?_
        refine st_val (ex_move rfl) (by decide) trivial ?_
        refine st_op (by decide) trivial ?_
        refine wf_atZ g1 hx26 hB rfl rfl Try.underlying41 Try.sizeOf23 ?_
        intro b27 f28 c29 h30 h31
        obtain ⟨v32, rfl, h33⟩ := h31
        refine st_val (ex_load1 rfl Try.isAgg23 (cell_of_cells h30)) (by decide) trivial ?_
        refine st_val (ex_assign rfl) (by decide) trivial ?_
        refine st_val (ex_assign rfl) (by decide) trivial ?_
        refine wpF_end (r := [(2, (.pointer (some ⟨b9, 0, none⟩))), (5, (.int .i64 i16)), (6, v32), (13, u1), (14, (.int .i64 (p1.length : Int))), (15, (.int .i64 i16))]) ⟨rfl, rfl, rfl, rfl, rfl, rfl, trivial⟩ ?_
        refine nx ?_
        refine wpC_seq ?_
        refine wpC_region ?_
        refine st_val (ex_move rfl) (by decide) trivial ?_
        refine st_val (ex_lenR rfl h33 Try.underlying23) (by decide) trivial ?_
        refine st_val (ex_field rfl Try.underlying31 rfl Try.sizeOf29) (by decide) trivial ?_
        refine st_val (ex_load1 rfl Try.isAgg29 (h10.cell rfl)) (by decide) trivial ?_
        refine st_val (ex_move rfl) (by decide) trivial ?_
        obtain ⟨x34, hx34, b23⟩ := bind_some b23
        refine st_op (by decide) trivial ?_
        refine wf_atZ h2 hx34 hB rfl rfl Try.underlying29 Try.sizeOf110 ?_
        intro b35 f36 c37 h38 h39
        obtain ⟨v40, rfl, h41⟩ := h39
        refine st_val (ex_load1 rfl Try.isAgg110 (cell_of_cells h38)) (by decide) trivial ?_
        refine st_val (ex_lenR rfl h41 Try.underlying110) (by decide) trivial ?_
        refine st_val (ex_neq rfl rfl) (by decide) trivial ?_
        refine wpF_end (r := [(2, (.pointer (some ⟨b9, 0, none⟩))), (13, u1), (14, (.int .i64 (p1.length : Int))), (15, (.int .i64 i16)), (28, (.bool ((x26.length : Int) != (x34.length : Int))))]) ⟨rfl, rfl, rfl, rfl, rfl, trivial⟩ ?_
        refine nx ?_
        refine wpC_cond rfl (fun t42 => ?_) (fun t42 => ?_)
        · rw [if_pos t42] at b23
          refine wpC_seq ?_
          refine wpC_region ?_
          refine st_val (ex_assign rfl) (by decide) trivial ?_
          refine wpF_end (r := [(4, (.bool false))]) ⟨rfl, trivial⟩ ?_
          refine nx ?_
          refine wpC_ret ?_
          refine nb_ret ?_
          refine nt_ret ?_
          refine nt_ret ?_
          refine nb_ret ?_
          refine np_ret ?_
          have e43 := Option.some.inj b23
          subst e43
          refine fun a ha => ⟨_, n24, ?_⟩
          refine ret_post (P := Try.prog) (vs := [(.bool false)]) Try.results115 ⟨rfl, trivial⟩ ?_ a ha
          exact ⟨rfl, hB.keeps⟩
        · rw [if_neg (by rw [t42]; decide)] at b23
          refine wpC_skip ?_
          refine nb_norm ?_
          refine nx ?_
          refine wpC_region ?_
          refine st_val (ex_add rfl rfl (ck_in (by omega) (by omega))) (by decide) trivial ?_
          refine st_val (ex_move rfl) (by decide) trivial ?_
          refine wpF_end (r := [(2, (.pointer (some ⟨b9, 0, none⟩))), (13, u1), (14, (.int .i64 (p1.length : Int))), (15, (.int .i64 (i16 + 1)))]) ⟨rfl, rfl, rfl, rfl, trivial⟩ ?_
          refine nt_norm ?_
          have e44 := Option.some.inj b23
          subst e44
          refine to_k (r := [(2, (.pointer (some ⟨b9, 0, none⟩))), (13, u1), (14, (.int .i64 (p1.length : Int))), (15, (.int .i64 (i16 + 1)))]) ⟨rfl, rfl, rfl, rfl, trivial⟩ ?_
          intro a ha
          exact ⟨_, (by rw [← m20]; simp only [List.length_drop]; omega), i16 + 1, o14, n24, rfl, (by omega), ha, hB, h10⟩
      · have r45 := forI_done t25 l18
        refine wp_of ha ?_
        refine wpC_seq ?_
        refine wpC_region ?_
        refine st_val (ex_lss rfl rfl) (by decide) trivial ?_
        refine wpF_end (r := [(2, (.pointer (some ⟨b9, 0, none⟩))), (13, u1), (14, (.int .i64 (p1.length : Int))), (15, (.int .i64 i16)), (16, (.bool (decide (i16 < (p1.length : Int)))))]) ⟨rfl, rfl, rfl, rfl, rfl, trivial⟩ ?_
        refine nx ?_
        refine wpC_seq ?_
        refine wpC_false (congrArg (fun b => some (Value.bool b)) (decide_eq_false t25)) ?_
        refine wpC_exit ?_
        refine nt_exit ?_
        refine nt_exit ?_
        refine nb_hit ?_
        refine np_norm ?_
        refine to_k (r := []) trivial ?_
        intro a ha
        exact ⟨o14, r45, ha, hB⟩
    · rintro a w15 ⟨o14, rfl, ha, hB⟩
      dsimp only at hF
      refine ap_k ha ?_
      refine nx ?_
      refine wpC_seq ?_
      refine wpC_region ?_
      refine st_val (ex_assign rfl) (by decide) trivial ?_
      refine wpF_end (r := [(4, (.bool true))]) ⟨rfl, trivial⟩ ?_
      refine nx ?_
      refine wpC_ret ?_
      have e46 := Option.some.inj hF
      subst e46
      refine ret_post (P := Try.prog) (vs := [(.bool true)]) Try.results115 ⟨rfl, trivial⟩ ?_
      exact ⟨rfl, hB.keeps⟩
    · rintro a w15 ⟨r', rfl, b47⟩
      dsimp only at hF
      have e48 := Option.some.inj hF
      subst e48
      exact b47

def fI_isLabeling_1 (p0 : List Int) (p1 : T_Problem) : Option Bool :=
  (fI_Problem_hasLabels p1 p0) >>= fun x5 =>
  some (!x5)

def pI_isLabeling_1 (w : World) (r : Bool) : Ending → World → Prop := fun e w' => e = .returned (.bool r) ∧ Keeps w w'
set_option maxRecDepth 100000 in
set_option maxHeartbeats 2000000 in
theorem cI_isLabeling_1 (w : World) (u0 : Value) (p0 : List Int) (g0 : RdL zt w u0 p0) (b1 : Nat) (u1 : List Value) (p1 : T_Problem) (k1 : Cells w b1 0 u1) (g1 : Rp.rd zt w u1 p1) (r : Bool) (hF : fI_isLabeling_1 p0 p1 = some r) :
    Calls Try.prog 117 #[u0, .pointer (some ⟨b1, 0, none⟩)] w (pI_isLabeling_1 w r) := by
  unfold fI_isLabeling_1 at hF
  have g1k := g1
  obtain ⟨v1, v3, rfl, h2, h4⟩ := g1
  have hB : Bs (fun _ => 1) (col (fun _ => 1)) w w := Bs.start _ _
  refine calls_start (n := 8) (vs := [u0, (.pointer (some ⟨b1, 0, none⟩))]) Try.func117 rfl rfl ?_
  refine wpC_seq ?_
  refine wpC_region ?_
  refine st_val (ex_assign rfl) (by decide) trivial ?_
  refine wpF_end (r := [(0, u0), (1, (.pointer (some ⟨b1, 0, none⟩)))]) ⟨rfl, rfl, trivial⟩ ?_
  refine nx ?_
  refine wpC_seq ?_
  refine wpC_region ?_
  refine st_val (ex_loadA rfl Try.isAgg64 Try.sizeOf64 rfl (k1.keep hB.keeps)) (by decide) trivial ?_
  refine st_val (ex_move rfl) (by decide) trivial ?_
  obtain ⟨x5, hx5, hF⟩ := bind_some hF
  refine st_op (by decide) trivial ?_
  refine wf_call (cI_Problem_hasLabels w _ p1 (⟨_, _, rfl, (h2.keep hB.keeps), (h4.keep hB.keeps)⟩) _ p0 (g0.keep hB.keeps) x5 hx5) Try.call118 ⟨rfl, rfl, trivial⟩ ?_
  rintro e10 w6 ⟨rfl, k7⟩
  have s9 := k7.stp 999 (col (fun _ => 1))
  refine ⟨_, rfl, ?_⟩
  replace hB := hB.stp s9 (by decide)
  refine st_val (ex_not rfl) (by decide) trivial ?_
  refine st_val (ex_assign rfl) (by decide) trivial ?_
  refine wpF_end (r := [(3, (.bool (!x5)))]) ⟨rfl, trivial⟩ ?_
  refine nx ?_
  refine wpC_ret ?_
  have e11 := Option.some.inj hF
  subst e11
  refine ret_post (P := Try.prog) (vs := [(.bool (!x5))]) Try.results117 ⟨rfl, trivial⟩ ?_
  exact ⟨rfl, hB.keeps⟩

def fI_isLabeling (p0 : T_Problem) (p1 : T_Network) (p2 : List (List Int)) : Option Bool :=
  (fI_portsOk p1 p2) >>= fun x21 =>
  (
    if x21 then
      (fX_slices_ContainsFunc_LLint_int p2 (fun z31 => fI_isLabeling_1 z31 p0)) >>= fun x34 =>
      some (!x34)
    else
      some false) >>= fun q27 =>
  some q27

def pI_isLabeling (w : World) (r : Bool) : Ending → World → Prop := fun e w' => e = .returned (.bool r) ∧ Keeps w w'
set_option maxRecDepth 100000 in
set_option maxHeartbeats 2000000 in
theorem cI_isLabeling (w : World) (u0 : List Value) (p0 : T_Problem) (g0 : Rp.rd zt w u0 p0) (u1 : List Value) (p1 : T_Network) (g1 : Rp.rd zt w u1 p1) (u2 : Value) (p2 : List (List Int)) (g2 : RdL zt w u2 p2) (r : Bool) (hF : fI_isLabeling p0 p1 p2 = some r) :
    Calls Try.prog 82 #[.agg u0.toArray, .agg u1.toArray, u2] w (pI_isLabeling w r) := by
  unfold fI_isLabeling at hF
  obtain ⟨v1, v3, rfl, h2, h4⟩ := g0
  obtain ⟨v5, v7, v9, rfl, h6, h8, h10⟩ := g1
  have hB : Bs (fun _ => 1) (col (fun _ => 1)) w w := Bs.start _ _
  refine calls_start (n := 16) (vs := [(.agg #[(.int .i64 p0.Labels), (.int .i64 p0.Degree), v1, v3]), (.agg #[v5, v7, v9]), u2]) Try.func82 rfl rfl ?_
  refine wpC_seq ?_
  refine wpC_region ?_
  refine st_op (by decide) trivial ?_
  refine wf_box (o := (col (fun _ => 1))) w.heap.size 11 hB.keeps.size (cs := [(.int .i64 p0.Labels), (.int .i64 p0.Degree), v1, v3]) rfl rfl ?_
  intro o11 w12 b13 h14 s15
  replace hB := hB.stp s15 (by decide)
  refine st_op (by decide) trivial ?_
  refine wf_box (o := o11) w.heap.size 12 hB.keeps.size (cs := [v5, v7, v9]) rfl rfl ?_
  intro o16 w17 b18 h19 s20
  replace h14 := h14.stp s20 (by decide)
  replace hB := hB.stp s20 (by decide)
  refine st_val (ex_assign rfl) (by decide) trivial ?_
  refine wpF_end (r := [(2, u2), (3, (.pointer (some ⟨b13, 0, none⟩))), (4, (.pointer (some ⟨b18, 0, none⟩)))]) ⟨rfl, rfl, rfl, trivial⟩ ?_
  refine nx ?_
  refine wpC_seq ?_
  refine wpC_region ?_
  refine st_val (ex_loadA rfl Try.isAgg31 Try.sizeOf31 rfl h19.cells) (by decide) trivial ?_
  refine st_val (ex_move rfl) (by decide) trivial ?_
  obtain ⟨x21, hx21, hF⟩ := bind_some hF
  refine st_op (by decide) trivial ?_
  refine wf_call (cI_portsOk w17 _ p1 (⟨_, _, _, rfl, (h6.keep hB.keeps), (h8.keep hB.keeps), (h10.keep hB.keeps)⟩) _ p2 (g2.keep hB.keeps) x21 hx21) Try.call115 ⟨rfl, rfl, trivial⟩ ?_
  rintro e26 w22 ⟨rfl, k23⟩
  have s25 := k23.stp 999 o16
  refine ⟨_, rfl, ?_⟩
  replace h14 := h14.stp s25 (by decide)
  replace h19 := h19.stp s25 (by decide)
  replace hB := hB.stp s25 (by decide)
  refine st_val (ex_move rfl) (by decide) trivial ?_
  obtain ⟨q27, hq27, hF⟩ := bind_some hF
  refine wpF_cutAt 5 (fun a29 w28 => Fr a29 16 [(15, (.bool q27))] ∧ Keeps w22 w28) ?_ ?_
  all_goals simp only [List.take_succ_cons, List.take_zero, List.drop_succ_cons, List.drop_zero]
  · have kp : Keeps w22 w22 := Keeps.refl _
    rcases Bool.eq_false_or_eq_true (x21) with t30 | t30
    · rw [if_pos t30] at hq27
      refine st_val (ex_move rfl) (by decide) ⟨_, rfl, (congrArg (fun b => some (Value.bool b)) t30)⟩ ?_
      refine st_val (ex_func (vs := [(.pointer (some ⟨b13, 0, none⟩))]) ⟨rfl, trivial⟩) (by decide) ⟨_, rfl, (congrArg (fun b => some (Value.bool b)) t30)⟩ ?_
      obtain ⟨x34, hx34, hq27⟩ := bind_some hq27
      refine st_op (by decide) ⟨_, rfl, (congrArg (fun b => some (Value.bool b)) t30)⟩ ?_
      refine wf_call (cX_slices_ContainsFunc_LLint_int w22 _ p2 (g2.keep hB.keeps) _ (fun z31 => fI_isLabeling_1 z31 p0) (show FnV Try.prog w22 (.func (.func 117) #[] #[(.pointer (some ⟨b13, 0, none⟩))]) (fun z31 => fI_isLabeling_1 z31 p0) from ⟨_, _, rfl, Try.call117, fun ww vs xx rr kk hok hG => by (obtain ⟨v32, rfl, h33⟩ := hok; exact cI_isLabeling_1 ww _ xx h33 b13 _ p0 ((h14.cells).keep kk) (Rp.keep ((show Rp.rd zt w22 [(.int .i64 p0.Labels), (.int .i64 p0.Degree), v1, v3] (p0 : T_Problem) from ⟨_, _, rfl, (h2.keep hB.keeps), (h4.keep hB.keeps)⟩)) kk) rr hG)⟩) x34 hx34) Try.call116 ⟨rfl, rfl, trivial⟩ ?_
      rintro e39 w35 ⟨rfl, k36⟩
      have s38 := k36.stp 999 o16
      refine ⟨_, rfl, ?_⟩
      replace h14 := h14.stp s38 (by decide)
      replace h19 := h19.stp s38 (by decide)
      replace hB := hB.stp s38 (by decide)
      replace kp := Keeps.trans kp k36
      refine st_val (ex_not rfl) (by decide) ⟨_, rfl, (congrArg (fun b => some (Value.bool b)) t30)⟩ ?_
      refine st_val (ex_pick_t (congrArg (fun b => some (Value.bool b)) t30) rfl) (by decide) trivial ?_
      have hq272 := Option.some.inj hq27
      refine wpF_end (r := [(15, (.bool (!x34)))]) ⟨rfl, trivial⟩ ?_
      subst hq272
      refine np_norm (fun a ha => ⟨ha, kp⟩)
    · rw [if_neg (by rw [t30]; decide)] at hq27
      refine st_no rfl rfl (by rw [t30]; rfl) (by decide) ?_
      refine st_no rfl rfl (by rw [t30]; rfl) (by decide) ?_
      refine st_no rfl rfl (by rw [t30]; rfl) (by decide) ?_
      refine st_no rfl rfl (by rw [t30]; rfl) (by decide) ?_
      refine st_val (ex_pick_f (congrArg (fun b => some (Value.bool b)) t30) rfl) (by decide) trivial ?_
      have hq272 := Option.some.inj hq27
      refine wpF_end (r := [(15, (.bool false))]) ⟨rfl, trivial⟩ ?_
      subst hq272
      refine np_norm (fun a ha => ⟨ha, kp⟩)
  rintro a42 w28 ⟨ha, k40⟩
  have s41 := k40.stp 999 o16
  replace h14 := h14.stp s41 (by decide)
  replace h19 := h19.stp s41 (by decide)
  replace hB := hB.stp s41 (by decide)
  refine wl_of ha ?_
  refine st_val (ex_assign rfl) (by decide) trivial ?_
  refine wpF_end (r := [(6, (.bool q27))]) ⟨rfl, trivial⟩ ?_
  refine nx ?_
  refine wpC_ret ?_
  have e43 := Option.some.inj hF
  subst e43
  refine ret_post (P := Try.prog) (vs := [(.bool q27)]) Try.results82 ⟨rfl, trivial⟩ ?_
  exact ⟨rfl, hB.keeps⟩

def fI_IsLabeling (fuel : Nat) (p0 : T_Problem) (p1 : T_Network) (p2 : List (List Int)) : Option (Bool × Bool) :=
  (fI_IsProblem fuel p0) >>= fun x21 =>
  (
    if !x21 then
      some true
    else
      (fI_IsNetwork p1) >>= fun x31 =>
      some (!x31)) >>= fun q27 =>
  if q27 then
    some (false, false)
  else
    (fI_isLabeling p0 p1 p2) >>= fun x42 =>
    some (x42, true)

def pI_IsLabeling (w : World) (r : Bool × Bool) : Ending → World → Prop := fun e w' => e = .returned (.tuple #[.bool r.1, .bool r.2]) ∧ Keeps w w'
set_option maxRecDepth 100000 in
set_option maxHeartbeats 2000000 in
theorem cI_IsLabeling (fuel : Nat) (w : World) (u0 : List Value) (p0 : T_Problem) (g0 : Rp.rd zt w u0 p0) (u1 : List Value) (p1 : T_Network) (g1 : Rp.rd zt w u1 p1) (u2 : Value) (p2 : List (List Int)) (g2 : RdL zt w u2 p2) (r : Bool × Bool) (hF : fI_IsLabeling fuel p0 p1 p2 = some r) :
    Calls Try.prog 42 #[.agg u0.toArray, .agg u1.toArray, u2] w (pI_IsLabeling w r) := by
  unfold fI_IsLabeling at hF
  obtain ⟨v1, v3, rfl, h2, h4⟩ := g0
  obtain ⟨v5, v7, v9, rfl, h6, h8, h10⟩ := g1
  have hB : Bs (fun _ => 1) (col (fun _ => 1)) w w := Bs.start _ _
  refine calls_start (n := 20) (vs := [(.agg #[(.int .i64 p0.Labels), (.int .i64 p0.Degree), v1, v3]), (.agg #[v5, v7, v9]), u2]) Try.func42 rfl rfl ?_
  refine wpC_seq ?_
  refine wpC_region ?_
  refine st_op (by decide) trivial ?_
  refine wf_box (o := (col (fun _ => 1))) w.heap.size 11 hB.keeps.size (cs := [(.int .i64 p0.Labels), (.int .i64 p0.Degree), v1, v3]) rfl rfl ?_
  intro o11 w12 b13 h14 s15
  replace hB := hB.stp s15 (by decide)
  refine st_op (by decide) trivial ?_
  refine wf_box (o := o11) w.heap.size 12 hB.keeps.size (cs := [v5, v7, v9]) rfl rfl ?_
  intro o16 w17 b18 h19 s20
  replace h14 := h14.stp s20 (by decide)
  replace hB := hB.stp s20 (by decide)
  refine st_val (ex_assign rfl) (by decide) trivial ?_
  refine st_val (ex_assign rfl) (by decide) trivial ?_
  refine wpF_end (r := [(2, u2), (3, (.pointer (some ⟨b13, 0, none⟩))), (4, (.pointer (some ⟨b18, 0, none⟩)))]) ⟨rfl, rfl, rfl, trivial⟩ ?_
  refine nx ?_
  refine wpC_seq ?_
  refine wpC_seq ?_
  refine wpC_region ?_
  refine st_val (ex_loadA rfl Try.isAgg64 Try.sizeOf64 rfl h14.cells) (by decide) trivial ?_
  obtain ⟨x21, hx21, hF⟩ := bind_some hF
  refine st_op (by decide) trivial ?_
  refine wf_call (cI_IsProblem fuel w17 _ p0 (⟨_, _, rfl, (h2.keep hB.keeps), (h4.keep hB.keeps)⟩) x21 hx21) Try.call81 ⟨rfl, trivial⟩ ?_
  rintro e26 w22 ⟨rfl, k23⟩
  have s25 := k23.stp 999 o16
  refine ⟨_, rfl, ?_⟩
  replace h14 := h14.stp s25 (by decide)
  replace h19 := h19.stp s25 (by decide)
  replace hB := hB.stp s25 (by decide)
  refine st_val (ex_not rfl) (by decide) trivial ?_
  refine st_val (ex_move rfl) (by decide) trivial ?_
  obtain ⟨q27, hq27, hF⟩ := bind_some hF
  refine wpF_cutAt 4 (fun a29 w28 => Fr a29 20 [(2, u2), (3, (.pointer (some ⟨b13, 0, none⟩))), (4, (.pointer (some ⟨b18, 0, none⟩))), (15, (.bool q27))] ∧ Keeps w22 w28) ?_ ?_
  all_goals simp only [List.take_succ_cons, List.take_zero, List.drop_succ_cons, List.drop_zero]
  · have kp : Keeps w22 w22 := Keeps.refl _
    rcases Bool.eq_false_or_eq_true (!x21) with t30 | t30
    · rw [if_pos t30] at hq27
      refine st_no rfl rfl (by rw [t30]; rfl) (by decide) ?_
      refine st_no rfl rfl (by rw [t30]; rfl) (by decide) ?_
      refine st_no rfl rfl (by rw [t30]; rfl) (by decide) ?_
      refine st_val (ex_pick_t (congrArg (fun b => some (Value.bool b)) t30) rfl) (by decide) trivial ?_
      have hq272 := Option.some.inj hq27
      refine wpF_end (r := [(2, u2), (3, (.pointer (some ⟨b13, 0, none⟩))), (4, (.pointer (some ⟨b18, 0, none⟩))), (15, (.bool true))]) ⟨rfl, rfl, rfl, rfl, trivial⟩ ?_
      subst hq272
      refine np_norm (fun a ha => ⟨ha, kp⟩)
    · rw [if_neg (by rw [t30]; decide)] at hq27
      refine st_val (ex_loadA rfl Try.isAgg31 Try.sizeOf31 rfl h19.cells) (by decide) ⟨_, rfl, (congrArg (fun b => some (Value.bool b)) t30)⟩ ?_
      obtain ⟨x31, hx31, hq27⟩ := bind_some hq27
      refine st_op (by decide) ⟨_, rfl, (congrArg (fun b => some (Value.bool b)) t30)⟩ ?_
      refine wf_call (cI_IsNetwork w22 _ p1 (⟨_, _, _, rfl, (h6.keep hB.keeps), (h8.keep hB.keeps), (h10.keep hB.keeps)⟩) x31 hx31) Try.call65 ⟨rfl, trivial⟩ ?_
      rintro e36 w32 ⟨rfl, k33⟩
      have s35 := k33.stp 999 o16
      refine ⟨_, rfl, ?_⟩
      replace h14 := h14.stp s35 (by decide)
      replace h19 := h19.stp s35 (by decide)
      replace hB := hB.stp s35 (by decide)
      replace kp := Keeps.trans kp k33
      refine st_val (ex_not rfl) (by decide) ⟨_, rfl, (congrArg (fun b => some (Value.bool b)) t30)⟩ ?_
      refine st_val (ex_pick_f (congrArg (fun b => some (Value.bool b)) t30) rfl) (by decide) trivial ?_
      have hq272 := Option.some.inj hq27
      refine wpF_end (r := [(2, u2), (3, (.pointer (some ⟨b13, 0, none⟩))), (4, (.pointer (some ⟨b18, 0, none⟩))), (15, (.bool (!x31)))]) ⟨rfl, rfl, rfl, rfl, trivial⟩ ?_
      subst hq272
      refine np_norm (fun a ha => ⟨ha, kp⟩)
  rintro a39 w28 ⟨ha, k37⟩
  have s38 := k37.stp 999 o16
  replace h14 := h14.stp s38 (by decide)
  replace h19 := h19.stp s38 (by decide)
  replace hB := hB.stp s38 (by decide)
  refine wl_of ha ?_
  refine wpF_end (r := [(2, u2), (3, (.pointer (some ⟨b13, 0, none⟩))), (4, (.pointer (some ⟨b18, 0, none⟩))), (15, (.bool q27))]) ⟨rfl, rfl, rfl, rfl, trivial⟩ ?_
  refine nx ?_
  refine wpC_cond rfl (fun t40 => ?_) (fun t40 => ?_)
  · rw [if_pos t40] at hF
    refine wpC_seq ?_
    refine wpC_region ?_
    refine st_val (ex_assign rfl) (by decide) trivial ?_
    refine st_val (ex_assign rfl) (by decide) trivial ?_
    refine wpF_end (r := [(6, (.bool false)), (7, (.bool false))]) ⟨rfl, rfl, trivial⟩ ?_
    refine nx ?_
    refine wpC_ret ?_
    refine nt_ret ?_
    have e41 := Option.some.inj hF
    subst e41
    refine ret_post (P := Try.prog) (vs := [(.bool false), (.bool false)]) Try.results42 ⟨rfl, rfl, trivial⟩ ?_
    exact ⟨rfl, hB.keeps⟩
  · rw [if_neg (by rw [t40]; decide)] at hF
    refine wpC_skip ?_
    refine nx ?_
    refine wpC_seq ?_
    refine wpC_region ?_
    refine st_val (ex_loadA rfl Try.isAgg64 Try.sizeOf64 rfl h14.cells) (by decide) trivial ?_
    refine st_val (ex_loadA rfl Try.isAgg31 Try.sizeOf31 rfl h19.cells) (by decide) trivial ?_
    refine st_val (ex_move rfl) (by decide) trivial ?_
    obtain ⟨x42, hx42, hF⟩ := bind_some hF
    refine st_op (by decide) trivial ?_
    refine wf_call (cI_isLabeling w28 _ p0 (⟨_, _, rfl, (h2.keep hB.keeps), (h4.keep hB.keeps)⟩) _ p1 (⟨_, _, _, rfl, (h6.keep hB.keeps), (h8.keep hB.keeps), (h10.keep hB.keeps)⟩) _ p2 (g2.keep hB.keeps) x42 hx42) Try.call82 ⟨rfl, rfl, rfl, trivial⟩ ?_
    rintro e47 w43 ⟨rfl, k44⟩
    have s46 := k44.stp 999 o16
    refine ⟨_, rfl, ?_⟩
    replace h14 := h14.stp s46 (by decide)
    replace h19 := h19.stp s46 (by decide)
    replace hB := hB.stp s46 (by decide)
    refine st_val (ex_assign rfl) (by decide) trivial ?_
    refine st_val (ex_assign rfl) (by decide) trivial ?_
    refine wpF_end (r := [(6, (.bool x42)), (7, (.bool true))]) ⟨rfl, rfl, trivial⟩ ?_
    refine nx ?_
    refine wpC_ret ?_
    have e48 := Option.some.inj hF
    subst e48
    refine ret_post (P := Try.prog) (vs := [(.bool x42), (.bool true)]) Try.results42 ⟨rfl, rfl, trivial⟩ ?_
    exact ⟨rfl, hB.keeps⟩

end Go.Proofs.Ytijaojnaamkinaa
