/- spec.prLists, spec.prGood, spec.prHas, spec.prNode, spec.AllowsNode, spec.l1Most, spec.prEdge, spec.AllowsEdge, impl.configurationsOk, impl.IsProblem, (impl.Problem).hasLabels, (impl.Problem).node, (impl.Problem).edge, impl.AllowsNode, impl.AllowsEdge: plain functions, and the walks that show that the program computes them (printed by gen.py). -/
import Derived.Test.YtijaojnaamkinaaGN
namespace Go.Proofs.Ytijaojnaamkinaa
open Go.RowKit
set_option linter.unusedSimpArgs false
set_option linter.unusedVariables false

def fS_prLists_s2 (p1 : Int) (x13 : List Int) : Int → Option (Lp Int Int Bool) := fun (s : Int) =>
  if decide (s < p1) then
    (ck (s - 1)) >>= fun x68 =>
    (ix x13 x68) >>= fun x69 =>
    (ix x13 s) >>= fun x72 =>
    if decide (x69 > x72) then
      some (.ret false)
    else
      (ck (s + 1)) >>= fun x126 =>
      some (.go x126)
  else
    some (.out s)
def fS_prLists_s1 (fuel : Nat) (p0 : List (List Int)) (p1 : Int) (p2 : Int) : Int → (List Int) → Unit → Option (Lp Unit Unit Bool) := fun (i3 : Int) (x13 : List Int) (s : Unit) =>
  (
    if (x13.length : Int) != p1 then
      some true
    else
      (ck (p2 - 1)) >>= fun x25 =>
      (fS_l1All x13 0 x25) >>= fun x26 =>
      if !x26 then
        some true
      else
        if decide (i3 > 0) then
          (ck (i3 - 1)) >>= fun x34 =>
          (ix p0 x34) >>= fun x35 =>
          (fS_prOrder x35 x13) >>= fun x43 =>
          some (decide (x43 ≥ 0))
        else
          some false) >>= fun q21 =>
  if q21 then
    some (.ret false)
  else
    (loopF (fS_prLists_s2 p1 x13) fuel 1) >>= fun q57 =>
    match q57 with
    | .inl y54 =>
      some (.go ())
    | .inr r' => some (.ret r')
def fS_prLists (fuel : Nat) (p0 : List (List Int)) (p1 : Int) (p2 : Int) : Option Bool :=
  (forI (fS_prLists_s1 fuel p0 p1 p2) p0 0 ()) >>= fun q4 =>
  match q4 with
  | .inl _ =>
    some true
  | .inr r' => some r'

def pS_prLists (w : World) (r : Bool) : Ending → World → Prop := fun e w' => e = .returned (.bool r) ∧ Keeps w w'
set_option maxRecDepth 100000 in
set_option maxHeartbeats 2000000 in
theorem cS_prLists (fuel : Nat) (w : World) (u0 : Value) (p0 : List (List Int)) (g0 : RdL zt w u0 p0) (p1 : Int) (p2 : Int) (r : Bool) (hF : fS_prLists fuel p0 p1 p2 = some r) :
    Calls Try.prog 113 #[u0, .int .i64 p1, .int .i64 p2] w (pS_prLists w r) := by
  unfold fS_prLists at hF
  have hB : Bs (fun _ => 1) (col (fun _ => 1)) w w := Bs.start _ _
  refine calls_start (n := 58) (vs := [u0, (.int .i64 p1), (.int .i64 p2)]) Try.func113 rfl rfl ?_
  refine wpC_seq ?_
  refine wpC_region ?_
  refine st_val (ex_assign rfl) (by decide) trivial ?_
  refine wpF_end (r := [(0, u0), (1, (.int .i64 p1)), (2, (.int .i64 p2))]) ⟨rfl, rfl, rfl, trivial⟩ ?_
  refine nx ?_
  refine wpC_seq ?_
  refine wpC_seq ?_
  refine wpC_region ?_
  refine st_val (ex_move rfl) (by decide) trivial ?_
  refine st_val (ex_lenR rfl g0 Try.underlying41) (by decide) trivial ?_
  refine st_val (ex_move rfl) (by decide) trivial ?_
  refine wpF_end (r := [(0, u0), (1, (.int .i64 p1)), (2, (.int .i64 p2)), (10, u0), (11, (.int .i64 (p0.length : Int))), (12, (.int .i64 0))]) ⟨rfl, rfl, rfl, rfl, rfl, rfl, trivial⟩ ?_
  refine nx ?_
  obtain ⟨q4, hq4, hF⟩ := bind_some hF
  refine wpC_cutN (fun a w2 => ∃ (o1 : Tg), q4 = .inl () ∧ Fr a 58 [] ∧ Bs (fun _ => 1) o1 w w2) (fun a w' => ∃ r', q4 = .inr r' ∧ bodyPost Try.prog Try.f113 (pS_prLists w r') .ret a w') ?_ ?_ ?_
  · refine wpC_block ?_
    refine wpC_loop (fun (K : Nat) a w2 => ∃ (i3 : Int) (o1 : Tg), forI (fS_prLists_s1 fuel p0 p1 p2) (p0.drop i3.toNat) i3 () = some q4 ∧ (p0.drop i3.toNat).length = K ∧ 0 ≤ i3 ∧ Fr a 58 [(0, u0), (1, (.int .i64 p1)), (2, (.int .i64 p2)), (10, u0), (11, (.int .i64 (p0.length : Int))), (12, (.int .i64 i3))] ∧ Bs (fun _ => 1) o1 w w2) _ (fun a ha => ⟨0, (col (fun _ => 1)), hq4, rfl, Int.le_refl 0, ha.sub (r := [(0, u0), (1, (.int .i64 p1)), (2, (.int .i64 p2)), (10, u0), (11, (.int .i64 (p0.length : Int))), (12, (.int .i64 0))]) ⟨rfl, rfl, rfl, rfl, rfl, rfl, trivial⟩, hB⟩) ?_
    rintro K8 a w2 ⟨i3, o1, l5, m7, z6, ha, hB⟩
    by_cases t12 : i3 < (p0.length : Int)
    · obtain ⟨x13, q9, hx13, b10, n11⟩ := forI_cons z6 t12 l5
      have hle := g0.len_le
      dsimp only [fS_prLists_s1] at b10
      refine wp_of ha ?_
      refine wpC_seq ?_
      refine wpC_region ?_
      refine st_val (ex_lss rfl rfl) (by decide) trivial ?_
      refine wpF_end (r := [(0, u0), (1, (.int .i64 p1)), (2, (.int .i64 p2)), (10, u0), (11, (.int .i64 (p0.length : Int))), (12, (.int .i64 i3)), (13, (.bool (decide (i3 < (p0.length : Int)))))]) ⟨rfl, rfl, rfl, rfl, rfl, rfl, rfl, trivial⟩ ?_
      refine nx ?_
      refine wpC_seq ?_
      refine wpC_true (congrArg (fun b => some (Value.bool b)) (decide_eq_true t12)) ?_
      refine wpC_skip ?_
      refine nx ?_
      refine wpC_seq ?_
      refine wpC_block ?_
      refine wpC_seq ?_
      refine wpC_region ?_
      refine st_val (ex_move rfl) (by decide) trivial ?_
      refine st_op (by decide) trivial ?_
      refine wf_atZ g0 hx13 hB rfl rfl Try.underlying41 Try.sizeOf23 ?_
      intro b14 f15 c16 h17 h18
      obtain ⟨v19, rfl, h20⟩ := h18
      refine st_val (ex_load1 rfl Try.isAgg23 (cell_of_cells h17)) (by decide) trivial ?_
      refine st_val (ex_assign rfl) (by decide) trivial ?_
      refine st_val (ex_assign rfl) (by decide) trivial ?_
      refine wpF_end (r := [(0, u0), (1, (.int .i64 p1)), (2, (.int .i64 p2)), (7, (.int .i64 i3)), (8, v19), (10, u0), (11, (.int .i64 (p0.length : Int))), (12, (.int .i64 i3))]) ⟨rfl, rfl, rfl, rfl, rfl, rfl, rfl, rfl, trivial⟩ ?_
      refine nx ?_
      refine wpC_seq ?_
      refine wpC_seq ?_
      refine wpC_region ?_
      refine st_val (ex_move rfl) (by decide) trivial ?_
      refine st_val (ex_lenR rfl h20 Try.underlying23) (by decide) trivial ?_
      refine st_val (ex_move rfl) (by decide) trivial ?_
      refine st_val (ex_neq rfl rfl) (by decide) trivial ?_
      refine st_val (ex_move rfl) (by decide) trivial ?_
      obtain ⟨q21, hq21, b10⟩ := bind_some b10
      refine wpF_cutAt 20 (fun a23 w22 => Fr a23 58 [(0, u0), (1, (.int .i64 p1)), (2, (.int .i64 p2)), (8, v19), (10, u0), (11, (.int .i64 (p0.length : Int))), (12, (.int .i64 i3)), (41, (.bool q21))] ∧ Keeps w2 w22) ?_ ?_
      all_goals simp only [List.take_succ_cons, List.take_zero, List.drop_succ_cons, List.drop_zero]
      · have kp : Keeps w2 w2 := Keeps.refl _
        rcases Bool.eq_false_or_eq_true ((x13.length : Int) != p1) with t24 | t24
        · rw [if_pos t24] at hq21
          refine st_no rfl rfl (by rw [t24]; rfl) (by decide) ?_
          refine st_no rfl rfl (by rw [t24]; rfl) (by decide) ?_
          refine st_no rfl rfl (by rw [t24]; rfl) (by decide) ?_
          refine st_no rfl rfl (by rw [t24]; rfl) (by decide) ?_
          refine st_no rfl rfl (by rw [t24]; rfl) (by decide) ?_
          refine st_val (ex_pick_t (congrArg (fun b => some (Value.bool b)) t24) rfl) (by decide) trivial ?_
          refine st_val (ex_move rfl) (by decide) trivial ?_
          refine st_no rfl rfl rfl (by decide) ?_
          refine st_no rfl rfl rfl (by decide) ?_
          refine st_no rfl rfl rfl (by decide) ?_
          refine st_no2 rfl rfl (by decide) ?_
          refine st_no2 rfl rfl (by decide) ?_
          refine st_no2 rfl rfl (by decide) ?_
          refine st_no2 rfl rfl (by decide) ?_
          refine st_no2 rfl rfl (by decide) ?_
          refine st_no2 rfl rfl (by decide) ?_
          refine st_no2 rfl rfl (by decide) ?_
          refine st_no2 rfl rfl (by decide) ?_
          refine st_no rfl rfl rfl (by decide) ?_
          refine st_val (ex_pick_t rfl rfl) (by decide) trivial ?_
          have hq212 := Option.some.inj hq21
          refine wpF_end (r := [(0, u0), (1, (.int .i64 p1)), (2, (.int .i64 p2)), (8, v19), (10, u0), (11, (.int .i64 (p0.length : Int))), (12, (.int .i64 i3)), (41, (.bool true))]) ⟨rfl, rfl, rfl, rfl, rfl, rfl, rfl, rfl, trivial⟩ ?_
          subst hq212
          refine np_norm (fun a ha => ⟨ha, kp⟩)
        · rw [if_neg (by rw [t24]; decide)] at hq21
          refine st_val (ex_move rfl) (by decide) ⟨_, rfl, (congrArg (fun b => some (Value.bool b)) t24)⟩ ?_
          refine st_val (ex_move rfl) (by decide) ⟨_, rfl, (congrArg (fun b => some (Value.bool b)) t24)⟩ ?_
          obtain ⟨x25, hx25, hq21⟩ := bind_some hq21
          refine st_val (ex_sub rfl rfl hx25) (by decide) ⟨_, rfl, (congrArg (fun b => some (Value.bool b)) t24)⟩ ?_
          obtain ⟨x26, hx26, hq21⟩ := bind_some hq21
          refine st_op (by decide) ⟨_, rfl, (congrArg (fun b => some (Value.bool b)) t24)⟩ ?_
          refine wf_call (cS_l1All w2 _ x13 (h20.keep hB.keeps) 0 x25 x26 hx26) Try.call100 ⟨rfl, rfl, rfl, trivial⟩ ?_
          rintro e31 w27 ⟨rfl, k28⟩
          have s30 := k28.stp 999 o1
          refine ⟨_, rfl, ?_⟩
          replace hB := hB.stp s30 (by decide)
          replace kp := Keeps.trans kp k28
          refine st_val (ex_not rfl) (by decide) ⟨_, rfl, (congrArg (fun b => some (Value.bool b)) t24)⟩ ?_
          refine st_val (ex_pick_f (congrArg (fun b => some (Value.bool b)) t24) rfl) (by decide) trivial ?_
          refine st_val (ex_move rfl) (by decide) trivial ?_
          rcases Bool.eq_false_or_eq_true (!x26) with t32 | t32
          · rw [if_pos t32] at hq21
            refine st_no rfl rfl (by rw [t32]; rfl) (by decide) ?_
            refine st_no rfl rfl (by rw [t32]; rfl) (by decide) ?_
            refine st_no rfl rfl (by rw [t32]; rfl) (by decide) ?_
            refine st_no2 rfl rfl (by decide) ?_
            refine st_no2 rfl rfl (by decide) ?_
            refine st_no2 rfl rfl (by decide) ?_
            refine st_no2 rfl rfl (by decide) ?_
            refine st_no2 rfl rfl (by decide) ?_
            refine st_no2 rfl rfl (by decide) ?_
            refine st_no2 rfl rfl (by decide) ?_
            refine st_no2 rfl rfl (by decide) ?_
            refine st_no rfl rfl (by rw [t32]; rfl) (by decide) ?_
            refine st_val (ex_pick_t (congrArg (fun b => some (Value.bool b)) t32) rfl) (by decide) trivial ?_
            have hq212 := Option.some.inj hq21
            refine wpF_end (r := [(0, u0), (1, (.int .i64 p1)), (2, (.int .i64 p2)), (8, v19), (10, u0), (11, (.int .i64 (p0.length : Int))), (12, (.int .i64 i3)), (41, (.bool true))]) ⟨rfl, rfl, rfl, rfl, rfl, rfl, rfl, rfl, trivial⟩ ?_
            subst hq212
            refine np_norm (fun a ha => ⟨ha, kp⟩)
          · rw [if_neg (by rw [t32]; decide)] at hq21
            refine st_val (ex_move rfl) (by decide) ⟨_, rfl, (congrArg (fun b => some (Value.bool b)) t32)⟩ ?_
            refine st_val (ex_gtr rfl rfl) (by decide) ⟨_, rfl, (congrArg (fun b => some (Value.bool b)) t32)⟩ ?_
            refine st_val (ex_move rfl) (by decide) ⟨_, rfl, (congrArg (fun b => some (Value.bool b)) t32)⟩ ?_
            rcases Bool.eq_false_or_eq_true (decide (i3 > 0)) with t33 | t33
            · rw [if_pos t33] at hq21
              refine st_val (ex_move rfl) (by decide) ⟨_, rfl, (congrArg (fun b => some (Value.bool b)) t33)⟩ ?_
              refine st_val (ex_move rfl) (by decide) ⟨_, rfl, (congrArg (fun b => some (Value.bool b)) t33)⟩ ?_
              obtain ⟨x34, hx34, hq21⟩ := bind_some hq21
              refine st_val (ex_sub rfl rfl hx34) (by decide) ⟨_, rfl, (congrArg (fun b => some (Value.bool b)) t33)⟩ ?_
              obtain ⟨x35, hx35, hq21⟩ := bind_some hq21
              refine st_op (by decide) ⟨_, rfl, (congrArg (fun b => some (Value.bool b)) t33)⟩ ?_
              refine wf_atZ g0 hx35 hB rfl rfl Try.underlying41 Try.sizeOf23 ?_
              intro b36 f37 c38 h39 h40
              obtain ⟨v41, rfl, h42⟩ := h40
              refine st_val (ex_load1 rfl Try.isAgg23 (cell_of_cells h39)) (by decide) ⟨_, rfl, (congrArg (fun b => some (Value.bool b)) t33)⟩ ?_
              refine st_val (ex_move rfl) (by decide) ⟨_, rfl, (congrArg (fun b => some (Value.bool b)) t33)⟩ ?_
              obtain ⟨x43, hx43, hq21⟩ := bind_some hq21
              refine st_op (by decide) ⟨_, rfl, (congrArg (fun b => some (Value.bool b)) t33)⟩ ?_
              refine wf_call (cS_prOrder w27 _ x35 (h42.keep hB.keeps) _ x13 (h20.keep hB.keeps) x43 hx43) Try.call102 ⟨rfl, rfl, trivial⟩ ?_
              rintro e48 w44 ⟨rfl, k45⟩
              have s47 := k45.stp 999 o1
              refine ⟨_, rfl, ?_⟩
              replace hB := hB.stp s47 (by decide)
              replace kp := Keeps.trans kp k45
              refine st_val (ex_geq rfl rfl) (by decide) ⟨_, rfl, (congrArg (fun b => some (Value.bool b)) t33)⟩ ?_
              refine st_val (ex_pick_t (congrArg (fun b => some (Value.bool b)) t33) rfl) (by decide) ⟨_, rfl, (congrArg (fun b => some (Value.bool b)) t32)⟩ ?_
              refine st_val (ex_pick_f (congrArg (fun b => some (Value.bool b)) t32) rfl) (by decide) trivial ?_
              have hq212 := Option.some.inj hq21
              refine wpF_end (r := [(0, u0), (1, (.int .i64 p1)), (2, (.int .i64 p2)), (8, v19), (10, u0), (11, (.int .i64 (p0.length : Int))), (12, (.int .i64 i3)), (41, (.bool (decide (x43 ≥ 0))))]) ⟨rfl, rfl, rfl, rfl, rfl, rfl, rfl, rfl, trivial⟩ ?_
              subst hq212
              refine np_norm (fun a ha => ⟨ha, kp⟩)
            · rw [if_neg (by rw [t33]; decide)] at hq21
              refine st_no rfl rfl (by rw [t33]; rfl) (by decide) ?_
              refine st_no rfl rfl (by rw [t33]; rfl) (by decide) ?_
              refine st_no rfl rfl (by rw [t33]; rfl) (by decide) ?_
              refine st_no rfl rfl (by rw [t33]; rfl) (by decide) ?_
              refine st_no rfl rfl (by rw [t33]; rfl) (by decide) ?_
              refine st_no rfl rfl (by rw [t33]; rfl) (by decide) ?_
              refine st_no rfl rfl (by rw [t33]; rfl) (by decide) ?_
              refine st_no rfl rfl (by rw [t33]; rfl) (by decide) ?_
              refine st_val (ex_pick_f (congrArg (fun b => some (Value.bool b)) t33) rfl) (by decide) ⟨_, rfl, (congrArg (fun b => some (Value.bool b)) t32)⟩ ?_
              refine st_val (ex_pick_f (congrArg (fun b => some (Value.bool b)) t32) rfl) (by decide) trivial ?_
              have hq212 := Option.some.inj hq21
              refine wpF_end (r := [(0, u0), (1, (.int .i64 p1)), (2, (.int .i64 p2)), (8, v19), (10, u0), (11, (.int .i64 (p0.length : Int))), (12, (.int .i64 i3)), (41, (.bool false))]) ⟨rfl, rfl, rfl, rfl, rfl, rfl, rfl, rfl, trivial⟩ ?_
              subst hq212
              refine np_norm (fun a ha => ⟨ha, kp⟩)
      rintro a51 w22 ⟨ha, k49⟩
      have s50 := k49.stp 999 o1
      replace hB := hB.stp s50 (by decide)
      refine wl_of ha ?_
      refine wpF_end (r := [(0, u0), (1, (.int .i64 p1)), (2, (.int .i64 p2)), (8, v19), (10, u0), (11, (.int .i64 (p0.length : Int))), (12, (.int .i64 i3)), (41, (.bool q21))]) ⟨rfl, rfl, rfl, rfl, rfl, rfl, rfl, rfl, trivial⟩ ?_
      refine nx ?_
      refine wpC_cond rfl (fun t52 => ?_) (fun t52 => ?_)
      · rw [if_pos t52] at b10
        refine wpC_seq ?_
        refine wpC_region ?_
        refine st_val (ex_assign rfl) (by decide) trivial ?_
        refine wpF_end (r := [(6, (.bool false))]) ⟨rfl, trivial⟩ ?_
        refine nx ?_
        refine wpC_ret ?_
        refine nt_ret ?_
        refine nb_ret ?_
        refine nt_ret ?_
        refine nt_ret ?_
        refine nb_ret ?_
        refine np_ret ?_
        have e53 := Option.some.inj b10
        subst e53
        refine fun a ha => ⟨_, n11, ?_⟩
        refine ret_post (P := Try.prog) (vs := [(.bool false)]) Try.results113 ⟨rfl, trivial⟩ ?_ a ha
        exact ⟨rfl, hB.keeps⟩
      · rw [if_neg (by rw [t52]; decide)] at b10
        refine wpC_skip ?_
        refine nx ?_
        refine wpC_seq ?_
        refine wpC_region ?_
        refine st_val (ex_assign rfl) (by decide) trivial ?_
        refine wpF_end (r := [(0, u0), (1, (.int .i64 p1)), (2, (.int .i64 p2)), (8, v19), (9, (.int .i64 1)), (10, u0), (11, (.int .i64 (p0.length : Int))), (12, (.int .i64 i3))]) ⟨rfl, rfl, rfl, rfl, rfl, rfl, rfl, rfl, trivial⟩ ?_
        refine nx ?_
        obtain ⟨q57, hq57, b10⟩ := bind_some b10
        refine wpC_cutN (fun a w56 => ∃ (y54 : Int) (o55 : Tg), q57 = .inl y54 ∧ Fr a 58 [(0, u0), (1, (.int .i64 p1)), (2, (.int .i64 p2)), (10, u0), (11, (.int .i64 (p0.length : Int))), (12, (.int .i64 i3))] ∧ Bs (fun _ => 1) o55 w w56) (fun a w' => ∃ r', q57 = .inr r' ∧ bodyPost Try.prog Try.f113 (pS_prLists w r') .ret a w') ?_ ?_ ?_
        · refine wpC_block ?_
          refine wpC_loop (fun (K : Nat) a w56 => ∃ (y54 : Int) (o55 : Tg), loopF (fS_prLists_s2 p1 x13) K y54 = some q57 ∧ Fr a 58 [(0, u0), (1, (.int .i64 p1)), (2, (.int .i64 p2)), (8, v19), (9, (.int .i64 y54)), (10, u0), (11, (.int .i64 (p0.length : Int))), (12, (.int .i64 i3))] ∧ Bs (fun _ => 1) o55 w w56) fuel (fun a ha => ⟨1, o1, hq57, ha.sub (r := [(0, u0), (1, (.int .i64 p1)), (2, (.int .i64 p2)), (8, v19), (9, (.int .i64 1)), (10, u0), (11, (.int .i64 (p0.length : Int))), (12, (.int .i64 i3))]) ⟨rfl, rfl, rfl, rfl, rfl, rfl, rfl, rfl, trivial⟩, hB⟩) ?_
          rintro K61 a w56 ⟨y54, o55, l58, ha, hB⟩
          obtain ⟨K65, q62, e66, b63, n64⟩ := loopF_cons l58
          dsimp only [fS_prLists_s2] at b63
          refine wp_of ha ?_
          refine wpC_seq ?_
          refine wpC_seq ?_
          refine wpC_region ?_
          refine st_val (ex_move rfl) (by decide) trivial ?_
          refine st_val (ex_move rfl) (by decide) trivial ?_
          refine st_val (ex_lss rfl rfl) (by decide) trivial ?_
          refine wpF_end (r := [(0, u0), (1, (.int .i64 p1)), (2, (.int .i64 p2)), (8, v19), (9, (.int .i64 y54)), (10, u0), (11, (.int .i64 (p0.length : Int))), (12, (.int .i64 i3)), (44, (.bool (decide (y54 < p1))))]) ⟨rfl, rfl, rfl, rfl, rfl, rfl, rfl, rfl, rfl, trivial⟩ ?_
          refine nx ?_
          refine wpC_cond rfl (fun t67 => ?_) (fun t67 => ?_)
          · rw [if_pos t67] at b63
            refine wpC_skip ?_
            refine nx ?_
            refine wpC_seq ?_
            refine wpC_block ?_
            refine wpC_seq ?_
            obtain ⟨x68, hx68, b63⟩ := bind_some b63
            obtain ⟨x69, hx69, b63⟩ := bind_some b63
            obtain ⟨x72, hx72, b63⟩ := bind_some b63
            refine wpC_drawn (o := o55) [(0, u0), (1, (.int .i64 p1)), (2, (.int .i64 p2)), (8, v19), (9, (.int .i64 y54)), (10, u0), (11, (.int .i64 (p0.length : Int))), (12, (.int .i64 i3))] [0, 1, 2, 8, 9, 10, 11, 12] [47, 48, 49, 50, 51, 52, 53, 54, 55] [[], [], [1], [0, 2], [3], [], [], [5, 6], [7]] [none, none, none, none, none, none, none, none, none] [999, 999, 999, 999, 999, 999, 999, 999, 999] [0, 0, 0, 0, 0, 0, 0, 0, 0] [999] [fun v _ _ => v = v19, fun v _ _ => v = (.int .i64 y54), fun v _ _ => v = (.int .i64 x68), fun v o w9 => ∃ vl, v = adr vl (x68.toNat * Rp.sz Int) ∧ RdL zt w vl x13, fun v _ _ => v = (.int .i64 x69), fun v _ _ => v = v19, fun v _ _ => v = (.int .i64 y54), fun v o w9 => ∃ vl, v = adr vl (y54.toNat * Rp.sz Int) ∧ RdL zt w vl x13, fun v _ _ => v = (.int .i64 x72)] (fun o8 w8 => Bs (fun _ => 1) o8 w w8) follows_mixed (by kernel_rfl) rfl ⟨rfl, rfl, rfl, rfl, rfl, rfl, rfl, rfl, trivial⟩ hB ?_ ⟨st_eq _, st_eq _, st_eq _, fun _ _ _ _ _ _ h0 hb ⟨vl, e, h⟩ hs => ⟨vl, e, h⟩, st_eq _, st_eq _, st_eq _, fun _ _ _ _ _ _ h0 hb ⟨vl, e, h⟩ hs => ⟨vl, e, h⟩, st_eq _, trivial⟩ ?_ ?_
            · rintro t9 o1 w1 o2 w2 ht9 hB hs9
              have ht9 : t9 = 999 := by simpa using ht9
              subst ht9
              all_goals exact hB.stp hs9 (by decide)
            · refine ⟨?_, ?_, ?_, ?_, ?_, ?_, ?_, ?_, ?_, trivial⟩
              · rintro o75 w76 a77 ha hB -
                refine opS_of ha (trivial) ?_
                refine op1_val (ex_move rfl) ?_
                exact ⟨_, Stp.refl _ _ _, rfl⟩
              · rintro o78 w79 a80 ha hB -
                refine opS_of ha (trivial) ?_
                refine op1_val (ex_move rfl) ?_
                exact ⟨_, Stp.refl _ _ _, rfl⟩
              · rintro o81 w82 a83 ha hB ⟨r84, -⟩
                have ha := Fr.cons (d := 48) ha r84
                refine opS_of ha (trivial) ?_
                refine op1_val (ex_sub rfl rfl hx68) ?_
                exact ⟨_, Stp.refl _ _ _, rfl⟩
              · rintro o85 w86 a87 ha hB ⟨r88, r89, -⟩
                have ha := Fr.cons (d := 47) ha r88
                have ha := Fr.cons (d := 49) ha r89
                refine opS_of ha (trivial) ?_
                refine wd_indexR h20 hx69 rfl rfl Try.underlying23 Try.sizeOf3 ?_
                exact ⟨_, Stp.refl _ _ _, ⟨_, rfl, h20⟩⟩
              · rintro o90 w91 a92 ha hB ⟨r93, -⟩
                obtain ⟨v94, e95, h96⟩ := r93
                have ha := Fr.cons (d := 50) ha e95
                refine opS_of ha (trivial) ?_
                refine wd_load1Z h96 hx69 hB rfl rfl Try.isAgg3 ?_
                intro c97 h98
                cases h98
                exact ⟨_, Stp.refl _ _ _, rfl⟩
              · rintro o99 w100 a101 ha hB -
                refine opS_of ha (trivial) ?_
                refine op1_val (ex_move rfl) ?_
                exact ⟨_, Stp.refl _ _ _, rfl⟩
              · rintro o102 w103 a104 ha hB -
                refine opS_of ha (trivial) ?_
                refine op1_val (ex_move rfl) ?_
                exact ⟨_, Stp.refl _ _ _, rfl⟩
              · rintro o105 w106 a107 ha hB ⟨r108, r109, -⟩
                have ha := Fr.cons (d := 52) ha r108
                have ha := Fr.cons (d := 53) ha r109
                refine opS_of ha (trivial) ?_
                refine wd_indexR h20 hx72 rfl rfl Try.underlying23 Try.sizeOf3 ?_
                exact ⟨_, Stp.refl _ _ _, ⟨_, rfl, h20⟩⟩
              · rintro o110 w111 a112 ha hB ⟨r113, -⟩
                obtain ⟨v114, e115, h116⟩ := r113
                have ha := Fr.cons (d := 54) ha e115
                refine opS_of ha (trivial) ?_
                refine wd_load1Z h116 hx72 hB rfl rfl Try.isAgg3 ?_
                intro c117 h118
                cases h118
                exact ⟨_, Stp.refl _ _ _, rfl⟩
            rintro o119 w120 a121 ha hB ⟨-, -, -, -, r122, -, -, -, r123, -⟩
            have ha := Fr.cons (d := 51) ha r122
            have ha := Fr.cons (d := 55) ha r123
            refine wl_of ha ?_
            simp only [List.length_cons, List.length_nil, Nat.zero_add, Nat.reduceAdd, List.drop_succ_cons, List.drop_zero]
            refine st_val (ex_gtr rfl rfl) (by decide) trivial ?_
            refine wpF_end (r := [(0, u0), (1, (.int .i64 p1)), (2, (.int .i64 p2)), (8, v19), (9, (.int .i64 y54)), (10, u0), (11, (.int .i64 (p0.length : Int))), (12, (.int .i64 i3)), (56, (.bool (decide (x69 > x72))))]) ⟨rfl, rfl, rfl, rfl, rfl, rfl, rfl, rfl, rfl, trivial⟩ ?_
            refine nx ?_
            refine wpC_cond rfl (fun t124 => ?_) (fun t124 => ?_)
            · rw [if_pos t124] at b63
              refine wpC_seq ?_
              refine wpC_region ?_
              refine st_val (ex_assign rfl) (by decide) trivial ?_
              refine wpF_end (r := [(6, (.bool false))]) ⟨rfl, trivial⟩ ?_
              refine nx ?_
              refine wpC_ret ?_
              refine nb_ret ?_
              refine nt_ret ?_
              refine nt_ret ?_
              refine nb_ret ?_
              refine np_ret ?_
              have e125 := Option.some.inj b63
              subst e125
              refine fun a ha => ⟨_, n64, ?_⟩
              refine ret_post (P := Try.prog) (vs := [(.bool false)]) Try.results113 ⟨rfl, trivial⟩ ?_ a ha
              exact ⟨rfl, hB.keeps⟩
            · rw [if_neg (by rw [t124]; decide)] at b63
              refine wpC_skip ?_
              refine nb_norm ?_
              refine nx ?_
              refine wpC_region ?_
              refine st_val (ex_move rfl) (by decide) trivial ?_
              obtain ⟨x126, hx126, b63⟩ := bind_some b63
              refine st_val (ex_add rfl rfl hx126) (by decide) trivial ?_
              refine st_val (ex_assign rfl) (by decide) trivial ?_
              refine wpF_end (r := [(0, u0), (1, (.int .i64 p1)), (2, (.int .i64 p2)), (8, v19), (9, (.int .i64 x126)), (10, u0), (11, (.int .i64 (p0.length : Int))), (12, (.int .i64 i3))]) ⟨rfl, rfl, rfl, rfl, rfl, rfl, rfl, rfl, trivial⟩ ?_
              refine nt_norm ?_
              have e127 := Option.some.inj b63
              subst e127
              refine to_k (r := [(0, u0), (1, (.int .i64 p1)), (2, (.int .i64 p2)), (8, v19), (9, (.int .i64 x126)), (10, u0), (11, (.int .i64 (p0.length : Int))), (12, (.int .i64 i3))]) ⟨rfl, rfl, rfl, rfl, rfl, rfl, rfl, rfl, trivial⟩ ?_
              intro a ha
              exact ⟨K65, by omega, x126, o119, n64, ha, hB⟩
          · rw [if_neg (by rw [t67]; decide)] at b63
            refine wpC_exit ?_
            refine nt_exit ?_
            refine nt_exit ?_
            refine nb_hit ?_
            refine np_norm ?_
            have e128 := Option.some.inj b63
            subst e128
            refine to_k (r := [(0, u0), (1, (.int .i64 p1)), (2, (.int .i64 p2)), (10, u0), (11, (.int .i64 (p0.length : Int))), (12, (.int .i64 i3))]) ⟨rfl, rfl, rfl, rfl, rfl, rfl, trivial⟩ ?_
            intro a ha
            exact ⟨y54, o55, n64, ha, hB⟩
        · rintro a w56 ⟨y54, o55, rfl, ha, hB⟩
          dsimp only at b10
          refine ap_k ha ?_
          refine nb_norm ?_
          refine nx ?_
          refine wpC_region ?_
          refine st_val (ex_add rfl rfl (ck_in (by omega) (by omega))) (by decide) trivial ?_
          refine st_val (ex_move rfl) (by decide) trivial ?_
          refine wpF_end (r := [(0, u0), (1, (.int .i64 p1)), (2, (.int .i64 p2)), (10, u0), (11, (.int .i64 (p0.length : Int))), (12, (.int .i64 (i3 + 1)))]) ⟨rfl, rfl, rfl, rfl, rfl, rfl, trivial⟩ ?_
          refine nt_norm ?_
          have e129 := Option.some.inj b10
          subst e129
          refine to_k (r := [(0, u0), (1, (.int .i64 p1)), (2, (.int .i64 p2)), (10, u0), (11, (.int .i64 (p0.length : Int))), (12, (.int .i64 (i3 + 1)))]) ⟨rfl, rfl, rfl, rfl, rfl, rfl, trivial⟩ ?_
          intro a ha
          exact ⟨_, (by rw [← m7]; simp only [List.length_drop]; omega), i3 + 1, o55, n11, rfl, (by omega), ha, hB⟩
        · rintro a w56 ⟨r', rfl, b130⟩
          dsimp only at b10
          have e131 := Option.some.inj b10
          subst e131
          exact ⟨_, n11, b130⟩
    · have r132 := forI_done t12 l5
      refine wp_of ha ?_
      refine wpC_seq ?_
      refine wpC_region ?_
      refine st_val (ex_lss rfl rfl) (by decide) trivial ?_
      refine wpF_end (r := [(0, u0), (1, (.int .i64 p1)), (2, (.int .i64 p2)), (10, u0), (11, (.int .i64 (p0.length : Int))), (12, (.int .i64 i3)), (13, (.bool (decide (i3 < (p0.length : Int)))))]) ⟨rfl, rfl, rfl, rfl, rfl, rfl, rfl, trivial⟩ ?_
      refine nx ?_
      refine wpC_seq ?_
      refine wpC_false (congrArg (fun b => some (Value.bool b)) (decide_eq_false t12)) ?_
      refine wpC_exit ?_
      refine nt_exit ?_
      refine nt_exit ?_
      refine nb_hit ?_
      refine np_norm ?_
      refine to_k (r := []) trivial ?_
      intro a ha
      exact ⟨o1, r132, ha, hB⟩
  · rintro a w2 ⟨o1, rfl, ha, hB⟩
    dsimp only at hF
    refine ap_k ha ?_
    refine nx ?_
    refine wpC_seq ?_
    refine wpC_region ?_
    refine st_val (ex_assign rfl) (by decide) trivial ?_
    refine wpF_end (r := [(6, (.bool true))]) ⟨rfl, trivial⟩ ?_
    refine nx ?_
    refine wpC_ret ?_
    have e133 := Option.some.inj hF
    subst e133
    refine ret_post (P := Try.prog) (vs := [(.bool true)]) Try.results113 ⟨rfl, trivial⟩ ?_
    exact ⟨rfl, hB.keeps⟩
  · rintro a w2 ⟨r', rfl, b134⟩
    dsimp only at hF
    have e135 := Option.some.inj hF
    subst e135
    exact b134

def fS_prGood (fuel : Nat) (p0 : T_Problem) : Option Bool :=
  (fS_l1In p0.Labels 1 8) >>= fun x10 =>
  (
    if x10 then
      (fS_l1In p0.Degree 1 4) >>= fun x20 =>
      if x20 then
        (fS_prLists fuel p0.Nodes p0.Degree p0.Labels) >>= fun x27 =>
        if x27 then
          (fS_prLists fuel p0.Edges 2 p0.Labels) >>= fun x34 =>
          some x34
        else
          some false
      else
        some false
    else
      some false) >>= fun q16 =>
  some q16

def pS_prGood (w : World) (r : Bool) : Ending → World → Prop := fun e w' => e = .returned (.bool r) ∧ Keeps w w'
set_option maxRecDepth 100000 in
set_option maxHeartbeats 2000000 in
theorem cS_prGood (fuel : Nat) (w : World) (u0 : List Value) (p0 : T_Problem) (g0 : Rp.rd zt w u0 p0) (r : Bool) (hF : fS_prGood fuel p0 = some r) :
    Calls Try.prog 79 #[.agg u0.toArray] w (pS_prGood w r) := by
  unfold fS_prGood at hF
  obtain ⟨v1, v3, rfl, h2, h4⟩ := g0
  have hB : Bs (fun _ => 1) (col (fun _ => 1)) w w := Bs.start _ _
  refine calls_start (n := 27) (vs := [(.agg #[(.int .i64 p0.Labels), (.int .i64 p0.Degree), v1, v3])]) Try.func79 rfl rfl ?_
  refine wpC_seq ?_
  refine wpC_region ?_
  refine st_op (by decide) trivial ?_
  refine wf_box (o := (col (fun _ => 1))) w.heap.size 11 hB.keeps.size (cs := [(.int .i64 p0.Labels), (.int .i64 p0.Degree), v1, v3]) rfl rfl ?_
  intro o5 w6 b7 h8 s9
  replace hB := hB.stp s9 (by decide)
  refine st_val (ex_assign rfl) (by decide) trivial ?_
  refine wpF_end (r := [(1, (.pointer (some ⟨b7, 0, none⟩)))]) ⟨rfl, trivial⟩ ?_
  refine nx ?_
  refine wpC_seq ?_
  refine wpC_region ?_
  refine st_val (ex_field rfl Try.underlying64 rfl Try.sizeOf3) (by decide) trivial ?_
  refine st_val (ex_load1 rfl Try.isAgg3 (h8.cell rfl)) (by decide) trivial ?_
  obtain ⟨x10, hx10, hF⟩ := bind_some hF
  refine st_op (by decide) trivial ?_
  refine wf_call (cS_l1In w6 p0.Labels 1 8 x10 hx10) Try.call90 ⟨rfl, rfl, rfl, trivial⟩ ?_
  rintro e15 w11 ⟨rfl, k12⟩
  have s14 := k12.stp 999 o5
  refine ⟨_, rfl, ?_⟩
  replace h8 := h8.stp s14 (by decide)
  replace hB := hB.stp s14 (by decide)
  refine st_val (ex_move rfl) (by decide) trivial ?_
  obtain ⟨q16, hq16, hF⟩ := bind_some hF
  refine wpF_cutAt 20 (fun a18 w17 => Fr a18 27 [(26, (.bool q16))] ∧ Keeps w11 w17) ?_ ?_
  all_goals simp only [List.take_succ_cons, List.take_zero, List.drop_succ_cons, List.drop_zero]
  · have kp : Keeps w11 w11 := Keeps.refl _
    rcases Bool.eq_false_or_eq_true (x10) with t19 | t19
    · rw [if_pos t19] at hq16
      refine st_val (ex_field rfl Try.underlying64 rfl Try.sizeOf3) (by decide) ⟨_, rfl, (congrArg (fun b => some (Value.bool b)) t19)⟩ ?_
      refine st_val (ex_load1 rfl Try.isAgg3 (h8.cell rfl)) (by decide) ⟨_, rfl, (congrArg (fun b => some (Value.bool b)) t19)⟩ ?_
      obtain ⟨x20, hx20, hq16⟩ := bind_some hq16
      refine st_op (by decide) ⟨_, rfl, (congrArg (fun b => some (Value.bool b)) t19)⟩ ?_
      refine wf_call (cS_l1In w11 p0.Degree 1 4 x20 hx20) Try.call90 ⟨rfl, rfl, rfl, trivial⟩ ?_
      rintro e25 w21 ⟨rfl, k22⟩
      have s24 := k22.stp 999 o5
      refine ⟨_, rfl, ?_⟩
      replace h8 := h8.stp s24 (by decide)
      replace hB := hB.stp s24 (by decide)
      replace kp := Keeps.trans kp k22
      refine st_val (ex_pick_t (congrArg (fun b => some (Value.bool b)) t19) rfl) (by decide) trivial ?_
      refine st_val (ex_move rfl) (by decide) trivial ?_
      rcases Bool.eq_false_or_eq_true (x20) with t26 | t26
      · rw [if_pos t26] at hq16
        refine st_val (ex_field rfl Try.underlying64 rfl Try.sizeOf41) (by decide) ⟨_, rfl, (congrArg (fun b => some (Value.bool b)) t26)⟩ ?_
        refine st_val (ex_load1 rfl Try.isAgg41 (h8.cell rfl)) (by decide) ⟨_, rfl, (congrArg (fun b => some (Value.bool b)) t26)⟩ ?_
        refine st_val (ex_field rfl Try.underlying64 rfl Try.sizeOf3) (by decide) ⟨_, rfl, (congrArg (fun b => some (Value.bool b)) t26)⟩ ?_
        refine st_val (ex_load1 rfl Try.isAgg3 (h8.cell rfl)) (by decide) ⟨_, rfl, (congrArg (fun b => some (Value.bool b)) t26)⟩ ?_
        refine st_val (ex_field rfl Try.underlying64 rfl Try.sizeOf3) (by decide) ⟨_, rfl, (congrArg (fun b => some (Value.bool b)) t26)⟩ ?_
        refine st_val (ex_load1 rfl Try.isAgg3 (h8.cell rfl)) (by decide) ⟨_, rfl, (congrArg (fun b => some (Value.bool b)) t26)⟩ ?_
        obtain ⟨x27, hx27, hq16⟩ := bind_some hq16
        refine st_op (by decide) ⟨_, rfl, (congrArg (fun b => some (Value.bool b)) t26)⟩ ?_
        refine wf_call (cS_prLists fuel w21 _ p0.Nodes (h2.keep hB.keeps) p0.Degree p0.Labels x27 hx27) Try.call113 ⟨rfl, rfl, rfl, trivial⟩ ?_
        rintro e32 w28 ⟨rfl, k29⟩
        have s31 := k29.stp 999 o5
        refine ⟨_, rfl, ?_⟩
        replace h8 := h8.stp s31 (by decide)
        replace hB := hB.stp s31 (by decide)
        replace kp := Keeps.trans kp k29
        refine st_val (ex_pick_t (congrArg (fun b => some (Value.bool b)) t26) rfl) (by decide) trivial ?_
        refine st_val (ex_move rfl) (by decide) trivial ?_
        rcases Bool.eq_false_or_eq_true (x27) with t33 | t33
        · rw [if_pos t33] at hq16
          refine st_val (ex_field rfl Try.underlying64 rfl Try.sizeOf41) (by decide) ⟨_, rfl, (congrArg (fun b => some (Value.bool b)) t33)⟩ ?_
          refine st_val (ex_load1 rfl Try.isAgg41 (h8.cell rfl)) (by decide) ⟨_, rfl, (congrArg (fun b => some (Value.bool b)) t33)⟩ ?_
          refine st_val (ex_field rfl Try.underlying64 rfl Try.sizeOf3) (by decide) ⟨_, rfl, (congrArg (fun b => some (Value.bool b)) t33)⟩ ?_
          refine st_val (ex_load1 rfl Try.isAgg3 (h8.cell rfl)) (by decide) ⟨_, rfl, (congrArg (fun b => some (Value.bool b)) t33)⟩ ?_
          obtain ⟨x34, hx34, hq16⟩ := bind_some hq16
          refine st_op (by decide) ⟨_, rfl, (congrArg (fun b => some (Value.bool b)) t33)⟩ ?_
          refine wf_call (cS_prLists fuel w28 _ p0.Edges (h4.keep hB.keeps) 2 p0.Labels x34 hx34) Try.call113 ⟨rfl, rfl, rfl, trivial⟩ ?_
          rintro e39 w35 ⟨rfl, k36⟩
          have s38 := k36.stp 999 o5
          refine ⟨_, rfl, ?_⟩
          replace h8 := h8.stp s38 (by decide)
          replace hB := hB.stp s38 (by decide)
          replace kp := Keeps.trans kp k36
          refine st_val (ex_pick_t (congrArg (fun b => some (Value.bool b)) t33) rfl) (by decide) trivial ?_
          have hq162 := Option.some.inj hq16
          refine wpF_end (r := [(26, (.bool x34))]) ⟨rfl, trivial⟩ ?_
          subst hq162
          refine np_norm (fun a ha => ⟨ha, kp⟩)
        · rw [if_neg (by rw [t33]; decide)] at hq16
          refine st_no rfl rfl (by rw [t33]; rfl) (by decide) ?_
          refine st_no rfl rfl (by rw [t33]; rfl) (by decide) ?_
          refine st_no rfl rfl (by rw [t33]; rfl) (by decide) ?_
          refine st_no rfl rfl (by rw [t33]; rfl) (by decide) ?_
          refine st_no rfl rfl (by rw [t33]; rfl) (by decide) ?_
          refine st_val (ex_pick_f (congrArg (fun b => some (Value.bool b)) t33) rfl) (by decide) trivial ?_
          have hq162 := Option.some.inj hq16
          refine wpF_end (r := [(26, (.bool false))]) ⟨rfl, trivial⟩ ?_
          subst hq162
          refine np_norm (fun a ha => ⟨ha, kp⟩)
      · rw [if_neg (by rw [t26]; decide)] at hq16
        refine st_no rfl rfl (by rw [t26]; rfl) (by decide) ?_
        refine st_no rfl rfl (by rw [t26]; rfl) (by decide) ?_
        refine st_no rfl rfl (by rw [t26]; rfl) (by decide) ?_
        refine st_no rfl rfl (by rw [t26]; rfl) (by decide) ?_
        refine st_no rfl rfl (by rw [t26]; rfl) (by decide) ?_
        refine st_no rfl rfl (by rw [t26]; rfl) (by decide) ?_
        refine st_no rfl rfl (by rw [t26]; rfl) (by decide) ?_
        refine st_val (ex_pick_f (congrArg (fun b => some (Value.bool b)) t26) rfl) (by decide) trivial ?_
        refine st_val (ex_move rfl) (by decide) trivial ?_
        refine st_no rfl rfl rfl (by decide) ?_
        refine st_no rfl rfl rfl (by decide) ?_
        refine st_no rfl rfl rfl (by decide) ?_
        refine st_no rfl rfl rfl (by decide) ?_
        refine st_no rfl rfl rfl (by decide) ?_
        refine st_val (ex_pick_f rfl rfl) (by decide) trivial ?_
        have hq162 := Option.some.inj hq16
        refine wpF_end (r := [(26, (.bool false))]) ⟨rfl, trivial⟩ ?_
        subst hq162
        refine np_norm (fun a ha => ⟨ha, kp⟩)
    · rw [if_neg (by rw [t19]; decide)] at hq16
      refine st_no rfl rfl (by rw [t19]; rfl) (by decide) ?_
      refine st_no rfl rfl (by rw [t19]; rfl) (by decide) ?_
      refine st_no rfl rfl (by rw [t19]; rfl) (by decide) ?_
      refine st_val (ex_pick_f (congrArg (fun b => some (Value.bool b)) t19) rfl) (by decide) trivial ?_
      refine st_val (ex_move rfl) (by decide) trivial ?_
      refine st_no rfl rfl rfl (by decide) ?_
      refine st_no rfl rfl rfl (by decide) ?_
      refine st_no rfl rfl rfl (by decide) ?_
      refine st_no rfl rfl rfl (by decide) ?_
      refine st_no rfl rfl rfl (by decide) ?_
      refine st_no rfl rfl rfl (by decide) ?_
      refine st_no rfl rfl rfl (by decide) ?_
      refine st_val (ex_pick_f rfl rfl) (by decide) trivial ?_
      refine st_val (ex_move rfl) (by decide) trivial ?_
      refine st_no rfl rfl rfl (by decide) ?_
      refine st_no rfl rfl rfl (by decide) ?_
      refine st_no rfl rfl rfl (by decide) ?_
      refine st_no rfl rfl rfl (by decide) ?_
      refine st_no rfl rfl rfl (by decide) ?_
      refine st_val (ex_pick_f rfl rfl) (by decide) trivial ?_
      have hq162 := Option.some.inj hq16
      refine wpF_end (r := [(26, (.bool false))]) ⟨rfl, trivial⟩ ?_
      subst hq162
      refine np_norm (fun a ha => ⟨ha, kp⟩)
  rintro a42 w17 ⟨ha, k40⟩
  have s41 := k40.stp 999 o5
  replace h8 := h8.stp s41 (by decide)
  replace hB := hB.stp s41 (by decide)
  refine wl_of ha ?_
  refine st_val (ex_assign rfl) (by decide) trivial ?_
  refine wpF_end (r := [(2, (.bool q16))]) ⟨rfl, trivial⟩ ?_
  refine nx ?_
  refine wpC_ret ?_
  have e43 := Option.some.inj hF
  subst e43
  refine ret_post (P := Try.prog) (vs := [(.bool q16)]) Try.results79 ⟨rfl, trivial⟩ ?_
  exact ⟨rfl, hB.keeps⟩

def fS_prHas_s1 (p1 : List Int) : Int → (List Int) → Unit → Option (Lp Unit Unit Bool) := fun (i3 : Int) (x13 : List Int) (s : Unit) =>
  (fS_l1Same p1 x13) >>= fun x21 =>
  if x21 then
    some (.ret true)
  else
    some (.go ())
def fS_prHas (p0 : List (List Int)) (p1 : List Int) : Option Bool :=
  (forI (fS_prHas_s1 p1) p0 0 ()) >>= fun q4 =>
  match q4 with
  | .inl _ =>
    some false
  | .inr r' => some r'

def fS_prNode (fuel : Nat) (p0 : T_Problem) (p1 : List Int) : Option Bool :=
  (fS_prSorted fuel p1) >>= fun x10 =>
  (fS_prHas p0.Nodes x10) >>= fun x48 =>
  some x48

def fS_AllowsNode (fuel : Nat) (p0 : T_Problem) (p1 : List Int) : Option (Bool × Bool) :=
  (fS_prGood fuel p0) >>= fun x10 =>
  (
    if !x10 then
      some true
    else
      if (p1.length : Int) != p0.Degree then
        some true
      else
        (ck (p0.Labels - 1)) >>= fun x21 =>
        (fS_l1All p1 0 x21) >>= fun x22 =>
        some (!x22)) >>= fun q16 =>
  if q16 then
    some (false, false)
  else
    (fS_prNode fuel p0 p1) >>= fun x33 =>
    some (x33, true)

def fS_l1Most (p0 : Int) (p1 : Int) : Option Int :=
  if decide (p0 > p1) then
    some p0
  else
    some p1

def fS_prEdge (p0 : T_Problem) (p1 : Int) (p2 : Int) : Option Bool :=
  (fS_l1Least p1 p2) >>= fun x10 =>
  (fS_l1Most p1 p2) >>= fun x16 =>
  (fS_prHas p0.Edges ([x10, x16] : List Int)) >>= fun x85 =>
  some x85

def fS_AllowsEdge (fuel : Nat) (p0 : T_Problem) (p1 : Int) (p2 : Int) : Option (Bool × Bool) :=
  (fS_prGood fuel p0) >>= fun x10 =>
  (
    if !x10 then
      some true
    else
      (ck (p0.Labels - 1)) >>= fun x26 =>
      (fS_l1All ([p1, p2] : List Int) 0 x26) >>= fun x27 =>
      some (!x27)) >>= fun q16 =>
  if q16 then
    some (false, false)
  else
    (fS_prEdge p0 p1 p2) >>= fun x38 =>
    some (x38, true)

def fI_configurationsOk_s1 (fuel : Nat) (p0 : List (List Int)) (p1 : Int) (p2 : Int) : Int → (List Int) → Unit → Option (Lp Unit Unit Bool) := fun (i3 : Int) (x13 : List Int) (s : Unit) =>
  (
    if (x13.length : Int) != p1 then
      some true
    else
      (fX_slices_IsSorted_int_int fuel x13) >>= fun x25 =>
      if !x25 then
        some true
      else
        (ck (p2 - 1)) >>= fun x32 =>
        (fI_allWithin x13 0 x32) >>= fun x33 =>
        if !x33 then
          some true
        else
          if decide (i3 > 0) then
            (ck (i3 - 1)) >>= fun x41 =>
            (ix p0 x41) >>= fun x42 =>
            (fX_slices_Compare_int_int x42 x13) >>= fun x50 =>
            some (decide (x50 ≥ 0))
          else
            some false) >>= fun q21 =>
  if q21 then
    some (.ret false)
  else
    some (.go ())
def fI_configurationsOk (fuel : Nat) (p0 : List (List Int)) (p1 : Int) (p2 : Int) : Option Bool :=
  (forI (fI_configurationsOk_s1 fuel p0 p1 p2) p0 0 ()) >>= fun q4 =>
  match q4 with
  | .inl _ =>
    some true
  | .inr r' => some r'

def pI_configurationsOk (w : World) (r : Bool) : Ending → World → Prop := fun e w' => e = .returned (.bool r) ∧ Keeps w w'
set_option maxRecDepth 100000 in
set_option maxHeartbeats 2000000 in
theorem cI_configurationsOk (fuel : Nat) (w : World) (u0 : Value) (p0 : List (List Int)) (g0 : RdL zt w u0 p0) (p1 : Int) (p2 : Int) (r : Bool) (hF : fI_configurationsOk fuel p0 p1 p2 = some r) :
    Calls Try.prog 114 #[u0, .int .i64 p1, .int .i64 p2] w (pI_configurationsOk w r) := by
  unfold fI_configurationsOk at hF
  have hB : Bs (fun _ => 1) (col (fun _ => 1)) w w := Bs.start _ _
  refine calls_start (n := 47) (vs := [u0, (.int .i64 p1), (.int .i64 p2)]) Try.func114 rfl rfl ?_
  refine wpC_seq ?_
  refine wpC_region ?_
  refine st_val (ex_assign rfl) (by decide) trivial ?_
  refine wpF_end (r := [(0, u0), (1, (.int .i64 p1)), (2, (.int .i64 p2))]) ⟨rfl, rfl, rfl, trivial⟩ ?_
  refine nx ?_
  refine wpC_seq ?_
  refine wpC_seq ?_
  refine wpC_region ?_
  refine st_val (ex_move rfl) (by decide) trivial ?_
  refine st_val (ex_lenR rfl g0 Try.underlying41) (by decide) trivial ?_
  refine st_val (ex_move rfl) (by decide) trivial ?_
  refine wpF_end (r := [(0, u0), (1, (.int .i64 p1)), (2, (.int .i64 p2)), (9, u0), (10, (.int .i64 (p0.length : Int))), (11, (.int .i64 0))]) ⟨rfl, rfl, rfl, rfl, rfl, rfl, trivial⟩ ?_
  refine nx ?_
  obtain ⟨q4, hq4, hF⟩ := bind_some hF
  refine wpC_cutN (fun a w2 => ∃ (o1 : Tg), q4 = .inl () ∧ Fr a 47 [] ∧ Bs (fun _ => 1) o1 w w2) (fun a w' => ∃ r', q4 = .inr r' ∧ bodyPost Try.prog Try.f114 (pI_configurationsOk w r') .ret a w') ?_ ?_ ?_
  · refine wpC_block ?_
    refine wpC_loop (fun (K : Nat) a w2 => ∃ (i3 : Int) (o1 : Tg), forI (fI_configurationsOk_s1 fuel p0 p1 p2) (p0.drop i3.toNat) i3 () = some q4 ∧ (p0.drop i3.toNat).length = K ∧ 0 ≤ i3 ∧ Fr a 47 [(0, u0), (1, (.int .i64 p1)), (2, (.int .i64 p2)), (9, u0), (10, (.int .i64 (p0.length : Int))), (11, (.int .i64 i3))] ∧ Bs (fun _ => 1) o1 w w2) _ (fun a ha => ⟨0, (col (fun _ => 1)), hq4, rfl, Int.le_refl 0, ha.sub (r := [(0, u0), (1, (.int .i64 p1)), (2, (.int .i64 p2)), (9, u0), (10, (.int .i64 (p0.length : Int))), (11, (.int .i64 0))]) ⟨rfl, rfl, rfl, rfl, rfl, rfl, trivial⟩, hB⟩) ?_
    rintro K8 a w2 ⟨i3, o1, l5, m7, z6, ha, hB⟩
    by_cases t12 : i3 < (p0.length : Int)
    · obtain ⟨x13, q9, hx13, b10, n11⟩ := forI_cons z6 t12 l5
      have hle := g0.len_le
      dsimp only [fI_configurationsOk_s1] at b10
      refine wp_of ha ?_
      refine wpC_seq ?_
      refine wpC_region ?_
      refine st_val (ex_lss rfl rfl) (by decide) trivial ?_
      refine wpF_end (r := [(0, u0), (1, (.int .i64 p1)), (2, (.int .i64 p2)), (9, u0), (10, (.int .i64 (p0.length : Int))), (11, (.int .i64 i3)), (12, (.bool (decide (i3 < (p0.length : Int)))))]) ⟨rfl, rfl, rfl, rfl, rfl, rfl, rfl, trivial⟩ ?_
      refine nx ?_
      refine wpC_seq ?_
      refine wpC_true (congrArg (fun b => some (Value.bool b)) (decide_eq_true t12)) ?_
      refine wpC_skip ?_
      refine nx ?_
      refine wpC_seq ?_
      refine wpC_block ?_
      refine wpC_seq ?_
      refine wpC_region ?_
      refine st_val (ex_move rfl) (by decide) trivial ?_
      refine st_op (by decide) trivial ?_
      refine wf_atZ g0 hx13 hB rfl rfl Try.underlying41 Try.sizeOf23 ?_
      intro b14 f15 c16 h17 h18
      obtain ⟨v19, rfl, h20⟩ := h18
      refine st_val (ex_load1 rfl Try.isAgg23 (cell_of_cells h17)) (by decide) trivial ?_
      refine st_val (ex_assign rfl) (by decide) trivial ?_
      refine st_val (ex_assign rfl) (by decide) trivial ?_
      refine wpF_end (r := [(0, u0), (1, (.int .i64 p1)), (2, (.int .i64 p2)), (7, (.int .i64 i3)), (8, v19), (9, u0), (10, (.int .i64 (p0.length : Int))), (11, (.int .i64 i3))]) ⟨rfl, rfl, rfl, rfl, rfl, rfl, rfl, rfl, trivial⟩ ?_
      refine nx ?_
      refine wpC_seq ?_
      refine wpC_region ?_
      refine st_val (ex_move rfl) (by decide) trivial ?_
      refine st_val (ex_lenR rfl h20 Try.underlying23) (by decide) trivial ?_
      refine st_val (ex_move rfl) (by decide) trivial ?_
      refine st_val (ex_neq rfl rfl) (by decide) trivial ?_
      refine st_val (ex_move rfl) (by decide) trivial ?_
      obtain ⟨q21, hq21, b10⟩ := bind_some b10
      refine wpF_cutAt 25 (fun a23 w22 => Fr a23 47 [(0, u0), (1, (.int .i64 p1)), (2, (.int .i64 p2)), (9, u0), (10, (.int .i64 (p0.length : Int))), (11, (.int .i64 i3)), (45, (.bool q21))] ∧ Keeps w2 w22) ?_ ?_
      all_goals simp only [List.take_succ_cons, List.take_zero, List.drop_succ_cons, List.drop_zero]
      · have kp : Keeps w2 w2 := Keeps.refl _
        rcases Bool.eq_false_or_eq_true ((x13.length : Int) != p1) with t24 | t24
        · rw [if_pos t24] at hq21
          refine st_no rfl rfl (by rw [t24]; rfl) (by decide) ?_
          refine st_no rfl rfl (by rw [t24]; rfl) (by decide) ?_
          refine st_no rfl rfl (by rw [t24]; rfl) (by decide) ?_
          refine st_val (ex_pick_t (congrArg (fun b => some (Value.bool b)) t24) rfl) (by decide) trivial ?_
          refine st_val (ex_move rfl) (by decide) trivial ?_
          refine st_no rfl rfl rfl (by decide) ?_
          refine st_no rfl rfl rfl (by decide) ?_
          refine st_no rfl rfl rfl (by decide) ?_
          refine st_no rfl rfl rfl (by decide) ?_
          refine st_no rfl rfl rfl (by decide) ?_
          refine st_val (ex_pick_t rfl rfl) (by decide) trivial ?_
          refine st_val (ex_move rfl) (by decide) trivial ?_
          refine st_no rfl rfl rfl (by decide) ?_
          refine st_no rfl rfl rfl (by decide) ?_
          refine st_no rfl rfl rfl (by decide) ?_
          refine st_no2 rfl rfl (by decide) ?_
          refine st_no2 rfl rfl (by decide) ?_
          refine st_no2 rfl rfl (by decide) ?_
          refine st_no2 rfl rfl (by decide) ?_
          refine st_no2 rfl rfl (by decide) ?_
          refine st_no2 rfl rfl (by decide) ?_
          refine st_no2 rfl rfl (by decide) ?_
          refine st_no2 rfl rfl (by decide) ?_
          refine st_no rfl rfl rfl (by decide) ?_
          refine st_val (ex_pick_t rfl rfl) (by decide) trivial ?_
          have hq212 := Option.some.inj hq21
          refine wpF_end (r := [(0, u0), (1, (.int .i64 p1)), (2, (.int .i64 p2)), (9, u0), (10, (.int .i64 (p0.length : Int))), (11, (.int .i64 i3)), (45, (.bool true))]) ⟨rfl, rfl, rfl, rfl, rfl, rfl, rfl, trivial⟩ ?_
          subst hq212
          refine np_norm (fun a ha => ⟨ha, kp⟩)
        · rw [if_neg (by rw [t24]; decide)] at hq21
          refine st_val (ex_move rfl) (by decide) ⟨_, rfl, (congrArg (fun b => some (Value.bool b)) t24)⟩ ?_
          obtain ⟨x25, hx25, hq21⟩ := bind_some hq21
          refine st_op (by decide) ⟨_, rfl, (congrArg (fun b => some (Value.bool b)) t24)⟩ ?_
          refine wf_call (cX_slices_IsSorted_int_int fuel w2 _ x13 (h20.keep hB.keeps) x25 hx25) Try.call106 ⟨rfl, trivial⟩ ?_
          rintro e30 w26 ⟨rfl, k27⟩
          have s29 := k27.stp 999 o1
          refine ⟨_, rfl, ?_⟩
          replace hB := hB.stp s29 (by decide)
          replace kp := Keeps.trans kp k27
          refine st_val (ex_not rfl) (by decide) ⟨_, rfl, (congrArg (fun b => some (Value.bool b)) t24)⟩ ?_
          refine st_val (ex_pick_f (congrArg (fun b => some (Value.bool b)) t24) rfl) (by decide) trivial ?_
          refine st_val (ex_move rfl) (by decide) trivial ?_
          rcases Bool.eq_false_or_eq_true (!x25) with t31 | t31
          · rw [if_pos t31] at hq21
            refine st_no rfl rfl (by rw [t31]; rfl) (by decide) ?_
            refine st_no rfl rfl (by rw [t31]; rfl) (by decide) ?_
            refine st_no rfl rfl (by rw [t31]; rfl) (by decide) ?_
            refine st_no rfl rfl (by rw [t31]; rfl) (by decide) ?_
            refine st_no rfl rfl (by rw [t31]; rfl) (by decide) ?_
            refine st_val (ex_pick_t (congrArg (fun b => some (Value.bool b)) t31) rfl) (by decide) trivial ?_
            refine st_val (ex_move rfl) (by decide) trivial ?_
            refine st_no rfl rfl rfl (by decide) ?_
            refine st_no rfl rfl rfl (by decide) ?_
            refine st_no rfl rfl rfl (by decide) ?_
            refine st_no2 rfl rfl (by decide) ?_
            refine st_no2 rfl rfl (by decide) ?_
            refine st_no2 rfl rfl (by decide) ?_
            refine st_no2 rfl rfl (by decide) ?_
            refine st_no2 rfl rfl (by decide) ?_
            refine st_no2 rfl rfl (by decide) ?_
            refine st_no2 rfl rfl (by decide) ?_
            refine st_no2 rfl rfl (by decide) ?_
            refine st_no rfl rfl rfl (by decide) ?_
            refine st_val (ex_pick_t rfl rfl) (by decide) trivial ?_
            have hq212 := Option.some.inj hq21
            refine wpF_end (r := [(0, u0), (1, (.int .i64 p1)), (2, (.int .i64 p2)), (9, u0), (10, (.int .i64 (p0.length : Int))), (11, (.int .i64 i3)), (45, (.bool true))]) ⟨rfl, rfl, rfl, rfl, rfl, rfl, rfl, trivial⟩ ?_
            subst hq212
            refine np_norm (fun a ha => ⟨ha, kp⟩)
          · rw [if_neg (by rw [t31]; decide)] at hq21
            refine st_val (ex_move rfl) (by decide) ⟨_, rfl, (congrArg (fun b => some (Value.bool b)) t31)⟩ ?_
            refine st_val (ex_move rfl) (by decide) ⟨_, rfl, (congrArg (fun b => some (Value.bool b)) t31)⟩ ?_
            obtain ⟨x32, hx32, hq21⟩ := bind_some hq21
            refine st_val (ex_sub rfl rfl hx32) (by decide) ⟨_, rfl, (congrArg (fun b => some (Value.bool b)) t31)⟩ ?_
            obtain ⟨x33, hx33, hq21⟩ := bind_some hq21
            refine st_op (by decide) ⟨_, rfl, (congrArg (fun b => some (Value.bool b)) t31)⟩ ?_
            refine wf_call (cI_allWithin w26 _ x13 (h20.keep hB.keeps) 0 x32 x33 hx33) Try.call131 ⟨rfl, rfl, rfl, trivial⟩ ?_
            rintro e38 w34 ⟨rfl, k35⟩
            have s37 := k35.stp 999 o1
            refine ⟨_, rfl, ?_⟩
            replace hB := hB.stp s37 (by decide)
            replace kp := Keeps.trans kp k35
            refine st_val (ex_not rfl) (by decide) ⟨_, rfl, (congrArg (fun b => some (Value.bool b)) t31)⟩ ?_
            refine st_val (ex_pick_f (congrArg (fun b => some (Value.bool b)) t31) rfl) (by decide) trivial ?_
            refine st_val (ex_move rfl) (by decide) trivial ?_
            rcases Bool.eq_false_or_eq_true (!x33) with t39 | t39
            · rw [if_pos t39] at hq21
              refine st_no rfl rfl (by rw [t39]; rfl) (by decide) ?_
              refine st_no rfl rfl (by rw [t39]; rfl) (by decide) ?_
              refine st_no rfl rfl (by rw [t39]; rfl) (by decide) ?_
              refine st_no2 rfl rfl (by decide) ?_
              refine st_no2 rfl rfl (by decide) ?_
              refine st_no2 rfl rfl (by decide) ?_
              refine st_no2 rfl rfl (by decide) ?_
              refine st_no2 rfl rfl (by decide) ?_
              refine st_no2 rfl rfl (by decide) ?_
              refine st_no2 rfl rfl (by decide) ?_
              refine st_no2 rfl rfl (by decide) ?_
              refine st_no rfl rfl (by rw [t39]; rfl) (by decide) ?_
              refine st_val (ex_pick_t (congrArg (fun b => some (Value.bool b)) t39) rfl) (by decide) trivial ?_
              have hq212 := Option.some.inj hq21
              refine wpF_end (r := [(0, u0), (1, (.int .i64 p1)), (2, (.int .i64 p2)), (9, u0), (10, (.int .i64 (p0.length : Int))), (11, (.int .i64 i3)), (45, (.bool true))]) ⟨rfl, rfl, rfl, rfl, rfl, rfl, rfl, trivial⟩ ?_
              subst hq212
              refine np_norm (fun a ha => ⟨ha, kp⟩)
            · rw [if_neg (by rw [t39]; decide)] at hq21
              refine st_val (ex_move rfl) (by decide) ⟨_, rfl, (congrArg (fun b => some (Value.bool b)) t39)⟩ ?_
              refine st_val (ex_gtr rfl rfl) (by decide) ⟨_, rfl, (congrArg (fun b => some (Value.bool b)) t39)⟩ ?_
              refine st_val (ex_move rfl) (by decide) ⟨_, rfl, (congrArg (fun b => some (Value.bool b)) t39)⟩ ?_
              rcases Bool.eq_false_or_eq_true (decide (i3 > 0)) with t40 | t40
              · rw [if_pos t40] at hq21
                refine st_val (ex_move rfl) (by decide) ⟨_, rfl, (congrArg (fun b => some (Value.bool b)) t40)⟩ ?_
                refine st_val (ex_move rfl) (by decide) ⟨_, rfl, (congrArg (fun b => some (Value.bool b)) t40)⟩ ?_
                obtain ⟨x41, hx41, hq21⟩ := bind_some hq21
                refine st_val (ex_sub rfl rfl hx41) (by decide) ⟨_, rfl, (congrArg (fun b => some (Value.bool b)) t40)⟩ ?_
                obtain ⟨x42, hx42, hq21⟩ := bind_some hq21
                refine st_op (by decide) ⟨_, rfl, (congrArg (fun b => some (Value.bool b)) t40)⟩ ?_
                refine wf_atZ g0 hx42 hB rfl rfl Try.underlying41 Try.sizeOf23 ?_
                intro b43 f44 c45 h46 h47
                obtain ⟨v48, rfl, h49⟩ := h47
                refine st_val (ex_load1 rfl Try.isAgg23 (cell_of_cells h46)) (by decide) ⟨_, rfl, (congrArg (fun b => some (Value.bool b)) t40)⟩ ?_
                refine st_val (ex_move rfl) (by decide) ⟨_, rfl, (congrArg (fun b => some (Value.bool b)) t40)⟩ ?_
                obtain ⟨x50, hx50, hq21⟩ := bind_some hq21
                refine st_op (by decide) ⟨_, rfl, (congrArg (fun b => some (Value.bool b)) t40)⟩ ?_
                refine wf_call (cX_slices_Compare_int_int w34 _ x42 (h49.keep hB.keeps) _ x13 (h20.keep hB.keeps) x50 hx50) Try.call107 ⟨rfl, rfl, trivial⟩ ?_
                rintro e55 w51 ⟨rfl, k52⟩
                have s54 := k52.stp 999 o1
                refine ⟨_, rfl, ?_⟩
                replace hB := hB.stp s54 (by decide)
                replace kp := Keeps.trans kp k52
                refine st_val (ex_geq rfl rfl) (by decide) ⟨_, rfl, (congrArg (fun b => some (Value.bool b)) t40)⟩ ?_
                refine st_val (ex_pick_t (congrArg (fun b => some (Value.bool b)) t40) rfl) (by decide) ⟨_, rfl, (congrArg (fun b => some (Value.bool b)) t39)⟩ ?_
                refine st_val (ex_pick_f (congrArg (fun b => some (Value.bool b)) t39) rfl) (by decide) trivial ?_
                have hq212 := Option.some.inj hq21
                refine wpF_end (r := [(0, u0), (1, (.int .i64 p1)), (2, (.int .i64 p2)), (9, u0), (10, (.int .i64 (p0.length : Int))), (11, (.int .i64 i3)), (45, (.bool (decide (x50 ≥ 0))))]) ⟨rfl, rfl, rfl, rfl, rfl, rfl, rfl, trivial⟩ ?_
                subst hq212
                refine np_norm (fun a ha => ⟨ha, kp⟩)
              · rw [if_neg (by rw [t40]; decide)] at hq21
                refine st_no rfl rfl (by rw [t40]; rfl) (by decide) ?_
                refine st_no rfl rfl (by rw [t40]; rfl) (by decide) ?_
                refine st_no rfl rfl (by rw [t40]; rfl) (by decide) ?_
                refine st_no rfl rfl (by rw [t40]; rfl) (by decide) ?_
                refine st_no rfl rfl (by rw [t40]; rfl) (by decide) ?_
                refine st_no rfl rfl (by rw [t40]; rfl) (by decide) ?_
                refine st_no rfl rfl (by rw [t40]; rfl) (by decide) ?_
                refine st_no rfl rfl (by rw [t40]; rfl) (by decide) ?_
                refine st_val (ex_pick_f (congrArg (fun b => some (Value.bool b)) t40) rfl) (by decide) ⟨_, rfl, (congrArg (fun b => some (Value.bool b)) t39)⟩ ?_
                refine st_val (ex_pick_f (congrArg (fun b => some (Value.bool b)) t39) rfl) (by decide) trivial ?_
                have hq212 := Option.some.inj hq21
                refine wpF_end (r := [(0, u0), (1, (.int .i64 p1)), (2, (.int .i64 p2)), (9, u0), (10, (.int .i64 (p0.length : Int))), (11, (.int .i64 i3)), (45, (.bool false))]) ⟨rfl, rfl, rfl, rfl, rfl, rfl, rfl, trivial⟩ ?_
                subst hq212
                refine np_norm (fun a ha => ⟨ha, kp⟩)
      rintro a58 w22 ⟨ha, k56⟩
      have s57 := k56.stp 999 o1
      replace hB := hB.stp s57 (by decide)
      refine wl_of ha ?_
      refine wpF_end (r := [(0, u0), (1, (.int .i64 p1)), (2, (.int .i64 p2)), (9, u0), (10, (.int .i64 (p0.length : Int))), (11, (.int .i64 i3)), (45, (.bool q21))]) ⟨rfl, rfl, rfl, rfl, rfl, rfl, rfl, trivial⟩ ?_
      refine nx ?_
      refine wpC_cond rfl (fun t59 => ?_) (fun t59 => ?_)
      · rw [if_pos t59] at b10
        refine wpC_seq ?_
        refine wpC_region ?_
        refine st_val (ex_assign rfl) (by decide) trivial ?_
        refine wpF_end (r := [(6, (.bool false))]) ⟨rfl, trivial⟩ ?_
        refine nx ?_
        refine wpC_ret ?_
        refine nb_ret ?_
        refine nt_ret ?_
        refine nt_ret ?_
        refine nb_ret ?_
        refine np_ret ?_
        have e60 := Option.some.inj b10
        subst e60
        refine fun a ha => ⟨_, n11, ?_⟩
        refine ret_post (P := Try.prog) (vs := [(.bool false)]) Try.results114 ⟨rfl, trivial⟩ ?_ a ha
        exact ⟨rfl, hB.keeps⟩
      · rw [if_neg (by rw [t59]; decide)] at b10
        refine wpC_skip ?_
        refine nb_norm ?_
        refine nx ?_
        refine wpC_region ?_
        refine st_val (ex_add rfl rfl (ck_in (by omega) (by omega))) (by decide) trivial ?_
        refine st_val (ex_move rfl) (by decide) trivial ?_
        refine wpF_end (r := [(0, u0), (1, (.int .i64 p1)), (2, (.int .i64 p2)), (9, u0), (10, (.int .i64 (p0.length : Int))), (11, (.int .i64 (i3 + 1)))]) ⟨rfl, rfl, rfl, rfl, rfl, rfl, trivial⟩ ?_
        refine nt_norm ?_
        have e61 := Option.some.inj b10
        subst e61
        refine to_k (r := [(0, u0), (1, (.int .i64 p1)), (2, (.int .i64 p2)), (9, u0), (10, (.int .i64 (p0.length : Int))), (11, (.int .i64 (i3 + 1)))]) ⟨rfl, rfl, rfl, rfl, rfl, rfl, trivial⟩ ?_
        intro a ha
        exact ⟨_, (by rw [← m7]; simp only [List.length_drop]; omega), i3 + 1, o1, n11, rfl, (by omega), ha, hB⟩
    · have r62 := forI_done t12 l5
      refine wp_of ha ?_
      refine wpC_seq ?_
      refine wpC_region ?_
      refine st_val (ex_lss rfl rfl) (by decide) trivial ?_
      refine wpF_end (r := [(0, u0), (1, (.int .i64 p1)), (2, (.int .i64 p2)), (9, u0), (10, (.int .i64 (p0.length : Int))), (11, (.int .i64 i3)), (12, (.bool (decide (i3 < (p0.length : Int)))))]) ⟨rfl, rfl, rfl, rfl, rfl, rfl, rfl, trivial⟩ ?_
      refine nx ?_
      refine wpC_seq ?_
      refine wpC_false (congrArg (fun b => some (Value.bool b)) (decide_eq_false t12)) ?_
      refine wpC_exit ?_
      refine nt_exit ?_
      refine nt_exit ?_
      refine nb_hit ?_
      refine np_norm ?_
      refine to_k (r := []) trivial ?_
      intro a ha
      exact ⟨o1, r62, ha, hB⟩
  · rintro a w2 ⟨o1, rfl, ha, hB⟩
    dsimp only at hF
    refine ap_k ha ?_
    refine nx ?_
    refine wpC_seq ?_
    refine wpC_region ?_
    refine st_val (ex_assign rfl) (by decide) trivial ?_
    refine wpF_end (r := [(6, (.bool true))]) ⟨rfl, trivial⟩ ?_
    refine nx ?_
    refine wpC_ret ?_
    have e63 := Option.some.inj hF
    subst e63
    refine ret_post (P := Try.prog) (vs := [(.bool true)]) Try.results114 ⟨rfl, trivial⟩ ?_
    exact ⟨rfl, hB.keeps⟩
  · rintro a w2 ⟨r', rfl, b64⟩
    dsimp only at hF
    have e65 := Option.some.inj hF
    subst e65
    exact b64

def fI_IsProblem (fuel : Nat) (p0 : T_Problem) : Option Bool :=
  (fI_within p0.Labels 1 8) >>= fun x10 =>
  (
    if x10 then
      (fI_within p0.Degree 1 4) >>= fun x20 =>
      if x20 then
        (fI_configurationsOk fuel p0.Nodes p0.Degree p0.Labels) >>= fun x27 =>
        if x27 then
          (fI_configurationsOk fuel p0.Edges 2 p0.Labels) >>= fun x34 =>
          some x34
        else
          some false
      else
        some false
    else
      some false) >>= fun q16 =>
  some q16

def pI_IsProblem (w : World) (r : Bool) : Ending → World → Prop := fun e w' => e = .returned (.bool r) ∧ Keeps w w'
set_option maxRecDepth 100000 in
set_option maxHeartbeats 2000000 in
theorem cI_IsProblem (fuel : Nat) (w : World) (u0 : List Value) (p0 : T_Problem) (g0 : Rp.rd zt w u0 p0) (r : Bool) (hF : fI_IsProblem fuel p0 = some r) :
    Calls Try.prog 81 #[.agg u0.toArray] w (pI_IsProblem w r) := by
  unfold fI_IsProblem at hF
  obtain ⟨v1, v3, rfl, h2, h4⟩ := g0
  have hB : Bs (fun _ => 1) (col (fun _ => 1)) w w := Bs.start _ _
  refine calls_start (n := 27) (vs := [(.agg #[(.int .i64 p0.Labels), (.int .i64 p0.Degree), v1, v3])]) Try.func81 rfl rfl ?_
  refine wpC_seq ?_
  refine wpC_region ?_
  refine st_op (by decide) trivial ?_
  refine wf_box (o := (col (fun _ => 1))) w.heap.size 11 hB.keeps.size (cs := [(.int .i64 p0.Labels), (.int .i64 p0.Degree), v1, v3]) rfl rfl ?_
  intro o5 w6 b7 h8 s9
  replace hB := hB.stp s9 (by decide)
  refine st_val (ex_assign rfl) (by decide) trivial ?_
  refine wpF_end (r := [(1, (.pointer (some ⟨b7, 0, none⟩)))]) ⟨rfl, trivial⟩ ?_
  refine nx ?_
  refine wpC_seq ?_
  refine wpC_region ?_
  refine st_val (ex_field rfl Try.underlying64 rfl Try.sizeOf3) (by decide) trivial ?_
  refine st_val (ex_load1 rfl Try.isAgg3 (h8.cell rfl)) (by decide) trivial ?_
  obtain ⟨x10, hx10, hF⟩ := bind_some hF
  refine st_op (by decide) trivial ?_
  refine wf_call (cI_within w6 p0.Labels 1 8 x10 hx10) Try.call95 ⟨rfl, rfl, rfl, trivial⟩ ?_
  rintro e15 w11 ⟨rfl, k12⟩
  have s14 := k12.stp 999 o5
  refine ⟨_, rfl, ?_⟩
  replace h8 := h8.stp s14 (by decide)
  replace hB := hB.stp s14 (by decide)
  refine st_val (ex_move rfl) (by decide) trivial ?_
  obtain ⟨q16, hq16, hF⟩ := bind_some hF
  refine wpF_cutAt 20 (fun a18 w17 => Fr a18 27 [(26, (.bool q16))] ∧ Keeps w11 w17) ?_ ?_
  all_goals simp only [List.take_succ_cons, List.take_zero, List.drop_succ_cons, List.drop_zero]
  · have kp : Keeps w11 w11 := Keeps.refl _
    rcases Bool.eq_false_or_eq_true (x10) with t19 | t19
    · rw [if_pos t19] at hq16
      refine st_val (ex_field rfl Try.underlying64 rfl Try.sizeOf3) (by decide) ⟨_, rfl, (congrArg (fun b => some (Value.bool b)) t19)⟩ ?_
      refine st_val (ex_load1 rfl Try.isAgg3 (h8.cell rfl)) (by decide) ⟨_, rfl, (congrArg (fun b => some (Value.bool b)) t19)⟩ ?_
      obtain ⟨x20, hx20, hq16⟩ := bind_some hq16
      refine st_op (by decide) ⟨_, rfl, (congrArg (fun b => some (Value.bool b)) t19)⟩ ?_
      refine wf_call (cI_within w11 p0.Degree 1 4 x20 hx20) Try.call95 ⟨rfl, rfl, rfl, trivial⟩ ?_
      rintro e25 w21 ⟨rfl, k22⟩
      have s24 := k22.stp 999 o5
      refine ⟨_, rfl, ?_⟩
      replace h8 := h8.stp s24 (by decide)
      replace hB := hB.stp s24 (by decide)
      replace kp := Keeps.trans kp k22
      refine st_val (ex_pick_t (congrArg (fun b => some (Value.bool b)) t19) rfl) (by decide) trivial ?_
      refine st_val (ex_move rfl) (by decide) trivial ?_
      rcases Bool.eq_false_or_eq_true (x20) with t26 | t26
      · rw [if_pos t26] at hq16
        refine st_val (ex_field rfl Try.underlying64 rfl Try.sizeOf41) (by decide) ⟨_, rfl, (congrArg (fun b => some (Value.bool b)) t26)⟩ ?_
        refine st_val (ex_load1 rfl Try.isAgg41 (h8.cell rfl)) (by decide) ⟨_, rfl, (congrArg (fun b => some (Value.bool b)) t26)⟩ ?_
        refine st_val (ex_field rfl Try.underlying64 rfl Try.sizeOf3) (by decide) ⟨_, rfl, (congrArg (fun b => some (Value.bool b)) t26)⟩ ?_
        refine st_val (ex_load1 rfl Try.isAgg3 (h8.cell rfl)) (by decide) ⟨_, rfl, (congrArg (fun b => some (Value.bool b)) t26)⟩ ?_
        refine st_val (ex_field rfl Try.underlying64 rfl Try.sizeOf3) (by decide) ⟨_, rfl, (congrArg (fun b => some (Value.bool b)) t26)⟩ ?_
        refine st_val (ex_load1 rfl Try.isAgg3 (h8.cell rfl)) (by decide) ⟨_, rfl, (congrArg (fun b => some (Value.bool b)) t26)⟩ ?_
        obtain ⟨x27, hx27, hq16⟩ := bind_some hq16
        refine st_op (by decide) ⟨_, rfl, (congrArg (fun b => some (Value.bool b)) t26)⟩ ?_
        refine wf_call (cI_configurationsOk fuel w21 _ p0.Nodes (h2.keep hB.keeps) p0.Degree p0.Labels x27 hx27) Try.call114 ⟨rfl, rfl, rfl, trivial⟩ ?_
        rintro e32 w28 ⟨rfl, k29⟩
        have s31 := k29.stp 999 o5
        refine ⟨_, rfl, ?_⟩
        replace h8 := h8.stp s31 (by decide)
        replace hB := hB.stp s31 (by decide)
        replace kp := Keeps.trans kp k29
        refine st_val (ex_pick_t (congrArg (fun b => some (Value.bool b)) t26) rfl) (by decide) trivial ?_
        refine st_val (ex_move rfl) (by decide) trivial ?_
        rcases Bool.eq_false_or_eq_true (x27) with t33 | t33
        · rw [if_pos t33] at hq16
          refine st_val (ex_field rfl Try.underlying64 rfl Try.sizeOf41) (by decide) ⟨_, rfl, (congrArg (fun b => some (Value.bool b)) t33)⟩ ?_
          refine st_val (ex_load1 rfl Try.isAgg41 (h8.cell rfl)) (by decide) ⟨_, rfl, (congrArg (fun b => some (Value.bool b)) t33)⟩ ?_
          refine st_val (ex_field rfl Try.underlying64 rfl Try.sizeOf3) (by decide) ⟨_, rfl, (congrArg (fun b => some (Value.bool b)) t33)⟩ ?_
          refine st_val (ex_load1 rfl Try.isAgg3 (h8.cell rfl)) (by decide) ⟨_, rfl, (congrArg (fun b => some (Value.bool b)) t33)⟩ ?_
          obtain ⟨x34, hx34, hq16⟩ := bind_some hq16
          refine st_op (by decide) ⟨_, rfl, (congrArg (fun b => some (Value.bool b)) t33)⟩ ?_
          refine wf_call (cI_configurationsOk fuel w28 _ p0.Edges (h4.keep hB.keeps) 2 p0.Labels x34 hx34) Try.call114 ⟨rfl, rfl, rfl, trivial⟩ ?_
          rintro e39 w35 ⟨rfl, k36⟩
          have s38 := k36.stp 999 o5
          refine ⟨_, rfl, ?_⟩
          replace h8 := h8.stp s38 (by decide)
          replace hB := hB.stp s38 (by decide)
          replace kp := Keeps.trans kp k36
          refine st_val (ex_pick_t (congrArg (fun b => some (Value.bool b)) t33) rfl) (by decide) trivial ?_
          have hq162 := Option.some.inj hq16
          refine wpF_end (r := [(26, (.bool x34))]) ⟨rfl, trivial⟩ ?_
          subst hq162
          refine np_norm (fun a ha => ⟨ha, kp⟩)
        · rw [if_neg (by rw [t33]; decide)] at hq16
          refine st_no rfl rfl (by rw [t33]; rfl) (by decide) ?_
          refine st_no rfl rfl (by rw [t33]; rfl) (by decide) ?_
          refine st_no rfl rfl (by rw [t33]; rfl) (by decide) ?_
          refine st_no rfl rfl (by rw [t33]; rfl) (by decide) ?_
          refine st_no rfl rfl (by rw [t33]; rfl) (by decide) ?_
          refine st_val (ex_pick_f (congrArg (fun b => some (Value.bool b)) t33) rfl) (by decide) trivial ?_
          have hq162 := Option.some.inj hq16
          refine wpF_end (r := [(26, (.bool false))]) ⟨rfl, trivial⟩ ?_
          subst hq162
          refine np_norm (fun a ha => ⟨ha, kp⟩)
      · rw [if_neg (by rw [t26]; decide)] at hq16
        refine st_no rfl rfl (by rw [t26]; rfl) (by decide) ?_
        refine st_no rfl rfl (by rw [t26]; rfl) (by decide) ?_
        refine st_no rfl rfl (by rw [t26]; rfl) (by decide) ?_
        refine st_no rfl rfl (by rw [t26]; rfl) (by decide) ?_
        refine st_no rfl rfl (by rw [t26]; rfl) (by decide) ?_
        refine st_no rfl rfl (by rw [t26]; rfl) (by decide) ?_
        refine st_no rfl rfl (by rw [t26]; rfl) (by decide) ?_
        refine st_val (ex_pick_f (congrArg (fun b => some (Value.bool b)) t26) rfl) (by decide) trivial ?_
        refine st_val (ex_move rfl) (by decide) trivial ?_
        refine st_no rfl rfl rfl (by decide) ?_
        refine st_no rfl rfl rfl (by decide) ?_
        refine st_no rfl rfl rfl (by decide) ?_
        refine st_no rfl rfl rfl (by decide) ?_
        refine st_no rfl rfl rfl (by decide) ?_
        refine st_val (ex_pick_f rfl rfl) (by decide) trivial ?_
        have hq162 := Option.some.inj hq16
        refine wpF_end (r := [(26, (.bool false))]) ⟨rfl, trivial⟩ ?_
        subst hq162
        refine np_norm (fun a ha => ⟨ha, kp⟩)
    · rw [if_neg (by rw [t19]; decide)] at hq16
      refine st_no rfl rfl (by rw [t19]; rfl) (by decide) ?_
      refine st_no rfl rfl (by rw [t19]; rfl) (by decide) ?_
      refine st_no rfl rfl (by rw [t19]; rfl) (by decide) ?_
      refine st_val (ex_pick_f (congrArg (fun b => some (Value.bool b)) t19) rfl) (by decide) trivial ?_
      refine st_val (ex_move rfl) (by decide) trivial ?_
      refine st_no rfl rfl rfl (by decide) ?_
      refine st_no rfl rfl rfl (by decide) ?_
      refine st_no rfl rfl rfl (by decide) ?_
      refine st_no rfl rfl rfl (by decide) ?_
      refine st_no rfl rfl rfl (by decide) ?_
      refine st_no rfl rfl rfl (by decide) ?_
      refine st_no rfl rfl rfl (by decide) ?_
      refine st_val (ex_pick_f rfl rfl) (by decide) trivial ?_
      refine st_val (ex_move rfl) (by decide) trivial ?_
      refine st_no rfl rfl rfl (by decide) ?_
      refine st_no rfl rfl rfl (by decide) ?_
      refine st_no rfl rfl rfl (by decide) ?_
      refine st_no rfl rfl rfl (by decide) ?_
      refine st_no rfl rfl rfl (by decide) ?_
      refine st_val (ex_pick_f rfl rfl) (by decide) trivial ?_
      have hq162 := Option.some.inj hq16
      refine wpF_end (r := [(26, (.bool false))]) ⟨rfl, trivial⟩ ?_
      subst hq162
      refine np_norm (fun a ha => ⟨ha, kp⟩)
  rintro a42 w17 ⟨ha, k40⟩
  have s41 := k40.stp 999 o5
  replace h8 := h8.stp s41 (by decide)
  replace hB := hB.stp s41 (by decide)
  refine wl_of ha ?_
  refine st_val (ex_assign rfl) (by decide) trivial ?_
  refine wpF_end (r := [(2, (.bool q16))]) ⟨rfl, trivial⟩ ?_
  refine nx ?_
  refine wpC_ret ?_
  have e43 := Option.some.inj hF
  subst e43
  refine ret_post (P := Try.prog) (vs := [(.bool q16)]) Try.results81 ⟨rfl, trivial⟩ ?_
  exact ⟨rfl, hB.keeps⟩

def fI_Problem_hasLabels (p0 : T_Problem) (p1 : List Int) : Option Bool :=
  (ck (p0.Labels - 1)) >>= fun x10 =>
  (fI_allWithin p1 0 x10) >>= fun x11 =>
  some x11

def pI_Problem_hasLabels (w : World) (r : Bool) : Ending → World → Prop := fun e w' => e = .returned (.bool r) ∧ Keeps w w'
set_option maxRecDepth 100000 in
set_option maxHeartbeats 2000000 in
theorem cI_Problem_hasLabels (w : World) (u0 : List Value) (p0 : T_Problem) (g0 : Rp.rd zt w u0 p0) (u1 : Value) (p1 : List Int) (g1 : RdL zt w u1 p1) (r : Bool) (hF : fI_Problem_hasLabels p0 p1 = some r) :
    Calls Try.prog 118 #[.agg u0.toArray, u1] w (pI_Problem_hasLabels w r) := by
  unfold fI_Problem_hasLabels at hF
  obtain ⟨v1, v3, rfl, h2, h4⟩ := g0
  have hB : Bs (fun _ => 1) (col (fun _ => 1)) w w := Bs.start _ _
  refine calls_start (n := 10) (vs := [(.agg #[(.int .i64 p0.Labels), (.int .i64 p0.Degree), v1, v3]), u1]) Try.func118 rfl rfl ?_
  refine wpC_seq ?_
  refine wpC_region ?_
  refine st_op (by decide) trivial ?_
  refine wf_box (o := (col (fun _ => 1))) w.heap.size 11 hB.keeps.size (cs := [(.int .i64 p0.Labels), (.int .i64 p0.Degree), v1, v3]) rfl rfl ?_
  intro o5 w6 b7 h8 s9
  replace hB := hB.stp s9 (by decide)
  refine st_val (ex_assign rfl) (by decide) trivial ?_
  refine wpF_end (r := [(1, u1), (2, (.pointer (some ⟨b7, 0, none⟩)))]) ⟨rfl, rfl, trivial⟩ ?_
  refine nx ?_
  refine wpC_seq ?_
  refine wpC_region ?_
  refine st_val (ex_move rfl) (by decide) trivial ?_
  refine st_val (ex_field rfl Try.underlying64 rfl Try.sizeOf3) (by decide) trivial ?_
  refine st_val (ex_load1 rfl Try.isAgg3 (h8.cell rfl)) (by decide) trivial ?_
  obtain ⟨x10, hx10, hF⟩ := bind_some hF
  refine st_val (ex_sub rfl rfl hx10) (by decide) trivial ?_
  obtain ⟨x11, hx11, hF⟩ := bind_some hF
  refine st_op (by decide) trivial ?_
  refine wf_call (cI_allWithin w6 _ p1 (g1.keep hB.keeps) 0 x10 x11 hx11) Try.call131 ⟨rfl, rfl, rfl, trivial⟩ ?_
  rintro e16 w12 ⟨rfl, k13⟩
  have s15 := k13.stp 999 o5
  refine ⟨_, rfl, ?_⟩
  replace h8 := h8.stp s15 (by decide)
  replace hB := hB.stp s15 (by decide)
  refine st_val (ex_assign rfl) (by decide) trivial ?_
  refine wpF_end (r := [(4, (.bool x11))]) ⟨rfl, trivial⟩ ?_
  refine nx ?_
  refine wpC_ret ?_
  have e17 := Option.some.inj hF
  subst e17
  refine ret_post (P := Try.prog) (vs := [(.bool x11)]) Try.results118 ⟨rfl, trivial⟩ ?_
  exact ⟨rfl, hB.keeps⟩

def fI_Problem_node (fuel : Nat) (p0 : T_Problem) (p1 : List Int) : Option Bool :=
  (fI_hasConfiguration fuel p0.Nodes p1) >>= fun x10 =>
  some x10

def fI_Problem_edge (fuel : Nat) (p0 : T_Problem) (p1 : Int) (p2 : Int) : Option Bool :=
  (fI_hasConfiguration fuel p0.Edges ([p1, p2] : List Int)) >>= fun x16 =>
  some x16

def fI_AllowsNode (fuel : Nat) (p0 : T_Problem) (p1 : List Int) : Option (Bool × Bool) :=
  (fI_IsProblem fuel p0) >>= fun x10 =>
  (
    if !x10 then
      some true
    else
      if (p1.length : Int) != p0.Degree then
        some true
      else
        (fI_Problem_hasLabels p0 p1) >>= fun x21 =>
        some (!x21)) >>= fun q16 =>
  if q16 then
    some (false, false)
  else
    (fI_Problem_node fuel p0 p1) >>= fun x32 =>
    some (x32, true)

def fI_AllowsEdge (fuel : Nat) (p0 : T_Problem) (p1 : Int) (p2 : Int) : Option (Bool × Bool) :=
  (fI_IsProblem fuel p0) >>= fun x10 =>
  (
    if !x10 then
      some true
    else
      (fI_Problem_hasLabels p0 ([p1, p2] : List Int)) >>= fun x26 =>
      some (!x26)) >>= fun q16 =>
  if q16 then
    some (false, false)
  else
    (fI_Problem_edge fuel p0 p1 p2) >>= fun x37 =>
    some (x37, true)

end Go.Proofs.Ytijaojnaamkinaa
