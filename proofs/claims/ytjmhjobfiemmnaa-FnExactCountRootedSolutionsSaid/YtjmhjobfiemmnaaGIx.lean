/- slices.IndexFunc[[][]int,[]int], slices.ContainsFunc[[][]int,[]int]: plain functions, and the walks that show that the program computes them (printed by gen.py). -/
import Derived.Test.YtjmhjobfiemmnaaGA
import Derived.Test.YtjmhjobfiemmnaaKg
namespace Go.Proofs.Ytjmhjobfiemmnaa
open Go.RowKit
set_option linter.unusedSimpArgs false
set_option linter.unusedVariables false

def fX_slices_IndexFunc_LLint_int_s1 (p0 : List (List Int)) (p1 : (List Int) → Option Bool) : Int → Unit → Option (Lp Unit Unit Int) := fun (i3 : Int) (s : Unit) =>
  (ix p0 i3) >>= fun x15 =>
  (p1 x15) >>= fun x23 =>
  if x23 then
    some (.ret i3)
  else
    some (.go ())
def fX_slices_IndexFunc_LLint_int (p0 : List (List Int)) (p1 : (List Int) → Option Bool) : Option Int :=
  ck (p0.length : Int) >>= fun _ =>
  (forN (fX_slices_IndexFunc_LLint_int_s1 p0 p1) ((p0.length : Int)).toNat 0 ()) >>= fun q4 =>
  match q4 with
  | .inl _ =>
    some (-1)
  | .inr r' => some r'

def pX_slices_IndexFunc_LLint_int (w : World) (r : Int) : Ending → World → Prop := fun e w' => e = .returned (.int .i64 r) ∧ Keeps w w'
set_option maxRecDepth 100000 in
set_option maxHeartbeats 2000000 in
theorem cX_slices_IndexFunc_LLint_int (w : World) (u0 : Value) (p0 : List (List Int)) (g0 : RdL zt w u0 p0) (u1 : Value) (p1 : (List Int) → Option Bool) (g1 : FnV Try.prog w u1 p1) (r : Int) (hF : fX_slices_IndexFunc_LLint_int p0 p1 = some r) :
    Calls Try.prog 76 #[u0, u1] w (pX_slices_IndexFunc_LLint_int w r) := by
  unfold fX_slices_IndexFunc_LLint_int at hF
  have hB : Bs (fun _ => 1) (col (fun _ => 1)) w w := Bs.start _ _
  refine calls_start (n := 19) (vs := [u0, u1]) Try.func76 rfl rfl ?_
  refine wpC_seq ?_
  refine wpC_region ?_
  refine st_val (ex_assign rfl) (by decide) trivial ?_
  refine wpF_end (r := [(0, u0), (1, u1)]) ⟨rfl, rfl, trivial⟩ ?_
  refine nx ?_
  refine wpC_seq ?_
  refine wpC_seq ?_
  refine wpC_region ?_
  refine st_val (ex_move rfl) (by decide) trivial ?_
  refine st_val (ex_lenR rfl g0 Try.underlying22) (by decide) trivial ?_
  refine st_val (ex_move rfl) (by decide) trivial ?_
  refine wpF_end (r := [(0, u0), (1, u1), (7, (.int .i64 (p0.length : Int))), (8, (.int .i64 0))]) ⟨rfl, rfl, rfl, rfl, trivial⟩ ?_
  refine nx ?_
  obtain ⟨u6, h5, hF⟩ := bind_some hF
  obtain ⟨-, h5a, h5b⟩ := ck_some h5
  obtain ⟨q4, hq4, hF⟩ := bind_some hF
  refine wpC_cutN (fun a w2 => ∃ (o1 : Tg), q4 = .inl () ∧ Fr a 19 [] ∧ Bs (fun _ => 1) o1 w w2) (fun a w' => ∃ r', q4 = .inr r' ∧ bodyPost Try.prog Try.f76 (pX_slices_IndexFunc_LLint_int w r') .ret a w') ?_ ?_ ?_
  · refine wpC_block ?_
    refine wpC_loop (fun (K : Nat) a w2 => ∃ (i3 : Int) (o1 : Tg), forN (fX_slices_IndexFunc_LLint_int_s1 p0 p1) ((p0.length : Int) - i3).toNat i3 () = some q4 ∧ ((p0.length : Int) - i3).toNat = K ∧ 0 ≤ i3 ∧ Fr a 19 [(0, u0), (1, u1), (7, (.int .i64 (p0.length : Int))), (8, (.int .i64 i3))] ∧ Bs (fun _ => 1) o1 w w2) _ (fun a ha => ⟨0, (col (fun _ => 1)), (by rw [Int.sub_zero]; exact hq4), rfl, Int.le_refl 0, ha.sub (r := [(0, u0), (1, u1), (7, (.int .i64 (p0.length : Int))), (8, (.int .i64 0))]) ⟨rfl, rfl, rfl, rfl, trivial⟩, hB⟩) ?_
    rintro K10 a w2 ⟨i3, o1, l7, m9, z8, ha, hB⟩
    by_cases t14 : i3 < (p0.length : Int)
    · obtain ⟨q11, b12, n13⟩ := forN_cons t14 l7
      dsimp only [fX_slices_IndexFunc_LLint_int_s1] at b12
      refine wp_of ha ?_
      refine wpC_seq ?_
      refine wpC_region ?_
      refine st_val (ex_lss rfl rfl) (by decide) trivial ?_
      refine wpF_end (r := [(0, u0), (1, u1), (7, (.int .i64 (p0.length : Int))), (8, (.int .i64 i3)), (9, (.bool (decide (i3 < (p0.length : Int)))))]) ⟨rfl, rfl, rfl, rfl, rfl, trivial⟩ ?_
      refine nx ?_
      refine wpC_seq ?_
      refine wpC_true (congrArg (fun b => some (Value.bool b)) (decide_eq_true t14)) ?_
      refine wpC_skip ?_
      refine nx ?_
      refine wpC_seq ?_
      refine wpC_block ?_
      refine wpC_seq ?_
      refine wpC_region ?_
      refine st_val (ex_move rfl) (by decide) trivial ?_
      refine st_val (ex_assign rfl) (by decide) trivial ?_
      refine wpF_end (r := [(0, u0), (1, u1), (5, (.int .i64 i3)), (7, (.int .i64 (p0.length : Int))), (8, (.int .i64 i3))]) ⟨rfl, rfl, rfl, rfl, rfl, trivial⟩ ?_
      refine nx ?_
      refine wpC_seq ?_
      refine wpC_region ?_
      refine st_val (ex_move rfl) (by decide) trivial ?_
      refine st_val (ex_move rfl) (by decide) trivial ?_
      refine st_val (ex_move rfl) (by decide) trivial ?_
      obtain ⟨x15, hx15, b12⟩ := bind_some b12
      refine st_op (by decide) trivial ?_
      refine wf_atZ g0 hx15 hB rfl rfl Try.underlying22 Try.sizeOf25 ?_
      intro b16 f17 c18 h19 h20
      obtain ⟨v21, rfl, h22⟩ := h20
      refine st_val (ex_load1 rfl Try.isAgg25 (cell_of_cells h19)) (by decide) trivial ?_
      obtain ⟨x23, hx23, b12⟩ := bind_some b12
      refine st_op (by decide) trivial ?_
      refine wf_callv (x := x15) (vs := [v21]) (g1.keep hB.keeps) hx23 ⟨_, rfl, (h22.keep hB.keeps)⟩ rfl ⟨rfl, trivial⟩ ?_
      intro w24 k25
      have s26 := k25.stp 999 o1
      replace hB := hB.stp s26 (by decide)
      refine wpF_end (r := [(0, u0), (1, u1), (5, (.int .i64 i3)), (7, (.int .i64 (p0.length : Int))), (8, (.int .i64 i3)), (16, (.bool x23))]) ⟨rfl, rfl, rfl, rfl, rfl, rfl, trivial⟩ ?_
      refine nx ?_
      refine wpC_cond rfl (fun t27 => ?_) (fun t27 => ?_)
      · rw [if_pos t27] at b12
        refine wpC_seq ?_
        refine wpC_region ?_
        refine st_val (ex_move rfl) (by decide) trivial ?_
        refine st_val (ex_assign rfl) (by decide) trivial ?_
        refine wpF_end (r := [(4, (.int .i64 i3))]) ⟨rfl, trivial⟩ ?_
        refine nx ?_
        refine wpC_ret ?_
        refine nb_ret ?_
        refine nt_ret ?_
        refine nt_ret ?_
        refine nb_ret ?_
        refine np_ret ?_
        have e28 := Option.some.inj b12
        subst e28
        refine fun a ha => ⟨_, n13, ?_⟩
        refine ret_post (P := Try.prog) (vs := [(.int .i64 i3)]) Try.results76 ⟨rfl, trivial⟩ ?_ a ha
        exact ⟨rfl, hB.keeps⟩
      · rw [if_neg (by rw [t27]; decide)] at b12
        refine wpC_skip ?_
        refine nb_norm ?_
        refine nx ?_
        refine wpC_region ?_
        refine st_val (ex_add rfl rfl (ck_in (by omega) (by omega))) (by decide) trivial ?_
        refine st_val (ex_move rfl) (by decide) trivial ?_
        refine wpF_end (r := [(0, u0), (1, u1), (7, (.int .i64 (p0.length : Int))), (8, (.int .i64 (i3 + 1)))]) ⟨rfl, rfl, rfl, rfl, trivial⟩ ?_
        refine nt_norm ?_
        have e29 := Option.some.inj b12
        subst e29
        refine to_k (r := [(0, u0), (1, u1), (7, (.int .i64 (p0.length : Int))), (8, (.int .i64 (i3 + 1)))]) ⟨rfl, rfl, rfl, rfl, trivial⟩ ?_
        intro a ha
        exact ⟨_, (by rw [← m9]; omega), i3 + 1, o1, n13, rfl, (by omega), ha, hB⟩
    · have r30 := forN_done t14 l7
      refine wp_of ha ?_
      refine wpC_seq ?_
      refine wpC_region ?_
      refine st_val (ex_lss rfl rfl) (by decide) trivial ?_
      refine wpF_end (r := [(0, u0), (1, u1), (7, (.int .i64 (p0.length : Int))), (8, (.int .i64 i3)), (9, (.bool (decide (i3 < (p0.length : Int)))))]) ⟨rfl, rfl, rfl, rfl, rfl, trivial⟩ ?_
      refine nx ?_
      refine wpC_seq ?_
      refine wpC_false (congrArg (fun b => some (Value.bool b)) (decide_eq_false t14)) ?_
      refine wpC_exit ?_
      refine nt_exit ?_
      refine nt_exit ?_
      refine nb_hit ?_
      refine np_norm ?_
      refine to_k (r := []) trivial ?_
      intro a ha
      exact ⟨o1, r30, ha, hB⟩
  · rintro a w2 ⟨o1, rfl, ha, hB⟩
    dsimp only at hF
    refine ap_k ha ?_
    refine nx ?_
    refine wpC_seq ?_
    refine wpC_region ?_
    refine st_val (ex_assign rfl) (by decide) trivial ?_
    refine wpF_end (r := [(4, (.int .i64 (-1)))]) ⟨rfl, trivial⟩ ?_
    refine nx ?_
    refine wpC_ret ?_
    have e31 := Option.some.inj hF
    subst e31
    refine ret_post (P := Try.prog) (vs := [(.int .i64 (-1))]) Try.results76 ⟨rfl, trivial⟩ ?_
    exact ⟨rfl, hB.keeps⟩
  · rintro a w2 ⟨r', rfl, b32⟩
    dsimp only at hF
    have e33 := Option.some.inj hF
    subst e33
    exact b32

def fX_slices_ContainsFunc_LLint_int (p0 : List (List Int)) (p1 : (List Int) → Option Bool) : Option Bool :=
  (fX_slices_IndexFunc_LLint_int p0 p1) >>= fun x1 =>
  some (decide (x1 ≥ 0))

def pX_slices_ContainsFunc_LLint_int (w : World) (r : Bool) : Ending → World → Prop := fun e w' => e = .returned (.bool r) ∧ Keeps w w'
set_option maxRecDepth 100000 in
set_option maxHeartbeats 2000000 in
theorem cX_slices_ContainsFunc_LLint_int (w : World) (u0 : Value) (p0 : List (List Int)) (g0 : RdL zt w u0 p0) (u1 : Value) (p1 : (List Int) → Option Bool) (g1 : FnV Try.prog w u1 p1) (r : Bool) (hF : fX_slices_ContainsFunc_LLint_int p0 p1 = some r) :
    Calls Try.prog 64 #[u0, u1] w (pX_slices_ContainsFunc_LLint_int w r) := by
  unfold fX_slices_ContainsFunc_LLint_int at hF
  have hB : Bs (fun _ => 1) (col (fun _ => 1)) w w := Bs.start _ _
  refine calls_start (n := 9) (vs := [u0, u1]) Try.func64 rfl rfl ?_
  refine wpC_seq ?_
  refine wpC_region ?_
  refine st_val (ex_assign rfl) (by decide) trivial ?_
  refine wpF_end (r := [(0, u0), (1, u1)]) ⟨rfl, rfl, trivial⟩ ?_
  refine nx ?_
  refine wpC_seq ?_
  refine wpC_region ?_
  refine st_val (ex_move rfl) (by decide) trivial ?_
  refine st_val (ex_move rfl) (by decide) trivial ?_
  obtain ⟨x1, hx1, hF⟩ := bind_some hF
  refine st_op (by decide) trivial ?_
  refine wf_call (cX_slices_IndexFunc_LLint_int w _ p0 (g0.keep hB.keeps) _ p1 (g1.keep hB.keeps) x1 hx1) Try.call76 ⟨rfl, rfl, trivial⟩ ?_
  rintro e6 w2 ⟨rfl, k3⟩
  have s5 := k3.stp 999 (col (fun _ => 1))
  refine ⟨_, rfl, ?_⟩
  replace hB := hB.stp s5 (by decide)
  refine st_val (ex_geq rfl rfl) (by decide) trivial ?_
  refine st_val (ex_assign rfl) (by decide) trivial ?_
  refine wpF_end (r := [(4, (.bool (decide (x1 ≥ 0))))]) ⟨rfl, trivial⟩ ?_
  refine nx ?_
  refine wpC_ret ?_
  have e7 := Option.some.inj hF
  subst e7
  refine ret_post (P := Try.prog) (vs := [(.bool (decide (x1 ≥ 0)))]) Try.results64 ⟨rfl, trivial⟩ ?_
  exact ⟨rfl, hB.keeps⟩

end Go.Proofs.Ytjmhjobfiemmnaa
