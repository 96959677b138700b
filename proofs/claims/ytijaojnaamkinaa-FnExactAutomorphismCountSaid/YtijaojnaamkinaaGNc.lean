/- slices.Equal[[]int,int], impl.sameCodes, spec.CodeFrom, impl.CodeFrom, spec.SameRoots, impl.SameRoots: plain functions, and the walks that show that the program computes them (printed by gen.py). -/
import Derived.Test.YtijaojnaamkinaaGNb
import Derived.Test.YtijaojnaamkinaaKc
namespace Go.Proofs.Ytijaojnaamkinaa
open Go.RowKit
set_option linter.unusedSimpArgs false
set_option linter.unusedVariables false

def fX_slices_Equal_int_int_s1 (p0 : List Int) (p1 : List Int) : Int → Unit → Option (Lp Unit Unit Bool) := fun (i5 : Int) (s : Unit) =>
  (ix p0 i5) >>= fun x17 =>
  (ix p1 i5) >>= fun x20 =>
  if x17 != x20 then
    some (.ret false)
  else
    some (.go ())
def fX_slices_Equal_int_int (p0 : List Int) (p1 : List Int) : Option Bool :=
  if (p0.length : Int) != (p1.length : Int) then
    some false
  else
    ck (p0.length : Int) >>= fun _ =>
    (forN (fX_slices_Equal_int_int_s1 p0 p1) ((p0.length : Int)).toNat 0 ()) >>= fun q6 =>
    match q6 with
    | .inl _ =>
      some true
    | .inr r' => some r'

def pX_slices_Equal_int_int (w : World) (r : Bool) : Ending → World → Prop := fun e w' => e = .returned (.bool r) ∧ Keeps w w'
set_option maxRecDepth 100000 in
set_option maxHeartbeats 2000000 in
theorem cX_slices_Equal_int_int (w : World) (u0 : Value) (p0 : List Int) (g0 : RdL zt w u0 p0) (u1 : Value) (p1 : List Int) (g1 : RdL zt w u1 p1) (r : Bool) (hF : fX_slices_Equal_int_int p0 p1 = some r) :
    Calls Try.prog 88 #[u0, u1] w (pX_slices_Equal_int_int w r) := by
  unfold fX_slices_Equal_int_int at hF
  have hB : Bs (fun _ => 1) (col (fun _ => 1)) w w := Bs.start _ _
  refine calls_start (n := 26) (vs := [u0, u1]) Try.func88 rfl rfl ?_
  refine wpC_seq ?_
  refine wpC_region ?_
  refine st_val (ex_assign rfl) (by decide) trivial ?_
  refine wpF_end (r := [(0, u0), (1, u1)]) ⟨rfl, rfl, trivial⟩ ?_
  refine nx ?_
  refine wpC_seq ?_
  refine wpC_seq ?_
  refine wpC_region ?_
  refine st_val (ex_move rfl) (by decide) trivial ?_
  refine st_val (ex_lenR rfl g0 Try.underlying23) (by decide) trivial ?_
  refine st_val (ex_move rfl) (by decide) trivial ?_
  refine st_val (ex_lenR rfl g1 Try.underlying23) (by decide) trivial ?_
  refine st_val (ex_neq rfl rfl) (by decide) trivial ?_
  refine wpF_end (r := [(0, u0), (1, u1), (10, (.bool ((p0.length : Int) != (p1.length : Int))))]) ⟨rfl, rfl, rfl, trivial⟩ ?_
  refine nx ?_
  refine wpC_cond rfl (fun t1 => ?_) (fun t1 => ?_)
  · rw [if_pos t1] at hF
    refine wpC_seq ?_
    refine wpC_region ?_
    refine st_val (ex_assign rfl) (by decide) trivial ?_
    refine wpF_end (r := [(4, (.bool false))]) ⟨rfl, trivial⟩ ?_
    refine nx ?_
    refine wpC_ret ?_
    refine nt_ret ?_
    have e2 := Option.some.inj hF
    subst e2
    refine ret_post (P := Try.prog) (vs := [(.bool false)]) Try.results88 ⟨rfl, trivial⟩ ?_
    exact ⟨rfl, hB.keeps⟩
  · rw [if_neg (by rw [t1]; decide)] at hF
    refine wpC_skip ?_
    refine nx ?_
    refine wpC_seq ?_
    refine wpC_seq ?_
    refine wpC_region ?_
    refine st_val (ex_move rfl) (by decide) trivial ?_
    refine st_val (ex_lenR rfl g0 Try.underlying23) (by decide) trivial ?_
    refine st_val (ex_move rfl) (by decide) trivial ?_
    refine wpF_end (r := [(0, u0), (1, u1), (12, (.int .i64 (p0.length : Int))), (13, (.int .i64 0))]) ⟨rfl, rfl, rfl, rfl, trivial⟩ ?_
    refine nx ?_
    obtain ⟨u8, h7, hF⟩ := bind_some hF
    obtain ⟨-, h7a, h7b⟩ := ck_some h7
    obtain ⟨q6, hq6, hF⟩ := bind_some hF
    refine wpC_cutN (fun a w4 => ∃ (o3 : Tg), q6 = .inl () ∧ Fr a 26 [] ∧ Bs (fun _ => 1) o3 w w4) (fun a w' => ∃ r', q6 = .inr r' ∧ bodyPost Try.prog Try.f88 (pX_slices_Equal_int_int w r') .ret a w') ?_ ?_ ?_
    · refine wpC_block ?_
      refine wpC_loop (fun (K : Nat) a w4 => ∃ (i5 : Int) (o3 : Tg), forN (fX_slices_Equal_int_int_s1 p0 p1) ((p0.length : Int) - i5).toNat i5 () = some q6 ∧ ((p0.length : Int) - i5).toNat = K ∧ 0 ≤ i5 ∧ Fr a 26 [(0, u0), (1, u1), (12, (.int .i64 (p0.length : Int))), (13, (.int .i64 i5))] ∧ Bs (fun _ => 1) o3 w w4) _ (fun a ha => ⟨0, (col (fun _ => 1)), (by rw [Int.sub_zero]; exact hq6), rfl, Int.le_refl 0, ha.sub (r := [(0, u0), (1, u1), (12, (.int .i64 (p0.length : Int))), (13, (.int .i64 0))]) ⟨rfl, rfl, rfl, rfl, trivial⟩, hB⟩) ?_
      rintro K12 a w4 ⟨i5, o3, l9, m11, z10, ha, hB⟩
      by_cases t16 : i5 < (p0.length : Int)
      · obtain ⟨q13, b14, n15⟩ := forN_cons t16 l9
        dsimp only [fX_slices_Equal_int_int_s1] at b14
        refine wp_of ha ?_
        refine wpC_seq ?_
        refine wpC_region ?_
        refine st_val (ex_lss rfl rfl) (by decide) trivial ?_
        refine wpF_end (r := [(0, u0), (1, u1), (12, (.int .i64 (p0.length : Int))), (13, (.int .i64 i5)), (14, (.bool (decide (i5 < (p0.length : Int)))))]) ⟨rfl, rfl, rfl, rfl, rfl, trivial⟩ ?_
        refine nx ?_
        refine wpC_seq ?_
        refine wpC_true (congrArg (fun b => some (Value.bool b)) (decide_eq_true t16)) ?_
        refine wpC_skip ?_
        refine nx ?_
        refine wpC_seq ?_
        refine wpC_block ?_
        refine wpC_seq ?_
        refine wpC_region ?_
        refine st_val (ex_move rfl) (by decide) trivial ?_
        refine st_val (ex_assign rfl) (by decide) trivial ?_
        refine wpF_end (r := [(0, u0), (1, u1), (5, (.int .i64 i5)), (12, (.int .i64 (p0.length : Int))), (13, (.int .i64 i5))]) ⟨rfl, rfl, rfl, rfl, rfl, trivial⟩ ?_
        refine nx ?_
        refine wpC_seq ?_
        obtain ⟨x17, hx17, b14⟩ := bind_some b14
        obtain ⟨x20, hx20, b14⟩ := bind_some b14
        refine wpC_drawn (o := o3) [(0, u0), (1, u1), (5, (.int .i64 i5)), (12, (.int .i64 (p0.length : Int))), (13, (.int .i64 i5))] [0, 1, 5, 12, 13] [16, 17, 18, 19, 20, 21, 22, 23] [[], [], [0, 1], [2], [], [], [4, 5], [6]] [none, none, none, none, none, none, none, none] [999, 999, 999, 999, 999, 999, 999, 999] [0, 0, 0, 0, 0, 0, 0, 0] [999] [fun v _ _ => v = u0, fun v _ _ => v = (.int .i64 i5), fun v o w9 => ∃ vl, v = adr vl (i5.toNat * Rp.sz Int) ∧ RdL zt w vl p0, fun v _ _ => v = (.int .i64 x17), fun v _ _ => v = u1, fun v _ _ => v = (.int .i64 i5), fun v o w9 => ∃ vl, v = adr vl (i5.toNat * Rp.sz Int) ∧ RdL zt w vl p1, fun v _ _ => v = (.int .i64 x20)] (fun o8 w8 => Bs (fun _ => 1) o8 w w8) follows_mixed (by kernel_rfl) rfl ⟨rfl, rfl, rfl, rfl, rfl, trivial⟩ hB ?_ ⟨st_eq _, st_eq _, fun _ _ _ _ _ _ h0 hb ⟨vl, e, h⟩ hs => ⟨vl, e, h⟩, st_eq _, st_eq _, st_eq _, fun _ _ _ _ _ _ h0 hb ⟨vl, e, h⟩ hs => ⟨vl, e, h⟩, st_eq _, trivial⟩ ?_ ?_
        · rintro t9 o1 w1 o2 w2 ht9 hB hs9
          have ht9 : t9 = 999 := by simpa using ht9
          subst ht9
          all_goals exact hB.stp hs9 (by decide)
        · refine ⟨?_, ?_, ?_, ?_, ?_, ?_, ?_, ?_, trivial⟩
          · rintro o23 w24 a25 ha hB -
            refine opS_of ha (trivial) ?_
            refine op1_val (ex_move rfl) ?_
            exact ⟨_, Stp.refl _ _ _, rfl⟩
          · rintro o26 w27 a28 ha hB -
            refine opS_of ha (trivial) ?_
            refine op1_val (ex_move rfl) ?_
            exact ⟨_, Stp.refl _ _ _, rfl⟩
          · rintro o29 w30 a31 ha hB ⟨r32, r33, -⟩
            have ha := Fr.cons (d := 16) ha r32
            have ha := Fr.cons (d := 17) ha r33
            refine opS_of ha (trivial) ?_
            refine wd_indexR g0 hx17 rfl rfl Try.underlying23 Try.sizeOf3 ?_
            exact ⟨_, Stp.refl _ _ _, ⟨_, rfl, g0⟩⟩
          · rintro o34 w35 a36 ha hB ⟨r37, -⟩
            obtain ⟨v38, e39, h40⟩ := r37
            have ha := Fr.cons (d := 18) ha e39
            refine opS_of ha (trivial) ?_
            refine wd_load1Z h40 hx17 hB rfl rfl Try.isAgg3 ?_
            intro c41 h42
            cases h42
            exact ⟨_, Stp.refl _ _ _, rfl⟩
          · rintro o43 w44 a45 ha hB -
            refine opS_of ha (trivial) ?_
            refine op1_val (ex_move rfl) ?_
            exact ⟨_, Stp.refl _ _ _, rfl⟩
          · rintro o46 w47 a48 ha hB -
            refine opS_of ha (trivial) ?_
            refine op1_val (ex_move rfl) ?_
            exact ⟨_, Stp.refl _ _ _, rfl⟩
          · rintro o49 w50 a51 ha hB ⟨r52, r53, -⟩
            have ha := Fr.cons (d := 20) ha r52
            have ha := Fr.cons (d := 21) ha r53
            refine opS_of ha (trivial) ?_
            refine wd_indexR g1 hx20 rfl rfl Try.underlying23 Try.sizeOf3 ?_
            exact ⟨_, Stp.refl _ _ _, ⟨_, rfl, g1⟩⟩
          · rintro o54 w55 a56 ha hB ⟨r57, -⟩
            obtain ⟨v58, e59, h60⟩ := r57
            have ha := Fr.cons (d := 22) ha e59
            refine opS_of ha (trivial) ?_
            refine wd_load1Z h60 hx20 hB rfl rfl Try.isAgg3 ?_
            intro c61 h62
            cases h62
            exact ⟨_, Stp.refl _ _ _, rfl⟩
        rintro o63 w64 a65 ha hB ⟨-, -, -, r66, -, -, -, r67, -⟩
        have ha := Fr.cons (d := 19) ha r66
        have ha := Fr.cons (d := 23) ha r67
        refine wl_of ha ?_
        simp only [List.length_cons, List.length_nil, Nat.zero_add, Nat.reduceAdd, List.drop_succ_cons, List.drop_zero]
        refine st_val (ex_neq rfl rfl) (by decide) trivial ?_
        refine wpF_end (r := [(0, u0), (1, u1), (12, (.int .i64 (p0.length : Int))), (13, (.int .i64 i5)), (24, (.bool (x17 != x20)))]) ⟨rfl, rfl, rfl, rfl, rfl, trivial⟩ ?_
        refine nx ?_
        refine wpC_cond rfl (fun t68 => ?_) (fun t68 => ?_)
        · rw [if_pos t68] at b14
          refine wpC_seq ?_
          refine wpC_region ?_
          refine st_val (ex_assign rfl) (by decide) trivial ?_
          refine wpF_end (r := [(4, (.bool false))]) ⟨rfl, trivial⟩ ?_
          refine nx ?_
          refine wpC_ret ?_
          refine nb_ret ?_
          refine nt_ret ?_
          refine nt_ret ?_
          refine nb_ret ?_
          refine np_ret ?_
          have e69 := Option.some.inj b14
          subst e69
          refine fun a ha => ⟨_, n15, ?_⟩
          refine ret_post (P := Try.prog) (vs := [(.bool false)]) Try.results88 ⟨rfl, trivial⟩ ?_ a ha
          exact ⟨rfl, hB.keeps⟩
        · rw [if_neg (by rw [t68]; decide)] at b14
          refine wpC_skip ?_
          refine nb_norm ?_
          refine nx ?_
          refine wpC_region ?_
          refine st_val (ex_add rfl rfl (ck_in (by omega) (by omega))) (by decide) trivial ?_
          refine st_val (ex_move rfl) (by decide) trivial ?_
          refine wpF_end (r := [(0, u0), (1, u1), (12, (.int .i64 (p0.length : Int))), (13, (.int .i64 (i5 + 1)))]) ⟨rfl, rfl, rfl, rfl, trivial⟩ ?_
          refine nt_norm ?_
          have e70 := Option.some.inj b14
          subst e70
          refine to_k (r := [(0, u0), (1, u1), (12, (.int .i64 (p0.length : Int))), (13, (.int .i64 (i5 + 1)))]) ⟨rfl, rfl, rfl, rfl, trivial⟩ ?_
          intro a ha
          exact ⟨_, (by rw [← m11]; omega), i5 + 1, o63, n15, rfl, (by omega), ha, hB⟩
      · have r71 := forN_done t16 l9
        refine wp_of ha ?_
        refine wpC_seq ?_
        refine wpC_region ?_
        refine st_val (ex_lss rfl rfl) (by decide) trivial ?_
        refine wpF_end (r := [(0, u0), (1, u1), (12, (.int .i64 (p0.length : Int))), (13, (.int .i64 i5)), (14, (.bool (decide (i5 < (p0.length : Int)))))]) ⟨rfl, rfl, rfl, rfl, rfl, trivial⟩ ?_
        refine nx ?_
        refine wpC_seq ?_
        refine wpC_false (congrArg (fun b => some (Value.bool b)) (decide_eq_false t16)) ?_
        refine wpC_exit ?_
        refine nt_exit ?_
        refine nt_exit ?_
        refine nb_hit ?_
        refine np_norm ?_
        refine to_k (r := []) trivial ?_
        intro a ha
        exact ⟨o3, r71, ha, hB⟩
    · rintro a w4 ⟨o3, rfl, ha, hB⟩
      dsimp only at hF
      refine ap_k ha ?_
      refine nx ?_
      refine wpC_seq ?_
      refine wpC_region ?_
      refine st_val (ex_assign rfl) (by decide) trivial ?_
      refine wpF_end (r := [(4, (.bool true))]) ⟨rfl, trivial⟩ ?_
      refine nx ?_
      refine wpC_ret ?_
      have e72 := Option.some.inj hF
      subst e72
      refine ret_post (P := Try.prog) (vs := [(.bool true)]) Try.results88 ⟨rfl, trivial⟩ ?_
      exact ⟨rfl, hB.keeps⟩
    · rintro a w4 ⟨r', rfl, b73⟩
      dsimp only at hF
      have e74 := Option.some.inj hF
      subst e74
      exact b73

def fI_sameCodes (fuel : Nat) (p0 : T_Network) (p1 : Int) (p2 : T_Network) (p3 : Int) : Option Bool :=
  (fI_codeFrom fuel p0 p1) >>= fun x23 =>
  (fI_codeFrom fuel p2 p3) >>= fun x35 =>
  (fX_slices_Equal_int_int x23.1 x35.1) >>= fun x47 =>
  some x47

def fS_SameRoots (fuel : Nat) (p0 : T_Network) (p1 : Int) (p2 : T_Network) (p3 : Int) : Option (Bool × Bool) :=
  (fS_neNode p0 p1) >>= fun x23 =>
  (
    if !x23 then
      some true
    else
      (fS_neNode p2 p3) >>= fun x33 =>
      some (!x33)) >>= fun q29 =>
  if q29 then
    some (false, false)
  else
    (fS_isFrom fuel p0 p1) >>= fun x44 =>
    (fS_isFrom fuel p2 p3) >>= fun x86 =>
    (fS_l1Same x44 x86) >>= fun x95 =>
    some (x95, true)

def fI_SameRoots (fuel : Nat) (p0 : T_Network) (p1 : Int) (p2 : T_Network) (p3 : Int) : Option (Bool × Bool) :=
  (fI_nodesOk p0 p1 p2 p3) >>= fun x23 =>
  if !x23 then
    some (false, false)
  else
    (fI_sameCodes fuel p0 p1 p2 p3) >>= fun x31 =>
    some (x31, true)

end Go.Proofs.Ytijaojnaamkinaa
