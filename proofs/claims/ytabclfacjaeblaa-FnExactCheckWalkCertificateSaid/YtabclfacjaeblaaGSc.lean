/- (impl.WalkProblem).isWalk, (impl.WalkProblem).isClosedFrom, (impl.WalkProblem).ranksOk, (impl.WalkProblem).isCertificate, impl.CheckWalkCertificate: plain functions, and the walks that show that the program computes them (printed by gen.py). -/
import Derived.Test.YtabclfacjaeblaaGH
import Derived.Test.YtabclfacjaeblaaGI
import Derived.Test.YtabclfacjaeblaaGLp
import Derived.Test.YtabclfacjaeblaaGcd
import Derived.Test.YtabclfacjaeblaaKh
namespace Go.Proofs.Ytabclfacjaeblaa
open Go.RowKit
set_option linter.unusedSimpArgs false
set_option linter.unusedVariables false

def fI_WalkProblem_isWalk_s1 (p1 : List Int) (x8 : List Int) : Int → Option (Lp Int Int Bool) := fun (s : Int) =>
  if decide (s < (p1.length : Int)) then
    (ck (s - 1)) >>= fun x31 =>
    (ix p1 x31) >>= fun x32 =>
    (ix x8 x32) >>= fun x35 =>
    (ix p1 s) >>= fun x38 =>
    (shr x35 x38) >>= fun x107 =>
    if (band x107 1) == 0 then
      some (.ret false)
    else
      (ck (s + 1)) >>= fun x110 =>
      some (.go x110)
  else
    some (.out s)
def fI_WalkProblem_isWalk (fuel : Nat) (p0 : T_WalkProblem) (p1 : List Int) : Option Bool :=
  (fI_WalkProblem_after p0) >>= fun x8 =>
  (loopF (fI_WalkProblem_isWalk_s1 p1 x8) fuel 1) >>= fun q20 =>
  match q20 with
  | .inl y17 =>
    some true
  | .inr r' => some r'

def pI_WalkProblem_isWalk (w : World) (r : Bool) : Ending → World → Prop := fun e w' => e = .returned (.bool r) ∧ Keeps w w'
set_option maxRecDepth 100000 in
set_option maxHeartbeats 2000000 in
theorem cI_WalkProblem_isWalk (fuel : Nat) (w : World) (u0 : List Value) (p0 : T_WalkProblem) (g0 : Rp.rd zt w u0 p0) (u1 : Value) (p1 : List Int) (g1 : RdL zt w u1 p1) (r : Bool) (hF : fI_WalkProblem_isWalk fuel p0 p1 = some r) :
    Calls Try.prog 153 #[.agg u0.toArray, u1] w (pI_WalkProblem_isWalk w r) := by
  unfold fI_WalkProblem_isWalk at hF
  obtain ⟨v1, rfl, h2⟩ := g0
  have hB : Bs (fun _ => 1) (col (fun _ => 1)) w w := Bs.start _ _
  refine calls_start (n := 30) (vs := [(.agg #[(.int .i64 p0.Labels), v1]), u1]) Try.func153 rfl rfl ?_
  refine wpC_seq ?_
  refine wpC_region ?_
  refine st_op (by decide) trivial ?_
  refine wf_box (o := (col (fun _ => 1))) w.heap.size 11 hB.keeps.size (cs := [(.int .i64 p0.Labels), v1]) rfl rfl ?_
  intro o3 w4 b5 h6 s7
  replace hB := hB.stp s7 (by decide)
  refine st_val (ex_assign rfl) (by decide) trivial ?_
  refine wpF_end (r := [(1, u1), (2, (.pointer (some ⟨b5, 0, none⟩)))]) ⟨rfl, rfl, trivial⟩ ?_
  refine nx ?_
  refine wpC_seq ?_
  refine wpC_region ?_
  refine st_val (ex_loadA rfl Try.isAgg44 Try.sizeOf44 rfl h6.cells) (by decide) trivial ?_
  obtain ⟨x8, hx8, hF⟩ := bind_some hF
  refine st_op (by decide) trivial ?_
  refine wf_call (cI_WalkProblem_after w4 o3 12 (by decide) _ p0 (⟨_, rfl, (h2.keep hB.keeps)⟩) x8 hx8) Try.call111 ⟨rfl, trivial⟩ ?_
  rintro e15 w9 ⟨v10, o16, rfl, h11, k12, k13⟩
  have s14 := k12.stp' 12 k13
  replace h11 := h11.mono hB.keeps.size
  refine ⟨_, rfl, ?_⟩
  replace h6 := h6.stp s14 (by decide)
  replace hB := hB.stp s14 (by decide)
  refine st_val (ex_assign rfl) (by decide) trivial ?_
  refine wpF_end (r := [(1, u1), (5, v10)]) ⟨rfl, rfl, trivial⟩ ?_
  refine nx ?_
  refine wpC_seq ?_
  refine wpC_seq ?_
  refine wpC_region ?_
  refine st_val (ex_assign rfl) (by decide) trivial ?_
  refine wpF_end (r := [(1, u1), (5, v10), (6, (.int .i64 1))]) ⟨rfl, rfl, rfl, trivial⟩ ?_
  refine nx ?_
  obtain ⟨q20, hq20, hF⟩ := bind_some hF
  refine wpC_cutN (fun a w19 => ∃ (y17 : Int) (o18 : Tg), q20 = .inl y17 ∧ Fr a 30 [] ∧ Bs (fun _ => 1) o18 w w19) (fun a w' => ∃ r', q20 = .inr r' ∧ bodyPost Try.prog Try.f153 (pI_WalkProblem_isWalk w r') .ret a w') ?_ ?_ ?_
  · refine wpC_block ?_
    refine wpC_loop (fun (K : Nat) a w19 => ∃ (y17 : Int) (o18 : Tg), loopF (fI_WalkProblem_isWalk_s1 p1 x8) K y17 = some q20 ∧ Fr a 30 [(1, u1), (5, v10), (6, (.int .i64 y17))] ∧ Bs (fun _ => 1) o18 w w19 ∧ Ow w.heap.size 3 12 o18 w19 v10 x8) fuel (fun a ha => ⟨1, o16, hq20, ha.sub (r := [(1, u1), (5, v10), (6, (.int .i64 1))]) ⟨rfl, rfl, rfl, trivial⟩, hB, h11⟩) ?_
    rintro K24 a w19 ⟨y17, o18, l21, ha, hB, h11⟩
    obtain ⟨K28, q25, e29, b26, n27⟩ := loopF_cons l21
    dsimp only [fI_WalkProblem_isWalk_s1] at b26
    refine wp_of ha ?_
    refine wpC_seq ?_
    refine wpC_seq ?_
    refine wpC_region ?_
    refine st_val (ex_move rfl) (by decide) trivial ?_
    refine st_val (ex_move rfl) (by decide) trivial ?_
    refine st_val (ex_lenR rfl g1 Try.underlying26) (by decide) trivial ?_
    refine st_val (ex_lss rfl rfl) (by decide) trivial ?_
    refine wpF_end (r := [(1, u1), (5, v10), (6, (.int .i64 y17)), (12, (.bool (decide (y17 < (p1.length : Int)))))]) ⟨rfl, rfl, rfl, rfl, trivial⟩ ?_
    refine nx ?_
    refine wpC_cond rfl (fun t30 => ?_) (fun t30 => ?_)
    · rw [if_pos t30] at b26
      refine wpC_skip ?_
      refine nx ?_
      refine wpC_seq ?_
      refine wpC_block ?_
      refine wpC_seq ?_
      obtain ⟨x31, hx31, b26⟩ := bind_some b26
      obtain ⟨x32, hx32, b26⟩ := bind_some b26
      obtain ⟨x35, hx35, b26⟩ := bind_some b26
      obtain ⟨x38, hx38, b26⟩ := bind_some b26
      refine wpC_drawn (o := o18) [(1, u1), (5, v10), (6, (.int .i64 y17))] [1, 5, 6] [15, 16, 17, 18, 19, 20, 21, 22, 23, 24, 25, 26] [[], [], [], [2], [1, 3], [4], [0, 5], [6], [], [], [8, 9], [10]] [none, none, none, none, none, none, none, none, none, none, none, none] [999, 999, 999, 999, 999, 999, 999, 999, 999, 999, 999, 999] [0, 0, 0, 0, 0, 0, 12, 0, 0, 0, 0, 0] [999] [fun v _ _ => v = v10, fun v _ _ => v = u1, fun v _ _ => v = (.int .i64 y17), fun v _ _ => v = (.int .i64 x31), fun v o w9 => ∃ vl, v = adr vl (x31.toNat * Rp.sz Int) ∧ RdL zt w vl p1, fun v _ _ => v = (.int .i64 x32), fun v o w9 => ∃ vl, v = adr vl (x32.toNat * Rp.sz Int) ∧ Ow w.heap.size 3 12 o w9 vl x8, fun v _ _ => v = (.int .i64 x35), fun v _ _ => v = u1, fun v _ _ => v = (.int .i64 y17), fun v o w9 => ∃ vl, v = adr vl (y17.toNat * Rp.sz Int) ∧ RdL zt w vl p1, fun v _ _ => v = (.int .i64 x38)] (fun o8 w8 => Bs (fun _ => 1) o8 w w8 ∧ Ow w.heap.size 3 12 o8 w8 v10 x8) follows_mixed (by kernel_rfl) rfl ⟨rfl, rfl, rfl, trivial⟩ ⟨hB, h11⟩ ?_ ⟨st_eq _, st_eq _, st_eq _, st_eq _, fun _ _ _ _ _ _ h0 hb ⟨vl, e, h⟩ hs => ⟨vl, e, h⟩, st_eq _, fun _ _ _ _ _ _ h0 hb ⟨vl, e, h⟩ hs => ⟨vl, e, h.stp hs h0.1 (Ne.symm hb)⟩, st_eq _, st_eq _, st_eq _, fun _ _ _ _ _ _ h0 hb ⟨vl, e, h⟩ hs => ⟨vl, e, h⟩, st_eq _, trivial⟩ ?_ ?_
      · rintro t9 o1 w1 o2 w2 ht9 ⟨hB, h11⟩ hs9
        have ht9 : t9 = 999 := by simpa using ht9
        subst ht9
        all_goals exact ⟨hB.stp hs9 (by decide), h11.stp hs9 (by decide) (by decide)⟩
      · refine ⟨?_, ?_, ?_, ?_, ?_, ?_, ?_, ?_, ?_, ?_, ?_, ?_, trivial⟩
        · rintro o41 w42 a43 ha ⟨hB, h11⟩ -
          refine opS_of ha (trivial) ?_
          refine op1_val (ex_move rfl) ?_
          exact ⟨_, Stp.refl _ _ _, rfl⟩
        · rintro o44 w45 a46 ha ⟨hB, h11⟩ -
          refine opS_of ha (trivial) ?_
          refine op1_val (ex_move rfl) ?_
          exact ⟨_, Stp.refl _ _ _, rfl⟩
        · rintro o47 w48 a49 ha ⟨hB, h11⟩ -
          refine opS_of ha (trivial) ?_
          refine op1_val (ex_move rfl) ?_
          exact ⟨_, Stp.refl _ _ _, rfl⟩
        · rintro o50 w51 a52 ha ⟨hB, h11⟩ ⟨r53, -⟩
          have ha := Fr.cons (d := 17) ha r53
          refine opS_of ha (trivial) ?_
          refine op1_val (ex_sub rfl rfl hx31) ?_
          exact ⟨_, Stp.refl _ _ _, rfl⟩
        · rintro o54 w55 a56 ha ⟨hB, h11⟩ ⟨r57, r58, -⟩
          have ha := Fr.cons (d := 16) ha r57
          have ha := Fr.cons (d := 18) ha r58
          refine opS_of ha (trivial) ?_
          refine wd_indexR g1 hx32 rfl rfl Try.underlying26 Try.sizeOf3 ?_
          exact ⟨_, Stp.refl _ _ _, ⟨_, rfl, g1⟩⟩
        · rintro o59 w60 a61 ha ⟨hB, h11⟩ ⟨r62, -⟩
          obtain ⟨v63, e64, h65⟩ := r62
          have ha := Fr.cons (d := 19) ha e64
          refine opS_of ha (trivial) ?_
          refine wd_load1Z h65 hx32 hB rfl rfl Try.isAgg3 ?_
          intro c66 h67
          cases h67
          exact ⟨_, Stp.refl _ _ _, rfl⟩
        · rintro o68 w69 a70 ha ⟨hB, h11⟩ ⟨r71, r72, -⟩
          have ha := Fr.cons (d := 15) ha r71
          have ha := Fr.cons (d := 20) ha r72
          refine opS_of ha (trivial) ?_
          refine wd_indexW h11 hx35 rfl rfl Try.underlying26 Try.sizeOf3 ?_
          exact ⟨_, Stp.refl _ _ _, ⟨_, rfl, h11⟩⟩
        · rintro o73 w74 a75 ha ⟨hB, h11⟩ ⟨r76, -⟩
          obtain ⟨v77, e78, h79⟩ := r76
          have ha := Fr.cons (d := 21) ha e78
          refine opS_of ha (trivial) ?_
          refine wd_load1W h79 hx35 rfl rfl Try.isAgg3 ?_
          intro c80 h81
          cases h81
          exact ⟨_, Stp.refl _ _ _, rfl⟩
        · rintro o82 w83 a84 ha ⟨hB, h11⟩ -
          refine opS_of ha (trivial) ?_
          refine op1_val (ex_move rfl) ?_
          exact ⟨_, Stp.refl _ _ _, rfl⟩
        · rintro o85 w86 a87 ha ⟨hB, h11⟩ -
          refine opS_of ha (trivial) ?_
          refine op1_val (ex_move rfl) ?_
          exact ⟨_, Stp.refl _ _ _, rfl⟩
        · rintro o88 w89 a90 ha ⟨hB, h11⟩ ⟨r91, r92, -⟩
          have ha := Fr.cons (d := 23) ha r91
          have ha := Fr.cons (d := 24) ha r92
          refine opS_of ha (trivial) ?_
          refine wd_indexR g1 hx38 rfl rfl Try.underlying26 Try.sizeOf3 ?_
          exact ⟨_, Stp.refl _ _ _, ⟨_, rfl, g1⟩⟩
        · rintro o93 w94 a95 ha ⟨hB, h11⟩ ⟨r96, -⟩
          obtain ⟨v97, e98, h99⟩ := r96
          have ha := Fr.cons (d := 25) ha e98
          refine opS_of ha (trivial) ?_
          refine wd_load1Z h99 hx38 hB rfl rfl Try.isAgg3 ?_
          intro c100 h101
          cases h101
          exact ⟨_, Stp.refl _ _ _, rfl⟩
      rintro o102 w103 a104 ha ⟨hB, h11⟩ ⟨-, -, -, -, -, -, -, r105, -, -, -, r106, -⟩
      have ha := Fr.cons (d := 22) ha r105
      have ha := Fr.cons (d := 26) ha r106
      refine wl_of ha ?_
      simp only [List.length_cons, List.length_nil, Nat.zero_add, Nat.reduceAdd, List.drop_succ_cons, List.drop_zero]
      obtain ⟨x107, hx107, b26⟩ := bind_some b26
      refine st_val (ex_shr rfl rfl hx107) (by decide) trivial ?_
      refine st_val (ex_and rfl rfl) (by decide) trivial ?_
      refine st_val (ex_eql rfl rfl) (by decide) trivial ?_
      refine wpF_end (r := [(1, u1), (5, v10), (6, (.int .i64 y17)), (29, (.bool ((band x107 1) == 0)))]) ⟨rfl, rfl, rfl, rfl, trivial⟩ ?_
      refine nx ?_
      refine wpC_cond rfl (fun t108 => ?_) (fun t108 => ?_)
      · rw [if_pos t108] at b26
        refine wpC_seq ?_
        refine wpC_region ?_
        refine st_val (ex_assign rfl) (by decide) trivial ?_
        refine wpF_end (r := [(4, (.bool false))]) ⟨rfl, trivial⟩ ?_
        refine nx ?_
        refine wpC_ret ?_
        refine nb_ret ?_
        refine nt_ret ?_
        refine nt_ret ?_
        refine nb_ret ?_
        refine np_ret ?_
        have e109 := Option.some.inj b26
        subst e109
        refine fun a ha => ⟨_, n27, ?_⟩
        refine ret_post (P := Try.prog) (vs := [(.bool false)]) Try.results153 ⟨rfl, trivial⟩ ?_ a ha
        exact ⟨rfl, hB.keeps⟩
      · rw [if_neg (by rw [t108]; decide)] at b26
        refine wpC_skip ?_
        refine nb_norm ?_
        refine nx ?_
        refine wpC_region ?_
        refine st_val (ex_move rfl) (by decide) trivial ?_
        obtain ⟨x110, hx110, b26⟩ := bind_some b26
        refine st_val (ex_add rfl rfl hx110) (by decide) trivial ?_
        refine st_val (ex_assign rfl) (by decide) trivial ?_
        refine wpF_end (r := [(1, u1), (5, v10), (6, (.int .i64 x110))]) ⟨rfl, rfl, rfl, trivial⟩ ?_
        refine nt_norm ?_
        have e111 := Option.some.inj b26
        subst e111
        refine to_k (r := [(1, u1), (5, v10), (6, (.int .i64 x110))]) ⟨rfl, rfl, rfl, trivial⟩ ?_
        intro a ha
        exact ⟨K28, by omega, x110, o102, n27, ha, hB, h11⟩
    · rw [if_neg (by rw [t30]; decide)] at b26
      refine wpC_exit ?_
      refine nt_exit ?_
      refine nt_exit ?_
      refine nb_hit ?_
      refine np_norm ?_
      have e112 := Option.some.inj b26
      subst e112
      refine to_k (r := []) trivial ?_
      intro a ha
      exact ⟨y17, o18, n27, ha, hB⟩
  · rintro a w19 ⟨y17, o18, rfl, ha, hB⟩
    dsimp only at hF
    refine ap_k ha ?_
    refine nx ?_
    refine wpC_seq ?_
    refine wpC_region ?_
    refine st_val (ex_assign rfl) (by decide) trivial ?_
    refine wpF_end (r := [(4, (.bool true))]) ⟨rfl, trivial⟩ ?_
    refine nx ?_
    refine wpC_ret ?_
    have e113 := Option.some.inj hF
    subst e113
    refine ret_post (P := Try.prog) (vs := [(.bool true)]) Try.results153 ⟨rfl, trivial⟩ ?_
    exact ⟨rfl, hB.keeps⟩
  · rintro a w19 ⟨r', rfl, b114⟩
    dsimp only at hF
    have e115 := Option.some.inj hF
    subst e115
    exact b114

def fI_WalkProblem_isClosedFrom (fuel : Nat) (p0 : T_WalkProblem) (p1 : List Int) (p2 : Int) : Option Bool :=
  (fI_within (p1.length : Int) 2 200) >>= fun x8 =>
  (
    if x8 then
      (fI_WalkProblem_hasLabels p0 p1) >>= fun x18 =>
      if x18 then
        (ix p1 0) >>= fun x25 =>
        if x25 == p2 then
          (ck ((p1.length : Int) - 1)) >>= fun x32 =>
          (ix p1 x32) >>= fun x33 =>
          if x33 == p2 then
            (fI_WalkProblem_isWalk fuel p0 p1) >>= fun x40 =>
            some x40
          else
            some false
        else
          some false
      else
        some false
    else
      some false) >>= fun q14 =>
  some q14

def pI_WalkProblem_isClosedFrom (w : World) (r : Bool) : Ending → World → Prop := fun e w' => e = .returned (.bool r) ∧ Keeps w w'
set_option maxRecDepth 100000 in
set_option maxHeartbeats 2000000 in
theorem cI_WalkProblem_isClosedFrom (fuel : Nat) (w : World) (u0 : List Value) (p0 : T_WalkProblem) (g0 : Rp.rd zt w u0 p0) (u1 : Value) (p1 : List Int) (g1 : RdL zt w u1 p1) (p2 : Int) (r : Bool) (hF : fI_WalkProblem_isClosedFrom fuel p0 p1 p2 = some r) :
    Calls Try.prog 113 #[.agg u0.toArray, u1, .int .i64 p2] w (pI_WalkProblem_isClosedFrom w r) := by
  unfold fI_WalkProblem_isClosedFrom at hF
  obtain ⟨v1, rfl, h2⟩ := g0
  have hB : Bs (fun _ => 1) (col (fun _ => 1)) w w := Bs.start _ _
  refine calls_start (n := 37) (vs := [(.agg #[(.int .i64 p0.Labels), v1]), u1, (.int .i64 p2)]) Try.func113 rfl rfl ?_
  refine wpC_seq ?_
  refine wpC_region ?_
  refine st_op (by decide) trivial ?_
  refine wf_box (o := (col (fun _ => 1))) w.heap.size 11 hB.keeps.size (cs := [(.int .i64 p0.Labels), v1]) rfl rfl ?_
  intro o3 w4 b5 h6 s7
  replace hB := hB.stp s7 (by decide)
  refine st_val (ex_assign rfl) (by decide) trivial ?_
  refine wpF_end (r := [(1, u1), (2, (.int .i64 p2)), (3, (.pointer (some ⟨b5, 0, none⟩)))]) ⟨rfl, rfl, rfl, trivial⟩ ?_
  refine nx ?_
  refine wpC_seq ?_
  refine wpC_region ?_
  refine st_val (ex_move rfl) (by decide) trivial ?_
  refine st_val (ex_lenR rfl g1 Try.underlying26) (by decide) trivial ?_
  obtain ⟨x8, hx8, hF⟩ := bind_some hF
  refine st_op (by decide) trivial ?_
  refine wf_call (cI_within w4 (p1.length : Int) 2 200 x8 hx8) Try.call57 ⟨rfl, rfl, rfl, trivial⟩ ?_
  rintro e13 w9 ⟨rfl, k10⟩
  have s12 := k10.stp 999 o3
  refine ⟨_, rfl, ?_⟩
  replace h6 := h6.stp s12 (by decide)
  replace hB := hB.stp s12 (by decide)
  refine st_val (ex_move rfl) (by decide) trivial ?_
  obtain ⟨q14, hq14, hF⟩ := bind_some hF
  refine wpF_cutAt 26 (fun a16 w15 => Fr a16 37 [(36, (.bool q14))] ∧ Keeps w9 w15) ?_ ?_
  all_goals simp only [List.take_succ_cons, List.take_zero, List.drop_succ_cons, List.drop_zero]
  · have kp : Keeps w9 w9 := Keeps.refl _
    rcases Bool.eq_false_or_eq_true (x8) with t17 | t17
    · rw [if_pos t17] at hq14
      refine st_val (ex_loadA rfl Try.isAgg44 Try.sizeOf44 rfl h6.cells) (by decide) ⟨_, rfl, (congrArg (fun b => some (Value.bool b)) t17)⟩ ?_
      refine st_val (ex_move rfl) (by decide) ⟨_, rfl, (congrArg (fun b => some (Value.bool b)) t17)⟩ ?_
      obtain ⟨x18, hx18, hq14⟩ := bind_some hq14
      refine st_op (by decide) ⟨_, rfl, (congrArg (fun b => some (Value.bool b)) t17)⟩ ?_
      refine wf_call (cI_WalkProblem_hasLabels w9 _ p0 (⟨_, rfl, (h2.keep hB.keeps)⟩) _ p1 (g1.keep hB.keeps) x18 hx18) Try.call67 ⟨rfl, rfl, trivial⟩ ?_
      rintro e23 w19 ⟨rfl, k20⟩
      have s22 := k20.stp 999 o3
      refine ⟨_, rfl, ?_⟩
      replace h6 := h6.stp s22 (by decide)
      replace hB := hB.stp s22 (by decide)
      replace kp := Keeps.trans kp k20
      refine st_val (ex_pick_t (congrArg (fun b => some (Value.bool b)) t17) rfl) (by decide) trivial ?_
      refine st_val (ex_move rfl) (by decide) trivial ?_
      rcases Bool.eq_false_or_eq_true (x18) with t24 | t24
      · rw [if_pos t24] at hq14
        refine st_val (ex_move rfl) (by decide) ⟨_, rfl, (congrArg (fun b => some (Value.bool b)) t24)⟩ ?_
        obtain ⟨x25, hx25, hq14⟩ := bind_some hq14
        refine st_op (by decide) ⟨_, rfl, (congrArg (fun b => some (Value.bool b)) t24)⟩ ?_
        refine wf_atZ g1 hx25 hB rfl rfl Try.underlying26 Try.sizeOf3 ?_
        intro b26 f27 c28 h29 h30
        cases h30
        refine st_val (ex_load1 rfl Try.isAgg3 (cell_of_cells h29)) (by decide) ⟨_, rfl, (congrArg (fun b => some (Value.bool b)) t24)⟩ ?_
        refine st_val (ex_move rfl) (by decide) ⟨_, rfl, (congrArg (fun b => some (Value.bool b)) t24)⟩ ?_
        refine st_val (ex_eql rfl rfl) (by decide) ⟨_, rfl, (congrArg (fun b => some (Value.bool b)) t24)⟩ ?_
        refine st_val (ex_pick_t (congrArg (fun b => some (Value.bool b)) t24) rfl) (by decide) trivial ?_
        refine st_val (ex_move rfl) (by decide) trivial ?_
        rcases Bool.eq_false_or_eq_true (x25 == p2) with t31 | t31
        · rw [if_pos t31] at hq14
          refine st_val (ex_move rfl) (by decide) ⟨_, rfl, (congrArg (fun b => some (Value.bool b)) t31)⟩ ?_
          refine st_val (ex_move rfl) (by decide) ⟨_, rfl, (congrArg (fun b => some (Value.bool b)) t31)⟩ ?_
          refine st_val (ex_lenR rfl g1 Try.underlying26) (by decide) ⟨_, rfl, (congrArg (fun b => some (Value.bool b)) t31)⟩ ?_
          obtain ⟨x32, hx32, hq14⟩ := bind_some hq14
          refine st_val (ex_sub rfl rfl hx32) (by decide) ⟨_, rfl, (congrArg (fun b => some (Value.bool b)) t31)⟩ ?_
          obtain ⟨x33, hx33, hq14⟩ := bind_some hq14
          refine st_op (by decide) ⟨_, rfl, (congrArg (fun b => some (Value.bool b)) t31)⟩ ?_
          refine wf_atZ g1 hx33 hB rfl rfl Try.underlying26 Try.sizeOf3 ?_
          intro b34 f35 c36 h37 h38
          cases h38
          refine st_val (ex_load1 rfl Try.isAgg3 (cell_of_cells h37)) (by decide) ⟨_, rfl, (congrArg (fun b => some (Value.bool b)) t31)⟩ ?_
          refine st_val (ex_move rfl) (by decide) ⟨_, rfl, (congrArg (fun b => some (Value.bool b)) t31)⟩ ?_
          refine st_val (ex_eql rfl rfl) (by decide) ⟨_, rfl, (congrArg (fun b => some (Value.bool b)) t31)⟩ ?_
          refine st_val (ex_pick_t (congrArg (fun b => some (Value.bool b)) t31) rfl) (by decide) trivial ?_
          refine st_val (ex_move rfl) (by decide) trivial ?_
          rcases Bool.eq_false_or_eq_true (x33 == p2) with t39 | t39
          · rw [if_pos t39] at hq14
            refine st_val (ex_loadA rfl Try.isAgg44 Try.sizeOf44 rfl h6.cells) (by decide) ⟨_, rfl, (congrArg (fun b => some (Value.bool b)) t39)⟩ ?_
            refine st_val (ex_move rfl) (by decide) ⟨_, rfl, (congrArg (fun b => some (Value.bool b)) t39)⟩ ?_
            obtain ⟨x40, hx40, hq14⟩ := bind_some hq14
            refine st_op (by decide) ⟨_, rfl, (congrArg (fun b => some (Value.bool b)) t39)⟩ ?_
            refine wf_call (cI_WalkProblem_isWalk fuel w19 _ p0 (⟨_, rfl, (h2.keep hB.keeps)⟩) _ p1 (g1.keep hB.keeps) x40 hx40) Try.call153 ⟨rfl, rfl, trivial⟩ ?_
            rintro e45 w41 ⟨rfl, k42⟩
            have s44 := k42.stp 999 o3
            refine ⟨_, rfl, ?_⟩
            replace h6 := h6.stp s44 (by decide)
            replace hB := hB.stp s44 (by decide)
            replace kp := Keeps.trans kp k42
            refine st_val (ex_pick_t (congrArg (fun b => some (Value.bool b)) t39) rfl) (by decide) trivial ?_
            have hq142 := Option.some.inj hq14
            refine wpF_end (r := [(36, (.bool x40))]) ⟨rfl, trivial⟩ ?_
            subst hq142
            refine np_norm (fun a ha => ⟨ha, kp⟩)
          · rw [if_neg (by rw [t39]; decide)] at hq14
            refine st_no rfl rfl (by rw [t39]; rfl) (by decide) ?_
            refine st_no rfl rfl (by rw [t39]; rfl) (by decide) ?_
            refine st_no rfl rfl (by rw [t39]; rfl) (by decide) ?_
            refine st_val (ex_pick_f (congrArg (fun b => some (Value.bool b)) t39) rfl) (by decide) trivial ?_
            have hq142 := Option.some.inj hq14
            refine wpF_end (r := [(36, (.bool false))]) ⟨rfl, trivial⟩ ?_
            subst hq142
            refine np_norm (fun a ha => ⟨ha, kp⟩)
        · rw [if_neg (by rw [t31]; decide)] at hq14
          refine st_no rfl rfl (by rw [t31]; rfl) (by decide) ?_
          refine st_no rfl rfl (by rw [t31]; rfl) (by decide) ?_
          refine st_no rfl rfl (by rw [t31]; rfl) (by decide) ?_
          refine st_no rfl rfl (by rw [t31]; rfl) (by decide) ?_
          refine st_no rfl rfl (by rw [t31]; rfl) (by decide) ?_
          refine st_no rfl rfl (by rw [t31]; rfl) (by decide) ?_
          refine st_no rfl rfl (by rw [t31]; rfl) (by decide) ?_
          refine st_no rfl rfl (by rw [t31]; rfl) (by decide) ?_
          refine st_val (ex_pick_f (congrArg (fun b => some (Value.bool b)) t31) rfl) (by decide) trivial ?_
          refine st_val (ex_move rfl) (by decide) trivial ?_
          refine st_no rfl rfl rfl (by decide) ?_
          refine st_no rfl rfl rfl (by decide) ?_
          refine st_no rfl rfl rfl (by decide) ?_
          refine st_val (ex_pick_f rfl rfl) (by decide) trivial ?_
          have hq142 := Option.some.inj hq14
          refine wpF_end (r := [(36, (.bool false))]) ⟨rfl, trivial⟩ ?_
          subst hq142
          refine np_norm (fun a ha => ⟨ha, kp⟩)
      · rw [if_neg (by rw [t24]; decide)] at hq14
        refine st_no rfl rfl (by rw [t24]; rfl) (by decide) ?_
        refine st_no rfl rfl (by rw [t24]; rfl) (by decide) ?_
        refine st_no rfl rfl (by rw [t24]; rfl) (by decide) ?_
        refine st_no rfl rfl (by rw [t24]; rfl) (by decide) ?_
        refine st_no rfl rfl (by rw [t24]; rfl) (by decide) ?_
        refine st_val (ex_pick_f (congrArg (fun b => some (Value.bool b)) t24) rfl) (by decide) trivial ?_
        refine st_val (ex_move rfl) (by decide) trivial ?_
        refine st_no rfl rfl rfl (by decide) ?_
        refine st_no rfl rfl rfl (by decide) ?_
        refine st_no rfl rfl rfl (by decide) ?_
        refine st_no rfl rfl rfl (by decide) ?_
        refine st_no rfl rfl rfl (by decide) ?_
        refine st_no rfl rfl rfl (by decide) ?_
        refine st_no rfl rfl rfl (by decide) ?_
        refine st_no rfl rfl rfl (by decide) ?_
        refine st_val (ex_pick_f rfl rfl) (by decide) trivial ?_
        refine st_val (ex_move rfl) (by decide) trivial ?_
        refine st_no rfl rfl rfl (by decide) ?_
        refine st_no rfl rfl rfl (by decide) ?_
        refine st_no rfl rfl rfl (by decide) ?_
        refine st_val (ex_pick_f rfl rfl) (by decide) trivial ?_
        have hq142 := Option.some.inj hq14
        refine wpF_end (r := [(36, (.bool false))]) ⟨rfl, trivial⟩ ?_
        subst hq142
        refine np_norm (fun a ha => ⟨ha, kp⟩)
    · rw [if_neg (by rw [t17]; decide)] at hq14
      refine st_no rfl rfl (by rw [t17]; rfl) (by decide) ?_
      refine st_no rfl rfl (by rw [t17]; rfl) (by decide) ?_
      refine st_no rfl rfl (by rw [t17]; rfl) (by decide) ?_
      refine st_val (ex_pick_f (congrArg (fun b => some (Value.bool b)) t17) rfl) (by decide) trivial ?_
      refine st_val (ex_move rfl) (by decide) trivial ?_
      refine st_no rfl rfl rfl (by decide) ?_
      refine st_no rfl rfl rfl (by decide) ?_
      refine st_no rfl rfl rfl (by decide) ?_
      refine st_no rfl rfl rfl (by decide) ?_
      refine st_no rfl rfl rfl (by decide) ?_
      refine st_val (ex_pick_f rfl rfl) (by decide) trivial ?_
      refine st_val (ex_move rfl) (by decide) trivial ?_
      refine st_no rfl rfl rfl (by decide) ?_
      refine st_no rfl rfl rfl (by decide) ?_
      refine st_no rfl rfl rfl (by decide) ?_
      refine st_no rfl rfl rfl (by decide) ?_
      refine st_no rfl rfl rfl (by decide) ?_
      refine st_no rfl rfl rfl (by decide) ?_
      refine st_no rfl rfl rfl (by decide) ?_
      refine st_no rfl rfl rfl (by decide) ?_
      refine st_val (ex_pick_f rfl rfl) (by decide) trivial ?_
      refine st_val (ex_move rfl) (by decide) trivial ?_
      refine st_no rfl rfl rfl (by decide) ?_
      refine st_no rfl rfl rfl (by decide) ?_
      refine st_no rfl rfl rfl (by decide) ?_
      refine st_val (ex_pick_f rfl rfl) (by decide) trivial ?_
      have hq142 := Option.some.inj hq14
      refine wpF_end (r := [(36, (.bool false))]) ⟨rfl, trivial⟩ ?_
      subst hq142
      refine np_norm (fun a ha => ⟨ha, kp⟩)
  rintro a48 w15 ⟨ha, k46⟩
  have s47 := k46.stp 999 o3
  replace h6 := h6.stp s47 (by decide)
  replace hB := hB.stp s47 (by decide)
  refine wl_of ha ?_
  refine st_val (ex_assign rfl) (by decide) trivial ?_
  refine wpF_end (r := [(6, (.bool q14))]) ⟨rfl, trivial⟩ ?_
  refine nx ?_
  refine wpC_ret ?_
  have e49 := Option.some.inj hF
  subst e49
  refine ret_post (P := Try.prog) (vs := [(.bool q14)]) Try.results113 ⟨rfl, trivial⟩ ?_
  exact ⟨rfl, hB.keeps⟩

def fI_WalkProblem_ranksOk_s1 : Int → (List Int) → Unit → Option (Lp Unit Unit Bool) := fun (i12 : Int) (x22 : List Int) (s : Unit) =>
  (
    if (x22.length : Int) != 3 then
      some true
    else
      (fI_allWithin x22 0 1000) >>= fun x34 =>
      some (!x34)) >>= fun q30 =>
  if q30 then
    some (.ret false)
  else
    some (.go ())
def fI_WalkProblem_ranksOk_s2 (p1 : List (List Int)) (p2 : Bool) : Int → (List Int) → Unit → Option (Lp Unit Unit Bool) := fun (i49 : Int) (x59 : List Int) (s : Unit) =>
  (ix x59 0) >>= fun x67 =>
  (ix p1 x67) >>= fun x70 =>
  (ix x59 1) >>= fun x76 =>
  (ix p1 x76) >>= fun x79 =>
  (ix x79 0) >>= fun x172 =>
  (ix x70 0) >>= fun x175 =>
  if decide (x172 > x175) then
    some (.go ())
  else
    (
      if !p2 then
        some true
      else
        (ix x70 0) >>= fun x383 =>
        (ix x79 0) >>= fun x386 =>
        if x383 != x386 then
          some true
        else
          (ix x70 1) >>= fun x567 =>
          (ix x79 1) >>= fun x570 =>
          if x567 != x570 then
            some true
          else
            (ix x70 1) >>= fun x767 =>
            if decide (x767 < 2) then
              some true
            else
              (ix x79 2) >>= fun x972 =>
              (ix x70 2) >>= fun x975 =>
              (ck (x972 - x975)) >>= fun x978 =>
              (ck (x978 - 1)) >>= fun x979 =>
              (ix x70 1) >>= fun x980 =>
              (rem x979 x980) >>= fun x1207 =>
              some (x1207 != 0)) >>= fun q217 =>
    if q217 then
      some (.ret false)
    else
      some (.go ())
def fI_WalkProblem_ranksOk (p0 : T_WalkProblem) (p1 : List (List Int)) (p2 : Bool) : Option Bool :=
  if (p1.length : Int) != p0.Labels then
    some false
  else
    (forI (fI_WalkProblem_ranksOk_s1) p1 0 ()) >>= fun q13 =>
    match q13 with
    | .inl _ =>
      (forI (fI_WalkProblem_ranksOk_s2 p1 p2) p0.Arcs 0 ()) >>= fun q50 =>
      match q50 with
      | .inl _ =>
        some true
      | .inr r' => some r'
    | .inr r' => some r'

def pI_WalkProblem_ranksOk (w : World) (r : Bool) : Ending → World → Prop := fun e w' => e = .returned (.bool r) ∧ Keeps w w'
set_option maxRecDepth 100000 in
set_option maxHeartbeats 2000000 in
theorem cI_WalkProblem_ranksOk (w : World) (u0 : List Value) (p0 : T_WalkProblem) (g0 : Rp.rd zt w u0 p0) (u1 : Value) (p1 : List (List Int)) (g1 : RdL zt w u1 p1) (p2 : Bool) (r : Bool) (hF : fI_WalkProblem_ranksOk p0 p1 p2 = some r) :
    Calls Try.prog 115 #[.agg u0.toArray, u1, .bool p2] w (pI_WalkProblem_ranksOk w r) := by
  unfold fI_WalkProblem_ranksOk at hF
  obtain ⟨v1, rfl, h2⟩ := g0
  have hB : Bs (fun _ => 1) (col (fun _ => 1)) w w := Bs.start _ _
  refine calls_start (n := 101) (vs := [(.agg #[(.int .i64 p0.Labels), v1]), u1, (.bool p2)]) Try.func115 rfl rfl ?_
  refine wpC_seq ?_
  refine wpC_region ?_
  refine st_op (by decide) trivial ?_
  refine wf_box (o := (col (fun _ => 1))) w.heap.size 11 hB.keeps.size (cs := [(.int .i64 p0.Labels), v1]) rfl rfl ?_
  intro o3 w4 b5 h6 s7
  replace hB := hB.stp s7 (by decide)
  refine st_val (ex_assign rfl) (by decide) trivial ?_
  refine wpF_end (r := [(1, u1), (2, (.bool p2)), (3, (.pointer (some ⟨b5, 0, none⟩)))]) ⟨rfl, rfl, rfl, trivial⟩ ?_
  refine nx ?_
  refine wpC_seq ?_
  refine wpC_seq ?_
  refine wpC_region ?_
  refine st_val (ex_move rfl) (by decide) trivial ?_
  refine st_val (ex_lenR rfl g1 Try.underlying22) (by decide) trivial ?_
  refine st_val (ex_field rfl Try.underlying44 rfl Try.sizeOf3) (by decide) trivial ?_
  refine st_val (ex_load1 rfl Try.isAgg3 (h6.cell rfl)) (by decide) trivial ?_
  refine st_val (ex_neq rfl rfl) (by decide) trivial ?_
  refine wpF_end (r := [(1, u1), (2, (.bool p2)), (3, (.pointer (some ⟨b5, 0, none⟩))), (17, (.bool ((p1.length : Int) != p0.Labels)))]) ⟨rfl, rfl, rfl, rfl, trivial⟩ ?_
  refine nx ?_
  refine wpC_cond rfl (fun t8 => ?_) (fun t8 => ?_)
  · rw [if_pos t8] at hF
    refine wpC_seq ?_
    refine wpC_region ?_
    refine st_val (ex_assign rfl) (by decide) trivial ?_
    refine wpF_end (r := [(6, (.bool false))]) ⟨rfl, trivial⟩ ?_
    refine nx ?_
    refine wpC_ret ?_
    refine nt_ret ?_
    have e9 := Option.some.inj hF
    subst e9
    refine ret_post (P := Try.prog) (vs := [(.bool false)]) Try.results115 ⟨rfl, trivial⟩ ?_
    exact ⟨rfl, hB.keeps⟩
  · rw [if_neg (by rw [t8]; decide)] at hF
    refine wpC_skip ?_
    refine nx ?_
    refine wpC_seq ?_
    refine wpC_seq ?_
    refine wpC_region ?_
    refine st_val (ex_move rfl) (by decide) trivial ?_
    refine st_val (ex_lenR rfl g1 Try.underlying22) (by decide) trivial ?_
    refine st_val (ex_move rfl) (by decide) trivial ?_
    refine wpF_end (r := [(1, u1), (2, (.bool p2)), (3, (.pointer (some ⟨b5, 0, none⟩))), (18, u1), (19, (.int .i64 (p1.length : Int))), (20, (.int .i64 0))]) ⟨rfl, rfl, rfl, rfl, rfl, rfl, trivial⟩ ?_
    refine nx ?_
    obtain ⟨q13, hq13, hF⟩ := bind_some hF
    refine wpC_cutN (fun a w11 => ∃ (o10 : Tg), q13 = .inl () ∧ Fr a 101 [(1, u1), (2, (.bool p2)), (3, (.pointer (some ⟨b5, 0, none⟩)))] ∧ Bs (fun _ => 1) o10 w w11 ∧ Bx w.heap.size 11 o10 w11 b5 44 [(.int .i64 p0.Labels), v1]) (fun a w' => ∃ r', q13 = .inr r' ∧ bodyPost Try.prog Try.f115 (pI_WalkProblem_ranksOk w r') .ret a w') ?_ ?_ ?_
    · refine wpC_block ?_
      refine wpC_loop (fun (K : Nat) a w11 => ∃ (i12 : Int) (o10 : Tg), forI (fI_WalkProblem_ranksOk_s1) (p1.drop i12.toNat) i12 () = some q13 ∧ (p1.drop i12.toNat).length = K ∧ 0 ≤ i12 ∧ Fr a 101 [(1, u1), (2, (.bool p2)), (3, (.pointer (some ⟨b5, 0, none⟩))), (18, u1), (19, (.int .i64 (p1.length : Int))), (20, (.int .i64 i12))] ∧ Bs (fun _ => 1) o10 w w11 ∧ Bx w.heap.size 11 o10 w11 b5 44 [(.int .i64 p0.Labels), v1]) _ (fun a ha => ⟨0, o3, hq13, rfl, Int.le_refl 0, ha.sub (r := [(1, u1), (2, (.bool p2)), (3, (.pointer (some ⟨b5, 0, none⟩))), (18, u1), (19, (.int .i64 (p1.length : Int))), (20, (.int .i64 0))]) ⟨rfl, rfl, rfl, rfl, rfl, rfl, trivial⟩, hB, h6⟩) ?_
      rintro K17 a w11 ⟨i12, o10, l14, m16, z15, ha, hB, h6⟩
      by_cases t21 : i12 < (p1.length : Int)
      · obtain ⟨x22, q18, hx22, b19, n20⟩ := forI_cons z15 t21 l14
        have hle := g1.len_le
        dsimp only [fI_WalkProblem_ranksOk_s1] at b19
        refine wp_of ha ?_
        refine wpC_seq ?_
        refine wpC_region ?_
        refine st_val (ex_lss rfl rfl) (by decide) trivial ?_
        refine wpF_end (r := [(1, u1), (2, (.bool p2)), (3, (.pointer (some ⟨b5, 0, none⟩))), (18, u1), (19, (.int .i64 (p1.length : Int))), (20, (.int .i64 i12)), (21, (.bool (decide (i12 < (p1.length : Int)))))]) ⟨rfl, rfl, rfl, rfl, rfl, rfl, rfl, trivial⟩ ?_
        refine nx ?_
        refine wpC_seq ?_
        refine wpC_true (congrArg (fun b => some (Value.bool b)) (decide_eq_true t21)) ?_
        refine wpC_skip ?_
        refine nx ?_
        refine wpC_seq ?_
        refine wpC_block ?_
        refine wpC_seq ?_
        refine wpC_region ?_
        refine st_op (by decide) trivial ?_
        refine wf_atZ g1 hx22 hB rfl rfl Try.underlying22 Try.sizeOf26 ?_
        intro b23 f24 c25 h26 h27
        obtain ⟨v28, rfl, h29⟩ := h27
        refine st_val (ex_load1 rfl Try.isAgg26 (cell_of_cells h26)) (by decide) trivial ?_
        refine st_val (ex_assign rfl) (by decide) trivial ?_
        refine wpF_end (r := [(1, u1), (2, (.bool p2)), (3, (.pointer (some ⟨b5, 0, none⟩))), (8, v28), (18, u1), (19, (.int .i64 (p1.length : Int))), (20, (.int .i64 i12))]) ⟨rfl, rfl, rfl, rfl, rfl, rfl, rfl, trivial⟩ ?_
        refine nx ?_
        refine wpC_seq ?_
        refine wpC_region ?_
        refine st_val (ex_move rfl) (by decide) trivial ?_
        refine st_val (ex_lenR rfl h29 Try.underlying26) (by decide) trivial ?_
        refine st_val (ex_neq rfl rfl) (by decide) trivial ?_
        refine st_val (ex_move rfl) (by decide) trivial ?_
        obtain ⟨q30, hq30, b19⟩ := bind_some b19
        refine wpF_cutAt 4 (fun a32 w31 => Fr a32 101 [(1, u1), (2, (.bool p2)), (3, (.pointer (some ⟨b5, 0, none⟩))), (18, u1), (19, (.int .i64 (p1.length : Int))), (20, (.int .i64 i12)), (31, (.bool q30))] ∧ Keeps w11 w31) ?_ ?_
        all_goals simp only [List.take_succ_cons, List.take_zero, List.drop_succ_cons, List.drop_zero]
        · have kp : Keeps w11 w11 := Keeps.refl _
          rcases Bool.eq_false_or_eq_true ((x22.length : Int) != 3) with t33 | t33
          · rw [if_pos t33] at hq30
            refine st_no rfl rfl (by rw [t33]; rfl) (by decide) ?_
            refine st_no rfl rfl (by rw [t33]; rfl) (by decide) ?_
            refine st_no rfl rfl (by rw [t33]; rfl) (by decide) ?_
            refine st_val (ex_pick_t (congrArg (fun b => some (Value.bool b)) t33) rfl) (by decide) trivial ?_
            have hq302 := Option.some.inj hq30
            refine wpF_end (r := [(1, u1), (2, (.bool p2)), (3, (.pointer (some ⟨b5, 0, none⟩))), (18, u1), (19, (.int .i64 (p1.length : Int))), (20, (.int .i64 i12)), (31, (.bool true))]) ⟨rfl, rfl, rfl, rfl, rfl, rfl, rfl, trivial⟩ ?_
            subst hq302
            refine np_norm (fun a ha => ⟨ha, kp⟩)
          · rw [if_neg (by rw [t33]; decide)] at hq30
            refine st_val (ex_move rfl) (by decide) ⟨_, rfl, (congrArg (fun b => some (Value.bool b)) t33)⟩ ?_
            obtain ⟨x34, hx34, hq30⟩ := bind_some hq30
            refine st_op (by decide) ⟨_, rfl, (congrArg (fun b => some (Value.bool b)) t33)⟩ ?_
            refine wf_call (cI_allWithin w11 _ x22 (h29.keep hB.keeps) 0 1000 x34 hx34) Try.call119 ⟨rfl, rfl, rfl, trivial⟩ ?_
            rintro e39 w35 ⟨rfl, k36⟩
            have s38 := k36.stp 999 o10
            refine ⟨_, rfl, ?_⟩
            replace h6 := h6.stp s38 (by decide)
            replace hB := hB.stp s38 (by decide)
            replace kp := Keeps.trans kp k36
            refine st_val (ex_not rfl) (by decide) ⟨_, rfl, (congrArg (fun b => some (Value.bool b)) t33)⟩ ?_
            refine st_val (ex_pick_f (congrArg (fun b => some (Value.bool b)) t33) rfl) (by decide) trivial ?_
            have hq302 := Option.some.inj hq30
            refine wpF_end (r := [(1, u1), (2, (.bool p2)), (3, (.pointer (some ⟨b5, 0, none⟩))), (18, u1), (19, (.int .i64 (p1.length : Int))), (20, (.int .i64 i12)), (31, (.bool (!x34)))]) ⟨rfl, rfl, rfl, rfl, rfl, rfl, rfl, trivial⟩ ?_
            subst hq302
            refine np_norm (fun a ha => ⟨ha, kp⟩)
        rintro a42 w31 ⟨ha, k40⟩
        have s41 := k40.stp 999 o10
        replace h6 := h6.stp s41 (by decide)
        replace hB := hB.stp s41 (by decide)
        refine wl_of ha ?_
        refine wpF_end (r := [(1, u1), (2, (.bool p2)), (3, (.pointer (some ⟨b5, 0, none⟩))), (18, u1), (19, (.int .i64 (p1.length : Int))), (20, (.int .i64 i12)), (31, (.bool q30))]) ⟨rfl, rfl, rfl, rfl, rfl, rfl, rfl, trivial⟩ ?_
        refine nx ?_
        refine wpC_cond rfl (fun t43 => ?_) (fun t43 => ?_)
        · rw [if_pos t43] at b19
          refine wpC_seq ?_
          refine wpC_region ?_
          refine st_val (ex_assign rfl) (by decide) trivial ?_
          refine wpF_end (r := [(6, (.bool false))]) ⟨rfl, trivial⟩ ?_
          refine nx ?_
          refine wpC_ret ?_
          refine nb_ret ?_
          refine nt_ret ?_
          refine nt_ret ?_
          refine nb_ret ?_
          refine np_ret ?_
          have e44 := Option.some.inj b19
          subst e44
          refine fun a ha => ⟨_, n20, ?_⟩
          refine ret_post (P := Try.prog) (vs := [(.bool false)]) Try.results115 ⟨rfl, trivial⟩ ?_ a ha
          exact ⟨rfl, hB.keeps⟩
        · rw [if_neg (by rw [t43]; decide)] at b19
          refine wpC_skip ?_
          refine nb_norm ?_
          refine nx ?_
          refine wpC_region ?_
          refine st_val (ex_add rfl rfl (ck_in (by omega) (by omega))) (by decide) trivial ?_
          refine st_val (ex_move rfl) (by decide) trivial ?_
          refine wpF_end (r := [(1, u1), (2, (.bool p2)), (3, (.pointer (some ⟨b5, 0, none⟩))), (18, u1), (19, (.int .i64 (p1.length : Int))), (20, (.int .i64 (i12 + 1)))]) ⟨rfl, rfl, rfl, rfl, rfl, rfl, trivial⟩ ?_
          refine nt_norm ?_
          have e45 := Option.some.inj b19
          subst e45
          refine to_k (r := [(1, u1), (2, (.bool p2)), (3, (.pointer (some ⟨b5, 0, none⟩))), (18, u1), (19, (.int .i64 (p1.length : Int))), (20, (.int .i64 (i12 + 1)))]) ⟨rfl, rfl, rfl, rfl, rfl, rfl, trivial⟩ ?_
          intro a ha
          exact ⟨_, (by rw [← m16]; simp only [List.length_drop]; omega), i12 + 1, o10, n20, rfl, (by omega), ha, hB, h6⟩
      · have r46 := forI_done t21 l14
        refine wp_of ha ?_
        refine wpC_seq ?_
        refine wpC_region ?_
        refine st_val (ex_lss rfl rfl) (by decide) trivial ?_
        refine wpF_end (r := [(1, u1), (2, (.bool p2)), (3, (.pointer (some ⟨b5, 0, none⟩))), (18, u1), (19, (.int .i64 (p1.length : Int))), (20, (.int .i64 i12)), (21, (.bool (decide (i12 < (p1.length : Int)))))]) ⟨rfl, rfl, rfl, rfl, rfl, rfl, rfl, trivial⟩ ?_
        refine nx ?_
        refine wpC_seq ?_
        refine wpC_false (congrArg (fun b => some (Value.bool b)) (decide_eq_false t21)) ?_
        refine wpC_exit ?_
        refine nt_exit ?_
        refine nt_exit ?_
        refine nb_hit ?_
        refine np_norm ?_
        refine to_k (r := [(1, u1), (2, (.bool p2)), (3, (.pointer (some ⟨b5, 0, none⟩)))]) ⟨rfl, rfl, rfl, trivial⟩ ?_
        intro a ha
        exact ⟨o10, r46, ha, hB, h6⟩
    · rintro a w11 ⟨o10, rfl, ha, hB, h6⟩
      dsimp only at hF
      refine ap_k ha ?_
      refine nx ?_
      refine wpC_seq ?_
      refine wpC_seq ?_
      refine wpC_region ?_
      refine st_val (ex_field rfl Try.underlying44 rfl Try.sizeOf22) (by decide) trivial ?_
      refine st_val (ex_load1 rfl Try.isAgg22 (h6.cell rfl)) (by decide) trivial ?_
      refine st_val (ex_lenR rfl h2 Try.underlying22) (by decide) trivial ?_
      refine st_val (ex_move rfl) (by decide) trivial ?_
      refine wpF_end (r := [(1, u1), (2, (.bool p2)), (34, v1), (35, (.int .i64 (p0.Arcs.length : Int))), (36, (.int .i64 0))]) ⟨rfl, rfl, rfl, rfl, rfl, trivial⟩ ?_
      refine nx ?_
      obtain ⟨q50, hq50, hF⟩ := bind_some hF
      refine wpC_cutN (fun a w48 => ∃ (o47 : Tg), q50 = .inl () ∧ Fr a 101 [] ∧ Bs (fun _ => 1) o47 w w48) (fun a w' => ∃ r', q50 = .inr r' ∧ bodyPost Try.prog Try.f115 (pI_WalkProblem_ranksOk w r') .ret a w') ?_ ?_ ?_
      · refine wpC_block ?_
        refine wpC_loop (fun (K : Nat) a w48 => ∃ (i49 : Int) (o47 : Tg), forI (fI_WalkProblem_ranksOk_s2 p1 p2) (p0.Arcs.drop i49.toNat) i49 () = some q50 ∧ (p0.Arcs.drop i49.toNat).length = K ∧ 0 ≤ i49 ∧ Fr a 101 [(1, u1), (2, (.bool p2)), (34, v1), (35, (.int .i64 (p0.Arcs.length : Int))), (36, (.int .i64 i49))] ∧ Bs (fun _ => 1) o47 w w48) _ (fun a ha => ⟨0, o10, hq50, rfl, Int.le_refl 0, ha.sub (r := [(1, u1), (2, (.bool p2)), (34, v1), (35, (.int .i64 (p0.Arcs.length : Int))), (36, (.int .i64 0))]) ⟨rfl, rfl, rfl, rfl, rfl, trivial⟩, hB⟩) ?_
        rintro K54 a w48 ⟨i49, o47, l51, m53, z52, ha, hB⟩
        by_cases t58 : i49 < (p0.Arcs.length : Int)
        · obtain ⟨x59, q55, hx59, b56, n57⟩ := forI_cons z52 t58 l51
          have hle := h2.len_le
          dsimp only [fI_WalkProblem_ranksOk_s2] at b56
          refine wp_of ha ?_
          refine wpC_seq ?_
          refine wpC_region ?_
          refine st_val (ex_lss rfl rfl) (by decide) trivial ?_
          refine wpF_end (r := [(1, u1), (2, (.bool p2)), (34, v1), (35, (.int .i64 (p0.Arcs.length : Int))), (36, (.int .i64 i49)), (37, (.bool (decide (i49 < (p0.Arcs.length : Int)))))]) ⟨rfl, rfl, rfl, rfl, rfl, rfl, trivial⟩ ?_
          refine nx ?_
          refine wpC_seq ?_
          refine wpC_true (congrArg (fun b => some (Value.bool b)) (decide_eq_true t58)) ?_
          refine wpC_skip ?_
          refine nx ?_
          refine wpC_seq ?_
          refine wpC_block ?_
          refine wpC_seq ?_
          refine wpC_region ?_
          refine st_op (by decide) trivial ?_
          refine wf_atZ h2 hx59 hB rfl rfl Try.underlying22 Try.sizeOf26 ?_
          intro b60 f61 c62 h63 h64
          obtain ⟨v65, rfl, h66⟩ := h64
          refine st_val (ex_load1 rfl Try.isAgg26 (cell_of_cells h63)) (by decide) trivial ?_
          refine st_val (ex_assign rfl) (by decide) trivial ?_
          refine wpF_end (r := [(1, u1), (2, (.bool p2)), (10, v65), (34, v1), (35, (.int .i64 (p0.Arcs.length : Int))), (36, (.int .i64 i49))]) ⟨rfl, rfl, rfl, rfl, rfl, rfl, trivial⟩ ?_
          refine nx ?_
          refine wpC_seq ?_
          obtain ⟨x67, hx67, b56⟩ := bind_some b56
          obtain ⟨x70, hx70, b56⟩ := bind_some b56
          obtain ⟨x76, hx76, b56⟩ := bind_some b56
          obtain ⟨x79, hx79, b56⟩ := bind_some b56
          refine wpC_drawn (o := o47) [(1, u1), (2, (.bool p2)), (10, v65), (34, v1), (35, (.int .i64 (p0.Arcs.length : Int))), (36, (.int .i64 i49))] [1, 2, 10, 34, 35, 36] [40, 41, 42, 43, 44, 45, 46, 47, 48, 49, 50, 51, 11] [[], [], [1], [2], [0, 3], [4], [], [], [7], [8], [6, 9], [10], [5]] [none, none, none, none, none, none, none, none, none, none, none, none, none] [999, 999, 999, 999, 999, 999, 999, 999, 999, 999, 999, 999, 999] [0, 0, 0, 0, 0, 0, 0, 0, 0, 0, 0, 0, 0] [999] [fun v _ _ => v = u1, fun v _ _ => v = v65, fun v o w9 => ∃ vl, v = adr vl ((0 : Int).toNat * Rp.sz Int) ∧ RdL zt w vl x59, fun v _ _ => v = (.int .i64 x67), fun v o w9 => ∃ vl, v = adr vl (x67.toNat * Rp.sz (List Int)) ∧ RdL zt w vl p1, fun v o w9 => RdL zt w v x70, fun v _ _ => v = u1, fun v _ _ => v = v65, fun v o w9 => ∃ vl, v = adr vl ((1 : Int).toNat * Rp.sz Int) ∧ RdL zt w vl x59, fun v _ _ => v = (.int .i64 x76), fun v o w9 => ∃ vl, v = adr vl (x76.toNat * Rp.sz (List Int)) ∧ RdL zt w vl p1, fun v o w9 => RdL zt w v x79, fun v o w9 => RdL zt w v x70] (fun o8 w8 => Bs (fun _ => 1) o8 w w8) follows_mixed (by kernel_rfl) rfl ⟨rfl, rfl, rfl, rfl, rfl, rfl, trivial⟩ hB ?_ ⟨st_eq _, st_eq _, fun _ _ _ _ _ _ h0 hb ⟨vl, e, h⟩ hs => ⟨vl, e, h⟩, st_eq _, fun _ _ _ _ _ _ h0 hb ⟨vl, e, h⟩ hs => ⟨vl, e, h⟩, fun _ _ _ _ _ _ h0 hb h hs => h, st_eq _, st_eq _, fun _ _ _ _ _ _ h0 hb ⟨vl, e, h⟩ hs => ⟨vl, e, h⟩, st_eq _, fun _ _ _ _ _ _ h0 hb ⟨vl, e, h⟩ hs => ⟨vl, e, h⟩, fun _ _ _ _ _ _ h0 hb h hs => h, fun _ _ _ _ _ _ h0 hb h hs => h, trivial⟩ ?_ ?_
          · rintro t9 o1 w1 o2 w2 ht9 hB hs9
            have ht9 : t9 = 999 := by simpa using ht9
            subst ht9
            all_goals exact hB.stp hs9 (by decide)
          · refine ⟨?_, ?_, ?_, ?_, ?_, ?_, ?_, ?_, ?_, ?_, ?_, ?_, ?_, trivial⟩
            · rintro o85 w86 a87 ha hB -
              refine opS_of ha (trivial) ?_
              refine op1_val (ex_move rfl) ?_
              exact ⟨_, Stp.refl _ _ _, rfl⟩
            · rintro o88 w89 a90 ha hB -
              refine opS_of ha (trivial) ?_
              refine op1_val (ex_move rfl) ?_
              exact ⟨_, Stp.refl _ _ _, rfl⟩
            · rintro o91 w92 a93 ha hB ⟨r94, -⟩
              have ha := Fr.cons (d := 41) ha r94
              refine opS_of ha (trivial) ?_
              refine wd_indexR h66 hx67 rfl rfl Try.underlying26 Try.sizeOf3 ?_
              exact ⟨_, Stp.refl _ _ _, ⟨_, rfl, h66⟩⟩
            · rintro o95 w96 a97 ha hB ⟨r98, -⟩
              obtain ⟨v99, e100, h101⟩ := r98
              have ha := Fr.cons (d := 42) ha e100
              refine opS_of ha (trivial) ?_
              refine wd_load1Z h101 hx67 hB rfl rfl Try.isAgg3 ?_
              intro c102 h103
              cases h103
              exact ⟨_, Stp.refl _ _ _, rfl⟩
            · rintro o104 w105 a106 ha hB ⟨r107, r108, -⟩
              have ha := Fr.cons (d := 40) ha r107
              have ha := Fr.cons (d := 43) ha r108
              refine opS_of ha (trivial) ?_
              refine wd_indexR g1 hx70 rfl rfl Try.underlying22 Try.sizeOf26 ?_
              exact ⟨_, Stp.refl _ _ _, ⟨_, rfl, g1⟩⟩
            · rintro o109 w110 a111 ha hB ⟨r112, -⟩
              obtain ⟨v113, e114, h115⟩ := r112
              have ha := Fr.cons (d := 44) ha e114
              refine opS_of ha (trivial) ?_
              refine wd_load1Z h115 hx70 hB rfl rfl Try.isAgg26 ?_
              intro c116 h117
              obtain ⟨v118, e120, h119⟩ := h117
              cases e120
              exact ⟨_, Stp.refl _ _ _, h119⟩
            · rintro o121 w122 a123 ha hB -
              refine opS_of ha (trivial) ?_
              refine op1_val (ex_move rfl) ?_
              exact ⟨_, Stp.refl _ _ _, rfl⟩
            · rintro o124 w125 a126 ha hB -
              refine opS_of ha (trivial) ?_
              refine op1_val (ex_move rfl) ?_
              exact ⟨_, Stp.refl _ _ _, rfl⟩
            · rintro o127 w128 a129 ha hB ⟨r130, -⟩
              have ha := Fr.cons (d := 47) ha r130
              refine opS_of ha (trivial) ?_
              refine wd_indexR h66 hx76 rfl rfl Try.underlying26 Try.sizeOf3 ?_
              exact ⟨_, Stp.refl _ _ _, ⟨_, rfl, h66⟩⟩
            · rintro o131 w132 a133 ha hB ⟨r134, -⟩
              obtain ⟨v135, e136, h137⟩ := r134
              have ha := Fr.cons (d := 48) ha e136
              refine opS_of ha (trivial) ?_
              refine wd_load1Z h137 hx76 hB rfl rfl Try.isAgg3 ?_
              intro c138 h139
              cases h139
              exact ⟨_, Stp.refl _ _ _, rfl⟩
            · rintro o140 w141 a142 ha hB ⟨r143, r144, -⟩
              have ha := Fr.cons (d := 46) ha r143
              have ha := Fr.cons (d := 49) ha r144
              refine opS_of ha (trivial) ?_
              refine wd_indexR g1 hx79 rfl rfl Try.underlying22 Try.sizeOf26 ?_
              exact ⟨_, Stp.refl _ _ _, ⟨_, rfl, g1⟩⟩
            · rintro o145 w146 a147 ha hB ⟨r148, -⟩
              obtain ⟨v149, e150, h151⟩ := r148
              have ha := Fr.cons (d := 50) ha e150
              refine opS_of ha (trivial) ?_
              refine wd_load1Z h151 hx79 hB rfl rfl Try.isAgg26 ?_
              intro c152 h153
              obtain ⟨v154, e156, h155⟩ := h153
              cases e156
              exact ⟨_, Stp.refl _ _ _, h155⟩
            · rintro o157 w158 a159 ha hB ⟨r160, -⟩
              replace r160 : RdL zt w (a159.tmps.getD 45 undef) x70 := r160
              generalize e162 : a159.tmps.getD 45 undef = v161 at r160
              have ha := Fr.cons (d := 45) ha e162
              refine opS_of ha (trivial) ?_
              refine op1_val (ex_assign rfl) ?_
              exact ⟨_, Stp.refl _ _ _, r160⟩
          rintro o163 w164 a165 ha hB ⟨-, -, -, -, -, -, -, -, -, -, -, r166, r167, -⟩
          replace r166 : RdL zt w (a165.tmps.getD 51 undef) x79 := r166
          generalize e169 : a165.tmps.getD 51 undef = v168 at r166
          have ha := Fr.cons (d := 51) ha e169
          replace r167 : RdL zt w (a165.tmps.getD 11 undef) x70 := r167
          generalize e171 : a165.tmps.getD 11 undef = v170 at r167
          have ha := Fr.cons (d := 11) ha e171
          refine wl_of ha ?_
          simp only [List.length_cons, List.length_nil, Nat.zero_add, Nat.reduceAdd, List.drop_succ_cons, List.drop_zero]
          refine st_val (ex_assign rfl) (by decide) trivial ?_
          refine wpF_end (r := [(1, u1), (2, (.bool p2)), (11, v170), (12, v168), (34, v1), (35, (.int .i64 (p0.Arcs.length : Int))), (36, (.int .i64 i49))]) ⟨rfl, rfl, rfl, rfl, rfl, rfl, rfl, trivial⟩ ?_
          refine nx ?_
          refine wpC_seq ?_
          refine wpC_seq ?_
          obtain ⟨x172, hx172, b56⟩ := bind_some b56
          obtain ⟨x175, hx175, b56⟩ := bind_some b56
          refine wpC_drawn (o := o163) [(1, u1), (2, (.bool p2)), (11, v170), (12, v168), (34, v1), (35, (.int .i64 (p0.Arcs.length : Int))), (36, (.int .i64 i49))] [1, 2, 11, 12, 34, 35, 36] [52, 53, 54, 55, 56, 57] [[], [0], [1], [], [3], [4]] [none, none, none, none, none, none] [999, 999, 999, 999, 999, 999] [0, 0, 0, 0, 0, 0] [999] [fun v _ _ => v = v168, fun v o w9 => ∃ vl, v = adr vl ((0 : Int).toNat * Rp.sz Int) ∧ RdL zt w vl x79, fun v _ _ => v = (.int .i64 x172), fun v _ _ => v = v170, fun v o w9 => ∃ vl, v = adr vl ((0 : Int).toNat * Rp.sz Int) ∧ RdL zt w vl x70, fun v _ _ => v = (.int .i64 x175)] (fun o8 w8 => Bs (fun _ => 1) o8 w w8) follows_mixed (by kernel_rfl) rfl ⟨rfl, rfl, rfl, rfl, rfl, rfl, rfl, trivial⟩ hB ?_ ⟨st_eq _, fun _ _ _ _ _ _ h0 hb ⟨vl, e, h⟩ hs => ⟨vl, e, h⟩, st_eq _, st_eq _, fun _ _ _ _ _ _ h0 hb ⟨vl, e, h⟩ hs => ⟨vl, e, h⟩, st_eq _, trivial⟩ ?_ ?_
          · rintro t9 o1 w1 o2 w2 ht9 hB hs9
            have ht9 : t9 = 999 := by simpa using ht9
            subst ht9
            all_goals exact hB.stp hs9 (by decide)
          · refine ⟨?_, ?_, ?_, ?_, ?_, ?_, trivial⟩
            · rintro o178 w179 a180 ha hB -
              refine opS_of ha (trivial) ?_
              refine op1_val (ex_move rfl) ?_
              exact ⟨_, Stp.refl _ _ _, rfl⟩
            · rintro o181 w182 a183 ha hB ⟨r184, -⟩
              have ha := Fr.cons (d := 52) ha r184
              refine opS_of ha (trivial) ?_
              refine wd_indexR r166 hx172 rfl rfl Try.underlying26 Try.sizeOf3 ?_
              exact ⟨_, Stp.refl _ _ _, ⟨_, rfl, r166⟩⟩
            · rintro o185 w186 a187 ha hB ⟨r188, -⟩
              obtain ⟨v189, e190, h191⟩ := r188
              have ha := Fr.cons (d := 53) ha e190
              refine opS_of ha (trivial) ?_
              refine wd_load1Z h191 hx172 hB rfl rfl Try.isAgg3 ?_
              intro c192 h193
              cases h193
              exact ⟨_, Stp.refl _ _ _, rfl⟩
            · rintro o194 w195 a196 ha hB -
              refine opS_of ha (trivial) ?_
              refine op1_val (ex_move rfl) ?_
              exact ⟨_, Stp.refl _ _ _, rfl⟩
            · rintro o197 w198 a199 ha hB ⟨r200, -⟩
              have ha := Fr.cons (d := 55) ha r200
              refine opS_of ha (trivial) ?_
              refine wd_indexR r167 hx175 rfl rfl Try.underlying26 Try.sizeOf3 ?_
              exact ⟨_, Stp.refl _ _ _, ⟨_, rfl, r167⟩⟩
            · rintro o201 w202 a203 ha hB ⟨r204, -⟩
              obtain ⟨v205, e206, h207⟩ := r204
              have ha := Fr.cons (d := 56) ha e206
              refine opS_of ha (trivial) ?_
              refine wd_load1Z h207 hx175 hB rfl rfl Try.isAgg3 ?_
              intro c208 h209
              cases h209
              exact ⟨_, Stp.refl _ _ _, rfl⟩
          rintro o210 w211 a212 ha hB ⟨-, -, r213, -, -, r214, -⟩
          have ha := Fr.cons (d := 54) ha r213
          have ha := Fr.cons (d := 57) ha r214
          refine wl_of ha ?_
          simp only [List.length_cons, List.length_nil, Nat.zero_add, Nat.reduceAdd, List.drop_succ_cons, List.drop_zero]
          refine st_val (ex_gtr rfl rfl) (by decide) trivial ?_
          refine wpF_end (r := [(1, u1), (2, (.bool p2)), (11, v170), (12, v168), (34, v1), (35, (.int .i64 (p0.Arcs.length : Int))), (36, (.int .i64 i49)), (58, (.bool (decide (x172 > x175))))]) ⟨rfl, rfl, rfl, rfl, rfl, rfl, rfl, rfl, trivial⟩ ?_
          refine nx ?_
          refine wpC_cond rfl (fun t215 => ?_) (fun t215 => ?_)
          · rw [if_pos t215] at b56
            refine wpC_exit ?_
            refine nt_exit ?_
            refine nb_hit ?_
            refine nx ?_
            refine wpC_region ?_
            refine st_val (ex_add rfl rfl (ck_in (by omega) (by omega))) (by decide) trivial ?_
            refine st_val (ex_move rfl) (by decide) trivial ?_
            refine wpF_end (r := [(1, u1), (2, (.bool p2)), (34, v1), (35, (.int .i64 (p0.Arcs.length : Int))), (36, (.int .i64 (i49 + 1)))]) ⟨rfl, rfl, rfl, rfl, rfl, trivial⟩ ?_
            refine nt_norm ?_
            have e216 := Option.some.inj b56
            subst e216
            refine to_k (r := [(1, u1), (2, (.bool p2)), (34, v1), (35, (.int .i64 (p0.Arcs.length : Int))), (36, (.int .i64 (i49 + 1)))]) ⟨rfl, rfl, rfl, rfl, rfl, trivial⟩ ?_
            intro a ha
            exact ⟨_, (by rw [← m53]; simp only [List.length_drop]; omega), i49 + 1, o210, n57, rfl, (by omega), ha, hB⟩
          · rw [if_neg (by rw [t215]; decide)] at b56
            refine wpC_skip ?_
            refine nx ?_
            refine wpC_seq ?_
            obtain ⟨q217, hq217, b56⟩ := bind_some b56
            refine wpC_cutN (fun a220 w219 => ∃ o218 : Tg, Fr a220 101 [(1, u1), (2, (.bool p2)), (34, v1), (35, (.int .i64 (p0.Arcs.length : Int))), (36, (.int .i64 i49)), (99, (.bool q217))] ∧ Bs (fun _ => 1) o218 w w219) (fun _ _ => False) ?_ ?_ (fun _ _ h => h.elim)
            · rcases Bool.eq_false_or_eq_true (!p2) with t221 | t221
              · rw [if_pos t221] at hq217
                refine wpC_drawn (o := o210) [(1, u1), (2, (.bool p2)), (11, v170), (12, v168), (34, v1), (35, (.int .i64 (p0.Arcs.length : Int))), (36, (.int .i64 i49))] [1, 2, 11, 12, 34, 35, 36] [59, 60, 61, 62, 63, 64, 65, 66, 67, 68, 69, 70, 71, 72, 73, 74, 75, 76, 77, 78, 79, 80, 81, 82, 83, 84, 85, 86, 87, 88, 89, 90, 91, 92, 93, 94, 95, 96] [[], [0], [1], [2], [2], [2], [2], [2], [2], [2], [2, 9], [10], [11], [11], [11], [11], [11], [11], [11], [11, 18], [19], [20], [20], [20], [20], [20, 24], [25], [26], [26], [26], [26], [26], [26], [26], [26], [26], [26], [26]] [none, none, none, none, none, none, none, none, none, none, none, none, none, none, none, none, none, none, none, none, none, none, none, none, none, none, none, none, none, none, none, none, none, none, none, none, none, none] [999, 999, 999, 999, 999, 999, 999, 999, 999, 999, 999, 999, 999, 999, 999, 999, 999, 999, 999, 999, 999, 999, 999, 999, 999, 999, 999, 999, 999, 999, 999, 999, 999, 999, 999, 999, 999, 999] [0, 0, 0, 0, 0, 0, 0, 0, 0, 0, 0, 0, 0, 0, 0, 0, 0, 0, 0, 0, 0, 0, 0, 0, 0, 0, 0, 0, 0, 0, 0, 0, 0, 0, 0, 0, 0, 0] [999] [fun v _ _ => v = (.bool p2), fun v _ _ => v = (.bool (!p2)), fun v _ _ => v = (.bool (!p2)), fun v _ _ => v = undef, fun v _ _ => v = undef, fun v _ _ => v = undef, fun v _ _ => v = undef, fun v _ _ => v = undef, fun v _ _ => v = undef, fun v _ _ => v = undef, fun v _ _ => v = (.bool true), fun v _ _ => v = (.bool true), fun v _ _ => v = undef, fun v _ _ => v = undef, fun v _ _ => v = undef, fun v _ _ => v = undef, fun v _ _ => v = undef, fun v _ _ => v = undef, fun v _ _ => v = undef, fun v _ _ => v = (.bool true), fun v _ _ => v = (.bool true), fun v _ _ => v = undef, fun v _ _ => v = undef, fun v _ _ => v = undef, fun v _ _ => v = undef, fun v _ _ => v = (.bool true), fun v _ _ => v = (.bool true), fun v _ _ => v = undef, fun v _ _ => v = undef, fun v _ _ => v = undef, fun v _ _ => v = undef, fun v _ _ => v = undef, fun v _ _ => v = undef, fun v _ _ => v = undef, fun v _ _ => v = undef, fun v _ _ => v = undef, fun v _ _ => v = undef, fun v _ _ => v = undef] (fun o8 w8 => Bs (fun _ => 1) o8 w w8) follows_mixed (by kernel_rfl) rfl ⟨rfl, rfl, rfl, rfl, rfl, rfl, rfl, trivial⟩ hB ?_ ⟨st_eq _, st_eq _, st_eq _, st_eq _, st_eq _, st_eq _, st_eq _, st_eq _, st_eq _, st_eq _, st_eq _, st_eq _, st_eq _, st_eq _, st_eq _, st_eq _, st_eq _, st_eq _, st_eq _, st_eq _, st_eq _, st_eq _, st_eq _, st_eq _, st_eq _, st_eq _, st_eq _, st_eq _, st_eq _, st_eq _, st_eq _, st_eq _, st_eq _, st_eq _, st_eq _, st_eq _, st_eq _, st_eq _, trivial⟩ ?_ ?_
                · rintro t9 o1 w1 o2 w2 ht9 hB hs9
                  have ht9 : t9 = 999 := by simpa using ht9
                  subst ht9
                  all_goals exact hB.stp hs9 (by decide)
                · refine ⟨?_, ?_, ?_, ?_, ?_, ?_, ?_, ?_, ?_, ?_, ?_, ?_, ?_, ?_, ?_, ?_, ?_, ?_, ?_, ?_, ?_, ?_, ?_, ?_, ?_, ?_, ?_, ?_, ?_, ?_, ?_, ?_, ?_, ?_, ?_, ?_, ?_, ?_, trivial⟩
                  · rintro o222 w223 a224 ha hB -
                    refine opS_of ha (trivial) ?_
                    refine op1_val (ex_move rfl) ?_
                    exact ⟨_, Stp.refl _ _ _, rfl⟩
                  · rintro o225 w226 a227 ha hB ⟨r228, -⟩
                    have ha := Fr.cons (d := 59) ha r228
                    refine opS_of ha (trivial) ?_
                    refine op1_val (ex_not rfl) ?_
                    exact ⟨_, Stp.refl _ _ _, rfl⟩
                  · rintro o229 w230 a231 ha hB ⟨r232, -⟩
                    have ha := Fr.cons (d := 60) ha r232
                    refine opS_of ha (trivial) ?_
                    refine op1_val (ex_move rfl) ?_
                    exact ⟨_, Stp.refl _ _ _, rfl⟩
                  · rintro o233 w234 a235 ha hB ⟨r236, -⟩
                    have ha := Fr.cons (d := 61) ha r236
                    exact opS_no ha rfl rfl rfl (by rw [t221]; rfl) ⟨_, Stp.refl _ _ _, rfl⟩
                  · rintro o237 w238 a239 ha hB ⟨r240, -⟩
                    have ha := Fr.cons (d := 61) ha r240
                    exact opS_no ha rfl rfl rfl (by rw [t221]; rfl) ⟨_, Stp.refl _ _ _, rfl⟩
                  · rintro o241 w242 a243 ha hB ⟨r244, -⟩
                    have ha := Fr.cons (d := 61) ha r244
                    exact opS_no ha rfl rfl rfl (by rw [t221]; rfl) ⟨_, Stp.refl _ _ _, rfl⟩
                  · rintro o245 w246 a247 ha hB ⟨r248, -⟩
                    have ha := Fr.cons (d := 61) ha r248
                    exact opS_no ha rfl rfl rfl (by rw [t221]; rfl) ⟨_, Stp.refl _ _ _, rfl⟩
                  · rintro o249 w250 a251 ha hB ⟨r252, -⟩
                    have ha := Fr.cons (d := 61) ha r252
                    exact opS_no ha rfl rfl rfl (by rw [t221]; rfl) ⟨_, Stp.refl _ _ _, rfl⟩
                  · rintro o253 w254 a255 ha hB ⟨r256, -⟩
                    have ha := Fr.cons (d := 61) ha r256
                    exact opS_no ha rfl rfl rfl (by rw [t221]; rfl) ⟨_, Stp.refl _ _ _, rfl⟩
                  · rintro o257 w258 a259 ha hB ⟨r260, -⟩
                    have ha := Fr.cons (d := 61) ha r260
                    exact opS_no ha rfl rfl rfl (by rw [t221]; rfl) ⟨_, Stp.refl _ _ _, rfl⟩
                  · rintro o261 w262 a263 ha hB ⟨r264, r265, -⟩
                    have ha := Fr.cons (d := 61) ha r264
                    have ha := Fr.cons (d := 68) ha r265
                    refine opS_of ha (trivial) ?_
                    refine op1_val (ex_pick_t (congrArg (fun b => some (Value.bool b)) t221) rfl) ?_
                    exact ⟨_, Stp.refl _ _ _, rfl⟩
                  · rintro o266 w267 a268 ha hB ⟨r269, -⟩
                    have ha := Fr.cons (d := 69) ha r269
                    refine opS_of ha (trivial) ?_
                    refine op1_val (ex_move rfl) ?_
                    exact ⟨_, Stp.refl _ _ _, rfl⟩
                  · rintro o270 w271 a272 ha hB ⟨r273, -⟩
                    have ha := Fr.cons (d := 70) ha r273
                    exact opS_no ha rfl rfl rfl rfl ⟨_, Stp.refl _ _ _, rfl⟩
                  · rintro o274 w275 a276 ha hB ⟨r277, -⟩
                    have ha := Fr.cons (d := 70) ha r277
                    exact opS_no ha rfl rfl rfl rfl ⟨_, Stp.refl _ _ _, rfl⟩
                  · rintro o278 w279 a280 ha hB ⟨r281, -⟩
                    have ha := Fr.cons (d := 70) ha r281
                    exact opS_no ha rfl rfl rfl rfl ⟨_, Stp.refl _ _ _, rfl⟩
                  · rintro o282 w283 a284 ha hB ⟨r285, -⟩
                    have ha := Fr.cons (d := 70) ha r285
                    exact opS_no ha rfl rfl rfl rfl ⟨_, Stp.refl _ _ _, rfl⟩
                  · rintro o286 w287 a288 ha hB ⟨r289, -⟩
                    have ha := Fr.cons (d := 70) ha r289
                    exact opS_no ha rfl rfl rfl rfl ⟨_, Stp.refl _ _ _, rfl⟩
                  · rintro o290 w291 a292 ha hB ⟨r293, -⟩
                    have ha := Fr.cons (d := 70) ha r293
                    exact opS_no ha rfl rfl rfl rfl ⟨_, Stp.refl _ _ _, rfl⟩
                  · rintro o294 w295 a296 ha hB ⟨r297, -⟩
                    have ha := Fr.cons (d := 70) ha r297
                    exact opS_no ha rfl rfl rfl rfl ⟨_, Stp.refl _ _ _, rfl⟩
                  · rintro o298 w299 a300 ha hB ⟨r301, r302, -⟩
                    have ha := Fr.cons (d := 70) ha r301
                    have ha := Fr.cons (d := 77) ha r302
                    refine opS_of ha (trivial) ?_
                    refine op1_val (ex_pick_t rfl rfl) ?_
                    exact ⟨_, Stp.refl _ _ _, rfl⟩
                  · rintro o303 w304 a305 ha hB ⟨r306, -⟩
                    have ha := Fr.cons (d := 78) ha r306
                    refine opS_of ha (trivial) ?_
                    refine op1_val (ex_move rfl) ?_
                    exact ⟨_, Stp.refl _ _ _, rfl⟩
                  · rintro o307 w308 a309 ha hB ⟨r310, -⟩
                    have ha := Fr.cons (d := 79) ha r310
                    exact opS_no ha rfl rfl rfl rfl ⟨_, Stp.refl _ _ _, rfl⟩
                  · rintro o311 w312 a313 ha hB ⟨r314, -⟩
                    have ha := Fr.cons (d := 79) ha r314
                    exact opS_no ha rfl rfl rfl rfl ⟨_, Stp.refl _ _ _, rfl⟩
                  · rintro o315 w316 a317 ha hB ⟨r318, -⟩
                    have ha := Fr.cons (d := 79) ha r318
                    exact opS_no ha rfl rfl rfl rfl ⟨_, Stp.refl _ _ _, rfl⟩
                  · rintro o319 w320 a321 ha hB ⟨r322, -⟩
                    have ha := Fr.cons (d := 79) ha r322
                    exact opS_no ha rfl rfl rfl rfl ⟨_, Stp.refl _ _ _, rfl⟩
                  · rintro o323 w324 a325 ha hB ⟨r326, r327, -⟩
                    have ha := Fr.cons (d := 79) ha r326
                    have ha := Fr.cons (d := 83) ha r327
                    refine opS_of ha (trivial) ?_
                    refine op1_val (ex_pick_t rfl rfl) ?_
                    exact ⟨_, Stp.refl _ _ _, rfl⟩
                  · rintro o328 w329 a330 ha hB ⟨r331, -⟩
                    have ha := Fr.cons (d := 84) ha r331
                    refine opS_of ha (trivial) ?_
                    refine op1_val (ex_move rfl) ?_
                    exact ⟨_, Stp.refl _ _ _, rfl⟩
                  · rintro o332 w333 a334 ha hB ⟨r335, -⟩
                    have ha := Fr.cons (d := 85) ha r335
                    exact opS_no ha rfl rfl rfl rfl ⟨_, Stp.refl _ _ _, rfl⟩
                  · rintro o336 w337 a338 ha hB ⟨r339, -⟩
                    have ha := Fr.cons (d := 85) ha r339
                    exact opS_no ha rfl rfl rfl rfl ⟨_, Stp.refl _ _ _, rfl⟩
                  · rintro o340 w341 a342 ha hB ⟨r343, -⟩
                    have ha := Fr.cons (d := 85) ha r343
                    exact opS_no ha rfl rfl rfl rfl ⟨_, Stp.refl _ _ _, rfl⟩
                  · rintro o344 w345 a346 ha hB ⟨r347, -⟩
                    have ha := Fr.cons (d := 85) ha r347
                    exact opS_no ha rfl rfl rfl rfl ⟨_, Stp.refl _ _ _, rfl⟩
                  · rintro o348 w349 a350 ha hB ⟨r351, -⟩
                    have ha := Fr.cons (d := 85) ha r351
                    exact opS_no ha rfl rfl rfl rfl ⟨_, Stp.refl _ _ _, rfl⟩
                  · rintro o352 w353 a354 ha hB ⟨r355, -⟩
                    have ha := Fr.cons (d := 85) ha r355
                    exact opS_no ha rfl rfl rfl rfl ⟨_, Stp.refl _ _ _, rfl⟩
                  · rintro o356 w357 a358 ha hB ⟨r359, -⟩
                    have ha := Fr.cons (d := 85) ha r359
                    exact opS_no ha rfl rfl rfl rfl ⟨_, Stp.refl _ _ _, rfl⟩
                  · rintro o360 w361 a362 ha hB ⟨r363, -⟩
                    have ha := Fr.cons (d := 85) ha r363
                    exact opS_no ha rfl rfl rfl rfl ⟨_, Stp.refl _ _ _, rfl⟩
                  · rintro o364 w365 a366 ha hB ⟨r367, -⟩
                    have ha := Fr.cons (d := 85) ha r367
                    exact opS_no ha rfl rfl rfl rfl ⟨_, Stp.refl _ _ _, rfl⟩
                  · rintro o368 w369 a370 ha hB ⟨r371, -⟩
                    have ha := Fr.cons (d := 85) ha r371
                    exact opS_no ha rfl rfl rfl rfl ⟨_, Stp.refl _ _ _, rfl⟩
                  · rintro o372 w373 a374 ha hB ⟨r375, -⟩
                    have ha := Fr.cons (d := 85) ha r375
                    exact opS_no ha rfl rfl rfl rfl ⟨_, Stp.refl _ _ _, rfl⟩
                rintro o376 w377 a378 ha hB ⟨-, -, -, -, -, -, -, -, -, -, -, -, -, -, -, -, -, -, -, -, -, -, -, -, -, -, r379, -, -, -, -, -, -, -, r380, -, -, r381, -⟩
                have ha := Fr.cons (d := 85) ha r379
                have ha := Fr.cons (d := 93) ha r380
                have ha := Fr.cons (d := 96) ha r381
                refine wl_of ha ?_
                simp only [List.length_cons, List.length_nil, Nat.zero_add, Nat.reduceAdd, List.drop_succ_cons, List.drop_zero]
                refine st_no rfl rfl rfl (by decide) ?_
                refine st_no rfl rfl rfl (by decide) ?_
                refine st_val (ex_pick_t rfl rfl) (by decide) trivial ?_
                have e382 := Option.some.inj hq217
                subst e382
                refine wpF_end (r := [(1, u1), (2, (.bool p2)), (34, v1), (35, (.int .i64 (p0.Arcs.length : Int))), (36, (.int .i64 i49)), (99, (.bool true))]) ⟨rfl, rfl, rfl, rfl, rfl, rfl, trivial⟩ ?_
                refine np_norm (fun a ha => ⟨o376, ha, hB⟩)
              · rw [if_neg (by rw [t221]; decide)] at hq217
                obtain ⟨x383, hx383, hq217⟩ := bind_some hq217
                obtain ⟨x386, hx386, hq217⟩ := bind_some hq217
                rcases Bool.eq_false_or_eq_true (x383 != x386) with t389 | t389
                · rw [if_pos t389] at hq217
                  refine wpC_drawn (o := o210) [(1, u1), (2, (.bool p2)), (11, v170), (12, v168), (34, v1), (35, (.int .i64 (p0.Arcs.length : Int))), (36, (.int .i64 i49))] [1, 2, 11, 12, 34, 35, 36] [59, 60, 61, 62, 63, 64, 65, 66, 67, 68, 69, 70, 71, 72, 73, 74, 75, 76, 77, 78, 79, 80, 81, 82, 83, 84, 85, 86, 87, 88, 89, 90, 91, 92, 93, 94, 95, 96] [[], [0], [1], [2], [2, 3], [2, 4], [2], [2, 6], [2, 7], [2, 5, 8], [2, 9], [10], [11], [11], [11], [11], [11], [11], [11], [11, 18], [19], [20], [20], [20], [20], [20, 24], [25], [26], [26], [26], [26], [26], [26], [26], [26], [26], [26], [26]] [none, none, none, none, none, none, none, none, none, none, none, none, none, none, none, none, none, none, none, none, none, none, none, none, none, none, none, none, none, none, none, none, none, none, none, none, none, none] [999, 999, 999, 999, 999, 999, 999, 999, 999, 999, 999, 999, 999, 999, 999, 999, 999, 999, 999, 999, 999, 999, 999, 999, 999, 999, 999, 999, 999, 999, 999, 999, 999, 999, 999, 999, 999, 999] [0, 0, 0, 0, 0, 0, 0, 0, 0, 0, 0, 0, 0, 0, 0, 0, 0, 0, 0, 0, 0, 0, 0, 0, 0, 0, 0, 0, 0, 0, 0, 0, 0, 0, 0, 0, 0, 0] [999] [fun v _ _ => v = (.bool p2), fun v _ _ => v = (.bool (!p2)), fun v _ _ => v = (.bool (!p2)), fun v _ _ => v = v170, fun v o w9 => ∃ vl, v = adr vl ((0 : Int).toNat * Rp.sz Int) ∧ RdL zt w vl x70, fun v _ _ => v = (.int .i64 x383), fun v _ _ => v = v168, fun v o w9 => ∃ vl, v = adr vl ((0 : Int).toNat * Rp.sz Int) ∧ RdL zt w vl x79, fun v _ _ => v = (.int .i64 x386), fun v _ _ => v = (.bool (x383 != x386)), fun v _ _ => v = (.bool (x383 != x386)), fun v _ _ => v = (.bool (x383 != x386)), fun v _ _ => v = undef, fun v _ _ => v = undef, fun v _ _ => v = undef, fun v _ _ => v = undef, fun v _ _ => v = undef, fun v _ _ => v = undef, fun v _ _ => v = undef, fun v _ _ => v = (.bool true), fun v _ _ => v = (.bool true), fun v _ _ => v = undef, fun v _ _ => v = undef, fun v _ _ => v = undef, fun v _ _ => v = undef, fun v _ _ => v = (.bool true), fun v _ _ => v = (.bool true), fun v _ _ => v = undef, fun v _ _ => v = undef, fun v _ _ => v = undef, fun v _ _ => v = undef, fun v _ _ => v = undef, fun v _ _ => v = undef, fun v _ _ => v = undef, fun v _ _ => v = undef, fun v _ _ => v = undef, fun v _ _ => v = undef, fun v _ _ => v = undef] (fun o8 w8 => Bs (fun _ => 1) o8 w w8) follows_mixed (by kernel_rfl) rfl ⟨rfl, rfl, rfl, rfl, rfl, rfl, rfl, trivial⟩ hB ?_ ⟨st_eq _, st_eq _, st_eq _, st_eq _, fun _ _ _ _ _ _ h0 hb ⟨vl, e, h⟩ hs => ⟨vl, e, h⟩, st_eq _, st_eq _, fun _ _ _ _ _ _ h0 hb ⟨vl, e, h⟩ hs => ⟨vl, e, h⟩, st_eq _, st_eq _, st_eq _, st_eq _, st_eq _, st_eq _, st_eq _, st_eq _, st_eq _, st_eq _, st_eq _, st_eq _, st_eq _, st_eq _, st_eq _, st_eq _, st_eq _, st_eq _, st_eq _, st_eq _, st_eq _, st_eq _, st_eq _, st_eq _, st_eq _, st_eq _, st_eq _, st_eq _, st_eq _, st_eq _, trivial⟩ ?_ ?_
                  · rintro t9 o1 w1 o2 w2 ht9 hB hs9
                    have ht9 : t9 = 999 := by simpa using ht9
                    subst ht9
                    all_goals exact hB.stp hs9 (by decide)
                  · refine ⟨?_, ?_, ?_, ?_, ?_, ?_, ?_, ?_, ?_, ?_, ?_, ?_, ?_, ?_, ?_, ?_, ?_, ?_, ?_, ?_, ?_, ?_, ?_, ?_, ?_, ?_, ?_, ?_, ?_, ?_, ?_, ?_, ?_, ?_, ?_, ?_, ?_, ?_, trivial⟩
                    · rintro o390 w391 a392 ha hB -
                      refine opS_of ha (trivial) ?_
                      refine op1_val (ex_move rfl) ?_
                      exact ⟨_, Stp.refl _ _ _, rfl⟩
                    · rintro o393 w394 a395 ha hB ⟨r396, -⟩
                      have ha := Fr.cons (d := 59) ha r396
                      refine opS_of ha (trivial) ?_
                      refine op1_val (ex_not rfl) ?_
                      exact ⟨_, Stp.refl _ _ _, rfl⟩
                    · rintro o397 w398 a399 ha hB ⟨r400, -⟩
                      have ha := Fr.cons (d := 60) ha r400
                      refine opS_of ha (trivial) ?_
                      refine op1_val (ex_move rfl) ?_
                      exact ⟨_, Stp.refl _ _ _, rfl⟩
                    · rintro o401 w402 a403 ha hB ⟨r404, -⟩
                      have ha := Fr.cons (d := 61) ha r404
                      refine opS_of ha (⟨_, rfl, (congrArg (fun b => some (Value.bool b)) t221)⟩) ?_
                      refine op1_val (ex_move rfl) ?_
                      exact ⟨_, Stp.refl _ _ _, rfl⟩
                    · rintro o405 w406 a407 ha hB ⟨r408, r409, -⟩
                      have ha := Fr.cons (d := 61) ha r408
                      have ha := Fr.cons (d := 62) ha r409
                      refine opS_of ha (⟨_, rfl, (congrArg (fun b => some (Value.bool b)) t221)⟩) ?_
                      refine wd_indexR r167 hx383 rfl rfl Try.underlying26 Try.sizeOf3 ?_
                      exact ⟨_, Stp.refl _ _ _, ⟨_, rfl, r167⟩⟩
                    · rintro o410 w411 a412 ha hB ⟨r413, r414, -⟩
                      have ha := Fr.cons (d := 61) ha r413
                      obtain ⟨v415, e416, h417⟩ := r414
                      have ha := Fr.cons (d := 63) ha e416
                      refine opS_of ha (⟨_, rfl, (congrArg (fun b => some (Value.bool b)) t221)⟩) ?_
                      refine wd_load1Z h417 hx383 hB rfl rfl Try.isAgg3 ?_
                      intro c418 h419
                      cases h419
                      exact ⟨_, Stp.refl _ _ _, rfl⟩
                    · rintro o420 w421 a422 ha hB ⟨r423, -⟩
                      have ha := Fr.cons (d := 61) ha r423
                      refine opS_of ha (⟨_, rfl, (congrArg (fun b => some (Value.bool b)) t221)⟩) ?_
                      refine op1_val (ex_move rfl) ?_
                      exact ⟨_, Stp.refl _ _ _, rfl⟩
                    · rintro o424 w425 a426 ha hB ⟨r427, r428, -⟩
                      have ha := Fr.cons (d := 61) ha r427
                      have ha := Fr.cons (d := 65) ha r428
                      refine opS_of ha (⟨_, rfl, (congrArg (fun b => some (Value.bool b)) t221)⟩) ?_
                      refine wd_indexR r166 hx386 rfl rfl Try.underlying26 Try.sizeOf3 ?_
                      exact ⟨_, Stp.refl _ _ _, ⟨_, rfl, r166⟩⟩
                    · rintro o429 w430 a431 ha hB ⟨r432, r433, -⟩
                      have ha := Fr.cons (d := 61) ha r432
                      obtain ⟨v434, e435, h436⟩ := r433
                      have ha := Fr.cons (d := 66) ha e435
                      refine opS_of ha (⟨_, rfl, (congrArg (fun b => some (Value.bool b)) t221)⟩) ?_
                      refine wd_load1Z h436 hx386 hB rfl rfl Try.isAgg3 ?_
                      intro c437 h438
                      cases h438
                      exact ⟨_, Stp.refl _ _ _, rfl⟩
                    · rintro o439 w440 a441 ha hB ⟨r442, r443, r444, -⟩
                      have ha := Fr.cons (d := 61) ha r442
                      have ha := Fr.cons (d := 64) ha r443
                      have ha := Fr.cons (d := 67) ha r444
                      refine opS_of ha (⟨_, rfl, (congrArg (fun b => some (Value.bool b)) t221)⟩) ?_
                      refine op1_val (ex_neq rfl rfl) ?_
                      exact ⟨_, Stp.refl _ _ _, rfl⟩
                    · rintro o445 w446 a447 ha hB ⟨r448, r449, -⟩
                      have ha := Fr.cons (d := 61) ha r448
                      have ha := Fr.cons (d := 68) ha r449
                      refine opS_of ha (trivial) ?_
                      refine op1_val (ex_pick_f (congrArg (fun b => some (Value.bool b)) t221) rfl) ?_
                      exact ⟨_, Stp.refl _ _ _, rfl⟩
                    · rintro o450 w451 a452 ha hB ⟨r453, -⟩
                      have ha := Fr.cons (d := 69) ha r453
                      refine opS_of ha (trivial) ?_
                      refine op1_val (ex_move rfl) ?_
                      exact ⟨_, Stp.refl _ _ _, rfl⟩
                    · rintro o454 w455 a456 ha hB ⟨r457, -⟩
                      have ha := Fr.cons (d := 70) ha r457
                      exact opS_no ha rfl rfl rfl (by rw [t389]; rfl) ⟨_, Stp.refl _ _ _, rfl⟩
                    · rintro o458 w459 a460 ha hB ⟨r461, -⟩
                      have ha := Fr.cons (d := 70) ha r461
                      exact opS_no ha rfl rfl rfl (by rw [t389]; rfl) ⟨_, Stp.refl _ _ _, rfl⟩
                    · rintro o462 w463 a464 ha hB ⟨r465, -⟩
                      have ha := Fr.cons (d := 70) ha r465
                      exact opS_no ha rfl rfl rfl (by rw [t389]; rfl) ⟨_, Stp.refl _ _ _, rfl⟩
                    · rintro o466 w467 a468 ha hB ⟨r469, -⟩
                      have ha := Fr.cons (d := 70) ha r469
                      exact opS_no ha rfl rfl rfl (by rw [t389]; rfl) ⟨_, Stp.refl _ _ _, rfl⟩
                    · rintro o470 w471 a472 ha hB ⟨r473, -⟩
                      have ha := Fr.cons (d := 70) ha r473
                      exact opS_no ha rfl rfl rfl (by rw [t389]; rfl) ⟨_, Stp.refl _ _ _, rfl⟩
                    · rintro o474 w475 a476 ha hB ⟨r477, -⟩
                      have ha := Fr.cons (d := 70) ha r477
                      exact opS_no ha rfl rfl rfl (by rw [t389]; rfl) ⟨_, Stp.refl _ _ _, rfl⟩
                    · rintro o478 w479 a480 ha hB ⟨r481, -⟩
                      have ha := Fr.cons (d := 70) ha r481
                      exact opS_no ha rfl rfl rfl (by rw [t389]; rfl) ⟨_, Stp.refl _ _ _, rfl⟩
                    · rintro o482 w483 a484 ha hB ⟨r485, r486, -⟩
                      have ha := Fr.cons (d := 70) ha r485
                      have ha := Fr.cons (d := 77) ha r486
                      refine opS_of ha (trivial) ?_
                      refine op1_val (ex_pick_t (congrArg (fun b => some (Value.bool b)) t389) rfl) ?_
                      exact ⟨_, Stp.refl _ _ _, rfl⟩
                    · rintro o487 w488 a489 ha hB ⟨r490, -⟩
                      have ha := Fr.cons (d := 78) ha r490
                      refine opS_of ha (trivial) ?_
                      refine op1_val (ex_move rfl) ?_
                      exact ⟨_, Stp.refl _ _ _, rfl⟩
                    · rintro o491 w492 a493 ha hB ⟨r494, -⟩
                      have ha := Fr.cons (d := 79) ha r494
                      exact opS_no ha rfl rfl rfl rfl ⟨_, Stp.refl _ _ _, rfl⟩
                    · rintro o495 w496 a497 ha hB ⟨r498, -⟩
                      have ha := Fr.cons (d := 79) ha r498
                      exact opS_no ha rfl rfl rfl rfl ⟨_, Stp.refl _ _ _, rfl⟩
                    · rintro o499 w500 a501 ha hB ⟨r502, -⟩
                      have ha := Fr.cons (d := 79) ha r502
                      exact opS_no ha rfl rfl rfl rfl ⟨_, Stp.refl _ _ _, rfl⟩
                    · rintro o503 w504 a505 ha hB ⟨r506, -⟩
                      have ha := Fr.cons (d := 79) ha r506
                      exact opS_no ha rfl rfl rfl rfl ⟨_, Stp.refl _ _ _, rfl⟩
                    · rintro o507 w508 a509 ha hB ⟨r510, r511, -⟩
                      have ha := Fr.cons (d := 79) ha r510
                      have ha := Fr.cons (d := 83) ha r511
                      refine opS_of ha (trivial) ?_
                      refine op1_val (ex_pick_t rfl rfl) ?_
                      exact ⟨_, Stp.refl _ _ _, rfl⟩
                    · rintro o512 w513 a514 ha hB ⟨r515, -⟩
                      have ha := Fr.cons (d := 84) ha r515
                      refine opS_of ha (trivial) ?_
                      refine op1_val (ex_move rfl) ?_
                      exact ⟨_, Stp.refl _ _ _, rfl⟩
                    · rintro o516 w517 a518 ha hB ⟨r519, -⟩
                      have ha := Fr.cons (d := 85) ha r519
                      exact opS_no ha rfl rfl rfl rfl ⟨_, Stp.refl _ _ _, rfl⟩
                    · rintro o520 w521 a522 ha hB ⟨r523, -⟩
                      have ha := Fr.cons (d := 85) ha r523
                      exact opS_no ha rfl rfl rfl rfl ⟨_, Stp.refl _ _ _, rfl⟩
                    · rintro o524 w525 a526 ha hB ⟨r527, -⟩
                      have ha := Fr.cons (d := 85) ha r527
                      exact opS_no ha rfl rfl rfl rfl ⟨_, Stp.refl _ _ _, rfl⟩
                    · rintro o528 w529 a530 ha hB ⟨r531, -⟩
                      have ha := Fr.cons (d := 85) ha r531
                      exact opS_no ha rfl rfl rfl rfl ⟨_, Stp.refl _ _ _, rfl⟩
                    · rintro o532 w533 a534 ha hB ⟨r535, -⟩
                      have ha := Fr.cons (d := 85) ha r535
                      exact opS_no ha rfl rfl rfl rfl ⟨_, Stp.refl _ _ _, rfl⟩
                    · rintro o536 w537 a538 ha hB ⟨r539, -⟩
                      have ha := Fr.cons (d := 85) ha r539
                      exact opS_no ha rfl rfl rfl rfl ⟨_, Stp.refl _ _ _, rfl⟩
                    · rintro o540 w541 a542 ha hB ⟨r543, -⟩
                      have ha := Fr.cons (d := 85) ha r543
                      exact opS_no ha rfl rfl rfl rfl ⟨_, Stp.refl _ _ _, rfl⟩
                    · rintro o544 w545 a546 ha hB ⟨r547, -⟩
                      have ha := Fr.cons (d := 85) ha r547
                      exact opS_no ha rfl rfl rfl rfl ⟨_, Stp.refl _ _ _, rfl⟩
                    · rintro o548 w549 a550 ha hB ⟨r551, -⟩
                      have ha := Fr.cons (d := 85) ha r551
                      exact opS_no ha rfl rfl rfl rfl ⟨_, Stp.refl _ _ _, rfl⟩
                    · rintro o552 w553 a554 ha hB ⟨r555, -⟩
                      have ha := Fr.cons (d := 85) ha r555
                      exact opS_no ha rfl rfl rfl rfl ⟨_, Stp.refl _ _ _, rfl⟩
                    · rintro o556 w557 a558 ha hB ⟨r559, -⟩
                      have ha := Fr.cons (d := 85) ha r559
                      exact opS_no ha rfl rfl rfl rfl ⟨_, Stp.refl _ _ _, rfl⟩
                  rintro o560 w561 a562 ha hB ⟨-, -, -, -, -, -, -, -, -, -, -, -, -, -, -, -, -, -, -, -, -, -, -, -, -, -, r563, -, -, -, -, -, -, -, r564, -, -, r565, -⟩
                  have ha := Fr.cons (d := 85) ha r563
                  have ha := Fr.cons (d := 93) ha r564
                  have ha := Fr.cons (d := 96) ha r565
                  refine wl_of ha ?_
                  simp only [List.length_cons, List.length_nil, Nat.zero_add, Nat.reduceAdd, List.drop_succ_cons, List.drop_zero]
                  refine st_no rfl rfl rfl (by decide) ?_
                  refine st_no rfl rfl rfl (by decide) ?_
                  refine st_val (ex_pick_t rfl rfl) (by decide) trivial ?_
                  have e566 := Option.some.inj hq217
                  subst e566
                  refine wpF_end (r := [(1, u1), (2, (.bool p2)), (34, v1), (35, (.int .i64 (p0.Arcs.length : Int))), (36, (.int .i64 i49)), (99, (.bool true))]) ⟨rfl, rfl, rfl, rfl, rfl, rfl, trivial⟩ ?_
                  refine np_norm (fun a ha => ⟨o560, ha, hB⟩)
                · rw [if_neg (by rw [t389]; decide)] at hq217
                  obtain ⟨x567, hx567, hq217⟩ := bind_some hq217
                  obtain ⟨x570, hx570, hq217⟩ := bind_some hq217
                  rcases Bool.eq_false_or_eq_true (x567 != x570) with t573 | t573
                  · rw [if_pos t573] at hq217
                    refine wpC_drawn (o := o210) [(1, u1), (2, (.bool p2)), (11, v170), (12, v168), (34, v1), (35, (.int .i64 (p0.Arcs.length : Int))), (36, (.int .i64 i49))] [1, 2, 11, 12, 34, 35, 36] [59, 60, 61, 62, 63, 64, 65, 66, 67, 68, 69, 70, 71, 72, 73, 74, 75, 76, 77, 78, 79, 80, 81, 82, 83, 84, 85, 86, 87, 88, 89, 90, 91, 92, 93, 94, 95, 96] [[], [0], [1], [2], [2, 3], [2, 4], [2], [2, 6], [2, 7], [2, 5, 8], [2, 9], [10], [11], [11, 12], [11, 13], [11], [11, 15], [11, 16], [11, 14, 17], [11, 18], [19], [20], [20], [20], [20], [20, 24], [25], [26], [26], [26], [26], [26], [26], [26], [26], [26], [26], [26]] [none, none, none, none, none, none, none, none, none, none, none, none, none, none, none, none, none, none, none, none, none, none, none, none, none, none, none, none, none, none, none, none, none, none, none, none, none, none] [999, 999, 999, 999, 999, 999, 999, 999, 999, 999, 999, 999, 999, 999, 999, 999, 999, 999, 999, 999, 999, 999, 999, 999, 999, 999, 999, 999, 999, 999, 999, 999, 999, 999, 999, 999, 999, 999] [0, 0, 0, 0, 0, 0, 0, 0, 0, 0, 0, 0, 0, 0, 0, 0, 0, 0, 0, 0, 0, 0, 0, 0, 0, 0, 0, 0, 0, 0, 0, 0, 0, 0, 0, 0, 0, 0] [999] [fun v _ _ => v = (.bool p2), fun v _ _ => v = (.bool (!p2)), fun v _ _ => v = (.bool (!p2)), fun v _ _ => v = v170, fun v o w9 => ∃ vl, v = adr vl ((0 : Int).toNat * Rp.sz Int) ∧ RdL zt w vl x70, fun v _ _ => v = (.int .i64 x383), fun v _ _ => v = v168, fun v o w9 => ∃ vl, v = adr vl ((0 : Int).toNat * Rp.sz Int) ∧ RdL zt w vl x79, fun v _ _ => v = (.int .i64 x386), fun v _ _ => v = (.bool (x383 != x386)), fun v _ _ => v = (.bool (x383 != x386)), fun v _ _ => v = (.bool (x383 != x386)), fun v _ _ => v = v170, fun v o w9 => ∃ vl, v = adr vl ((1 : Int).toNat * Rp.sz Int) ∧ RdL zt w vl x70, fun v _ _ => v = (.int .i64 x567), fun v _ _ => v = v168, fun v o w9 => ∃ vl, v = adr vl ((1 : Int).toNat * Rp.sz Int) ∧ RdL zt w vl x79, fun v _ _ => v = (.int .i64 x570), fun v _ _ => v = (.bool (x567 != x570)), fun v _ _ => v = (.bool (x567 != x570)), fun v _ _ => v = (.bool (x567 != x570)), fun v _ _ => v = undef, fun v _ _ => v = undef, fun v _ _ => v = undef, fun v _ _ => v = undef, fun v _ _ => v = (.bool true), fun v _ _ => v = (.bool true), fun v _ _ => v = undef, fun v _ _ => v = undef, fun v _ _ => v = undef, fun v _ _ => v = undef, fun v _ _ => v = undef, fun v _ _ => v = undef, fun v _ _ => v = undef, fun v _ _ => v = undef, fun v _ _ => v = undef, fun v _ _ => v = undef, fun v _ _ => v = undef] (fun o8 w8 => Bs (fun _ => 1) o8 w w8) follows_mixed (by kernel_rfl) rfl ⟨rfl, rfl, rfl, rfl, rfl, rfl, rfl, trivial⟩ hB ?_ ⟨st_eq _, st_eq _, st_eq _, st_eq _, fun _ _ _ _ _ _ h0 hb ⟨vl, e, h⟩ hs => ⟨vl, e, h⟩, st_eq _, st_eq _, fun _ _ _ _ _ _ h0 hb ⟨vl, e, h⟩ hs => ⟨vl, e, h⟩, st_eq _, st_eq _, st_eq _, st_eq _, st_eq _, fun _ _ _ _ _ _ h0 hb ⟨vl, e, h⟩ hs => ⟨vl, e, h⟩, st_eq _, st_eq _, fun _ _ _ _ _ _ h0 hb ⟨vl, e, h⟩ hs => ⟨vl, e, h⟩, st_eq _, st_eq _, st_eq _, st_eq _, st_eq _, st_eq _, st_eq _, st_eq _, st_eq _, st_eq _, st_eq _, st_eq _, st_eq _, st_eq _, st_eq _, st_eq _, st_eq _, st_eq _, st_eq _, st_eq _, st_eq _, trivial⟩ ?_ ?_
                    · rintro t9 o1 w1 o2 w2 ht9 hB hs9
                      have ht9 : t9 = 999 := by simpa using ht9
                      subst ht9
                      all_goals exact hB.stp hs9 (by decide)
                    · refine ⟨?_, ?_, ?_, ?_, ?_, ?_, ?_, ?_, ?_, ?_, ?_, ?_, ?_, ?_, ?_, ?_, ?_, ?_, ?_, ?_, ?_, ?_, ?_, ?_, ?_, ?_, ?_, ?_, ?_, ?_, ?_, ?_, ?_, ?_, ?_, ?_, ?_, ?_, trivial⟩
                      · rintro o574 w575 a576 ha hB -
                        refine opS_of ha (trivial) ?_
                        refine op1_val (ex_move rfl) ?_
                        exact ⟨_, Stp.refl _ _ _, rfl⟩
                      · rintro o577 w578 a579 ha hB ⟨r580, -⟩
                        have ha := Fr.cons (d := 59) ha r580
                        refine opS_of ha (trivial) ?_
                        refine op1_val (ex_not rfl) ?_
                        exact ⟨_, Stp.refl _ _ _, rfl⟩
                      · rintro o581 w582 a583 ha hB ⟨r584, -⟩
                        have ha := Fr.cons (d := 60) ha r584
                        refine opS_of ha (trivial) ?_
                        refine op1_val (ex_move rfl) ?_
                        exact ⟨_, Stp.refl _ _ _, rfl⟩
                      · rintro o585 w586 a587 ha hB ⟨r588, -⟩
                        have ha := Fr.cons (d := 61) ha r588
                        refine opS_of ha (⟨_, rfl, (congrArg (fun b => some (Value.bool b)) t221)⟩) ?_
                        refine op1_val (ex_move rfl) ?_
                        exact ⟨_, Stp.refl _ _ _, rfl⟩
                      · rintro o589 w590 a591 ha hB ⟨r592, r593, -⟩
                        have ha := Fr.cons (d := 61) ha r592
                        have ha := Fr.cons (d := 62) ha r593
                        refine opS_of ha (⟨_, rfl, (congrArg (fun b => some (Value.bool b)) t221)⟩) ?_
                        refine wd_indexR r167 hx383 rfl rfl Try.underlying26 Try.sizeOf3 ?_
                        exact ⟨_, Stp.refl _ _ _, ⟨_, rfl, r167⟩⟩
                      · rintro o594 w595 a596 ha hB ⟨r597, r598, -⟩
                        have ha := Fr.cons (d := 61) ha r597
                        obtain ⟨v599, e600, h601⟩ := r598
                        have ha := Fr.cons (d := 63) ha e600
                        refine opS_of ha (⟨_, rfl, (congrArg (fun b => some (Value.bool b)) t221)⟩) ?_
                        refine wd_load1Z h601 hx383 hB rfl rfl Try.isAgg3 ?_
                        intro c602 h603
                        cases h603
                        exact ⟨_, Stp.refl _ _ _, rfl⟩
                      · rintro o604 w605 a606 ha hB ⟨r607, -⟩
                        have ha := Fr.cons (d := 61) ha r607
                        refine opS_of ha (⟨_, rfl, (congrArg (fun b => some (Value.bool b)) t221)⟩) ?_
                        refine op1_val (ex_move rfl) ?_
                        exact ⟨_, Stp.refl _ _ _, rfl⟩
                      · rintro o608 w609 a610 ha hB ⟨r611, r612, -⟩
                        have ha := Fr.cons (d := 61) ha r611
                        have ha := Fr.cons (d := 65) ha r612
                        refine opS_of ha (⟨_, rfl, (congrArg (fun b => some (Value.bool b)) t221)⟩) ?_
                        refine wd_indexR r166 hx386 rfl rfl Try.underlying26 Try.sizeOf3 ?_
                        exact ⟨_, Stp.refl _ _ _, ⟨_, rfl, r166⟩⟩
                      · rintro o613 w614 a615 ha hB ⟨r616, r617, -⟩
                        have ha := Fr.cons (d := 61) ha r616
                        obtain ⟨v618, e619, h620⟩ := r617
                        have ha := Fr.cons (d := 66) ha e619
                        refine opS_of ha (⟨_, rfl, (congrArg (fun b => some (Value.bool b)) t221)⟩) ?_
                        refine wd_load1Z h620 hx386 hB rfl rfl Try.isAgg3 ?_
                        intro c621 h622
                        cases h622
                        exact ⟨_, Stp.refl _ _ _, rfl⟩
                      · rintro o623 w624 a625 ha hB ⟨r626, r627, r628, -⟩
                        have ha := Fr.cons (d := 61) ha r626
                        have ha := Fr.cons (d := 64) ha r627
                        have ha := Fr.cons (d := 67) ha r628
                        refine opS_of ha (⟨_, rfl, (congrArg (fun b => some (Value.bool b)) t221)⟩) ?_
                        refine op1_val (ex_neq rfl rfl) ?_
                        exact ⟨_, Stp.refl _ _ _, rfl⟩
                      · rintro o629 w630 a631 ha hB ⟨r632, r633, -⟩
                        have ha := Fr.cons (d := 61) ha r632
                        have ha := Fr.cons (d := 68) ha r633
                        refine opS_of ha (trivial) ?_
                        refine op1_val (ex_pick_f (congrArg (fun b => some (Value.bool b)) t221) rfl) ?_
                        exact ⟨_, Stp.refl _ _ _, rfl⟩
                      · rintro o634 w635 a636 ha hB ⟨r637, -⟩
                        have ha := Fr.cons (d := 69) ha r637
                        refine opS_of ha (trivial) ?_
                        refine op1_val (ex_move rfl) ?_
                        exact ⟨_, Stp.refl _ _ _, rfl⟩
                      · rintro o638 w639 a640 ha hB ⟨r641, -⟩
                        have ha := Fr.cons (d := 70) ha r641
                        refine opS_of ha (⟨_, rfl, (congrArg (fun b => some (Value.bool b)) t389)⟩) ?_
                        refine op1_val (ex_move rfl) ?_
                        exact ⟨_, Stp.refl _ _ _, rfl⟩
                      · rintro o642 w643 a644 ha hB ⟨r645, r646, -⟩
                        have ha := Fr.cons (d := 70) ha r645
                        have ha := Fr.cons (d := 71) ha r646
                        refine opS_of ha (⟨_, rfl, (congrArg (fun b => some (Value.bool b)) t389)⟩) ?_
                        refine wd_indexR r167 hx567 rfl rfl Try.underlying26 Try.sizeOf3 ?_
                        exact ⟨_, Stp.refl _ _ _, ⟨_, rfl, r167⟩⟩
                      · rintro o647 w648 a649 ha hB ⟨r650, r651, -⟩
                        have ha := Fr.cons (d := 70) ha r650
                        obtain ⟨v652, e653, h654⟩ := r651
                        have ha := Fr.cons (d := 72) ha e653
                        refine opS_of ha (⟨_, rfl, (congrArg (fun b => some (Value.bool b)) t389)⟩) ?_
                        refine wd_load1Z h654 hx567 hB rfl rfl Try.isAgg3 ?_
                        intro c655 h656
                        cases h656
                        exact ⟨_, Stp.refl _ _ _, rfl⟩
                      · rintro o657 w658 a659 ha hB ⟨r660, -⟩
                        have ha := Fr.cons (d := 70) ha r660
                        refine opS_of ha (⟨_, rfl, (congrArg (fun b => some (Value.bool b)) t389)⟩) ?_
                        refine op1_val (ex_move rfl) ?_
                        exact ⟨_, Stp.refl _ _ _, rfl⟩
                      · rintro o661 w662 a663 ha hB ⟨r664, r665, -⟩
                        have ha := Fr.cons (d := 70) ha r664
                        have ha := Fr.cons (d := 74) ha r665
                        refine opS_of ha (⟨_, rfl, (congrArg (fun b => some (Value.bool b)) t389)⟩) ?_
                        refine wd_indexR r166 hx570 rfl rfl Try.underlying26 Try.sizeOf3 ?_
                        exact ⟨_, Stp.refl _ _ _, ⟨_, rfl, r166⟩⟩
                      · rintro o666 w667 a668 ha hB ⟨r669, r670, -⟩
                        have ha := Fr.cons (d := 70) ha r669
                        obtain ⟨v671, e672, h673⟩ := r670
                        have ha := Fr.cons (d := 75) ha e672
                        refine opS_of ha (⟨_, rfl, (congrArg (fun b => some (Value.bool b)) t389)⟩) ?_
                        refine wd_load1Z h673 hx570 hB rfl rfl Try.isAgg3 ?_
                        intro c674 h675
                        cases h675
                        exact ⟨_, Stp.refl _ _ _, rfl⟩
                      · rintro o676 w677 a678 ha hB ⟨r679, r680, r681, -⟩
                        have ha := Fr.cons (d := 70) ha r679
                        have ha := Fr.cons (d := 73) ha r680
                        have ha := Fr.cons (d := 76) ha r681
                        refine opS_of ha (⟨_, rfl, (congrArg (fun b => some (Value.bool b)) t389)⟩) ?_
                        refine op1_val (ex_neq rfl rfl) ?_
                        exact ⟨_, Stp.refl _ _ _, rfl⟩
                      · rintro o682 w683 a684 ha hB ⟨r685, r686, -⟩
                        have ha := Fr.cons (d := 70) ha r685
                        have ha := Fr.cons (d := 77) ha r686
                        refine opS_of ha (trivial) ?_
                        refine op1_val (ex_pick_f (congrArg (fun b => some (Value.bool b)) t389) rfl) ?_
                        exact ⟨_, Stp.refl _ _ _, rfl⟩
                      · rintro o687 w688 a689 ha hB ⟨r690, -⟩
                        have ha := Fr.cons (d := 78) ha r690
                        refine opS_of ha (trivial) ?_
                        refine op1_val (ex_move rfl) ?_
                        exact ⟨_, Stp.refl _ _ _, rfl⟩
                      · rintro o691 w692 a693 ha hB ⟨r694, -⟩
                        have ha := Fr.cons (d := 79) ha r694
                        exact opS_no ha rfl rfl rfl (by rw [t573]; rfl) ⟨_, Stp.refl _ _ _, rfl⟩
                      · rintro o695 w696 a697 ha hB ⟨r698, -⟩
                        have ha := Fr.cons (d := 79) ha r698
                        exact opS_no ha rfl rfl rfl (by rw [t573]; rfl) ⟨_, Stp.refl _ _ _, rfl⟩
                      · rintro o699 w700 a701 ha hB ⟨r702, -⟩
                        have ha := Fr.cons (d := 79) ha r702
                        exact opS_no ha rfl rfl rfl (by rw [t573]; rfl) ⟨_, Stp.refl _ _ _, rfl⟩
                      · rintro o703 w704 a705 ha hB ⟨r706, -⟩
                        have ha := Fr.cons (d := 79) ha r706
                        exact opS_no ha rfl rfl rfl (by rw [t573]; rfl) ⟨_, Stp.refl _ _ _, rfl⟩
                      · rintro o707 w708 a709 ha hB ⟨r710, r711, -⟩
                        have ha := Fr.cons (d := 79) ha r710
                        have ha := Fr.cons (d := 83) ha r711
                        refine opS_of ha (trivial) ?_
                        refine op1_val (ex_pick_t (congrArg (fun b => some (Value.bool b)) t573) rfl) ?_
                        exact ⟨_, Stp.refl _ _ _, rfl⟩
                      · rintro o712 w713 a714 ha hB ⟨r715, -⟩
                        have ha := Fr.cons (d := 84) ha r715
                        refine opS_of ha (trivial) ?_
                        refine op1_val (ex_move rfl) ?_
                        exact ⟨_, Stp.refl _ _ _, rfl⟩
                      · rintro o716 w717 a718 ha hB ⟨r719, -⟩
                        have ha := Fr.cons (d := 85) ha r719
                        exact opS_no ha rfl rfl rfl rfl ⟨_, Stp.refl _ _ _, rfl⟩
                      · rintro o720 w721 a722 ha hB ⟨r723, -⟩
                        have ha := Fr.cons (d := 85) ha r723
                        exact opS_no ha rfl rfl rfl rfl ⟨_, Stp.refl _ _ _, rfl⟩
                      · rintro o724 w725 a726 ha hB ⟨r727, -⟩
                        have ha := Fr.cons (d := 85) ha r727
                        exact opS_no ha rfl rfl rfl rfl ⟨_, Stp.refl _ _ _, rfl⟩
                      · rintro o728 w729 a730 ha hB ⟨r731, -⟩
                        have ha := Fr.cons (d := 85) ha r731
                        exact opS_no ha rfl rfl rfl rfl ⟨_, Stp.refl _ _ _, rfl⟩
                      · rintro o732 w733 a734 ha hB ⟨r735, -⟩
                        have ha := Fr.cons (d := 85) ha r735
                        exact opS_no ha rfl rfl rfl rfl ⟨_, Stp.refl _ _ _, rfl⟩
                      · rintro o736 w737 a738 ha hB ⟨r739, -⟩
                        have ha := Fr.cons (d := 85) ha r739
                        exact opS_no ha rfl rfl rfl rfl ⟨_, Stp.refl _ _ _, rfl⟩
                      · rintro o740 w741 a742 ha hB ⟨r743, -⟩
                        have ha := Fr.cons (d := 85) ha r743
                        exact opS_no ha rfl rfl rfl rfl ⟨_, Stp.refl _ _ _, rfl⟩
                      · rintro o744 w745 a746 ha hB ⟨r747, -⟩
                        have ha := Fr.cons (d := 85) ha r747
                        exact opS_no ha rfl rfl rfl rfl ⟨_, Stp.refl _ _ _, rfl⟩
                      · rintro o748 w749 a750 ha hB ⟨r751, -⟩
                        have ha := Fr.cons (d := 85) ha r751
                        exact opS_no ha rfl rfl rfl rfl ⟨_, Stp.refl _ _ _, rfl⟩
                      · rintro o752 w753 a754 ha hB ⟨r755, -⟩
                        have ha := Fr.cons (d := 85) ha r755
                        exact opS_no ha rfl rfl rfl rfl ⟨_, Stp.refl _ _ _, rfl⟩
                      · rintro o756 w757 a758 ha hB ⟨r759, -⟩
                        have ha := Fr.cons (d := 85) ha r759
                        exact opS_no ha rfl rfl rfl rfl ⟨_, Stp.refl _ _ _, rfl⟩
                    rintro o760 w761 a762 ha hB ⟨-, -, -, -, -, -, -, -, -, -, -, -, -, -, -, -, -, -, -, -, -, -, -, -, -, -, r763, -, -, -, -, -, -, -, r764, -, -, r765, -⟩
                    have ha := Fr.cons (d := 85) ha r763
                    have ha := Fr.cons (d := 93) ha r764
                    have ha := Fr.cons (d := 96) ha r765
                    refine wl_of ha ?_
                    simp only [List.length_cons, List.length_nil, Nat.zero_add, Nat.reduceAdd, List.drop_succ_cons, List.drop_zero]
                    refine st_no rfl rfl rfl (by decide) ?_
                    refine st_no rfl rfl rfl (by decide) ?_
                    refine st_val (ex_pick_t rfl rfl) (by decide) trivial ?_
                    have e766 := Option.some.inj hq217
                    subst e766
                    refine wpF_end (r := [(1, u1), (2, (.bool p2)), (34, v1), (35, (.int .i64 (p0.Arcs.length : Int))), (36, (.int .i64 i49)), (99, (.bool true))]) ⟨rfl, rfl, rfl, rfl, rfl, rfl, trivial⟩ ?_
                    refine np_norm (fun a ha => ⟨o760, ha, hB⟩)
                  · rw [if_neg (by rw [t573]; decide)] at hq217
                    obtain ⟨x767, hx767, hq217⟩ := bind_some hq217
                    rcases Bool.eq_false_or_eq_true (decide (x767 < 2)) with t770 | t770
                    · rw [if_pos t770] at hq217
                      refine wpC_drawn (o := o210) [(1, u1), (2, (.bool p2)), (11, v170), (12, v168), (34, v1), (35, (.int .i64 (p0.Arcs.length : Int))), (36, (.int .i64 i49))] [1, 2, 11, 12, 34, 35, 36] [59, 60, 61, 62, 63, 64, 65, 66, 67, 68, 69, 70, 71, 72, 73, 74, 75, 76, 77, 78, 79, 80, 81, 82, 83, 84, 85, 86, 87, 88, 89, 90, 91, 92, 93, 94, 95, 96] [[], [0], [1], [2], [2, 3], [2, 4], [2], [2, 6], [2, 7], [2, 5, 8], [2, 9], [10], [11], [11, 12], [11, 13], [11], [11, 15], [11, 16], [11, 14, 17], [11, 18], [19], [20], [20, 21], [20, 22], [20, 23], [20, 24], [25], [26], [26], [26], [26], [26], [26], [26], [26], [26], [26], [26]] [none, none, none, none, none, none, none, none, none, none, none, none, none, none, none, none, none, none, none, none, none, none, none, none, none, none, none, none, none, none, none, none, none, none, none, none, none, none] [999, 999, 999, 999, 999, 999, 999, 999, 999, 999, 999, 999, 999, 999, 999, 999, 999, 999, 999, 999, 999, 999, 999, 999, 999, 999, 999, 999, 999, 999, 999, 999, 999, 999, 999, 999, 999, 999] [0, 0, 0, 0, 0, 0, 0, 0, 0, 0, 0, 0, 0, 0, 0, 0, 0, 0, 0, 0, 0, 0, 0, 0, 0, 0, 0, 0, 0, 0, 0, 0, 0, 0, 0, 0, 0, 0] [999] [fun v _ _ => v = (.bool p2), fun v _ _ => v = (.bool (!p2)), fun v _ _ => v = (.bool (!p2)), fun v _ _ => v = v170, fun v o w9 => ∃ vl, v = adr vl ((0 : Int).toNat * Rp.sz Int) ∧ RdL zt w vl x70, fun v _ _ => v = (.int .i64 x383), fun v _ _ => v = v168, fun v o w9 => ∃ vl, v = adr vl ((0 : Int).toNat * Rp.sz Int) ∧ RdL zt w vl x79, fun v _ _ => v = (.int .i64 x386), fun v _ _ => v = (.bool (x383 != x386)), fun v _ _ => v = (.bool (x383 != x386)), fun v _ _ => v = (.bool (x383 != x386)), fun v _ _ => v = v170, fun v o w9 => ∃ vl, v = adr vl ((1 : Int).toNat * Rp.sz Int) ∧ RdL zt w vl x70, fun v _ _ => v = (.int .i64 x567), fun v _ _ => v = v168, fun v o w9 => ∃ vl, v = adr vl ((1 : Int).toNat * Rp.sz Int) ∧ RdL zt w vl x79, fun v _ _ => v = (.int .i64 x570), fun v _ _ => v = (.bool (x567 != x570)), fun v _ _ => v = (.bool (x567 != x570)), fun v _ _ => v = (.bool (x567 != x570)), fun v _ _ => v = v170, fun v o w9 => ∃ vl, v = adr vl ((1 : Int).toNat * Rp.sz Int) ∧ RdL zt w vl x70, fun v _ _ => v = (.int .i64 x767), fun v _ _ => v = (.bool (decide (x767 < 2))), fun v _ _ => v = (.bool (decide (x767 < 2))), fun v _ _ => v = (.bool (decide (x767 < 2))), fun v _ _ => v = undef, fun v _ _ => v = undef, fun v _ _ => v = undef, fun v _ _ => v = undef, fun v _ _ => v = undef, fun v _ _ => v = undef, fun v _ _ => v = undef, fun v _ _ => v = undef, fun v _ _ => v = undef, fun v _ _ => v = undef, fun v _ _ => v = undef] (fun o8 w8 => Bs (fun _ => 1) o8 w w8) follows_mixed (by kernel_rfl) rfl ⟨rfl, rfl, rfl, rfl, rfl, rfl, rfl, trivial⟩ hB ?_ ⟨st_eq _, st_eq _, st_eq _, st_eq _, fun _ _ _ _ _ _ h0 hb ⟨vl, e, h⟩ hs => ⟨vl, e, h⟩, st_eq _, st_eq _, fun _ _ _ _ _ _ h0 hb ⟨vl, e, h⟩ hs => ⟨vl, e, h⟩, st_eq _, st_eq _, st_eq _, st_eq _, st_eq _, fun _ _ _ _ _ _ h0 hb ⟨vl, e, h⟩ hs => ⟨vl, e, h⟩, st_eq _, st_eq _, fun _ _ _ _ _ _ h0 hb ⟨vl, e, h⟩ hs => ⟨vl, e, h⟩, st_eq _, st_eq _, st_eq _, st_eq _, st_eq _, fun _ _ _ _ _ _ h0 hb ⟨vl, e, h⟩ hs => ⟨vl, e, h⟩, st_eq _, st_eq _, st_eq _, st_eq _, st_eq _, st_eq _, st_eq _, st_eq _, st_eq _, st_eq _, st_eq _, st_eq _, st_eq _, st_eq _, st_eq _, trivial⟩ ?_ ?_
                      · rintro t9 o1 w1 o2 w2 ht9 hB hs9
                        have ht9 : t9 = 999 := by simpa using ht9
                        subst ht9
                        all_goals exact hB.stp hs9 (by decide)
                      · refine ⟨?_, ?_, ?_, ?_, ?_, ?_, ?_, ?_, ?_, ?_, ?_, ?_, ?_, ?_, ?_, ?_, ?_, ?_, ?_, ?_, ?_, ?_, ?_, ?_, ?_, ?_, ?_, ?_, ?_, ?_, ?_, ?_, ?_, ?_, ?_, ?_, ?_, ?_, trivial⟩
                        · rintro o771 w772 a773 ha hB -
                          refine opS_of ha (trivial) ?_
                          refine op1_val (ex_move rfl) ?_
                          exact ⟨_, Stp.refl _ _ _, rfl⟩
                        · rintro o774 w775 a776 ha hB ⟨r777, -⟩
                          have ha := Fr.cons (d := 59) ha r777
                          refine opS_of ha (trivial) ?_
                          refine op1_val (ex_not rfl) ?_
                          exact ⟨_, Stp.refl _ _ _, rfl⟩
                        · rintro o778 w779 a780 ha hB ⟨r781, -⟩
                          have ha := Fr.cons (d := 60) ha r781
                          refine opS_of ha (trivial) ?_
                          refine op1_val (ex_move rfl) ?_
                          exact ⟨_, Stp.refl _ _ _, rfl⟩
                        · rintro o782 w783 a784 ha hB ⟨r785, -⟩
                          have ha := Fr.cons (d := 61) ha r785
                          refine opS_of ha (⟨_, rfl, (congrArg (fun b => some (Value.bool b)) t221)⟩) ?_
                          refine op1_val (ex_move rfl) ?_
                          exact ⟨_, Stp.refl _ _ _, rfl⟩
                        · rintro o786 w787 a788 ha hB ⟨r789, r790, -⟩
                          have ha := Fr.cons (d := 61) ha r789
                          have ha := Fr.cons (d := 62) ha r790
                          refine opS_of ha (⟨_, rfl, (congrArg (fun b => some (Value.bool b)) t221)⟩) ?_
                          refine wd_indexR r167 hx383 rfl rfl Try.underlying26 Try.sizeOf3 ?_
                          exact ⟨_, Stp.refl _ _ _, ⟨_, rfl, r167⟩⟩
                        · rintro o791 w792 a793 ha hB ⟨r794, r795, -⟩
                          have ha := Fr.cons (d := 61) ha r794
                          obtain ⟨v796, e797, h798⟩ := r795
                          have ha := Fr.cons (d := 63) ha e797
                          refine opS_of ha (⟨_, rfl, (congrArg (fun b => some (Value.bool b)) t221)⟩) ?_
                          refine wd_load1Z h798 hx383 hB rfl rfl Try.isAgg3 ?_
                          intro c799 h800
                          cases h800
                          exact ⟨_, Stp.refl _ _ _, rfl⟩
                        · rintro o801 w802 a803 ha hB ⟨r804, -⟩
                          have ha := Fr.cons (d := 61) ha r804
                          refine opS_of ha (⟨_, rfl, (congrArg (fun b => some (Value.bool b)) t221)⟩) ?_
                          refine op1_val (ex_move rfl) ?_
                          exact ⟨_, Stp.refl _ _ _, rfl⟩
                        · rintro o805 w806 a807 ha hB ⟨r808, r809, -⟩
                          have ha := Fr.cons (d := 61) ha r808
                          have ha := Fr.cons (d := 65) ha r809
                          refine opS_of ha (⟨_, rfl, (congrArg (fun b => some (Value.bool b)) t221)⟩) ?_
                          refine wd_indexR r166 hx386 rfl rfl Try.underlying26 Try.sizeOf3 ?_
                          exact ⟨_, Stp.refl _ _ _, ⟨_, rfl, r166⟩⟩
                        · rintro o810 w811 a812 ha hB ⟨r813, r814, -⟩
                          have ha := Fr.cons (d := 61) ha r813
                          obtain ⟨v815, e816, h817⟩ := r814
                          have ha := Fr.cons (d := 66) ha e816
                          refine opS_of ha (⟨_, rfl, (congrArg (fun b => some (Value.bool b)) t221)⟩) ?_
                          refine wd_load1Z h817 hx386 hB rfl rfl Try.isAgg3 ?_
                          intro c818 h819
                          cases h819
                          exact ⟨_, Stp.refl _ _ _, rfl⟩
                        · rintro o820 w821 a822 ha hB ⟨r823, r824, r825, -⟩
                          have ha := Fr.cons (d := 61) ha r823
                          have ha := Fr.cons (d := 64) ha r824
                          have ha := Fr.cons (d := 67) ha r825
                          refine opS_of ha (⟨_, rfl, (congrArg (fun b => some (Value.bool b)) t221)⟩) ?_
                          refine op1_val (ex_neq rfl rfl) ?_
                          exact ⟨_, Stp.refl _ _ _, rfl⟩
                        · rintro o826 w827 a828 ha hB ⟨r829, r830, -⟩
                          have ha := Fr.cons (d := 61) ha r829
                          have ha := Fr.cons (d := 68) ha r830
                          refine opS_of ha (trivial) ?_
                          refine op1_val (ex_pick_f (congrArg (fun b => some (Value.bool b)) t221) rfl) ?_
                          exact ⟨_, Stp.refl _ _ _, rfl⟩
                        · rintro o831 w832 a833 ha hB ⟨r834, -⟩
                          have ha := Fr.cons (d := 69) ha r834
                          refine opS_of ha (trivial) ?_
                          refine op1_val (ex_move rfl) ?_
                          exact ⟨_, Stp.refl _ _ _, rfl⟩
                        · rintro o835 w836 a837 ha hB ⟨r838, -⟩
                          have ha := Fr.cons (d := 70) ha r838
                          refine opS_of ha (⟨_, rfl, (congrArg (fun b => some (Value.bool b)) t389)⟩) ?_
                          refine op1_val (ex_move rfl) ?_
                          exact ⟨_, Stp.refl _ _ _, rfl⟩
                        · rintro o839 w840 a841 ha hB ⟨r842, r843, -⟩
                          have ha := Fr.cons (d := 70) ha r842
                          have ha := Fr.cons (d := 71) ha r843
                          refine opS_of ha (⟨_, rfl, (congrArg (fun b => some (Value.bool b)) t389)⟩) ?_
                          refine wd_indexR r167 hx567 rfl rfl Try.underlying26 Try.sizeOf3 ?_
                          exact ⟨_, Stp.refl _ _ _, ⟨_, rfl, r167⟩⟩
                        · rintro o844 w845 a846 ha hB ⟨r847, r848, -⟩
                          have ha := Fr.cons (d := 70) ha r847
                          obtain ⟨v849, e850, h851⟩ := r848
                          have ha := Fr.cons (d := 72) ha e850
                          refine opS_of ha (⟨_, rfl, (congrArg (fun b => some (Value.bool b)) t389)⟩) ?_
                          refine wd_load1Z h851 hx567 hB rfl rfl Try.isAgg3 ?_
                          intro c852 h853
                          cases h853
                          exact ⟨_, Stp.refl _ _ _, rfl⟩
                        · rintro o854 w855 a856 ha hB ⟨r857, -⟩
                          have ha := Fr.cons (d := 70) ha r857
                          refine opS_of ha (⟨_, rfl, (congrArg (fun b => some (Value.bool b)) t389)⟩) ?_
                          refine op1_val (ex_move rfl) ?_
                          exact ⟨_, Stp.refl _ _ _, rfl⟩
                        · rintro o858 w859 a860 ha hB ⟨r861, r862, -⟩
                          have ha := Fr.cons (d := 70) ha r861
                          have ha := Fr.cons (d := 74) ha r862
                          refine opS_of ha (⟨_, rfl, (congrArg (fun b => some (Value.bool b)) t389)⟩) ?_
                          refine wd_indexR r166 hx570 rfl rfl Try.underlying26 Try.sizeOf3 ?_
                          exact ⟨_, Stp.refl _ _ _, ⟨_, rfl, r166⟩⟩
                        · rintro o863 w864 a865 ha hB ⟨r866, r867, -⟩
                          have ha := Fr.cons (d := 70) ha r866
                          obtain ⟨v868, e869, h870⟩ := r867
                          have ha := Fr.cons (d := 75) ha e869
                          refine opS_of ha (⟨_, rfl, (congrArg (fun b => some (Value.bool b)) t389)⟩) ?_
                          refine wd_load1Z h870 hx570 hB rfl rfl Try.isAgg3 ?_
                          intro c871 h872
                          cases h872
                          exact ⟨_, Stp.refl _ _ _, rfl⟩
                        · rintro o873 w874 a875 ha hB ⟨r876, r877, r878, -⟩
                          have ha := Fr.cons (d := 70) ha r876
                          have ha := Fr.cons (d := 73) ha r877
                          have ha := Fr.cons (d := 76) ha r878
                          refine opS_of ha (⟨_, rfl, (congrArg (fun b => some (Value.bool b)) t389)⟩) ?_
                          refine op1_val (ex_neq rfl rfl) ?_
                          exact ⟨_, Stp.refl _ _ _, rfl⟩
                        · rintro o879 w880 a881 ha hB ⟨r882, r883, -⟩
                          have ha := Fr.cons (d := 70) ha r882
                          have ha := Fr.cons (d := 77) ha r883
                          refine opS_of ha (trivial) ?_
                          refine op1_val (ex_pick_f (congrArg (fun b => some (Value.bool b)) t389) rfl) ?_
                          exact ⟨_, Stp.refl _ _ _, rfl⟩
                        · rintro o884 w885 a886 ha hB ⟨r887, -⟩
                          have ha := Fr.cons (d := 78) ha r887
                          refine opS_of ha (trivial) ?_
                          refine op1_val (ex_move rfl) ?_
                          exact ⟨_, Stp.refl _ _ _, rfl⟩
                        · rintro o888 w889 a890 ha hB ⟨r891, -⟩
                          have ha := Fr.cons (d := 79) ha r891
                          refine opS_of ha (⟨_, rfl, (congrArg (fun b => some (Value.bool b)) t573)⟩) ?_
                          refine op1_val (ex_move rfl) ?_
                          exact ⟨_, Stp.refl _ _ _, rfl⟩
                        · rintro o892 w893 a894 ha hB ⟨r895, r896, -⟩
                          have ha := Fr.cons (d := 79) ha r895
                          have ha := Fr.cons (d := 80) ha r896
                          refine opS_of ha (⟨_, rfl, (congrArg (fun b => some (Value.bool b)) t573)⟩) ?_
                          refine wd_indexR r167 hx767 rfl rfl Try.underlying26 Try.sizeOf3 ?_
                          exact ⟨_, Stp.refl _ _ _, ⟨_, rfl, r167⟩⟩
                        · rintro o897 w898 a899 ha hB ⟨r900, r901, -⟩
                          have ha := Fr.cons (d := 79) ha r900
                          obtain ⟨v902, e903, h904⟩ := r901
                          have ha := Fr.cons (d := 81) ha e903
                          refine opS_of ha (⟨_, rfl, (congrArg (fun b => some (Value.bool b)) t573)⟩) ?_
                          refine wd_load1Z h904 hx767 hB rfl rfl Try.isAgg3 ?_
                          intro c905 h906
                          cases h906
                          exact ⟨_, Stp.refl _ _ _, rfl⟩
                        · rintro o907 w908 a909 ha hB ⟨r910, r911, -⟩
                          have ha := Fr.cons (d := 79) ha r910
                          have ha := Fr.cons (d := 82) ha r911
                          refine opS_of ha (⟨_, rfl, (congrArg (fun b => some (Value.bool b)) t573)⟩) ?_
                          refine op1_val (ex_lss rfl rfl) ?_
                          exact ⟨_, Stp.refl _ _ _, rfl⟩
                        · rintro o912 w913 a914 ha hB ⟨r915, r916, -⟩
                          have ha := Fr.cons (d := 79) ha r915
                          have ha := Fr.cons (d := 83) ha r916
                          refine opS_of ha (trivial) ?_
                          refine op1_val (ex_pick_f (congrArg (fun b => some (Value.bool b)) t573) rfl) ?_
                          exact ⟨_, Stp.refl _ _ _, rfl⟩
                        · rintro o917 w918 a919 ha hB ⟨r920, -⟩
                          have ha := Fr.cons (d := 84) ha r920
                          refine opS_of ha (trivial) ?_
                          refine op1_val (ex_move rfl) ?_
                          exact ⟨_, Stp.refl _ _ _, rfl⟩
                        · rintro o921 w922 a923 ha hB ⟨r924, -⟩
                          have ha := Fr.cons (d := 85) ha r924
                          exact opS_no ha rfl rfl rfl (by rw [t770]; rfl) ⟨_, Stp.refl _ _ _, rfl⟩
                        · rintro o925 w926 a927 ha hB ⟨r928, -⟩
                          have ha := Fr.cons (d := 85) ha r928
                          exact opS_no ha rfl rfl rfl (by rw [t770]; rfl) ⟨_, Stp.refl _ _ _, rfl⟩
                        · rintro o929 w930 a931 ha hB ⟨r932, -⟩
                          have ha := Fr.cons (d := 85) ha r932
                          exact opS_no ha rfl rfl rfl (by rw [t770]; rfl) ⟨_, Stp.refl _ _ _, rfl⟩
                        · rintro o933 w934 a935 ha hB ⟨r936, -⟩
                          have ha := Fr.cons (d := 85) ha r936
                          exact opS_no ha rfl rfl rfl (by rw [t770]; rfl) ⟨_, Stp.refl _ _ _, rfl⟩
                        · rintro o937 w938 a939 ha hB ⟨r940, -⟩
                          have ha := Fr.cons (d := 85) ha r940
                          exact opS_no ha rfl rfl rfl (by rw [t770]; rfl) ⟨_, Stp.refl _ _ _, rfl⟩
                        · rintro o941 w942 a943 ha hB ⟨r944, -⟩
                          have ha := Fr.cons (d := 85) ha r944
                          exact opS_no ha rfl rfl rfl (by rw [t770]; rfl) ⟨_, Stp.refl _ _ _, rfl⟩
                        · rintro o945 w946 a947 ha hB ⟨r948, -⟩
                          have ha := Fr.cons (d := 85) ha r948
                          exact opS_no ha rfl rfl rfl (by rw [t770]; rfl) ⟨_, Stp.refl _ _ _, rfl⟩
                        · rintro o949 w950 a951 ha hB ⟨r952, -⟩
                          have ha := Fr.cons (d := 85) ha r952
                          exact opS_no ha rfl rfl rfl (by rw [t770]; rfl) ⟨_, Stp.refl _ _ _, rfl⟩
                        · rintro o953 w954 a955 ha hB ⟨r956, -⟩
                          have ha := Fr.cons (d := 85) ha r956
                          exact opS_no ha rfl rfl rfl (by rw [t770]; rfl) ⟨_, Stp.refl _ _ _, rfl⟩
                        · rintro o957 w958 a959 ha hB ⟨r960, -⟩
                          have ha := Fr.cons (d := 85) ha r960
                          exact opS_no ha rfl rfl rfl (by rw [t770]; rfl) ⟨_, Stp.refl _ _ _, rfl⟩
                        · rintro o961 w962 a963 ha hB ⟨r964, -⟩
                          have ha := Fr.cons (d := 85) ha r964
                          exact opS_no ha rfl rfl rfl (by rw [t770]; rfl) ⟨_, Stp.refl _ _ _, rfl⟩
                      rintro o965 w966 a967 ha hB ⟨-, -, -, -, -, -, -, -, -, -, -, -, -, -, -, -, -, -, -, -, -, -, -, -, -, -, r968, -, -, -, -, -, -, -, r969, -, -, r970, -⟩
                      have ha := Fr.cons (d := 85) ha r968
                      have ha := Fr.cons (d := 93) ha r969
                      have ha := Fr.cons (d := 96) ha r970
                      refine wl_of ha ?_
                      simp only [List.length_cons, List.length_nil, Nat.zero_add, Nat.reduceAdd, List.drop_succ_cons, List.drop_zero]
                      refine st_no rfl rfl (by rw [t770]; rfl) (by decide) ?_
                      refine st_no rfl rfl (by rw [t770]; rfl) (by decide) ?_
                      refine st_val (ex_pick_t (congrArg (fun b => some (Value.bool b)) t770) rfl) (by decide) trivial ?_
                      have e971 := Option.some.inj hq217
                      subst e971
                      refine wpF_end (r := [(1, u1), (2, (.bool p2)), (34, v1), (35, (.int .i64 (p0.Arcs.length : Int))), (36, (.int .i64 i49)), (99, (.bool true))]) ⟨rfl, rfl, rfl, rfl, rfl, rfl, trivial⟩ ?_
                      refine np_norm (fun a ha => ⟨o965, ha, hB⟩)
                    · rw [if_neg (by rw [t770]; decide)] at hq217
                      obtain ⟨x972, hx972, hq217⟩ := bind_some hq217
                      obtain ⟨x975, hx975, hq217⟩ := bind_some hq217
                      obtain ⟨x978, hx978, hq217⟩ := bind_some hq217
                      obtain ⟨x979, hx979, hq217⟩ := bind_some hq217
                      obtain ⟨x980, hx980, hq217⟩ := bind_some hq217
                      refine wpC_drawn (o := o210) [(1, u1), (2, (.bool p2)), (11, v170), (12, v168), (34, v1), (35, (.int .i64 (p0.Arcs.length : Int))), (36, (.int .i64 i49))] [1, 2, 11, 12, 34, 35, 36] [59, 60, 61, 62, 63, 64, 65, 66, 67, 68, 69, 70, 71, 72, 73, 74, 75, 76, 77, 78, 79, 80, 81, 82, 83, 84, 85, 86, 87, 88, 89, 90, 91, 92, 93, 94, 95, 96] [[], [0], [1], [2], [2, 3], [2, 4], [2], [2, 6], [2, 7], [2, 5, 8], [2, 9], [10], [11], [11, 12], [11, 13], [11], [11, 15], [11, 16], [11, 14, 17], [11, 18], [19], [20], [20, 21], [20, 22], [20, 23], [20, 24], [25], [26], [26, 27], [26, 28], [26], [26, 30], [26, 31], [26, 29, 32], [26, 33], [26], [26, 35], [26, 36]] [none, none, none, none, none, none, none, none, none, none, none, none, none, none, none, none, none, none, none, none, none, none, none, none, none, none, none, none, none, none, none, none, none, none, none, none, none, none] [999, 999, 999, 999, 999, 999, 999, 999, 999, 999, 999, 999, 999, 999, 999, 999, 999, 999, 999, 999, 999, 999, 999, 999, 999, 999, 999, 999, 999, 999, 999, 999, 999, 999, 999, 999, 999, 999] [0, 0, 0, 0, 0, 0, 0, 0, 0, 0, 0, 0, 0, 0, 0, 0, 0, 0, 0, 0, 0, 0, 0, 0, 0, 0, 0, 0, 0, 0, 0, 0, 0, 0, 0, 0, 0, 0] [999] [fun v _ _ => v = (.bool p2), fun v _ _ => v = (.bool (!p2)), fun v _ _ => v = (.bool (!p2)), fun v _ _ => v = v170, fun v o w9 => ∃ vl, v = adr vl ((0 : Int).toNat * Rp.sz Int) ∧ RdL zt w vl x70, fun v _ _ => v = (.int .i64 x383), fun v _ _ => v = v168, fun v o w9 => ∃ vl, v = adr vl ((0 : Int).toNat * Rp.sz Int) ∧ RdL zt w vl x79, fun v _ _ => v = (.int .i64 x386), fun v _ _ => v = (.bool (x383 != x386)), fun v _ _ => v = (.bool (x383 != x386)), fun v _ _ => v = (.bool (x383 != x386)), fun v _ _ => v = v170, fun v o w9 => ∃ vl, v = adr vl ((1 : Int).toNat * Rp.sz Int) ∧ RdL zt w vl x70, fun v _ _ => v = (.int .i64 x567), fun v _ _ => v = v168, fun v o w9 => ∃ vl, v = adr vl ((1 : Int).toNat * Rp.sz Int) ∧ RdL zt w vl x79, fun v _ _ => v = (.int .i64 x570), fun v _ _ => v = (.bool (x567 != x570)), fun v _ _ => v = (.bool (x567 != x570)), fun v _ _ => v = (.bool (x567 != x570)), fun v _ _ => v = v170, fun v o w9 => ∃ vl, v = adr vl ((1 : Int).toNat * Rp.sz Int) ∧ RdL zt w vl x70, fun v _ _ => v = (.int .i64 x767), fun v _ _ => v = (.bool (decide (x767 < 2))), fun v _ _ => v = (.bool (decide (x767 < 2))), fun v _ _ => v = (.bool (decide (x767 < 2))), fun v _ _ => v = v168, fun v o w9 => ∃ vl, v = adr vl ((2 : Int).toNat * Rp.sz Int) ∧ RdL zt w vl x79, fun v _ _ => v = (.int .i64 x972), fun v _ _ => v = v170, fun v o w9 => ∃ vl, v = adr vl ((2 : Int).toNat * Rp.sz Int) ∧ RdL zt w vl x70, fun v _ _ => v = (.int .i64 x975), fun v _ _ => v = (.int .i64 x978), fun v _ _ => v = (.int .i64 x979), fun v _ _ => v = v170, fun v o w9 => ∃ vl, v = adr vl ((1 : Int).toNat * Rp.sz Int) ∧ RdL zt w vl x70, fun v _ _ => v = (.int .i64 x980)] (fun o8 w8 => Bs (fun _ => 1) o8 w w8) follows_mixed (by kernel_rfl) rfl ⟨rfl, rfl, rfl, rfl, rfl, rfl, rfl, trivial⟩ hB ?_ ⟨st_eq _, st_eq _, st_eq _, st_eq _, fun _ _ _ _ _ _ h0 hb ⟨vl, e, h⟩ hs => ⟨vl, e, h⟩, st_eq _, st_eq _, fun _ _ _ _ _ _ h0 hb ⟨vl, e, h⟩ hs => ⟨vl, e, h⟩, st_eq _, st_eq _, st_eq _, st_eq _, st_eq _, fun _ _ _ _ _ _ h0 hb ⟨vl, e, h⟩ hs => ⟨vl, e, h⟩, st_eq _, st_eq _, fun _ _ _ _ _ _ h0 hb ⟨vl, e, h⟩ hs => ⟨vl, e, h⟩, st_eq _, st_eq _, st_eq _, st_eq _, st_eq _, fun _ _ _ _ _ _ h0 hb ⟨vl, e, h⟩ hs => ⟨vl, e, h⟩, st_eq _, st_eq _, st_eq _, st_eq _, st_eq _, fun _ _ _ _ _ _ h0 hb ⟨vl, e, h⟩ hs => ⟨vl, e, h⟩, st_eq _, st_eq _, fun _ _ _ _ _ _ h0 hb ⟨vl, e, h⟩ hs => ⟨vl, e, h⟩, st_eq _, st_eq _, st_eq _, st_eq _, fun _ _ _ _ _ _ h0 hb ⟨vl, e, h⟩ hs => ⟨vl, e, h⟩, st_eq _, trivial⟩ ?_ ?_
                      · rintro t9 o1 w1 o2 w2 ht9 hB hs9
                        have ht9 : t9 = 999 := by simpa using ht9
                        subst ht9
                        all_goals exact hB.stp hs9 (by decide)
                      · refine ⟨?_, ?_, ?_, ?_, ?_, ?_, ?_, ?_, ?_, ?_, ?_, ?_, ?_, ?_, ?_, ?_, ?_, ?_, ?_, ?_, ?_, ?_, ?_, ?_, ?_, ?_, ?_, ?_, ?_, ?_, ?_, ?_, ?_, ?_, ?_, ?_, ?_, ?_, trivial⟩
                        · rintro o983 w984 a985 ha hB -
                          refine opS_of ha (trivial) ?_
                          refine op1_val (ex_move rfl) ?_
                          exact ⟨_, Stp.refl _ _ _, rfl⟩
                        · rintro o986 w987 a988 ha hB ⟨r989, -⟩
                          have ha := Fr.cons (d := 59) ha r989
                          refine opS_of ha (trivial) ?_
                          refine op1_val (ex_not rfl) ?_
                          exact ⟨_, Stp.refl _ _ _, rfl⟩
                        · rintro o990 w991 a992 ha hB ⟨r993, -⟩
                          have ha := Fr.cons (d := 60) ha r993
                          refine opS_of ha (trivial) ?_
                          refine op1_val (ex_move rfl) ?_
                          exact ⟨_, Stp.refl _ _ _, rfl⟩
                        · rintro o994 w995 a996 ha hB ⟨r997, -⟩
                          have ha := Fr.cons (d := 61) ha r997
                          refine opS_of ha (⟨_, rfl, (congrArg (fun b => some (Value.bool b)) t221)⟩) ?_
                          refine op1_val (ex_move rfl) ?_
                          exact ⟨_, Stp.refl _ _ _, rfl⟩
                        · rintro o998 w999 a1000 ha hB ⟨r1001, r1002, -⟩
                          have ha := Fr.cons (d := 61) ha r1001
                          have ha := Fr.cons (d := 62) ha r1002
                          refine opS_of ha (⟨_, rfl, (congrArg (fun b => some (Value.bool b)) t221)⟩) ?_
                          refine wd_indexR r167 hx383 rfl rfl Try.underlying26 Try.sizeOf3 ?_
                          exact ⟨_, Stp.refl _ _ _, ⟨_, rfl, r167⟩⟩
                        · rintro o1003 w1004 a1005 ha hB ⟨r1006, r1007, -⟩
                          have ha := Fr.cons (d := 61) ha r1006
                          obtain ⟨v1008, e1009, h1010⟩ := r1007
                          have ha := Fr.cons (d := 63) ha e1009
                          refine opS_of ha (⟨_, rfl, (congrArg (fun b => some (Value.bool b)) t221)⟩) ?_
                          refine wd_load1Z h1010 hx383 hB rfl rfl Try.isAgg3 ?_
                          intro c1011 h1012
                          cases h1012
                          exact ⟨_, Stp.refl _ _ _, rfl⟩
                        · rintro o1013 w1014 a1015 ha hB ⟨r1016, -⟩
                          have ha := Fr.cons (d := 61) ha r1016
                          refine opS_of ha (⟨_, rfl, (congrArg (fun b => some (Value.bool b)) t221)⟩) ?_
                          refine op1_val (ex_move rfl) ?_
                          exact ⟨_, Stp.refl _ _ _, rfl⟩
                        · rintro o1017 w1018 a1019 ha hB ⟨r1020, r1021, -⟩
                          have ha := Fr.cons (d := 61) ha r1020
                          have ha := Fr.cons (d := 65) ha r1021
                          refine opS_of ha (⟨_, rfl, (congrArg (fun b => some (Value.bool b)) t221)⟩) ?_
                          refine wd_indexR r166 hx386 rfl rfl Try.underlying26 Try.sizeOf3 ?_
                          exact ⟨_, Stp.refl _ _ _, ⟨_, rfl, r166⟩⟩
                        · rintro o1022 w1023 a1024 ha hB ⟨r1025, r1026, -⟩
                          have ha := Fr.cons (d := 61) ha r1025
                          obtain ⟨v1027, e1028, h1029⟩ := r1026
                          have ha := Fr.cons (d := 66) ha e1028
                          refine opS_of ha (⟨_, rfl, (congrArg (fun b => some (Value.bool b)) t221)⟩) ?_
                          refine wd_load1Z h1029 hx386 hB rfl rfl Try.isAgg3 ?_
                          intro c1030 h1031
                          cases h1031
                          exact ⟨_, Stp.refl _ _ _, rfl⟩
                        · rintro o1032 w1033 a1034 ha hB ⟨r1035, r1036, r1037, -⟩
                          have ha := Fr.cons (d := 61) ha r1035
                          have ha := Fr.cons (d := 64) ha r1036
                          have ha := Fr.cons (d := 67) ha r1037
                          refine opS_of ha (⟨_, rfl, (congrArg (fun b => some (Value.bool b)) t221)⟩) ?_
                          refine op1_val (ex_neq rfl rfl) ?_
                          exact ⟨_, Stp.refl _ _ _, rfl⟩
                        · rintro o1038 w1039 a1040 ha hB ⟨r1041, r1042, -⟩
                          have ha := Fr.cons (d := 61) ha r1041
                          have ha := Fr.cons (d := 68) ha r1042
                          refine opS_of ha (trivial) ?_
                          refine op1_val (ex_pick_f (congrArg (fun b => some (Value.bool b)) t221) rfl) ?_
                          exact ⟨_, Stp.refl _ _ _, rfl⟩
                        · rintro o1043 w1044 a1045 ha hB ⟨r1046, -⟩
                          have ha := Fr.cons (d := 69) ha r1046
                          refine opS_of ha (trivial) ?_
                          refine op1_val (ex_move rfl) ?_
                          exact ⟨_, Stp.refl _ _ _, rfl⟩
                        · rintro o1047 w1048 a1049 ha hB ⟨r1050, -⟩
                          have ha := Fr.cons (d := 70) ha r1050
                          refine opS_of ha (⟨_, rfl, (congrArg (fun b => some (Value.bool b)) t389)⟩) ?_
                          refine op1_val (ex_move rfl) ?_
                          exact ⟨_, Stp.refl _ _ _, rfl⟩
                        · rintro o1051 w1052 a1053 ha hB ⟨r1054, r1055, -⟩
                          have ha := Fr.cons (d := 70) ha r1054
                          have ha := Fr.cons (d := 71) ha r1055
                          refine opS_of ha (⟨_, rfl, (congrArg (fun b => some (Value.bool b)) t389)⟩) ?_
                          refine wd_indexR r167 hx567 rfl rfl Try.underlying26 Try.sizeOf3 ?_
                          exact ⟨_, Stp.refl _ _ _, ⟨_, rfl, r167⟩⟩
                        · rintro o1056 w1057 a1058 ha hB ⟨r1059, r1060, -⟩
                          have ha := Fr.cons (d := 70) ha r1059
                          obtain ⟨v1061, e1062, h1063⟩ := r1060
                          have ha := Fr.cons (d := 72) ha e1062
                          refine opS_of ha (⟨_, rfl, (congrArg (fun b => some (Value.bool b)) t389)⟩) ?_
                          refine wd_load1Z h1063 hx567 hB rfl rfl Try.isAgg3 ?_
                          intro c1064 h1065
                          cases h1065
                          exact ⟨_, Stp.refl _ _ _, rfl⟩
                        · rintro o1066 w1067 a1068 ha hB ⟨r1069, -⟩
                          have ha := Fr.cons (d := 70) ha r1069
                          refine opS_of ha (⟨_, rfl, (congrArg (fun b => some (Value.bool b)) t389)⟩) ?_
                          refine op1_val (ex_move rfl) ?_
                          exact ⟨_, Stp.refl _ _ _, rfl⟩
                        · rintro o1070 w1071 a1072 ha hB ⟨r1073, r1074, -⟩
                          have ha := Fr.cons (d := 70) ha r1073
                          have ha := Fr.cons (d := 74) ha r1074
                          refine opS_of ha (⟨_, rfl, (congrArg (fun b => some (Value.bool b)) t389)⟩) ?_
                          refine wd_indexR r166 hx570 rfl rfl Try.underlying26 Try.sizeOf3 ?_
                          exact ⟨_, Stp.refl _ _ _, ⟨_, rfl, r166⟩⟩
                        · rintro o1075 w1076 a1077 ha hB ⟨r1078, r1079, -⟩
                          have ha := Fr.cons (d := 70) ha r1078
                          obtain ⟨v1080, e1081, h1082⟩ := r1079
                          have ha := Fr.cons (d := 75) ha e1081
                          refine opS_of ha (⟨_, rfl, (congrArg (fun b => some (Value.bool b)) t389)⟩) ?_
                          refine wd_load1Z h1082 hx570 hB rfl rfl Try.isAgg3 ?_
                          intro c1083 h1084
                          cases h1084
                          exact ⟨_, Stp.refl _ _ _, rfl⟩
                        · rintro o1085 w1086 a1087 ha hB ⟨r1088, r1089, r1090, -⟩
                          have ha := Fr.cons (d := 70) ha r1088
                          have ha := Fr.cons (d := 73) ha r1089
                          have ha := Fr.cons (d := 76) ha r1090
                          refine opS_of ha (⟨_, rfl, (congrArg (fun b => some (Value.bool b)) t389)⟩) ?_
                          refine op1_val (ex_neq rfl rfl) ?_
                          exact ⟨_, Stp.refl _ _ _, rfl⟩
                        · rintro o1091 w1092 a1093 ha hB ⟨r1094, r1095, -⟩
                          have ha := Fr.cons (d := 70) ha r1094
                          have ha := Fr.cons (d := 77) ha r1095
                          refine opS_of ha (trivial) ?_
                          refine op1_val (ex_pick_f (congrArg (fun b => some (Value.bool b)) t389) rfl) ?_
                          exact ⟨_, Stp.refl _ _ _, rfl⟩
                        · rintro o1096 w1097 a1098 ha hB ⟨r1099, -⟩
                          have ha := Fr.cons (d := 78) ha r1099
                          refine opS_of ha (trivial) ?_
                          refine op1_val (ex_move rfl) ?_
                          exact ⟨_, Stp.refl _ _ _, rfl⟩
                        · rintro o1100 w1101 a1102 ha hB ⟨r1103, -⟩
                          have ha := Fr.cons (d := 79) ha r1103
                          refine opS_of ha (⟨_, rfl, (congrArg (fun b => some (Value.bool b)) t573)⟩) ?_
                          refine op1_val (ex_move rfl) ?_
                          exact ⟨_, Stp.refl _ _ _, rfl⟩
                        · rintro o1104 w1105 a1106 ha hB ⟨r1107, r1108, -⟩
                          have ha := Fr.cons (d := 79) ha r1107
                          have ha := Fr.cons (d := 80) ha r1108
                          refine opS_of ha (⟨_, rfl, (congrArg (fun b => some (Value.bool b)) t573)⟩) ?_
                          refine wd_indexR r167 hx767 rfl rfl Try.underlying26 Try.sizeOf3 ?_
                          exact ⟨_, Stp.refl _ _ _, ⟨_, rfl, r167⟩⟩
                        · rintro o1109 w1110 a1111 ha hB ⟨r1112, r1113, -⟩
                          have ha := Fr.cons (d := 79) ha r1112
                          obtain ⟨v1114, e1115, h1116⟩ := r1113
                          have ha := Fr.cons (d := 81) ha e1115
                          refine opS_of ha (⟨_, rfl, (congrArg (fun b => some (Value.bool b)) t573)⟩) ?_
                          refine wd_load1Z h1116 hx767 hB rfl rfl Try.isAgg3 ?_
                          intro c1117 h1118
                          cases h1118
                          exact ⟨_, Stp.refl _ _ _, rfl⟩
                        · rintro o1119 w1120 a1121 ha hB ⟨r1122, r1123, -⟩
                          have ha := Fr.cons (d := 79) ha r1122
                          have ha := Fr.cons (d := 82) ha r1123
                          refine opS_of ha (⟨_, rfl, (congrArg (fun b => some (Value.bool b)) t573)⟩) ?_
                          refine op1_val (ex_lss rfl rfl) ?_
                          exact ⟨_, Stp.refl _ _ _, rfl⟩
                        · rintro o1124 w1125 a1126 ha hB ⟨r1127, r1128, -⟩
                          have ha := Fr.cons (d := 79) ha r1127
                          have ha := Fr.cons (d := 83) ha r1128
                          refine opS_of ha (trivial) ?_
                          refine op1_val (ex_pick_f (congrArg (fun b => some (Value.bool b)) t573) rfl) ?_
                          exact ⟨_, Stp.refl _ _ _, rfl⟩
                        · rintro o1129 w1130 a1131 ha hB ⟨r1132, -⟩
                          have ha := Fr.cons (d := 84) ha r1132
                          refine opS_of ha (trivial) ?_
                          refine op1_val (ex_move rfl) ?_
                          exact ⟨_, Stp.refl _ _ _, rfl⟩
                        · rintro o1133 w1134 a1135 ha hB ⟨r1136, -⟩
                          have ha := Fr.cons (d := 85) ha r1136
                          refine opS_of ha (⟨_, rfl, (congrArg (fun b => some (Value.bool b)) t770)⟩) ?_
                          refine op1_val (ex_move rfl) ?_
                          exact ⟨_, Stp.refl _ _ _, rfl⟩
                        · rintro o1137 w1138 a1139 ha hB ⟨r1140, r1141, -⟩
                          have ha := Fr.cons (d := 85) ha r1140
                          have ha := Fr.cons (d := 86) ha r1141
                          refine opS_of ha (⟨_, rfl, (congrArg (fun b => some (Value.bool b)) t770)⟩) ?_
                          refine wd_indexR r166 hx972 rfl rfl Try.underlying26 Try.sizeOf3 ?_
                          exact ⟨_, Stp.refl _ _ _, ⟨_, rfl, r166⟩⟩
                        · rintro o1142 w1143 a1144 ha hB ⟨r1145, r1146, -⟩
                          have ha := Fr.cons (d := 85) ha r1145
                          obtain ⟨v1147, e1148, h1149⟩ := r1146
                          have ha := Fr.cons (d := 87) ha e1148
                          refine opS_of ha (⟨_, rfl, (congrArg (fun b => some (Value.bool b)) t770)⟩) ?_
                          refine wd_load1Z h1149 hx972 hB rfl rfl Try.isAgg3 ?_
                          intro c1150 h1151
                          cases h1151
                          exact ⟨_, Stp.refl _ _ _, rfl⟩
                        · rintro o1152 w1153 a1154 ha hB ⟨r1155, -⟩
                          have ha := Fr.cons (d := 85) ha r1155
                          refine opS_of ha (⟨_, rfl, (congrArg (fun b => some (Value.bool b)) t770)⟩) ?_
                          refine op1_val (ex_move rfl) ?_
                          exact ⟨_, Stp.refl _ _ _, rfl⟩
                        · rintro o1156 w1157 a1158 ha hB ⟨r1159, r1160, -⟩
                          have ha := Fr.cons (d := 85) ha r1159
                          have ha := Fr.cons (d := 89) ha r1160
                          refine opS_of ha (⟨_, rfl, (congrArg (fun b => some (Value.bool b)) t770)⟩) ?_
                          refine wd_indexR r167 hx975 rfl rfl Try.underlying26 Try.sizeOf3 ?_
                          exact ⟨_, Stp.refl _ _ _, ⟨_, rfl, r167⟩⟩
                        · rintro o1161 w1162 a1163 ha hB ⟨r1164, r1165, -⟩
                          have ha := Fr.cons (d := 85) ha r1164
                          obtain ⟨v1166, e1167, h1168⟩ := r1165
                          have ha := Fr.cons (d := 90) ha e1167
                          refine opS_of ha (⟨_, rfl, (congrArg (fun b => some (Value.bool b)) t770)⟩) ?_
                          refine wd_load1Z h1168 hx975 hB rfl rfl Try.isAgg3 ?_
                          intro c1169 h1170
                          cases h1170
                          exact ⟨_, Stp.refl _ _ _, rfl⟩
                        · rintro o1171 w1172 a1173 ha hB ⟨r1174, r1175, r1176, -⟩
                          have ha := Fr.cons (d := 85) ha r1174
                          have ha := Fr.cons (d := 88) ha r1175
                          have ha := Fr.cons (d := 91) ha r1176
                          refine opS_of ha (⟨_, rfl, (congrArg (fun b => some (Value.bool b)) t770)⟩) ?_
                          refine op1_val (ex_sub rfl rfl hx978) ?_
                          exact ⟨_, Stp.refl _ _ _, rfl⟩
                        · rintro o1177 w1178 a1179 ha hB ⟨r1180, r1181, -⟩
                          have ha := Fr.cons (d := 85) ha r1180
                          have ha := Fr.cons (d := 92) ha r1181
                          refine opS_of ha (⟨_, rfl, (congrArg (fun b => some (Value.bool b)) t770)⟩) ?_
                          refine op1_val (ex_sub rfl rfl hx979) ?_
                          exact ⟨_, Stp.refl _ _ _, rfl⟩
                        · rintro o1182 w1183 a1184 ha hB ⟨r1185, -⟩
                          have ha := Fr.cons (d := 85) ha r1185
                          refine opS_of ha (⟨_, rfl, (congrArg (fun b => some (Value.bool b)) t770)⟩) ?_
                          refine op1_val (ex_move rfl) ?_
                          exact ⟨_, Stp.refl _ _ _, rfl⟩
                        · rintro o1186 w1187 a1188 ha hB ⟨r1189, r1190, -⟩
                          have ha := Fr.cons (d := 85) ha r1189
                          have ha := Fr.cons (d := 94) ha r1190
                          refine opS_of ha (⟨_, rfl, (congrArg (fun b => some (Value.bool b)) t770)⟩) ?_
                          refine wd_indexR r167 hx980 rfl rfl Try.underlying26 Try.sizeOf3 ?_
                          exact ⟨_, Stp.refl _ _ _, ⟨_, rfl, r167⟩⟩
                        · rintro o1191 w1192 a1193 ha hB ⟨r1194, r1195, -⟩
                          have ha := Fr.cons (d := 85) ha r1194
                          obtain ⟨v1196, e1197, h1198⟩ := r1195
                          have ha := Fr.cons (d := 95) ha e1197
                          refine opS_of ha (⟨_, rfl, (congrArg (fun b => some (Value.bool b)) t770)⟩) ?_
                          refine wd_load1Z h1198 hx980 hB rfl rfl Try.isAgg3 ?_
                          intro c1199 h1200
                          cases h1200
                          exact ⟨_, Stp.refl _ _ _, rfl⟩
                      rintro o1201 w1202 a1203 ha hB ⟨-, -, -, -, -, -, -, -, -, -, -, -, -, -, -, -, -, -, -, -, -, -, -, -, -, -, r1204, -, -, -, -, -, -, -, r1205, -, -, r1206, -⟩
                      have ha := Fr.cons (d := 85) ha r1204
                      have ha := Fr.cons (d := 93) ha r1205
                      have ha := Fr.cons (d := 96) ha r1206
                      refine wl_of ha ?_
                      simp only [List.length_cons, List.length_nil, Nat.zero_add, Nat.reduceAdd, List.drop_succ_cons, List.drop_zero]
                      obtain ⟨x1207, hx1207, hq217⟩ := bind_some hq217
                      refine st_val (ex_rem rfl rfl hx1207) (by decide) ⟨_, rfl, (congrArg (fun b => some (Value.bool b)) t770)⟩ ?_
                      refine st_val (ex_neq rfl rfl) (by decide) ⟨_, rfl, (congrArg (fun b => some (Value.bool b)) t770)⟩ ?_
                      refine st_val (ex_pick_f (congrArg (fun b => some (Value.bool b)) t770) rfl) (by decide) trivial ?_
                      have e1208 := Option.some.inj hq217
                      subst e1208
                      refine wpF_end (r := [(1, u1), (2, (.bool p2)), (34, v1), (35, (.int .i64 (p0.Arcs.length : Int))), (36, (.int .i64 i49)), (99, (.bool (x1207 != 0)))]) ⟨rfl, rfl, rfl, rfl, rfl, rfl, trivial⟩ ?_
                      refine np_norm (fun a ha => ⟨o1201, ha, hB⟩)
            rintro a1209 w219 ⟨o218, ha, hB⟩
            refine ap_k ha ?_
            refine nx ?_
            refine wpC_cond rfl (fun t1210 => ?_) (fun t1210 => ?_)
            · rw [if_pos t1210] at b56
              refine wpC_seq ?_
              refine wpC_region ?_
              refine st_val (ex_assign rfl) (by decide) trivial ?_
              refine wpF_end (r := [(6, (.bool false))]) ⟨rfl, trivial⟩ ?_
              refine nx ?_
              refine wpC_ret ?_
              refine nb_ret ?_
              refine nt_ret ?_
              refine nt_ret ?_
              refine nb_ret ?_
              refine np_ret ?_
              have e1211 := Option.some.inj b56
              subst e1211
              refine fun a ha => ⟨_, n57, ?_⟩
              refine ret_post (P := Try.prog) (vs := [(.bool false)]) Try.results115 ⟨rfl, trivial⟩ ?_ a ha
              exact ⟨rfl, hB.keeps⟩
            · rw [if_neg (by rw [t1210]; decide)] at b56
              refine wpC_skip ?_
              refine nb_norm ?_
              refine nx ?_
              refine wpC_region ?_
              refine st_val (ex_add rfl rfl (ck_in (by omega) (by omega))) (by decide) trivial ?_
              refine st_val (ex_move rfl) (by decide) trivial ?_
              refine wpF_end (r := [(1, u1), (2, (.bool p2)), (34, v1), (35, (.int .i64 (p0.Arcs.length : Int))), (36, (.int .i64 (i49 + 1)))]) ⟨rfl, rfl, rfl, rfl, rfl, trivial⟩ ?_
              refine nt_norm ?_
              have e1212 := Option.some.inj b56
              subst e1212
              refine to_k (r := [(1, u1), (2, (.bool p2)), (34, v1), (35, (.int .i64 (p0.Arcs.length : Int))), (36, (.int .i64 (i49 + 1)))]) ⟨rfl, rfl, rfl, rfl, rfl, trivial⟩ ?_
              intro a ha
              exact ⟨_, (by rw [← m53]; simp only [List.length_drop]; omega), i49 + 1, o218, n57, rfl, (by omega), ha, hB⟩
        · have r1213 := forI_done t58 l51
          refine wp_of ha ?_
          refine wpC_seq ?_
          refine wpC_region ?_
          refine st_val (ex_lss rfl rfl) (by decide) trivial ?_
          refine wpF_end (r := [(1, u1), (2, (.bool p2)), (34, v1), (35, (.int .i64 (p0.Arcs.length : Int))), (36, (.int .i64 i49)), (37, (.bool (decide (i49 < (p0.Arcs.length : Int)))))]) ⟨rfl, rfl, rfl, rfl, rfl, rfl, trivial⟩ ?_
          refine nx ?_
          refine wpC_seq ?_
          refine wpC_false (congrArg (fun b => some (Value.bool b)) (decide_eq_false t58)) ?_
          refine wpC_exit ?_
          refine nt_exit ?_
          refine nt_exit ?_
          refine nb_hit ?_
          refine np_norm ?_
          refine to_k (r := []) trivial ?_
          intro a ha
          exact ⟨o47, r1213, ha, hB⟩
      · rintro a w48 ⟨o47, rfl, ha, hB⟩
        dsimp only at hF
        refine ap_k ha ?_
        refine nx ?_
        refine wpC_seq ?_
        refine wpC_region ?_
        refine st_val (ex_assign rfl) (by decide) trivial ?_
        refine wpF_end (r := [(6, (.bool true))]) ⟨rfl, trivial⟩ ?_
        refine nx ?_
        refine wpC_ret ?_
        have e1214 := Option.some.inj hF
        subst e1214
        refine ret_post (P := Try.prog) (vs := [(.bool true)]) Try.results115 ⟨rfl, trivial⟩ ?_
        exact ⟨rfl, hB.keeps⟩
      · rintro a w48 ⟨r', rfl, b1215⟩
        dsimp only at hF
        have e1216 := Option.some.inj hF
        subst e1216
        exact b1215
    · rintro a w11 ⟨r', rfl, b1217⟩
      dsimp only at hF
      have e1218 := Option.some.inj hF
      subst e1218
      exact b1217

def fI_WalkProblem_isCertificate (fuel : Nat) (p0 : T_WalkProblem) (p1 : T_WalkCertificate) : Option Bool :=
  (fI_WalkProblem_hasLabels p0 ([p1.Label] : List Int)) >>= fun x25 =>
  if p1.Class == 3 then
    (
      if x25 then
        (fI_WalkProblem_after p0) >>= fun x37 =>
        (ix x37 p1.Label) >>= fun x46 =>
        (shr x46 p1.Label) >>= fun x49 =>
        if (band x49 1) == 1 then
          (ck ((p1.First.length : Int) + (p1.Second.length : Int))) >>= fun x51 =>
          (ck (x51 + (p1.Ranks.length : Int))) >>= fun x191 =>
          some (x191 == 0)
        else
          some false
      else
        some false) >>= fun q32 =>
    some q32
  else
    if p1.Class == 2 then
      (
        if x25 then
          (fI_WalkProblem_loopOf p0) >>= fun x439 =>
          if decide (x439 < 0) then
            if (p1.Ranks.length : Int) == 0 then
              (fI_WalkProblem_isClosedFrom fuel p0 p1.First p1.Label) >>= fun x447 =>
              if x447 then
                (fI_WalkProblem_isClosedFrom fuel p0 p1.Second p1.Label) >>= fun x454 =>
                if x454 then
                  (ck ((p1.First.length : Int) - 1)) >>= fun x461 =>
                  (ck ((p1.Second.length : Int) - 1)) >>= fun x462 =>
                  (fI_gcd ([x461, x462] : List Int)) >>= fun x469 =>
                  some (x469 == 1)
                else
                  some false
              else
                some false
            else
              some false
          else
            some false
        else
          some false) >>= fun q435 =>
      some q435
    else
      if p1.Class == 1 then
        (
          if x25 then
            if (p1.Second.length : Int) == 0 then
              (fI_WalkProblem_isClosedFrom fuel p0 p1.First p1.Label) >>= fun x485 =>
              if x485 then
                (fI_WalkProblem_ranksOk p0 p1.Ranks true) >>= fun x492 =>
                some x492
              else
                some false
            else
              some false
          else
            some false) >>= fun q480 =>
        some q480
      else
        if p1.Class == 0 then
          (
            if p1.Label == 0 then
              (ck ((p1.First.length : Int) + (p1.Second.length : Int))) >>= fun x507 =>
              if x507 == 0 then
                (fI_WalkProblem_ranksOk p0 p1.Ranks false) >>= fun x509 =>
                some x509
              else
                some false
            else
              some false) >>= fun q503 =>
          some q503
        else
          some false

def pI_WalkProblem_isCertificate (w : World) (r : Bool) : Ending → World → Prop := fun e w' => e = .returned (.bool r) ∧ Keeps w w'
set_option maxRecDepth 100000 in
set_option maxHeartbeats 2000000 in
theorem cI_WalkProblem_isCertificate (fuel : Nat) (w : World) (u0 : List Value) (p0 : T_WalkProblem) (g0 : Rp.rd zt w u0 p0) (u1 : List Value) (p1 : T_WalkCertificate) (g1 : Rp.rd zt w u1 p1) (r : Bool) (hF : fI_WalkProblem_isCertificate fuel p0 p1 = some r) :
    Calls Try.prog 64 #[.agg u0.toArray, .agg u1.toArray] w (pI_WalkProblem_isCertificate w r) := by
  unfold fI_WalkProblem_isCertificate at hF
  obtain ⟨v1, rfl, h2⟩ := g0
  obtain ⟨v3, v5, v7, rfl, h4, h6, h8⟩ := g1
  have hB : Bs (fun _ => 1) (col (fun _ => 1)) w w := Bs.start _ _
  refine calls_start (n := 130) (vs := [(.agg #[(.int .i64 p0.Labels), v1]), (.agg #[(.int .i64 p1.Class), (.int .i64 p1.Label), v3, v5, v7])]) Try.func64 rfl rfl ?_
  refine wpC_seq ?_
  refine wpC_region ?_
  refine st_op (by decide) trivial ?_
  refine wf_box (o := (col (fun _ => 1))) w.heap.size 11 hB.keeps.size (cs := [(.int .i64 p0.Labels), v1]) rfl rfl ?_
  intro o9 w10 b11 h12 s13
  replace hB := hB.stp s13 (by decide)
  refine st_op (by decide) trivial ?_
  refine wf_box (o := o9) w.heap.size 12 hB.keeps.size (cs := [(.int .i64 p1.Class), (.int .i64 p1.Label), v3, v5, v7]) rfl rfl ?_
  intro o14 w15 b16 h17 s18
  replace h12 := h12.stp s18 (by decide)
  replace hB := hB.stp s18 (by decide)
  refine st_val (ex_assign rfl) (by decide) trivial ?_
  refine wpF_end (r := [(2, (.pointer (some ⟨b11, 0, none⟩))), (3, (.pointer (some ⟨b16, 0, none⟩)))]) ⟨rfl, rfl, trivial⟩ ?_
  refine nx ?_
  refine wpC_seq ?_
  refine wpC_region ?_
  refine st_val (ex_loadA rfl Try.isAgg44 Try.sizeOf44 rfl h12.cells) (by decide) trivial ?_
  refine st_val (ex_field rfl Try.underlying46 rfl Try.sizeOf3) (by decide) trivial ?_
  refine st_val (ex_load1 rfl Try.isAgg3 (h17.cell rfl)) (by decide) trivial ?_
  refine st_op (by decide) trivial ?_
  refine wf_litR (o := o14) (cs := [(.int .i64 p1.Label)]) (xs := ([p1.Label] : List Int)) (vs := [(0, (.int .i64 p1.Label))]) ⟨_, _, rfl, rfl, rfl⟩ rfl ⟨rfl, rfl, trivial⟩ Try.underlying26 Try.sizeOf3 Try.zeroValue3 (by decide) (fill1 rfl) (by simp) ?_
  intro o19 w20 v21 h22 s23 k24
  replace h12 := h12.stp s23 (by decide)
  replace h17 := h17.stp s23 (by decide)
  replace hB := hB.stp s23 (by decide)
  obtain ⟨x25, hx25, hF⟩ := bind_some hF
  refine st_op (by decide) trivial ?_
  refine wf_call (cI_WalkProblem_hasLabels w20 _ p0 (⟨_, rfl, (h2.keep hB.keeps)⟩) _ ([p1.Label] : List Int) h22.z x25 hx25) Try.call67 ⟨rfl, rfl, trivial⟩ ?_
  rintro e30 w26 ⟨rfl, k27⟩
  have s29 := k27.stp 999 o19
  refine ⟨_, rfl, ?_⟩
  replace h22 := h22.stp s29 (by decide)
  replace h12 := h12.stp s29 (by decide)
  replace h17 := h17.stp s29 (by decide)
  replace hB := hB.stp s29 (by decide)
  refine st_val (ex_assign rfl) (by decide) trivial ?_
  refine wpF_end (r := [(2, (.pointer (some ⟨b11, 0, none⟩))), (3, (.pointer (some ⟨b16, 0, none⟩))), (5, (.bool x25))]) ⟨rfl, rfl, rfl, trivial⟩ ?_
  refine nx ?_
  refine wpC_seq ?_
  refine wpC_seq ?_
  refine wpC_region ?_
  refine st_val (ex_field rfl Try.underlying46 rfl Try.sizeOf3) (by decide) trivial ?_
  refine st_val (ex_load1 rfl Try.isAgg3 (h17.cell rfl)) (by decide) trivial ?_
  refine wpF_end (r := [(2, (.pointer (some ⟨b11, 0, none⟩))), (3, (.pointer (some ⟨b16, 0, none⟩))), (5, (.bool x25)), (12, (.int .i64 p1.Class))]) ⟨rfl, rfl, rfl, rfl, trivial⟩ ?_
  refine nx ?_
  refine wpC_block ?_
  refine wpC_seq ?_
  refine wpC_region ?_
  refine st_val (ex_eql rfl rfl) (by decide) trivial ?_
  refine st_val (ex_assign rfl) (by decide) trivial ?_
  refine wpF_end (r := [(2, (.pointer (some ⟨b11, 0, none⟩))), (3, (.pointer (some ⟨b16, 0, none⟩))), (5, (.bool x25)), (12, (.int .i64 p1.Class)), (13, (.bool (p1.Class == 3)))]) ⟨rfl, rfl, rfl, rfl, rfl, trivial⟩ ?_
  refine nx ?_
  refine wpC_cond rfl (fun t31 => ?_) (fun t31 => ?_)
  · rw [if_pos t31] at hF
    refine wpC_seq ?_
    obtain ⟨q32, hq32, hF⟩ := bind_some hF
    refine wpC_cutN (fun a35 w34 => ∃ o33 : Tg, Fr a35 130 [(4, (.bool q32))] ∧ Bs (fun _ => 1) o33 w w34) (fun _ _ => False) ?_ ?_ (fun _ _ h => h.elim)
    · rcases Bool.eq_false_or_eq_true (x25) with t36 | t36
      · rw [if_pos t36] at hq32
        obtain ⟨x37, hx37, hq32⟩ := bind_some hq32
        obtain ⟨x46, hx46, hq32⟩ := bind_some hq32
        obtain ⟨x49, hx49, hq32⟩ := bind_some hq32
        rcases Bool.eq_false_or_eq_true ((band x49 1) == 1) with t50 | t50
        · rw [if_pos t50] at hq32
          obtain ⟨x51, hx51, hq32⟩ := bind_some hq32
          refine wpC_drawn (o := o19) [(2, (.pointer (some ⟨b11, 0, none⟩))), (3, (.pointer (some ⟨b16, 0, none⟩))), (5, (.bool x25))] [2, 3, 5] [15, 16, 17, 18, 19, 20, 21, 22, 23, 24, 25, 26, 27, 28, 29, 30, 31, 32, 33, 34, 35, 36, 37, 38, 39] [[], [0], [1], [1, 2], [1], [1, 4], [1, 3, 5], [1, 6], [1], [1, 8], [1, 7, 9], [1, 10], [1, 11], [1, 12], [13], [14], [14, 15], [14, 16], [14], [14, 18], [14, 19], [14, 17, 20], [14], [14, 22], [14, 23]] [none, none, none, none, none, none, none, none, none, none, none, none, none, none, none, none, none, none, none, none, none, none, none, none, none] [999, 999, 999, 999, 999, 999, 999, 999, 999, 999, 999, 999, 999, 999, 999, 999, 999, 999, 999, 999, 999, 999, 999, 999, 999] [0, 0, 0, 14, 0, 0, 14, 0, 0, 0, 0, 0, 0, 0, 0, 0, 0, 0, 0, 0, 0, 0, 0, 0, 0] [999] [fun v _ _ => v = (.bool x25), fun v _ _ => v = (.bool x25), fun v _ _ => v = (.agg #[(.int .i64 p0.Labels), v1]), fun v o w9 => Ow w.heap.size 3 14 o w9 v x37, fun v _ _ => v = (.pointer (some ⟨b16, 0 + 1, none⟩)), fun v _ _ => v = (.int .i64 p1.Label), fun v o w9 => ∃ vl, v = adr vl (p1.Label.toNat * Rp.sz Int) ∧ Ow w.heap.size 3 14 o w9 vl x37, fun v _ _ => v = (.int .i64 x46), fun v _ _ => v = (.pointer (some ⟨b16, 0 + 1, none⟩)), fun v _ _ => v = (.int .i64 p1.Label), fun v _ _ => v = (.int .i64 x49), fun v _ _ => v = (.int .i64 (band x49 1)), fun v _ _ => v = (.bool ((band x49 1) == 1)), fun v _ _ => v = (.bool ((band x49 1) == 1)), fun v _ _ => v = (.bool ((band x49 1) == 1)), fun v _ _ => v = (.pointer (some ⟨b16, 0 + 2, none⟩)), fun v _ _ => v = v3, fun v _ _ => v = (.int .i64 (p1.First.length : Int)), fun v _ _ => v = (.pointer (some ⟨b16, 0 + 3, none⟩)), fun v _ _ => v = v5, fun v _ _ => v = (.int .i64 (p1.Second.length : Int)), fun v _ _ => v = (.int .i64 x51), fun v _ _ => v = (.pointer (some ⟨b16, 0 + 4, none⟩)), fun v _ _ => v = v7, fun v _ _ => v = (.int .i64 (p1.Ranks.length : Int))] (fun o8 w8 => Bs (fun _ => 1) o8 w w8 ∧ Bx w.heap.size 11 o8 w8 b11 44 [(.int .i64 p0.Labels), v1] ∧ Bx w.heap.size 12 o8 w8 b16 46 [(.int .i64 p1.Class), (.int .i64 p1.Label), v3, v5, v7]) follows_mixed (by kernel_rfl) rfl ⟨rfl, rfl, rfl, trivial⟩ ⟨hB, h12, h17⟩ ?_ ⟨st_eq _, st_eq _, st_eq _, fun _ _ _ _ _ _ h0 hb h hs => h.stp hs h0.1 (Ne.symm hb), st_eq _, st_eq _, fun _ _ _ _ _ _ h0 hb ⟨vl, e, h⟩ hs => ⟨vl, e, h.stp hs h0.1 (Ne.symm hb)⟩, st_eq _, st_eq _, st_eq _, st_eq _, st_eq _, st_eq _, st_eq _, st_eq _, st_eq _, st_eq _, st_eq _, st_eq _, st_eq _, st_eq _, st_eq _, st_eq _, st_eq _, st_eq _, trivial⟩ ?_ ?_
          · rintro t9 o1 w1 o2 w2 ht9 ⟨hB, h12, h17⟩ hs9
            have ht9 : t9 = 999 := by simpa using ht9
            subst ht9
            all_goals exact ⟨hB.stp hs9 (by decide), h12.stp hs9 (by decide), h17.stp hs9 (by decide)⟩
          · refine ⟨?_, ?_, ?_, ?_, ?_, ?_, ?_, ?_, ?_, ?_, ?_, ?_, ?_, ?_, ?_, ?_, ?_, ?_, ?_, ?_, ?_, ?_, ?_, ?_, ?_, trivial⟩
            · rintro o52 w53 a54 ha ⟨hB, h12, h17⟩ -
              refine opS_of ha (trivial) ?_
              refine op1_val (ex_move rfl) ?_
              exact ⟨_, Stp.refl _ _ _, rfl⟩
            · rintro o55 w56 a57 ha ⟨hB, h12, h17⟩ ⟨r58, -⟩
              have ha := Fr.cons (d := 15) ha r58
              refine opS_of ha (trivial) ?_
              refine op1_val (ex_move rfl) ?_
              exact ⟨_, Stp.refl _ _ _, rfl⟩
            · rintro o59 w60 a61 ha ⟨hB, h12, h17⟩ ⟨r62, -⟩
              have ha := Fr.cons (d := 16) ha r62
              refine opS_of ha (⟨_, rfl, (congrArg (fun b => some (Value.bool b)) t36)⟩) ?_
              refine op1_val (ex_loadA rfl Try.isAgg44 Try.sizeOf44 rfl h12.cells) ?_
              exact ⟨_, Stp.refl _ _ _, rfl⟩
            · rintro o63 w64 a65 ha ⟨hB, h12, h17⟩ ⟨r66, r67, -⟩
              have ha := Fr.cons (d := 16) ha r66
              have ha := Fr.cons (d := 17) ha r67
              refine opS_of ha (⟨_, rfl, (congrArg (fun b => some (Value.bool b)) t36)⟩) ?_
              refine wf_call (cI_WalkProblem_after w64 o63 14 (by decide) _ p0 (⟨_, rfl, (h2.keep hB.keeps)⟩) x37 hx37) Try.call111 ⟨rfl, trivial⟩ ?_
              rintro e74 w68 ⟨v69, o75, rfl, h70, k71, k72⟩
              have s73 := k71.stp' 999 k72
              replace h70 := h70.mono hB.keeps.size
              refine ⟨_, rfl, ?_⟩
              replace h12 := h12.stp s73 (by decide)
              replace h17 := h17.stp s73 (by decide)
              replace hB := hB.stp s73 (by decide)
              exact ⟨_, s73, h70⟩
            · rintro o76 w77 a78 ha ⟨hB, h12, h17⟩ ⟨r79, -⟩
              have ha := Fr.cons (d := 16) ha r79
              refine opS_of ha (⟨_, rfl, (congrArg (fun b => some (Value.bool b)) t36)⟩) ?_
              refine op1_val (ex_field rfl Try.underlying46 rfl Try.sizeOf3) ?_
              exact ⟨_, Stp.refl _ _ _, rfl⟩
            · rintro o80 w81 a82 ha ⟨hB, h12, h17⟩ ⟨r83, r84, -⟩
              have ha := Fr.cons (d := 16) ha r83
              have ha := Fr.cons (d := 19) ha r84
              refine opS_of ha (⟨_, rfl, (congrArg (fun b => some (Value.bool b)) t36)⟩) ?_
              refine op1_val (ex_load1 rfl Try.isAgg3 (h17.cell rfl)) ?_
              exact ⟨_, Stp.refl _ _ _, rfl⟩
            · rintro o85 w86 a87 ha ⟨hB, h12, h17⟩ ⟨r88, r89, r90, -⟩
              have ha := Fr.cons (d := 16) ha r88
              replace r89 : Ow w.heap.size 3 14 o85 w86 (a87.tmps.getD 18 undef) x37 := r89
              generalize e92 : a87.tmps.getD 18 undef = v91 at r89
              have ha := Fr.cons (d := 18) ha e92
              have ha := Fr.cons (d := 20) ha r90
              refine opS_of ha (⟨_, rfl, (congrArg (fun b => some (Value.bool b)) t36)⟩) ?_
              refine wd_indexW r89 hx46 rfl rfl Try.underlying26 Try.sizeOf3 ?_
              exact ⟨_, Stp.refl _ _ _, ⟨_, rfl, r89⟩⟩
            · rintro o93 w94 a95 ha ⟨hB, h12, h17⟩ ⟨r96, r97, -⟩
              have ha := Fr.cons (d := 16) ha r96
              obtain ⟨v98, e99, h100⟩ := r97
              have ha := Fr.cons (d := 21) ha e99
              refine opS_of ha (⟨_, rfl, (congrArg (fun b => some (Value.bool b)) t36)⟩) ?_
              refine wd_load1W h100 hx46 rfl rfl Try.isAgg3 ?_
              intro c101 h102
              cases h102
              exact ⟨_, Stp.refl _ _ _, rfl⟩
            · rintro o103 w104 a105 ha ⟨hB, h12, h17⟩ ⟨r106, -⟩
              have ha := Fr.cons (d := 16) ha r106
              refine opS_of ha (⟨_, rfl, (congrArg (fun b => some (Value.bool b)) t36)⟩) ?_
              refine op1_val (ex_field rfl Try.underlying46 rfl Try.sizeOf3) ?_
              exact ⟨_, Stp.refl _ _ _, rfl⟩
            · rintro o107 w108 a109 ha ⟨hB, h12, h17⟩ ⟨r110, r111, -⟩
              have ha := Fr.cons (d := 16) ha r110
              have ha := Fr.cons (d := 23) ha r111
              refine opS_of ha (⟨_, rfl, (congrArg (fun b => some (Value.bool b)) t36)⟩) ?_
              refine op1_val (ex_load1 rfl Try.isAgg3 (h17.cell rfl)) ?_
              exact ⟨_, Stp.refl _ _ _, rfl⟩
            · rintro o112 w113 a114 ha ⟨hB, h12, h17⟩ ⟨r115, r116, r117, -⟩
              have ha := Fr.cons (d := 16) ha r115
              have ha := Fr.cons (d := 22) ha r116
              have ha := Fr.cons (d := 24) ha r117
              refine opS_of ha (⟨_, rfl, (congrArg (fun b => some (Value.bool b)) t36)⟩) ?_
              refine op1_val (ex_shr rfl rfl hx49) ?_
              exact ⟨_, Stp.refl _ _ _, rfl⟩
            · rintro o118 w119 a120 ha ⟨hB, h12, h17⟩ ⟨r121, r122, -⟩
              have ha := Fr.cons (d := 16) ha r121
              have ha := Fr.cons (d := 25) ha r122
              refine opS_of ha (⟨_, rfl, (congrArg (fun b => some (Value.bool b)) t36)⟩) ?_
              refine op1_val (ex_and rfl rfl) ?_
              exact ⟨_, Stp.refl _ _ _, rfl⟩
            · rintro o123 w124 a125 ha ⟨hB, h12, h17⟩ ⟨r126, r127, -⟩
              have ha := Fr.cons (d := 16) ha r126
              have ha := Fr.cons (d := 26) ha r127
              refine opS_of ha (⟨_, rfl, (congrArg (fun b => some (Value.bool b)) t36)⟩) ?_
              refine op1_val (ex_eql rfl rfl) ?_
              exact ⟨_, Stp.refl _ _ _, rfl⟩
            · rintro o128 w129 a130 ha ⟨hB, h12, h17⟩ ⟨r131, r132, -⟩
              have ha := Fr.cons (d := 16) ha r131
              have ha := Fr.cons (d := 27) ha r132
              refine opS_of ha (trivial) ?_
              refine op1_val (ex_pick_t (congrArg (fun b => some (Value.bool b)) t36) rfl) ?_
              exact ⟨_, Stp.refl _ _ _, rfl⟩
            · rintro o133 w134 a135 ha ⟨hB, h12, h17⟩ ⟨r136, -⟩
              have ha := Fr.cons (d := 28) ha r136
              refine opS_of ha (trivial) ?_
              refine op1_val (ex_move rfl) ?_
              exact ⟨_, Stp.refl _ _ _, rfl⟩
            · rintro o137 w138 a139 ha ⟨hB, h12, h17⟩ ⟨r140, -⟩
              have ha := Fr.cons (d := 29) ha r140
              refine opS_of ha (⟨_, rfl, (congrArg (fun b => some (Value.bool b)) t50)⟩) ?_
              refine op1_val (ex_field rfl Try.underlying46 rfl Try.sizeOf26) ?_
              exact ⟨_, Stp.refl _ _ _, rfl⟩
            · rintro o141 w142 a143 ha ⟨hB, h12, h17⟩ ⟨r144, r145, -⟩
              have ha := Fr.cons (d := 29) ha r144
              have ha := Fr.cons (d := 30) ha r145
              refine opS_of ha (⟨_, rfl, (congrArg (fun b => some (Value.bool b)) t50)⟩) ?_
              refine op1_val (ex_load1 rfl Try.isAgg26 (h17.cell rfl)) ?_
              exact ⟨_, Stp.refl _ _ _, rfl⟩
            · rintro o146 w147 a148 ha ⟨hB, h12, h17⟩ ⟨r149, r150, -⟩
              have ha := Fr.cons (d := 29) ha r149
              have ha := Fr.cons (d := 31) ha r150
              refine opS_of ha (⟨_, rfl, (congrArg (fun b => some (Value.bool b)) t50)⟩) ?_
              refine op1_val (ex_lenR rfl h4 Try.underlying26) ?_
              exact ⟨_, Stp.refl _ _ _, rfl⟩
            · rintro o151 w152 a153 ha ⟨hB, h12, h17⟩ ⟨r154, -⟩
              have ha := Fr.cons (d := 29) ha r154
              refine opS_of ha (⟨_, rfl, (congrArg (fun b => some (Value.bool b)) t50)⟩) ?_
              refine op1_val (ex_field rfl Try.underlying46 rfl Try.sizeOf26) ?_
              exact ⟨_, Stp.refl _ _ _, rfl⟩
            · rintro o155 w156 a157 ha ⟨hB, h12, h17⟩ ⟨r158, r159, -⟩
              have ha := Fr.cons (d := 29) ha r158
              have ha := Fr.cons (d := 33) ha r159
              refine opS_of ha (⟨_, rfl, (congrArg (fun b => some (Value.bool b)) t50)⟩) ?_
              refine op1_val (ex_load1 rfl Try.isAgg26 (h17.cell rfl)) ?_
              exact ⟨_, Stp.refl _ _ _, rfl⟩
            · rintro o160 w161 a162 ha ⟨hB, h12, h17⟩ ⟨r163, r164, -⟩
              have ha := Fr.cons (d := 29) ha r163
              have ha := Fr.cons (d := 34) ha r164
              refine opS_of ha (⟨_, rfl, (congrArg (fun b => some (Value.bool b)) t50)⟩) ?_
              refine op1_val (ex_lenR rfl h6 Try.underlying26) ?_
              exact ⟨_, Stp.refl _ _ _, rfl⟩
            · rintro o165 w166 a167 ha ⟨hB, h12, h17⟩ ⟨r168, r169, r170, -⟩
              have ha := Fr.cons (d := 29) ha r168
              have ha := Fr.cons (d := 32) ha r169
              have ha := Fr.cons (d := 35) ha r170
              refine opS_of ha (⟨_, rfl, (congrArg (fun b => some (Value.bool b)) t50)⟩) ?_
              refine op1_val (ex_add rfl rfl hx51) ?_
              exact ⟨_, Stp.refl _ _ _, rfl⟩
            · rintro o171 w172 a173 ha ⟨hB, h12, h17⟩ ⟨r174, -⟩
              have ha := Fr.cons (d := 29) ha r174
              refine opS_of ha (⟨_, rfl, (congrArg (fun b => some (Value.bool b)) t50)⟩) ?_
              refine op1_val (ex_field rfl Try.underlying46 rfl Try.sizeOf22) ?_
              exact ⟨_, Stp.refl _ _ _, rfl⟩
            · rintro o175 w176 a177 ha ⟨hB, h12, h17⟩ ⟨r178, r179, -⟩
              have ha := Fr.cons (d := 29) ha r178
              have ha := Fr.cons (d := 37) ha r179
              refine opS_of ha (⟨_, rfl, (congrArg (fun b => some (Value.bool b)) t50)⟩) ?_
              refine op1_val (ex_load1 rfl Try.isAgg22 (h17.cell rfl)) ?_
              exact ⟨_, Stp.refl _ _ _, rfl⟩
            · rintro o180 w181 a182 ha ⟨hB, h12, h17⟩ ⟨r183, r184, -⟩
              have ha := Fr.cons (d := 29) ha r183
              have ha := Fr.cons (d := 38) ha r184
              refine opS_of ha (⟨_, rfl, (congrArg (fun b => some (Value.bool b)) t50)⟩) ?_
              refine op1_val (ex_lenR rfl h8 Try.underlying22) ?_
              exact ⟨_, Stp.refl _ _ _, rfl⟩
          rintro o185 w186 a187 ha ⟨hB, h12, h17⟩ ⟨-, -, -, -, -, -, -, -, -, -, -, -, -, -, r188, -, -, -, -, -, -, r189, -, -, r190, -⟩
          have ha := Fr.cons (d := 29) ha r188
          have ha := Fr.cons (d := 36) ha r189
          have ha := Fr.cons (d := 39) ha r190
          refine wl_of ha ?_
          simp only [List.length_cons, List.length_nil, Nat.zero_add, Nat.reduceAdd, List.drop_succ_cons, List.drop_zero]
          obtain ⟨x191, hx191, hq32⟩ := bind_some hq32
          refine st_val (ex_add rfl rfl hx191) (by decide) ⟨_, rfl, (congrArg (fun b => some (Value.bool b)) t50)⟩ ?_
          refine st_val (ex_eql rfl rfl) (by decide) ⟨_, rfl, (congrArg (fun b => some (Value.bool b)) t50)⟩ ?_
          refine st_val (ex_pick_t (congrArg (fun b => some (Value.bool b)) t50) rfl) (by decide) trivial ?_
          refine st_val (ex_assign rfl) (by decide) trivial ?_
          have e192 := Option.some.inj hq32
          subst e192
          refine wpF_end (r := [(4, (.bool (x191 == 0)))]) ⟨rfl, trivial⟩ ?_
          refine np_norm (fun a ha => ⟨o185, ha, hB⟩)
        · rw [if_neg (by rw [t50]; decide)] at hq32
          refine wpC_drawn (o := o19) [(2, (.pointer (some ⟨b11, 0, none⟩))), (3, (.pointer (some ⟨b16, 0, none⟩))), (5, (.bool x25))] [2, 3, 5] [15, 16, 17, 18, 19, 20, 21, 22, 23, 24, 25, 26, 27, 28, 29, 30, 31, 32, 33, 34, 35, 36, 37, 38, 39] [[], [0], [1], [1, 2], [1], [1, 4], [1, 3, 5], [1, 6], [1], [1, 8], [1, 7, 9], [1, 10], [1, 11], [1, 12], [13], [14], [14], [14], [14], [14], [14], [14], [14], [14], [14]] [none, none, none, none, none, none, none, none, none, none, none, none, none, none, none, none, none, none, none, none, none, none, none, none, none] [999, 999, 999, 999, 999, 999, 999, 999, 999, 999, 999, 999, 999, 999, 999, 999, 999, 999, 999, 999, 999, 999, 999, 999, 999] [0, 0, 0, 14, 0, 0, 14, 0, 0, 0, 0, 0, 0, 0, 0, 0, 0, 0, 0, 0, 0, 0, 0, 0, 0] [999] [fun v _ _ => v = (.bool x25), fun v _ _ => v = (.bool x25), fun v _ _ => v = (.agg #[(.int .i64 p0.Labels), v1]), fun v o w9 => Ow w.heap.size 3 14 o w9 v x37, fun v _ _ => v = (.pointer (some ⟨b16, 0 + 1, none⟩)), fun v _ _ => v = (.int .i64 p1.Label), fun v o w9 => ∃ vl, v = adr vl (p1.Label.toNat * Rp.sz Int) ∧ Ow w.heap.size 3 14 o w9 vl x37, fun v _ _ => v = (.int .i64 x46), fun v _ _ => v = (.pointer (some ⟨b16, 0 + 1, none⟩)), fun v _ _ => v = (.int .i64 p1.Label), fun v _ _ => v = (.int .i64 x49), fun v _ _ => v = (.int .i64 (band x49 1)), fun v _ _ => v = (.bool ((band x49 1) == 1)), fun v _ _ => v = (.bool ((band x49 1) == 1)), fun v _ _ => v = (.bool ((band x49 1) == 1)), fun v _ _ => v = undef, fun v _ _ => v = undef, fun v _ _ => v = undef, fun v _ _ => v = undef, fun v _ _ => v = undef, fun v _ _ => v = undef, fun v _ _ => v = undef, fun v _ _ => v = undef, fun v _ _ => v = undef, fun v _ _ => v = undef] (fun o8 w8 => Bs (fun _ => 1) o8 w w8 ∧ Bx w.heap.size 11 o8 w8 b11 44 [(.int .i64 p0.Labels), v1] ∧ Bx w.heap.size 12 o8 w8 b16 46 [(.int .i64 p1.Class), (.int .i64 p1.Label), v3, v5, v7]) follows_mixed (by kernel_rfl) rfl ⟨rfl, rfl, rfl, trivial⟩ ⟨hB, h12, h17⟩ ?_ ⟨st_eq _, st_eq _, st_eq _, fun _ _ _ _ _ _ h0 hb h hs => h.stp hs h0.1 (Ne.symm hb), st_eq _, st_eq _, fun _ _ _ _ _ _ h0 hb ⟨vl, e, h⟩ hs => ⟨vl, e, h.stp hs h0.1 (Ne.symm hb)⟩, st_eq _, st_eq _, st_eq _, st_eq _, st_eq _, st_eq _, st_eq _, st_eq _, st_eq _, st_eq _, st_eq _, st_eq _, st_eq _, st_eq _, st_eq _, st_eq _, st_eq _, st_eq _, trivial⟩ ?_ ?_
          · rintro t9 o1 w1 o2 w2 ht9 ⟨hB, h12, h17⟩ hs9
            have ht9 : t9 = 999 := by simpa using ht9
            subst ht9
            all_goals exact ⟨hB.stp hs9 (by decide), h12.stp hs9 (by decide), h17.stp hs9 (by decide)⟩
          · refine ⟨?_, ?_, ?_, ?_, ?_, ?_, ?_, ?_, ?_, ?_, ?_, ?_, ?_, ?_, ?_, ?_, ?_, ?_, ?_, ?_, ?_, ?_, ?_, ?_, ?_, trivial⟩
            · rintro o193 w194 a195 ha ⟨hB, h12, h17⟩ -
              refine opS_of ha (trivial) ?_
              refine op1_val (ex_move rfl) ?_
              exact ⟨_, Stp.refl _ _ _, rfl⟩
            · rintro o196 w197 a198 ha ⟨hB, h12, h17⟩ ⟨r199, -⟩
              have ha := Fr.cons (d := 15) ha r199
              refine opS_of ha (trivial) ?_
              refine op1_val (ex_move rfl) ?_
              exact ⟨_, Stp.refl _ _ _, rfl⟩
            · rintro o200 w201 a202 ha ⟨hB, h12, h17⟩ ⟨r203, -⟩
              have ha := Fr.cons (d := 16) ha r203
              refine opS_of ha (⟨_, rfl, (congrArg (fun b => some (Value.bool b)) t36)⟩) ?_
              refine op1_val (ex_loadA rfl Try.isAgg44 Try.sizeOf44 rfl h12.cells) ?_
              exact ⟨_, Stp.refl _ _ _, rfl⟩
            · rintro o204 w205 a206 ha ⟨hB, h12, h17⟩ ⟨r207, r208, -⟩
              have ha := Fr.cons (d := 16) ha r207
              have ha := Fr.cons (d := 17) ha r208
              refine opS_of ha (⟨_, rfl, (congrArg (fun b => some (Value.bool b)) t36)⟩) ?_
              refine wf_call (cI_WalkProblem_after w205 o204 14 (by decide) _ p0 (⟨_, rfl, (h2.keep hB.keeps)⟩) x37 hx37) Try.call111 ⟨rfl, trivial⟩ ?_
              rintro e215 w209 ⟨v210, o216, rfl, h211, k212, k213⟩
              have s214 := k212.stp' 999 k213
              replace h211 := h211.mono hB.keeps.size
              refine ⟨_, rfl, ?_⟩
              replace h12 := h12.stp s214 (by decide)
              replace h17 := h17.stp s214 (by decide)
              replace hB := hB.stp s214 (by decide)
              exact ⟨_, s214, h211⟩
            · rintro o217 w218 a219 ha ⟨hB, h12, h17⟩ ⟨r220, -⟩
              have ha := Fr.cons (d := 16) ha r220
              refine opS_of ha (⟨_, rfl, (congrArg (fun b => some (Value.bool b)) t36)⟩) ?_
              refine op1_val (ex_field rfl Try.underlying46 rfl Try.sizeOf3) ?_
              exact ⟨_, Stp.refl _ _ _, rfl⟩
            · rintro o221 w222 a223 ha ⟨hB, h12, h17⟩ ⟨r224, r225, -⟩
              have ha := Fr.cons (d := 16) ha r224
              have ha := Fr.cons (d := 19) ha r225
              refine opS_of ha (⟨_, rfl, (congrArg (fun b => some (Value.bool b)) t36)⟩) ?_
              refine op1_val (ex_load1 rfl Try.isAgg3 (h17.cell rfl)) ?_
              exact ⟨_, Stp.refl _ _ _, rfl⟩
            · rintro o226 w227 a228 ha ⟨hB, h12, h17⟩ ⟨r229, r230, r231, -⟩
              have ha := Fr.cons (d := 16) ha r229
              replace r230 : Ow w.heap.size 3 14 o226 w227 (a228.tmps.getD 18 undef) x37 := r230
              generalize e233 : a228.tmps.getD 18 undef = v232 at r230
              have ha := Fr.cons (d := 18) ha e233
              have ha := Fr.cons (d := 20) ha r231
              refine opS_of ha (⟨_, rfl, (congrArg (fun b => some (Value.bool b)) t36)⟩) ?_
              refine wd_indexW r230 hx46 rfl rfl Try.underlying26 Try.sizeOf3 ?_
              exact ⟨_, Stp.refl _ _ _, ⟨_, rfl, r230⟩⟩
            · rintro o234 w235 a236 ha ⟨hB, h12, h17⟩ ⟨r237, r238, -⟩
              have ha := Fr.cons (d := 16) ha r237
              obtain ⟨v239, e240, h241⟩ := r238
              have ha := Fr.cons (d := 21) ha e240
              refine opS_of ha (⟨_, rfl, (congrArg (fun b => some (Value.bool b)) t36)⟩) ?_
              refine wd_load1W h241 hx46 rfl rfl Try.isAgg3 ?_
              intro c242 h243
              cases h243
              exact ⟨_, Stp.refl _ _ _, rfl⟩
            · rintro o244 w245 a246 ha ⟨hB, h12, h17⟩ ⟨r247, -⟩
              have ha := Fr.cons (d := 16) ha r247
              refine opS_of ha (⟨_, rfl, (congrArg (fun b => some (Value.bool b)) t36)⟩) ?_
              refine op1_val (ex_field rfl Try.underlying46 rfl Try.sizeOf3) ?_
              exact ⟨_, Stp.refl _ _ _, rfl⟩
            · rintro o248 w249 a250 ha ⟨hB, h12, h17⟩ ⟨r251, r252, -⟩
              have ha := Fr.cons (d := 16) ha r251
              have ha := Fr.cons (d := 23) ha r252
              refine opS_of ha (⟨_, rfl, (congrArg (fun b => some (Value.bool b)) t36)⟩) ?_
              refine op1_val (ex_load1 rfl Try.isAgg3 (h17.cell rfl)) ?_
              exact ⟨_, Stp.refl _ _ _, rfl⟩
            · rintro o253 w254 a255 ha ⟨hB, h12, h17⟩ ⟨r256, r257, r258, -⟩
              have ha := Fr.cons (d := 16) ha r256
              have ha := Fr.cons (d := 22) ha r257
              have ha := Fr.cons (d := 24) ha r258
              refine opS_of ha (⟨_, rfl, (congrArg (fun b => some (Value.bool b)) t36)⟩) ?_
              refine op1_val (ex_shr rfl rfl hx49) ?_
              exact ⟨_, Stp.refl _ _ _, rfl⟩
            · rintro o259 w260 a261 ha ⟨hB, h12, h17⟩ ⟨r262, r263, -⟩
              have ha := Fr.cons (d := 16) ha r262
              have ha := Fr.cons (d := 25) ha r263
              refine opS_of ha (⟨_, rfl, (congrArg (fun b => some (Value.bool b)) t36)⟩) ?_
              refine op1_val (ex_and rfl rfl) ?_
              exact ⟨_, Stp.refl _ _ _, rfl⟩
            · rintro o264 w265 a266 ha ⟨hB, h12, h17⟩ ⟨r267, r268, -⟩
              have ha := Fr.cons (d := 16) ha r267
              have ha := Fr.cons (d := 26) ha r268
              refine opS_of ha (⟨_, rfl, (congrArg (fun b => some (Value.bool b)) t36)⟩) ?_
              refine op1_val (ex_eql rfl rfl) ?_
              exact ⟨_, Stp.refl _ _ _, rfl⟩
            · rintro o269 w270 a271 ha ⟨hB, h12, h17⟩ ⟨r272, r273, -⟩
              have ha := Fr.cons (d := 16) ha r272
              have ha := Fr.cons (d := 27) ha r273
              refine opS_of ha (trivial) ?_
              refine op1_val (ex_pick_t (congrArg (fun b => some (Value.bool b)) t36) rfl) ?_
              exact ⟨_, Stp.refl _ _ _, rfl⟩
            · rintro o274 w275 a276 ha ⟨hB, h12, h17⟩ ⟨r277, -⟩
              have ha := Fr.cons (d := 28) ha r277
              refine opS_of ha (trivial) ?_
              refine op1_val (ex_move rfl) ?_
              exact ⟨_, Stp.refl _ _ _, rfl⟩
            · rintro o278 w279 a280 ha ⟨hB, h12, h17⟩ ⟨r281, -⟩
              have ha := Fr.cons (d := 29) ha r281
              exact opS_no ha rfl rfl rfl (by rw [t50]; rfl) ⟨_, Stp.refl _ _ _, rfl⟩
            · rintro o282 w283 a284 ha ⟨hB, h12, h17⟩ ⟨r285, -⟩
              have ha := Fr.cons (d := 29) ha r285
              exact opS_no ha rfl rfl rfl (by rw [t50]; rfl) ⟨_, Stp.refl _ _ _, rfl⟩
            · rintro o286 w287 a288 ha ⟨hB, h12, h17⟩ ⟨r289, -⟩
              have ha := Fr.cons (d := 29) ha r289
              exact opS_no ha rfl rfl rfl (by rw [t50]; rfl) ⟨_, Stp.refl _ _ _, rfl⟩
            · rintro o290 w291 a292 ha ⟨hB, h12, h17⟩ ⟨r293, -⟩
              have ha := Fr.cons (d := 29) ha r293
              exact opS_no ha rfl rfl rfl (by rw [t50]; rfl) ⟨_, Stp.refl _ _ _, rfl⟩
            · rintro o294 w295 a296 ha ⟨hB, h12, h17⟩ ⟨r297, -⟩
              have ha := Fr.cons (d := 29) ha r297
              exact opS_no ha rfl rfl rfl (by rw [t50]; rfl) ⟨_, Stp.refl _ _ _, rfl⟩
            · rintro o298 w299 a300 ha ⟨hB, h12, h17⟩ ⟨r301, -⟩
              have ha := Fr.cons (d := 29) ha r301
              exact opS_no ha rfl rfl rfl (by rw [t50]; rfl) ⟨_, Stp.refl _ _ _, rfl⟩
            · rintro o302 w303 a304 ha ⟨hB, h12, h17⟩ ⟨r305, -⟩
              have ha := Fr.cons (d := 29) ha r305
              exact opS_no ha rfl rfl rfl (by rw [t50]; rfl) ⟨_, Stp.refl _ _ _, rfl⟩
            · rintro o306 w307 a308 ha ⟨hB, h12, h17⟩ ⟨r309, -⟩
              have ha := Fr.cons (d := 29) ha r309
              exact opS_no ha rfl rfl rfl (by rw [t50]; rfl) ⟨_, Stp.refl _ _ _, rfl⟩
            · rintro o310 w311 a312 ha ⟨hB, h12, h17⟩ ⟨r313, -⟩
              have ha := Fr.cons (d := 29) ha r313
              exact opS_no ha rfl rfl rfl (by rw [t50]; rfl) ⟨_, Stp.refl _ _ _, rfl⟩
            · rintro o314 w315 a316 ha ⟨hB, h12, h17⟩ ⟨r317, -⟩
              have ha := Fr.cons (d := 29) ha r317
              exact opS_no ha rfl rfl rfl (by rw [t50]; rfl) ⟨_, Stp.refl _ _ _, rfl⟩
          rintro o318 w319 a320 ha ⟨hB, h12, h17⟩ ⟨-, -, -, -, -, -, -, -, -, -, -, -, -, -, r321, -, -, -, -, -, -, r322, -, -, r323, -⟩
          have ha := Fr.cons (d := 29) ha r321
          have ha := Fr.cons (d := 36) ha r322
          have ha := Fr.cons (d := 39) ha r323
          refine wl_of ha ?_
          simp only [List.length_cons, List.length_nil, Nat.zero_add, Nat.reduceAdd, List.drop_succ_cons, List.drop_zero]
          refine st_no rfl rfl (by rw [t50]; rfl) (by decide) ?_
          refine st_no rfl rfl (by rw [t50]; rfl) (by decide) ?_
          refine st_val (ex_pick_f (congrArg (fun b => some (Value.bool b)) t50) rfl) (by decide) trivial ?_
          refine st_val (ex_assign rfl) (by decide) trivial ?_
          have e324 := Option.some.inj hq32
          subst e324
          refine wpF_end (r := [(4, (.bool false))]) ⟨rfl, trivial⟩ ?_
          refine np_norm (fun a ha => ⟨o318, ha, hB⟩)
      · rw [if_neg (by rw [t36]; decide)] at hq32
        refine wpC_drawn (o := o19) [(2, (.pointer (some ⟨b11, 0, none⟩))), (3, (.pointer (some ⟨b16, 0, none⟩))), (5, (.bool x25))] [2, 3, 5] [15, 16, 17, 18, 19, 20, 21, 22, 23, 24, 25, 26, 27, 28, 29, 30, 31, 32, 33, 34, 35, 36, 37, 38, 39] [[], [0], [1], [1], [1], [1], [1], [1], [1], [1], [1], [1], [1], [1, 12], [13], [14], [14], [14], [14], [14], [14], [14], [14], [14], [14]] [none, none, none, none, none, none, none, none, none, none, none, none, none, none, none, none, none, none, none, none, none, none, none, none, none] [999, 999, 999, 999, 999, 999, 999, 999, 999, 999, 999, 999, 999, 999, 999, 999, 999, 999, 999, 999, 999, 999, 999, 999, 999] [0, 0, 0, 0, 0, 0, 0, 0, 0, 0, 0, 0, 0, 0, 0, 0, 0, 0, 0, 0, 0, 0, 0, 0, 0] [999] [fun v _ _ => v = (.bool x25), fun v _ _ => v = (.bool x25), fun v _ _ => v = undef, fun v _ _ => v = undef, fun v _ _ => v = undef, fun v _ _ => v = undef, fun v _ _ => v = undef, fun v _ _ => v = undef, fun v _ _ => v = undef, fun v _ _ => v = undef, fun v _ _ => v = undef, fun v _ _ => v = undef, fun v _ _ => v = undef, fun v _ _ => v = (.bool false), fun v _ _ => v = (.bool false), fun v _ _ => v = undef, fun v _ _ => v = undef, fun v _ _ => v = undef, fun v _ _ => v = undef, fun v _ _ => v = undef, fun v _ _ => v = undef, fun v _ _ => v = undef, fun v _ _ => v = undef, fun v _ _ => v = undef, fun v _ _ => v = undef] (fun o8 w8 => Bs (fun _ => 1) o8 w w8 ∧ Bx w.heap.size 11 o8 w8 b11 44 [(.int .i64 p0.Labels), v1] ∧ Bx w.heap.size 12 o8 w8 b16 46 [(.int .i64 p1.Class), (.int .i64 p1.Label), v3, v5, v7]) follows_mixed (by kernel_rfl) rfl ⟨rfl, rfl, rfl, trivial⟩ ⟨hB, h12, h17⟩ ?_ ⟨st_eq _, st_eq _, st_eq _, st_eq _, st_eq _, st_eq _, st_eq _, st_eq _, st_eq _, st_eq _, st_eq _, st_eq _, st_eq _, st_eq _, st_eq _, st_eq _, st_eq _, st_eq _, st_eq _, st_eq _, st_eq _, st_eq _, st_eq _, st_eq _, st_eq _, trivial⟩ ?_ ?_
        · rintro t9 o1 w1 o2 w2 ht9 ⟨hB, h12, h17⟩ hs9
          have ht9 : t9 = 999 := by simpa using ht9
          subst ht9
          all_goals exact ⟨hB.stp hs9 (by decide), h12.stp hs9 (by decide), h17.stp hs9 (by decide)⟩
        · refine ⟨?_, ?_, ?_, ?_, ?_, ?_, ?_, ?_, ?_, ?_, ?_, ?_, ?_, ?_, ?_, ?_, ?_, ?_, ?_, ?_, ?_, ?_, ?_, ?_, ?_, trivial⟩
          · rintro o325 w326 a327 ha ⟨hB, h12, h17⟩ -
            refine opS_of ha (trivial) ?_
            refine op1_val (ex_move rfl) ?_
            exact ⟨_, Stp.refl _ _ _, rfl⟩
          · rintro o328 w329 a330 ha ⟨hB, h12, h17⟩ ⟨r331, -⟩
            have ha := Fr.cons (d := 15) ha r331
            refine opS_of ha (trivial) ?_
            refine op1_val (ex_move rfl) ?_
            exact ⟨_, Stp.refl _ _ _, rfl⟩
          · rintro o332 w333 a334 ha ⟨hB, h12, h17⟩ ⟨r335, -⟩
            have ha := Fr.cons (d := 16) ha r335
            exact opS_no ha rfl rfl rfl (by rw [t36]; rfl) ⟨_, Stp.refl _ _ _, rfl⟩
          · rintro o336 w337 a338 ha ⟨hB, h12, h17⟩ ⟨r339, -⟩
            have ha := Fr.cons (d := 16) ha r339
            exact opS_no ha rfl rfl rfl (by rw [t36]; rfl) ⟨_, Stp.refl _ _ _, rfl⟩
          · rintro o340 w341 a342 ha ⟨hB, h12, h17⟩ ⟨r343, -⟩
            have ha := Fr.cons (d := 16) ha r343
            exact opS_no ha rfl rfl rfl (by rw [t36]; rfl) ⟨_, Stp.refl _ _ _, rfl⟩
          · rintro o344 w345 a346 ha ⟨hB, h12, h17⟩ ⟨r347, -⟩
            have ha := Fr.cons (d := 16) ha r347
            exact opS_no ha rfl rfl rfl (by rw [t36]; rfl) ⟨_, Stp.refl _ _ _, rfl⟩
          · rintro o348 w349 a350 ha ⟨hB, h12, h17⟩ ⟨r351, -⟩
            have ha := Fr.cons (d := 16) ha r351
            exact opS_no ha rfl rfl rfl (by rw [t36]; rfl) ⟨_, Stp.refl _ _ _, rfl⟩
          · rintro o352 w353 a354 ha ⟨hB, h12, h17⟩ ⟨r355, -⟩
            have ha := Fr.cons (d := 16) ha r355
            exact opS_no ha rfl rfl rfl (by rw [t36]; rfl) ⟨_, Stp.refl _ _ _, rfl⟩
          · rintro o356 w357 a358 ha ⟨hB, h12, h17⟩ ⟨r359, -⟩
            have ha := Fr.cons (d := 16) ha r359
            exact opS_no ha rfl rfl rfl (by rw [t36]; rfl) ⟨_, Stp.refl _ _ _, rfl⟩
          · rintro o360 w361 a362 ha ⟨hB, h12, h17⟩ ⟨r363, -⟩
            have ha := Fr.cons (d := 16) ha r363
            exact opS_no ha rfl rfl rfl (by rw [t36]; rfl) ⟨_, Stp.refl _ _ _, rfl⟩
          · rintro o364 w365 a366 ha ⟨hB, h12, h17⟩ ⟨r367, -⟩
            have ha := Fr.cons (d := 16) ha r367
            exact opS_no ha rfl rfl rfl (by rw [t36]; rfl) ⟨_, Stp.refl _ _ _, rfl⟩
          · rintro o368 w369 a370 ha ⟨hB, h12, h17⟩ ⟨r371, -⟩
            have ha := Fr.cons (d := 16) ha r371
            exact opS_no ha rfl rfl rfl (by rw [t36]; rfl) ⟨_, Stp.refl _ _ _, rfl⟩
          · rintro o372 w373 a374 ha ⟨hB, h12, h17⟩ ⟨r375, -⟩
            have ha := Fr.cons (d := 16) ha r375
            exact opS_no ha rfl rfl rfl (by rw [t36]; rfl) ⟨_, Stp.refl _ _ _, rfl⟩
          · rintro o376 w377 a378 ha ⟨hB, h12, h17⟩ ⟨r379, r380, -⟩
            have ha := Fr.cons (d := 16) ha r379
            have ha := Fr.cons (d := 27) ha r380
            refine opS_of ha (trivial) ?_
            refine op1_val (ex_pick_f (congrArg (fun b => some (Value.bool b)) t36) rfl) ?_
            exact ⟨_, Stp.refl _ _ _, rfl⟩
          · rintro o381 w382 a383 ha ⟨hB, h12, h17⟩ ⟨r384, -⟩
            have ha := Fr.cons (d := 28) ha r384
            refine opS_of ha (trivial) ?_
            refine op1_val (ex_move rfl) ?_
            exact ⟨_, Stp.refl _ _ _, rfl⟩
          · rintro o385 w386 a387 ha ⟨hB, h12, h17⟩ ⟨r388, -⟩
            have ha := Fr.cons (d := 29) ha r388
            exact opS_no ha rfl rfl rfl rfl ⟨_, Stp.refl _ _ _, rfl⟩
          · rintro o389 w390 a391 ha ⟨hB, h12, h17⟩ ⟨r392, -⟩
            have ha := Fr.cons (d := 29) ha r392
            exact opS_no ha rfl rfl rfl rfl ⟨_, Stp.refl _ _ _, rfl⟩
          · rintro o393 w394 a395 ha ⟨hB, h12, h17⟩ ⟨r396, -⟩
            have ha := Fr.cons (d := 29) ha r396
            exact opS_no ha rfl rfl rfl rfl ⟨_, Stp.refl _ _ _, rfl⟩
          · rintro o397 w398 a399 ha ⟨hB, h12, h17⟩ ⟨r400, -⟩
            have ha := Fr.cons (d := 29) ha r400
            exact opS_no ha rfl rfl rfl rfl ⟨_, Stp.refl _ _ _, rfl⟩
          · rintro o401 w402 a403 ha ⟨hB, h12, h17⟩ ⟨r404, -⟩
            have ha := Fr.cons (d := 29) ha r404
            exact opS_no ha rfl rfl rfl rfl ⟨_, Stp.refl _ _ _, rfl⟩
          · rintro o405 w406 a407 ha ⟨hB, h12, h17⟩ ⟨r408, -⟩
            have ha := Fr.cons (d := 29) ha r408
            exact opS_no ha rfl rfl rfl rfl ⟨_, Stp.refl _ _ _, rfl⟩
          · rintro o409 w410 a411 ha ⟨hB, h12, h17⟩ ⟨r412, -⟩
            have ha := Fr.cons (d := 29) ha r412
            exact opS_no ha rfl rfl rfl rfl ⟨_, Stp.refl _ _ _, rfl⟩
          · rintro o413 w414 a415 ha ⟨hB, h12, h17⟩ ⟨r416, -⟩
            have ha := Fr.cons (d := 29) ha r416
            exact opS_no ha rfl rfl rfl rfl ⟨_, Stp.refl _ _ _, rfl⟩
          · rintro o417 w418 a419 ha ⟨hB, h12, h17⟩ ⟨r420, -⟩
            have ha := Fr.cons (d := 29) ha r420
            exact opS_no ha rfl rfl rfl rfl ⟨_, Stp.refl _ _ _, rfl⟩
          · rintro o421 w422 a423 ha ⟨hB, h12, h17⟩ ⟨r424, -⟩
            have ha := Fr.cons (d := 29) ha r424
            exact opS_no ha rfl rfl rfl rfl ⟨_, Stp.refl _ _ _, rfl⟩
        rintro o425 w426 a427 ha ⟨hB, h12, h17⟩ ⟨-, -, -, -, -, -, -, -, -, -, -, -, -, -, r428, -, -, -, -, -, -, r429, -, -, r430, -⟩
        have ha := Fr.cons (d := 29) ha r428
        have ha := Fr.cons (d := 36) ha r429
        have ha := Fr.cons (d := 39) ha r430
        refine wl_of ha ?_
        simp only [List.length_cons, List.length_nil, Nat.zero_add, Nat.reduceAdd, List.drop_succ_cons, List.drop_zero]
        refine st_no rfl rfl rfl (by decide) ?_
        refine st_no rfl rfl rfl (by decide) ?_
        refine st_val (ex_pick_f rfl rfl) (by decide) trivial ?_
        refine st_val (ex_assign rfl) (by decide) trivial ?_
        have e431 := Option.some.inj hq32
        subst e431
        refine wpF_end (r := [(4, (.bool false))]) ⟨rfl, trivial⟩ ?_
        refine np_norm (fun a ha => ⟨o425, ha, hB⟩)
    rintro a432 w34 ⟨o33, ha, hB⟩
    refine ap_k ha ?_
    refine nx ?_
    refine wpC_ret ?_
    refine nb_ret ?_
    refine nt_ret ?_
    have e433 := Option.some.inj hF
    subst e433
    refine ret_post (P := Try.prog) (vs := [(.bool q32)]) Try.results64 ⟨rfl, trivial⟩ ?_
    exact ⟨rfl, hB.keeps⟩
  · rw [if_neg (by rw [t31]; decide)] at hF
    refine wpC_seq ?_
    refine wpC_region ?_
    refine st_val (ex_eql rfl rfl) (by decide) trivial ?_
    refine st_val (ex_assign rfl) (by decide) trivial ?_
    refine wpF_end (r := [(2, (.pointer (some ⟨b11, 0, none⟩))), (3, (.pointer (some ⟨b16, 0, none⟩))), (5, (.bool x25)), (12, (.int .i64 p1.Class)), (43, (.bool (p1.Class == 2)))]) ⟨rfl, rfl, rfl, rfl, rfl, trivial⟩ ?_
    refine nx ?_
    refine wpC_cond rfl (fun t434 => ?_) (fun t434 => ?_)
    · rw [if_pos t434] at hF
      refine wpC_seq ?_
      refine wpC_region ?_
      refine st_val (ex_move rfl) (by decide) trivial ?_
      refine st_val (ex_move rfl) (by decide) trivial ?_
      obtain ⟨q435, hq435, hF⟩ := bind_some hF
      refine wpF_cutAt 39 (fun a437 w436 => Fr a437 130 [(85, (.bool q435))] ∧ Keeps w26 w436) ?_ ?_
      all_goals simp only [List.take_succ_cons, List.take_zero, List.drop_succ_cons, List.drop_zero]
      · have kp : Keeps w26 w26 := Keeps.refl _
        rcases Bool.eq_false_or_eq_true (x25) with t438 | t438
        · rw [if_pos t438] at hq435
          refine st_val (ex_loadA rfl Try.isAgg44 Try.sizeOf44 rfl h12.cells) (by decide) ⟨_, rfl, (congrArg (fun b => some (Value.bool b)) t438)⟩ ?_
          obtain ⟨x439, hx439, hq435⟩ := bind_some hq435
          refine st_op (by decide) ⟨_, rfl, (congrArg (fun b => some (Value.bool b)) t438)⟩ ?_
          refine wf_call (cI_WalkProblem_loopOf w26 _ p0 (⟨_, rfl, (h2.keep hB.keeps)⟩) x439 hx439) Try.call112 ⟨rfl, trivial⟩ ?_
          rintro e444 w440 ⟨rfl, k441⟩
          have s443 := k441.stp 999 o19
          refine ⟨_, rfl, ?_⟩
          replace h12 := h12.stp s443 (by decide)
          replace h17 := h17.stp s443 (by decide)
          replace hB := hB.stp s443 (by decide)
          replace kp := Keeps.trans kp k441
          refine st_val (ex_lss rfl rfl) (by decide) ⟨_, rfl, (congrArg (fun b => some (Value.bool b)) t438)⟩ ?_
          refine st_val (ex_pick_t (congrArg (fun b => some (Value.bool b)) t438) rfl) (by decide) trivial ?_
          refine st_val (ex_move rfl) (by decide) trivial ?_
          rcases Bool.eq_false_or_eq_true (decide (x439 < 0)) with t445 | t445
          · rw [if_pos t445] at hq435
            refine st_val (ex_field rfl Try.underlying46 rfl Try.sizeOf22) (by decide) ⟨_, rfl, (congrArg (fun b => some (Value.bool b)) t445)⟩ ?_
            refine st_val (ex_load1 rfl Try.isAgg22 (h17.cell rfl)) (by decide) ⟨_, rfl, (congrArg (fun b => some (Value.bool b)) t445)⟩ ?_
            refine st_val (ex_lenR rfl h8 Try.underlying22) (by decide) ⟨_, rfl, (congrArg (fun b => some (Value.bool b)) t445)⟩ ?_
            refine st_val (ex_eql rfl rfl) (by decide) ⟨_, rfl, (congrArg (fun b => some (Value.bool b)) t445)⟩ ?_
            refine st_val (ex_pick_t (congrArg (fun b => some (Value.bool b)) t445) rfl) (by decide) trivial ?_
            refine st_val (ex_move rfl) (by decide) trivial ?_
            rcases Bool.eq_false_or_eq_true ((p1.Ranks.length : Int) == 0) with t446 | t446
            · rw [if_pos t446] at hq435
              refine st_val (ex_loadA rfl Try.isAgg44 Try.sizeOf44 rfl h12.cells) (by decide) ⟨_, rfl, (congrArg (fun b => some (Value.bool b)) t446)⟩ ?_
              refine st_val (ex_field rfl Try.underlying46 rfl Try.sizeOf26) (by decide) ⟨_, rfl, (congrArg (fun b => some (Value.bool b)) t446)⟩ ?_
              refine st_val (ex_load1 rfl Try.isAgg26 (h17.cell rfl)) (by decide) ⟨_, rfl, (congrArg (fun b => some (Value.bool b)) t446)⟩ ?_
              refine st_val (ex_field rfl Try.underlying46 rfl Try.sizeOf3) (by decide) ⟨_, rfl, (congrArg (fun b => some (Value.bool b)) t446)⟩ ?_
              refine st_val (ex_load1 rfl Try.isAgg3 (h17.cell rfl)) (by decide) ⟨_, rfl, (congrArg (fun b => some (Value.bool b)) t446)⟩ ?_
              obtain ⟨x447, hx447, hq435⟩ := bind_some hq435
              refine st_op (by decide) ⟨_, rfl, (congrArg (fun b => some (Value.bool b)) t446)⟩ ?_
              refine wf_call (cI_WalkProblem_isClosedFrom fuel w440 _ p0 (⟨_, rfl, (h2.keep hB.keeps)⟩) _ p1.First (h4.keep hB.keeps) p1.Label x447 hx447) Try.call113 ⟨rfl, rfl, rfl, trivial⟩ ?_
              rintro e452 w448 ⟨rfl, k449⟩
              have s451 := k449.stp 999 o19
              refine ⟨_, rfl, ?_⟩
              replace h12 := h12.stp s451 (by decide)
              replace h17 := h17.stp s451 (by decide)
              replace hB := hB.stp s451 (by decide)
              replace kp := Keeps.trans kp k449
              refine st_val (ex_pick_t (congrArg (fun b => some (Value.bool b)) t446) rfl) (by decide) trivial ?_
              refine st_val (ex_move rfl) (by decide) trivial ?_
              rcases Bool.eq_false_or_eq_true (x447) with t453 | t453
              · rw [if_pos t453] at hq435
                refine st_val (ex_loadA rfl Try.isAgg44 Try.sizeOf44 rfl h12.cells) (by decide) ⟨_, rfl, (congrArg (fun b => some (Value.bool b)) t453)⟩ ?_
                refine st_val (ex_field rfl Try.underlying46 rfl Try.sizeOf26) (by decide) ⟨_, rfl, (congrArg (fun b => some (Value.bool b)) t453)⟩ ?_
                refine st_val (ex_load1 rfl Try.isAgg26 (h17.cell rfl)) (by decide) ⟨_, rfl, (congrArg (fun b => some (Value.bool b)) t453)⟩ ?_
                refine st_val (ex_field rfl Try.underlying46 rfl Try.sizeOf3) (by decide) ⟨_, rfl, (congrArg (fun b => some (Value.bool b)) t453)⟩ ?_
                refine st_val (ex_load1 rfl Try.isAgg3 (h17.cell rfl)) (by decide) ⟨_, rfl, (congrArg (fun b => some (Value.bool b)) t453)⟩ ?_
                obtain ⟨x454, hx454, hq435⟩ := bind_some hq435
                refine st_op (by decide) ⟨_, rfl, (congrArg (fun b => some (Value.bool b)) t453)⟩ ?_
                refine wf_call (cI_WalkProblem_isClosedFrom fuel w448 _ p0 (⟨_, rfl, (h2.keep hB.keeps)⟩) _ p1.Second (h6.keep hB.keeps) p1.Label x454 hx454) Try.call113 ⟨rfl, rfl, rfl, trivial⟩ ?_
                rintro e459 w455 ⟨rfl, k456⟩
                have s458 := k456.stp 999 o19
                refine ⟨_, rfl, ?_⟩
                replace h12 := h12.stp s458 (by decide)
                replace h17 := h17.stp s458 (by decide)
                replace hB := hB.stp s458 (by decide)
                replace kp := Keeps.trans kp k456
                refine st_val (ex_pick_t (congrArg (fun b => some (Value.bool b)) t453) rfl) (by decide) trivial ?_
                refine st_val (ex_move rfl) (by decide) trivial ?_
                rcases Bool.eq_false_or_eq_true (x454) with t460 | t460
                · rw [if_pos t460] at hq435
                  refine st_val (ex_field rfl Try.underlying46 rfl Try.sizeOf26) (by decide) ⟨_, rfl, (congrArg (fun b => some (Value.bool b)) t460)⟩ ?_
                  refine st_val (ex_load1 rfl Try.isAgg26 (h17.cell rfl)) (by decide) ⟨_, rfl, (congrArg (fun b => some (Value.bool b)) t460)⟩ ?_
                  refine st_val (ex_lenR rfl h4 Try.underlying26) (by decide) ⟨_, rfl, (congrArg (fun b => some (Value.bool b)) t460)⟩ ?_
                  obtain ⟨x461, hx461, hq435⟩ := bind_some hq435
                  refine st_val (ex_sub rfl rfl hx461) (by decide) ⟨_, rfl, (congrArg (fun b => some (Value.bool b)) t460)⟩ ?_
                  refine st_val (ex_field rfl Try.underlying46 rfl Try.sizeOf26) (by decide) ⟨_, rfl, (congrArg (fun b => some (Value.bool b)) t460)⟩ ?_
                  refine st_val (ex_load1 rfl Try.isAgg26 (h17.cell rfl)) (by decide) ⟨_, rfl, (congrArg (fun b => some (Value.bool b)) t460)⟩ ?_
                  refine st_val (ex_lenR rfl h6 Try.underlying26) (by decide) ⟨_, rfl, (congrArg (fun b => some (Value.bool b)) t460)⟩ ?_
                  obtain ⟨x462, hx462, hq435⟩ := bind_some hq435
                  refine st_val (ex_sub rfl rfl hx462) (by decide) ⟨_, rfl, (congrArg (fun b => some (Value.bool b)) t460)⟩ ?_
                  refine st_op (by decide) ⟨_, rfl, (congrArg (fun b => some (Value.bool b)) t460)⟩ ?_
                  refine wf_litR (o := o19) (cs := [(.int .i64 x461), (.int .i64 x462)]) (xs := ([x461, x462] : List Int)) (vs := [(0, (.int .i64 x461)), (1, (.int .i64 x462))]) ⟨_, _, rfl, rfl, ⟨_, _, rfl, rfl, rfl⟩⟩ rfl ⟨rfl, rfl, rfl, rfl, trivial⟩ Try.underlying26 Try.sizeOf3 Try.zeroValue3 (by decide) (fill2 rfl rfl) (by simp) ?_
                  intro o463 w464 v465 h466 s467 k468
                  replace h12 := h12.stp s467 (by decide)
                  replace h17 := h17.stp s467 (by decide)
                  replace hB := hB.stp s467 (by decide)
                  replace kp := Keeps.trans kp k468
                  obtain ⟨x469, hx469, hq435⟩ := bind_some hq435
                  refine st_op (by decide) ⟨_, rfl, (congrArg (fun b => some (Value.bool b)) t460)⟩ ?_
                  refine wf_call (cI_gcd w464 _ ([x461, x462] : List Int) h466.z x469 hx469) Try.call114 ⟨rfl, trivial⟩ ?_
                  rintro e474 w470 ⟨rfl, k471⟩
                  have s473 := k471.stp 999 o463
                  refine ⟨_, rfl, ?_⟩
                  replace h466 := h466.stp s473 (by decide)
                  replace h12 := h12.stp s473 (by decide)
                  replace h17 := h17.stp s473 (by decide)
                  replace hB := hB.stp s473 (by decide)
                  replace kp := Keeps.trans kp k471
                  refine st_val (ex_eql rfl rfl) (by decide) ⟨_, rfl, (congrArg (fun b => some (Value.bool b)) t460)⟩ ?_
                  refine st_val (ex_pick_t (congrArg (fun b => some (Value.bool b)) t460) rfl) (by decide) trivial ?_
                  have hq4352 := Option.some.inj hq435
                  refine wpF_end (r := [(85, (.bool (x469 == 1)))]) ⟨rfl, trivial⟩ ?_
                  subst hq4352
                  refine np_norm (fun a ha => ⟨ha, kp⟩)
                · rw [if_neg (by rw [t460]; decide)] at hq435
                  refine st_no rfl rfl (by rw [t460]; rfl) (by decide) ?_
                  refine st_no rfl rfl (by rw [t460]; rfl) (by decide) ?_
                  refine st_no rfl rfl (by rw [t460]; rfl) (by decide) ?_
                  refine st_no rfl rfl (by rw [t460]; rfl) (by decide) ?_
                  refine st_no rfl rfl (by rw [t460]; rfl) (by decide) ?_
                  refine st_no rfl rfl (by rw [t460]; rfl) (by decide) ?_
                  refine st_no rfl rfl (by rw [t460]; rfl) (by decide) ?_
                  refine st_no rfl rfl (by rw [t460]; rfl) (by decide) ?_
                  refine st_no rfl rfl (by rw [t460]; rfl) (by decide) ?_
                  refine st_no rfl rfl (by rw [t460]; rfl) (by decide) ?_
                  refine st_no rfl rfl (by rw [t460]; rfl) (by decide) ?_
                  refine st_val (ex_pick_f (congrArg (fun b => some (Value.bool b)) t460) rfl) (by decide) trivial ?_
                  have hq4352 := Option.some.inj hq435
                  refine wpF_end (r := [(85, (.bool false))]) ⟨rfl, trivial⟩ ?_
                  subst hq4352
                  refine np_norm (fun a ha => ⟨ha, kp⟩)
              · rw [if_neg (by rw [t453]; decide)] at hq435
                refine st_no rfl rfl (by rw [t453]; rfl) (by decide) ?_
                refine st_no rfl rfl (by rw [t453]; rfl) (by decide) ?_
                refine st_no rfl rfl (by rw [t453]; rfl) (by decide) ?_
                refine st_no rfl rfl (by rw [t453]; rfl) (by decide) ?_
                refine st_no rfl rfl (by rw [t453]; rfl) (by decide) ?_
                refine st_no rfl rfl (by rw [t453]; rfl) (by decide) ?_
                refine st_val (ex_pick_f (congrArg (fun b => some (Value.bool b)) t453) rfl) (by decide) trivial ?_
                refine st_val (ex_move rfl) (by decide) trivial ?_
                refine st_no rfl rfl rfl (by decide) ?_
                refine st_no rfl rfl rfl (by decide) ?_
                refine st_no rfl rfl rfl (by decide) ?_
                refine st_no rfl rfl rfl (by decide) ?_
                refine st_no rfl rfl rfl (by decide) ?_
                refine st_no rfl rfl rfl (by decide) ?_
                refine st_no rfl rfl rfl (by decide) ?_
                refine st_no rfl rfl rfl (by decide) ?_
                refine st_no rfl rfl rfl (by decide) ?_
                refine st_no rfl rfl rfl (by decide) ?_
                refine st_no rfl rfl rfl (by decide) ?_
                refine st_val (ex_pick_f rfl rfl) (by decide) trivial ?_
                have hq4352 := Option.some.inj hq435
                refine wpF_end (r := [(85, (.bool false))]) ⟨rfl, trivial⟩ ?_
                subst hq4352
                refine np_norm (fun a ha => ⟨ha, kp⟩)
            · rw [if_neg (by rw [t446]; decide)] at hq435
              refine st_no rfl rfl (by rw [t446]; rfl) (by decide) ?_
              refine st_no rfl rfl (by rw [t446]; rfl) (by decide) ?_
              refine st_no rfl rfl (by rw [t446]; rfl) (by decide) ?_
              refine st_no rfl rfl (by rw [t446]; rfl) (by decide) ?_
              refine st_no rfl rfl (by rw [t446]; rfl) (by decide) ?_
              refine st_no rfl rfl (by rw [t446]; rfl) (by decide) ?_
              refine st_val (ex_pick_f (congrArg (fun b => some (Value.bool b)) t446) rfl) (by decide) trivial ?_
              refine st_val (ex_move rfl) (by decide) trivial ?_
              refine st_no rfl rfl rfl (by decide) ?_
              refine st_no rfl rfl rfl (by decide) ?_
              refine st_no rfl rfl rfl (by decide) ?_
              refine st_no rfl rfl rfl (by decide) ?_
              refine st_no rfl rfl rfl (by decide) ?_
              refine st_no rfl rfl rfl (by decide) ?_
              refine st_val (ex_pick_f rfl rfl) (by decide) trivial ?_
              refine st_val (ex_move rfl) (by decide) trivial ?_
              refine st_no rfl rfl rfl (by decide) ?_
              refine st_no rfl rfl rfl (by decide) ?_
              refine st_no rfl rfl rfl (by decide) ?_
              refine st_no rfl rfl rfl (by decide) ?_
              refine st_no rfl rfl rfl (by decide) ?_
              refine st_no rfl rfl rfl (by decide) ?_
              refine st_no rfl rfl rfl (by decide) ?_
              refine st_no rfl rfl rfl (by decide) ?_
              refine st_no rfl rfl rfl (by decide) ?_
              refine st_no rfl rfl rfl (by decide) ?_
              refine st_no rfl rfl rfl (by decide) ?_
              refine st_val (ex_pick_f rfl rfl) (by decide) trivial ?_
              have hq4352 := Option.some.inj hq435
              refine wpF_end (r := [(85, (.bool false))]) ⟨rfl, trivial⟩ ?_
              subst hq4352
              refine np_norm (fun a ha => ⟨ha, kp⟩)
          · rw [if_neg (by rw [t445]; decide)] at hq435
            refine st_no rfl rfl (by rw [t445]; rfl) (by decide) ?_
            refine st_no rfl rfl (by rw [t445]; rfl) (by decide) ?_
            refine st_no rfl rfl (by rw [t445]; rfl) (by decide) ?_
            refine st_no rfl rfl (by rw [t445]; rfl) (by decide) ?_
            refine st_val (ex_pick_f (congrArg (fun b => some (Value.bool b)) t445) rfl) (by decide) trivial ?_
            refine st_val (ex_move rfl) (by decide) trivial ?_
            refine st_no rfl rfl rfl (by decide) ?_
            refine st_no rfl rfl rfl (by decide) ?_
            refine st_no rfl rfl rfl (by decide) ?_
            refine st_no rfl rfl rfl (by decide) ?_
            refine st_no rfl rfl rfl (by decide) ?_
            refine st_no rfl rfl rfl (by decide) ?_
            refine st_val (ex_pick_f rfl rfl) (by decide) trivial ?_
            refine st_val (ex_move rfl) (by decide) trivial ?_
            refine st_no rfl rfl rfl (by decide) ?_
            refine st_no rfl rfl rfl (by decide) ?_
            refine st_no rfl rfl rfl (by decide) ?_
            refine st_no rfl rfl rfl (by decide) ?_
            refine st_no rfl rfl rfl (by decide) ?_
            refine st_no rfl rfl rfl (by decide) ?_
            refine st_val (ex_pick_f rfl rfl) (by decide) trivial ?_
            refine st_val (ex_move rfl) (by decide) trivial ?_
            refine st_no rfl rfl rfl (by decide) ?_
            refine st_no rfl rfl rfl (by decide) ?_
            refine st_no rfl rfl rfl (by decide) ?_
            refine st_no rfl rfl rfl (by decide) ?_
            refine st_no rfl rfl rfl (by decide) ?_
            refine st_no rfl rfl rfl (by decide) ?_
            refine st_no rfl rfl rfl (by decide) ?_
            refine st_no rfl rfl rfl (by decide) ?_
            refine st_no rfl rfl rfl (by decide) ?_
            refine st_no rfl rfl rfl (by decide) ?_
            refine st_no rfl rfl rfl (by decide) ?_
            refine st_val (ex_pick_f rfl rfl) (by decide) trivial ?_
            have hq4352 := Option.some.inj hq435
            refine wpF_end (r := [(85, (.bool false))]) ⟨rfl, trivial⟩ ?_
            subst hq4352
            refine np_norm (fun a ha => ⟨ha, kp⟩)
        · rw [if_neg (by rw [t438]; decide)] at hq435
          refine st_no rfl rfl (by rw [t438]; rfl) (by decide) ?_
          refine st_no rfl rfl (by rw [t438]; rfl) (by decide) ?_
          refine st_no rfl rfl (by rw [t438]; rfl) (by decide) ?_
          refine st_val (ex_pick_f (congrArg (fun b => some (Value.bool b)) t438) rfl) (by decide) trivial ?_
          refine st_val (ex_move rfl) (by decide) trivial ?_
          refine st_no rfl rfl rfl (by decide) ?_
          refine st_no rfl rfl rfl (by decide) ?_
          refine st_no rfl rfl rfl (by decide) ?_
          refine st_no rfl rfl rfl (by decide) ?_
          refine st_val (ex_pick_f rfl rfl) (by decide) trivial ?_
          refine st_val (ex_move rfl) (by decide) trivial ?_
          refine st_no rfl rfl rfl (by decide) ?_
          refine st_no rfl rfl rfl (by decide) ?_
          refine st_no rfl rfl rfl (by decide) ?_
          refine st_no rfl rfl rfl (by decide) ?_
          refine st_no rfl rfl rfl (by decide) ?_
          refine st_no rfl rfl rfl (by decide) ?_
          refine st_val (ex_pick_f rfl rfl) (by decide) trivial ?_
          refine st_val (ex_move rfl) (by decide) trivial ?_
          refine st_no rfl rfl rfl (by decide) ?_
          refine st_no rfl rfl rfl (by decide) ?_
          refine st_no rfl rfl rfl (by decide) ?_
          refine st_no rfl rfl rfl (by decide) ?_
          refine st_no rfl rfl rfl (by decide) ?_
          refine st_no rfl rfl rfl (by decide) ?_
          refine st_val (ex_pick_f rfl rfl) (by decide) trivial ?_
          refine st_val (ex_move rfl) (by decide) trivial ?_
          refine st_no rfl rfl rfl (by decide) ?_
          refine st_no rfl rfl rfl (by decide) ?_
          refine st_no rfl rfl rfl (by decide) ?_
          refine st_no rfl rfl rfl (by decide) ?_
          refine st_no rfl rfl rfl (by decide) ?_
          refine st_no rfl rfl rfl (by decide) ?_
          refine st_no rfl rfl rfl (by decide) ?_
          refine st_no rfl rfl rfl (by decide) ?_
          refine st_no rfl rfl rfl (by decide) ?_
          refine st_no rfl rfl rfl (by decide) ?_
          refine st_no rfl rfl rfl (by decide) ?_
          refine st_val (ex_pick_f rfl rfl) (by decide) trivial ?_
          have hq4352 := Option.some.inj hq435
          refine wpF_end (r := [(85, (.bool false))]) ⟨rfl, trivial⟩ ?_
          subst hq4352
          refine np_norm (fun a ha => ⟨ha, kp⟩)
      rintro a477 w436 ⟨ha, k475⟩
      have s476 := k475.stp 999 o19
      replace h12 := h12.stp s476 (by decide)
      replace h17 := h17.stp s476 (by decide)
      replace hB := hB.stp s476 (by decide)
      refine wl_of ha ?_
      refine st_val (ex_assign rfl) (by decide) trivial ?_
      refine wpF_end (r := [(4, (.bool q435))]) ⟨rfl, trivial⟩ ?_
      refine nx ?_
      refine wpC_ret ?_
      refine nb_ret ?_
      refine nt_ret ?_
      have e478 := Option.some.inj hF
      subst e478
      refine ret_post (P := Try.prog) (vs := [(.bool q435)]) Try.results64 ⟨rfl, trivial⟩ ?_
      exact ⟨rfl, hB.keeps⟩
    · rw [if_neg (by rw [t434]; decide)] at hF
      refine wpC_seq ?_
      refine wpC_region ?_
      refine st_val (ex_eql rfl rfl) (by decide) trivial ?_
      refine st_val (ex_assign rfl) (by decide) trivial ?_
      refine wpF_end (r := [(2, (.pointer (some ⟨b11, 0, none⟩))), (3, (.pointer (some ⟨b16, 0, none⟩))), (5, (.bool x25)), (12, (.int .i64 p1.Class)), (86, (.bool (p1.Class == 1)))]) ⟨rfl, rfl, rfl, rfl, rfl, trivial⟩ ?_
      refine nx ?_
      refine wpC_cond rfl (fun t479 => ?_) (fun t479 => ?_)
      · rw [if_pos t479] at hF
        refine wpC_seq ?_
        refine wpC_region ?_
        refine st_val (ex_move rfl) (by decide) trivial ?_
        refine st_val (ex_move rfl) (by decide) trivial ?_
        obtain ⟨q480, hq480, hF⟩ := bind_some hF
        refine wpF_cutAt 19 (fun a482 w481 => Fr a482 130 [(108, (.bool q480))] ∧ Keeps w26 w481) ?_ ?_
        all_goals simp only [List.take_succ_cons, List.take_zero, List.drop_succ_cons, List.drop_zero]
        · have kp : Keeps w26 w26 := Keeps.refl _
          rcases Bool.eq_false_or_eq_true (x25) with t483 | t483
          · rw [if_pos t483] at hq480
            refine st_val (ex_field rfl Try.underlying46 rfl Try.sizeOf26) (by decide) ⟨_, rfl, (congrArg (fun b => some (Value.bool b)) t483)⟩ ?_
            refine st_val (ex_load1 rfl Try.isAgg26 (h17.cell rfl)) (by decide) ⟨_, rfl, (congrArg (fun b => some (Value.bool b)) t483)⟩ ?_
            refine st_val (ex_lenR rfl h6 Try.underlying26) (by decide) ⟨_, rfl, (congrArg (fun b => some (Value.bool b)) t483)⟩ ?_
            refine st_val (ex_eql rfl rfl) (by decide) ⟨_, rfl, (congrArg (fun b => some (Value.bool b)) t483)⟩ ?_
            refine st_val (ex_pick_t (congrArg (fun b => some (Value.bool b)) t483) rfl) (by decide) trivial ?_
            refine st_val (ex_move rfl) (by decide) trivial ?_
            rcases Bool.eq_false_or_eq_true ((p1.Second.length : Int) == 0) with t484 | t484
            · rw [if_pos t484] at hq480
              refine st_val (ex_loadA rfl Try.isAgg44 Try.sizeOf44 rfl h12.cells) (by decide) ⟨_, rfl, (congrArg (fun b => some (Value.bool b)) t484)⟩ ?_
              refine st_val (ex_field rfl Try.underlying46 rfl Try.sizeOf26) (by decide) ⟨_, rfl, (congrArg (fun b => some (Value.bool b)) t484)⟩ ?_
              refine st_val (ex_load1 rfl Try.isAgg26 (h17.cell rfl)) (by decide) ⟨_, rfl, (congrArg (fun b => some (Value.bool b)) t484)⟩ ?_
              refine st_val (ex_field rfl Try.underlying46 rfl Try.sizeOf3) (by decide) ⟨_, rfl, (congrArg (fun b => some (Value.bool b)) t484)⟩ ?_
              refine st_val (ex_load1 rfl Try.isAgg3 (h17.cell rfl)) (by decide) ⟨_, rfl, (congrArg (fun b => some (Value.bool b)) t484)⟩ ?_
              obtain ⟨x485, hx485, hq480⟩ := bind_some hq480
              refine st_op (by decide) ⟨_, rfl, (congrArg (fun b => some (Value.bool b)) t484)⟩ ?_
              refine wf_call (cI_WalkProblem_isClosedFrom fuel w26 _ p0 (⟨_, rfl, (h2.keep hB.keeps)⟩) _ p1.First (h4.keep hB.keeps) p1.Label x485 hx485) Try.call113 ⟨rfl, rfl, rfl, trivial⟩ ?_
              rintro e490 w486 ⟨rfl, k487⟩
              have s489 := k487.stp 999 o19
              refine ⟨_, rfl, ?_⟩
              replace h12 := h12.stp s489 (by decide)
              replace h17 := h17.stp s489 (by decide)
              replace hB := hB.stp s489 (by decide)
              replace kp := Keeps.trans kp k487
              refine st_val (ex_pick_t (congrArg (fun b => some (Value.bool b)) t484) rfl) (by decide) trivial ?_
              refine st_val (ex_move rfl) (by decide) trivial ?_
              rcases Bool.eq_false_or_eq_true (x485) with t491 | t491
              · rw [if_pos t491] at hq480
                refine st_val (ex_loadA rfl Try.isAgg44 Try.sizeOf44 rfl h12.cells) (by decide) ⟨_, rfl, (congrArg (fun b => some (Value.bool b)) t491)⟩ ?_
                refine st_val (ex_field rfl Try.underlying46 rfl Try.sizeOf22) (by decide) ⟨_, rfl, (congrArg (fun b => some (Value.bool b)) t491)⟩ ?_
                refine st_val (ex_load1 rfl Try.isAgg22 (h17.cell rfl)) (by decide) ⟨_, rfl, (congrArg (fun b => some (Value.bool b)) t491)⟩ ?_
                obtain ⟨x492, hx492, hq480⟩ := bind_some hq480
                refine st_op (by decide) ⟨_, rfl, (congrArg (fun b => some (Value.bool b)) t491)⟩ ?_
                refine wf_call (cI_WalkProblem_ranksOk w486 _ p0 (⟨_, rfl, (h2.keep hB.keeps)⟩) _ p1.Ranks (h8.keep hB.keeps) true x492 hx492) Try.call115 ⟨rfl, rfl, rfl, trivial⟩ ?_
                rintro e497 w493 ⟨rfl, k494⟩
                have s496 := k494.stp 999 o19
                refine ⟨_, rfl, ?_⟩
                replace h12 := h12.stp s496 (by decide)
                replace h17 := h17.stp s496 (by decide)
                replace hB := hB.stp s496 (by decide)
                replace kp := Keeps.trans kp k494
                refine st_val (ex_pick_t (congrArg (fun b => some (Value.bool b)) t491) rfl) (by decide) trivial ?_
                have hq4802 := Option.some.inj hq480
                refine wpF_end (r := [(108, (.bool x492))]) ⟨rfl, trivial⟩ ?_
                subst hq4802
                refine np_norm (fun a ha => ⟨ha, kp⟩)
              · rw [if_neg (by rw [t491]; decide)] at hq480
                refine st_no rfl rfl (by rw [t491]; rfl) (by decide) ?_
                refine st_no rfl rfl (by rw [t491]; rfl) (by decide) ?_
                refine st_no rfl rfl (by rw [t491]; rfl) (by decide) ?_
                refine st_no rfl rfl (by rw [t491]; rfl) (by decide) ?_
                refine st_val (ex_pick_f (congrArg (fun b => some (Value.bool b)) t491) rfl) (by decide) trivial ?_
                have hq4802 := Option.some.inj hq480
                refine wpF_end (r := [(108, (.bool false))]) ⟨rfl, trivial⟩ ?_
                subst hq4802
                refine np_norm (fun a ha => ⟨ha, kp⟩)
            · rw [if_neg (by rw [t484]; decide)] at hq480
              refine st_no rfl rfl (by rw [t484]; rfl) (by decide) ?_
              refine st_no rfl rfl (by rw [t484]; rfl) (by decide) ?_
              refine st_no rfl rfl (by rw [t484]; rfl) (by decide) ?_
              refine st_no rfl rfl (by rw [t484]; rfl) (by decide) ?_
              refine st_no rfl rfl (by rw [t484]; rfl) (by decide) ?_
              refine st_no rfl rfl (by rw [t484]; rfl) (by decide) ?_
              refine st_val (ex_pick_f (congrArg (fun b => some (Value.bool b)) t484) rfl) (by decide) trivial ?_
              refine st_val (ex_move rfl) (by decide) trivial ?_
              refine st_no rfl rfl rfl (by decide) ?_
              refine st_no rfl rfl rfl (by decide) ?_
              refine st_no rfl rfl rfl (by decide) ?_
              refine st_no rfl rfl rfl (by decide) ?_
              refine st_val (ex_pick_f rfl rfl) (by decide) trivial ?_
              have hq4802 := Option.some.inj hq480
              refine wpF_end (r := [(108, (.bool false))]) ⟨rfl, trivial⟩ ?_
              subst hq4802
              refine np_norm (fun a ha => ⟨ha, kp⟩)
          · rw [if_neg (by rw [t483]; decide)] at hq480
            refine st_no rfl rfl (by rw [t483]; rfl) (by decide) ?_
            refine st_no rfl rfl (by rw [t483]; rfl) (by decide) ?_
            refine st_no rfl rfl (by rw [t483]; rfl) (by decide) ?_
            refine st_no rfl rfl (by rw [t483]; rfl) (by decide) ?_
            refine st_val (ex_pick_f (congrArg (fun b => some (Value.bool b)) t483) rfl) (by decide) trivial ?_
            refine st_val (ex_move rfl) (by decide) trivial ?_
            refine st_no rfl rfl rfl (by decide) ?_
            refine st_no rfl rfl rfl (by decide) ?_
            refine st_no rfl rfl rfl (by decide) ?_
            refine st_no rfl rfl rfl (by decide) ?_
            refine st_no rfl rfl rfl (by decide) ?_
            refine st_no rfl rfl rfl (by decide) ?_
            refine st_val (ex_pick_f rfl rfl) (by decide) trivial ?_
            refine st_val (ex_move rfl) (by decide) trivial ?_
            refine st_no rfl rfl rfl (by decide) ?_
            refine st_no rfl rfl rfl (by decide) ?_
            refine st_no rfl rfl rfl (by decide) ?_
            refine st_no rfl rfl rfl (by decide) ?_
            refine st_val (ex_pick_f rfl rfl) (by decide) trivial ?_
            have hq4802 := Option.some.inj hq480
            refine wpF_end (r := [(108, (.bool false))]) ⟨rfl, trivial⟩ ?_
            subst hq4802
            refine np_norm (fun a ha => ⟨ha, kp⟩)
        rintro a500 w481 ⟨ha, k498⟩
        have s499 := k498.stp 999 o19
        replace h12 := h12.stp s499 (by decide)
        replace h17 := h17.stp s499 (by decide)
        replace hB := hB.stp s499 (by decide)
        refine wl_of ha ?_
        refine st_val (ex_assign rfl) (by decide) trivial ?_
        refine wpF_end (r := [(4, (.bool q480))]) ⟨rfl, trivial⟩ ?_
        refine nx ?_
        refine wpC_ret ?_
        refine nb_ret ?_
        refine nt_ret ?_
        have e501 := Option.some.inj hF
        subst e501
        refine ret_post (P := Try.prog) (vs := [(.bool q480)]) Try.results64 ⟨rfl, trivial⟩ ?_
        exact ⟨rfl, hB.keeps⟩
      · rw [if_neg (by rw [t479]; decide)] at hF
        refine wpC_seq ?_
        refine wpC_region ?_
        refine st_val (ex_eql rfl rfl) (by decide) trivial ?_
        refine st_val (ex_assign rfl) (by decide) trivial ?_
        refine wpF_end (r := [(2, (.pointer (some ⟨b11, 0, none⟩))), (3, (.pointer (some ⟨b16, 0, none⟩))), (109, (.bool (p1.Class == 0)))]) ⟨rfl, rfl, rfl, trivial⟩ ?_
        refine nx ?_
        refine wpC_cond rfl (fun t502 => ?_) (fun t502 => ?_)
        · rw [if_pos t502] at hF
          refine wpC_seq ?_
          refine wpC_region ?_
          refine st_val (ex_field rfl Try.underlying46 rfl Try.sizeOf3) (by decide) trivial ?_
          refine st_val (ex_load1 rfl Try.isAgg3 (h17.cell rfl)) (by decide) trivial ?_
          refine st_val (ex_eql rfl rfl) (by decide) trivial ?_
          refine st_val (ex_move rfl) (by decide) trivial ?_
          obtain ⟨q503, hq503, hF⟩ := bind_some hF
          refine wpF_cutAt 15 (fun a505 w504 => Fr a505 130 [(129, (.bool q503))] ∧ Keeps w26 w504) ?_ ?_
          all_goals simp only [List.take_succ_cons, List.take_zero, List.drop_succ_cons, List.drop_zero]
          · have kp : Keeps w26 w26 := Keeps.refl _
            rcases Bool.eq_false_or_eq_true (p1.Label == 0) with t506 | t506
            · rw [if_pos t506] at hq503
              refine st_val (ex_field rfl Try.underlying46 rfl Try.sizeOf26) (by decide) ⟨_, rfl, (congrArg (fun b => some (Value.bool b)) t506)⟩ ?_
              refine st_val (ex_load1 rfl Try.isAgg26 (h17.cell rfl)) (by decide) ⟨_, rfl, (congrArg (fun b => some (Value.bool b)) t506)⟩ ?_
              refine st_val (ex_lenR rfl h4 Try.underlying26) (by decide) ⟨_, rfl, (congrArg (fun b => some (Value.bool b)) t506)⟩ ?_
              refine st_val (ex_field rfl Try.underlying46 rfl Try.sizeOf26) (by decide) ⟨_, rfl, (congrArg (fun b => some (Value.bool b)) t506)⟩ ?_
              refine st_val (ex_load1 rfl Try.isAgg26 (h17.cell rfl)) (by decide) ⟨_, rfl, (congrArg (fun b => some (Value.bool b)) t506)⟩ ?_
              refine st_val (ex_lenR rfl h6 Try.underlying26) (by decide) ⟨_, rfl, (congrArg (fun b => some (Value.bool b)) t506)⟩ ?_
              obtain ⟨x507, hx507, hq503⟩ := bind_some hq503
              refine st_val (ex_add rfl rfl hx507) (by decide) ⟨_, rfl, (congrArg (fun b => some (Value.bool b)) t506)⟩ ?_
              refine st_val (ex_eql rfl rfl) (by decide) ⟨_, rfl, (congrArg (fun b => some (Value.bool b)) t506)⟩ ?_
              refine st_val (ex_pick_t (congrArg (fun b => some (Value.bool b)) t506) rfl) (by decide) trivial ?_
              refine st_val (ex_move rfl) (by decide) trivial ?_
              rcases Bool.eq_false_or_eq_true (x507 == 0) with t508 | t508
              · rw [if_pos t508] at hq503
                refine st_val (ex_loadA rfl Try.isAgg44 Try.sizeOf44 rfl h12.cells) (by decide) ⟨_, rfl, (congrArg (fun b => some (Value.bool b)) t508)⟩ ?_
                refine st_val (ex_field rfl Try.underlying46 rfl Try.sizeOf22) (by decide) ⟨_, rfl, (congrArg (fun b => some (Value.bool b)) t508)⟩ ?_
                refine st_val (ex_load1 rfl Try.isAgg22 (h17.cell rfl)) (by decide) ⟨_, rfl, (congrArg (fun b => some (Value.bool b)) t508)⟩ ?_
                obtain ⟨x509, hx509, hq503⟩ := bind_some hq503
                refine st_op (by decide) ⟨_, rfl, (congrArg (fun b => some (Value.bool b)) t508)⟩ ?_
                refine wf_call (cI_WalkProblem_ranksOk w26 _ p0 (⟨_, rfl, (h2.keep hB.keeps)⟩) _ p1.Ranks (h8.keep hB.keeps) false x509 hx509) Try.call115 ⟨rfl, rfl, rfl, trivial⟩ ?_
                rintro e514 w510 ⟨rfl, k511⟩
                have s513 := k511.stp 999 o19
                refine ⟨_, rfl, ?_⟩
                replace h12 := h12.stp s513 (by decide)
                replace h17 := h17.stp s513 (by decide)
                replace hB := hB.stp s513 (by decide)
                replace kp := Keeps.trans kp k511
                refine st_val (ex_pick_t (congrArg (fun b => some (Value.bool b)) t508) rfl) (by decide) trivial ?_
                have hq5032 := Option.some.inj hq503
                refine wpF_end (r := [(129, (.bool x509))]) ⟨rfl, trivial⟩ ?_
                subst hq5032
                refine np_norm (fun a ha => ⟨ha, kp⟩)
              · rw [if_neg (by rw [t508]; decide)] at hq503
                refine st_no rfl rfl (by rw [t508]; rfl) (by decide) ?_
                refine st_no rfl rfl (by rw [t508]; rfl) (by decide) ?_
                refine st_no rfl rfl (by rw [t508]; rfl) (by decide) ?_
                refine st_no rfl rfl (by rw [t508]; rfl) (by decide) ?_
                refine st_val (ex_pick_f (congrArg (fun b => some (Value.bool b)) t508) rfl) (by decide) trivial ?_
                have hq5032 := Option.some.inj hq503
                refine wpF_end (r := [(129, (.bool false))]) ⟨rfl, trivial⟩ ?_
                subst hq5032
                refine np_norm (fun a ha => ⟨ha, kp⟩)
            · rw [if_neg (by rw [t506]; decide)] at hq503
              refine st_no rfl rfl (by rw [t506]; rfl) (by decide) ?_
              refine st_no rfl rfl (by rw [t506]; rfl) (by decide) ?_
              refine st_no rfl rfl (by rw [t506]; rfl) (by decide) ?_
              refine st_no rfl rfl (by rw [t506]; rfl) (by decide) ?_
              refine st_no rfl rfl (by rw [t506]; rfl) (by decide) ?_
              refine st_no rfl rfl (by rw [t506]; rfl) (by decide) ?_
              refine st_no rfl rfl (by rw [t506]; rfl) (by decide) ?_
              refine st_no rfl rfl (by rw [t506]; rfl) (by decide) ?_
              refine st_val (ex_pick_f (congrArg (fun b => some (Value.bool b)) t506) rfl) (by decide) trivial ?_
              refine st_val (ex_move rfl) (by decide) trivial ?_
              refine st_no rfl rfl rfl (by decide) ?_
              refine st_no rfl rfl rfl (by decide) ?_
              refine st_no rfl rfl rfl (by decide) ?_
              refine st_no rfl rfl rfl (by decide) ?_
              refine st_val (ex_pick_f rfl rfl) (by decide) trivial ?_
              have hq5032 := Option.some.inj hq503
              refine wpF_end (r := [(129, (.bool false))]) ⟨rfl, trivial⟩ ?_
              subst hq5032
              refine np_norm (fun a ha => ⟨ha, kp⟩)
          rintro a517 w504 ⟨ha, k515⟩
          have s516 := k515.stp 999 o19
          replace h12 := h12.stp s516 (by decide)
          replace h17 := h17.stp s516 (by decide)
          replace hB := hB.stp s516 (by decide)
          refine wl_of ha ?_
          refine st_val (ex_assign rfl) (by decide) trivial ?_
          refine wpF_end (r := [(4, (.bool q503))]) ⟨rfl, trivial⟩ ?_
          refine nx ?_
          refine wpC_ret ?_
          refine nb_ret ?_
          refine nt_ret ?_
          have e518 := Option.some.inj hF
          subst e518
          refine ret_post (P := Try.prog) (vs := [(.bool q503)]) Try.results64 ⟨rfl, trivial⟩ ?_
          exact ⟨rfl, hB.keeps⟩
        · rw [if_neg (by rw [t502]; decide)] at hF
          refine wpC_skip ?_
          refine nb_norm ?_
          refine nx ?_
          refine wpC_seq ?_
          refine wpC_region ?_
          refine st_val (ex_assign rfl) (by decide) trivial ?_
          refine wpF_end (r := [(4, (.bool false))]) ⟨rfl, trivial⟩ ?_
          refine nx ?_
          refine wpC_ret ?_
          have e519 := Option.some.inj hF
          subst e519
          refine ret_post (P := Try.prog) (vs := [(.bool false)]) Try.results64 ⟨rfl, trivial⟩ ?_
          exact ⟨rfl, hB.keeps⟩

def fI_CheckWalkCertificate (fuel : Nat) (p0 : T_WalkProblem) (p1 : T_WalkCertificate) : Option (Bool × Bool) :=
  (fI_IsWalkProblem p0) >>= fun x19 =>
  if !x19 then
    some (false, false)
  else
    (fI_WalkProblem_isCertificate fuel p0 p1) >>= fun x27 =>
    some (x27, true)

def pI_CheckWalkCertificate (w : World) (r : Bool × Bool) : Ending → World → Prop := fun e w' => e = .returned (.tuple #[.bool r.1, .bool r.2]) ∧ Keeps w w'
set_option maxRecDepth 100000 in
set_option maxHeartbeats 2000000 in
theorem cI_CheckWalkCertificate (fuel : Nat) (w : World) (u0 : List Value) (p0 : T_WalkProblem) (g0 : Rp.rd zt w u0 p0) (u1 : List Value) (p1 : T_WalkCertificate) (g1 : Rp.rd zt w u1 p1) (r : Bool × Bool) (hF : fI_CheckWalkCertificate fuel p0 p1 = some r) :
    Calls Try.prog 26 #[.agg u0.toArray, .agg u1.toArray] w (pI_CheckWalkCertificate w r) := by
  unfold fI_CheckWalkCertificate at hF
  obtain ⟨v1, rfl, h2⟩ := g0
  obtain ⟨v3, v5, v7, rfl, h4, h6, h8⟩ := g1
  have hB : Bs (fun _ => 1) (col (fun _ => 1)) w w := Bs.start _ _
  refine calls_start (n := 12) (vs := [(.agg #[(.int .i64 p0.Labels), v1]), (.agg #[(.int .i64 p1.Class), (.int .i64 p1.Label), v3, v5, v7])]) Try.func26 rfl rfl ?_
  refine wpC_seq ?_
  refine wpC_region ?_
  refine st_op (by decide) trivial ?_
  refine wf_box (o := (col (fun _ => 1))) w.heap.size 11 hB.keeps.size (cs := [(.int .i64 p0.Labels), v1]) rfl rfl ?_
  intro o9 w10 b11 h12 s13
  replace hB := hB.stp s13 (by decide)
  refine st_op (by decide) trivial ?_
  refine wf_box (o := o9) w.heap.size 12 hB.keeps.size (cs := [(.int .i64 p1.Class), (.int .i64 p1.Label), v3, v5, v7]) rfl rfl ?_
  intro o14 w15 b16 h17 s18
  replace h12 := h12.stp s18 (by decide)
  replace hB := hB.stp s18 (by decide)
  refine st_val (ex_assign rfl) (by decide) trivial ?_
  refine st_val (ex_assign rfl) (by decide) trivial ?_
  refine wpF_end (r := [(2, (.pointer (some ⟨b11, 0, none⟩))), (3, (.pointer (some ⟨b16, 0, none⟩)))]) ⟨rfl, rfl, trivial⟩ ?_
  refine nx ?_
  refine wpC_seq ?_
  refine wpC_seq ?_
  refine wpC_region ?_
  refine st_val (ex_loadA rfl Try.isAgg44 Try.sizeOf44 rfl h12.cells) (by decide) trivial ?_
  obtain ⟨x19, hx19, hF⟩ := bind_some hF
  refine st_op (by decide) trivial ?_
  refine wf_call (cI_IsWalkProblem w15 _ p0 (⟨_, rfl, (h2.keep hB.keeps)⟩) x19 hx19) Try.call63 ⟨rfl, trivial⟩ ?_
  rintro e24 w20 ⟨rfl, k21⟩
  have s23 := k21.stp 999 o14
  refine ⟨_, rfl, ?_⟩
  replace h12 := h12.stp s23 (by decide)
  replace h17 := h17.stp s23 (by decide)
  replace hB := hB.stp s23 (by decide)
  refine st_val (ex_not rfl) (by decide) trivial ?_
  refine wpF_end (r := [(2, (.pointer (some ⟨b11, 0, none⟩))), (3, (.pointer (some ⟨b16, 0, none⟩))), (8, (.bool (!x19)))]) ⟨rfl, rfl, rfl, trivial⟩ ?_
  refine nx ?_
  refine wpC_cond rfl (fun t25 => ?_) (fun t25 => ?_)
  · rw [if_pos t25] at hF
    refine wpC_seq ?_
    refine wpC_region ?_
    refine st_val (ex_assign rfl) (by decide) trivial ?_
    refine st_val (ex_assign rfl) (by decide) trivial ?_
    refine wpF_end (r := [(4, (.bool false)), (5, (.bool false))]) ⟨rfl, rfl, trivial⟩ ?_
    refine nx ?_
    refine wpC_ret ?_
    refine nt_ret ?_
    have e26 := Option.some.inj hF
    subst e26
    refine ret_post (P := Try.prog) (vs := [(.bool false), (.bool false)]) Try.results26 ⟨rfl, rfl, trivial⟩ ?_
    exact ⟨rfl, hB.keeps⟩
  · rw [if_neg (by rw [t25]; decide)] at hF
    refine wpC_skip ?_
    refine nx ?_
    refine wpC_seq ?_
    refine wpC_region ?_
    refine st_val (ex_loadA rfl Try.isAgg44 Try.sizeOf44 rfl h12.cells) (by decide) trivial ?_
    refine st_val (ex_loadA rfl Try.isAgg46 Try.sizeOf46 rfl h17.cells) (by decide) trivial ?_
    obtain ⟨x27, hx27, hF⟩ := bind_some hF
    refine st_op (by decide) trivial ?_
    refine wf_call (cI_WalkProblem_isCertificate fuel w20 _ p0 (⟨_, rfl, (h2.keep hB.keeps)⟩) _ p1 (⟨_, _, _, rfl, (h4.keep hB.keeps), (h6.keep hB.keeps), (h8.keep hB.keeps)⟩) x27 hx27) Try.call64 ⟨rfl, rfl, trivial⟩ ?_
    rintro e32 w28 ⟨rfl, k29⟩
    have s31 := k29.stp 999 o14
    refine ⟨_, rfl, ?_⟩
    replace h12 := h12.stp s31 (by decide)
    replace h17 := h17.stp s31 (by decide)
    replace hB := hB.stp s31 (by decide)
    refine st_val (ex_assign rfl) (by decide) trivial ?_
    refine st_val (ex_assign rfl) (by decide) trivial ?_
    refine wpF_end (r := [(4, (.bool x27)), (5, (.bool true))]) ⟨rfl, rfl, trivial⟩ ?_
    refine nx ?_
    refine wpC_ret ?_
    have e33 := Option.some.inj hF
    subst e33
    refine ret_post (P := Try.prog) (vs := [(.bool x27), (.bool true)]) Try.results26 ⟨rfl, rfl, trivial⟩ ?_
    exact ⟨rfl, hB.keeps⟩

end Go.Proofs.Ytabclfacjaeblaa
