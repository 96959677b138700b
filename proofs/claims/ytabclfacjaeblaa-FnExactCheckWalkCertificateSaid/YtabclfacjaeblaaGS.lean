/- spec.waWalk, spec.waRound, spec.waRanked, spec.waAbove: plain functions, and the walks that show that the program computes them (printed by gen.py). -/
import Derived.Test.YtabclfacjaeblaaGH
import Derived.Test.YtabclfacjaeblaaGI
import Derived.Test.YtabclfacjaeblaaGLp
import Derived.Test.YtabclfacjaeblaaGcd
import Derived.Test.YtabclfacjaeblaaKh
namespace Go.Proofs.Ytabclfacjaeblaa
open Go.RowKit
set_option linter.unusedSimpArgs false
set_option linter.unusedVariables false

def fS_waWalk_s1 (p1 : List Int) (x8 : List (List Bool)) : Int → Option (Lp Int Int Bool) := fun (s : Int) =>
  if decide (s < (p1.length : Int)) then
    (ck (s - 1)) >>= fun x33 =>
    (ix p1 x33) >>= fun x34 =>
    (ix x8 x34) >>= fun x37 =>
    (ix p1 s) >>= fun x45 =>
    (ix x37 x45) >>= fun x112 =>
    if !x112 then
      some (.ret false)
    else
      (ck (s + 1)) >>= fun x120 =>
      some (.go x120)
  else
    some (.out s)
def fS_waWalk (fuel : Nat) (p0 : T_WalkProblem) (p1 : List Int) : Option Bool :=
  (fS_waMay fuel p0) >>= fun x8 =>
  (loopF (fS_waWalk_s1 p1 x8) fuel 1) >>= fun q22 =>
  match q22 with
  | .inl y19 =>
    some true
  | .inr r' => some r'

def pS_waWalk (w : World) (r : Bool) : Ending → World → Prop := fun e w' => e = .returned (.bool r) ∧ Keeps w w'
set_option maxRecDepth 100000 in
set_option maxHeartbeats 2000000 in
theorem cS_waWalk (fuel : Nat) (w : World) (u0 : List Value) (p0 : T_WalkProblem) (g0 : Rp.rd zt w u0 p0) (u1 : Value) (p1 : List Int) (g1 : RdL zt w u1 p1) (r : Bool) (hF : fS_waWalk fuel p0 p1 = some r) :
    Calls Try.prog 149 #[.agg u0.toArray, u1] w (pS_waWalk w r) := by
  unfold fS_waWalk at hF
  obtain ⟨v1, rfl, h2⟩ := g0
  have hB : Bs (fun _ => 1) (col (fun _ => 1)) w w := Bs.start _ _
  refine calls_start (n := 30) (vs := [(.agg #[(.int .i64 p0.Labels), v1]), u1]) Try.func149 rfl rfl ?_
  refine wpC_seq ?_
  refine wpC_region ?_
  refine st_op (by decide) trivial ?_
  refine wf_box (o := (col (fun _ => 1))) w.heap.size 11 hB.keeps.size (cs := [(.int .i64 p0.Labels), v1]) rfl rfl ?_
  intro o3 w4 b5 h6 s7
  replace hB := hB.stp s7 (by decide)
  refine st_val (ex_assign rfl) (by decide) trivial ?_
  refine wpF_end (r := [(1, u1), (2, (.pointer (some ⟨b5, 0, none⟩)))]) ⟨rfl, rfl, trivial⟩ ?_
  refine nx ?_
  refine wpC_seq ?_
  refine wpC_region ?_
  refine st_val (ex_loadA rfl Try.isAgg44 Try.sizeOf44 rfl h6.cells) (by decide) trivial ?_
  obtain ⟨x8, hx8, hF⟩ := bind_some hF
  refine st_op (by decide) trivial ?_
  refine wf_call (cS_waMay fuel w4 o3 12 (by decide) _ p0 (⟨_, rfl, (h2.keep hB.keeps)⟩) x8 hx8) Try.call105 ⟨rfl, trivial⟩ ?_
  rintro e17 w9 ⟨v10, g12, o18, rfl, h11, h13, k14, k15⟩
  have s16 := k14.stp' 12 k15
  replace h11 := h11.mono hB.keeps.size
  replace h13 := h13.mono hB.keeps.size
  refine ⟨_, rfl, ?_⟩
  replace h6 := h6.stp s16 (by decide)
  replace hB := hB.stp s16 (by decide)
  refine st_val (ex_assign rfl) (by decide) trivial ?_
  refine wpF_end (r := [(1, u1), (5, v10)]) ⟨rfl, rfl, trivial⟩ ?_
  refine nx ?_
  refine wpC_seq ?_
  refine wpC_seq ?_
  refine wpC_region ?_
  refine st_val (ex_assign rfl) (by decide) trivial ?_
  refine wpF_end (r := [(1, u1), (5, v10), (6, (.int .i64 1))]) ⟨rfl, rfl, rfl, trivial⟩ ?_
  refine nx ?_
  obtain ⟨q22, hq22, hF⟩ := bind_some hF
  refine wpC_cutN (fun a w21 => ∃ (y19 : Int) (o20 : Tg), q22 = .inl y19 ∧ Fr a 30 [] ∧ Bs (fun _ => 1) o20 w w21) (fun a w' => ∃ r', q22 = .inr r' ∧ bodyPost Try.prog Try.f149 (pS_waWalk w r') .ret a w') ?_ ?_ ?_
  · refine wpC_block ?_
    refine wpC_loop (fun (K : Nat) a w21 => ∃ (y19 : Int) (o20 : Tg), loopF (fS_waWalk_s1 p1 x8) K y19 = some q22 ∧ Fr a 30 [(1, u1), (5, v10), (6, (.int .i64 y19))] ∧ Bs (fun _ => 1) o20 w w21 ∧ Ow w.heap.size 109 12 o20 w21 v10 g12 ∧ Rws w.heap.size 4 13 o20 w21 g12 x8) fuel (fun a ha => ⟨1, o18, hq22, ha.sub (r := [(1, u1), (5, v10), (6, (.int .i64 1))]) ⟨rfl, rfl, rfl, trivial⟩, hB, h11, h13⟩) ?_
    rintro K26 a w21 ⟨y19, o20, l23, ha, hB, h11, h13⟩
    obtain ⟨K30, q27, e31, b28, n29⟩ := loopF_cons l23
    dsimp only [fS_waWalk_s1] at b28
    refine wp_of ha ?_
    refine wpC_seq ?_
    refine wpC_seq ?_
    refine wpC_region ?_
    refine st_val (ex_move rfl) (by decide) trivial ?_
    refine st_val (ex_move rfl) (by decide) trivial ?_
    refine st_val (ex_lenR rfl g1 Try.underlying26) (by decide) trivial ?_
    refine st_val (ex_lss rfl rfl) (by decide) trivial ?_
    refine wpF_end (r := [(1, u1), (5, v10), (6, (.int .i64 y19)), (12, (.bool (decide (y19 < (p1.length : Int)))))]) ⟨rfl, rfl, rfl, rfl, trivial⟩ ?_
    refine nx ?_
    refine wpC_cond rfl (fun t32 => ?_) (fun t32 => ?_)
    · rw [if_pos t32] at b28
      refine wpC_skip ?_
      refine nx ?_
      refine wpC_seq ?_
      refine wpC_block ?_
      refine wpC_seq ?_
      obtain ⟨x33, hx33, b28⟩ := bind_some b28
      obtain ⟨x34, hx34, b28⟩ := bind_some b28
      obtain ⟨x37, hx37, b28⟩ := bind_some b28
      obtain ⟨v38, h39, h40, h41⟩ := h13.ix hx37
      obtain ⟨x45, hx45, b28⟩ := bind_some b28
      refine wpC_drawn (o := o20) [(1, u1), (5, v10), (6, (.int .i64 y19))] [1, 5, 6] [15, 16, 17, 18, 19, 20, 21, 22, 23, 24, 25, 26] [[], [], [], [2], [1, 3], [4], [0, 5], [6], [], [], [8, 9], [10]] [none, none, none, none, none, none, none, none, none, none, none, none] [999, 999, 999, 999, 999, 999, 999, 999, 999, 999, 999, 999] [0, 0, 0, 0, 0, 0, 0, 0, 0, 0, 0, 0] [999] [fun v _ _ => v = v10, fun v _ _ => v = u1, fun v _ _ => v = (.int .i64 y19), fun v _ _ => v = (.int .i64 x33), fun v o w9 => ∃ vl, v = adr vl (x33.toNat * Rp.sz Int) ∧ RdL zt w vl p1, fun v _ _ => v = (.int .i64 x34), fun v _ _ => v = adr v10 (x34.toNat * Rp.sz Hv), fun v _ _ => v = v38, fun v _ _ => v = u1, fun v _ _ => v = (.int .i64 y19), fun v o w9 => ∃ vl, v = adr vl (y19.toNat * Rp.sz Int) ∧ RdL zt w vl p1, fun v _ _ => v = (.int .i64 x45)] (fun o8 w8 => Bs (fun _ => 1) o8 w w8 ∧ Ow w.heap.size 109 12 o8 w8 v10 g12 ∧ Rws w.heap.size 4 13 o8 w8 g12 x8) follows_mixed (by kernel_rfl) rfl ⟨rfl, rfl, rfl, trivial⟩ ⟨hB, h11, h13⟩ ?_ ⟨st_eq _, st_eq _, st_eq _, st_eq _, fun _ _ _ _ _ _ h0 hb ⟨vl, e, h⟩ hs => ⟨vl, e, h⟩, st_eq _, st_eq _, st_eq _, st_eq _, st_eq _, fun _ _ _ _ _ _ h0 hb ⟨vl, e, h⟩ hs => ⟨vl, e, h⟩, st_eq _, trivial⟩ ?_ ?_
      · rintro t9 o1 w1 o2 w2 ht9 ⟨hB, h11, h13⟩ hs9
        have ht9 : t9 = 999 := by simpa using ht9
        subst ht9
        all_goals exact ⟨hB.stp hs9 (by decide), h11.stp hs9 (by decide) (by decide), h13.stp hs9 (by decide) (by decide)⟩
      · refine ⟨?_, ?_, ?_, ?_, ?_, ?_, ?_, ?_, ?_, ?_, ?_, ?_, trivial⟩
        · rintro o48 w49 a50 ha ⟨hB, h11, h13⟩ -
          refine opS_of ha (trivial) ?_
          refine op1_val (ex_move rfl) ?_
          exact ⟨_, Stp.refl _ _ _, rfl⟩
        · rintro o51 w52 a53 ha ⟨hB, h11, h13⟩ -
          refine opS_of ha (trivial) ?_
          refine op1_val (ex_move rfl) ?_
          exact ⟨_, Stp.refl _ _ _, rfl⟩
        · rintro o54 w55 a56 ha ⟨hB, h11, h13⟩ -
          refine opS_of ha (trivial) ?_
          refine op1_val (ex_move rfl) ?_
          exact ⟨_, Stp.refl _ _ _, rfl⟩
        · rintro o57 w58 a59 ha ⟨hB, h11, h13⟩ ⟨r60, -⟩
          have ha := Fr.cons (d := 17) ha r60
          refine opS_of ha (trivial) ?_
          refine op1_val (ex_sub rfl rfl hx33) ?_
          exact ⟨_, Stp.refl _ _ _, rfl⟩
        · rintro o61 w62 a63 ha ⟨hB, h11, h13⟩ ⟨r64, r65, -⟩
          have ha := Fr.cons (d := 16) ha r64
          have ha := Fr.cons (d := 18) ha r65
          refine opS_of ha (trivial) ?_
          refine wd_indexR g1 hx34 rfl rfl Try.underlying26 Try.sizeOf3 ?_
          exact ⟨_, Stp.refl _ _ _, ⟨_, rfl, g1⟩⟩
        · rintro o66 w67 a68 ha ⟨hB, h11, h13⟩ ⟨r69, -⟩
          obtain ⟨v70, e71, h72⟩ := r69
          have ha := Fr.cons (d := 19) ha e71
          refine opS_of ha (trivial) ?_
          refine wd_load1Z h72 hx34 hB rfl rfl Try.isAgg3 ?_
          intro c73 h74
          cases h74
          exact ⟨_, Stp.refl _ _ _, rfl⟩
        · rintro o75 w76 a77 ha ⟨hB, h11, h13⟩ ⟨r78, r79, -⟩
          have ha := Fr.cons (d := 15) ha r78
          have ha := Fr.cons (d := 20) ha r79
          refine opS_of ha (trivial) ?_
          refine wd_indexW h11 h39 rfl rfl Try.underlying110 Try.sizeOf109 ?_
          exact ⟨_, Stp.refl _ _ _, rfl⟩
        · rintro o80 w81 a82 ha ⟨hB, h11, h13⟩ ⟨r83, -⟩
          have ha := Fr.cons (d := 21) ha r83
          refine opS_of ha (trivial) ?_
          refine wd_load1W h11 h39 rfl rfl Try.isAgg109 ?_
          intro c84 h85
          obtain ⟨e86, -⟩ := h85
          cases e86
          exact ⟨_, Stp.refl _ _ _, rfl⟩
        · rintro o87 w88 a89 ha ⟨hB, h11, h13⟩ -
          refine opS_of ha (trivial) ?_
          refine op1_val (ex_move rfl) ?_
          exact ⟨_, Stp.refl _ _ _, rfl⟩
        · rintro o90 w91 a92 ha ⟨hB, h11, h13⟩ -
          refine opS_of ha (trivial) ?_
          refine op1_val (ex_move rfl) ?_
          exact ⟨_, Stp.refl _ _ _, rfl⟩
        · rintro o93 w94 a95 ha ⟨hB, h11, h13⟩ ⟨r96, r97, -⟩
          have ha := Fr.cons (d := 23) ha r96
          have ha := Fr.cons (d := 24) ha r97
          refine opS_of ha (trivial) ?_
          refine wd_indexR g1 hx45 rfl rfl Try.underlying26 Try.sizeOf3 ?_
          exact ⟨_, Stp.refl _ _ _, ⟨_, rfl, g1⟩⟩
        · rintro o98 w99 a100 ha ⟨hB, h11, h13⟩ ⟨r101, -⟩
          obtain ⟨v102, e103, h104⟩ := r101
          have ha := Fr.cons (d := 25) ha e103
          refine opS_of ha (trivial) ?_
          refine wd_load1Z h104 hx45 hB rfl rfl Try.isAgg3 ?_
          intro c105 h106
          cases h106
          exact ⟨_, Stp.refl _ _ _, rfl⟩
      rintro o107 w108 a109 ha ⟨hB, h11, h13⟩ ⟨-, -, -, -, -, -, -, r110, -, -, -, r111, -⟩
      have ha := Fr.cons (d := 22) ha r110
      have ha := Fr.cons (d := 26) ha r111
      refine wl_of ha ?_
      simp only [List.length_cons, List.length_nil, Nat.zero_add, Nat.reduceAdd, List.drop_succ_cons, List.drop_zero]
      obtain ⟨x112, hx112, b28⟩ := bind_some b28
      refine st_op (by decide) trivial ?_
      refine wf_atW (h13.at h40 h41) hx112 rfl rfl Try.underlying109 Try.sizeOf4 ?_
      intro b113 f114 c115 h116 h117
      cases h117
      refine st_val (ex_load1 rfl Try.isAgg4 (cell_of_cells h116)) (by decide) trivial ?_
      refine st_val (ex_not rfl) (by decide) trivial ?_
      refine wpF_end (r := [(1, u1), (5, v10), (6, (.int .i64 y19)), (29, (.bool (!x112)))]) ⟨rfl, rfl, rfl, rfl, trivial⟩ ?_
      refine nx ?_
      refine wpC_cond rfl (fun t118 => ?_) (fun t118 => ?_)
      · rw [if_pos t118] at b28
        refine wpC_seq ?_
        refine wpC_region ?_
        refine st_val (ex_assign rfl) (by decide) trivial ?_
        refine wpF_end (r := [(4, (.bool false))]) ⟨rfl, trivial⟩ ?_
        refine nx ?_
        refine wpC_ret ?_
        refine nb_ret ?_
        refine nt_ret ?_
        refine nt_ret ?_
        refine nb_ret ?_
        refine np_ret ?_
        have e119 := Option.some.inj b28
        subst e119
        refine fun a ha => ⟨_, n29, ?_⟩
        refine ret_post (P := Try.prog) (vs := [(.bool false)]) Try.results149 ⟨rfl, trivial⟩ ?_ a ha
        exact ⟨rfl, hB.keeps⟩
      · rw [if_neg (by rw [t118]; decide)] at b28
        refine wpC_skip ?_
        refine nb_norm ?_
        refine nx ?_
        refine wpC_region ?_
        refine st_val (ex_move rfl) (by decide) trivial ?_
        obtain ⟨x120, hx120, b28⟩ := bind_some b28
        refine st_val (ex_add rfl rfl hx120) (by decide) trivial ?_
        refine st_val (ex_assign rfl) (by decide) trivial ?_
        refine wpF_end (r := [(1, u1), (5, v10), (6, (.int .i64 x120))]) ⟨rfl, rfl, rfl, trivial⟩ ?_
        refine nt_norm ?_
        have e121 := Option.some.inj b28
        subst e121
        refine to_k (r := [(1, u1), (5, v10), (6, (.int .i64 x120))]) ⟨rfl, rfl, rfl, trivial⟩ ?_
        intro a ha
        exact ⟨K30, by omega, x120, o107, n29, ha, hB, h11, h13⟩
    · rw [if_neg (by rw [t32]; decide)] at b28
      refine wpC_exit ?_
      refine nt_exit ?_
      refine nt_exit ?_
      refine nb_hit ?_
      refine np_norm ?_
      have e122 := Option.some.inj b28
      subst e122
      refine to_k (r := []) trivial ?_
      intro a ha
      exact ⟨y19, o20, n29, ha, hB⟩
  · rintro a w21 ⟨y19, o20, rfl, ha, hB⟩
    dsimp only at hF
    refine ap_k ha ?_
    refine nx ?_
    refine wpC_seq ?_
    refine wpC_region ?_
    refine st_val (ex_assign rfl) (by decide) trivial ?_
    refine wpF_end (r := [(4, (.bool true))]) ⟨rfl, trivial⟩ ?_
    refine nx ?_
    refine wpC_ret ?_
    have e123 := Option.some.inj hF
    subst e123
    refine ret_post (P := Try.prog) (vs := [(.bool true)]) Try.results149 ⟨rfl, trivial⟩ ?_
    exact ⟨rfl, hB.keeps⟩
  · rintro a w21 ⟨r', rfl, b124⟩
    dsimp only at hF
    have e125 := Option.some.inj hF
    subst e125
    exact b124

def fS_waRound (fuel : Nat) (p0 : T_WalkProblem) (p1 : List Int) (p2 : Int) : Option Bool :=
  (fS_l1In (p1.length : Int) 2 200) >>= fun x8 =>
  (
    if x8 then
      (ck (p0.Labels - 1)) >>= fun x18 =>
      (fS_l1All p1 0 x18) >>= fun x19 =>
      if x19 then
        (ix p1 0) >>= fun x26 =>
        if x26 == p2 then
          (ck ((p1.length : Int) - 1)) >>= fun x33 =>
          (ix p1 x33) >>= fun x34 =>
          if x34 == p2 then
            (fS_waWalk fuel p0 p1) >>= fun x41 =>
            some x41
          else
            some false
        else
          some false
      else
        some false
    else
      some false) >>= fun q14 =>
  some q14

def pS_waRound (w : World) (r : Bool) : Ending → World → Prop := fun e w' => e = .returned (.bool r) ∧ Keeps w w'
set_option maxRecDepth 100000 in
set_option maxHeartbeats 2000000 in
theorem cS_waRound (fuel : Nat) (w : World) (u0 : List Value) (p0 : T_WalkProblem) (g0 : Rp.rd zt w u0 p0) (u1 : Value) (p1 : List Int) (g1 : RdL zt w u1 p1) (p2 : Int) (r : Bool) (hF : fS_waRound fuel p0 p1 p2 = some r) :
    Calls Try.prog 107 #[.agg u0.toArray, u1, .int .i64 p2] w (pS_waRound w r) := by
  unfold fS_waRound at hF
  obtain ⟨v1, rfl, h2⟩ := g0
  have hB : Bs (fun _ => 1) (col (fun _ => 1)) w w := Bs.start _ _
  refine calls_start (n := 39) (vs := [(.agg #[(.int .i64 p0.Labels), v1]), u1, (.int .i64 p2)]) Try.func107 rfl rfl ?_
  refine wpC_seq ?_
  refine wpC_region ?_
  refine st_op (by decide) trivial ?_
  refine wf_box (o := (col (fun _ => 1))) w.heap.size 11 hB.keeps.size (cs := [(.int .i64 p0.Labels), v1]) rfl rfl ?_
  intro o3 w4 b5 h6 s7
  replace hB := hB.stp s7 (by decide)
  refine st_val (ex_assign rfl) (by decide) trivial ?_
  refine wpF_end (r := [(1, u1), (2, (.int .i64 p2)), (3, (.pointer (some ⟨b5, 0, none⟩)))]) ⟨rfl, rfl, rfl, trivial⟩ ?_
  refine nx ?_
  refine wpC_seq ?_
  refine wpC_region ?_
  refine st_val (ex_move rfl) (by decide) trivial ?_
  refine st_val (ex_lenR rfl g1 Try.underlying26) (by decide) trivial ?_
  obtain ⟨x8, hx8, hF⟩ := bind_some hF
  refine st_op (by decide) trivial ?_
  refine wf_call (cS_l1In w4 (p1.length : Int) 2 200 x8 hx8) Try.call53 ⟨rfl, rfl, rfl, trivial⟩ ?_
  rintro e13 w9 ⟨rfl, k10⟩
  have s12 := k10.stp 999 o3
  refine ⟨_, rfl, ?_⟩
  replace h6 := h6.stp s12 (by decide)
  replace hB := hB.stp s12 (by decide)
  refine st_val (ex_move rfl) (by decide) trivial ?_
  obtain ⟨q14, hq14, hF⟩ := bind_some hF
  refine wpF_cutAt 28 (fun a16 w15 => Fr a16 39 [(38, (.bool q14))] ∧ Keeps w9 w15) ?_ ?_
  all_goals simp only [List.take_succ_cons, List.take_zero, List.drop_succ_cons, List.drop_zero]
  · have kp : Keeps w9 w9 := Keeps.refl _
    rcases Bool.eq_false_or_eq_true (x8) with t17 | t17
    · rw [if_pos t17] at hq14
      refine st_val (ex_move rfl) (by decide) ⟨_, rfl, (congrArg (fun b => some (Value.bool b)) t17)⟩ ?_
      refine st_val (ex_field rfl Try.underlying44 rfl Try.sizeOf3) (by decide) ⟨_, rfl, (congrArg (fun b => some (Value.bool b)) t17)⟩ ?_
      refine st_val (ex_load1 rfl Try.isAgg3 (h6.cell rfl)) (by decide) ⟨_, rfl, (congrArg (fun b => some (Value.bool b)) t17)⟩ ?_
      obtain ⟨x18, hx18, hq14⟩ := bind_some hq14
      refine st_val (ex_sub rfl rfl hx18) (by decide) ⟨_, rfl, (congrArg (fun b => some (Value.bool b)) t17)⟩ ?_
      obtain ⟨x19, hx19, hq14⟩ := bind_some hq14
      refine st_op (by decide) ⟨_, rfl, (congrArg (fun b => some (Value.bool b)) t17)⟩ ?_
      refine wf_call (cS_l1All w9 _ p1 (g1.keep hB.keeps) 0 x18 x19 hx19) Try.call88 ⟨rfl, rfl, rfl, trivial⟩ ?_
      rintro e24 w20 ⟨rfl, k21⟩
      have s23 := k21.stp 999 o3
      refine ⟨_, rfl, ?_⟩
      replace h6 := h6.stp s23 (by decide)
      replace hB := hB.stp s23 (by decide)
      replace kp := Keeps.trans kp k21
      refine st_val (ex_pick_t (congrArg (fun b => some (Value.bool b)) t17) rfl) (by decide) trivial ?_
      refine st_val (ex_move rfl) (by decide) trivial ?_
      rcases Bool.eq_false_or_eq_true (x19) with t25 | t25
      · rw [if_pos t25] at hq14
        refine st_val (ex_move rfl) (by decide) ⟨_, rfl, (congrArg (fun b => some (Value.bool b)) t25)⟩ ?_
        obtain ⟨x26, hx26, hq14⟩ := bind_some hq14
        refine st_op (by decide) ⟨_, rfl, (congrArg (fun b => some (Value.bool b)) t25)⟩ ?_
        refine wf_atZ g1 hx26 hB rfl rfl Try.underlying26 Try.sizeOf3 ?_
        intro b27 f28 c29 h30 h31
        cases h31
        refine st_val (ex_load1 rfl Try.isAgg3 (cell_of_cells h30)) (by decide) ⟨_, rfl, (congrArg (fun b => some (Value.bool b)) t25)⟩ ?_
        refine st_val (ex_move rfl) (by decide) ⟨_, rfl, (congrArg (fun b => some (Value.bool b)) t25)⟩ ?_
        refine st_val (ex_eql rfl rfl) (by decide) ⟨_, rfl, (congrArg (fun b => some (Value.bool b)) t25)⟩ ?_
        refine st_val (ex_pick_t (congrArg (fun b => some (Value.bool b)) t25) rfl) (by decide) trivial ?_
        refine st_val (ex_move rfl) (by decide) trivial ?_
        rcases Bool.eq_false_or_eq_true (x26 == p2) with t32 | t32
        · rw [if_pos t32] at hq14
          refine st_val (ex_move rfl) (by decide) ⟨_, rfl, (congrArg (fun b => some (Value.bool b)) t32)⟩ ?_
          refine st_val (ex_move rfl) (by decide) ⟨_, rfl, (congrArg (fun b => some (Value.bool b)) t32)⟩ ?_
          refine st_val (ex_lenR rfl g1 Try.underlying26) (by decide) ⟨_, rfl, (congrArg (fun b => some (Value.bool b)) t32)⟩ ?_
          obtain ⟨x33, hx33, hq14⟩ := bind_some hq14
          refine st_val (ex_sub rfl rfl hx33) (by decide) ⟨_, rfl, (congrArg (fun b => some (Value.bool b)) t32)⟩ ?_
          obtain ⟨x34, hx34, hq14⟩ := bind_some hq14
          refine st_op (by decide) ⟨_, rfl, (congrArg (fun b => some (Value.bool b)) t32)⟩ ?_
          refine wf_atZ g1 hx34 hB rfl rfl Try.underlying26 Try.sizeOf3 ?_
          intro b35 f36 c37 h38 h39
          cases h39
          refine st_val (ex_load1 rfl Try.isAgg3 (cell_of_cells h38)) (by decide) ⟨_, rfl, (congrArg (fun b => some (Value.bool b)) t32)⟩ ?_
          refine st_val (ex_move rfl) (by decide) ⟨_, rfl, (congrArg (fun b => some (Value.bool b)) t32)⟩ ?_
          refine st_val (ex_eql rfl rfl) (by decide) ⟨_, rfl, (congrArg (fun b => some (Value.bool b)) t32)⟩ ?_
          refine st_val (ex_pick_t (congrArg (fun b => some (Value.bool b)) t32) rfl) (by decide) trivial ?_
          refine st_val (ex_move rfl) (by decide) trivial ?_
          rcases Bool.eq_false_or_eq_true (x34 == p2) with t40 | t40
          · rw [if_pos t40] at hq14
            refine st_val (ex_loadA rfl Try.isAgg44 Try.sizeOf44 rfl h6.cells) (by decide) ⟨_, rfl, (congrArg (fun b => some (Value.bool b)) t40)⟩ ?_
            refine st_val (ex_move rfl) (by decide) ⟨_, rfl, (congrArg (fun b => some (Value.bool b)) t40)⟩ ?_
            obtain ⟨x41, hx41, hq14⟩ := bind_some hq14
            refine st_op (by decide) ⟨_, rfl, (congrArg (fun b => some (Value.bool b)) t40)⟩ ?_
            refine wf_call (cS_waWalk fuel w20 _ p0 (⟨_, rfl, (h2.keep hB.keeps)⟩) _ p1 (g1.keep hB.keeps) x41 hx41) Try.call149 ⟨rfl, rfl, trivial⟩ ?_
            rintro e46 w42 ⟨rfl, k43⟩
            have s45 := k43.stp 999 o3
            refine ⟨_, rfl, ?_⟩
            replace h6 := h6.stp s45 (by decide)
            replace hB := hB.stp s45 (by decide)
            replace kp := Keeps.trans kp k43
            refine st_val (ex_pick_t (congrArg (fun b => some (Value.bool b)) t40) rfl) (by decide) trivial ?_
            have hq142 := Option.some.inj hq14
            refine wpF_end (r := [(38, (.bool x41))]) ⟨rfl, trivial⟩ ?_
            subst hq142
            refine np_norm (fun a ha => ⟨ha, kp⟩)
          · rw [if_neg (by rw [t40]; decide)] at hq14
            refine st_no rfl rfl (by rw [t40]; rfl) (by decide) ?_
            refine st_no rfl rfl (by rw [t40]; rfl) (by decide) ?_
            refine st_no rfl rfl (by rw [t40]; rfl) (by decide) ?_
            refine st_val (ex_pick_f (congrArg (fun b => some (Value.bool b)) t40) rfl) (by decide) trivial ?_
            have hq142 := Option.some.inj hq14
            refine wpF_end (r := [(38, (.bool false))]) ⟨rfl, trivial⟩ ?_
            subst hq142
            refine np_norm (fun a ha => ⟨ha, kp⟩)
        · rw [if_neg (by rw [t32]; decide)] at hq14
          refine st_no rfl rfl (by rw [t32]; rfl) (by decide) ?_
          refine st_no rfl rfl (by rw [t32]; rfl) (by decide) ?_
          refine st_no rfl rfl (by rw [t32]; rfl) (by decide) ?_
          refine st_no rfl rfl (by rw [t32]; rfl) (by decide) ?_
          refine st_no rfl rfl (by rw [t32]; rfl) (by decide) ?_
          refine st_no rfl rfl (by rw [t32]; rfl) (by decide) ?_
          refine st_no rfl rfl (by rw [t32]; rfl) (by decide) ?_
          refine st_no rfl rfl (by rw [t32]; rfl) (by decide) ?_
          refine st_val (ex_pick_f (congrArg (fun b => some (Value.bool b)) t32) rfl) (by decide) trivial ?_
          refine st_val (ex_move rfl) (by decide) trivial ?_
          refine st_no rfl rfl rfl (by decide) ?_
          refine st_no rfl rfl rfl (by decide) ?_
          refine st_no rfl rfl rfl (by decide) ?_
          refine st_val (ex_pick_f rfl rfl) (by decide) trivial ?_
          have hq142 := Option.some.inj hq14
          refine wpF_end (r := [(38, (.bool false))]) ⟨rfl, trivial⟩ ?_
          subst hq142
          refine np_norm (fun a ha => ⟨ha, kp⟩)
      · rw [if_neg (by rw [t25]; decide)] at hq14
        refine st_no rfl rfl (by rw [t25]; rfl) (by decide) ?_
        refine st_no rfl rfl (by rw [t25]; rfl) (by decide) ?_
        refine st_no rfl rfl (by rw [t25]; rfl) (by decide) ?_
        refine st_no rfl rfl (by rw [t25]; rfl) (by decide) ?_
        refine st_no rfl rfl (by rw [t25]; rfl) (by decide) ?_
        refine st_val (ex_pick_f (congrArg (fun b => some (Value.bool b)) t25) rfl) (by decide) trivial ?_
        refine st_val (ex_move rfl) (by decide) trivial ?_
        refine st_no rfl rfl rfl (by decide) ?_
        refine st_no rfl rfl rfl (by decide) ?_
        refine st_no rfl rfl rfl (by decide) ?_
        refine st_no rfl rfl rfl (by decide) ?_
        refine st_no rfl rfl rfl (by decide) ?_
        refine st_no rfl rfl rfl (by decide) ?_
        refine st_no rfl rfl rfl (by decide) ?_
        refine st_no rfl rfl rfl (by decide) ?_
        refine st_val (ex_pick_f rfl rfl) (by decide) trivial ?_
        refine st_val (ex_move rfl) (by decide) trivial ?_
        refine st_no rfl rfl rfl (by decide) ?_
        refine st_no rfl rfl rfl (by decide) ?_
        refine st_no rfl rfl rfl (by decide) ?_
        refine st_val (ex_pick_f rfl rfl) (by decide) trivial ?_
        have hq142 := Option.some.inj hq14
        refine wpF_end (r := [(38, (.bool false))]) ⟨rfl, trivial⟩ ?_
        subst hq142
        refine np_norm (fun a ha => ⟨ha, kp⟩)
    · rw [if_neg (by rw [t17]; decide)] at hq14
      refine st_no rfl rfl (by rw [t17]; rfl) (by decide) ?_
      refine st_no rfl rfl (by rw [t17]; rfl) (by decide) ?_
      refine st_no rfl rfl (by rw [t17]; rfl) (by decide) ?_
      refine st_no rfl rfl (by rw [t17]; rfl) (by decide) ?_
      refine st_no rfl rfl (by rw [t17]; rfl) (by decide) ?_
      refine st_val (ex_pick_f (congrArg (fun b => some (Value.bool b)) t17) rfl) (by decide) trivial ?_
      refine st_val (ex_move rfl) (by decide) trivial ?_
      refine st_no rfl rfl rfl (by decide) ?_
      refine st_no rfl rfl rfl (by decide) ?_
      refine st_no rfl rfl rfl (by decide) ?_
      refine st_no rfl rfl rfl (by decide) ?_
      refine st_no rfl rfl rfl (by decide) ?_
      refine st_val (ex_pick_f rfl rfl) (by decide) trivial ?_
      refine st_val (ex_move rfl) (by decide) trivial ?_
      refine st_no rfl rfl rfl (by decide) ?_
      refine st_no rfl rfl rfl (by decide) ?_
      refine st_no rfl rfl rfl (by decide) ?_
      refine st_no rfl rfl rfl (by decide) ?_
      refine st_no rfl rfl rfl (by decide) ?_
      refine st_no rfl rfl rfl (by decide) ?_
      refine st_no rfl rfl rfl (by decide) ?_
      refine st_no rfl rfl rfl (by decide) ?_
      refine st_val (ex_pick_f rfl rfl) (by decide) trivial ?_
      refine st_val (ex_move rfl) (by decide) trivial ?_
      refine st_no rfl rfl rfl (by decide) ?_
      refine st_no rfl rfl rfl (by decide) ?_
      refine st_no rfl rfl rfl (by decide) ?_
      refine st_val (ex_pick_f rfl rfl) (by decide) trivial ?_
      have hq142 := Option.some.inj hq14
      refine wpF_end (r := [(38, (.bool false))]) ⟨rfl, trivial⟩ ?_
      subst hq142
      refine np_norm (fun a ha => ⟨ha, kp⟩)
  rintro a49 w15 ⟨ha, k47⟩
  have s48 := k47.stp 999 o3
  replace h6 := h6.stp s48 (by decide)
  replace hB := hB.stp s48 (by decide)
  refine wl_of ha ?_
  refine st_val (ex_assign rfl) (by decide) trivial ?_
  refine wpF_end (r := [(6, (.bool q14))]) ⟨rfl, trivial⟩ ?_
  refine nx ?_
  refine wpC_ret ?_
  have e50 := Option.some.inj hF
  subst e50
  refine ret_post (P := Try.prog) (vs := [(.bool q14)]) Try.results107 ⟨rfl, trivial⟩ ?_
  exact ⟨rfl, hB.keeps⟩

def fS_waRanked_s1 : Int → (List Int) → Unit → Option (Lp Unit Unit Bool) := fun (i12 : Int) (x22 : List Int) (s : Unit) =>
  (
    if (x22.length : Int) != 3 then
      some true
    else
      (fS_l1All x22 0 1000) >>= fun x34 =>
      some (!x34)) >>= fun q30 =>
  if q30 then
    some (.ret false)
  else
    some (.go ())
def fS_waRanked_s2 (p1 : List (List Int)) : Int → (List Int) → Unit → Option (Lp Unit Unit Bool) := fun (i49 : Int) (x59 : List Int) (s : Unit) =>
  (ix x59 0) >>= fun x67 =>
  (ix p1 x67) >>= fun x70 =>
  (ix x59 1) >>= fun x76 =>
  (ix p1 x76) >>= fun x79 =>
  (
    (ix x70 0) >>= fun x176 =>
    (ix x79 0) >>= fun x179 =>
    if x176 == x179 then
      (ix x70 1) >>= fun x183 =>
      (ix x79 1) >>= fun x186 =>
      if x183 == x186 then
        (ix x70 1) >>= fun x275 =>
        some (decide (x275 ≥ 2))
      else
        some false
    else
      some false) >>= fun q172 =>
  (
    (ix x79 0) >>= fun x360 =>
    (ix x70 0) >>= fun x363 =>
    if decide (x360 ≤ x363) then
      if !q172 then
        some true
      else
        (ix x79 2) >>= fun x475 =>
        (ix x70 2) >>= fun x478 =>
        (ck (x475 - x478)) >>= fun x481 =>
        (ck (x481 - 1)) >>= fun x482 =>
        (ix x70 1) >>= fun x483 =>
        (rem x482 x483) >>= fun x616 =>
        some (x616 != 0)
    else
      some false) >>= fun q356 =>
  if q356 then
    some (.ret false)
  else
    some (.go ())
def fS_waRanked (p0 : T_WalkProblem) (p1 : List (List Int)) : Option Bool :=
  if (p1.length : Int) != p0.Labels then
    some false
  else
    (forI (fS_waRanked_s1) p1 0 ()) >>= fun q13 =>
    match q13 with
    | .inl _ =>
      (forI (fS_waRanked_s2 p1) p0.Arcs 0 ()) >>= fun q50 =>
      match q50 with
      | .inl _ =>
        some true
      | .inr r' => some r'
    | .inr r' => some r'

def pS_waRanked (w : World) (r : Bool) : Ending → World → Prop := fun e w' => e = .returned (.bool r) ∧ Keeps w w'
set_option maxRecDepth 100000 in
set_option maxHeartbeats 2000000 in
theorem cS_waRanked (w : World) (u0 : List Value) (p0 : T_WalkProblem) (g0 : Rp.rd zt w u0 p0) (u1 : Value) (p1 : List (List Int)) (g1 : RdL zt w u1 p1) (r : Bool) (hF : fS_waRanked p0 p1 = some r) :
    Calls Try.prog 109 #[.agg u0.toArray, u1] w (pS_waRanked w r) := by
  unfold fS_waRanked at hF
  obtain ⟨v1, rfl, h2⟩ := g0
  have hB : Bs (fun _ => 1) (col (fun _ => 1)) w w := Bs.start _ _
  refine calls_start (n := 100) (vs := [(.agg #[(.int .i64 p0.Labels), v1]), u1]) Try.func109 rfl rfl ?_
  refine wpC_seq ?_
  refine wpC_region ?_
  refine st_op (by decide) trivial ?_
  refine wf_box (o := (col (fun _ => 1))) w.heap.size 11 hB.keeps.size (cs := [(.int .i64 p0.Labels), v1]) rfl rfl ?_
  intro o3 w4 b5 h6 s7
  replace hB := hB.stp s7 (by decide)
  refine st_val (ex_assign rfl) (by decide) trivial ?_
  refine wpF_end (r := [(1, u1), (2, (.pointer (some ⟨b5, 0, none⟩)))]) ⟨rfl, rfl, trivial⟩ ?_
  refine nx ?_
  refine wpC_seq ?_
  refine wpC_seq ?_
  refine wpC_region ?_
  refine st_val (ex_move rfl) (by decide) trivial ?_
  refine st_val (ex_lenR rfl g1 Try.underlying22) (by decide) trivial ?_
  refine st_val (ex_field rfl Try.underlying44 rfl Try.sizeOf3) (by decide) trivial ?_
  refine st_val (ex_load1 rfl Try.isAgg3 (h6.cell rfl)) (by decide) trivial ?_
  refine st_val (ex_neq rfl rfl) (by decide) trivial ?_
  refine wpF_end (r := [(1, u1), (2, (.pointer (some ⟨b5, 0, none⟩))), (16, (.bool ((p1.length : Int) != p0.Labels)))]) ⟨rfl, rfl, rfl, trivial⟩ ?_
  refine nx ?_
  refine wpC_cond rfl (fun t8 => ?_) (fun t8 => ?_)
  · rw [if_pos t8] at hF
    refine wpC_seq ?_
    refine wpC_region ?_
    refine st_val (ex_assign rfl) (by decide) trivial ?_
    refine wpF_end (r := [(4, (.bool false))]) ⟨rfl, trivial⟩ ?_
    refine nx ?_
    refine wpC_ret ?_
    refine nt_ret ?_
    have e9 := Option.some.inj hF
    subst e9
    refine ret_post (P := Try.prog) (vs := [(.bool false)]) Try.results109 ⟨rfl, trivial⟩ ?_
    exact ⟨rfl, hB.keeps⟩
  · rw [if_neg (by rw [t8]; decide)] at hF
    refine wpC_skip ?_
    refine nx ?_
    refine wpC_seq ?_
    refine wpC_seq ?_
    refine wpC_region ?_
    refine st_val (ex_move rfl) (by decide) trivial ?_
    refine st_val (ex_lenR rfl g1 Try.underlying22) (by decide) trivial ?_
    refine st_val (ex_move rfl) (by decide) trivial ?_
    refine wpF_end (r := [(1, u1), (2, (.pointer (some ⟨b5, 0, none⟩))), (17, u1), (18, (.int .i64 (p1.length : Int))), (19, (.int .i64 0))]) ⟨rfl, rfl, rfl, rfl, rfl, trivial⟩ ?_
    refine nx ?_
    obtain ⟨q13, hq13, hF⟩ := bind_some hF
    refine wpC_cutN (fun a w11 => ∃ (o10 : Tg), q13 = .inl () ∧ Fr a 100 [(1, u1), (2, (.pointer (some ⟨b5, 0, none⟩)))] ∧ Bs (fun _ => 1) o10 w w11 ∧ Bx w.heap.size 11 o10 w11 b5 44 [(.int .i64 p0.Labels), v1]) (fun a w' => ∃ r', q13 = .inr r' ∧ bodyPost Try.prog Try.f109 (pS_waRanked w r') .ret a w') ?_ ?_ ?_
    · refine wpC_block ?_
      refine wpC_loop (fun (K : Nat) a w11 => ∃ (i12 : Int) (o10 : Tg), forI (fS_waRanked_s1) (p1.drop i12.toNat) i12 () = some q13 ∧ (p1.drop i12.toNat).length = K ∧ 0 ≤ i12 ∧ Fr a 100 [(1, u1), (2, (.pointer (some ⟨b5, 0, none⟩))), (17, u1), (18, (.int .i64 (p1.length : Int))), (19, (.int .i64 i12))] ∧ Bs (fun _ => 1) o10 w w11 ∧ Bx w.heap.size 11 o10 w11 b5 44 [(.int .i64 p0.Labels), v1]) _ (fun a ha => ⟨0, o3, hq13, rfl, Int.le_refl 0, ha.sub (r := [(1, u1), (2, (.pointer (some ⟨b5, 0, none⟩))), (17, u1), (18, (.int .i64 (p1.length : Int))), (19, (.int .i64 0))]) ⟨rfl, rfl, rfl, rfl, rfl, trivial⟩, hB, h6⟩) ?_
      rintro K17 a w11 ⟨i12, o10, l14, m16, z15, ha, hB, h6⟩
      by_cases t21 : i12 < (p1.length : Int)
      · obtain ⟨x22, q18, hx22, b19, n20⟩ := forI_cons z15 t21 l14
        have hle := g1.len_le
        dsimp only [fS_waRanked_s1] at b19
        refine wp_of ha ?_
        refine wpC_seq ?_
        refine wpC_region ?_
        refine st_val (ex_lss rfl rfl) (by decide) trivial ?_
        refine wpF_end (r := [(1, u1), (2, (.pointer (some ⟨b5, 0, none⟩))), (17, u1), (18, (.int .i64 (p1.length : Int))), (19, (.int .i64 i12)), (20, (.bool (decide (i12 < (p1.length : Int)))))]) ⟨rfl, rfl, rfl, rfl, rfl, rfl, trivial⟩ ?_
        refine nx ?_
        refine wpC_seq ?_
        refine wpC_true (congrArg (fun b => some (Value.bool b)) (decide_eq_true t21)) ?_
        refine wpC_skip ?_
        refine nx ?_
        refine wpC_seq ?_
        refine wpC_block ?_
        refine wpC_seq ?_
        refine wpC_region ?_
        refine st_op (by decide) trivial ?_
        refine wf_atZ g1 hx22 hB rfl rfl Try.underlying22 Try.sizeOf26 ?_
        intro b23 f24 c25 h26 h27
        obtain ⟨v28, rfl, h29⟩ := h27
        refine st_val (ex_load1 rfl Try.isAgg26 (cell_of_cells h26)) (by decide) trivial ?_
        refine st_val (ex_assign rfl) (by decide) trivial ?_
        refine wpF_end (r := [(1, u1), (2, (.pointer (some ⟨b5, 0, none⟩))), (6, v28), (17, u1), (18, (.int .i64 (p1.length : Int))), (19, (.int .i64 i12))]) ⟨rfl, rfl, rfl, rfl, rfl, rfl, trivial⟩ ?_
        refine nx ?_
        refine wpC_seq ?_
        refine wpC_region ?_
        refine st_val (ex_move rfl) (by decide) trivial ?_
        refine st_val (ex_lenR rfl h29 Try.underlying26) (by decide) trivial ?_
        refine st_val (ex_neq rfl rfl) (by decide) trivial ?_
        refine st_val (ex_move rfl) (by decide) trivial ?_
        obtain ⟨q30, hq30, b19⟩ := bind_some b19
        refine wpF_cutAt 4 (fun a32 w31 => Fr a32 100 [(1, u1), (2, (.pointer (some ⟨b5, 0, none⟩))), (17, u1), (18, (.int .i64 (p1.length : Int))), (19, (.int .i64 i12)), (30, (.bool q30))] ∧ Keeps w11 w31) ?_ ?_
        all_goals simp only [List.take_succ_cons, List.take_zero, List.drop_succ_cons, List.drop_zero]
        · have kp : Keeps w11 w11 := Keeps.refl _
          rcases Bool.eq_false_or_eq_true ((x22.length : Int) != 3) with t33 | t33
          · rw [if_pos t33] at hq30
            refine st_no rfl rfl (by rw [t33]; rfl) (by decide) ?_
            refine st_no rfl rfl (by rw [t33]; rfl) (by decide) ?_
            refine st_no rfl rfl (by rw [t33]; rfl) (by decide) ?_
            refine st_val (ex_pick_t (congrArg (fun b => some (Value.bool b)) t33) rfl) (by decide) trivial ?_
            have hq302 := Option.some.inj hq30
            refine wpF_end (r := [(1, u1), (2, (.pointer (some ⟨b5, 0, none⟩))), (17, u1), (18, (.int .i64 (p1.length : Int))), (19, (.int .i64 i12)), (30, (.bool true))]) ⟨rfl, rfl, rfl, rfl, rfl, rfl, trivial⟩ ?_
            subst hq302
            refine np_norm (fun a ha => ⟨ha, kp⟩)
          · rw [if_neg (by rw [t33]; decide)] at hq30
            refine st_val (ex_move rfl) (by decide) ⟨_, rfl, (congrArg (fun b => some (Value.bool b)) t33)⟩ ?_
            obtain ⟨x34, hx34, hq30⟩ := bind_some hq30
            refine st_op (by decide) ⟨_, rfl, (congrArg (fun b => some (Value.bool b)) t33)⟩ ?_
            refine wf_call (cS_l1All w11 _ x22 (h29.keep hB.keeps) 0 1000 x34 hx34) Try.call88 ⟨rfl, rfl, rfl, trivial⟩ ?_
            rintro e39 w35 ⟨rfl, k36⟩
            have s38 := k36.stp 999 o10
            refine ⟨_, rfl, ?_⟩
            replace h6 := h6.stp s38 (by decide)
            replace hB := hB.stp s38 (by decide)
            replace kp := Keeps.trans kp k36
            refine st_val (ex_not rfl) (by decide) ⟨_, rfl, (congrArg (fun b => some (Value.bool b)) t33)⟩ ?_
            refine st_val (ex_pick_f (congrArg (fun b => some (Value.bool b)) t33) rfl) (by decide) trivial ?_
            have hq302 := Option.some.inj hq30
            refine wpF_end (r := [(1, u1), (2, (.pointer (some ⟨b5, 0, none⟩))), (17, u1), (18, (.int .i64 (p1.length : Int))), (19, (.int .i64 i12)), (30, (.bool (!x34)))]) ⟨rfl, rfl, rfl, rfl, rfl, rfl, trivial⟩ ?_
            subst hq302
            refine np_norm (fun a ha => ⟨ha, kp⟩)
        rintro a42 w31 ⟨ha, k40⟩
        have s41 := k40.stp 999 o10
        replace h6 := h6.stp s41 (by decide)
        replace hB := hB.stp s41 (by decide)
        refine wl_of ha ?_
        refine wpF_end (r := [(1, u1), (2, (.pointer (some ⟨b5, 0, none⟩))), (17, u1), (18, (.int .i64 (p1.length : Int))), (19, (.int .i64 i12)), (30, (.bool q30))]) ⟨rfl, rfl, rfl, rfl, rfl, rfl, trivial⟩ ?_
        refine nx ?_
        refine wpC_cond rfl (fun t43 => ?_) (fun t43 => ?_)
        · rw [if_pos t43] at b19
          refine wpC_seq ?_
          refine wpC_region ?_
          refine st_val (ex_assign rfl) (by decide) trivial ?_
          refine wpF_end (r := [(4, (.bool false))]) ⟨rfl, trivial⟩ ?_
          refine nx ?_
          refine wpC_ret ?_
          refine nb_ret ?_
          refine nt_ret ?_
          refine nt_ret ?_
          refine nb_ret ?_
          refine np_ret ?_
          have e44 := Option.some.inj b19
          subst e44
          refine fun a ha => ⟨_, n20, ?_⟩
          refine ret_post (P := Try.prog) (vs := [(.bool false)]) Try.results109 ⟨rfl, trivial⟩ ?_ a ha
          exact ⟨rfl, hB.keeps⟩
        · rw [if_neg (by rw [t43]; decide)] at b19
          refine wpC_skip ?_
          refine nb_norm ?_
          refine nx ?_
          refine wpC_region ?_
          refine st_val (ex_add rfl rfl (ck_in (by omega) (by omega))) (by decide) trivial ?_
          refine st_val (ex_move rfl) (by decide) trivial ?_
          refine wpF_end (r := [(1, u1), (2, (.pointer (some ⟨b5, 0, none⟩))), (17, u1), (18, (.int .i64 (p1.length : Int))), (19, (.int .i64 (i12 + 1)))]) ⟨rfl, rfl, rfl, rfl, rfl, trivial⟩ ?_
          refine nt_norm ?_
          have e45 := Option.some.inj b19
          subst e45
          refine to_k (r := [(1, u1), (2, (.pointer (some ⟨b5, 0, none⟩))), (17, u1), (18, (.int .i64 (p1.length : Int))), (19, (.int .i64 (i12 + 1)))]) ⟨rfl, rfl, rfl, rfl, rfl, trivial⟩ ?_
          intro a ha
          exact ⟨_, (by rw [← m16]; simp only [List.length_drop]; omega), i12 + 1, o10, n20, rfl, (by omega), ha, hB, h6⟩
      · have r46 := forI_done t21 l14
        refine wp_of ha ?_
        refine wpC_seq ?_
        refine wpC_region ?_
        refine st_val (ex_lss rfl rfl) (by decide) trivial ?_
        refine wpF_end (r := [(1, u1), (2, (.pointer (some ⟨b5, 0, none⟩))), (17, u1), (18, (.int .i64 (p1.length : Int))), (19, (.int .i64 i12)), (20, (.bool (decide (i12 < (p1.length : Int)))))]) ⟨rfl, rfl, rfl, rfl, rfl, rfl, trivial⟩ ?_
        refine nx ?_
        refine wpC_seq ?_
        refine wpC_false (congrArg (fun b => some (Value.bool b)) (decide_eq_false t21)) ?_
        refine wpC_exit ?_
        refine nt_exit ?_
        refine nt_exit ?_
        refine nb_hit ?_
        refine np_norm ?_
        refine to_k (r := [(1, u1), (2, (.pointer (some ⟨b5, 0, none⟩)))]) ⟨rfl, rfl, trivial⟩ ?_
        intro a ha
        exact ⟨o10, r46, ha, hB, h6⟩
    · rintro a w11 ⟨o10, rfl, ha, hB, h6⟩
      dsimp only at hF
      refine ap_k ha ?_
      refine nx ?_
      refine wpC_seq ?_
      refine wpC_seq ?_
      refine wpC_region ?_
      refine st_val (ex_field rfl Try.underlying44 rfl Try.sizeOf22) (by decide) trivial ?_
      refine st_val (ex_load1 rfl Try.isAgg22 (h6.cell rfl)) (by decide) trivial ?_
      refine st_val (ex_lenR rfl h2 Try.underlying22) (by decide) trivial ?_
      refine st_val (ex_move rfl) (by decide) trivial ?_
      refine wpF_end (r := [(1, u1), (33, v1), (34, (.int .i64 (p0.Arcs.length : Int))), (35, (.int .i64 0))]) ⟨rfl, rfl, rfl, rfl, trivial⟩ ?_
      refine nx ?_
      obtain ⟨q50, hq50, hF⟩ := bind_some hF
      refine wpC_cutN (fun a w48 => ∃ (o47 : Tg), q50 = .inl () ∧ Fr a 100 [] ∧ Bs (fun _ => 1) o47 w w48) (fun a w' => ∃ r', q50 = .inr r' ∧ bodyPost Try.prog Try.f109 (pS_waRanked w r') .ret a w') ?_ ?_ ?_
      · refine wpC_block ?_
        refine wpC_loop (fun (K : Nat) a w48 => ∃ (i49 : Int) (o47 : Tg), forI (fS_waRanked_s2 p1) (p0.Arcs.drop i49.toNat) i49 () = some q50 ∧ (p0.Arcs.drop i49.toNat).length = K ∧ 0 ≤ i49 ∧ Fr a 100 [(1, u1), (33, v1), (34, (.int .i64 (p0.Arcs.length : Int))), (35, (.int .i64 i49))] ∧ Bs (fun _ => 1) o47 w w48) _ (fun a ha => ⟨0, o10, hq50, rfl, Int.le_refl 0, ha.sub (r := [(1, u1), (33, v1), (34, (.int .i64 (p0.Arcs.length : Int))), (35, (.int .i64 0))]) ⟨rfl, rfl, rfl, rfl, trivial⟩, hB⟩) ?_
        rintro K54 a w48 ⟨i49, o47, l51, m53, z52, ha, hB⟩
        by_cases t58 : i49 < (p0.Arcs.length : Int)
        · obtain ⟨x59, q55, hx59, b56, n57⟩ := forI_cons z52 t58 l51
          have hle := h2.len_le
          dsimp only [fS_waRanked_s2] at b56
          refine wp_of ha ?_
          refine wpC_seq ?_
          refine wpC_region ?_
          refine st_val (ex_lss rfl rfl) (by decide) trivial ?_
          refine wpF_end (r := [(1, u1), (33, v1), (34, (.int .i64 (p0.Arcs.length : Int))), (35, (.int .i64 i49)), (36, (.bool (decide (i49 < (p0.Arcs.length : Int)))))]) ⟨rfl, rfl, rfl, rfl, rfl, trivial⟩ ?_
          refine nx ?_
          refine wpC_seq ?_
          refine wpC_true (congrArg (fun b => some (Value.bool b)) (decide_eq_true t58)) ?_
          refine wpC_skip ?_
          refine nx ?_
          refine wpC_seq ?_
          refine wpC_block ?_
          refine wpC_seq ?_
          refine wpC_region ?_
          refine st_op (by decide) trivial ?_
          refine wf_atZ h2 hx59 hB rfl rfl Try.underlying22 Try.sizeOf26 ?_
          intro b60 f61 c62 h63 h64
          obtain ⟨v65, rfl, h66⟩ := h64
          refine st_val (ex_load1 rfl Try.isAgg26 (cell_of_cells h63)) (by decide) trivial ?_
          refine st_val (ex_assign rfl) (by decide) trivial ?_
          refine wpF_end (r := [(1, u1), (8, v65), (33, v1), (34, (.int .i64 (p0.Arcs.length : Int))), (35, (.int .i64 i49))]) ⟨rfl, rfl, rfl, rfl, rfl, trivial⟩ ?_
          refine nx ?_
          refine wpC_seq ?_
          obtain ⟨x67, hx67, b56⟩ := bind_some b56
          obtain ⟨x70, hx70, b56⟩ := bind_some b56
          obtain ⟨x76, hx76, b56⟩ := bind_some b56
          obtain ⟨x79, hx79, b56⟩ := bind_some b56
          refine wpC_drawn (o := o47) [(1, u1), (8, v65), (33, v1), (34, (.int .i64 (p0.Arcs.length : Int))), (35, (.int .i64 i49))] [1, 8, 33, 34, 35] [39, 40, 41, 42, 43, 44, 45, 46, 47, 48, 49, 50, 9] [[], [], [1], [2], [0, 3], [4], [], [], [7], [8], [6, 9], [10], [5]] [none, none, none, none, none, none, none, none, none, none, none, none, none] [999, 999, 999, 999, 999, 999, 999, 999, 999, 999, 999, 999, 999] [0, 0, 0, 0, 0, 0, 0, 0, 0, 0, 0, 0, 0] [999] [fun v _ _ => v = u1, fun v _ _ => v = v65, fun v o w9 => ∃ vl, v = adr vl ((0 : Int).toNat * Rp.sz Int) ∧ RdL zt w vl x59, fun v _ _ => v = (.int .i64 x67), fun v o w9 => ∃ vl, v = adr vl (x67.toNat * Rp.sz (List Int)) ∧ RdL zt w vl p1, fun v o w9 => RdL zt w v x70, fun v _ _ => v = u1, fun v _ _ => v = v65, fun v o w9 => ∃ vl, v = adr vl ((1 : Int).toNat * Rp.sz Int) ∧ RdL zt w vl x59, fun v _ _ => v = (.int .i64 x76), fun v o w9 => ∃ vl, v = adr vl (x76.toNat * Rp.sz (List Int)) ∧ RdL zt w vl p1, fun v o w9 => RdL zt w v x79, fun v o w9 => RdL zt w v x70] (fun o8 w8 => Bs (fun _ => 1) o8 w w8) follows_mixed (by kernel_rfl) rfl ⟨rfl, rfl, rfl, rfl, rfl, trivial⟩ hB ?_ ⟨st_eq _, st_eq _, fun _ _ _ _ _ _ h0 hb ⟨vl, e, h⟩ hs => ⟨vl, e, h⟩, st_eq _, fun _ _ _ _ _ _ h0 hb ⟨vl, e, h⟩ hs => ⟨vl, e, h⟩, fun _ _ _ _ _ _ h0 hb h hs => h, st_eq _, st_eq _, fun _ _ _ _ _ _ h0 hb ⟨vl, e, h⟩ hs => ⟨vl, e, h⟩, st_eq _, fun _ _ _ _ _ _ h0 hb ⟨vl, e, h⟩ hs => ⟨vl, e, h⟩, fun _ _ _ _ _ _ h0 hb h hs => h, fun _ _ _ _ _ _ h0 hb h hs => h, trivial⟩ ?_ ?_
          · rintro t9 o1 w1 o2 w2 ht9 hB hs9
            have ht9 : t9 = 999 := by simpa using ht9
            subst ht9
            all_goals exact hB.stp hs9 (by decide)
          · refine ⟨?_, ?_, ?_, ?_, ?_, ?_, ?_, ?_, ?_, ?_, ?_, ?_, ?_, trivial⟩
            · rintro o85 w86 a87 ha hB -
              refine opS_of ha (trivial) ?_
              refine op1_val (ex_move rfl) ?_
              exact ⟨_, Stp.refl _ _ _, rfl⟩
            · rintro o88 w89 a90 ha hB -
              refine opS_of ha (trivial) ?_
              refine op1_val (ex_move rfl) ?_
              exact ⟨_, Stp.refl _ _ _, rfl⟩
            · rintro o91 w92 a93 ha hB ⟨r94, -⟩
              have ha := Fr.cons (d := 40) ha r94
              refine opS_of ha (trivial) ?_
              refine wd_indexR h66 hx67 rfl rfl Try.underlying26 Try.sizeOf3 ?_
              exact ⟨_, Stp.refl _ _ _, ⟨_, rfl, h66⟩⟩
            · rintro o95 w96 a97 ha hB ⟨r98, -⟩
              obtain ⟨v99, e100, h101⟩ := r98
              have ha := Fr.cons (d := 41) ha e100
              refine opS_of ha (trivial) ?_
              refine wd_load1Z h101 hx67 hB rfl rfl Try.isAgg3 ?_
              intro c102 h103
              cases h103
              exact ⟨_, Stp.refl _ _ _, rfl⟩
            · rintro o104 w105 a106 ha hB ⟨r107, r108, -⟩
              have ha := Fr.cons (d := 39) ha r107
              have ha := Fr.cons (d := 42) ha r108
              refine opS_of ha (trivial) ?_
              refine wd_indexR g1 hx70 rfl rfl Try.underlying22 Try.sizeOf26 ?_
              exact ⟨_, Stp.refl _ _ _, ⟨_, rfl, g1⟩⟩
            · rintro o109 w110 a111 ha hB ⟨r112, -⟩
              obtain ⟨v113, e114, h115⟩ := r112
              have ha := Fr.cons (d := 43) ha e114
              refine opS_of ha (trivial) ?_
              refine wd_load1Z h115 hx70 hB rfl rfl Try.isAgg26 ?_
              intro c116 h117
              obtain ⟨v118, e120, h119⟩ := h117
              cases e120
              exact ⟨_, Stp.refl _ _ _, h119⟩
            · rintro o121 w122 a123 ha hB -
              refine opS_of ha (trivial) ?_
              refine op1_val (ex_move rfl) ?_
              exact ⟨_, Stp.refl _ _ _, rfl⟩
            · rintro o124 w125 a126 ha hB -
              refine opS_of ha (trivial) ?_
              refine op1_val (ex_move rfl) ?_
              exact ⟨_, Stp.refl _ _ _, rfl⟩
            · rintro o127 w128 a129 ha hB ⟨r130, -⟩
              have ha := Fr.cons (d := 46) ha r130
              refine opS_of ha (trivial) ?_
              refine wd_indexR h66 hx76 rfl rfl Try.underlying26 Try.sizeOf3 ?_
              exact ⟨_, Stp.refl _ _ _, ⟨_, rfl, h66⟩⟩
            · rintro o131 w132 a133 ha hB ⟨r134, -⟩
              obtain ⟨v135, e136, h137⟩ := r134
              have ha := Fr.cons (d := 47) ha e136
              refine opS_of ha (trivial) ?_
              refine wd_load1Z h137 hx76 hB rfl rfl Try.isAgg3 ?_
              intro c138 h139
              cases h139
              exact ⟨_, Stp.refl _ _ _, rfl⟩
            · rintro o140 w141 a142 ha hB ⟨r143, r144, -⟩
              have ha := Fr.cons (d := 45) ha r143
              have ha := Fr.cons (d := 48) ha r144
              refine opS_of ha (trivial) ?_
              refine wd_indexR g1 hx79 rfl rfl Try.underlying22 Try.sizeOf26 ?_
              exact ⟨_, Stp.refl _ _ _, ⟨_, rfl, g1⟩⟩
            · rintro o145 w146 a147 ha hB ⟨r148, -⟩
              obtain ⟨v149, e150, h151⟩ := r148
              have ha := Fr.cons (d := 49) ha e150
              refine opS_of ha (trivial) ?_
              refine wd_load1Z h151 hx79 hB rfl rfl Try.isAgg26 ?_
              intro c152 h153
              obtain ⟨v154, e156, h155⟩ := h153
              cases e156
              exact ⟨_, Stp.refl _ _ _, h155⟩
            · rintro o157 w158 a159 ha hB ⟨r160, -⟩
              replace r160 : RdL zt w (a159.tmps.getD 44 undef) x70 := r160
              generalize e162 : a159.tmps.getD 44 undef = v161 at r160
              have ha := Fr.cons (d := 44) ha e162
              refine opS_of ha (trivial) ?_
              refine op1_val (ex_assign rfl) ?_
              exact ⟨_, Stp.refl _ _ _, r160⟩
          rintro o163 w164 a165 ha hB ⟨-, -, -, -, -, -, -, -, -, -, -, r166, r167, -⟩
          replace r166 : RdL zt w (a165.tmps.getD 50 undef) x79 := r166
          generalize e169 : a165.tmps.getD 50 undef = v168 at r166
          have ha := Fr.cons (d := 50) ha e169
          replace r167 : RdL zt w (a165.tmps.getD 9 undef) x70 := r167
          generalize e171 : a165.tmps.getD 9 undef = v170 at r167
          have ha := Fr.cons (d := 9) ha e171
          refine wl_of ha ?_
          simp only [List.length_cons, List.length_nil, Nat.zero_add, Nat.reduceAdd, List.drop_succ_cons, List.drop_zero]
          refine st_val (ex_assign rfl) (by decide) trivial ?_
          refine wpF_end (r := [(1, u1), (9, v170), (10, v168), (33, v1), (34, (.int .i64 (p0.Arcs.length : Int))), (35, (.int .i64 i49))]) ⟨rfl, rfl, rfl, rfl, rfl, rfl, trivial⟩ ?_
          refine nx ?_
          refine wpC_seq ?_
          obtain ⟨q172, hq172, b56⟩ := bind_some b56
          refine wpC_cutN (fun a175 w174 => ∃ o173 : Tg, Fr a175 100 [(1, u1), (9, v170), (10, v168), (11, (.bool q172)), (33, v1), (34, (.int .i64 (p0.Arcs.length : Int))), (35, (.int .i64 i49))] ∧ Bs (fun _ => 1) o173 w w174) (fun _ _ => False) ?_ ?_ (fun _ _ h => h.elim)
          · obtain ⟨x176, hx176, hq172⟩ := bind_some hq172
            obtain ⟨x179, hx179, hq172⟩ := bind_some hq172
            rcases Bool.eq_false_or_eq_true (x176 == x179) with t182 | t182
            · rw [if_pos t182] at hq172
              obtain ⟨x183, hx183, hq172⟩ := bind_some hq172
              obtain ⟨x186, hx186, hq172⟩ := bind_some hq172
              refine wpC_drawn (o := o163) [(1, u1), (9, v170), (10, v168), (33, v1), (34, (.int .i64 (p0.Arcs.length : Int))), (35, (.int .i64 i49))] [1, 9, 10, 33, 34, 35] [51, 52, 53, 54, 55, 56, 57, 58, 59, 60, 61, 62, 63, 64] [[], [0], [1], [], [3], [4], [2, 5], [6], [7], [7, 8], [7, 9], [7], [7, 11], [7, 12]] [none, none, none, none, none, none, none, none, none, none, none, none, none, none] [999, 999, 999, 999, 999, 999, 999, 999, 999, 999, 999, 999, 999, 999] [0, 0, 0, 0, 0, 0, 0, 0, 0, 0, 0, 0, 0, 0] [999] [fun v _ _ => v = v170, fun v o w9 => ∃ vl, v = adr vl ((0 : Int).toNat * Rp.sz Int) ∧ RdL zt w vl x70, fun v _ _ => v = (.int .i64 x176), fun v _ _ => v = v168, fun v o w9 => ∃ vl, v = adr vl ((0 : Int).toNat * Rp.sz Int) ∧ RdL zt w vl x79, fun v _ _ => v = (.int .i64 x179), fun v _ _ => v = (.bool (x176 == x179)), fun v _ _ => v = (.bool (x176 == x179)), fun v _ _ => v = v170, fun v o w9 => ∃ vl, v = adr vl ((1 : Int).toNat * Rp.sz Int) ∧ RdL zt w vl x70, fun v _ _ => v = (.int .i64 x183), fun v _ _ => v = v168, fun v o w9 => ∃ vl, v = adr vl ((1 : Int).toNat * Rp.sz Int) ∧ RdL zt w vl x79, fun v _ _ => v = (.int .i64 x186)] (fun o8 w8 => Bs (fun _ => 1) o8 w w8) follows_mixed (by kernel_rfl) rfl ⟨rfl, rfl, rfl, rfl, rfl, rfl, trivial⟩ hB ?_ ⟨st_eq _, fun _ _ _ _ _ _ h0 hb ⟨vl, e, h⟩ hs => ⟨vl, e, h⟩, st_eq _, st_eq _, fun _ _ _ _ _ _ h0 hb ⟨vl, e, h⟩ hs => ⟨vl, e, h⟩, st_eq _, st_eq _, st_eq _, st_eq _, fun _ _ _ _ _ _ h0 hb ⟨vl, e, h⟩ hs => ⟨vl, e, h⟩, st_eq _, st_eq _, fun _ _ _ _ _ _ h0 hb ⟨vl, e, h⟩ hs => ⟨vl, e, h⟩, st_eq _, trivial⟩ ?_ ?_
              · rintro t9 o1 w1 o2 w2 ht9 hB hs9
                have ht9 : t9 = 999 := by simpa using ht9
                subst ht9
                all_goals exact hB.stp hs9 (by decide)
              · refine ⟨?_, ?_, ?_, ?_, ?_, ?_, ?_, ?_, ?_, ?_, ?_, ?_, ?_, ?_, trivial⟩
                · rintro o189 w190 a191 ha hB -
                  refine opS_of ha (trivial) ?_
                  refine op1_val (ex_move rfl) ?_
                  exact ⟨_, Stp.refl _ _ _, rfl⟩
                · rintro o192 w193 a194 ha hB ⟨r195, -⟩
                  have ha := Fr.cons (d := 51) ha r195
                  refine opS_of ha (trivial) ?_
                  refine wd_indexR r167 hx176 rfl rfl Try.underlying26 Try.sizeOf3 ?_
                  exact ⟨_, Stp.refl _ _ _, ⟨_, rfl, r167⟩⟩
                · rintro o196 w197 a198 ha hB ⟨r199, -⟩
                  obtain ⟨v200, e201, h202⟩ := r199
                  have ha := Fr.cons (d := 52) ha e201
                  refine opS_of ha (trivial) ?_
                  refine wd_load1Z h202 hx176 hB rfl rfl Try.isAgg3 ?_
                  intro c203 h204
                  cases h204
                  exact ⟨_, Stp.refl _ _ _, rfl⟩
                · rintro o205 w206 a207 ha hB -
                  refine opS_of ha (trivial) ?_
                  refine op1_val (ex_move rfl) ?_
                  exact ⟨_, Stp.refl _ _ _, rfl⟩
                · rintro o208 w209 a210 ha hB ⟨r211, -⟩
                  have ha := Fr.cons (d := 54) ha r211
                  refine opS_of ha (trivial) ?_
                  refine wd_indexR r166 hx179 rfl rfl Try.underlying26 Try.sizeOf3 ?_
                  exact ⟨_, Stp.refl _ _ _, ⟨_, rfl, r166⟩⟩
                · rintro o212 w213 a214 ha hB ⟨r215, -⟩
                  obtain ⟨v216, e217, h218⟩ := r215
                  have ha := Fr.cons (d := 55) ha e217
                  refine opS_of ha (trivial) ?_
                  refine wd_load1Z h218 hx179 hB rfl rfl Try.isAgg3 ?_
                  intro c219 h220
                  cases h220
                  exact ⟨_, Stp.refl _ _ _, rfl⟩
                · rintro o221 w222 a223 ha hB ⟨r224, r225, -⟩
                  have ha := Fr.cons (d := 53) ha r224
                  have ha := Fr.cons (d := 56) ha r225
                  refine opS_of ha (trivial) ?_
                  refine op1_val (ex_eql rfl rfl) ?_
                  exact ⟨_, Stp.refl _ _ _, rfl⟩
                · rintro o226 w227 a228 ha hB ⟨r229, -⟩
                  have ha := Fr.cons (d := 57) ha r229
                  refine opS_of ha (trivial) ?_
                  refine op1_val (ex_move rfl) ?_
                  exact ⟨_, Stp.refl _ _ _, rfl⟩
                · rintro o230 w231 a232 ha hB ⟨r233, -⟩
                  have ha := Fr.cons (d := 58) ha r233
                  refine opS_of ha (⟨_, rfl, (congrArg (fun b => some (Value.bool b)) t182)⟩) ?_
                  refine op1_val (ex_move rfl) ?_
                  exact ⟨_, Stp.refl _ _ _, rfl⟩
                · rintro o234 w235 a236 ha hB ⟨r237, r238, -⟩
                  have ha := Fr.cons (d := 58) ha r237
                  have ha := Fr.cons (d := 59) ha r238
                  refine opS_of ha (⟨_, rfl, (congrArg (fun b => some (Value.bool b)) t182)⟩) ?_
                  refine wd_indexR r167 hx183 rfl rfl Try.underlying26 Try.sizeOf3 ?_
                  exact ⟨_, Stp.refl _ _ _, ⟨_, rfl, r167⟩⟩
                · rintro o239 w240 a241 ha hB ⟨r242, r243, -⟩
                  have ha := Fr.cons (d := 58) ha r242
                  obtain ⟨v244, e245, h246⟩ := r243
                  have ha := Fr.cons (d := 60) ha e245
                  refine opS_of ha (⟨_, rfl, (congrArg (fun b => some (Value.bool b)) t182)⟩) ?_
                  refine wd_load1Z h246 hx183 hB rfl rfl Try.isAgg3 ?_
                  intro c247 h248
                  cases h248
                  exact ⟨_, Stp.refl _ _ _, rfl⟩
                · rintro o249 w250 a251 ha hB ⟨r252, -⟩
                  have ha := Fr.cons (d := 58) ha r252
                  refine opS_of ha (⟨_, rfl, (congrArg (fun b => some (Value.bool b)) t182)⟩) ?_
                  refine op1_val (ex_move rfl) ?_
                  exact ⟨_, Stp.refl _ _ _, rfl⟩
                · rintro o253 w254 a255 ha hB ⟨r256, r257, -⟩
                  have ha := Fr.cons (d := 58) ha r256
                  have ha := Fr.cons (d := 62) ha r257
                  refine opS_of ha (⟨_, rfl, (congrArg (fun b => some (Value.bool b)) t182)⟩) ?_
                  refine wd_indexR r166 hx186 rfl rfl Try.underlying26 Try.sizeOf3 ?_
                  exact ⟨_, Stp.refl _ _ _, ⟨_, rfl, r166⟩⟩
                · rintro o258 w259 a260 ha hB ⟨r261, r262, -⟩
                  have ha := Fr.cons (d := 58) ha r261
                  obtain ⟨v263, e264, h265⟩ := r262
                  have ha := Fr.cons (d := 63) ha e264
                  refine opS_of ha (⟨_, rfl, (congrArg (fun b => some (Value.bool b)) t182)⟩) ?_
                  refine wd_load1Z h265 hx186 hB rfl rfl Try.isAgg3 ?_
                  intro c266 h267
                  cases h267
                  exact ⟨_, Stp.refl _ _ _, rfl⟩
              rintro o268 w269 a270 ha hB ⟨-, -, -, -, -, -, -, r271, -, -, r272, -, -, r273, -⟩
              have ha := Fr.cons (d := 58) ha r271
              have ha := Fr.cons (d := 61) ha r272
              have ha := Fr.cons (d := 64) ha r273
              refine wl_of ha ?_
              simp only [List.length_cons, List.length_nil, Nat.zero_add, Nat.reduceAdd, List.drop_succ_cons, List.drop_zero]
              refine st_val (ex_eql rfl rfl) (by decide) ⟨_, rfl, (congrArg (fun b => some (Value.bool b)) t182)⟩ ?_
              refine st_val (ex_pick_t (congrArg (fun b => some (Value.bool b)) t182) rfl) (by decide) trivial ?_
              refine st_val (ex_move rfl) (by decide) trivial ?_
              rcases Bool.eq_false_or_eq_true (x183 == x186) with t274 | t274
              · rw [if_pos t274] at hq172
                refine st_val (ex_move rfl) (by decide) ⟨_, rfl, (congrArg (fun b => some (Value.bool b)) t274)⟩ ?_
                obtain ⟨x275, hx275, hq172⟩ := bind_some hq172
                refine st_op (by decide) ⟨_, rfl, (congrArg (fun b => some (Value.bool b)) t274)⟩ ?_
                refine wf_atZ r167 hx275 hB rfl rfl Try.underlying26 Try.sizeOf3 ?_
                intro b276 f277 c278 h279 h280
                cases h280
                refine st_val (ex_load1 rfl Try.isAgg3 (cell_of_cells h279)) (by decide) ⟨_, rfl, (congrArg (fun b => some (Value.bool b)) t274)⟩ ?_
                refine st_val (ex_geq rfl rfl) (by decide) ⟨_, rfl, (congrArg (fun b => some (Value.bool b)) t274)⟩ ?_
                refine st_val (ex_pick_t (congrArg (fun b => some (Value.bool b)) t274) rfl) (by decide) trivial ?_
                refine st_val (ex_assign rfl) (by decide) trivial ?_
                have e281 := Option.some.inj hq172
                subst e281
                refine wpF_end (r := [(1, u1), (9, v170), (10, v168), (11, (.bool (decide (x275 ≥ 2)))), (33, v1), (34, (.int .i64 (p0.Arcs.length : Int))), (35, (.int .i64 i49))]) ⟨rfl, rfl, rfl, rfl, rfl, rfl, rfl, trivial⟩ ?_
                refine np_norm (fun a ha => ⟨o268, ha, hB⟩)
              · rw [if_neg (by rw [t274]; decide)] at hq172
                refine st_no rfl rfl (by rw [t274]; rfl) (by decide) ?_
                refine st_no rfl rfl (by rw [t274]; rfl) (by decide) ?_
                refine st_no rfl rfl (by rw [t274]; rfl) (by decide) ?_
                refine st_no rfl rfl (by rw [t274]; rfl) (by decide) ?_
                refine st_val (ex_pick_f (congrArg (fun b => some (Value.bool b)) t274) rfl) (by decide) trivial ?_
                refine st_val (ex_assign rfl) (by decide) trivial ?_
                have e282 := Option.some.inj hq172
                subst e282
                refine wpF_end (r := [(1, u1), (9, v170), (10, v168), (11, (.bool false)), (33, v1), (34, (.int .i64 (p0.Arcs.length : Int))), (35, (.int .i64 i49))]) ⟨rfl, rfl, rfl, rfl, rfl, rfl, rfl, trivial⟩ ?_
                refine np_norm (fun a ha => ⟨o268, ha, hB⟩)
            · rw [if_neg (by rw [t182]; decide)] at hq172
              refine wpC_drawn (o := o163) [(1, u1), (9, v170), (10, v168), (33, v1), (34, (.int .i64 (p0.Arcs.length : Int))), (35, (.int .i64 i49))] [1, 9, 10, 33, 34, 35] [51, 52, 53, 54, 55, 56, 57, 58, 59, 60, 61, 62, 63, 64] [[], [0], [1], [], [3], [4], [2, 5], [6], [7], [7], [7], [7], [7], [7]] [none, none, none, none, none, none, none, none, none, none, none, none, none, none] [999, 999, 999, 999, 999, 999, 999, 999, 999, 999, 999, 999, 999, 999] [0, 0, 0, 0, 0, 0, 0, 0, 0, 0, 0, 0, 0, 0] [999] [fun v _ _ => v = v170, fun v o w9 => ∃ vl, v = adr vl ((0 : Int).toNat * Rp.sz Int) ∧ RdL zt w vl x70, fun v _ _ => v = (.int .i64 x176), fun v _ _ => v = v168, fun v o w9 => ∃ vl, v = adr vl ((0 : Int).toNat * Rp.sz Int) ∧ RdL zt w vl x79, fun v _ _ => v = (.int .i64 x179), fun v _ _ => v = (.bool (x176 == x179)), fun v _ _ => v = (.bool (x176 == x179)), fun v _ _ => v = undef, fun v _ _ => v = undef, fun v _ _ => v = undef, fun v _ _ => v = undef, fun v _ _ => v = undef, fun v _ _ => v = undef] (fun o8 w8 => Bs (fun _ => 1) o8 w w8) follows_mixed (by kernel_rfl) rfl ⟨rfl, rfl, rfl, rfl, rfl, rfl, trivial⟩ hB ?_ ⟨st_eq _, fun _ _ _ _ _ _ h0 hb ⟨vl, e, h⟩ hs => ⟨vl, e, h⟩, st_eq _, st_eq _, fun _ _ _ _ _ _ h0 hb ⟨vl, e, h⟩ hs => ⟨vl, e, h⟩, st_eq _, st_eq _, st_eq _, st_eq _, st_eq _, st_eq _, st_eq _, st_eq _, st_eq _, trivial⟩ ?_ ?_
              · rintro t9 o1 w1 o2 w2 ht9 hB hs9
                have ht9 : t9 = 999 := by simpa using ht9
                subst ht9
                all_goals exact hB.stp hs9 (by decide)
              · refine ⟨?_, ?_, ?_, ?_, ?_, ?_, ?_, ?_, ?_, ?_, ?_, ?_, ?_, ?_, trivial⟩
                · rintro o283 w284 a285 ha hB -
                  refine opS_of ha (trivial) ?_
                  refine op1_val (ex_move rfl) ?_
                  exact ⟨_, Stp.refl _ _ _, rfl⟩
                · rintro o286 w287 a288 ha hB ⟨r289, -⟩
                  have ha := Fr.cons (d := 51) ha r289
                  refine opS_of ha (trivial) ?_
                  refine wd_indexR r167 hx176 rfl rfl Try.underlying26 Try.sizeOf3 ?_
                  exact ⟨_, Stp.refl _ _ _, ⟨_, rfl, r167⟩⟩
                · rintro o290 w291 a292 ha hB ⟨r293, -⟩
                  obtain ⟨v294, e295, h296⟩ := r293
                  have ha := Fr.cons (d := 52) ha e295
                  refine opS_of ha (trivial) ?_
                  refine wd_load1Z h296 hx176 hB rfl rfl Try.isAgg3 ?_
                  intro c297 h298
                  cases h298
                  exact ⟨_, Stp.refl _ _ _, rfl⟩
                · rintro o299 w300 a301 ha hB -
                  refine opS_of ha (trivial) ?_
                  refine op1_val (ex_move rfl) ?_
                  exact ⟨_, Stp.refl _ _ _, rfl⟩
                · rintro o302 w303 a304 ha hB ⟨r305, -⟩
                  have ha := Fr.cons (d := 54) ha r305
                  refine opS_of ha (trivial) ?_
                  refine wd_indexR r166 hx179 rfl rfl Try.underlying26 Try.sizeOf3 ?_
                  exact ⟨_, Stp.refl _ _ _, ⟨_, rfl, r166⟩⟩
                · rintro o306 w307 a308 ha hB ⟨r309, -⟩
                  obtain ⟨v310, e311, h312⟩ := r309
                  have ha := Fr.cons (d := 55) ha e311
                  refine opS_of ha (trivial) ?_
                  refine wd_load1Z h312 hx179 hB rfl rfl Try.isAgg3 ?_
                  intro c313 h314
                  cases h314
                  exact ⟨_, Stp.refl _ _ _, rfl⟩
                · rintro o315 w316 a317 ha hB ⟨r318, r319, -⟩
                  have ha := Fr.cons (d := 53) ha r318
                  have ha := Fr.cons (d := 56) ha r319
                  refine opS_of ha (trivial) ?_
                  refine op1_val (ex_eql rfl rfl) ?_
                  exact ⟨_, Stp.refl _ _ _, rfl⟩
                · rintro o320 w321 a322 ha hB ⟨r323, -⟩
                  have ha := Fr.cons (d := 57) ha r323
                  refine opS_of ha (trivial) ?_
                  refine op1_val (ex_move rfl) ?_
                  exact ⟨_, Stp.refl _ _ _, rfl⟩
                · rintro o324 w325 a326 ha hB ⟨r327, -⟩
                  have ha := Fr.cons (d := 58) ha r327
                  exact opS_no ha rfl rfl rfl (by rw [t182]; rfl) ⟨_, Stp.refl _ _ _, rfl⟩
                · rintro o328 w329 a330 ha hB ⟨r331, -⟩
                  have ha := Fr.cons (d := 58) ha r331
                  exact opS_no ha rfl rfl rfl (by rw [t182]; rfl) ⟨_, Stp.refl _ _ _, rfl⟩
                · rintro o332 w333 a334 ha hB ⟨r335, -⟩
                  have ha := Fr.cons (d := 58) ha r335
                  exact opS_no ha rfl rfl rfl (by rw [t182]; rfl) ⟨_, Stp.refl _ _ _, rfl⟩
                · rintro o336 w337 a338 ha hB ⟨r339, -⟩
                  have ha := Fr.cons (d := 58) ha r339
                  exact opS_no ha rfl rfl rfl (by rw [t182]; rfl) ⟨_, Stp.refl _ _ _, rfl⟩
                · rintro o340 w341 a342 ha hB ⟨r343, -⟩
                  have ha := Fr.cons (d := 58) ha r343
                  exact opS_no ha rfl rfl rfl (by rw [t182]; rfl) ⟨_, Stp.refl _ _ _, rfl⟩
                · rintro o344 w345 a346 ha hB ⟨r347, -⟩
                  have ha := Fr.cons (d := 58) ha r347
                  exact opS_no ha rfl rfl rfl (by rw [t182]; rfl) ⟨_, Stp.refl _ _ _, rfl⟩
              rintro o348 w349 a350 ha hB ⟨-, -, -, -, -, -, -, r351, -, -, r352, -, -, r353, -⟩
              have ha := Fr.cons (d := 58) ha r351
              have ha := Fr.cons (d := 61) ha r352
              have ha := Fr.cons (d := 64) ha r353
              refine wl_of ha ?_
              simp only [List.length_cons, List.length_nil, Nat.zero_add, Nat.reduceAdd, List.drop_succ_cons, List.drop_zero]
              refine st_no rfl rfl (by rw [t182]; rfl) (by decide) ?_
              refine st_val (ex_pick_f (congrArg (fun b => some (Value.bool b)) t182) rfl) (by decide) trivial ?_
              refine st_val (ex_move rfl) (by decide) trivial ?_
              refine st_no rfl rfl rfl (by decide) ?_
              refine st_no rfl rfl rfl (by decide) ?_
              refine st_no rfl rfl rfl (by decide) ?_
              refine st_no rfl rfl rfl (by decide) ?_
              refine st_val (ex_pick_f rfl rfl) (by decide) trivial ?_
              refine st_val (ex_assign rfl) (by decide) trivial ?_
              have e354 := Option.some.inj hq172
              subst e354
              refine wpF_end (r := [(1, u1), (9, v170), (10, v168), (11, (.bool false)), (33, v1), (34, (.int .i64 (p0.Arcs.length : Int))), (35, (.int .i64 i49))]) ⟨rfl, rfl, rfl, rfl, rfl, rfl, rfl, trivial⟩ ?_
              refine np_norm (fun a ha => ⟨o348, ha, hB⟩)
          rintro a355 w174 ⟨o173, ha, hB⟩
          refine ap_k ha ?_
          refine nx ?_
          refine wpC_seq ?_
          obtain ⟨q356, hq356, b56⟩ := bind_some b56
          refine wpC_cutN (fun a359 w358 => ∃ o357 : Tg, Fr a359 100 [(1, u1), (33, v1), (34, (.int .i64 (p0.Arcs.length : Int))), (35, (.int .i64 i49)), (98, (.bool q356))] ∧ Bs (fun _ => 1) o357 w w358) (fun _ _ => False) ?_ ?_ (fun _ _ h => h.elim)
          · obtain ⟨x360, hx360, hq356⟩ := bind_some hq356
            obtain ⟨x363, hx363, hq356⟩ := bind_some hq356
            rcases Bool.eq_false_or_eq_true (decide (x360 ≤ x363)) with t366 | t366
            · rw [if_pos t366] at hq356
              rcases Bool.eq_false_or_eq_true (!q172) with t367 | t367
              · rw [if_pos t367] at hq356
                refine wpC_drawn (o := o173) [(1, u1), (9, v170), (10, v168), (11, (.bool q172)), (33, v1), (34, (.int .i64 (p0.Arcs.length : Int))), (35, (.int .i64 i49))] [1, 9, 10, 11, 33, 34, 35] [73, 74, 75, 76, 77, 78, 79, 80, 81, 82, 83, 84, 85, 86, 87, 88, 89, 90, 91, 92, 93, 94] [[], [0], [1], [], [3], [4], [2, 5], [6], [7], [7, 8], [7, 9], [10], [10], [10], [10], [10], [10], [10], [10], [10], [10], [10]] [none, none, none, none, none, none, none, none, none, none, none, none, none, none, none, none, none, none, none, none, none, none] [999, 999, 999, 999, 999, 999, 999, 999, 999, 999, 999, 999, 999, 999, 999, 999, 999, 999, 999, 999, 999, 999] [0, 0, 0, 0, 0, 0, 0, 0, 0, 0, 0, 0, 0, 0, 0, 0, 0, 0, 0, 0, 0, 0] [999] [fun v _ _ => v = v168, fun v o w9 => ∃ vl, v = adr vl ((0 : Int).toNat * Rp.sz Int) ∧ RdL zt w vl x79, fun v _ _ => v = (.int .i64 x360), fun v _ _ => v = v170, fun v o w9 => ∃ vl, v = adr vl ((0 : Int).toNat * Rp.sz Int) ∧ RdL zt w vl x70, fun v _ _ => v = (.int .i64 x363), fun v _ _ => v = (.bool (decide (x360 ≤ x363))), fun v _ _ => v = (.bool (decide (x360 ≤ x363))), fun v _ _ => v = (.bool q172), fun v _ _ => v = (.bool (!q172)), fun v _ _ => v = (.bool (!q172)), fun v _ _ => v = undef, fun v _ _ => v = undef, fun v _ _ => v = undef, fun v _ _ => v = undef, fun v _ _ => v = undef, fun v _ _ => v = undef, fun v _ _ => v = undef, fun v _ _ => v = undef, fun v _ _ => v = undef, fun v _ _ => v = undef, fun v _ _ => v = undef] (fun o8 w8 => Bs (fun _ => 1) o8 w w8) follows_mixed (by kernel_rfl) rfl ⟨rfl, rfl, rfl, rfl, rfl, rfl, rfl, trivial⟩ hB ?_ ⟨st_eq _, fun _ _ _ _ _ _ h0 hb ⟨vl, e, h⟩ hs => ⟨vl, e, h⟩, st_eq _, st_eq _, fun _ _ _ _ _ _ h0 hb ⟨vl, e, h⟩ hs => ⟨vl, e, h⟩, st_eq _, st_eq _, st_eq _, st_eq _, st_eq _, st_eq _, st_eq _, st_eq _, st_eq _, st_eq _, st_eq _, st_eq _, st_eq _, st_eq _, st_eq _, st_eq _, st_eq _, trivial⟩ ?_ ?_
                · rintro t9 o1 w1 o2 w2 ht9 hB hs9
                  have ht9 : t9 = 999 := by simpa using ht9
                  subst ht9
                  all_goals exact hB.stp hs9 (by decide)
                · refine ⟨?_, ?_, ?_, ?_, ?_, ?_, ?_, ?_, ?_, ?_, ?_, ?_, ?_, ?_, ?_, ?_, ?_, ?_, ?_, ?_, ?_, ?_, trivial⟩
                  · rintro o368 w369 a370 ha hB -
                    refine opS_of ha (trivial) ?_
                    refine op1_val (ex_move rfl) ?_
                    exact ⟨_, Stp.refl _ _ _, rfl⟩
                  · rintro o371 w372 a373 ha hB ⟨r374, -⟩
                    have ha := Fr.cons (d := 73) ha r374
                    refine opS_of ha (trivial) ?_
                    refine wd_indexR r166 hx360 rfl rfl Try.underlying26 Try.sizeOf3 ?_
                    exact ⟨_, Stp.refl _ _ _, ⟨_, rfl, r166⟩⟩
                  · rintro o375 w376 a377 ha hB ⟨r378, -⟩
                    obtain ⟨v379, e380, h381⟩ := r378
                    have ha := Fr.cons (d := 74) ha e380
                    refine opS_of ha (trivial) ?_
                    refine wd_load1Z h381 hx360 hB rfl rfl Try.isAgg3 ?_
                    intro c382 h383
                    cases h383
                    exact ⟨_, Stp.refl _ _ _, rfl⟩
                  · rintro o384 w385 a386 ha hB -
                    refine opS_of ha (trivial) ?_
                    refine op1_val (ex_move rfl) ?_
                    exact ⟨_, Stp.refl _ _ _, rfl⟩
                  · rintro o387 w388 a389 ha hB ⟨r390, -⟩
                    have ha := Fr.cons (d := 76) ha r390
                    refine opS_of ha (trivial) ?_
                    refine wd_indexR r167 hx363 rfl rfl Try.underlying26 Try.sizeOf3 ?_
                    exact ⟨_, Stp.refl _ _ _, ⟨_, rfl, r167⟩⟩
                  · rintro o391 w392 a393 ha hB ⟨r394, -⟩
                    obtain ⟨v395, e396, h397⟩ := r394
                    have ha := Fr.cons (d := 77) ha e396
                    refine opS_of ha (trivial) ?_
                    refine wd_load1Z h397 hx363 hB rfl rfl Try.isAgg3 ?_
                    intro c398 h399
                    cases h399
                    exact ⟨_, Stp.refl _ _ _, rfl⟩
                  · rintro o400 w401 a402 ha hB ⟨r403, r404, -⟩
                    have ha := Fr.cons (d := 75) ha r403
                    have ha := Fr.cons (d := 78) ha r404
                    refine opS_of ha (trivial) ?_
                    refine op1_val (ex_leq rfl rfl) ?_
                    exact ⟨_, Stp.refl _ _ _, rfl⟩
                  · rintro o405 w406 a407 ha hB ⟨r408, -⟩
                    have ha := Fr.cons (d := 79) ha r408
                    refine opS_of ha (trivial) ?_
                    refine op1_val (ex_move rfl) ?_
                    exact ⟨_, Stp.refl _ _ _, rfl⟩
                  · rintro o409 w410 a411 ha hB ⟨r412, -⟩
                    have ha := Fr.cons (d := 80) ha r412
                    refine opS_of ha (⟨_, rfl, (congrArg (fun b => some (Value.bool b)) t366)⟩) ?_
                    refine op1_val (ex_move rfl) ?_
                    exact ⟨_, Stp.refl _ _ _, rfl⟩
                  · rintro o413 w414 a415 ha hB ⟨r416, r417, -⟩
                    have ha := Fr.cons (d := 80) ha r416
                    have ha := Fr.cons (d := 81) ha r417
                    refine opS_of ha (⟨_, rfl, (congrArg (fun b => some (Value.bool b)) t366)⟩) ?_
                    refine op1_val (ex_not rfl) ?_
                    exact ⟨_, Stp.refl _ _ _, rfl⟩
                  · rintro o418 w419 a420 ha hB ⟨r421, r422, -⟩
                    have ha := Fr.cons (d := 80) ha r421
                    have ha := Fr.cons (d := 82) ha r422
                    refine opS_of ha (⟨_, rfl, (congrArg (fun b => some (Value.bool b)) t366)⟩) ?_
                    refine op1_val (ex_move rfl) ?_
                    exact ⟨_, Stp.refl _ _ _, rfl⟩
                  · rintro o423 w424 a425 ha hB ⟨r426, -⟩
                    have ha := Fr.cons (d := 83) ha r426
                    exact opS_no ha rfl rfl rfl (by rw [t367]; rfl) ⟨_, Stp.refl _ _ _, rfl⟩
                  · rintro o427 w428 a429 ha hB ⟨r430, -⟩
                    have ha := Fr.cons (d := 83) ha r430
                    exact opS_no ha rfl rfl rfl (by rw [t367]; rfl) ⟨_, Stp.refl _ _ _, rfl⟩
                  · rintro o431 w432 a433 ha hB ⟨r434, -⟩
                    have ha := Fr.cons (d := 83) ha r434
                    exact opS_no ha rfl rfl rfl (by rw [t367]; rfl) ⟨_, Stp.refl _ _ _, rfl⟩
                  · rintro o435 w436 a437 ha hB ⟨r438, -⟩
                    have ha := Fr.cons (d := 83) ha r438
                    exact opS_no ha rfl rfl rfl (by rw [t367]; rfl) ⟨_, Stp.refl _ _ _, rfl⟩
                  · rintro o439 w440 a441 ha hB ⟨r442, -⟩
                    have ha := Fr.cons (d := 83) ha r442
                    exact opS_no ha rfl rfl rfl (by rw [t367]; rfl) ⟨_, Stp.refl _ _ _, rfl⟩
                  · rintro o443 w444 a445 ha hB ⟨r446, -⟩
                    have ha := Fr.cons (d := 83) ha r446
                    exact opS_no ha rfl rfl rfl (by rw [t367]; rfl) ⟨_, Stp.refl _ _ _, rfl⟩
                  · rintro o447 w448 a449 ha hB ⟨r450, -⟩
                    have ha := Fr.cons (d := 83) ha r450
                    exact opS_no ha rfl rfl rfl (by rw [t367]; rfl) ⟨_, Stp.refl _ _ _, rfl⟩
                  · rintro o451 w452 a453 ha hB ⟨r454, -⟩
                    have ha := Fr.cons (d := 83) ha r454
                    exact opS_no ha rfl rfl rfl (by rw [t367]; rfl) ⟨_, Stp.refl _ _ _, rfl⟩
                  · rintro o455 w456 a457 ha hB ⟨r458, -⟩
                    have ha := Fr.cons (d := 83) ha r458
                    exact opS_no ha rfl rfl rfl (by rw [t367]; rfl) ⟨_, Stp.refl _ _ _, rfl⟩
                  · rintro o459 w460 a461 ha hB ⟨r462, -⟩
                    have ha := Fr.cons (d := 83) ha r462
                    exact opS_no ha rfl rfl rfl (by rw [t367]; rfl) ⟨_, Stp.refl _ _ _, rfl⟩
                  · rintro o463 w464 a465 ha hB ⟨r466, -⟩
                    have ha := Fr.cons (d := 83) ha r466
                    exact opS_no ha rfl rfl rfl (by rw [t367]; rfl) ⟨_, Stp.refl _ _ _, rfl⟩
                rintro o467 w468 a469 ha hB ⟨-, -, -, -, -, -, -, r470, -, -, r471, -, -, -, -, -, -, -, r472, -, -, r473, -⟩
                have ha := Fr.cons (d := 80) ha r470
                have ha := Fr.cons (d := 83) ha r471
                have ha := Fr.cons (d := 91) ha r472
                have ha := Fr.cons (d := 94) ha r473
                refine wl_of ha ?_
                simp only [List.length_cons, List.length_nil, Nat.zero_add, Nat.reduceAdd, List.drop_succ_cons, List.drop_zero]
                refine st_no rfl rfl (by rw [t367]; rfl) (by decide) ?_
                refine st_no rfl rfl (by rw [t367]; rfl) (by decide) ?_
                refine st_val (ex_pick_t (congrArg (fun b => some (Value.bool b)) t367) rfl) (by decide) ⟨_, rfl, (congrArg (fun b => some (Value.bool b)) t366)⟩ ?_
                refine st_val (ex_pick_t (congrArg (fun b => some (Value.bool b)) t366) rfl) (by decide) trivial ?_
                have e474 := Option.some.inj hq356
                subst e474
                refine wpF_end (r := [(1, u1), (33, v1), (34, (.int .i64 (p0.Arcs.length : Int))), (35, (.int .i64 i49)), (98, (.bool true))]) ⟨rfl, rfl, rfl, rfl, rfl, trivial⟩ ?_
                refine np_norm (fun a ha => ⟨o467, ha, hB⟩)
              · rw [if_neg (by rw [t367]; decide)] at hq356
                obtain ⟨x475, hx475, hq356⟩ := bind_some hq356
                obtain ⟨x478, hx478, hq356⟩ := bind_some hq356
                obtain ⟨x481, hx481, hq356⟩ := bind_some hq356
                obtain ⟨x482, hx482, hq356⟩ := bind_some hq356
                obtain ⟨x483, hx483, hq356⟩ := bind_some hq356
                refine wpC_drawn (o := o173) [(1, u1), (9, v170), (10, v168), (11, (.bool q172)), (33, v1), (34, (.int .i64 (p0.Arcs.length : Int))), (35, (.int .i64 i49))] [1, 9, 10, 11, 33, 34, 35] [73, 74, 75, 76, 77, 78, 79, 80, 81, 82, 83, 84, 85, 86, 87, 88, 89, 90, 91, 92, 93, 94] [[], [0], [1], [], [3], [4], [2, 5], [6], [7], [7, 8], [7, 9], [10], [10, 11], [10, 12], [10], [10, 14], [10, 15], [10, 13, 16], [10, 17], [10], [10, 19], [10, 20]] [none, none, none, none, none, none, none, none, none, none, none, none, none, none, none, none, none, none, none, none, none, none] [999, 999, 999, 999, 999, 999, 999, 999, 999, 999, 999, 999, 999, 999, 999, 999, 999, 999, 999, 999, 999, 999] [0, 0, 0, 0, 0, 0, 0, 0, 0, 0, 0, 0, 0, 0, 0, 0, 0, 0, 0, 0, 0, 0] [999] [fun v _ _ => v = v168, fun v o w9 => ∃ vl, v = adr vl ((0 : Int).toNat * Rp.sz Int) ∧ RdL zt w vl x79, fun v _ _ => v = (.int .i64 x360), fun v _ _ => v = v170, fun v o w9 => ∃ vl, v = adr vl ((0 : Int).toNat * Rp.sz Int) ∧ RdL zt w vl x70, fun v _ _ => v = (.int .i64 x363), fun v _ _ => v = (.bool (decide (x360 ≤ x363))), fun v _ _ => v = (.bool (decide (x360 ≤ x363))), fun v _ _ => v = (.bool q172), fun v _ _ => v = (.bool (!q172)), fun v _ _ => v = (.bool (!q172)), fun v _ _ => v = v168, fun v o w9 => ∃ vl, v = adr vl ((2 : Int).toNat * Rp.sz Int) ∧ RdL zt w vl x79, fun v _ _ => v = (.int .i64 x475), fun v _ _ => v = v170, fun v o w9 => ∃ vl, v = adr vl ((2 : Int).toNat * Rp.sz Int) ∧ RdL zt w vl x70, fun v _ _ => v = (.int .i64 x478), fun v _ _ => v = (.int .i64 x481), fun v _ _ => v = (.int .i64 x482), fun v _ _ => v = v170, fun v o w9 => ∃ vl, v = adr vl ((1 : Int).toNat * Rp.sz Int) ∧ RdL zt w vl x70, fun v _ _ => v = (.int .i64 x483)] (fun o8 w8 => Bs (fun _ => 1) o8 w w8) follows_mixed (by kernel_rfl) rfl ⟨rfl, rfl, rfl, rfl, rfl, rfl, rfl, trivial⟩ hB ?_ ⟨st_eq _, fun _ _ _ _ _ _ h0 hb ⟨vl, e, h⟩ hs => ⟨vl, e, h⟩, st_eq _, st_eq _, fun _ _ _ _ _ _ h0 hb ⟨vl, e, h⟩ hs => ⟨vl, e, h⟩, st_eq _, st_eq _, st_eq _, st_eq _, st_eq _, st_eq _, st_eq _, fun _ _ _ _ _ _ h0 hb ⟨vl, e, h⟩ hs => ⟨vl, e, h⟩, st_eq _, st_eq _, fun _ _ _ _ _ _ h0 hb ⟨vl, e, h⟩ hs => ⟨vl, e, h⟩, st_eq _, st_eq _, st_eq _, st_eq _, fun _ _ _ _ _ _ h0 hb ⟨vl, e, h⟩ hs => ⟨vl, e, h⟩, st_eq _, trivial⟩ ?_ ?_
                · rintro t9 o1 w1 o2 w2 ht9 hB hs9
                  have ht9 : t9 = 999 := by simpa using ht9
                  subst ht9
                  all_goals exact hB.stp hs9 (by decide)
                · refine ⟨?_, ?_, ?_, ?_, ?_, ?_, ?_, ?_, ?_, ?_, ?_, ?_, ?_, ?_, ?_, ?_, ?_, ?_, ?_, ?_, ?_, ?_, trivial⟩
                  · rintro o486 w487 a488 ha hB -
                    refine opS_of ha (trivial) ?_
                    refine op1_val (ex_move rfl) ?_
                    exact ⟨_, Stp.refl _ _ _, rfl⟩
                  · rintro o489 w490 a491 ha hB ⟨r492, -⟩
                    have ha := Fr.cons (d := 73) ha r492
                    refine opS_of ha (trivial) ?_
                    refine wd_indexR r166 hx360 rfl rfl Try.underlying26 Try.sizeOf3 ?_
                    exact ⟨_, Stp.refl _ _ _, ⟨_, rfl, r166⟩⟩
                  · rintro o493 w494 a495 ha hB ⟨r496, -⟩
                    obtain ⟨v497, e498, h499⟩ := r496
                    have ha := Fr.cons (d := 74) ha e498
                    refine opS_of ha (trivial) ?_
                    refine wd_load1Z h499 hx360 hB rfl rfl Try.isAgg3 ?_
                    intro c500 h501
                    cases h501
                    exact ⟨_, Stp.refl _ _ _, rfl⟩
                  · rintro o502 w503 a504 ha hB -
                    refine opS_of ha (trivial) ?_
                    refine op1_val (ex_move rfl) ?_
                    exact ⟨_, Stp.refl _ _ _, rfl⟩
                  · rintro o505 w506 a507 ha hB ⟨r508, -⟩
                    have ha := Fr.cons (d := 76) ha r508
                    refine opS_of ha (trivial) ?_
                    refine wd_indexR r167 hx363 rfl rfl Try.underlying26 Try.sizeOf3 ?_
                    exact ⟨_, Stp.refl _ _ _, ⟨_, rfl, r167⟩⟩
                  · rintro o509 w510 a511 ha hB ⟨r512, -⟩
                    obtain ⟨v513, e514, h515⟩ := r512
                    have ha := Fr.cons (d := 77) ha e514
                    refine opS_of ha (trivial) ?_
                    refine wd_load1Z h515 hx363 hB rfl rfl Try.isAgg3 ?_
                    intro c516 h517
                    cases h517
                    exact ⟨_, Stp.refl _ _ _, rfl⟩
                  · rintro o518 w519 a520 ha hB ⟨r521, r522, -⟩
                    have ha := Fr.cons (d := 75) ha r521
                    have ha := Fr.cons (d := 78) ha r522
                    refine opS_of ha (trivial) ?_
                    refine op1_val (ex_leq rfl rfl) ?_
                    exact ⟨_, Stp.refl _ _ _, rfl⟩
                  · rintro o523 w524 a525 ha hB ⟨r526, -⟩
                    have ha := Fr.cons (d := 79) ha r526
                    refine opS_of ha (trivial) ?_
                    refine op1_val (ex_move rfl) ?_
                    exact ⟨_, Stp.refl _ _ _, rfl⟩
                  · rintro o527 w528 a529 ha hB ⟨r530, -⟩
                    have ha := Fr.cons (d := 80) ha r530
                    refine opS_of ha (⟨_, rfl, (congrArg (fun b => some (Value.bool b)) t366)⟩) ?_
                    refine op1_val (ex_move rfl) ?_
                    exact ⟨_, Stp.refl _ _ _, rfl⟩
                  · rintro o531 w532 a533 ha hB ⟨r534, r535, -⟩
                    have ha := Fr.cons (d := 80) ha r534
                    have ha := Fr.cons (d := 81) ha r535
                    refine opS_of ha (⟨_, rfl, (congrArg (fun b => some (Value.bool b)) t366)⟩) ?_
                    refine op1_val (ex_not rfl) ?_
                    exact ⟨_, Stp.refl _ _ _, rfl⟩
                  · rintro o536 w537 a538 ha hB ⟨r539, r540, -⟩
                    have ha := Fr.cons (d := 80) ha r539
                    have ha := Fr.cons (d := 82) ha r540
                    refine opS_of ha (⟨_, rfl, (congrArg (fun b => some (Value.bool b)) t366)⟩) ?_
                    refine op1_val (ex_move rfl) ?_
                    exact ⟨_, Stp.refl _ _ _, rfl⟩
                  · rintro o541 w542 a543 ha hB ⟨r544, -⟩
                    have ha := Fr.cons (d := 83) ha r544
                    refine opS_of ha (⟨_, rfl, (congrArg (fun b => some (Value.bool b)) t367)⟩) ?_
                    refine op1_val (ex_move rfl) ?_
                    exact ⟨_, Stp.refl _ _ _, rfl⟩
                  · rintro o545 w546 a547 ha hB ⟨r548, r549, -⟩
                    have ha := Fr.cons (d := 83) ha r548
                    have ha := Fr.cons (d := 84) ha r549
                    refine opS_of ha (⟨_, rfl, (congrArg (fun b => some (Value.bool b)) t367)⟩) ?_
                    refine wd_indexR r166 hx475 rfl rfl Try.underlying26 Try.sizeOf3 ?_
                    exact ⟨_, Stp.refl _ _ _, ⟨_, rfl, r166⟩⟩
                  · rintro o550 w551 a552 ha hB ⟨r553, r554, -⟩
                    have ha := Fr.cons (d := 83) ha r553
                    obtain ⟨v555, e556, h557⟩ := r554
                    have ha := Fr.cons (d := 85) ha e556
                    refine opS_of ha (⟨_, rfl, (congrArg (fun b => some (Value.bool b)) t367)⟩) ?_
                    refine wd_load1Z h557 hx475 hB rfl rfl Try.isAgg3 ?_
                    intro c558 h559
                    cases h559
                    exact ⟨_, Stp.refl _ _ _, rfl⟩
                  · rintro o560 w561 a562 ha hB ⟨r563, -⟩
                    have ha := Fr.cons (d := 83) ha r563
                    refine opS_of ha (⟨_, rfl, (congrArg (fun b => some (Value.bool b)) t367)⟩) ?_
                    refine op1_val (ex_move rfl) ?_
                    exact ⟨_, Stp.refl _ _ _, rfl⟩
                  · rintro o564 w565 a566 ha hB ⟨r567, r568, -⟩
                    have ha := Fr.cons (d := 83) ha r567
                    have ha := Fr.cons (d := 87) ha r568
                    refine opS_of ha (⟨_, rfl, (congrArg (fun b => some (Value.bool b)) t367)⟩) ?_
                    refine wd_indexR r167 hx478 rfl rfl Try.underlying26 Try.sizeOf3 ?_
                    exact ⟨_, Stp.refl _ _ _, ⟨_, rfl, r167⟩⟩
                  · rintro o569 w570 a571 ha hB ⟨r572, r573, -⟩
                    have ha := Fr.cons (d := 83) ha r572
                    obtain ⟨v574, e575, h576⟩ := r573
                    have ha := Fr.cons (d := 88) ha e575
                    refine opS_of ha (⟨_, rfl, (congrArg (fun b => some (Value.bool b)) t367)⟩) ?_
                    refine wd_load1Z h576 hx478 hB rfl rfl Try.isAgg3 ?_
                    intro c577 h578
                    cases h578
                    exact ⟨_, Stp.refl _ _ _, rfl⟩
                  · rintro o579 w580 a581 ha hB ⟨r582, r583, r584, -⟩
                    have ha := Fr.cons (d := 83) ha r582
                    have ha := Fr.cons (d := 86) ha r583
                    have ha := Fr.cons (d := 89) ha r584
                    refine opS_of ha (⟨_, rfl, (congrArg (fun b => some (Value.bool b)) t367)⟩) ?_
                    refine op1_val (ex_sub rfl rfl hx481) ?_
                    exact ⟨_, Stp.refl _ _ _, rfl⟩
                  · rintro o585 w586 a587 ha hB ⟨r588, r589, -⟩
                    have ha := Fr.cons (d := 83) ha r588
                    have ha := Fr.cons (d := 90) ha r589
                    refine opS_of ha (⟨_, rfl, (congrArg (fun b => some (Value.bool b)) t367)⟩) ?_
                    refine op1_val (ex_sub rfl rfl hx482) ?_
                    exact ⟨_, Stp.refl _ _ _, rfl⟩
                  · rintro o590 w591 a592 ha hB ⟨r593, -⟩
                    have ha := Fr.cons (d := 83) ha r593
                    refine opS_of ha (⟨_, rfl, (congrArg (fun b => some (Value.bool b)) t367)⟩) ?_
                    refine op1_val (ex_move rfl) ?_
                    exact ⟨_, Stp.refl _ _ _, rfl⟩
                  · rintro o594 w595 a596 ha hB ⟨r597, r598, -⟩
                    have ha := Fr.cons (d := 83) ha r597
                    have ha := Fr.cons (d := 92) ha r598
                    refine opS_of ha (⟨_, rfl, (congrArg (fun b => some (Value.bool b)) t367)⟩) ?_
                    refine wd_indexR r167 hx483 rfl rfl Try.underlying26 Try.sizeOf3 ?_
                    exact ⟨_, Stp.refl _ _ _, ⟨_, rfl, r167⟩⟩
                  · rintro o599 w600 a601 ha hB ⟨r602, r603, -⟩
                    have ha := Fr.cons (d := 83) ha r602
                    obtain ⟨v604, e605, h606⟩ := r603
                    have ha := Fr.cons (d := 93) ha e605
                    refine opS_of ha (⟨_, rfl, (congrArg (fun b => some (Value.bool b)) t367)⟩) ?_
                    refine wd_load1Z h606 hx483 hB rfl rfl Try.isAgg3 ?_
                    intro c607 h608
                    cases h608
                    exact ⟨_, Stp.refl _ _ _, rfl⟩
                rintro o609 w610 a611 ha hB ⟨-, -, -, -, -, -, -, r612, -, -, r613, -, -, -, -, -, -, -, r614, -, -, r615, -⟩
                have ha := Fr.cons (d := 80) ha r612
                have ha := Fr.cons (d := 83) ha r613
                have ha := Fr.cons (d := 91) ha r614
                have ha := Fr.cons (d := 94) ha r615
                refine wl_of ha ?_
                simp only [List.length_cons, List.length_nil, Nat.zero_add, Nat.reduceAdd, List.drop_succ_cons, List.drop_zero]
                obtain ⟨x616, hx616, hq356⟩ := bind_some hq356
                refine st_val (ex_rem rfl rfl hx616) (by decide) ⟨_, rfl, (congrArg (fun b => some (Value.bool b)) t367)⟩ ?_
                refine st_val (ex_neq rfl rfl) (by decide) ⟨_, rfl, (congrArg (fun b => some (Value.bool b)) t367)⟩ ?_
                refine st_val (ex_pick_f (congrArg (fun b => some (Value.bool b)) t367) rfl) (by decide) ⟨_, rfl, (congrArg (fun b => some (Value.bool b)) t366)⟩ ?_
                refine st_val (ex_pick_t (congrArg (fun b => some (Value.bool b)) t366) rfl) (by decide) trivial ?_
                have e617 := Option.some.inj hq356
                subst e617
                refine wpF_end (r := [(1, u1), (33, v1), (34, (.int .i64 (p0.Arcs.length : Int))), (35, (.int .i64 i49)), (98, (.bool (x616 != 0)))]) ⟨rfl, rfl, rfl, rfl, rfl, trivial⟩ ?_
                refine np_norm (fun a ha => ⟨o609, ha, hB⟩)
            · rw [if_neg (by rw [t366]; decide)] at hq356
              refine wpC_drawn (o := o173) [(1, u1), (9, v170), (10, v168), (11, (.bool q172)), (33, v1), (34, (.int .i64 (p0.Arcs.length : Int))), (35, (.int .i64 i49))] [1, 9, 10, 11, 33, 34, 35] [73, 74, 75, 76, 77, 78, 79, 80, 81, 82, 83, 84, 85, 86, 87, 88, 89, 90, 91, 92, 93, 94] [[], [0], [1], [], [3], [4], [2, 5], [6], [7], [7], [7], [10], [10], [10], [10], [10], [10], [10], [10], [10], [10], [10]] [none, none, none, none, none, none, none, none, none, none, none, none, none, none, none, none, none, none, none, none, none, none] [999, 999, 999, 999, 999, 999, 999, 999, 999, 999, 999, 999, 999, 999, 999, 999, 999, 999, 999, 999, 999, 999] [0, 0, 0, 0, 0, 0, 0, 0, 0, 0, 0, 0, 0, 0, 0, 0, 0, 0, 0, 0, 0, 0] [999] [fun v _ _ => v = v168, fun v o w9 => ∃ vl, v = adr vl ((0 : Int).toNat * Rp.sz Int) ∧ RdL zt w vl x79, fun v _ _ => v = (.int .i64 x360), fun v _ _ => v = v170, fun v o w9 => ∃ vl, v = adr vl ((0 : Int).toNat * Rp.sz Int) ∧ RdL zt w vl x70, fun v _ _ => v = (.int .i64 x363), fun v _ _ => v = (.bool (decide (x360 ≤ x363))), fun v _ _ => v = (.bool (decide (x360 ≤ x363))), fun v _ _ => v = undef, fun v _ _ => v = undef, fun v _ _ => v = undef, fun v _ _ => v = undef, fun v _ _ => v = undef, fun v _ _ => v = undef, fun v _ _ => v = undef, fun v _ _ => v = undef, fun v _ _ => v = undef, fun v _ _ => v = undef, fun v _ _ => v = undef, fun v _ _ => v = undef, fun v _ _ => v = undef, fun v _ _ => v = undef] (fun o8 w8 => Bs (fun _ => 1) o8 w w8) follows_mixed (by kernel_rfl) rfl ⟨rfl, rfl, rfl, rfl, rfl, rfl, rfl, trivial⟩ hB ?_ ⟨st_eq _, fun _ _ _ _ _ _ h0 hb ⟨vl, e, h⟩ hs => ⟨vl, e, h⟩, st_eq _, st_eq _, fun _ _ _ _ _ _ h0 hb ⟨vl, e, h⟩ hs => ⟨vl, e, h⟩, st_eq _, st_eq _, st_eq _, st_eq _, st_eq _, st_eq _, st_eq _, st_eq _, st_eq _, st_eq _, st_eq _, st_eq _, st_eq _, st_eq _, st_eq _, st_eq _, st_eq _, trivial⟩ ?_ ?_
              · rintro t9 o1 w1 o2 w2 ht9 hB hs9
                have ht9 : t9 = 999 := by simpa using ht9
                subst ht9
                all_goals exact hB.stp hs9 (by decide)
              · refine ⟨?_, ?_, ?_, ?_, ?_, ?_, ?_, ?_, ?_, ?_, ?_, ?_, ?_, ?_, ?_, ?_, ?_, ?_, ?_, ?_, ?_, ?_, trivial⟩
                · rintro o618 w619 a620 ha hB -
                  refine opS_of ha (trivial) ?_
                  refine op1_val (ex_move rfl) ?_
                  exact ⟨_, Stp.refl _ _ _, rfl⟩
                · rintro o621 w622 a623 ha hB ⟨r624, -⟩
                  have ha := Fr.cons (d := 73) ha r624
                  refine opS_of ha (trivial) ?_
                  refine wd_indexR r166 hx360 rfl rfl Try.underlying26 Try.sizeOf3 ?_
                  exact ⟨_, Stp.refl _ _ _, ⟨_, rfl, r166⟩⟩
                · rintro o625 w626 a627 ha hB ⟨r628, -⟩
                  obtain ⟨v629, e630, h631⟩ := r628
                  have ha := Fr.cons (d := 74) ha e630
                  refine opS_of ha (trivial) ?_
                  refine wd_load1Z h631 hx360 hB rfl rfl Try.isAgg3 ?_
                  intro c632 h633
                  cases h633
                  exact ⟨_, Stp.refl _ _ _, rfl⟩
                · rintro o634 w635 a636 ha hB -
                  refine opS_of ha (trivial) ?_
                  refine op1_val (ex_move rfl) ?_
                  exact ⟨_, Stp.refl _ _ _, rfl⟩
                · rintro o637 w638 a639 ha hB ⟨r640, -⟩
                  have ha := Fr.cons (d := 76) ha r640
                  refine opS_of ha (trivial) ?_
                  refine wd_indexR r167 hx363 rfl rfl Try.underlying26 Try.sizeOf3 ?_
                  exact ⟨_, Stp.refl _ _ _, ⟨_, rfl, r167⟩⟩
                · rintro o641 w642 a643 ha hB ⟨r644, -⟩
                  obtain ⟨v645, e646, h647⟩ := r644
                  have ha := Fr.cons (d := 77) ha e646
                  refine opS_of ha (trivial) ?_
                  refine wd_load1Z h647 hx363 hB rfl rfl Try.isAgg3 ?_
                  intro c648 h649
                  cases h649
                  exact ⟨_, Stp.refl _ _ _, rfl⟩
                · rintro o650 w651 a652 ha hB ⟨r653, r654, -⟩
                  have ha := Fr.cons (d := 75) ha r653
                  have ha := Fr.cons (d := 78) ha r654
                  refine opS_of ha (trivial) ?_
                  refine op1_val (ex_leq rfl rfl) ?_
                  exact ⟨_, Stp.refl _ _ _, rfl⟩
                · rintro o655 w656 a657 ha hB ⟨r658, -⟩
                  have ha := Fr.cons (d := 79) ha r658
                  refine opS_of ha (trivial) ?_
                  refine op1_val (ex_move rfl) ?_
                  exact ⟨_, Stp.refl _ _ _, rfl⟩
                · rintro o659 w660 a661 ha hB ⟨r662, -⟩
                  have ha := Fr.cons (d := 80) ha r662
                  exact opS_no ha rfl rfl rfl (by rw [t366]; rfl) ⟨_, Stp.refl _ _ _, rfl⟩
                · rintro o663 w664 a665 ha hB ⟨r666, -⟩
                  have ha := Fr.cons (d := 80) ha r666
                  exact opS_no ha rfl rfl rfl (by rw [t366]; rfl) ⟨_, Stp.refl _ _ _, rfl⟩
                · rintro o667 w668 a669 ha hB ⟨r670, -⟩
                  have ha := Fr.cons (d := 80) ha r670
                  exact opS_no ha rfl rfl rfl (by rw [t366]; rfl) ⟨_, Stp.refl _ _ _, rfl⟩
                · rintro o671 w672 a673 ha hB ⟨r674, -⟩
                  have ha := Fr.cons (d := 83) ha r674
                  exact opS_no2 ha rfl rfl rfl ⟨_, Stp.refl _ _ _, rfl⟩
                · rintro o675 w676 a677 ha hB ⟨r678, -⟩
                  have ha := Fr.cons (d := 83) ha r678
                  exact opS_no2 ha rfl rfl rfl ⟨_, Stp.refl _ _ _, rfl⟩
                · rintro o679 w680 a681 ha hB ⟨r682, -⟩
                  have ha := Fr.cons (d := 83) ha r682
                  exact opS_no2 ha rfl rfl rfl ⟨_, Stp.refl _ _ _, rfl⟩
                · rintro o683 w684 a685 ha hB ⟨r686, -⟩
                  have ha := Fr.cons (d := 83) ha r686
                  exact opS_no2 ha rfl rfl rfl ⟨_, Stp.refl _ _ _, rfl⟩
                · rintro o687 w688 a689 ha hB ⟨r690, -⟩
                  have ha := Fr.cons (d := 83) ha r690
                  exact opS_no2 ha rfl rfl rfl ⟨_, Stp.refl _ _ _, rfl⟩
                · rintro o691 w692 a693 ha hB ⟨r694, -⟩
                  have ha := Fr.cons (d := 83) ha r694
                  exact opS_no2 ha rfl rfl rfl ⟨_, Stp.refl _ _ _, rfl⟩
                · rintro o695 w696 a697 ha hB ⟨r698, -⟩
                  have ha := Fr.cons (d := 83) ha r698
                  exact opS_no2 ha rfl rfl rfl ⟨_, Stp.refl _ _ _, rfl⟩
                · rintro o699 w700 a701 ha hB ⟨r702, -⟩
                  have ha := Fr.cons (d := 83) ha r702
                  exact opS_no2 ha rfl rfl rfl ⟨_, Stp.refl _ _ _, rfl⟩
                · rintro o703 w704 a705 ha hB ⟨r706, -⟩
                  have ha := Fr.cons (d := 83) ha r706
                  exact opS_no2 ha rfl rfl rfl ⟨_, Stp.refl _ _ _, rfl⟩
                · rintro o707 w708 a709 ha hB ⟨r710, -⟩
                  have ha := Fr.cons (d := 83) ha r710
                  exact opS_no2 ha rfl rfl rfl ⟨_, Stp.refl _ _ _, rfl⟩
                · rintro o711 w712 a713 ha hB ⟨r714, -⟩
                  have ha := Fr.cons (d := 83) ha r714
                  exact opS_no2 ha rfl rfl rfl ⟨_, Stp.refl _ _ _, rfl⟩
              rintro o715 w716 a717 ha hB ⟨-, -, -, -, -, -, -, r718, -, -, r719, -, -, -, -, -, -, -, r720, -, -, r721, -⟩
              have ha := Fr.cons (d := 80) ha r718
              have ha := Fr.cons (d := 83) ha r719
              have ha := Fr.cons (d := 91) ha r720
              have ha := Fr.cons (d := 94) ha r721
              refine wl_of ha ?_
              simp only [List.length_cons, List.length_nil, Nat.zero_add, Nat.reduceAdd, List.drop_succ_cons, List.drop_zero]
              refine st_no2 rfl rfl (by decide) ?_
              refine st_no2 rfl rfl (by decide) ?_
              refine st_no rfl rfl (by rw [t366]; rfl) (by decide) ?_
              refine st_val (ex_pick_f (congrArg (fun b => some (Value.bool b)) t366) rfl) (by decide) trivial ?_
              have e722 := Option.some.inj hq356
              subst e722
              refine wpF_end (r := [(1, u1), (33, v1), (34, (.int .i64 (p0.Arcs.length : Int))), (35, (.int .i64 i49)), (98, (.bool false))]) ⟨rfl, rfl, rfl, rfl, rfl, trivial⟩ ?_
              refine np_norm (fun a ha => ⟨o715, ha, hB⟩)
          rintro a723 w358 ⟨o357, ha, hB⟩
          refine ap_k ha ?_
          refine nx ?_
          refine wpC_cond rfl (fun t724 => ?_) (fun t724 => ?_)
          · rw [if_pos t724] at b56
            refine wpC_seq ?_
            refine wpC_region ?_
            refine st_val (ex_assign rfl) (by decide) trivial ?_
            refine wpF_end (r := [(4, (.bool false))]) ⟨rfl, trivial⟩ ?_
            refine nx ?_
            refine wpC_ret ?_
            refine nb_ret ?_
            refine nt_ret ?_
            refine nt_ret ?_
            refine nb_ret ?_
            refine np_ret ?_
            have e725 := Option.some.inj b56
            subst e725
            refine fun a ha => ⟨_, n57, ?_⟩
            refine ret_post (P := Try.prog) (vs := [(.bool false)]) Try.results109 ⟨rfl, trivial⟩ ?_ a ha
            exact ⟨rfl, hB.keeps⟩
          · rw [if_neg (by rw [t724]; decide)] at b56
            refine wpC_skip ?_
            refine nb_norm ?_
            refine nx ?_
            refine wpC_region ?_
            refine st_val (ex_add rfl rfl (ck_in (by omega) (by omega))) (by decide) trivial ?_
            refine st_val (ex_move rfl) (by decide) trivial ?_
            refine wpF_end (r := [(1, u1), (33, v1), (34, (.int .i64 (p0.Arcs.length : Int))), (35, (.int .i64 (i49 + 1)))]) ⟨rfl, rfl, rfl, rfl, trivial⟩ ?_
            refine nt_norm ?_
            have e726 := Option.some.inj b56
            subst e726
            refine to_k (r := [(1, u1), (33, v1), (34, (.int .i64 (p0.Arcs.length : Int))), (35, (.int .i64 (i49 + 1)))]) ⟨rfl, rfl, rfl, rfl, trivial⟩ ?_
            intro a ha
            exact ⟨_, (by rw [← m53]; simp only [List.length_drop]; omega), i49 + 1, o357, n57, rfl, (by omega), ha, hB⟩
        · have r727 := forI_done t58 l51
          refine wp_of ha ?_
          refine wpC_seq ?_
          refine wpC_region ?_
          refine st_val (ex_lss rfl rfl) (by decide) trivial ?_
          refine wpF_end (r := [(1, u1), (33, v1), (34, (.int .i64 (p0.Arcs.length : Int))), (35, (.int .i64 i49)), (36, (.bool (decide (i49 < (p0.Arcs.length : Int)))))]) ⟨rfl, rfl, rfl, rfl, rfl, trivial⟩ ?_
          refine nx ?_
          refine wpC_seq ?_
          refine wpC_false (congrArg (fun b => some (Value.bool b)) (decide_eq_false t58)) ?_
          refine wpC_exit ?_
          refine nt_exit ?_
          refine nt_exit ?_
          refine nb_hit ?_
          refine np_norm ?_
          refine to_k (r := []) trivial ?_
          intro a ha
          exact ⟨o47, r727, ha, hB⟩
      · rintro a w48 ⟨o47, rfl, ha, hB⟩
        dsimp only at hF
        refine ap_k ha ?_
        refine nx ?_
        refine wpC_seq ?_
        refine wpC_region ?_
        refine st_val (ex_assign rfl) (by decide) trivial ?_
        refine wpF_end (r := [(4, (.bool true))]) ⟨rfl, trivial⟩ ?_
        refine nx ?_
        refine wpC_ret ?_
        have e728 := Option.some.inj hF
        subst e728
        refine ret_post (P := Try.prog) (vs := [(.bool true)]) Try.results109 ⟨rfl, trivial⟩ ?_
        exact ⟨rfl, hB.keeps⟩
      · rintro a w48 ⟨r', rfl, b729⟩
        dsimp only at hF
        have e730 := Option.some.inj hF
        subst e730
        exact b729
    · rintro a w11 ⟨r', rfl, b731⟩
      dsimp only at hF
      have e732 := Option.some.inj hF
      subst e732
      exact b731

def fS_waAbove_s1 (p1 : List (List Int)) : Int → (List Int) → Unit → Option (Lp Unit Unit Bool) := fun (i10 : Int) (x20 : List Int) (s : Unit) =>
  (ix x20 1) >>= fun x28 =>
  (ix p1 x28) >>= fun x31 =>
  (ix x31 0) >>= fun x37 =>
  (ix x20 0) >>= fun x40 =>
  (ix p1 x40) >>= fun x43 =>
  (ix x43 0) >>= fun x49 =>
  if decide (x37 ≤ x49) then
    some (.ret false)
  else
    some (.go ())
def fS_waAbove (p0 : T_WalkProblem) (p1 : List (List Int)) : Option Bool :=
  (forI (fS_waAbove_s1 p1) p0.Arcs 0 ()) >>= fun q11 =>
  match q11 with
  | .inl _ =>
    some true
  | .inr r' => some r'

def pS_waAbove (w : World) (r : Bool) : Ending → World → Prop := fun e w' => e = .returned (.bool r) ∧ Keeps w w'
set_option maxRecDepth 100000 in
set_option maxHeartbeats 2000000 in
theorem cS_waAbove (w : World) (u0 : List Value) (p0 : T_WalkProblem) (g0 : Rp.rd zt w u0 p0) (u1 : Value) (p1 : List (List Int)) (g1 : RdL zt w u1 p1) (r : Bool) (hF : fS_waAbove p0 p1 = some r) :
    Calls Try.prog 110 #[.agg u0.toArray, u1] w (pS_waAbove w r) := by
  unfold fS_waAbove at hF
  obtain ⟨v1, rfl, h2⟩ := g0
  have hB : Bs (fun _ => 1) (col (fun _ => 1)) w w := Bs.start _ _
  refine calls_start (n := 32) (vs := [(.agg #[(.int .i64 p0.Labels), v1]), u1]) Try.func110 rfl rfl ?_
  refine wpC_seq ?_
  refine wpC_region ?_
  refine st_op (by decide) trivial ?_
  refine wf_box (o := (col (fun _ => 1))) w.heap.size 11 hB.keeps.size (cs := [(.int .i64 p0.Labels), v1]) rfl rfl ?_
  intro o3 w4 b5 h6 s7
  replace hB := hB.stp s7 (by decide)
  refine st_val (ex_assign rfl) (by decide) trivial ?_
  refine wpF_end (r := [(1, u1), (2, (.pointer (some ⟨b5, 0, none⟩)))]) ⟨rfl, rfl, trivial⟩ ?_
  refine nx ?_
  refine wpC_seq ?_
  refine wpC_seq ?_
  refine wpC_region ?_
  refine st_val (ex_field rfl Try.underlying44 rfl Try.sizeOf22) (by decide) trivial ?_
  refine st_val (ex_load1 rfl Try.isAgg22 (h6.cell rfl)) (by decide) trivial ?_
  refine st_val (ex_lenR rfl h2 Try.underlying22) (by decide) trivial ?_
  refine st_val (ex_move rfl) (by decide) trivial ?_
  refine wpF_end (r := [(1, u1), (8, v1), (9, (.int .i64 (p0.Arcs.length : Int))), (10, (.int .i64 0))]) ⟨rfl, rfl, rfl, rfl, trivial⟩ ?_
  refine nx ?_
  obtain ⟨q11, hq11, hF⟩ := bind_some hF
  refine wpC_cutN (fun a w9 => ∃ (o8 : Tg), q11 = .inl () ∧ Fr a 32 [] ∧ Bs (fun _ => 1) o8 w w9) (fun a w' => ∃ r', q11 = .inr r' ∧ bodyPost Try.prog Try.f110 (pS_waAbove w r') .ret a w') ?_ ?_ ?_
  · refine wpC_block ?_
    refine wpC_loop (fun (K : Nat) a w9 => ∃ (i10 : Int) (o8 : Tg), forI (fS_waAbove_s1 p1) (p0.Arcs.drop i10.toNat) i10 () = some q11 ∧ (p0.Arcs.drop i10.toNat).length = K ∧ 0 ≤ i10 ∧ Fr a 32 [(1, u1), (8, v1), (9, (.int .i64 (p0.Arcs.length : Int))), (10, (.int .i64 i10))] ∧ Bs (fun _ => 1) o8 w w9) _ (fun a ha => ⟨0, o3, hq11, rfl, Int.le_refl 0, ha.sub (r := [(1, u1), (8, v1), (9, (.int .i64 (p0.Arcs.length : Int))), (10, (.int .i64 0))]) ⟨rfl, rfl, rfl, rfl, trivial⟩, hB⟩) ?_
    rintro K15 a w9 ⟨i10, o8, l12, m14, z13, ha, hB⟩
    by_cases t19 : i10 < (p0.Arcs.length : Int)
    · obtain ⟨x20, q16, hx20, b17, n18⟩ := forI_cons z13 t19 l12
      have hle := h2.len_le
      dsimp only [fS_waAbove_s1] at b17
      refine wp_of ha ?_
      refine wpC_seq ?_
      refine wpC_region ?_
      refine st_val (ex_lss rfl rfl) (by decide) trivial ?_
      refine wpF_end (r := [(1, u1), (8, v1), (9, (.int .i64 (p0.Arcs.length : Int))), (10, (.int .i64 i10)), (11, (.bool (decide (i10 < (p0.Arcs.length : Int)))))]) ⟨rfl, rfl, rfl, rfl, rfl, trivial⟩ ?_
      refine nx ?_
      refine wpC_seq ?_
      refine wpC_true (congrArg (fun b => some (Value.bool b)) (decide_eq_true t19)) ?_
      refine wpC_skip ?_
      refine nx ?_
      refine wpC_seq ?_
      refine wpC_block ?_
      refine wpC_seq ?_
      refine wpC_region ?_
      refine st_op (by decide) trivial ?_
      refine wf_atZ h2 hx20 hB rfl rfl Try.underlying22 Try.sizeOf26 ?_
      intro b21 f22 c23 h24 h25
      obtain ⟨v26, rfl, h27⟩ := h25
      refine st_val (ex_load1 rfl Try.isAgg26 (cell_of_cells h24)) (by decide) trivial ?_
      refine st_val (ex_assign rfl) (by decide) trivial ?_
      refine wpF_end (r := [(1, u1), (6, v26), (8, v1), (9, (.int .i64 (p0.Arcs.length : Int))), (10, (.int .i64 i10))]) ⟨rfl, rfl, rfl, rfl, rfl, trivial⟩ ?_
      refine nx ?_
      refine wpC_seq ?_
      obtain ⟨x28, hx28, b17⟩ := bind_some b17
      obtain ⟨x31, hx31, b17⟩ := bind_some b17
      obtain ⟨x37, hx37, b17⟩ := bind_some b17
      obtain ⟨x40, hx40, b17⟩ := bind_some b17
      obtain ⟨x43, hx43, b17⟩ := bind_some b17
      obtain ⟨x49, hx49, b17⟩ := bind_some b17
      refine wpC_drawn (o := o8) [(1, u1), (6, v26), (8, v1), (9, (.int .i64 (p0.Arcs.length : Int))), (10, (.int .i64 i10))] [1, 6, 8, 9, 10] [14, 15, 16, 17, 18, 19, 20, 21, 22, 23, 24, 25, 26, 27, 28, 29] [[], [], [1], [2], [0, 3], [4], [5], [6], [], [], [9], [10], [8, 11], [12], [13], [14]] [none, none, none, none, none, none, none, none, none, none, none, none, none, none, none, none] [999, 999, 999, 999, 999, 999, 999, 999, 999, 999, 999, 999, 999, 999, 999, 999] [0, 0, 0, 0, 0, 0, 0, 0, 0, 0, 0, 0, 0, 0, 0, 0] [999] [fun v _ _ => v = u1, fun v _ _ => v = v26, fun v o w9 => ∃ vl, v = adr vl ((1 : Int).toNat * Rp.sz Int) ∧ RdL zt w vl x20, fun v _ _ => v = (.int .i64 x28), fun v o w9 => ∃ vl, v = adr vl (x28.toNat * Rp.sz (List Int)) ∧ RdL zt w vl p1, fun v o w9 => RdL zt w v x31, fun v o w9 => ∃ vl, v = adr vl ((0 : Int).toNat * Rp.sz Int) ∧ RdL zt w vl x31, fun v _ _ => v = (.int .i64 x37), fun v _ _ => v = u1, fun v _ _ => v = v26, fun v o w9 => ∃ vl, v = adr vl ((0 : Int).toNat * Rp.sz Int) ∧ RdL zt w vl x20, fun v _ _ => v = (.int .i64 x40), fun v o w9 => ∃ vl, v = adr vl (x40.toNat * Rp.sz (List Int)) ∧ RdL zt w vl p1, fun v o w9 => RdL zt w v x43, fun v o w9 => ∃ vl, v = adr vl ((0 : Int).toNat * Rp.sz Int) ∧ RdL zt w vl x43, fun v _ _ => v = (.int .i64 x49)] (fun o8 w8 => Bs (fun _ => 1) o8 w w8) follows_mixed (by kernel_rfl) rfl ⟨rfl, rfl, rfl, rfl, rfl, trivial⟩ hB ?_ ⟨st_eq _, st_eq _, fun _ _ _ _ _ _ h0 hb ⟨vl, e, h⟩ hs => ⟨vl, e, h⟩, st_eq _, fun _ _ _ _ _ _ h0 hb ⟨vl, e, h⟩ hs => ⟨vl, e, h⟩, fun _ _ _ _ _ _ h0 hb h hs => h, fun _ _ _ _ _ _ h0 hb ⟨vl, e, h⟩ hs => ⟨vl, e, h⟩, st_eq _, st_eq _, st_eq _, fun _ _ _ _ _ _ h0 hb ⟨vl, e, h⟩ hs => ⟨vl, e, h⟩, st_eq _, fun _ _ _ _ _ _ h0 hb ⟨vl, e, h⟩ hs => ⟨vl, e, h⟩, fun _ _ _ _ _ _ h0 hb h hs => h, fun _ _ _ _ _ _ h0 hb ⟨vl, e, h⟩ hs => ⟨vl, e, h⟩, st_eq _, trivial⟩ ?_ ?_
      · rintro t9 o1 w1 o2 w2 ht9 hB hs9
        have ht9 : t9 = 999 := by simpa using ht9
        subst ht9
        all_goals exact hB.stp hs9 (by decide)
      · refine ⟨?_, ?_, ?_, ?_, ?_, ?_, ?_, ?_, ?_, ?_, ?_, ?_, ?_, ?_, ?_, ?_, trivial⟩
        · rintro o52 w53 a54 ha hB -
          refine opS_of ha (trivial) ?_
          refine op1_val (ex_move rfl) ?_
          exact ⟨_, Stp.refl _ _ _, rfl⟩
        · rintro o55 w56 a57 ha hB -
          refine opS_of ha (trivial) ?_
          refine op1_val (ex_move rfl) ?_
          exact ⟨_, Stp.refl _ _ _, rfl⟩
        · rintro o58 w59 a60 ha hB ⟨r61, -⟩
          have ha := Fr.cons (d := 15) ha r61
          refine opS_of ha (trivial) ?_
          refine wd_indexR h27 hx28 rfl rfl Try.underlying26 Try.sizeOf3 ?_
          exact ⟨_, Stp.refl _ _ _, ⟨_, rfl, h27⟩⟩
        · rintro o62 w63 a64 ha hB ⟨r65, -⟩
          obtain ⟨v66, e67, h68⟩ := r65
          have ha := Fr.cons (d := 16) ha e67
          refine opS_of ha (trivial) ?_
          refine wd_load1Z h68 hx28 hB rfl rfl Try.isAgg3 ?_
          intro c69 h70
          cases h70
          exact ⟨_, Stp.refl _ _ _, rfl⟩
        · rintro o71 w72 a73 ha hB ⟨r74, r75, -⟩
          have ha := Fr.cons (d := 14) ha r74
          have ha := Fr.cons (d := 17) ha r75
          refine opS_of ha (trivial) ?_
          refine wd_indexR g1 hx31 rfl rfl Try.underlying22 Try.sizeOf26 ?_
          exact ⟨_, Stp.refl _ _ _, ⟨_, rfl, g1⟩⟩
        · rintro o76 w77 a78 ha hB ⟨r79, -⟩
          obtain ⟨v80, e81, h82⟩ := r79
          have ha := Fr.cons (d := 18) ha e81
          refine opS_of ha (trivial) ?_
          refine wd_load1Z h82 hx31 hB rfl rfl Try.isAgg26 ?_
          intro c83 h84
          obtain ⟨v85, e87, h86⟩ := h84
          cases e87
          exact ⟨_, Stp.refl _ _ _, h86⟩
        · rintro o88 w89 a90 ha hB ⟨r91, -⟩
          replace r91 : RdL zt w (a90.tmps.getD 19 undef) x31 := r91
          generalize e93 : a90.tmps.getD 19 undef = v92 at r91
          have ha := Fr.cons (d := 19) ha e93
          refine opS_of ha (trivial) ?_
          refine wd_indexR r91 hx37 rfl rfl Try.underlying26 Try.sizeOf3 ?_
          exact ⟨_, Stp.refl _ _ _, ⟨_, rfl, r91⟩⟩
        · rintro o94 w95 a96 ha hB ⟨r97, -⟩
          obtain ⟨v98, e99, h100⟩ := r97
          have ha := Fr.cons (d := 20) ha e99
          refine opS_of ha (trivial) ?_
          refine wd_load1Z h100 hx37 hB rfl rfl Try.isAgg3 ?_
          intro c101 h102
          cases h102
          exact ⟨_, Stp.refl _ _ _, rfl⟩
        · rintro o103 w104 a105 ha hB -
          refine opS_of ha (trivial) ?_
          refine op1_val (ex_move rfl) ?_
          exact ⟨_, Stp.refl _ _ _, rfl⟩
        · rintro o106 w107 a108 ha hB -
          refine opS_of ha (trivial) ?_
          refine op1_val (ex_move rfl) ?_
          exact ⟨_, Stp.refl _ _ _, rfl⟩
        · rintro o109 w110 a111 ha hB ⟨r112, -⟩
          have ha := Fr.cons (d := 23) ha r112
          refine opS_of ha (trivial) ?_
          refine wd_indexR h27 hx40 rfl rfl Try.underlying26 Try.sizeOf3 ?_
          exact ⟨_, Stp.refl _ _ _, ⟨_, rfl, h27⟩⟩
        · rintro o113 w114 a115 ha hB ⟨r116, -⟩
          obtain ⟨v117, e118, h119⟩ := r116
          have ha := Fr.cons (d := 24) ha e118
          refine opS_of ha (trivial) ?_
          refine wd_load1Z h119 hx40 hB rfl rfl Try.isAgg3 ?_
          intro c120 h121
          cases h121
          exact ⟨_, Stp.refl _ _ _, rfl⟩
        · rintro o122 w123 a124 ha hB ⟨r125, r126, -⟩
          have ha := Fr.cons (d := 22) ha r125
          have ha := Fr.cons (d := 25) ha r126
          refine opS_of ha (trivial) ?_
          refine wd_indexR g1 hx43 rfl rfl Try.underlying22 Try.sizeOf26 ?_
          exact ⟨_, Stp.refl _ _ _, ⟨_, rfl, g1⟩⟩
        · rintro o127 w128 a129 ha hB ⟨r130, -⟩
          obtain ⟨v131, e132, h133⟩ := r130
          have ha := Fr.cons (d := 26) ha e132
          refine opS_of ha (trivial) ?_
          refine wd_load1Z h133 hx43 hB rfl rfl Try.isAgg26 ?_
          intro c134 h135
          obtain ⟨v136, e138, h137⟩ := h135
          cases e138
          exact ⟨_, Stp.refl _ _ _, h137⟩
        · rintro o139 w140 a141 ha hB ⟨r142, -⟩
          replace r142 : RdL zt w (a141.tmps.getD 27 undef) x43 := r142
          generalize e144 : a141.tmps.getD 27 undef = v143 at r142
          have ha := Fr.cons (d := 27) ha e144
          refine opS_of ha (trivial) ?_
          refine wd_indexR r142 hx49 rfl rfl Try.underlying26 Try.sizeOf3 ?_
          exact ⟨_, Stp.refl _ _ _, ⟨_, rfl, r142⟩⟩
        · rintro o145 w146 a147 ha hB ⟨r148, -⟩
          obtain ⟨v149, e150, h151⟩ := r148
          have ha := Fr.cons (d := 28) ha e150
          refine opS_of ha (trivial) ?_
          refine wd_load1Z h151 hx49 hB rfl rfl Try.isAgg3 ?_
          intro c152 h153
          cases h153
          exact ⟨_, Stp.refl _ _ _, rfl⟩
      rintro o154 w155 a156 ha hB ⟨-, -, -, -, -, -, -, r157, -, -, -, -, -, -, -, r158, -⟩
      have ha := Fr.cons (d := 21) ha r157
      have ha := Fr.cons (d := 29) ha r158
      refine wl_of ha ?_
      simp only [List.length_cons, List.length_nil, Nat.zero_add, Nat.reduceAdd, List.drop_succ_cons, List.drop_zero]
      refine st_val (ex_leq rfl rfl) (by decide) trivial ?_
      refine wpF_end (r := [(1, u1), (8, v1), (9, (.int .i64 (p0.Arcs.length : Int))), (10, (.int .i64 i10)), (30, (.bool (decide (x37 ≤ x49))))]) ⟨rfl, rfl, rfl, rfl, rfl, trivial⟩ ?_
      refine nx ?_
      refine wpC_cond rfl (fun t159 => ?_) (fun t159 => ?_)
      · rw [if_pos t159] at b17
        refine wpC_seq ?_
        refine wpC_region ?_
        refine st_val (ex_assign rfl) (by decide) trivial ?_
        refine wpF_end (r := [(4, (.bool false))]) ⟨rfl, trivial⟩ ?_
        refine nx ?_
        refine wpC_ret ?_
        refine nb_ret ?_
        refine nt_ret ?_
        refine nt_ret ?_
        refine nb_ret ?_
        refine np_ret ?_
        have e160 := Option.some.inj b17
        subst e160
        refine fun a ha => ⟨_, n18, ?_⟩
        refine ret_post (P := Try.prog) (vs := [(.bool false)]) Try.results110 ⟨rfl, trivial⟩ ?_ a ha
        exact ⟨rfl, hB.keeps⟩
      · rw [if_neg (by rw [t159]; decide)] at b17
        refine wpC_skip ?_
        refine nb_norm ?_
        refine nx ?_
        refine wpC_region ?_
        refine st_val (ex_add rfl rfl (ck_in (by omega) (by omega))) (by decide) trivial ?_
        refine st_val (ex_move rfl) (by decide) trivial ?_
        refine wpF_end (r := [(1, u1), (8, v1), (9, (.int .i64 (p0.Arcs.length : Int))), (10, (.int .i64 (i10 + 1)))]) ⟨rfl, rfl, rfl, rfl, trivial⟩ ?_
        refine nt_norm ?_
        have e161 := Option.some.inj b17
        subst e161
        refine to_k (r := [(1, u1), (8, v1), (9, (.int .i64 (p0.Arcs.length : Int))), (10, (.int .i64 (i10 + 1)))]) ⟨rfl, rfl, rfl, rfl, trivial⟩ ?_
        intro a ha
        exact ⟨_, (by rw [← m14]; simp only [List.length_drop]; omega), i10 + 1, o154, n18, rfl, (by omega), ha, hB⟩
    · have r162 := forI_done t19 l12
      refine wp_of ha ?_
      refine wpC_seq ?_
      refine wpC_region ?_
      refine st_val (ex_lss rfl rfl) (by decide) trivial ?_
      refine wpF_end (r := [(1, u1), (8, v1), (9, (.int .i64 (p0.Arcs.length : Int))), (10, (.int .i64 i10)), (11, (.bool (decide (i10 < (p0.Arcs.length : Int)))))]) ⟨rfl, rfl, rfl, rfl, rfl, trivial⟩ ?_
      refine nx ?_
      refine wpC_seq ?_
      refine wpC_false (congrArg (fun b => some (Value.bool b)) (decide_eq_false t19)) ?_
      refine wpC_exit ?_
      refine nt_exit ?_
      refine nt_exit ?_
      refine nb_hit ?_
      refine np_norm ?_
      refine to_k (r := []) trivial ?_
      intro a ha
      exact ⟨o8, r162, ha, hB⟩
  · rintro a w9 ⟨o8, rfl, ha, hB⟩
    dsimp only at hF
    refine ap_k ha ?_
    refine nx ?_
    refine wpC_seq ?_
    refine wpC_region ?_
    refine st_val (ex_assign rfl) (by decide) trivial ?_
    refine wpF_end (r := [(4, (.bool true))]) ⟨rfl, trivial⟩ ?_
    refine nx ?_
    refine wpC_ret ?_
    have e163 := Option.some.inj hF
    subst e163
    refine ret_post (P := Try.prog) (vs := [(.bool true)]) Try.results110 ⟨rfl, trivial⟩ ?_
    exact ⟨rfl, hB.keeps⟩
  · rintro a w9 ⟨r', rfl, b164⟩
    dsimp only at hF
    have e165 := Option.some.inj hF
    subst e165
    exact b164

end Go.Proofs.Ytabclfacjaeblaa
