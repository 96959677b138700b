/- spec.isBefore, spec.isParts, spec.AutomorphismCount: plain functions, and the walks that show that the program computes them (printed by gen.py). -/
import Derived.Test.YtijaojnaamkinaaGNb
import Derived.Test.YtijaojnaamkinaaGNc
import Derived.Test.YtijaojnaamkinaaKpz
import Derived.Test.YtijaojnaamkinaaTyc
import Derived.Test.YtijaojnaamkinaaKds
namespace Go.Proofs.Ytijaojnaamkinaa
set_option linter.unusedSimpArgs false
set_option linter.unusedVariables false

open Go.RowKit
theorem info2_t_int_Apc : Inf Try.prog 3 (.int .i64 0) 1 8 := by unfold Inf; kernel_rfl

theorem info1_t_impl_End_Apc : (Try.prog.info? 115).map (·.size) = some 2 := by kernel_rfl








def pIb_codeFrom (oo : Tg) (t : Nat) (w : World) (r : (List Int) × (List Int)) : Ending → World → Prop := fun e w' => ∃ (v0 : Value) (v1 : Value) (o' : Tg), e = .returned (.tuple #[v0, v1]) ∧ Of 3 o' w' v0 r.1 ∧ Ow w.heap.size 3 t o' w' v1 r.2 ∧ Keeps w w' ∧ ∀ b, b < w.heap.size → o' b = oo b
set_option maxRecDepth 100000 in
set_option maxHeartbeats 2000000 in
theorem cIb_codeFrom (fuel : Nat) (w : World) (oo : Tg) (t : Nat) (ht : 2 ≤ t) (u0 : List Value) (p0 : T_Network) (g0 : Rp.rd zt w u0 p0) (p1 : Int) (r : (List Int) × (List Int)) (hF : fI_codeFrom fuel p0 p1 = some r) :
    Calls Try.prog 67 #[.agg u0.toArray, .int .i64 p1] w (pIb_codeFrom oo t w r) := by
  unfold fI_codeFrom at hF
  obtain ⟨v1, v3, v5, rfl, h2, h4, h6⟩ := g0
  have hB : Bs oo (col oo) w w := Bs.start _ _
  refine calls_start (n := 116) (vs := [(.agg #[v1, v3, v5]), (.int .i64 p1)]) Try.func67 rfl rfl ?_
  generalize col oo = o at *
  refine wpC_seq ?_
  refine wpC_region ?_
  refine st_op (by decide) trivial ?_
  refine wf_box (o := o) w.heap.size 11 hB.keeps.size (cs := [v1, v3, v5]) rfl rfl ?_
  intro o7 w8 b9 h10 s11
  replace hB := hB.stp s11 (by decide)
  refine st_val (ex_assign rfl) (by decide) trivial ?_
  refine st_val (ex_assign rfl) (by decide) trivial ?_
  refine wpF_end (r := [(1, (.int .i64 p1)), (2, (.pointer (some ⟨b9, 0, none⟩)))]) ⟨rfl, rfl, trivial⟩ ?_
  refine nx ?_
  refine wpC_seq ?_
  refine wpC_region ?_
  refine st_val (ex_move rfl) (by decide) trivial ?_
  refine st_op (by decide) trivial ?_
  refine wf_litW w.heap.size 12 hB.keeps.size (o := o7) (cs := [(.int .i64 p1)]) (xs := ([p1] : List Int)) (vs := [(0, (.int .i64 p1))]) ⟨_, _, rfl, rfl, rfl⟩ rfl ⟨rfl, rfl, trivial⟩ Try.underlying23 Try.sizeOf3 Try.zeroValue3 (by decide) (fill1 rfl) (by simp) ?_
  intro o12 w13 v14 h15 s16
  replace h10 := h10.stp s16 (by decide)
  replace hB := hB.stp s16 (by decide)
  refine st_val (ex_assign rfl) (by decide) trivial ?_
  refine wpF_end (r := [(1, (.int .i64 p1)), (2, (.pointer (some ⟨b9, 0, none⟩))), (6, v14)]) ⟨rfl, rfl, rfl, trivial⟩ ?_
  refine nx ?_
  refine wpC_seq ?_
  refine wpC_region ?_
  refine st_op (by decide) trivial ?_
  refine wf_makeMap (o := o12) w.heap.size 13 hB.keeps.size ?_
  intro o17 w18 v19 h20 s21
  replace h15 := h15.stp s21 (by decide) (by decide)
  replace h10 := h10.stp s21 (by decide)
  replace hB := hB.stp s21 (by decide)
  refine st_val (ex_move rfl) (by decide) trivial ?_
  obtain ⟨x22, hx22, hF⟩ := bind_some hF
  refine st_op0 trivial ?_
  refine wf_mapIns h20 hx22 rfl rfl rfl Try.underlying95 ?_
  intro w23 h24 s25
  replace h15 := h15.stp s25 (by decide) (by decide)
  replace h10 := h10.stp s25 (by decide)
  replace hB := hB.stp s25 (by decide)
  refine st_val (ex_move rfl) (by decide) trivial ?_
  refine st_val (ex_assign rfl) (by decide) trivial ?_
  refine wpF_end (r := [(2, (.pointer (some ⟨b9, 0, none⟩))), (6, v14), (7, v19)]) ⟨rfl, rfl, rfl, trivial⟩ ?_
  refine nx ?_
  refine wpC_seq ?_
  refine wpC_seq ?_
  refine wpC_region ?_
  refine st_val (ex_assign rfl) (by decide) trivial ?_
  refine wpF_end (r := [(2, (.pointer (some ⟨b9, 0, none⟩))), (6, v14), (7, v19), (8, (.int .i64 0))]) ⟨rfl, rfl, rfl, rfl, trivial⟩ ?_
  refine nx ?_
  obtain ⟨q34, hq34, hF⟩ := bind_some hF
  refine wpC_cutN (fun a w33 => ∃ (y26 : List Int) (y29 : List (Int × Int)) (y31 : Int) (v27 : Value) (o32 : Tg), q34 = .inl (y26, y29, y31) ∧ Fr a 116 [(2, (.pointer (some ⟨b9, 0, none⟩))), (6, v27), (7, v19)] ∧ Bs oo o32 w w33 ∧ Ow w.heap.size 3 12 o32 w33 v27 y26 ∧ Mo w.heap.size 13 o32 w33 v19 y29 ∧ Bx w.heap.size 11 o32 w33 b9 31 [v1, v3, v5]) (fun _ _ => False) ?_ ?_ ?_
  · refine wpC_block ?_
    refine wpC_loop (fun (K : Nat) a w33 => ∃ (y26 : List Int) (y29 : List (Int × Int)) (y31 : Int) (v27 : Value) (o32 : Tg), loopF (fI_codeFrom_s1 p0) K (y26, y29, y31) = some q34 ∧ Fr a 116 [(2, (.pointer (some ⟨b9, 0, none⟩))), (6, v27), (7, v19), (8, (.int .i64 y31))] ∧ Bs oo o32 w w33 ∧ Ow w.heap.size 3 12 o32 w33 v27 y26 ∧ Mo w.heap.size 13 o32 w33 v19 y29 ∧ Bx w.heap.size 11 o32 w33 b9 31 [v1, v3, v5]) fuel (fun a ha => ⟨([p1] : List Int), x22, 0, v14, o17, hq34, ha.sub (r := [(2, (.pointer (some ⟨b9, 0, none⟩))), (6, v14), (7, v19), (8, (.int .i64 0))]) ⟨rfl, rfl, rfl, rfl, trivial⟩, hB, h15, h24, h10⟩) ?_
    rintro K38 a w33 ⟨y26, y29, y31, v27, o32, l35, ha, hB, h28, h30, h10⟩
    obtain ⟨K42, q39, e43, b40, n41⟩ := loopF_cons l35
    dsimp only [fI_codeFrom_s1] at b40
    refine wp_of ha ?_
    refine wpC_seq ?_
    refine wpC_seq ?_
    refine wpC_region ?_
    refine st_val (ex_move rfl) (by decide) trivial ?_
    refine st_val (ex_move rfl) (by decide) trivial ?_
    refine st_val (ex_lenO rfl h28 Try.underlying23) (by decide) trivial ?_
    refine st_val (ex_lss rfl rfl) (by decide) trivial ?_
    refine wpF_end (r := [(2, (.pointer (some ⟨b9, 0, none⟩))), (6, v27), (7, v19), (8, (.int .i64 y31)), (27, (.bool (decide (y31 < (y26.length : Int)))))]) ⟨rfl, rfl, rfl, rfl, rfl, trivial⟩ ?_
    refine nx ?_
    refine wpC_cond rfl (fun t44 => ?_) (fun t44 => ?_)
    · rw [if_pos t44] at b40
      refine wpC_skip ?_
      refine nx ?_
      refine wpC_seq ?_
      refine wpC_block ?_
      refine wpC_seq ?_
      obtain ⟨x45, hx45, b40⟩ := bind_some b40
      obtain ⟨x48, hx48, b40⟩ := bind_some b40
      refine wpC_drawn (o := o32) [(2, (.pointer (some ⟨b9, 0, none⟩))), (6, v27), (7, v19), (8, (.int .i64 y31))] [2, 6, 7, 8] [30, 31, 32, 33, 34, 35, 36, 37, 38, 39] [[], [0], [], [], [2, 3], [4], [1, 5], [6], [7], []] [none, none, none, none, none, none, none, none, none, none] [999, 999, 999, 999, 999, 999, 999, 999, 999, 999] [0, 0, 0, 0, 12, 0, 0, 0, 0, 0] [999] [fun v _ _ => v = (.pointer (some ⟨b9, 0 + 0, none⟩)), fun v _ _ => v = v1, fun v _ _ => v = v27, fun v _ _ => v = (.int .i64 y31), fun v o w9 => ∃ vl, v = adr vl (y31.toNat * Rp.sz Int) ∧ Ow w.heap.size 3 12 o w9 vl y26, fun v _ _ => v = (.int .i64 x45), fun v o w9 => ∃ vl, v = adr vl (x45.toNat * Rp.sz (List T_End)) ∧ RdL zt w vl (p0.Ends : List (List T_End)), fun v o w9 => RdL zt w v x48, fun v _ _ => v = (.int .i64 (x48.length : Int)), fun v _ _ => v = (.int .i64 0)] (fun o8 w8 => Bs oo o8 w w8 ∧ Ow w.heap.size 3 12 o8 w8 v27 y26 ∧ Mo w.heap.size 13 o8 w8 v19 y29 ∧ Bx w.heap.size 11 o8 w8 b9 31 [v1, v3, v5]) follows_mixed (by kernel_rfl) rfl ⟨rfl, rfl, rfl, rfl, trivial⟩ ⟨hB, h28, h30, h10⟩ ?_ ⟨st_eq _, st_eq _, st_eq _, st_eq _, fun _ _ _ _ _ _ h0 hb ⟨vl, e, h⟩ hs => ⟨vl, e, h.stp hs h0.1 (Ne.symm hb)⟩, st_eq _, fun _ _ _ _ _ _ h0 hb ⟨vl, e, h⟩ hs => ⟨vl, e, h⟩, fun _ _ _ _ _ _ h0 hb h hs => h, st_eq _, st_eq _, trivial⟩ ?_ ?_
      · rintro t9 o1 w1 o2 w2 ht9 ⟨hB, h28, h30, h10⟩ hs9
        have ht9 : t9 = 999 := by simpa using ht9
        subst ht9
        all_goals exact ⟨hB.stp hs9 (by decide), h28.stp hs9 (by decide) (by decide), h30.stp hs9 (by decide) (by decide), h10.stp hs9 (by decide)⟩
      · refine ⟨?_, ?_, ?_, ?_, ?_, ?_, ?_, ?_, ?_, ?_, trivial⟩
        · rintro o54 w55 a56 ha ⟨hB, h28, h30, h10⟩ -
          refine opS_of ha (trivial) ?_
          refine op1_val (ex_field rfl Try.underlying31 rfl Try.sizeOf29) ?_
          exact ⟨_, Stp.refl _ _ _, rfl⟩
        · rintro o57 w58 a59 ha ⟨hB, h28, h30, h10⟩ ⟨r60, -⟩
          have ha := Fr.cons (d := 30) ha r60
          refine opS_of ha (trivial) ?_
          refine op1_val (ex_load1 rfl Try.isAgg29 (h10.cell rfl)) ?_
          exact ⟨_, Stp.refl _ _ _, rfl⟩
        · rintro o61 w62 a63 ha ⟨hB, h28, h30, h10⟩ -
          refine opS_of ha (trivial) ?_
          refine op1_val (ex_move rfl) ?_
          exact ⟨_, Stp.refl _ _ _, rfl⟩
        · rintro o64 w65 a66 ha ⟨hB, h28, h30, h10⟩ -
          refine opS_of ha (trivial) ?_
          refine op1_val (ex_move rfl) ?_
          exact ⟨_, Stp.refl _ _ _, rfl⟩
        · rintro o67 w68 a69 ha ⟨hB, h28, h30, h10⟩ ⟨r70, r71, -⟩
          have ha := Fr.cons (d := 32) ha r70
          have ha := Fr.cons (d := 33) ha r71
          refine opS_of ha (trivial) ?_
          refine wd_indexW h28 hx45 rfl rfl Try.underlying23 Try.sizeOf3 ?_
          exact ⟨_, Stp.refl _ _ _, ⟨_, rfl, h28⟩⟩
        · rintro o72 w73 a74 ha ⟨hB, h28, h30, h10⟩ ⟨r75, -⟩
          obtain ⟨v76, e77, h78⟩ := r75
          have ha := Fr.cons (d := 34) ha e77
          refine opS_of ha (trivial) ?_
          refine wd_load1W h78 hx45 rfl rfl Try.isAgg3 ?_
          intro c79 h80
          cases h80
          exact ⟨_, Stp.refl _ _ _, rfl⟩
        · rintro o81 w82 a83 ha ⟨hB, h28, h30, h10⟩ ⟨r84, r85, -⟩
          have ha := Fr.cons (d := 31) ha r84
          have ha := Fr.cons (d := 35) ha r85
          refine opS_of ha (trivial) ?_
          refine wd_indexR h2 hx48 rfl rfl Try.underlying29 Try.sizeOf110 ?_
          exact ⟨_, Stp.refl _ _ _, ⟨_, rfl, h2⟩⟩
        · rintro o86 w87 a88 ha ⟨hB, h28, h30, h10⟩ ⟨r89, -⟩
          obtain ⟨v90, e91, h92⟩ := r89
          have ha := Fr.cons (d := 36) ha e91
          refine opS_of ha (trivial) ?_
          refine wd_load1Z h92 hx48 hB rfl rfl Try.isAgg110 ?_
          intro c93 h94
          obtain ⟨v95, e97, h96⟩ := h94
          cases e97
          exact ⟨_, Stp.refl _ _ _, h96⟩
        · rintro o98 w99 a100 ha ⟨hB, h28, h30, h10⟩ ⟨r101, -⟩
          replace r101 : RdL zt w (a100.tmps.getD 37 undef) x48 := r101
          generalize e103 : a100.tmps.getD 37 undef = v102 at r101
          have ha := Fr.cons (d := 37) ha e103
          refine opS_of ha (trivial) ?_
          refine op1_val (ex_lenR rfl r101 Try.underlying110) ?_
          exact ⟨_, Stp.refl _ _ _, rfl⟩
        · rintro o104 w105 a106 ha ⟨hB, h28, h30, h10⟩ -
          refine opS_of ha (trivial) ?_
          refine op1_val (ex_move rfl) ?_
          exact ⟨_, Stp.refl _ _ _, rfl⟩
      rintro o107 w108 a109 ha ⟨hB, h28, h30, h10⟩ ⟨-, -, -, -, -, -, -, r110, r111, r112, -⟩
      replace r110 : RdL zt w (a109.tmps.getD 37 undef) x48 := r110
      generalize e114 : a109.tmps.getD 37 undef = v113 at r110
      have ha := Fr.cons (d := 37) ha e114
      have ha := Fr.cons (d := 38) ha r111
      have ha := Fr.cons (d := 39) ha r112
      refine wl_of ha ?_
      simp only [List.length_cons, List.length_nil, Nat.zero_add, Nat.reduceAdd, List.drop_succ_cons, List.drop_zero]
      refine wpF_end (r := [(2, (.pointer (some ⟨b9, 0, none⟩))), (6, v27), (7, v19), (8, (.int .i64 y31)), (37, v113), (38, (.int .i64 (x48.length : Int))), (39, (.int .i64 0))]) ⟨rfl, rfl, rfl, rfl, rfl, rfl, rfl, trivial⟩ ?_
      refine nx ?_
      obtain ⟨q123, hq123, b40⟩ := bind_some b40
      refine wpC_cutN (fun a w121 => ∃ (y115 : List Int) (y118 : List (Int × Int)) (v116 : Value) (o120 : Tg), q123 = .inl (y115, y118) ∧ Fr a 116 [(2, (.pointer (some ⟨b9, 0, none⟩))), (6, v116), (7, v19), (8, (.int .i64 y31))] ∧ Bs oo o120 w w121 ∧ Ow w.heap.size 3 12 o120 w121 v116 y115 ∧ Mo w.heap.size 13 o120 w121 v19 y118 ∧ Bx w.heap.size 11 o120 w121 b9 31 [v1, v3, v5]) (fun _ _ => False) ?_ ?_ ?_
      · refine wpC_block ?_
        refine wpC_loop (fun (K : Nat) a w121 => ∃ (i122 : Int) (y115 : List Int) (y118 : List (Int × Int)) (v116 : Value) (o120 : Tg), forI (fI_codeFrom_s2) (x48.drop i122.toNat) i122 (y115, y118) = some q123 ∧ (x48.drop i122.toNat).length = K ∧ 0 ≤ i122 ∧ Fr a 116 [(2, (.pointer (some ⟨b9, 0, none⟩))), (6, v116), (7, v19), (8, (.int .i64 y31)), (37, v113), (38, (.int .i64 (x48.length : Int))), (39, (.int .i64 i122))] ∧ Bs oo o120 w w121 ∧ Ow w.heap.size 3 12 o120 w121 v116 y115 ∧ Mo w.heap.size 13 o120 w121 v19 y118 ∧ Bx w.heap.size 11 o120 w121 b9 31 [v1, v3, v5]) _ (fun a ha => ⟨0, y26, y29, v27, o107, hq123, rfl, Int.le_refl 0, ha.sub (r := [(2, (.pointer (some ⟨b9, 0, none⟩))), (6, v27), (7, v19), (8, (.int .i64 y31)), (37, v113), (38, (.int .i64 (x48.length : Int))), (39, (.int .i64 0))]) ⟨rfl, rfl, rfl, rfl, rfl, rfl, rfl, trivial⟩, hB, h28, h30, h10⟩) ?_
        rintro K127 a w121 ⟨i122, y115, y118, v116, o120, l124, m126, z125, ha, hB, h117, h119, h10⟩
        by_cases t131 : i122 < (x48.length : Int)
        · obtain ⟨x132, q128, hx132, b129, n130⟩ := forI_cons z125 t131 l124
          have hle := r110.len_le
          dsimp only [fI_codeFrom_s2] at b129
          refine wp_of ha ?_
          refine wpC_seq ?_
          refine wpC_region ?_
          refine st_val (ex_lss rfl rfl) (by decide) trivial ?_
          refine wpF_end (r := [(2, (.pointer (some ⟨b9, 0, none⟩))), (6, v116), (7, v19), (8, (.int .i64 y31)), (37, v113), (38, (.int .i64 (x48.length : Int))), (39, (.int .i64 i122)), (40, (.bool (decide (i122 < (x48.length : Int)))))]) ⟨rfl, rfl, rfl, rfl, rfl, rfl, rfl, rfl, trivial⟩ ?_
          refine nx ?_
          refine wpC_seq ?_
          refine wpC_true (congrArg (fun b => some (Value.bool b)) (decide_eq_true t131)) ?_
          refine wpC_skip ?_
          refine nx ?_
          refine wpC_seq ?_
          refine wpC_block ?_
          refine wpC_seq ?_
          refine wpC_region ?_
          refine st_op (by decide) trivial ?_
          refine wf_atZ r110 hx132 hB rfl rfl Try.underlying110 Try.sizeOf115 ?_
          intro b133 f134 c135 h136 h137
          cases h137
          refine st_val (ex_loadA rfl Try.isAgg115 Try.sizeOf115 rfl h136) (by decide) trivial ?_
          refine st_op (by decide) trivial ?_
          refine wf_alloc (o := o120) w.heap.size 14 hB.keeps.size (cs := [(.int .i64 0), (.int .i64 0)]) Try.zeroValue115 rfl ?_
          intro o138 w139 b140 h141 s142
          replace h117 := h117.stp s142 (by decide) (by decide)
          replace h119 := h119.stp s142 (by decide) (by decide)
          replace h10 := h10.stp s142 (by decide)
          replace hB := hB.stp s142 (by decide)
          refine st_op0 trivial ?_
          refine wf_storeA h141 rfl rfl rfl info1_t_impl_End_Apc (by intro c hc; simp only [List.mem_cons, List.not_mem_nil, or_false] at hc; rcases hc with rfl | rfl <;> first | rfl) ?_
          intro w143 h145 s144
          replace h117 := h117.stp s144 (by decide) (by decide)
          replace h119 := h119.stp s144 (by decide) (by decide)
          replace h10 := h10.stp s144 (by decide)
          replace hB := hB.stp s144 (by decide)
          refine wpF_end (r := [(2, (.pointer (some ⟨b9, 0, none⟩))), (6, v116), (7, v19), (8, (.int .i64 y31)), (10, (.pointer (some ⟨b140, 0, none⟩))), (37, v113), (38, (.int .i64 (x48.length : Int))), (39, (.int .i64 i122))]) ⟨rfl, rfl, rfl, rfl, rfl, rfl, rfl, rfl, trivial⟩ ?_
          refine nx ?_
          refine wpC_seq ?_
          refine wpC_region ?_
          refine st_val (ex_move rfl) (by decide) trivial ?_
          refine st_val (ex_field rfl Try.underlying115 rfl Try.sizeOf3) (by decide) trivial ?_
          refine st_val (ex_load1 rfl Try.isAgg3 (h145.cell rfl)) (by decide) trivial ?_
          obtain ⟨x146, hx146, b129⟩ := bind_some b129
          refine st_val (ex_lookOk h119 hx146 rfl rfl Try.underlying95) (by decide) trivial ?_
          refine st_val (ex_move rfl) (by decide) trivial ?_
          refine st_val (ex_extract rfl rfl) (by decide) trivial ?_
          refine st_val (ex_extract rfl rfl) (by decide) trivial ?_
          refine st_val (ex_assign rfl) (by decide) trivial ?_
          refine st_val (ex_assign rfl) (by decide) trivial ?_
          refine wpF_end (r := [(2, (.pointer (some ⟨b9, 0, none⟩))), (6, v116), (7, v19), (8, (.int .i64 y31)), (10, (.pointer (some ⟨b140, 0, none⟩))), (12, (.bool x146.2)), (37, v113), (38, (.int .i64 (x48.length : Int))), (39, (.int .i64 i122))]) ⟨rfl, rfl, rfl, rfl, rfl, rfl, rfl, rfl, rfl, trivial⟩ ?_
          refine nx ?_
          refine wpC_seq ?_
          refine wpC_region ?_
          refine st_val (ex_move rfl) (by decide) trivial ?_
          refine st_val (ex_not rfl) (by decide) trivial ?_
          refine wpF_end (r := [(2, (.pointer (some ⟨b9, 0, none⟩))), (6, v116), (7, v19), (8, (.int .i64 y31)), (10, (.pointer (some ⟨b140, 0, none⟩))), (37, v113), (38, (.int .i64 (x48.length : Int))), (39, (.int .i64 i122)), (51, (.bool (!x146.2)))]) ⟨rfl, rfl, rfl, rfl, rfl, rfl, rfl, rfl, rfl, trivial⟩ ?_
          refine nx ?_
          refine wpC_cond rfl (fun t147 => ?_) (fun t147 => ?_)
          · rw [if_pos t147] at b129
            refine wpC_seq ?_
            refine wpC_region ?_
            refine st_val (ex_move rfl) (by decide) trivial ?_
            refine st_val (ex_field rfl Try.underlying115 rfl Try.sizeOf3) (by decide) trivial ?_
            refine st_val (ex_load1 rfl Try.isAgg3 (h145.cell rfl)) (by decide) trivial ?_
            refine st_val (ex_move rfl) (by decide) trivial ?_
            refine st_val (ex_lenO rfl h117 Try.underlying23) (by decide) trivial ?_
            obtain ⟨x148, hx148, b129⟩ := bind_some b129
            refine st_op0 trivial ?_
            refine wf_mapPut h119 hx148 rfl rfl rfl Try.underlying95 ?_
            intro w149 h150 s151
            replace h117 := h117.stp s151 (by decide) (by decide)
            replace h10 := h10.stp s151 (by decide)
            replace h145 := h145.stp s151 (by decide)
            replace hB := hB.stp s151 (by decide)
            refine wpF_end (r := [(2, (.pointer (some ⟨b9, 0, none⟩))), (6, v116), (7, v19), (8, (.int .i64 y31)), (10, (.pointer (some ⟨b140, 0, none⟩))), (37, v113), (38, (.int .i64 (x48.length : Int))), (39, (.int .i64 i122))]) ⟨rfl, rfl, rfl, rfl, rfl, rfl, rfl, rfl, trivial⟩ ?_
            refine nx ?_
            refine wpC_region ?_
            refine st_val (ex_move rfl) (by decide) trivial ?_
            refine st_val (ex_field rfl Try.underlying115 rfl Try.sizeOf3) (by decide) trivial ?_
            refine st_val (ex_load1 rfl Try.isAgg3 (h145.cell rfl)) (by decide) trivial ?_
            refine st_op (by decide) trivial ?_
            refine wf_litR (o := o138) (cs := [(.int .i64 x132.Node)]) (xs := ([x132.Node] : List Int)) (vs := [(0, (.int .i64 x132.Node))]) ⟨_, _, rfl, rfl, rfl⟩ rfl ⟨rfl, rfl, trivial⟩ Try.underlying23 Try.sizeOf3 Try.zeroValue3 (by decide) (fill1 rfl) (by simp) ?_
            intro o152 w153 v154 h155 s156 k157
            replace h117 := h117.stp s156 (by decide) (by decide)
            replace h150 := h150.stp s156 (by decide) (by decide)
            replace h10 := h10.stp s156 (by decide)
            replace h145 := h145.stp s156 (by decide)
            replace hB := hB.stp s156 (by decide)
            obtain ⟨x158, hx158, b129⟩ := bind_some b129
            refine st_op (by decide) trivial ?_
            refine wf_cat h117 h155 (push_cat hx158) (by decide) hB.keeps.size rfl rfl Try.underlying23 info2_t_int_Apc rfl (by decide) ?_
            intro o159 w160 v161 h162 s163
            replace h150 := h150.stp s163 (by decide) (by decide)
            replace h155 := h155.stp s163 (by decide)
            replace h10 := h10.stp s163 (by decide)
            replace h145 := h145.stp s163 (by decide)
            replace hB := hB.stp s163 (by decide)
            refine st_val (ex_assign rfl) (by decide) trivial ?_
            refine wpF_end (r := [(2, (.pointer (some ⟨b9, 0, none⟩))), (6, v161), (7, v19), (8, (.int .i64 y31)), (37, v113), (38, (.int .i64 (x48.length : Int))), (39, (.int .i64 i122))]) ⟨rfl, rfl, rfl, rfl, rfl, rfl, rfl, trivial⟩ ?_
            refine nb_norm ?_
            refine nx ?_
            refine wpC_region ?_
            refine st_val (ex_add rfl rfl (ck_in (by omega) (by omega))) (by decide) trivial ?_
            refine st_val (ex_move rfl) (by decide) trivial ?_
            refine wpF_end (r := [(2, (.pointer (some ⟨b9, 0, none⟩))), (6, v161), (7, v19), (8, (.int .i64 y31)), (37, v113), (38, (.int .i64 (x48.length : Int))), (39, (.int .i64 (i122 + 1)))]) ⟨rfl, rfl, rfl, rfl, rfl, rfl, rfl, trivial⟩ ?_
            refine nt_norm ?_
            have e164 := Option.some.inj b129
            subst e164
            refine to_k (r := [(2, (.pointer (some ⟨b9, 0, none⟩))), (6, v161), (7, v19), (8, (.int .i64 y31)), (37, v113), (38, (.int .i64 (x48.length : Int))), (39, (.int .i64 (i122 + 1)))]) ⟨rfl, rfl, rfl, rfl, rfl, rfl, rfl, trivial⟩ ?_
            intro a ha
            exact ⟨_, (by rw [← m126]; simp only [List.length_drop]; omega), i122 + 1, x158, x148, v161, o159, n130, rfl, (by omega), ha, hB, h162, h150, h10⟩
          · rw [if_neg (by rw [t147]; decide)] at b129
            refine wpC_skip ?_
            refine nb_norm ?_
            refine nx ?_
            refine wpC_region ?_
            refine st_val (ex_add rfl rfl (ck_in (by omega) (by omega))) (by decide) trivial ?_
            refine st_val (ex_move rfl) (by decide) trivial ?_
            refine wpF_end (r := [(2, (.pointer (some ⟨b9, 0, none⟩))), (6, v116), (7, v19), (8, (.int .i64 y31)), (37, v113), (38, (.int .i64 (x48.length : Int))), (39, (.int .i64 (i122 + 1)))]) ⟨rfl, rfl, rfl, rfl, rfl, rfl, rfl, trivial⟩ ?_
            refine nt_norm ?_
            have e165 := Option.some.inj b129
            subst e165
            refine to_k (r := [(2, (.pointer (some ⟨b9, 0, none⟩))), (6, v116), (7, v19), (8, (.int .i64 y31)), (37, v113), (38, (.int .i64 (x48.length : Int))), (39, (.int .i64 (i122 + 1)))]) ⟨rfl, rfl, rfl, rfl, rfl, rfl, rfl, trivial⟩ ?_
            intro a ha
            exact ⟨_, (by rw [← m126]; simp only [List.length_drop]; omega), i122 + 1, y115, y118, v116, o138, n130, rfl, (by omega), ha, hB, h117, h119, h10⟩
        · have r166 := forI_done t131 l124
          refine wp_of ha ?_
          refine wpC_seq ?_
          refine wpC_region ?_
          refine st_val (ex_lss rfl rfl) (by decide) trivial ?_
          refine wpF_end (r := [(2, (.pointer (some ⟨b9, 0, none⟩))), (6, v116), (7, v19), (8, (.int .i64 y31)), (37, v113), (38, (.int .i64 (x48.length : Int))), (39, (.int .i64 i122)), (40, (.bool (decide (i122 < (x48.length : Int)))))]) ⟨rfl, rfl, rfl, rfl, rfl, rfl, rfl, rfl, trivial⟩ ?_
          refine nx ?_
          refine wpC_seq ?_
          refine wpC_false (congrArg (fun b => some (Value.bool b)) (decide_eq_false t131)) ?_
          refine wpC_exit ?_
          refine nt_exit ?_
          refine nt_exit ?_
          refine nb_hit ?_
          refine np_norm ?_
          refine to_k (r := [(2, (.pointer (some ⟨b9, 0, none⟩))), (6, v116), (7, v19), (8, (.int .i64 y31))]) ⟨rfl, rfl, rfl, rfl, trivial⟩ ?_
          intro a ha
          exact ⟨y115, y118, v116, o120, r166, ha, hB, h117, h119, h10⟩
      · rintro a w121 ⟨y115, y118, v116, o120, rfl, ha, hB, h117, h119, h10⟩
        dsimp only at b40
        refine ap_k ha ?_
        refine nb_norm ?_
        refine nx ?_
        refine wpC_region ?_
        refine st_val (ex_move rfl) (by decide) trivial ?_
        obtain ⟨x167, hx167, b40⟩ := bind_some b40
        refine st_val (ex_add rfl rfl hx167) (by decide) trivial ?_
        refine st_val (ex_assign rfl) (by decide) trivial ?_
        refine wpF_end (r := [(2, (.pointer (some ⟨b9, 0, none⟩))), (6, v116), (7, v19), (8, (.int .i64 x167))]) ⟨rfl, rfl, rfl, rfl, trivial⟩ ?_
        refine nt_norm ?_
        have e168 := Option.some.inj b40
        subst e168
        refine to_k (r := [(2, (.pointer (some ⟨b9, 0, none⟩))), (6, v116), (7, v19), (8, (.int .i64 x167))]) ⟨rfl, rfl, rfl, rfl, trivial⟩ ?_
        intro a ha
        exact ⟨K42, by omega, y115, y118, x167, v116, o120, n41, ha, hB, h117, h119, h10⟩
      · exact fun _ _ h => h.elim
    · rw [if_neg (by rw [t44]; decide)] at b40
      refine wpC_exit ?_
      refine nt_exit ?_
      refine nt_exit ?_
      refine nb_hit ?_
      refine np_norm ?_
      have e169 := Option.some.inj b40
      subst e169
      refine to_k (r := [(2, (.pointer (some ⟨b9, 0, none⟩))), (6, v27), (7, v19)]) ⟨rfl, rfl, rfl, trivial⟩ ?_
      intro a ha
      exact ⟨y26, y29, y31, v27, o32, n41, ha, hB, h28, h30, h10⟩
  · rintro a w33 ⟨y26, y29, y31, v27, o32, rfl, ha, hB, h28, h30, h10⟩
    dsimp only at hF
    refine ap_k ha ?_
    refine nx ?_
    refine wpC_seq ?_
    refine wpC_region ?_
    refine st_val (ex_assign rfl) (by decide) trivial ?_
    refine wpF_end (r := [(2, (.pointer (some ⟨b9, 0, none⟩))), (6, v27), (7, v19), (13, (.slice none 0 0))]) ⟨rfl, rfl, rfl, rfl, trivial⟩ ?_
    refine nx ?_
    refine wpC_seq ?_
    refine wpC_seq ?_
    refine wpC_region ?_
    refine st_val (ex_move rfl) (by decide) trivial ?_
    refine st_val (ex_lenO rfl h28 Try.underlying23) (by decide) trivial ?_
    refine st_val (ex_move rfl) (by decide) trivial ?_
    refine wpF_end (r := [(2, (.pointer (some ⟨b9, 0, none⟩))), (6, v27), (7, v19), (13, (.slice none 0 0)), (63, v27), (64, (.int .i64 (y26.length : Int))), (65, (.int .i64 0))]) ⟨rfl, rfl, rfl, rfl, rfl, rfl, rfl, trivial⟩ ?_
    refine nx ?_
    have h170 : Ow w.heap.size 3 15 o32 w33 (.slice none 0 0) ([] : List Int) := Ow.nil _ _ _ _ _
    obtain ⟨q177, hq177, hF⟩ := bind_some hF
    refine wpC_cutN (fun a w175 => ∃ (y171 : List Int) (v172 : Value) (o174 : Tg), q177 = .inl y171 ∧ Fr a 116 [(6, v27), (13, v172)] ∧ Bs oo o174 w w175 ∧ Ow w.heap.size 3 12 o174 w175 v27 y26 ∧ Ow w.heap.size 3 15 o174 w175 v172 y171) (fun _ _ => False) ?_ ?_ ?_
    · refine wpC_block ?_
      refine wpC_loop (fun (K : Nat) a w175 => ∃ (i176 : Int) (y171 : List Int) (v172 : Value) (o174 : Tg), forI (fI_codeFrom_s3 p0 y29) (y26.drop i176.toNat) i176 y171 = some q177 ∧ (y26.drop i176.toNat).length = K ∧ 0 ≤ i176 ∧ Fr a 116 [(2, (.pointer (some ⟨b9, 0, none⟩))), (6, v27), (7, v19), (13, v172), (63, v27), (64, (.int .i64 (y26.length : Int))), (65, (.int .i64 i176))] ∧ Bs oo o174 w w175 ∧ Ow w.heap.size 3 12 o174 w175 v27 y26 ∧ Mo w.heap.size 13 o174 w175 v19 y29 ∧ Ow w.heap.size 3 15 o174 w175 v172 y171 ∧ Bx w.heap.size 11 o174 w175 b9 31 [v1, v3, v5]) _ (fun a ha => ⟨0, [], (.slice none 0 0), o32, hq177, rfl, Int.le_refl 0, ha.sub (r := [(2, (.pointer (some ⟨b9, 0, none⟩))), (6, v27), (7, v19), (13, (.slice none 0 0)), (63, v27), (64, (.int .i64 (y26.length : Int))), (65, (.int .i64 0))]) ⟨rfl, rfl, rfl, rfl, rfl, rfl, rfl, trivial⟩, hB, h28, h30, h170, h10⟩) ?_
      rintro K181 a w175 ⟨i176, y171, v172, o174, l178, m180, z179, ha, hB, h28, h30, h173, h10⟩
      by_cases t185 : i176 < (y26.length : Int)
      · obtain ⟨x186, q182, hx186, b183, n184⟩ := forI_cons z179 t185 l178
        have hle := h28.len_le
        dsimp only [fI_codeFrom_s3] at b183
        refine wp_of ha ?_
        refine wpC_seq ?_
        refine wpC_region ?_
        refine st_val (ex_lss rfl rfl) (by decide) trivial ?_
        refine wpF_end (r := [(2, (.pointer (some ⟨b9, 0, none⟩))), (6, v27), (7, v19), (13, v172), (63, v27), (64, (.int .i64 (y26.length : Int))), (65, (.int .i64 i176)), (66, (.bool (decide (i176 < (y26.length : Int)))))]) ⟨rfl, rfl, rfl, rfl, rfl, rfl, rfl, rfl, trivial⟩ ?_
        refine nx ?_
        refine wpC_seq ?_
        refine wpC_true (congrArg (fun b => some (Value.bool b)) (decide_eq_true t185)) ?_
        refine wpC_skip ?_
        refine nx ?_
        refine wpC_seq ?_
        refine wpC_block ?_
        refine wpC_seq ?_
        refine wpC_region ?_
        refine st_op (by decide) trivial ?_
        refine wf_atW h28 hx186 rfl rfl Try.underlying23 Try.sizeOf3 ?_
        intro b187 f188 c189 h190 h191
        cases h191
        refine st_val (ex_load1 rfl Try.isAgg3 (cell_of_cells h190)) (by decide) trivial ?_
        refine st_val (ex_assign rfl) (by decide) trivial ?_
        refine wpF_end (r := [(2, (.pointer (some ⟨b9, 0, none⟩))), (6, v27), (7, v19), (13, v172), (15, (.int .i64 x186)), (63, v27), (64, (.int .i64 (y26.length : Int))), (65, (.int .i64 i176))]) ⟨rfl, rfl, rfl, rfl, rfl, rfl, rfl, rfl, trivial⟩ ?_
        refine nx ?_
        refine wpC_seq ?_
        refine wpC_region ?_
        refine st_val (ex_assign rfl) (by decide) trivial ?_
        refine wpF_end (r := [(2, (.pointer (some ⟨b9, 0, none⟩))), (6, v27), (7, v19), (13, v172), (15, (.int .i64 x186)), (16, (.int .i64 0)), (63, v27), (64, (.int .i64 (y26.length : Int))), (65, (.int .i64 i176))]) ⟨rfl, rfl, rfl, rfl, rfl, rfl, rfl, rfl, rfl, trivial⟩ ?_
        refine nx ?_
        refine wpC_seq ?_
        refine wpC_seq ?_
        refine wpC_region ?_
        refine st_val (ex_field rfl Try.underlying31 rfl Try.sizeOf23) (by decide) trivial ?_
        refine st_val (ex_load1 rfl Try.isAgg23 (h10.cell rfl)) (by decide) trivial ?_
        refine st_val (ex_lenR rfl h4 Try.underlying23) (by decide) trivial ?_
        refine st_val (ex_gtr rfl rfl) (by decide) trivial ?_
        refine wpF_end (r := [(2, (.pointer (some ⟨b9, 0, none⟩))), (6, v27), (7, v19), (13, v172), (15, (.int .i64 x186)), (16, (.int .i64 0)), (63, v27), (64, (.int .i64 (y26.length : Int))), (65, (.int .i64 i176)), (72, (.bool (decide ((p0.Ids.length : Int) > 0))))]) ⟨rfl, rfl, rfl, rfl, rfl, rfl, rfl, rfl, rfl, rfl, trivial⟩ ?_
        refine nx ?_
        refine wpC_cond rfl (fun t192 => ?_) (fun t192 => ?_)
        · rw [if_pos t192] at b183
          refine wpC_region ?_
          refine st_val (ex_field rfl Try.underlying31 rfl Try.sizeOf23) (by decide) trivial ?_
          refine st_val (ex_load1 rfl Try.isAgg23 (h10.cell rfl)) (by decide) trivial ?_
          refine st_val (ex_move rfl) (by decide) trivial ?_
          obtain ⟨x193, hx193, b183⟩ := bind_some b183
          refine st_op (by decide) trivial ?_
          refine wf_atZ h4 hx193 hB rfl rfl Try.underlying23 Try.sizeOf3 ?_
          intro b194 f195 c196 h197 h198
          cases h198
          refine st_val (ex_load1 rfl Try.isAgg3 (cell_of_cells h197)) (by decide) trivial ?_
          refine st_val (ex_assign rfl) (by decide) trivial ?_
          refine wpF_end (r := [(2, (.pointer (some ⟨b9, 0, none⟩))), (6, v27), (7, v19), (13, v172), (15, (.int .i64 x186)), (16, (.int .i64 x193)), (63, v27), (64, (.int .i64 (y26.length : Int))), (65, (.int .i64 i176))]) ⟨rfl, rfl, rfl, rfl, rfl, rfl, rfl, rfl, rfl, trivial⟩ ?_
          refine nx ?_
          refine wpC_seq ?_
          obtain ⟨x199, hx199, b183⟩ := bind_some b183
          obtain ⟨x205, hx205, b183⟩ := bind_some b183
          refine wpC_drawn (o := o174) [(2, (.pointer (some ⟨b9, 0, none⟩))), (6, v27), (7, v19), (13, v172), (15, (.int .i64 x186)), (16, (.int .i64 x193)), (63, v27), (64, (.int .i64 (y26.length : Int))), (65, (.int .i64 i176))] [2, 6, 7, 13, 15, 16, 63, 64, 65] [78, 79, 80, 81, 82, 83, 84, 85, 86, 87, 88, 89, 90, 91] [[], [], [1], [], [2, 3], [4], [5], [], [7], [], [8, 9], [10], [], [6, 11, 12]] [none, none, none, none, none, none, none, none, none, none, none, none, none, none] [999, 999, 999, 999, 999, 999, 999, 999, 999, 999, 999, 999, 999, 999] [0, 0, 0, 0, 0, 0, 0, 0, 0, 0, 0, 0, 0, 0] [999] [fun v _ _ => v = v172, fun v _ _ => v = (.pointer (some ⟨b9, 0 + 0, none⟩)), fun v _ _ => v = v1, fun v _ _ => v = (.int .i64 x186), fun v o w9 => ∃ vl, v = adr vl (x186.toNat * Rp.sz (List T_End)) ∧ RdL zt w vl (p0.Ends : List (List T_End)), fun v o w9 => RdL zt w v x199, fun v _ _ => v = (.int .i64 (x199.length : Int)), fun v _ _ => v = (.pointer (some ⟨b9, 0 + 2, none⟩)), fun v _ _ => v = v5, fun v _ _ => v = (.int .i64 x186), fun v o w9 => ∃ vl, v = adr vl (x186.toNat * Rp.sz Int) ∧ RdL zt w vl (p0.Inputs : List Int), fun v _ _ => v = (.int .i64 x205), fun v _ _ => v = (.int .i64 x193), fun v o w9 => RdL o w9 v (([(x199.length : Int), x205, x193] : List Int) : List Int)] (fun o8 w8 => Bs oo o8 w w8 ∧ Ow w.heap.size 3 12 o8 w8 v27 y26 ∧ Mo w.heap.size 13 o8 w8 v19 y29 ∧ Ow w.heap.size 3 15 o8 w8 v172 y171 ∧ Bx w.heap.size 11 o8 w8 b9 31 [v1, v3, v5]) follows_mixed (by kernel_rfl) rfl ⟨rfl, rfl, rfl, rfl, rfl, rfl, rfl, rfl, rfl, trivial⟩ ⟨hB, h28, h30, h173, h10⟩ ?_ ⟨st_eq _, st_eq _, st_eq _, st_eq _, fun _ _ _ _ _ _ h0 hb ⟨vl, e, h⟩ hs => ⟨vl, e, h⟩, fun _ _ _ _ _ _ h0 hb h hs => h, st_eq _, st_eq _, st_eq _, st_eq _, fun _ _ _ _ _ _ h0 hb ⟨vl, e, h⟩ hs => ⟨vl, e, h⟩, st_eq _, st_eq _, fun _ _ _ _ _ _ h0 hb h hs => h.stp hs h0.1, trivial⟩ ?_ ?_
          · rintro t9 o1 w1 o2 w2 ht9 ⟨hB, h28, h30, h173, h10⟩ hs9
            have ht9 : t9 = 999 := by simpa using ht9
            subst ht9
            all_goals exact ⟨hB.stp hs9 (by decide), h28.stp hs9 (by decide) (by decide), h30.stp hs9 (by decide) (by decide), h173.stp hs9 (by decide) (by decide), h10.stp hs9 (by decide)⟩
          · refine ⟨?_, ?_, ?_, ?_, ?_, ?_, ?_, ?_, ?_, ?_, ?_, ?_, ?_, ?_, trivial⟩
            · rintro o214 w215 a216 ha ⟨hB, h28, h30, h173, h10⟩ -
              refine opS_of ha (trivial) ?_
              refine op1_val (ex_move rfl) ?_
              exact ⟨_, Stp.refl _ _ _, rfl⟩
            · rintro o217 w218 a219 ha ⟨hB, h28, h30, h173, h10⟩ -
              refine opS_of ha (trivial) ?_
              refine op1_val (ex_field rfl Try.underlying31 rfl Try.sizeOf29) ?_
              exact ⟨_, Stp.refl _ _ _, rfl⟩
            · rintro o220 w221 a222 ha ⟨hB, h28, h30, h173, h10⟩ ⟨r223, -⟩
              have ha := Fr.cons (d := 79) ha r223
              refine opS_of ha (trivial) ?_
              refine op1_val (ex_load1 rfl Try.isAgg29 (h10.cell rfl)) ?_
              exact ⟨_, Stp.refl _ _ _, rfl⟩
            · rintro o224 w225 a226 ha ⟨hB, h28, h30, h173, h10⟩ -
              refine opS_of ha (trivial) ?_
              refine op1_val (ex_move rfl) ?_
              exact ⟨_, Stp.refl _ _ _, rfl⟩
            · rintro o227 w228 a229 ha ⟨hB, h28, h30, h173, h10⟩ ⟨r230, r231, -⟩
              have ha := Fr.cons (d := 80) ha r230
              have ha := Fr.cons (d := 81) ha r231
              refine opS_of ha (trivial) ?_
              refine wd_indexR h2 hx199 rfl rfl Try.underlying29 Try.sizeOf110 ?_
              exact ⟨_, Stp.refl _ _ _, ⟨_, rfl, h2⟩⟩
            · rintro o232 w233 a234 ha ⟨hB, h28, h30, h173, h10⟩ ⟨r235, -⟩
              obtain ⟨v236, e237, h238⟩ := r235
              have ha := Fr.cons (d := 82) ha e237
              refine opS_of ha (trivial) ?_
              refine wd_load1Z h238 hx199 hB rfl rfl Try.isAgg110 ?_
              intro c239 h240
              obtain ⟨v241, e243, h242⟩ := h240
              cases e243
              exact ⟨_, Stp.refl _ _ _, h242⟩
            · rintro o244 w245 a246 ha ⟨hB, h28, h30, h173, h10⟩ ⟨r247, -⟩
              replace r247 : RdL zt w (a246.tmps.getD 83 undef) x199 := r247
              generalize e249 : a246.tmps.getD 83 undef = v248 at r247
              have ha := Fr.cons (d := 83) ha e249
              refine opS_of ha (trivial) ?_
              refine op1_val (ex_lenR rfl r247 Try.underlying110) ?_
              exact ⟨_, Stp.refl _ _ _, rfl⟩
            · rintro o250 w251 a252 ha ⟨hB, h28, h30, h173, h10⟩ -
              refine opS_of ha (trivial) ?_
              refine op1_val (ex_field rfl Try.underlying31 rfl Try.sizeOf23) ?_
              exact ⟨_, Stp.refl _ _ _, rfl⟩
            · rintro o253 w254 a255 ha ⟨hB, h28, h30, h173, h10⟩ ⟨r256, -⟩
              have ha := Fr.cons (d := 85) ha r256
              refine opS_of ha (trivial) ?_
              refine op1_val (ex_load1 rfl Try.isAgg23 (h10.cell rfl)) ?_
              exact ⟨_, Stp.refl _ _ _, rfl⟩
            · rintro o257 w258 a259 ha ⟨hB, h28, h30, h173, h10⟩ -
              refine opS_of ha (trivial) ?_
              refine op1_val (ex_move rfl) ?_
              exact ⟨_, Stp.refl _ _ _, rfl⟩
            · rintro o260 w261 a262 ha ⟨hB, h28, h30, h173, h10⟩ ⟨r263, r264, -⟩
              have ha := Fr.cons (d := 86) ha r263
              have ha := Fr.cons (d := 87) ha r264
              refine opS_of ha (trivial) ?_
              refine wd_indexR h6 hx205 rfl rfl Try.underlying23 Try.sizeOf3 ?_
              exact ⟨_, Stp.refl _ _ _, ⟨_, rfl, h6⟩⟩
            · rintro o265 w266 a267 ha ⟨hB, h28, h30, h173, h10⟩ ⟨r268, -⟩
              obtain ⟨v269, e270, h271⟩ := r268
              have ha := Fr.cons (d := 88) ha e270
              refine opS_of ha (trivial) ?_
              refine wd_load1Z h271 hx205 hB rfl rfl Try.isAgg3 ?_
              intro c272 h273
              cases h273
              exact ⟨_, Stp.refl _ _ _, rfl⟩
            · rintro o274 w275 a276 ha ⟨hB, h28, h30, h173, h10⟩ -
              refine opS_of ha (trivial) ?_
              refine op1_val (ex_move rfl) ?_
              exact ⟨_, Stp.refl _ _ _, rfl⟩
            · rintro o277 w278 a279 ha ⟨hB, h28, h30, h173, h10⟩ ⟨r280, r281, r282, -⟩
              have ha := Fr.cons (d := 84) ha r280
              have ha := Fr.cons (d := 89) ha r281
              have ha := Fr.cons (d := 90) ha r282
              refine opS_of ha (trivial) ?_
              refine wf_litR (o := o277) (cs := [(.int .i64 (x199.length : Int)), (.int .i64 x205), (.int .i64 x193)]) (xs := ([(x199.length : Int), x205, x193] : List Int)) (vs := [(0, (.int .i64 (x199.length : Int))), (1, (.int .i64 x205)), (2, (.int .i64 x193))]) ⟨_, _, rfl, rfl, ⟨_, _, rfl, rfl, ⟨_, _, rfl, rfl, rfl⟩⟩⟩ rfl ⟨rfl, rfl, rfl, rfl, rfl, rfl, trivial⟩ Try.underlying23 Try.sizeOf3 Try.zeroValue3 (by decide) (fill3 rfl rfl rfl) (by simp) ?_
              intro o283 w284 v285 h286 s287 k288
              replace h28 := h28.stp s287 (by decide) (by decide)
              replace h30 := h30.stp s287 (by decide) (by decide)
              replace h173 := h173.stp s287 (by decide) (by decide)
              replace h10 := h10.stp s287 (by decide)
              replace hB := hB.stp s287 (by decide)
              exact ⟨_, s287, h286⟩
          rintro o289 w290 a291 ha ⟨hB, h28, h30, h173, h10⟩ ⟨r292, -, -, -, -, -, -, -, -, -, -, -, -, r293, -⟩
          have ha := Fr.cons (d := 78) ha r292
          replace r293 : RdL o289 w290 (a291.tmps.getD 91 undef) (([(x199.length : Int), x205, x193] : List Int) : List Int) := r293
          generalize e295 : a291.tmps.getD 91 undef = v294 at r293
          have ha := Fr.cons (d := 91) ha e295
          refine wl_of ha ?_
          simp only [List.length_cons, List.length_nil, Nat.zero_add, Nat.reduceAdd, List.drop_succ_cons, List.drop_zero]
          obtain ⟨x296, hx296, b183⟩ := bind_some b183
          refine st_op (by decide) trivial ?_
          refine wf_cat h173 r293 hx296 (by decide) hB.keeps.size rfl rfl Try.underlying23 info2_t_int_Apc rfl (by decide) ?_
          intro o297 w298 v299 h300 s301
          replace h28 := h28.stp s301 (by decide) (by decide)
          replace h30 := h30.stp s301 (by decide) (by decide)
          replace r293 := r293.stp s301 (by decide)
          replace h10 := h10.stp s301 (by decide)
          replace hB := hB.stp s301 (by decide)
          refine st_val (ex_assign rfl) (by decide) trivial ?_
          refine wpF_end (r := [(2, (.pointer (some ⟨b9, 0, none⟩))), (6, v27), (7, v19), (13, v299), (15, (.int .i64 x186)), (63, v27), (64, (.int .i64 (y26.length : Int))), (65, (.int .i64 i176))]) ⟨rfl, rfl, rfl, rfl, rfl, rfl, rfl, rfl, trivial⟩ ?_
          refine nx ?_
          refine wpC_seq ?_
          refine wpC_region ?_
          refine st_val (ex_field rfl Try.underlying31 rfl Try.sizeOf29) (by decide) trivial ?_
          refine st_val (ex_load1 rfl Try.isAgg29 (h10.cell rfl)) (by decide) trivial ?_
          refine st_val (ex_move rfl) (by decide) trivial ?_
          obtain ⟨x302, hx302, b183⟩ := bind_some b183
          refine st_op (by decide) trivial ?_
          refine wf_atZ h2 hx302 hB rfl rfl Try.underlying29 Try.sizeOf110 ?_
          intro b303 f304 c305 h306 h307
          obtain ⟨v308, rfl, h309⟩ := h307
          refine st_val (ex_load1 rfl Try.isAgg110 (cell_of_cells h306)) (by decide) trivial ?_
          refine st_val (ex_lenR rfl h309 Try.underlying110) (by decide) trivial ?_
          refine st_val (ex_move rfl) (by decide) trivial ?_
          refine wpF_end (r := [(2, (.pointer (some ⟨b9, 0, none⟩))), (6, v27), (7, v19), (13, v299), (63, v27), (64, (.int .i64 (y26.length : Int))), (65, (.int .i64 i176)), (97, v308), (98, (.int .i64 (x302.length : Int))), (99, (.int .i64 0))]) ⟨rfl, rfl, rfl, rfl, rfl, rfl, rfl, rfl, rfl, rfl, trivial⟩ ?_
          refine nx ?_
          obtain ⟨q316, hq316, b183⟩ := bind_some b183
          refine wpC_cutN (fun a w314 => ∃ (y310 : List Int) (v311 : Value) (o313 : Tg), q316 = .inl y310 ∧ Fr a 116 [(2, (.pointer (some ⟨b9, 0, none⟩))), (6, v27), (7, v19), (13, v311), (63, v27), (64, (.int .i64 (y26.length : Int))), (65, (.int .i64 i176))] ∧ Bs oo o313 w w314 ∧ Ow w.heap.size 3 12 o313 w314 v27 y26 ∧ Mo w.heap.size 13 o313 w314 v19 y29 ∧ Ow w.heap.size 3 15 o313 w314 v311 y310 ∧ Bx w.heap.size 11 o313 w314 b9 31 [v1, v3, v5]) (fun _ _ => False) ?_ ?_ ?_
          · refine wpC_block ?_
            refine wpC_loop (fun (K : Nat) a w314 => ∃ (i315 : Int) (y310 : List Int) (v311 : Value) (o313 : Tg), forI (fI_codeFrom_s4 y29) (x302.drop i315.toNat) i315 y310 = some q316 ∧ (x302.drop i315.toNat).length = K ∧ 0 ≤ i315 ∧ Fr a 116 [(2, (.pointer (some ⟨b9, 0, none⟩))), (6, v27), (7, v19), (13, v311), (63, v27), (64, (.int .i64 (y26.length : Int))), (65, (.int .i64 i176)), (97, v308), (98, (.int .i64 (x302.length : Int))), (99, (.int .i64 i315))] ∧ Bs oo o313 w w314 ∧ Ow w.heap.size 3 12 o313 w314 v27 y26 ∧ Mo w.heap.size 13 o313 w314 v19 y29 ∧ Ow w.heap.size 3 15 o313 w314 v311 y310 ∧ Bx w.heap.size 11 o313 w314 b9 31 [v1, v3, v5]) _ (fun a ha => ⟨0, x296, v299, o297, hq316, rfl, Int.le_refl 0, ha.sub (r := [(2, (.pointer (some ⟨b9, 0, none⟩))), (6, v27), (7, v19), (13, v299), (63, v27), (64, (.int .i64 (y26.length : Int))), (65, (.int .i64 i176)), (97, v308), (98, (.int .i64 (x302.length : Int))), (99, (.int .i64 0))]) ⟨rfl, rfl, rfl, rfl, rfl, rfl, rfl, rfl, rfl, rfl, trivial⟩, hB, h28, h30, h300, h10⟩) ?_
            rintro K320 a w314 ⟨i315, y310, v311, o313, l317, m319, z318, ha, hB, h28, h30, h312, h10⟩
            by_cases t324 : i315 < (x302.length : Int)
            · obtain ⟨x325, q321, hx325, b322, n323⟩ := forI_cons z318 t324 l317
              have hle := h309.len_le
              dsimp only [fI_codeFrom_s4] at b322
              refine wp_of ha ?_
              refine wpC_seq ?_
              refine wpC_region ?_
              refine st_val (ex_lss rfl rfl) (by decide) trivial ?_
              refine wpF_end (r := [(2, (.pointer (some ⟨b9, 0, none⟩))), (6, v27), (7, v19), (13, v311), (63, v27), (64, (.int .i64 (y26.length : Int))), (65, (.int .i64 i176)), (97, v308), (98, (.int .i64 (x302.length : Int))), (99, (.int .i64 i315)), (100, (.bool (decide (i315 < (x302.length : Int)))))]) ⟨rfl, rfl, rfl, rfl, rfl, rfl, rfl, rfl, rfl, rfl, rfl, trivial⟩ ?_
              refine nx ?_
              refine wpC_seq ?_
              refine wpC_true (congrArg (fun b => some (Value.bool b)) (decide_eq_true t324)) ?_
              refine wpC_skip ?_
              refine nx ?_
              refine wpC_seq ?_
              refine wpC_block ?_
              refine wpC_seq ?_
              refine wpC_region ?_
              refine st_op (by decide) trivial ?_
              refine wf_atZ h309 hx325 hB rfl rfl Try.underlying110 Try.sizeOf115 ?_
              intro b326 f327 c328 h329 h330
              cases h330
              refine st_val (ex_loadA rfl Try.isAgg115 Try.sizeOf115 rfl h329) (by decide) trivial ?_
              refine st_op (by decide) trivial ?_
              refine wf_alloc (o := o313) w.heap.size 16 hB.keeps.size (cs := [(.int .i64 0), (.int .i64 0)]) Try.zeroValue115 rfl ?_
              intro o331 w332 b333 h334 s335
              replace h28 := h28.stp s335 (by decide) (by decide)
              replace h30 := h30.stp s335 (by decide) (by decide)
              replace h312 := h312.stp s335 (by decide) (by decide)
              replace h10 := h10.stp s335 (by decide)
              replace hB := hB.stp s335 (by decide)
              refine st_op0 trivial ?_
              refine wf_storeA h334 rfl rfl rfl info1_t_impl_End_Apc (by intro c hc; simp only [List.mem_cons, List.not_mem_nil, or_false] at hc; rcases hc with rfl | rfl <;> first | rfl) ?_
              intro w336 h338 s337
              replace h28 := h28.stp s337 (by decide) (by decide)
              replace h30 := h30.stp s337 (by decide) (by decide)
              replace h312 := h312.stp s337 (by decide) (by decide)
              replace h10 := h10.stp s337 (by decide)
              replace hB := hB.stp s337 (by decide)
              refine wpF_end (r := [(2, (.pointer (some ⟨b9, 0, none⟩))), (6, v27), (7, v19), (13, v311), (18, (.pointer (some ⟨b333, 0, none⟩))), (63, v27), (64, (.int .i64 (y26.length : Int))), (65, (.int .i64 i176)), (97, v308), (98, (.int .i64 (x302.length : Int))), (99, (.int .i64 i315))]) ⟨rfl, rfl, rfl, rfl, rfl, rfl, rfl, rfl, rfl, rfl, rfl, trivial⟩ ?_
              refine nx ?_
              refine wpC_region ?_
              refine st_val (ex_move rfl) (by decide) trivial ?_
              refine st_val (ex_move rfl) (by decide) trivial ?_
              refine st_val (ex_field rfl Try.underlying115 rfl Try.sizeOf3) (by decide) trivial ?_
              refine st_val (ex_load1 rfl Try.isAgg3 (h338.cell rfl)) (by decide) trivial ?_
              obtain ⟨x339, hx339, b322⟩ := bind_some b322
              refine st_val (ex_look h30 hx339 rfl rfl Try.underlying95) (by decide) trivial ?_
              refine st_val (ex_field rfl Try.underlying115 rfl Try.sizeOf3) (by decide) trivial ?_
              refine st_val (ex_load1 rfl Try.isAgg3 (h338.cell rfl)) (by decide) trivial ?_
              refine st_op (by decide) trivial ?_
              refine wf_litR (o := o331) (cs := [(.int .i64 x339.1), (.int .i64 x325.Port)]) (xs := ([x339.1, x325.Port] : List Int)) (vs := [(0, (.int .i64 x339.1)), (1, (.int .i64 x325.Port))]) ⟨_, _, rfl, rfl, ⟨_, _, rfl, rfl, rfl⟩⟩ rfl ⟨rfl, rfl, rfl, rfl, trivial⟩ Try.underlying23 Try.sizeOf3 Try.zeroValue3 (by decide) (fill2 rfl rfl) (by simp) ?_
              intro o340 w341 v342 h343 s344 k345
              replace h28 := h28.stp s344 (by decide) (by decide)
              replace h30 := h30.stp s344 (by decide) (by decide)
              replace h312 := h312.stp s344 (by decide) (by decide)
              replace h10 := h10.stp s344 (by decide)
              replace h338 := h338.stp s344 (by decide)
              replace hB := hB.stp s344 (by decide)
              obtain ⟨x346, hx346, b322⟩ := bind_some b322
              refine st_op (by decide) trivial ?_
              refine wf_cat h312 h343 hx346 (by decide) hB.keeps.size rfl rfl Try.underlying23 info2_t_int_Apc rfl (by decide) ?_
              intro o347 w348 v349 h350 s351
              replace h28 := h28.stp s351 (by decide) (by decide)
              replace h30 := h30.stp s351 (by decide) (by decide)
              replace h343 := h343.stp s351 (by decide)
              replace h10 := h10.stp s351 (by decide)
              replace h338 := h338.stp s351 (by decide)
              replace hB := hB.stp s351 (by decide)
              refine st_val (ex_assign rfl) (by decide) trivial ?_
              refine wpF_end (r := [(2, (.pointer (some ⟨b9, 0, none⟩))), (6, v27), (7, v19), (13, v349), (63, v27), (64, (.int .i64 (y26.length : Int))), (65, (.int .i64 i176)), (97, v308), (98, (.int .i64 (x302.length : Int))), (99, (.int .i64 i315))]) ⟨rfl, rfl, rfl, rfl, rfl, rfl, rfl, rfl, rfl, rfl, trivial⟩ ?_
              refine nb_norm ?_
              refine nx ?_
              refine wpC_region ?_
              refine st_val (ex_add rfl rfl (ck_in (by omega) (by omega))) (by decide) trivial ?_
              refine st_val (ex_move rfl) (by decide) trivial ?_
              refine wpF_end (r := [(2, (.pointer (some ⟨b9, 0, none⟩))), (6, v27), (7, v19), (13, v349), (63, v27), (64, (.int .i64 (y26.length : Int))), (65, (.int .i64 i176)), (97, v308), (98, (.int .i64 (x302.length : Int))), (99, (.int .i64 (i315 + 1)))]) ⟨rfl, rfl, rfl, rfl, rfl, rfl, rfl, rfl, rfl, rfl, trivial⟩ ?_
              refine nt_norm ?_
              have e352 := Option.some.inj b322
              subst e352
              refine to_k (r := [(2, (.pointer (some ⟨b9, 0, none⟩))), (6, v27), (7, v19), (13, v349), (63, v27), (64, (.int .i64 (y26.length : Int))), (65, (.int .i64 i176)), (97, v308), (98, (.int .i64 (x302.length : Int))), (99, (.int .i64 (i315 + 1)))]) ⟨rfl, rfl, rfl, rfl, rfl, rfl, rfl, rfl, rfl, rfl, trivial⟩ ?_
              intro a ha
              exact ⟨_, (by rw [← m319]; simp only [List.length_drop]; omega), i315 + 1, x346, v349, o347, n323, rfl, (by omega), ha, hB, h28, h30, h350, h10⟩
            · have r353 := forI_done t324 l317
              refine wp_of ha ?_
              refine wpC_seq ?_
              refine wpC_region ?_
              refine st_val (ex_lss rfl rfl) (by decide) trivial ?_
              refine wpF_end (r := [(2, (.pointer (some ⟨b9, 0, none⟩))), (6, v27), (7, v19), (13, v311), (63, v27), (64, (.int .i64 (y26.length : Int))), (65, (.int .i64 i176)), (97, v308), (98, (.int .i64 (x302.length : Int))), (99, (.int .i64 i315)), (100, (.bool (decide (i315 < (x302.length : Int)))))]) ⟨rfl, rfl, rfl, rfl, rfl, rfl, rfl, rfl, rfl, rfl, rfl, trivial⟩ ?_
              refine nx ?_
              refine wpC_seq ?_
              refine wpC_false (congrArg (fun b => some (Value.bool b)) (decide_eq_false t324)) ?_
              refine wpC_exit ?_
              refine nt_exit ?_
              refine nt_exit ?_
              refine nb_hit ?_
              refine np_norm ?_
              refine to_k (r := [(2, (.pointer (some ⟨b9, 0, none⟩))), (6, v27), (7, v19), (13, v311), (63, v27), (64, (.int .i64 (y26.length : Int))), (65, (.int .i64 i176))]) ⟨rfl, rfl, rfl, rfl, rfl, rfl, rfl, trivial⟩ ?_
              intro a ha
              exact ⟨y310, v311, o313, r353, ha, hB, h28, h30, h312, h10⟩
          · rintro a w314 ⟨y310, v311, o313, rfl, ha, hB, h28, h30, h312, h10⟩
            dsimp only at b183
            refine ap_k ha ?_
            refine nb_norm ?_
            refine nx ?_
            refine wpC_region ?_
            refine st_val (ex_add rfl rfl (ck_in (by omega) (by omega))) (by decide) trivial ?_
            refine st_val (ex_move rfl) (by decide) trivial ?_
            refine wpF_end (r := [(2, (.pointer (some ⟨b9, 0, none⟩))), (6, v27), (7, v19), (13, v311), (63, v27), (64, (.int .i64 (y26.length : Int))), (65, (.int .i64 (i176 + 1)))]) ⟨rfl, rfl, rfl, rfl, rfl, rfl, rfl, trivial⟩ ?_
            refine nt_norm ?_
            have e354 := Option.some.inj b183
            subst e354
            refine to_k (r := [(2, (.pointer (some ⟨b9, 0, none⟩))), (6, v27), (7, v19), (13, v311), (63, v27), (64, (.int .i64 (y26.length : Int))), (65, (.int .i64 (i176 + 1)))]) ⟨rfl, rfl, rfl, rfl, rfl, rfl, rfl, trivial⟩ ?_
            intro a ha
            exact ⟨_, (by rw [← m180]; simp only [List.length_drop]; omega), i176 + 1, y310, v311, o313, n184, rfl, (by omega), ha, hB, h28, h30, h312, h10⟩
          · exact fun _ _ h => h.elim
        · rw [if_neg (by rw [t192]; decide)] at b183
          refine wpC_skip ?_
          refine nx ?_
          refine wpC_seq ?_
          obtain ⟨x355, hx355, b183⟩ := bind_some b183
          obtain ⟨x361, hx361, b183⟩ := bind_some b183
          refine wpC_drawn (o := o174) [(2, (.pointer (some ⟨b9, 0, none⟩))), (6, v27), (7, v19), (13, v172), (15, (.int .i64 x186)), (16, (.int .i64 0)), (63, v27), (64, (.int .i64 (y26.length : Int))), (65, (.int .i64 i176))] [2, 6, 7, 13, 15, 16, 63, 64, 65] [78, 79, 80, 81, 82, 83, 84, 85, 86, 87, 88, 89, 90, 91] [[], [], [1], [], [2, 3], [4], [5], [], [7], [], [8, 9], [10], [], [6, 11, 12]] [none, none, none, none, none, none, none, none, none, none, none, none, none, none] [999, 999, 999, 999, 999, 999, 999, 999, 999, 999, 999, 999, 999, 999] [0, 0, 0, 0, 0, 0, 0, 0, 0, 0, 0, 0, 0, 0] [999] [fun v _ _ => v = v172, fun v _ _ => v = (.pointer (some ⟨b9, 0 + 0, none⟩)), fun v _ _ => v = v1, fun v _ _ => v = (.int .i64 x186), fun v o w9 => ∃ vl, v = adr vl (x186.toNat * Rp.sz (List T_End)) ∧ RdL zt w vl (p0.Ends : List (List T_End)), fun v o w9 => RdL zt w v x355, fun v _ _ => v = (.int .i64 (x355.length : Int)), fun v _ _ => v = (.pointer (some ⟨b9, 0 + 2, none⟩)), fun v _ _ => v = v5, fun v _ _ => v = (.int .i64 x186), fun v o w9 => ∃ vl, v = adr vl (x186.toNat * Rp.sz Int) ∧ RdL zt w vl (p0.Inputs : List Int), fun v _ _ => v = (.int .i64 x361), fun v _ _ => v = (.int .i64 0), fun v o w9 => RdL o w9 v (([(x355.length : Int), x361, 0] : List Int) : List Int)] (fun o8 w8 => Bs oo o8 w w8 ∧ Ow w.heap.size 3 12 o8 w8 v27 y26 ∧ Mo w.heap.size 13 o8 w8 v19 y29 ∧ Ow w.heap.size 3 15 o8 w8 v172 y171 ∧ Bx w.heap.size 11 o8 w8 b9 31 [v1, v3, v5]) follows_mixed (by kernel_rfl) rfl ⟨rfl, rfl, rfl, rfl, rfl, rfl, rfl, rfl, rfl, trivial⟩ ⟨hB, h28, h30, h173, h10⟩ ?_ ⟨st_eq _, st_eq _, st_eq _, st_eq _, fun _ _ _ _ _ _ h0 hb ⟨vl, e, h⟩ hs => ⟨vl, e, h⟩, fun _ _ _ _ _ _ h0 hb h hs => h, st_eq _, st_eq _, st_eq _, st_eq _, fun _ _ _ _ _ _ h0 hb ⟨vl, e, h⟩ hs => ⟨vl, e, h⟩, st_eq _, st_eq _, fun _ _ _ _ _ _ h0 hb h hs => h.stp hs h0.1, trivial⟩ ?_ ?_
          · rintro t9 o1 w1 o2 w2 ht9 ⟨hB, h28, h30, h173, h10⟩ hs9
            have ht9 : t9 = 999 := by simpa using ht9
            subst ht9
            all_goals exact ⟨hB.stp hs9 (by decide), h28.stp hs9 (by decide) (by decide), h30.stp hs9 (by decide) (by decide), h173.stp hs9 (by decide) (by decide), h10.stp hs9 (by decide)⟩
          · refine ⟨?_, ?_, ?_, ?_, ?_, ?_, ?_, ?_, ?_, ?_, ?_, ?_, ?_, ?_, trivial⟩
            · rintro o370 w371 a372 ha ⟨hB, h28, h30, h173, h10⟩ -
              refine opS_of ha (trivial) ?_
              refine op1_val (ex_move rfl) ?_
              exact ⟨_, Stp.refl _ _ _, rfl⟩
            · rintro o373 w374 a375 ha ⟨hB, h28, h30, h173, h10⟩ -
              refine opS_of ha (trivial) ?_
              refine op1_val (ex_field rfl Try.underlying31 rfl Try.sizeOf29) ?_
              exact ⟨_, Stp.refl _ _ _, rfl⟩
            · rintro o376 w377 a378 ha ⟨hB, h28, h30, h173, h10⟩ ⟨r379, -⟩
              have ha := Fr.cons (d := 79) ha r379
              refine opS_of ha (trivial) ?_
              refine op1_val (ex_load1 rfl Try.isAgg29 (h10.cell rfl)) ?_
              exact ⟨_, Stp.refl _ _ _, rfl⟩
            · rintro o380 w381 a382 ha ⟨hB, h28, h30, h173, h10⟩ -
              refine opS_of ha (trivial) ?_
              refine op1_val (ex_move rfl) ?_
              exact ⟨_, Stp.refl _ _ _, rfl⟩
            · rintro o383 w384 a385 ha ⟨hB, h28, h30, h173, h10⟩ ⟨r386, r387, -⟩
              have ha := Fr.cons (d := 80) ha r386
              have ha := Fr.cons (d := 81) ha r387
              refine opS_of ha (trivial) ?_
              refine wd_indexR h2 hx355 rfl rfl Try.underlying29 Try.sizeOf110 ?_
              exact ⟨_, Stp.refl _ _ _, ⟨_, rfl, h2⟩⟩
            · rintro o388 w389 a390 ha ⟨hB, h28, h30, h173, h10⟩ ⟨r391, -⟩
              obtain ⟨v392, e393, h394⟩ := r391
              have ha := Fr.cons (d := 82) ha e393
              refine opS_of ha (trivial) ?_
              refine wd_load1Z h394 hx355 hB rfl rfl Try.isAgg110 ?_
              intro c395 h396
              obtain ⟨v397, e399, h398⟩ := h396
              cases e399
              exact ⟨_, Stp.refl _ _ _, h398⟩
            · rintro o400 w401 a402 ha ⟨hB, h28, h30, h173, h10⟩ ⟨r403, -⟩
              replace r403 : RdL zt w (a402.tmps.getD 83 undef) x355 := r403
              generalize e405 : a402.tmps.getD 83 undef = v404 at r403
              have ha := Fr.cons (d := 83) ha e405
              refine opS_of ha (trivial) ?_
              refine op1_val (ex_lenR rfl r403 Try.underlying110) ?_
              exact ⟨_, Stp.refl _ _ _, rfl⟩
            · rintro o406 w407 a408 ha ⟨hB, h28, h30, h173, h10⟩ -
              refine opS_of ha (trivial) ?_
              refine op1_val (ex_field rfl Try.underlying31 rfl Try.sizeOf23) ?_
              exact ⟨_, Stp.refl _ _ _, rfl⟩
            · rintro o409 w410 a411 ha ⟨hB, h28, h30, h173, h10⟩ ⟨r412, -⟩
              have ha := Fr.cons (d := 85) ha r412
              refine opS_of ha (trivial) ?_
              refine op1_val (ex_load1 rfl Try.isAgg23 (h10.cell rfl)) ?_
              exact ⟨_, Stp.refl _ _ _, rfl⟩
            · rintro o413 w414 a415 ha ⟨hB, h28, h30, h173, h10⟩ -
              refine opS_of ha (trivial) ?_
              refine op1_val (ex_move rfl) ?_
              exact ⟨_, Stp.refl _ _ _, rfl⟩
            · rintro o416 w417 a418 ha ⟨hB, h28, h30, h173, h10⟩ ⟨r419, r420, -⟩
              have ha := Fr.cons (d := 86) ha r419
              have ha := Fr.cons (d := 87) ha r420
              refine opS_of ha (trivial) ?_
              refine wd_indexR h6 hx361 rfl rfl Try.underlying23 Try.sizeOf3 ?_
              exact ⟨_, Stp.refl _ _ _, ⟨_, rfl, h6⟩⟩
            · rintro o421 w422 a423 ha ⟨hB, h28, h30, h173, h10⟩ ⟨r424, -⟩
              obtain ⟨v425, e426, h427⟩ := r424
              have ha := Fr.cons (d := 88) ha e426
              refine opS_of ha (trivial) ?_
              refine wd_load1Z h427 hx361 hB rfl rfl Try.isAgg3 ?_
              intro c428 h429
              cases h429
              exact ⟨_, Stp.refl _ _ _, rfl⟩
            · rintro o430 w431 a432 ha ⟨hB, h28, h30, h173, h10⟩ -
              refine opS_of ha (trivial) ?_
              refine op1_val (ex_move rfl) ?_
              exact ⟨_, Stp.refl _ _ _, rfl⟩
            · rintro o433 w434 a435 ha ⟨hB, h28, h30, h173, h10⟩ ⟨r436, r437, r438, -⟩
              have ha := Fr.cons (d := 84) ha r436
              have ha := Fr.cons (d := 89) ha r437
              have ha := Fr.cons (d := 90) ha r438
              refine opS_of ha (trivial) ?_
              refine wf_litR (o := o433) (cs := [(.int .i64 (x355.length : Int)), (.int .i64 x361), (.int .i64 0)]) (xs := ([(x355.length : Int), x361, 0] : List Int)) (vs := [(0, (.int .i64 (x355.length : Int))), (1, (.int .i64 x361)), (2, (.int .i64 0))]) ⟨_, _, rfl, rfl, ⟨_, _, rfl, rfl, ⟨_, _, rfl, rfl, rfl⟩⟩⟩ rfl ⟨rfl, rfl, rfl, rfl, rfl, rfl, trivial⟩ Try.underlying23 Try.sizeOf3 Try.zeroValue3 (by decide) (fill3 rfl rfl rfl) (by simp) ?_
              intro o439 w440 v441 h442 s443 k444
              replace h28 := h28.stp s443 (by decide) (by decide)
              replace h30 := h30.stp s443 (by decide) (by decide)
              replace h173 := h173.stp s443 (by decide) (by decide)
              replace h10 := h10.stp s443 (by decide)
              replace hB := hB.stp s443 (by decide)
              exact ⟨_, s443, h442⟩
          rintro o445 w446 a447 ha ⟨hB, h28, h30, h173, h10⟩ ⟨r448, -, -, -, -, -, -, -, -, -, -, -, -, r449, -⟩
          have ha := Fr.cons (d := 78) ha r448
          replace r449 : RdL o445 w446 (a447.tmps.getD 91 undef) (([(x355.length : Int), x361, 0] : List Int) : List Int) := r449
          generalize e451 : a447.tmps.getD 91 undef = v450 at r449
          have ha := Fr.cons (d := 91) ha e451
          refine wl_of ha ?_
          simp only [List.length_cons, List.length_nil, Nat.zero_add, Nat.reduceAdd, List.drop_succ_cons, List.drop_zero]
          obtain ⟨x452, hx452, b183⟩ := bind_some b183
          refine st_op (by decide) trivial ?_
          refine wf_cat h173 r449 hx452 (by decide) hB.keeps.size rfl rfl Try.underlying23 info2_t_int_Apc rfl (by decide) ?_
          intro o453 w454 v455 h456 s457
          replace h28 := h28.stp s457 (by decide) (by decide)
          replace h30 := h30.stp s457 (by decide) (by decide)
          replace r449 := r449.stp s457 (by decide)
          replace h10 := h10.stp s457 (by decide)
          replace hB := hB.stp s457 (by decide)
          refine st_val (ex_assign rfl) (by decide) trivial ?_
          refine wpF_end (r := [(2, (.pointer (some ⟨b9, 0, none⟩))), (6, v27), (7, v19), (13, v455), (15, (.int .i64 x186)), (63, v27), (64, (.int .i64 (y26.length : Int))), (65, (.int .i64 i176))]) ⟨rfl, rfl, rfl, rfl, rfl, rfl, rfl, rfl, trivial⟩ ?_
          refine nx ?_
          refine wpC_seq ?_
          refine wpC_region ?_
          refine st_val (ex_field rfl Try.underlying31 rfl Try.sizeOf29) (by decide) trivial ?_
          refine st_val (ex_load1 rfl Try.isAgg29 (h10.cell rfl)) (by decide) trivial ?_
          refine st_val (ex_move rfl) (by decide) trivial ?_
          obtain ⟨x458, hx458, b183⟩ := bind_some b183
          refine st_op (by decide) trivial ?_
          refine wf_atZ h2 hx458 hB rfl rfl Try.underlying29 Try.sizeOf110 ?_
          intro b459 f460 c461 h462 h463
          obtain ⟨v464, rfl, h465⟩ := h463
          refine st_val (ex_load1 rfl Try.isAgg110 (cell_of_cells h462)) (by decide) trivial ?_
          refine st_val (ex_lenR rfl h465 Try.underlying110) (by decide) trivial ?_
          refine st_val (ex_move rfl) (by decide) trivial ?_
          refine wpF_end (r := [(2, (.pointer (some ⟨b9, 0, none⟩))), (6, v27), (7, v19), (13, v455), (63, v27), (64, (.int .i64 (y26.length : Int))), (65, (.int .i64 i176)), (97, v464), (98, (.int .i64 (x458.length : Int))), (99, (.int .i64 0))]) ⟨rfl, rfl, rfl, rfl, rfl, rfl, rfl, rfl, rfl, rfl, trivial⟩ ?_
          refine nx ?_
          obtain ⟨q472, hq472, b183⟩ := bind_some b183
          refine wpC_cutN (fun a w470 => ∃ (y466 : List Int) (v467 : Value) (o469 : Tg), q472 = .inl y466 ∧ Fr a 116 [(2, (.pointer (some ⟨b9, 0, none⟩))), (6, v27), (7, v19), (13, v467), (63, v27), (64, (.int .i64 (y26.length : Int))), (65, (.int .i64 i176))] ∧ Bs oo o469 w w470 ∧ Ow w.heap.size 3 12 o469 w470 v27 y26 ∧ Mo w.heap.size 13 o469 w470 v19 y29 ∧ Ow w.heap.size 3 15 o469 w470 v467 y466 ∧ Bx w.heap.size 11 o469 w470 b9 31 [v1, v3, v5]) (fun _ _ => False) ?_ ?_ ?_
          · refine wpC_block ?_
            refine wpC_loop (fun (K : Nat) a w470 => ∃ (i471 : Int) (y466 : List Int) (v467 : Value) (o469 : Tg), forI (fI_codeFrom_s5 y29) (x458.drop i471.toNat) i471 y466 = some q472 ∧ (x458.drop i471.toNat).length = K ∧ 0 ≤ i471 ∧ Fr a 116 [(2, (.pointer (some ⟨b9, 0, none⟩))), (6, v27), (7, v19), (13, v467), (63, v27), (64, (.int .i64 (y26.length : Int))), (65, (.int .i64 i176)), (97, v464), (98, (.int .i64 (x458.length : Int))), (99, (.int .i64 i471))] ∧ Bs oo o469 w w470 ∧ Ow w.heap.size 3 12 o469 w470 v27 y26 ∧ Mo w.heap.size 13 o469 w470 v19 y29 ∧ Ow w.heap.size 3 15 o469 w470 v467 y466 ∧ Bx w.heap.size 11 o469 w470 b9 31 [v1, v3, v5]) _ (fun a ha => ⟨0, x452, v455, o453, hq472, rfl, Int.le_refl 0, ha.sub (r := [(2, (.pointer (some ⟨b9, 0, none⟩))), (6, v27), (7, v19), (13, v455), (63, v27), (64, (.int .i64 (y26.length : Int))), (65, (.int .i64 i176)), (97, v464), (98, (.int .i64 (x458.length : Int))), (99, (.int .i64 0))]) ⟨rfl, rfl, rfl, rfl, rfl, rfl, rfl, rfl, rfl, rfl, trivial⟩, hB, h28, h30, h456, h10⟩) ?_
            rintro K476 a w470 ⟨i471, y466, v467, o469, l473, m475, z474, ha, hB, h28, h30, h468, h10⟩
            by_cases t480 : i471 < (x458.length : Int)
            · obtain ⟨x481, q477, hx481, b478, n479⟩ := forI_cons z474 t480 l473
              have hle := h465.len_le
              dsimp only [fI_codeFrom_s5] at b478
              refine wp_of ha ?_
              refine wpC_seq ?_
              refine wpC_region ?_
              refine st_val (ex_lss rfl rfl) (by decide) trivial ?_
              refine wpF_end (r := [(2, (.pointer (some ⟨b9, 0, none⟩))), (6, v27), (7, v19), (13, v467), (63, v27), (64, (.int .i64 (y26.length : Int))), (65, (.int .i64 i176)), (97, v464), (98, (.int .i64 (x458.length : Int))), (99, (.int .i64 i471)), (100, (.bool (decide (i471 < (x458.length : Int)))))]) ⟨rfl, rfl, rfl, rfl, rfl, rfl, rfl, rfl, rfl, rfl, rfl, trivial⟩ ?_
              refine nx ?_
              refine wpC_seq ?_
              refine wpC_true (congrArg (fun b => some (Value.bool b)) (decide_eq_true t480)) ?_
              refine wpC_skip ?_
              refine nx ?_
              refine wpC_seq ?_
              refine wpC_block ?_
              refine wpC_seq ?_
              refine wpC_region ?_
              refine st_op (by decide) trivial ?_
              refine wf_atZ h465 hx481 hB rfl rfl Try.underlying110 Try.sizeOf115 ?_
              intro b482 f483 c484 h485 h486
              cases h486
              refine st_val (ex_loadA rfl Try.isAgg115 Try.sizeOf115 rfl h485) (by decide) trivial ?_
              refine st_op (by decide) trivial ?_
              refine wf_alloc (o := o469) w.heap.size 17 hB.keeps.size (cs := [(.int .i64 0), (.int .i64 0)]) Try.zeroValue115 rfl ?_
              intro o487 w488 b489 h490 s491
              replace h28 := h28.stp s491 (by decide) (by decide)
              replace h30 := h30.stp s491 (by decide) (by decide)
              replace h468 := h468.stp s491 (by decide) (by decide)
              replace h10 := h10.stp s491 (by decide)
              replace hB := hB.stp s491 (by decide)
              refine st_op0 trivial ?_
              refine wf_storeA h490 rfl rfl rfl info1_t_impl_End_Apc (by intro c hc; simp only [List.mem_cons, List.not_mem_nil, or_false] at hc; rcases hc with rfl | rfl <;> first | rfl) ?_
              intro w492 h494 s493
              replace h28 := h28.stp s493 (by decide) (by decide)
              replace h30 := h30.stp s493 (by decide) (by decide)
              replace h468 := h468.stp s493 (by decide) (by decide)
              replace h10 := h10.stp s493 (by decide)
              replace hB := hB.stp s493 (by decide)
              refine wpF_end (r := [(2, (.pointer (some ⟨b9, 0, none⟩))), (6, v27), (7, v19), (13, v467), (18, (.pointer (some ⟨b489, 0, none⟩))), (63, v27), (64, (.int .i64 (y26.length : Int))), (65, (.int .i64 i176)), (97, v464), (98, (.int .i64 (x458.length : Int))), (99, (.int .i64 i471))]) ⟨rfl, rfl, rfl, rfl, rfl, rfl, rfl, rfl, rfl, rfl, rfl, trivial⟩ ?_
              refine nx ?_
              refine wpC_region ?_
              refine st_val (ex_move rfl) (by decide) trivial ?_
              refine st_val (ex_move rfl) (by decide) trivial ?_
              refine st_val (ex_field rfl Try.underlying115 rfl Try.sizeOf3) (by decide) trivial ?_
              refine st_val (ex_load1 rfl Try.isAgg3 (h494.cell rfl)) (by decide) trivial ?_
              obtain ⟨x495, hx495, b478⟩ := bind_some b478
              refine st_val (ex_look h30 hx495 rfl rfl Try.underlying95) (by decide) trivial ?_
              refine st_val (ex_field rfl Try.underlying115 rfl Try.sizeOf3) (by decide) trivial ?_
              refine st_val (ex_load1 rfl Try.isAgg3 (h494.cell rfl)) (by decide) trivial ?_
              refine st_op (by decide) trivial ?_
              refine wf_litR (o := o487) (cs := [(.int .i64 x495.1), (.int .i64 x481.Port)]) (xs := ([x495.1, x481.Port] : List Int)) (vs := [(0, (.int .i64 x495.1)), (1, (.int .i64 x481.Port))]) ⟨_, _, rfl, rfl, ⟨_, _, rfl, rfl, rfl⟩⟩ rfl ⟨rfl, rfl, rfl, rfl, trivial⟩ Try.underlying23 Try.sizeOf3 Try.zeroValue3 (by decide) (fill2 rfl rfl) (by simp) ?_
              intro o496 w497 v498 h499 s500 k501
              replace h28 := h28.stp s500 (by decide) (by decide)
              replace h30 := h30.stp s500 (by decide) (by decide)
              replace h468 := h468.stp s500 (by decide) (by decide)
              replace h10 := h10.stp s500 (by decide)
              replace h494 := h494.stp s500 (by decide)
              replace hB := hB.stp s500 (by decide)
              obtain ⟨x502, hx502, b478⟩ := bind_some b478
              refine st_op (by decide) trivial ?_
              refine wf_cat h468 h499 hx502 (by decide) hB.keeps.size rfl rfl Try.underlying23 info2_t_int_Apc rfl (by decide) ?_
              intro o503 w504 v505 h506 s507
              replace h28 := h28.stp s507 (by decide) (by decide)
              replace h30 := h30.stp s507 (by decide) (by decide)
              replace h499 := h499.stp s507 (by decide)
              replace h10 := h10.stp s507 (by decide)
              replace h494 := h494.stp s507 (by decide)
              replace hB := hB.stp s507 (by decide)
              refine st_val (ex_assign rfl) (by decide) trivial ?_
              refine wpF_end (r := [(2, (.pointer (some ⟨b9, 0, none⟩))), (6, v27), (7, v19), (13, v505), (63, v27), (64, (.int .i64 (y26.length : Int))), (65, (.int .i64 i176)), (97, v464), (98, (.int .i64 (x458.length : Int))), (99, (.int .i64 i471))]) ⟨rfl, rfl, rfl, rfl, rfl, rfl, rfl, rfl, rfl, rfl, trivial⟩ ?_
              refine nb_norm ?_
              refine nx ?_
              refine wpC_region ?_
              refine st_val (ex_add rfl rfl (ck_in (by omega) (by omega))) (by decide) trivial ?_
              refine st_val (ex_move rfl) (by decide) trivial ?_
              refine wpF_end (r := [(2, (.pointer (some ⟨b9, 0, none⟩))), (6, v27), (7, v19), (13, v505), (63, v27), (64, (.int .i64 (y26.length : Int))), (65, (.int .i64 i176)), (97, v464), (98, (.int .i64 (x458.length : Int))), (99, (.int .i64 (i471 + 1)))]) ⟨rfl, rfl, rfl, rfl, rfl, rfl, rfl, rfl, rfl, rfl, trivial⟩ ?_
              refine nt_norm ?_
              have e508 := Option.some.inj b478
              subst e508
              refine to_k (r := [(2, (.pointer (some ⟨b9, 0, none⟩))), (6, v27), (7, v19), (13, v505), (63, v27), (64, (.int .i64 (y26.length : Int))), (65, (.int .i64 i176)), (97, v464), (98, (.int .i64 (x458.length : Int))), (99, (.int .i64 (i471 + 1)))]) ⟨rfl, rfl, rfl, rfl, rfl, rfl, rfl, rfl, rfl, rfl, trivial⟩ ?_
              intro a ha
              exact ⟨_, (by rw [← m475]; simp only [List.length_drop]; omega), i471 + 1, x502, v505, o503, n479, rfl, (by omega), ha, hB, h28, h30, h506, h10⟩
            · have r509 := forI_done t480 l473
              refine wp_of ha ?_
              refine wpC_seq ?_
              refine wpC_region ?_
              refine st_val (ex_lss rfl rfl) (by decide) trivial ?_
              refine wpF_end (r := [(2, (.pointer (some ⟨b9, 0, none⟩))), (6, v27), (7, v19), (13, v467), (63, v27), (64, (.int .i64 (y26.length : Int))), (65, (.int .i64 i176)), (97, v464), (98, (.int .i64 (x458.length : Int))), (99, (.int .i64 i471)), (100, (.bool (decide (i471 < (x458.length : Int)))))]) ⟨rfl, rfl, rfl, rfl, rfl, rfl, rfl, rfl, rfl, rfl, rfl, trivial⟩ ?_
              refine nx ?_
              refine wpC_seq ?_
              refine wpC_false (congrArg (fun b => some (Value.bool b)) (decide_eq_false t480)) ?_
              refine wpC_exit ?_
              refine nt_exit ?_
              refine nt_exit ?_
              refine nb_hit ?_
              refine np_norm ?_
              refine to_k (r := [(2, (.pointer (some ⟨b9, 0, none⟩))), (6, v27), (7, v19), (13, v467), (63, v27), (64, (.int .i64 (y26.length : Int))), (65, (.int .i64 i176))]) ⟨rfl, rfl, rfl, rfl, rfl, rfl, rfl, trivial⟩ ?_
              intro a ha
              exact ⟨y466, v467, o469, r509, ha, hB, h28, h30, h468, h10⟩
          · rintro a w470 ⟨y466, v467, o469, rfl, ha, hB, h28, h30, h468, h10⟩
            dsimp only at b183
            refine ap_k ha ?_
            refine nb_norm ?_
            refine nx ?_
            refine wpC_region ?_
            refine st_val (ex_add rfl rfl (ck_in (by omega) (by omega))) (by decide) trivial ?_
            refine st_val (ex_move rfl) (by decide) trivial ?_
            refine wpF_end (r := [(2, (.pointer (some ⟨b9, 0, none⟩))), (6, v27), (7, v19), (13, v467), (63, v27), (64, (.int .i64 (y26.length : Int))), (65, (.int .i64 (i176 + 1)))]) ⟨rfl, rfl, rfl, rfl, rfl, rfl, rfl, trivial⟩ ?_
            refine nt_norm ?_
            have e510 := Option.some.inj b183
            subst e510
            refine to_k (r := [(2, (.pointer (some ⟨b9, 0, none⟩))), (6, v27), (7, v19), (13, v467), (63, v27), (64, (.int .i64 (y26.length : Int))), (65, (.int .i64 (i176 + 1)))]) ⟨rfl, rfl, rfl, rfl, rfl, rfl, rfl, trivial⟩ ?_
            intro a ha
            exact ⟨_, (by rw [← m180]; simp only [List.length_drop]; omega), i176 + 1, y466, v467, o469, n184, rfl, (by omega), ha, hB, h28, h30, h468, h10⟩
          · exact fun _ _ h => h.elim
      · have r511 := forI_done t185 l178
        refine wp_of ha ?_
        refine wpC_seq ?_
        refine wpC_region ?_
        refine st_val (ex_lss rfl rfl) (by decide) trivial ?_
        refine wpF_end (r := [(2, (.pointer (some ⟨b9, 0, none⟩))), (6, v27), (7, v19), (13, v172), (63, v27), (64, (.int .i64 (y26.length : Int))), (65, (.int .i64 i176)), (66, (.bool (decide (i176 < (y26.length : Int)))))]) ⟨rfl, rfl, rfl, rfl, rfl, rfl, rfl, rfl, trivial⟩ ?_
        refine nx ?_
        refine wpC_seq ?_
        refine wpC_false (congrArg (fun b => some (Value.bool b)) (decide_eq_false t185)) ?_
        refine wpC_exit ?_
        refine nt_exit ?_
        refine nt_exit ?_
        refine nb_hit ?_
        refine np_norm ?_
        refine to_k (r := [(6, v27), (13, v172)]) ⟨rfl, rfl, trivial⟩ ?_
        intro a ha
        exact ⟨y171, v172, o174, r511, ha, hB, h28, h173⟩
    · rintro a w175 ⟨y171, v172, o174, rfl, ha, hB, h28, h173⟩
      dsimp only at hF
      refine ap_k ha ?_
      refine nx ?_
      refine wpC_seq ?_
      refine wpC_region ?_
      refine st_val (ex_move rfl) (by decide) trivial ?_
      refine st_val (ex_move rfl) (by decide) trivial ?_
      refine st_val (ex_assign rfl) (by decide) trivial ?_
      refine st_val (ex_assign rfl) (by decide) trivial ?_
      refine wpF_end (r := [(4, v172), (5, v27)]) ⟨rfl, rfl, trivial⟩ ?_
      refine nx ?_
      refine wpC_ret ?_
      have h512 := h173.frzF
      replace h173 := h173.frz
      replace h28 := h28.frz_ne (j := 15) (by decide)
      replace hB := hB.frz 15 (by decide)
      generalize (frz 15 o174) = o513 at *
      have e514 := Option.some.inj hF
      subst e514
      refine ret_post (P := Try.prog) (vs := [v172, v27]) Try.results67 ⟨rfl, rfl, trivial⟩ ?_
      exact ⟨_, _, rt oo o513 w.heap.size 12 t, rfl, h512.rt hB 12 t (by decide), h28.rt hB (by decide) t, hB.keeps, rt_old _ _ _ _ _⟩
    · exact fun _ _ h => h.elim
  · exact fun _ _ h => h.elim
open Go.RowKit
theorem info2_t_int_Apa : Inf Try.prog 3 (.int .i64 0) 1 8 := by unfold Inf; kernel_rfl

theorem info2_t_spec_isPart_Apa : Inf Try.prog 102 (.agg #[(.slice none 0 0), (.slice none 0 0), (.int .i64 0)]) 3 56 := by unfold Inf; kernel_rfl

theorem info1_t_spec_isPart_Apa : (Try.prog.info? 102).map (·.size) = some 3 := by kernel_rfl

def fS_isBefore_s1 (p0 : List Int) (p1 : List Int) : Int → Option (Lp Int Int Bool) := fun (s : Int) =>
  (
    if decide (s < (p0.length : Int)) then
      some (decide (s < (p1.length : Int)))
    else
      some false) >>= fun q14 =>
  if q14 then
    (ix p0 s) >>= fun x22 =>
    (ix p1 s) >>= fun x25 =>
    if x22 != x25 then
      (ix p0 s) >>= fun x74 =>
      (ix p1 s) >>= fun x77 =>
      some (.ret (decide (x74 < x77)))
    else
      (ck (s + 1)) >>= fun x126 =>
      some (.go x126)
  else
    some (.out s)
def fS_isBefore (fuel : Nat) (p0 : List Int) (p1 : List Int) : Option Bool :=
  (loopF (fS_isBefore_s1 p0 p1) fuel 0) >>= fun q4 =>
  match q4 with
  | .inl y1 =>
    some (decide ((p0.length : Int) < (p1.length : Int)))
  | .inr r' => some r'

def pS_isBefore (w : World) (r : Bool) : Ending → World → Prop := fun e w' => e = .returned (.bool r) ∧ Keeps w w'
set_option maxRecDepth 100000 in
set_option maxHeartbeats 2000000 in
theorem cS_isBefore (fuel : Nat) (w : World) (u0 : Value) (p0 : List Int) (g0 : RdL zt w u0 p0) (u1 : Value) (p1 : List Int) (g1 : RdL zt w u1 p1) (r : Bool) (hF : fS_isBefore fuel p0 p1 = some r) :
    Calls Try.prog 121 #[u0, u1] w (pS_isBefore w r) := by
  unfold fS_isBefore at hF
  have hB : Bs (fun _ => 1) (col (fun _ => 1)) w w := Bs.start _ _
  refine calls_start (n := 41) (vs := [u0, u1]) Try.func121 rfl rfl ?_
  refine wpC_seq ?_
  refine wpC_region ?_
  refine st_val (ex_assign rfl) (by decide) trivial ?_
  refine wpF_end (r := [(0, u0), (1, u1)]) ⟨rfl, rfl, trivial⟩ ?_
  refine nx ?_
  refine wpC_seq ?_
  refine wpC_seq ?_
  refine wpC_region ?_
  refine st_val (ex_assign rfl) (by decide) trivial ?_
  refine wpF_end (r := [(0, u0), (1, u1), (5, (.int .i64 0))]) ⟨rfl, rfl, rfl, trivial⟩ ?_
  refine nx ?_
  obtain ⟨q4, hq4, hF⟩ := bind_some hF
  refine wpC_cutN (fun a w3 => ∃ (y1 : Int) (o2 : Tg), q4 = .inl y1 ∧ Fr a 41 [(0, u0), (1, u1)] ∧ Bs (fun _ => 1) o2 w w3) (fun a w' => ∃ r', q4 = .inr r' ∧ bodyPost Try.prog Try.f121 (pS_isBefore w r') .ret a w') ?_ ?_ ?_
  · refine wpC_block ?_
    refine wpC_loop (fun (K : Nat) a w3 => ∃ (y1 : Int) (o2 : Tg), loopF (fS_isBefore_s1 p0 p1) K y1 = some q4 ∧ Fr a 41 [(0, u0), (1, u1), (5, (.int .i64 y1))] ∧ Bs (fun _ => 1) o2 w w3) fuel (fun a ha => ⟨0, (col (fun _ => 1)), hq4, ha.sub (r := [(0, u0), (1, u1), (5, (.int .i64 0))]) ⟨rfl, rfl, rfl, trivial⟩, hB⟩) ?_
    rintro K8 a w3 ⟨y1, o2, l5, ha, hB⟩
    obtain ⟨K12, q9, e13, b10, n11⟩ := loopF_cons l5
    dsimp only [fS_isBefore_s1] at b10
    refine wp_of ha ?_
    refine wpC_seq ?_
    refine wpC_seq ?_
    refine wpC_region ?_
    refine st_val (ex_move rfl) (by decide) trivial ?_
    refine st_val (ex_move rfl) (by decide) trivial ?_
    refine st_val (ex_lenR rfl g0 Try.underlying23) (by decide) trivial ?_
    refine st_val (ex_lss rfl rfl) (by decide) trivial ?_
    refine st_val (ex_move rfl) (by decide) trivial ?_
    obtain ⟨q14, hq14, b10⟩ := bind_some b10
    refine wpF_cutAt 5 (fun a16 w15 => Fr a16 41 [(0, u0), (1, u1), (5, (.int .i64 y1)), (15, (.bool q14))] ∧ Keeps w3 w15) ?_ ?_
    all_goals simp only [List.take_succ_cons, List.take_zero, List.drop_succ_cons, List.drop_zero]
    · have kp : Keeps w3 w3 := Keeps.refl _
      rcases Bool.eq_false_or_eq_true (decide (y1 < (p0.length : Int))) with t17 | t17
      · rw [if_pos t17] at hq14
        refine st_val (ex_move rfl) (by decide) ⟨_, rfl, (congrArg (fun b => some (Value.bool b)) t17)⟩ ?_
        refine st_val (ex_move rfl) (by decide) ⟨_, rfl, (congrArg (fun b => some (Value.bool b)) t17)⟩ ?_
        refine st_val (ex_lenR rfl g1 Try.underlying23) (by decide) ⟨_, rfl, (congrArg (fun b => some (Value.bool b)) t17)⟩ ?_
        refine st_val (ex_lss rfl rfl) (by decide) ⟨_, rfl, (congrArg (fun b => some (Value.bool b)) t17)⟩ ?_
        refine st_val (ex_pick_t (congrArg (fun b => some (Value.bool b)) t17) rfl) (by decide) trivial ?_
        have hq142 := Option.some.inj hq14
        refine wpF_end (r := [(0, u0), (1, u1), (5, (.int .i64 y1)), (15, (.bool (decide (y1 < (p1.length : Int)))))]) ⟨rfl, rfl, rfl, rfl, trivial⟩ ?_
        subst hq142
        refine np_norm (fun a ha => ⟨ha, kp⟩)
      · rw [if_neg (by rw [t17]; decide)] at hq14
        refine st_no rfl rfl (by rw [t17]; rfl) (by decide) ?_
        refine st_no rfl rfl (by rw [t17]; rfl) (by decide) ?_
        refine st_no rfl rfl (by rw [t17]; rfl) (by decide) ?_
        refine st_no rfl rfl (by rw [t17]; rfl) (by decide) ?_
        refine st_val (ex_pick_f (congrArg (fun b => some (Value.bool b)) t17) rfl) (by decide) trivial ?_
        have hq142 := Option.some.inj hq14
        refine wpF_end (r := [(0, u0), (1, u1), (5, (.int .i64 y1)), (15, (.bool false))]) ⟨rfl, rfl, rfl, rfl, trivial⟩ ?_
        subst hq142
        refine np_norm (fun a ha => ⟨ha, kp⟩)
    rintro a20 w15 ⟨ha, k18⟩
    have s19 := k18.stp 999 o2
    replace hB := hB.stp s19 (by decide)
    refine wl_of ha ?_
    refine wpF_end (r := [(0, u0), (1, u1), (5, (.int .i64 y1)), (15, (.bool q14))]) ⟨rfl, rfl, rfl, rfl, trivial⟩ ?_
    refine nx ?_
    refine wpC_cond rfl (fun t21 => ?_) (fun t21 => ?_)
    · rw [if_pos t21] at b10
      refine wpC_skip ?_
      refine nx ?_
      refine wpC_seq ?_
      refine wpC_block ?_
      refine wpC_seq ?_
      obtain ⟨x22, hx22, b10⟩ := bind_some b10
      obtain ⟨x25, hx25, b10⟩ := bind_some b10
      refine wpC_drawn (o := o2) [(0, u0), (1, u1), (5, (.int .i64 y1))] [0, 1, 5] [18, 19, 20, 21, 22, 23, 24, 25] [[], [], [0, 1], [2], [], [], [4, 5], [6]] [none, none, none, none, none, none, none, none] [999, 999, 999, 999, 999, 999, 999, 999] [0, 0, 0, 0, 0, 0, 0, 0] [999] [fun v _ _ => v = u0, fun v _ _ => v = (.int .i64 y1), fun v o w9 => ∃ vl, v = adr vl (y1.toNat * Rp.sz Int) ∧ RdL zt w vl p0, fun v _ _ => v = (.int .i64 x22), fun v _ _ => v = u1, fun v _ _ => v = (.int .i64 y1), fun v o w9 => ∃ vl, v = adr vl (y1.toNat * Rp.sz Int) ∧ RdL zt w vl p1, fun v _ _ => v = (.int .i64 x25)] (fun o8 w8 => Bs (fun _ => 1) o8 w w8) follows_mixed (by kernel_rfl) rfl ⟨rfl, rfl, rfl, trivial⟩ hB ?_ ⟨st_eq _, st_eq _, fun _ _ _ _ _ _ h0 hb ⟨vl, e, h⟩ hs => ⟨vl, e, h⟩, st_eq _, st_eq _, st_eq _, fun _ _ _ _ _ _ h0 hb ⟨vl, e, h⟩ hs => ⟨vl, e, h⟩, st_eq _, trivial⟩ ?_ ?_
      · rintro t9 o1 w1 o2 w2 ht9 hB hs9
        have ht9 : t9 = 999 := by simpa using ht9
        subst ht9
        all_goals exact hB.stp hs9 (by decide)
      · refine ⟨?_, ?_, ?_, ?_, ?_, ?_, ?_, ?_, trivial⟩
        · rintro o28 w29 a30 ha hB -
          refine opS_of ha (trivial) ?_
          refine op1_val (ex_move rfl) ?_
          exact ⟨_, Stp.refl _ _ _, rfl⟩
        · rintro o31 w32 a33 ha hB -
          refine opS_of ha (trivial) ?_
          refine op1_val (ex_move rfl) ?_
          exact ⟨_, Stp.refl _ _ _, rfl⟩
        · rintro o34 w35 a36 ha hB ⟨r37, r38, -⟩
          have ha := Fr.cons (d := 18) ha r37
          have ha := Fr.cons (d := 19) ha r38
          refine opS_of ha (trivial) ?_
          refine wd_indexR g0 hx22 rfl rfl Try.underlying23 Try.sizeOf3 ?_
          exact ⟨_, Stp.refl _ _ _, ⟨_, rfl, g0⟩⟩
        · rintro o39 w40 a41 ha hB ⟨r42, -⟩
          obtain ⟨v43, e44, h45⟩ := r42
          have ha := Fr.cons (d := 20) ha e44
          refine opS_of ha (trivial) ?_
          refine wd_load1Z h45 hx22 hB rfl rfl Try.isAgg3 ?_
          intro c46 h47
          cases h47
          exact ⟨_, Stp.refl _ _ _, rfl⟩
        · rintro o48 w49 a50 ha hB -
          refine opS_of ha (trivial) ?_
          refine op1_val (ex_move rfl) ?_
          exact ⟨_, Stp.refl _ _ _, rfl⟩
        · rintro o51 w52 a53 ha hB -
          refine opS_of ha (trivial) ?_
          refine op1_val (ex_move rfl) ?_
          exact ⟨_, Stp.refl _ _ _, rfl⟩
        · rintro o54 w55 a56 ha hB ⟨r57, r58, -⟩
          have ha := Fr.cons (d := 22) ha r57
          have ha := Fr.cons (d := 23) ha r58
          refine opS_of ha (trivial) ?_
          refine wd_indexR g1 hx25 rfl rfl Try.underlying23 Try.sizeOf3 ?_
          exact ⟨_, Stp.refl _ _ _, ⟨_, rfl, g1⟩⟩
        · rintro o59 w60 a61 ha hB ⟨r62, -⟩
          obtain ⟨v63, e64, h65⟩ := r62
          have ha := Fr.cons (d := 24) ha e64
          refine opS_of ha (trivial) ?_
          refine wd_load1Z h65 hx25 hB rfl rfl Try.isAgg3 ?_
          intro c66 h67
          cases h67
          exact ⟨_, Stp.refl _ _ _, rfl⟩
      rintro o68 w69 a70 ha hB ⟨-, -, -, r71, -, -, -, r72, -⟩
      have ha := Fr.cons (d := 21) ha r71
      have ha := Fr.cons (d := 25) ha r72
      refine wl_of ha ?_
      simp only [List.length_cons, List.length_nil, Nat.zero_add, Nat.reduceAdd, List.drop_succ_cons, List.drop_zero]
      refine st_val (ex_neq rfl rfl) (by decide) trivial ?_
      refine wpF_end (r := [(0, u0), (1, u1), (5, (.int .i64 y1)), (26, (.bool (x22 != x25)))]) ⟨rfl, rfl, rfl, rfl, trivial⟩ ?_
      refine nx ?_
      refine wpC_cond rfl (fun t73 => ?_) (fun t73 => ?_)
      · rw [if_pos t73] at b10
        refine wpC_seq ?_
        obtain ⟨x74, hx74, b10⟩ := bind_some b10
        obtain ⟨x77, hx77, b10⟩ := bind_some b10
        refine wpC_drawn (o := o68) [(0, u0), (1, u1), (5, (.int .i64 y1))] [0, 1, 5] [27, 28, 29, 30, 31, 32, 33, 34] [[], [], [0, 1], [2], [], [], [4, 5], [6]] [none, none, none, none, none, none, none, none] [999, 999, 999, 999, 999, 999, 999, 999] [0, 0, 0, 0, 0, 0, 0, 0] [999] [fun v _ _ => v = u0, fun v _ _ => v = (.int .i64 y1), fun v o w9 => ∃ vl, v = adr vl (y1.toNat * Rp.sz Int) ∧ RdL zt w vl p0, fun v _ _ => v = (.int .i64 x74), fun v _ _ => v = u1, fun v _ _ => v = (.int .i64 y1), fun v o w9 => ∃ vl, v = adr vl (y1.toNat * Rp.sz Int) ∧ RdL zt w vl p1, fun v _ _ => v = (.int .i64 x77)] (fun o8 w8 => Bs (fun _ => 1) o8 w w8) follows_mixed (by kernel_rfl) rfl ⟨rfl, rfl, rfl, trivial⟩ hB ?_ ⟨st_eq _, st_eq _, fun _ _ _ _ _ _ h0 hb ⟨vl, e, h⟩ hs => ⟨vl, e, h⟩, st_eq _, st_eq _, st_eq _, fun _ _ _ _ _ _ h0 hb ⟨vl, e, h⟩ hs => ⟨vl, e, h⟩, st_eq _, trivial⟩ ?_ ?_
        · rintro t9 o1 w1 o2 w2 ht9 hB hs9
          have ht9 : t9 = 999 := by simpa using ht9
          subst ht9
          all_goals exact hB.stp hs9 (by decide)
        · refine ⟨?_, ?_, ?_, ?_, ?_, ?_, ?_, ?_, trivial⟩
          · rintro o80 w81 a82 ha hB -
            refine opS_of ha (trivial) ?_
            refine op1_val (ex_move rfl) ?_
            exact ⟨_, Stp.refl _ _ _, rfl⟩
          · rintro o83 w84 a85 ha hB -
            refine opS_of ha (trivial) ?_
            refine op1_val (ex_move rfl) ?_
            exact ⟨_, Stp.refl _ _ _, rfl⟩
          · rintro o86 w87 a88 ha hB ⟨r89, r90, -⟩
            have ha := Fr.cons (d := 27) ha r89
            have ha := Fr.cons (d := 28) ha r90
            refine opS_of ha (trivial) ?_
            refine wd_indexR g0 hx74 rfl rfl Try.underlying23 Try.sizeOf3 ?_
            exact ⟨_, Stp.refl _ _ _, ⟨_, rfl, g0⟩⟩
          · rintro o91 w92 a93 ha hB ⟨r94, -⟩
            obtain ⟨v95, e96, h97⟩ := r94
            have ha := Fr.cons (d := 29) ha e96
            refine opS_of ha (trivial) ?_
            refine wd_load1Z h97 hx74 hB rfl rfl Try.isAgg3 ?_
            intro c98 h99
            cases h99
            exact ⟨_, Stp.refl _ _ _, rfl⟩
          · rintro o100 w101 a102 ha hB -
            refine opS_of ha (trivial) ?_
            refine op1_val (ex_move rfl) ?_
            exact ⟨_, Stp.refl _ _ _, rfl⟩
          · rintro o103 w104 a105 ha hB -
            refine opS_of ha (trivial) ?_
            refine op1_val (ex_move rfl) ?_
            exact ⟨_, Stp.refl _ _ _, rfl⟩
          · rintro o106 w107 a108 ha hB ⟨r109, r110, -⟩
            have ha := Fr.cons (d := 31) ha r109
            have ha := Fr.cons (d := 32) ha r110
            refine opS_of ha (trivial) ?_
            refine wd_indexR g1 hx77 rfl rfl Try.underlying23 Try.sizeOf3 ?_
            exact ⟨_, Stp.refl _ _ _, ⟨_, rfl, g1⟩⟩
          · rintro o111 w112 a113 ha hB ⟨r114, -⟩
            obtain ⟨v115, e116, h117⟩ := r114
            have ha := Fr.cons (d := 33) ha e116
            refine opS_of ha (trivial) ?_
            refine wd_load1Z h117 hx77 hB rfl rfl Try.isAgg3 ?_
            intro c118 h119
            cases h119
            exact ⟨_, Stp.refl _ _ _, rfl⟩
        rintro o120 w121 a122 ha hB ⟨-, -, -, r123, -, -, -, r124, -⟩
        have ha := Fr.cons (d := 30) ha r123
        have ha := Fr.cons (d := 34) ha r124
        refine wl_of ha ?_
        simp only [List.length_cons, List.length_nil, Nat.zero_add, Nat.reduceAdd, List.drop_succ_cons, List.drop_zero]
        refine st_val (ex_lss rfl rfl) (by decide) trivial ?_
        refine st_val (ex_assign rfl) (by decide) trivial ?_
        refine wpF_end (r := [(4, (.bool (decide (x74 < x77))))]) ⟨rfl, trivial⟩ ?_
        refine nx ?_
        refine wpC_ret ?_
        refine nb_ret ?_
        refine nt_ret ?_
        refine nt_ret ?_
        refine nb_ret ?_
        refine np_ret ?_
        have e125 := Option.some.inj b10
        subst e125
        refine fun a ha => ⟨_, n11, ?_⟩
        refine ret_post (P := Try.prog) (vs := [(.bool (decide (x74 < x77)))]) Try.results121 ⟨rfl, trivial⟩ ?_ a ha
        exact ⟨rfl, hB.keeps⟩
      · rw [if_neg (by rw [t73]; decide)] at b10
        refine wpC_skip ?_
        refine nb_norm ?_
        refine nx ?_
        refine wpC_region ?_
        refine st_val (ex_move rfl) (by decide) trivial ?_
        obtain ⟨x126, hx126, b10⟩ := bind_some b10
        refine st_val (ex_add rfl rfl hx126) (by decide) trivial ?_
        refine st_val (ex_assign rfl) (by decide) trivial ?_
        refine wpF_end (r := [(0, u0), (1, u1), (5, (.int .i64 x126))]) ⟨rfl, rfl, rfl, trivial⟩ ?_
        refine nt_norm ?_
        have e127 := Option.some.inj b10
        subst e127
        refine to_k (r := [(0, u0), (1, u1), (5, (.int .i64 x126))]) ⟨rfl, rfl, rfl, trivial⟩ ?_
        intro a ha
        exact ⟨K12, by omega, x126, o68, n11, ha, hB⟩
    · rw [if_neg (by rw [t21]; decide)] at b10
      refine wpC_exit ?_
      refine nt_exit ?_
      refine nt_exit ?_
      refine nb_hit ?_
      refine np_norm ?_
      have e128 := Option.some.inj b10
      subst e128
      refine to_k (r := [(0, u0), (1, u1)]) ⟨rfl, rfl, trivial⟩ ?_
      intro a ha
      exact ⟨y1, o2, n11, ha, hB⟩
  · rintro a w3 ⟨y1, o2, rfl, ha, hB⟩
    dsimp only at hF
    refine ap_k ha ?_
    refine nx ?_
    refine wpC_seq ?_
    refine wpC_region ?_
    refine st_val (ex_move rfl) (by decide) trivial ?_
    refine st_val (ex_lenR rfl g0 Try.underlying23) (by decide) trivial ?_
    refine st_val (ex_move rfl) (by decide) trivial ?_
    refine st_val (ex_lenR rfl g1 Try.underlying23) (by decide) trivial ?_
    refine st_val (ex_lss rfl rfl) (by decide) trivial ?_
    refine st_val (ex_assign rfl) (by decide) trivial ?_
    refine wpF_end (r := [(4, (.bool (decide ((p0.length : Int) < (p1.length : Int)))))]) ⟨rfl, trivial⟩ ?_
    refine nx ?_
    refine wpC_ret ?_
    have e129 := Option.some.inj hF
    subst e129
    refine ret_post (P := Try.prog) (vs := [(.bool (decide ((p0.length : Int) < (p1.length : Int))))]) Try.results121 ⟨rfl, trivial⟩ ?_
    exact ⟨rfl, hB.keeps⟩
  · rintro a w3 ⟨r', rfl, b130⟩
    dsimp only at hF
    have e131 := Option.some.inj hF
    subst e131
    exact b130

def fS_isParts_s2 (fuel : Nat) : Int → Int → (List Int) → Option (Lp (List Int) (List Int) (List T_isPart)) := fun (i67 : Int) (x77 : Int) (s : List Int) =>
  (fS_l1Put fuel s x77) >>= fun x83 =>
  some (.go x83)
def fS_isParts_s3 (fuel : Nat) (p0 : T_Network) : Int → Int → ((List Int) × (List Int) × Int) → Option (Lp ((List Int) × (List Int) × Int) ((List Int) × (List Int) × Int) (List T_isPart)) := fun (i112 : Int) (x122 : Int) (s : (List Int) × (List Int) × Int) =>
  (fS_isWalk fuel p0 x122) >>= fun x128 =>
  (fS_isCode p0 x128) >>= fun x137 =>
  (
    if decide (s.2.2 > 0) then
      (fS_l1Same x137 s.1) >>= fun x150 =>
      some x150
    else
      some false) >>= fun q146 =>
  if q146 then
    (ck (s.2.2 + 1)) >>= fun x160 =>
    some (.go (s.1, s.2.1, x160))
  else
    (
      if s.2.2 == 0 then
        some true
      else
        (fS_isBefore fuel x137 s.1) >>= fun x169 =>
        some x169) >>= fun q165 =>
    if q165 then
      some (.go (x137, x128, 1))
    else
      some (.go (s.1, s.2.1, s.2.2))
def fS_isParts_s4 (fuel : Nat) (y14 : List T_isPart) (y103 : List Int) : Int → Option (Lp Int Int (List T_isPart)) := fun (s : Int) =>
  (
    if decide (s < (y14.length : Int)) then
      (ix y14 s) >>= fun x205 =>
      (fS_isBefore fuel y103 x205.code) >>= fun x288 =>
      some (!x288)
    else
      some false) >>= fun q200 =>
  if q200 then
    (ck (s + 1)) >>= fun x351 =>
    some (.go x351)
  else
    some (.out s)
def fS_isParts_s1 (fuel : Nat) (p0 : T_Network) : Int → ((List T_isPart) × (List Int)) → Option (Lp ((List T_isPart) × (List Int)) ((List T_isPart) × (List Int)) (List T_isPart)) := fun (i22 : Int) (s : (List T_isPart) × (List Int)) =>
  (fS_l1Has s.2 i22) >>= fun x34 =>
  if x34 then
    some (.go (s.1, s.2))
  else
    (fS_isWalk fuel p0 i22) >>= fun x50 =>
    (forI (fS_isParts_s2 fuel) x50 0 []) >>= fun q68 =>
    match q68 with
    | .inl y61 =>
      (cat s.2 y61) >>= fun x95 =>
      (forI (fS_isParts_s3 fuel p0) y61 0 ([], [], 0)) >>= fun q113 =>
      match q113 with
      | .inl (y103, y106, y109) =>
        (loopF (fS_isParts_s4 fuel s.1 y103) fuel 0) >>= fun q190 =>
        match q190 with
        | .inl y187 =>
          (cut s.1 y187 s.1.length) >>= fun x359 =>
          (cat ([] : List T_isPart) x359) >>= fun x362 =>
          (cut s.1 0 y187) >>= fun x372 =>
          (push x372 (⟨y103, y106, y109⟩ : T_isPart)) >>= fun x380 =>
          (cat x380 x362) >>= fun x435 =>
          some (.go (x435, x95))
        | .inr _ => none
      | .inr _ => none
    | .inr _ => none
def fS_isParts (fuel : Nat) (p0 : T_Network) : Option (List T_isPart) :=
  ck (p0.Ends.length : Int) >>= fun _ =>
  (forN (fS_isParts_s1 fuel p0) ((p0.Ends.length : Int)).toNat 0 ([], [])) >>= fun q23 =>
  match q23 with
  | .inl (y14, y17) =>
    some y14
  | .inr _ => none

def pS_isParts (oo : Tg) (t : Nat) (w : World) (r : List T_isPart) : Ending → World → Prop := fun e w' => ∃ (v0 : Value) (o' : Tg), e = .returned (v0) ∧ Ow w.heap.size 102 t o' w' v0 r ∧ Keeps w w' ∧ ∀ b, b < w.heap.size → o' b = oo b
set_option maxRecDepth 100000 in
set_option maxHeartbeats 2000000 in
theorem cS_isParts (fuel : Nat) (w : World) (oo : Tg) (t : Nat) (ht : 2 ≤ t) (u0 : List Value) (p0 : T_Network) (g0 : Rp.rd zt w u0 p0) (r : List T_isPart) (hF : fS_isParts fuel p0 = some r) :
    Calls Try.prog 86 #[.agg u0.toArray] w (pS_isParts oo t w r) := by
  unfold fS_isParts at hF
  obtain ⟨v1, v3, v5, rfl, h2, h4, h6⟩ := g0
  have hB : Bs oo (col oo) w w := Bs.start _ _
  refine calls_start (n := 111) (vs := [(.agg #[v1, v3, v5])]) Try.func86 rfl rfl ?_
  generalize col oo = o at *
  refine wpC_seq ?_
  refine wpC_region ?_
  refine st_op (by decide) trivial ?_
  refine wf_box (o := o) w.heap.size 11 hB.keeps.size (cs := [v1, v3, v5]) rfl rfl ?_
  intro o7 w8 b9 h10 s11
  replace hB := hB.stp s11 (by decide)
  refine st_val (ex_assign rfl) (by decide) trivial ?_
  refine wpF_end (r := [(1, (.pointer (some ⟨b9, 0, none⟩)))]) ⟨rfl, trivial⟩ ?_
  refine nx ?_
  refine wpC_seq ?_
  refine wpC_region ?_
  refine st_val (ex_assign rfl) (by decide) trivial ?_
  refine wpF_end (r := [(1, (.pointer (some ⟨b9, 0, none⟩))), (3, (.slice none 0 0))]) ⟨rfl, rfl, trivial⟩ ?_
  refine nx ?_
  refine wpC_seq ?_
  refine wpC_region ?_
  refine st_val (ex_assign rfl) (by decide) trivial ?_
  refine wpF_end (r := [(1, (.pointer (some ⟨b9, 0, none⟩))), (3, (.slice none 0 0)), (4, (.slice none 0 0))]) ⟨rfl, rfl, rfl, trivial⟩ ?_
  refine nx ?_
  refine wpC_seq ?_
  refine wpC_seq ?_
  refine wpC_region ?_
  refine st_val (ex_field rfl Try.underlying31 rfl Try.sizeOf29) (by decide) trivial ?_
  refine st_val (ex_load1 rfl Try.isAgg29 (h10.cell rfl)) (by decide) trivial ?_
  refine st_val (ex_lenR rfl h2 Try.underlying29) (by decide) trivial ?_
  refine st_val (ex_move rfl) (by decide) trivial ?_
  refine wpF_end (r := [(1, (.pointer (some ⟨b9, 0, none⟩))), (3, (.slice none 0 0)), (4, (.slice none 0 0)), (18, (.int .i64 (p0.Ends.length : Int))), (19, (.int .i64 0))]) ⟨rfl, rfl, rfl, rfl, rfl, trivial⟩ ?_
  refine nx ?_
  have h12 : Ow w.heap.size 102 12 o7 w8 (.slice none 0 0) ([] : List T_isPart) := Ow.nil _ _ _ _ _
  have h13 : Ow w.heap.size 3 13 o7 w8 (.slice none 0 0) ([] : List Int) := Ow.nil _ _ _ _ _
  obtain ⟨u25, h24, hF⟩ := bind_some hF
  obtain ⟨-, h24a, h24b⟩ := ck_some h24
  obtain ⟨q23, hq23, hF⟩ := bind_some hF
  refine wpC_cutN (fun a w21 => ∃ (y14 : List T_isPart) (y17 : List Int) (v15 : Value) (v18 : Value) (o20 : Tg), q23 = .inl (y14, y17) ∧ Fr a 111 [(3, v15)] ∧ Bs oo o20 w w21 ∧ Ow w.heap.size 102 12 o20 w21 v15 y14) (fun _ _ => False) ?_ ?_ ?_
  · refine wpC_block ?_
    refine wpC_loop (fun (K : Nat) a w21 => ∃ (i22 : Int) (y14 : List T_isPart) (y17 : List Int) (v15 : Value) (v18 : Value) (o20 : Tg), forN (fS_isParts_s1 fuel p0) ((p0.Ends.length : Int) - i22).toNat i22 (y14, y17) = some q23 ∧ ((p0.Ends.length : Int) - i22).toNat = K ∧ 0 ≤ i22 ∧ Fr a 111 [(1, (.pointer (some ⟨b9, 0, none⟩))), (3, v15), (4, v18), (18, (.int .i64 (p0.Ends.length : Int))), (19, (.int .i64 i22))] ∧ Bs oo o20 w w21 ∧ Ow w.heap.size 102 12 o20 w21 v15 y14 ∧ Ow w.heap.size 3 13 o20 w21 v18 y17 ∧ Bx w.heap.size 11 o20 w21 b9 31 [v1, v3, v5]) _ (fun a ha => ⟨0, [], [], (.slice none 0 0), (.slice none 0 0), o7, (by rw [Int.sub_zero]; exact hq23), rfl, Int.le_refl 0, ha.sub (r := [(1, (.pointer (some ⟨b9, 0, none⟩))), (3, (.slice none 0 0)), (4, (.slice none 0 0)), (18, (.int .i64 (p0.Ends.length : Int))), (19, (.int .i64 0))]) ⟨rfl, rfl, rfl, rfl, rfl, trivial⟩, hB, h12, h13, h10⟩) ?_
    rintro K29 a w21 ⟨i22, y14, y17, v15, v18, o20, l26, m28, z27, ha, hB, h16, h19, h10⟩
    by_cases t33 : i22 < (p0.Ends.length : Int)
    · obtain ⟨q30, b31, n32⟩ := forN_cons t33 l26
      dsimp only [fS_isParts_s1] at b31
      refine wp_of ha ?_
      refine wpC_seq ?_
      refine wpC_region ?_
      refine st_val (ex_lss rfl rfl) (by decide) trivial ?_
      refine wpF_end (r := [(1, (.pointer (some ⟨b9, 0, none⟩))), (3, v15), (4, v18), (18, (.int .i64 (p0.Ends.length : Int))), (19, (.int .i64 i22)), (20, (.bool (decide (i22 < (p0.Ends.length : Int)))))]) ⟨rfl, rfl, rfl, rfl, rfl, rfl, trivial⟩ ?_
      refine nx ?_
      refine wpC_seq ?_
      refine wpC_true (congrArg (fun b => some (Value.bool b)) (decide_eq_true t33)) ?_
      refine wpC_skip ?_
      refine nx ?_
      refine wpC_seq ?_
      refine wpC_block ?_
      refine wpC_seq ?_
      refine wpC_region ?_
      refine st_val (ex_move rfl) (by decide) trivial ?_
      refine st_val (ex_assign rfl) (by decide) trivial ?_
      refine wpF_end (r := [(1, (.pointer (some ⟨b9, 0, none⟩))), (3, v15), (4, v18), (5, (.int .i64 i22)), (18, (.int .i64 (p0.Ends.length : Int))), (19, (.int .i64 i22))]) ⟨rfl, rfl, rfl, rfl, rfl, rfl, trivial⟩ ?_
      refine nx ?_
      refine wpC_seq ?_
      refine wpC_seq ?_
      refine wpC_region ?_
      refine st_val (ex_move rfl) (by decide) trivial ?_
      refine st_val (ex_move rfl) (by decide) trivial ?_
      obtain ⟨x34, hx34, b31⟩ := bind_some b31
      refine st_op (by decide) trivial ?_
      refine wf_call (cS_l1Has w21 _ y17 h19.z i22 x34 hx34) Try.call94 ⟨rfl, rfl, trivial⟩ ?_
      rintro e39 w35 ⟨rfl, k36⟩
      have s38 := k36.stp 999 o20
      refine ⟨_, rfl, ?_⟩
      replace h16 := h16.stp s38 (by decide) (by decide)
      replace h19 := h19.stp s38 (by decide) (by decide)
      replace h10 := h10.stp s38 (by decide)
      replace hB := hB.stp s38 (by decide)
      refine wpF_end (r := [(1, (.pointer (some ⟨b9, 0, none⟩))), (3, v15), (4, v18), (5, (.int .i64 i22)), (18, (.int .i64 (p0.Ends.length : Int))), (19, (.int .i64 i22)), (24, (.bool x34))]) ⟨rfl, rfl, rfl, rfl, rfl, rfl, rfl, trivial⟩ ?_
      refine nx ?_
      refine wpC_cond rfl (fun t40 => ?_) (fun t40 => ?_)
      · rw [if_pos t40] at b31
        refine wpC_exit ?_
        refine nt_exit ?_
        refine nb_hit ?_
        refine nx ?_
        refine wpC_region ?_
        refine st_val (ex_add rfl rfl (ck_in (by omega) (by omega))) (by decide) trivial ?_
        refine st_val (ex_move rfl) (by decide) trivial ?_
        refine wpF_end (r := [(1, (.pointer (some ⟨b9, 0, none⟩))), (3, v15), (4, v18), (18, (.int .i64 (p0.Ends.length : Int))), (19, (.int .i64 (i22 + 1)))]) ⟨rfl, rfl, rfl, rfl, rfl, trivial⟩ ?_
        refine nt_norm ?_
        have e41 := Option.some.inj b31
        subst e41
        refine to_k (r := [(1, (.pointer (some ⟨b9, 0, none⟩))), (3, v15), (4, v18), (18, (.int .i64 (p0.Ends.length : Int))), (19, (.int .i64 (i22 + 1)))]) ⟨rfl, rfl, rfl, rfl, rfl, trivial⟩ ?_
        intro a ha
        exact ⟨_, (by rw [← m28]; omega), i22 + 1, y14, y17, v15, v18, o20, n32, rfl, (by omega), ha, hB, h16, h19, h10⟩
      · rw [if_neg (by rw [t40]; decide)] at b31
        refine wpC_skip ?_
        refine nx ?_
        refine wpC_seq ?_
        refine wpC_region ?_
        refine st_val (ex_build (vs := []) (cs := [(.slice none 0 0), (.slice none 0 0), (.int .i64 0)]) trivial (by kernel_rfl)) (by decide) trivial ?_
        refine st_op (by decide) trivial ?_
        refine wf_alloc (o := o20) w.heap.size 15 hB.keeps.size (cs := [(.slice none 0 0), (.slice none 0 0), (.int .i64 0)]) Try.zeroValue102 rfl ?_
        intro o42 w43 b44 h45 s46
        replace h16 := h16.stp s46 (by decide) (by decide)
        replace h19 := h19.stp s46 (by decide) (by decide)
        replace h10 := h10.stp s46 (by decide)
        replace hB := hB.stp s46 (by decide)
        refine st_op0 trivial ?_
        refine wf_storeA h45 rfl rfl rfl info1_t_spec_isPart_Apa (by intro c hc; simp only [List.mem_cons, List.not_mem_nil, or_false] at hc; rcases hc with rfl | rfl | rfl <;> first | rfl) ?_
        intro w47 h49 s48
        replace h16 := h16.stp s48 (by decide) (by decide)
        replace h19 := h19.stp s48 (by decide) (by decide)
        replace h10 := h10.stp s48 (by decide)
        replace hB := hB.stp s48 (by decide)
        refine wpF_end (r := [(1, (.pointer (some ⟨b9, 0, none⟩))), (3, v15), (4, v18), (5, (.int .i64 i22)), (6, (.pointer (some ⟨b44, 0, none⟩))), (18, (.int .i64 (p0.Ends.length : Int))), (19, (.int .i64 i22))]) ⟨rfl, rfl, rfl, rfl, rfl, rfl, rfl, trivial⟩ ?_
        refine nx ?_
        refine wpC_seq ?_
        refine wpC_region ?_
        refine st_val (ex_assign rfl) (by decide) trivial ?_
        refine wpF_end (r := [(1, (.pointer (some ⟨b9, 0, none⟩))), (3, v15), (4, v18), (5, (.int .i64 i22)), (6, (.pointer (some ⟨b44, 0, none⟩))), (7, (.slice none 0 0)), (18, (.int .i64 (p0.Ends.length : Int))), (19, (.int .i64 i22))]) ⟨rfl, rfl, rfl, rfl, rfl, rfl, rfl, rfl, trivial⟩ ?_
        refine nx ?_
        refine wpC_seq ?_
        refine wpC_seq ?_
        refine wpC_region ?_
        refine st_val (ex_loadA rfl Try.isAgg31 Try.sizeOf31 rfl h10.cells) (by decide) trivial ?_
        refine st_val (ex_move rfl) (by decide) trivial ?_
        obtain ⟨x50, hx50, b31⟩ := bind_some b31
        refine st_op (by decide) trivial ?_
        refine wf_call (cS_isWalk fuel w47 o42 16 (by decide) _ p0 (⟨_, _, _, rfl, (h2.keep hB.keeps), (h4.keep hB.keeps), (h6.keep hB.keeps)⟩) i22 x50 hx50) Try.call63 ⟨rfl, rfl, trivial⟩ ?_
        rintro e57 w51 ⟨v52, o58, rfl, h53, k54, k55⟩
        have s56 := k54.stp' 16 k55
        replace h53 := h53.mono hB.keeps.size
        refine ⟨_, rfl, ?_⟩
        replace h16 := h16.stp s56 (by decide) (by decide)
        replace h19 := h19.stp s56 (by decide) (by decide)
        replace h10 := h10.stp s56 (by decide)
        replace h49 := h49.stp s56 (by decide)
        replace hB := hB.stp s56 (by decide)
        refine st_val (ex_lenO rfl h53 Try.underlying23) (by decide) trivial ?_
        refine st_val (ex_move rfl) (by decide) trivial ?_
        refine wpF_end (r := [(1, (.pointer (some ⟨b9, 0, none⟩))), (3, v15), (4, v18), (6, (.pointer (some ⟨b44, 0, none⟩))), (7, (.slice none 0 0)), (18, (.int .i64 (p0.Ends.length : Int))), (19, (.int .i64 i22)), (28, v52), (29, (.int .i64 (x50.length : Int))), (30, (.int .i64 0))]) ⟨rfl, rfl, rfl, rfl, rfl, rfl, rfl, rfl, rfl, rfl, trivial⟩ ?_
        refine nx ?_
        have h59 : RdL o58 w51 (.slice none 0 0) ([] : List Int) := RdL.nil _ _
        have h60 : Of 3 o58 w51 (.slice none 0 0) ([] : List Int) := Of.nil _ _ _
        obtain ⟨q68, hq68, b31⟩ := bind_some b31
        refine wpC_cutN (fun a w66 => ∃ (y61 : List Int) (v62 : Value) (o65 : Tg), q68 = .inl y61 ∧ Fr a 111 [(1, (.pointer (some ⟨b9, 0, none⟩))), (3, v15), (4, v18), (6, (.pointer (some ⟨b44, 0, none⟩))), (7, v62), (18, (.int .i64 (p0.Ends.length : Int))), (19, (.int .i64 i22))] ∧ Bs oo o65 w w66 ∧ Ow w.heap.size 102 12 o65 w66 v15 y14 ∧ Ow w.heap.size 3 13 o65 w66 v18 y17 ∧ RdL o65 w66 v62 y61 ∧ Of 3 o65 w66 v62 y61 ∧ Bx w.heap.size 11 o65 w66 b9 31 [v1, v3, v5] ∧ Bx w.heap.size 15 o65 w66 b44 102 [(.slice none 0 0), (.slice none 0 0), (.int .i64 0)]) (fun _ _ => False) ?_ ?_ ?_
        · refine wpC_block ?_
          refine wpC_loop (fun (K : Nat) a w66 => ∃ (i67 : Int) (y61 : List Int) (v62 : Value) (o65 : Tg), forI (fS_isParts_s2 fuel) (x50.drop i67.toNat) i67 y61 = some q68 ∧ (x50.drop i67.toNat).length = K ∧ 0 ≤ i67 ∧ Fr a 111 [(1, (.pointer (some ⟨b9, 0, none⟩))), (3, v15), (4, v18), (6, (.pointer (some ⟨b44, 0, none⟩))), (7, v62), (18, (.int .i64 (p0.Ends.length : Int))), (19, (.int .i64 i22)), (28, v52), (29, (.int .i64 (x50.length : Int))), (30, (.int .i64 i67))] ∧ Bs oo o65 w w66 ∧ Ow w.heap.size 102 12 o65 w66 v15 y14 ∧ Ow w.heap.size 3 13 o65 w66 v18 y17 ∧ RdL o65 w66 v62 y61 ∧ Of 3 o65 w66 v62 y61 ∧ Ow w.heap.size 3 16 o65 w66 v52 x50 ∧ Bx w.heap.size 11 o65 w66 b9 31 [v1, v3, v5] ∧ Bx w.heap.size 15 o65 w66 b44 102 [(.slice none 0 0), (.slice none 0 0), (.int .i64 0)]) _ (fun a ha => ⟨0, [], (.slice none 0 0), o58, hq68, rfl, Int.le_refl 0, ha.sub (r := [(1, (.pointer (some ⟨b9, 0, none⟩))), (3, v15), (4, v18), (6, (.pointer (some ⟨b44, 0, none⟩))), (7, (.slice none 0 0)), (18, (.int .i64 (p0.Ends.length : Int))), (19, (.int .i64 i22)), (28, v52), (29, (.int .i64 (x50.length : Int))), (30, (.int .i64 0))]) ⟨rfl, rfl, rfl, rfl, rfl, rfl, rfl, rfl, rfl, rfl, trivial⟩, hB, h16, h19, h59, h60, h53, h10, h49⟩) ?_
          rintro K72 a w66 ⟨i67, y61, v62, o65, l69, m71, z70, ha, hB, h16, h19, h63, h64, h53, h10, h49⟩
          by_cases t76 : i67 < (x50.length : Int)
          · obtain ⟨x77, q73, hx77, b74, n75⟩ := forI_cons z70 t76 l69
            have hle := h53.len_le
            dsimp only [fS_isParts_s2] at b74
            refine wp_of ha ?_
            refine wpC_seq ?_
            refine wpC_region ?_
            refine st_val (ex_lss rfl rfl) (by decide) trivial ?_
            refine wpF_end (r := [(1, (.pointer (some ⟨b9, 0, none⟩))), (3, v15), (4, v18), (6, (.pointer (some ⟨b44, 0, none⟩))), (7, v62), (18, (.int .i64 (p0.Ends.length : Int))), (19, (.int .i64 i22)), (28, v52), (29, (.int .i64 (x50.length : Int))), (30, (.int .i64 i67)), (31, (.bool (decide (i67 < (x50.length : Int)))))]) ⟨rfl, rfl, rfl, rfl, rfl, rfl, rfl, rfl, rfl, rfl, rfl, trivial⟩ ?_
            refine nx ?_
            refine wpC_seq ?_
            refine wpC_true (congrArg (fun b => some (Value.bool b)) (decide_eq_true t76)) ?_
            refine wpC_skip ?_
            refine nx ?_
            refine wpC_seq ?_
            refine wpC_block ?_
            refine wpC_seq ?_
            refine wpC_region ?_
            refine st_op (by decide) trivial ?_
            refine wf_atW h53 hx77 rfl rfl Try.underlying23 Try.sizeOf3 ?_
            intro b78 f79 c80 h81 h82
            cases h82
            refine st_val (ex_load1 rfl Try.isAgg3 (cell_of_cells h81)) (by decide) trivial ?_
            refine st_val (ex_assign rfl) (by decide) trivial ?_
            refine wpF_end (r := [(1, (.pointer (some ⟨b9, 0, none⟩))), (3, v15), (4, v18), (6, (.pointer (some ⟨b44, 0, none⟩))), (7, v62), (9, (.int .i64 x77)), (18, (.int .i64 (p0.Ends.length : Int))), (19, (.int .i64 i22)), (28, v52), (29, (.int .i64 (x50.length : Int))), (30, (.int .i64 i67))]) ⟨rfl, rfl, rfl, rfl, rfl, rfl, rfl, rfl, rfl, rfl, rfl, trivial⟩ ?_
            refine nx ?_
            refine wpC_region ?_
            refine st_val (ex_move rfl) (by decide) trivial ?_
            refine st_val (ex_move rfl) (by decide) trivial ?_
            obtain ⟨x83, hx83, b74⟩ := bind_some b74
            refine st_op (by decide) trivial ?_
            refine wf_call (cS_l1Put fuel w66 o65 17 (by decide) _ y61 h64 x77 x83 hx83) Try.call120 ⟨rfl, rfl, trivial⟩ ?_
            rintro e91 w84 ⟨v85, o92, rfl, h86, k88, k89⟩
            have s90 := k88.stp' 17 k89
            have h87 := h86.rd
            refine ⟨_, rfl, ?_⟩
            replace h16 := h16.stp s90 (by decide) (by decide)
            replace h19 := h19.stp s90 (by decide) (by decide)
            replace h63 := h63.stp s90 (by decide)
            replace h64 := h64.stp s90 (by decide)
            replace h53 := h53.stp s90 (by decide) (by decide)
            replace h10 := h10.stp s90 (by decide)
            replace h49 := h49.stp s90 (by decide)
            replace hB := hB.stp s90 (by decide)
            refine st_val (ex_assign rfl) (by decide) trivial ?_
            refine wpF_end (r := [(1, (.pointer (some ⟨b9, 0, none⟩))), (3, v15), (4, v18), (6, (.pointer (some ⟨b44, 0, none⟩))), (7, v85), (18, (.int .i64 (p0.Ends.length : Int))), (19, (.int .i64 i22)), (28, v52), (29, (.int .i64 (x50.length : Int))), (30, (.int .i64 i67))]) ⟨rfl, rfl, rfl, rfl, rfl, rfl, rfl, rfl, rfl, rfl, trivial⟩ ?_
            refine nb_norm ?_
            refine nx ?_
            refine wpC_region ?_
            refine st_val (ex_add rfl rfl (ck_in (by omega) (by omega))) (by decide) trivial ?_
            refine st_val (ex_move rfl) (by decide) trivial ?_
            refine wpF_end (r := [(1, (.pointer (some ⟨b9, 0, none⟩))), (3, v15), (4, v18), (6, (.pointer (some ⟨b44, 0, none⟩))), (7, v85), (18, (.int .i64 (p0.Ends.length : Int))), (19, (.int .i64 i22)), (28, v52), (29, (.int .i64 (x50.length : Int))), (30, (.int .i64 (i67 + 1)))]) ⟨rfl, rfl, rfl, rfl, rfl, rfl, rfl, rfl, rfl, rfl, trivial⟩ ?_
            refine nt_norm ?_
            have e93 := Option.some.inj b74
            subst e93
            refine to_k (r := [(1, (.pointer (some ⟨b9, 0, none⟩))), (3, v15), (4, v18), (6, (.pointer (some ⟨b44, 0, none⟩))), (7, v85), (18, (.int .i64 (p0.Ends.length : Int))), (19, (.int .i64 i22)), (28, v52), (29, (.int .i64 (x50.length : Int))), (30, (.int .i64 (i67 + 1)))]) ⟨rfl, rfl, rfl, rfl, rfl, rfl, rfl, rfl, rfl, rfl, trivial⟩ ?_
            intro a ha
            exact ⟨_, (by rw [← m71]; simp only [List.length_drop]; omega), i67 + 1, x83, v85, o92, n75, rfl, (by omega), ha, hB, h16, h19, h87, h86, h53, h10, h49⟩
          · have r94 := forI_done t76 l69
            refine wp_of ha ?_
            refine wpC_seq ?_
            refine wpC_region ?_
            refine st_val (ex_lss rfl rfl) (by decide) trivial ?_
            refine wpF_end (r := [(1, (.pointer (some ⟨b9, 0, none⟩))), (3, v15), (4, v18), (6, (.pointer (some ⟨b44, 0, none⟩))), (7, v62), (18, (.int .i64 (p0.Ends.length : Int))), (19, (.int .i64 i22)), (28, v52), (29, (.int .i64 (x50.length : Int))), (30, (.int .i64 i67)), (31, (.bool (decide (i67 < (x50.length : Int)))))]) ⟨rfl, rfl, rfl, rfl, rfl, rfl, rfl, rfl, rfl, rfl, rfl, trivial⟩ ?_
            refine nx ?_
            refine wpC_seq ?_
            refine wpC_false (congrArg (fun b => some (Value.bool b)) (decide_eq_false t76)) ?_
            refine wpC_exit ?_
            refine nt_exit ?_
            refine nt_exit ?_
            refine nb_hit ?_
            refine np_norm ?_
            refine to_k (r := [(1, (.pointer (some ⟨b9, 0, none⟩))), (3, v15), (4, v18), (6, (.pointer (some ⟨b44, 0, none⟩))), (7, v62), (18, (.int .i64 (p0.Ends.length : Int))), (19, (.int .i64 i22))]) ⟨rfl, rfl, rfl, rfl, rfl, rfl, rfl, trivial⟩ ?_
            intro a ha
            exact ⟨y61, v62, o65, r94, ha, hB, h16, h19, h63, h64, h10, h49⟩
        · rintro a w66 ⟨y61, v62, o65, rfl, ha, hB, h16, h19, h63, h64, h10, h49⟩
          dsimp only at b31
          refine ap_k ha ?_
          refine nx ?_
          refine wpC_seq ?_
          refine wpC_region ?_
          refine st_val (ex_move rfl) (by decide) trivial ?_
          refine st_val (ex_move rfl) (by decide) trivial ?_
          obtain ⟨x95, hx95, b31⟩ := bind_some b31
          refine st_op (by decide) trivial ?_
          refine wf_cat h19 h63 hx95 (by decide) hB.keeps.size rfl rfl Try.underlying23 info2_t_int_Apa rfl (by decide) ?_
          intro o96 w97 v98 h99 s100
          replace h16 := h16.stp s100 (by decide) (by decide)
          replace h63 := h63.stp s100 (by decide)
          replace h64 := h64.stp s100 (by decide)
          replace h10 := h10.stp s100 (by decide)
          replace h49 := h49.stp s100 (by decide)
          replace hB := hB.stp s100 (by decide)
          refine st_val (ex_assign rfl) (by decide) trivial ?_
          refine wpF_end (r := [(1, (.pointer (some ⟨b9, 0, none⟩))), (3, v15), (4, v98), (6, (.pointer (some ⟨b44, 0, none⟩))), (7, v62), (18, (.int .i64 (p0.Ends.length : Int))), (19, (.int .i64 i22))]) ⟨rfl, rfl, rfl, rfl, rfl, rfl, rfl, trivial⟩ ?_
          refine nx ?_
          refine wpC_seq ?_
          refine wpC_seq ?_
          refine wpC_region ?_
          refine st_val (ex_move rfl) (by decide) trivial ?_
          refine st_val (ex_lenR rfl h63 Try.underlying23) (by decide) trivial ?_
          refine st_val (ex_move rfl) (by decide) trivial ?_
          refine wpF_end (r := [(1, (.pointer (some ⟨b9, 0, none⟩))), (3, v15), (4, v98), (6, (.pointer (some ⟨b44, 0, none⟩))), (18, (.int .i64 (p0.Ends.length : Int))), (19, (.int .i64 i22)), (41, v62), (42, (.int .i64 (y61.length : Int))), (43, (.int .i64 0))]) ⟨rfl, rfl, rfl, rfl, rfl, rfl, rfl, rfl, rfl, trivial⟩ ?_
          refine nx ?_
          have h101 : Ow w.heap.size 3 18 o96 w97 (.slice none 0 0) ([] : List Int) := Ow.nil _ _ _ _ _
          have h102 : Ow w.heap.size 3 19 o96 w97 (.slice none 0 0) ([] : List Int) := Ow.nil _ _ _ _ _
          obtain ⟨q113, hq113, b31⟩ := bind_some b31
          refine wpC_cutN (fun a w111 => ∃ (y103 : List Int) (y106 : List Int) (y109 : Int) (v104 : Value) (v107 : Value) (o110 : Tg), q113 = .inl (y103, y106, y109) ∧ Fr a 111 [(1, (.pointer (some ⟨b9, 0, none⟩))), (3, v15), (4, v98), (6, (.pointer (some ⟨b44, 0, none⟩))), (18, (.int .i64 (p0.Ends.length : Int))), (19, (.int .i64 i22))] ∧ Bs oo o110 w w111 ∧ Ow w.heap.size 102 12 o110 w111 v15 y14 ∧ Ow w.heap.size 3 13 o110 w111 v98 x95 ∧ Bx w.heap.size 11 o110 w111 b9 31 [v1, v3, v5] ∧ Bx w.heap.size 15 o110 w111 b44 102 [v104, v107, (.int .i64 y109)] ∧ Ow w.heap.size 3 18 o110 w111 v104 y103 ∧ Ow w.heap.size 3 19 o110 w111 v107 y106) (fun _ _ => False) ?_ ?_ ?_
          · refine wpC_block ?_
            refine wpC_loop (fun (K : Nat) a w111 => ∃ (i112 : Int) (y103 : List Int) (y106 : List Int) (y109 : Int) (v104 : Value) (v107 : Value) (o110 : Tg), forI (fS_isParts_s3 fuel p0) (y61.drop i112.toNat) i112 (y103, y106, y109) = some q113 ∧ (y61.drop i112.toNat).length = K ∧ 0 ≤ i112 ∧ Fr a 111 [(1, (.pointer (some ⟨b9, 0, none⟩))), (3, v15), (4, v98), (6, (.pointer (some ⟨b44, 0, none⟩))), (18, (.int .i64 (p0.Ends.length : Int))), (19, (.int .i64 i22)), (41, v62), (42, (.int .i64 (y61.length : Int))), (43, (.int .i64 i112))] ∧ Bs oo o110 w w111 ∧ Ow w.heap.size 102 12 o110 w111 v15 y14 ∧ Ow w.heap.size 3 13 o110 w111 v98 x95 ∧ RdL o110 w111 v62 y61 ∧ Of 3 o110 w111 v62 y61 ∧ Bx w.heap.size 11 o110 w111 b9 31 [v1, v3, v5] ∧ Bx w.heap.size 15 o110 w111 b44 102 [v104, v107, (.int .i64 y109)] ∧ Ow w.heap.size 3 18 o110 w111 v104 y103 ∧ Ow w.heap.size 3 19 o110 w111 v107 y106) _ (fun a ha => ⟨0, [], [], 0, (.slice none 0 0), (.slice none 0 0), o96, hq113, rfl, Int.le_refl 0, ha.sub (r := [(1, (.pointer (some ⟨b9, 0, none⟩))), (3, v15), (4, v98), (6, (.pointer (some ⟨b44, 0, none⟩))), (18, (.int .i64 (p0.Ends.length : Int))), (19, (.int .i64 i22)), (41, v62), (42, (.int .i64 (y61.length : Int))), (43, (.int .i64 0))]) ⟨rfl, rfl, rfl, rfl, rfl, rfl, rfl, rfl, rfl, trivial⟩, hB, h16, h99, h63, h64, h10, h49, h101, h102⟩) ?_
            rintro K117 a w111 ⟨i112, y103, y106, y109, v104, v107, o110, l114, m116, z115, ha, hB, h16, h99, h63, h64, h10, h49, h105, h108⟩
            by_cases t121 : i112 < (y61.length : Int)
            · obtain ⟨x122, q118, hx122, b119, n120⟩ := forI_cons z115 t121 l114
              have hle := h63.len_le
              dsimp only [fS_isParts_s3] at b119
              refine wp_of ha ?_
              refine wpC_seq ?_
              refine wpC_region ?_
              refine st_val (ex_lss rfl rfl) (by decide) trivial ?_
              refine wpF_end (r := [(1, (.pointer (some ⟨b9, 0, none⟩))), (3, v15), (4, v98), (6, (.pointer (some ⟨b44, 0, none⟩))), (18, (.int .i64 (p0.Ends.length : Int))), (19, (.int .i64 i22)), (41, v62), (42, (.int .i64 (y61.length : Int))), (43, (.int .i64 i112)), (44, (.bool (decide (i112 < (y61.length : Int)))))]) ⟨rfl, rfl, rfl, rfl, rfl, rfl, rfl, rfl, rfl, rfl, trivial⟩ ?_
              refine nx ?_
              refine wpC_seq ?_
              refine wpC_true (congrArg (fun b => some (Value.bool b)) (decide_eq_true t121)) ?_
              refine wpC_skip ?_
              refine nx ?_
              refine wpC_seq ?_
              refine wpC_block ?_
              refine wpC_seq ?_
              refine wpC_region ?_
              refine st_op (by decide) trivial ?_
              refine wf_atO h63 hx122 rfl rfl Try.underlying23 Try.sizeOf3 ?_
              intro b123 f124 c125 h126 h127
              cases h127
              refine st_val (ex_load1 rfl Try.isAgg3 (cell_of_cells h126)) (by decide) trivial ?_
              refine st_val (ex_assign rfl) (by decide) trivial ?_
              refine wpF_end (r := [(1, (.pointer (some ⟨b9, 0, none⟩))), (3, v15), (4, v98), (6, (.pointer (some ⟨b44, 0, none⟩))), (11, (.int .i64 x122)), (18, (.int .i64 (p0.Ends.length : Int))), (19, (.int .i64 i22)), (41, v62), (42, (.int .i64 (y61.length : Int))), (43, (.int .i64 i112))]) ⟨rfl, rfl, rfl, rfl, rfl, rfl, rfl, rfl, rfl, rfl, trivial⟩ ?_
              refine nx ?_
              refine wpC_seq ?_
              refine wpC_region ?_
              refine st_val (ex_loadA rfl Try.isAgg31 Try.sizeOf31 rfl h10.cells) (by decide) trivial ?_
              refine st_val (ex_move rfl) (by decide) trivial ?_
              obtain ⟨x128, hx128, b119⟩ := bind_some b119
              refine st_op (by decide) trivial ?_
              refine wf_call (cS_isWalk fuel w111 o110 20 (by decide) _ p0 (⟨_, _, _, rfl, (h2.keep hB.keeps), (h4.keep hB.keeps), (h6.keep hB.keeps)⟩) x122 x128 hx128) Try.call63 ⟨rfl, rfl, trivial⟩ ?_
              rintro e135 w129 ⟨v130, o136, rfl, h131, k132, k133⟩
              have s134 := k132.stp' 20 k133
              replace h131 := h131.mono hB.keeps.size
              refine ⟨_, rfl, ?_⟩
              replace h16 := h16.stp s134 (by decide) (by decide)
              replace h99 := h99.stp s134 (by decide) (by decide)
              replace h63 := h63.stp s134 (by decide)
              replace h64 := h64.stp s134 (by decide)
              replace h10 := h10.stp s134 (by decide)
              replace h49 := h49.stp s134 (by decide)
              replace h105 := h105.stp s134 (by decide) (by decide)
              replace h108 := h108.stp s134 (by decide) (by decide)
              replace hB := hB.stp s134 (by decide)
              refine st_val (ex_assign rfl) (by decide) trivial ?_
              refine wpF_end (r := [(1, (.pointer (some ⟨b9, 0, none⟩))), (3, v15), (4, v98), (6, (.pointer (some ⟨b44, 0, none⟩))), (12, v130), (18, (.int .i64 (p0.Ends.length : Int))), (19, (.int .i64 i22)), (41, v62), (42, (.int .i64 (y61.length : Int))), (43, (.int .i64 i112))]) ⟨rfl, rfl, rfl, rfl, rfl, rfl, rfl, rfl, rfl, rfl, trivial⟩ ?_
              refine nx ?_
              refine wpC_seq ?_
              refine wpC_region ?_
              refine st_val (ex_loadA rfl Try.isAgg31 Try.sizeOf31 rfl h10.cells) (by decide) trivial ?_
              refine st_val (ex_move rfl) (by decide) trivial ?_
              obtain ⟨x137, hx137, b119⟩ := bind_some b119
              refine st_op (by decide) trivial ?_
              refine wf_call (cS_isCode w129 o136 21 (by decide) _ p0 (⟨_, _, _, rfl, (h2.keep hB.keeps), (h4.keep hB.keeps), (h6.keep hB.keeps)⟩) _ x128 h131.z x137 hx137) Try.call64 ⟨rfl, rfl, trivial⟩ ?_
              rintro e144 w138 ⟨v139, o145, rfl, h140, k141, k142⟩
              have s143 := k141.stp' 21 k142
              replace h140 := h140.mono hB.keeps.size
              refine ⟨_, rfl, ?_⟩
              replace h16 := h16.stp s143 (by decide) (by decide)
              replace h99 := h99.stp s143 (by decide) (by decide)
              replace h131 := h131.stp s143 (by decide) (by decide)
              replace h63 := h63.stp s143 (by decide)
              replace h64 := h64.stp s143 (by decide)
              replace h10 := h10.stp s143 (by decide)
              replace h49 := h49.stp s143 (by decide)
              replace h105 := h105.stp s143 (by decide) (by decide)
              replace h108 := h108.stp s143 (by decide) (by decide)
              replace hB := hB.stp s143 (by decide)
              refine st_val (ex_assign rfl) (by decide) trivial ?_
              refine wpF_end (r := [(1, (.pointer (some ⟨b9, 0, none⟩))), (3, v15), (4, v98), (6, (.pointer (some ⟨b44, 0, none⟩))), (12, v130), (13, v139), (18, (.int .i64 (p0.Ends.length : Int))), (19, (.int .i64 i22)), (41, v62), (42, (.int .i64 (y61.length : Int))), (43, (.int .i64 i112))]) ⟨rfl, rfl, rfl, rfl, rfl, rfl, rfl, rfl, rfl, rfl, rfl, trivial⟩ ?_
              refine nx ?_
              refine wpC_seq ?_
              refine wpC_region ?_
              refine st_val (ex_field rfl Try.underlying102 rfl Try.sizeOf3) (by decide) trivial ?_
              refine st_val (ex_load1 rfl Try.isAgg3 (h49.cell rfl)) (by decide) trivial ?_
              refine st_val (ex_gtr rfl rfl) (by decide) trivial ?_
              refine st_val (ex_move rfl) (by decide) trivial ?_
              obtain ⟨q146, hq146, b119⟩ := bind_some b119
              refine wpF_cutAt 5 (fun a148 w147 => Fr a148 111 [(1, (.pointer (some ⟨b9, 0, none⟩))), (3, v15), (4, v98), (6, (.pointer (some ⟨b44, 0, none⟩))), (12, v130), (13, v139), (18, (.int .i64 (p0.Ends.length : Int))), (19, (.int .i64 i22)), (41, v62), (42, (.int .i64 (y61.length : Int))), (43, (.int .i64 i112)), (61, (.bool q146))] ∧ Keeps w138 w147) ?_ ?_
              all_goals simp only [List.take_succ_cons, List.take_zero, List.drop_succ_cons, List.drop_zero]
              · have kp : Keeps w138 w138 := Keeps.refl _
                rcases Bool.eq_false_or_eq_true (decide (y109 > 0)) with t149 | t149
                · rw [if_pos t149] at hq146
                  refine st_val (ex_move rfl) (by decide) ⟨_, rfl, (congrArg (fun b => some (Value.bool b)) t149)⟩ ?_
                  refine st_val (ex_field rfl Try.underlying102 rfl Try.sizeOf23) (by decide) ⟨_, rfl, (congrArg (fun b => some (Value.bool b)) t149)⟩ ?_
                  refine st_val (ex_load1 rfl Try.isAgg23 (h49.cell rfl)) (by decide) ⟨_, rfl, (congrArg (fun b => some (Value.bool b)) t149)⟩ ?_
                  obtain ⟨x150, hx150, hq146⟩ := bind_some hq146
                  refine st_op (by decide) ⟨_, rfl, (congrArg (fun b => some (Value.bool b)) t149)⟩ ?_
                  refine wf_call (cS_l1Same w138 _ x137 h140.z _ y103 h105.z x150 hx150) Try.call56 ⟨rfl, rfl, trivial⟩ ?_
                  rintro e155 w151 ⟨rfl, k152⟩
                  have s154 := k152.stp 999 o145
                  refine ⟨_, rfl, ?_⟩
                  replace h16 := h16.stp s154 (by decide) (by decide)
                  replace h99 := h99.stp s154 (by decide) (by decide)
                  replace h131 := h131.stp s154 (by decide) (by decide)
                  replace h140 := h140.stp s154 (by decide) (by decide)
                  replace h63 := h63.stp s154 (by decide)
                  replace h64 := h64.stp s154 (by decide)
                  replace h105 := h105.stp s154 (by decide) (by decide)
                  replace h10 := h10.stp s154 (by decide)
                  replace h49 := h49.stp s154 (by decide)
                  replace h108 := h108.stp s154 (by decide) (by decide)
                  replace hB := hB.stp s154 (by decide)
                  replace kp := Keeps.trans kp k152
                  refine st_val (ex_pick_t (congrArg (fun b => some (Value.bool b)) t149) rfl) (by decide) trivial ?_
                  have hq1462 := Option.some.inj hq146
                  refine wpF_end (r := [(1, (.pointer (some ⟨b9, 0, none⟩))), (3, v15), (4, v98), (6, (.pointer (some ⟨b44, 0, none⟩))), (12, v130), (13, v139), (18, (.int .i64 (p0.Ends.length : Int))), (19, (.int .i64 i22)), (41, v62), (42, (.int .i64 (y61.length : Int))), (43, (.int .i64 i112)), (61, (.bool x150))]) ⟨rfl, rfl, rfl, rfl, rfl, rfl, rfl, rfl, rfl, rfl, rfl, rfl, trivial⟩ ?_
                  subst hq1462
                  refine np_norm (fun a ha => ⟨ha, kp⟩)
                · rw [if_neg (by rw [t149]; decide)] at hq146
                  refine st_no rfl rfl (by rw [t149]; rfl) (by decide) ?_
                  refine st_no rfl rfl (by rw [t149]; rfl) (by decide) ?_
                  refine st_no rfl rfl (by rw [t149]; rfl) (by decide) ?_
                  refine st_no rfl rfl (by rw [t149]; rfl) (by decide) ?_
                  refine st_val (ex_pick_f (congrArg (fun b => some (Value.bool b)) t149) rfl) (by decide) trivial ?_
                  have hq1462 := Option.some.inj hq146
                  refine wpF_end (r := [(1, (.pointer (some ⟨b9, 0, none⟩))), (3, v15), (4, v98), (6, (.pointer (some ⟨b44, 0, none⟩))), (12, v130), (13, v139), (18, (.int .i64 (p0.Ends.length : Int))), (19, (.int .i64 i22)), (41, v62), (42, (.int .i64 (y61.length : Int))), (43, (.int .i64 i112)), (61, (.bool false))]) ⟨rfl, rfl, rfl, rfl, rfl, rfl, rfl, rfl, rfl, rfl, rfl, rfl, trivial⟩ ?_
                  subst hq1462
                  refine np_norm (fun a ha => ⟨ha, kp⟩)
              rintro a158 w147 ⟨ha, k156⟩
              have s157 := k156.stp 999 o145
              replace h16 := h16.stp s157 (by decide) (by decide)
              replace h99 := h99.stp s157 (by decide) (by decide)
              replace h131 := h131.stp s157 (by decide) (by decide)
              replace h140 := h140.stp s157 (by decide) (by decide)
              replace h63 := h63.stp s157 (by decide)
              replace h64 := h64.stp s157 (by decide)
              replace h10 := h10.stp s157 (by decide)
              replace h49 := h49.stp s157 (by decide)
              replace h105 := h105.stp s157 (by decide) (by decide)
              replace h108 := h108.stp s157 (by decide) (by decide)
              replace hB := hB.stp s157 (by decide)
              refine wl_of ha ?_
              refine wpF_end (r := [(1, (.pointer (some ⟨b9, 0, none⟩))), (3, v15), (4, v98), (6, (.pointer (some ⟨b44, 0, none⟩))), (12, v130), (13, v139), (18, (.int .i64 (p0.Ends.length : Int))), (19, (.int .i64 i22)), (41, v62), (42, (.int .i64 (y61.length : Int))), (43, (.int .i64 i112)), (61, (.bool q146))]) ⟨rfl, rfl, rfl, rfl, rfl, rfl, rfl, rfl, rfl, rfl, rfl, rfl, trivial⟩ ?_
              refine nx ?_
              refine wpC_cond rfl (fun t159 => ?_) (fun t159 => ?_)
              · rw [if_pos t159] at b119
                refine wpC_region ?_
                refine st_val (ex_field rfl Try.underlying102 rfl Try.sizeOf3) (by decide) trivial ?_
                refine st_val (ex_load1 rfl Try.isAgg3 (h49.cell rfl)) (by decide) trivial ?_
                obtain ⟨x160, hx160, b119⟩ := bind_some b119
                refine st_val (ex_add rfl rfl hx160) (by decide) trivial ?_
                refine st_val (ex_field rfl Try.underlying102 rfl Try.sizeOf3) (by decide) trivial ?_
                refine st_op0 trivial ?_
                refine wf_storeB h49 rfl rfl (of_decide_eq_true rfl) Try.sizeOf3 rfl rfl ?_
                intro w161 h163 s162
                replace h16 := h16.stp s162 (by decide) (by decide)
                replace h99 := h99.stp s162 (by decide) (by decide)
                replace h131 := h131.stp s162 (by decide) (by decide)
                replace h140 := h140.stp s162 (by decide) (by decide)
                replace h63 := h63.stp s162 (by decide)
                replace h64 := h64.stp s162 (by decide)
                replace h10 := h10.stp s162 (by decide)
                replace h105 := h105.stp s162 (by decide) (by decide)
                replace h108 := h108.stp s162 (by decide) (by decide)
                replace hB := hB.stp s162 (by decide)
                replace h163 : Bx w.heap.size 15 o145 w161 b44 102 [v104, v107, (.int .i64 x160)] := h163
                refine wpF_end (r := [(1, (.pointer (some ⟨b9, 0, none⟩))), (3, v15), (4, v98), (6, (.pointer (some ⟨b44, 0, none⟩))), (18, (.int .i64 (p0.Ends.length : Int))), (19, (.int .i64 i22)), (41, v62), (42, (.int .i64 (y61.length : Int))), (43, (.int .i64 i112))]) ⟨rfl, rfl, rfl, rfl, rfl, rfl, rfl, rfl, rfl, trivial⟩ ?_
                refine nb_norm ?_
                refine nx ?_
                refine wpC_region ?_
                refine st_val (ex_add rfl rfl (ck_in (by omega) (by omega))) (by decide) trivial ?_
                refine st_val (ex_move rfl) (by decide) trivial ?_
                refine wpF_end (r := [(1, (.pointer (some ⟨b9, 0, none⟩))), (3, v15), (4, v98), (6, (.pointer (some ⟨b44, 0, none⟩))), (18, (.int .i64 (p0.Ends.length : Int))), (19, (.int .i64 i22)), (41, v62), (42, (.int .i64 (y61.length : Int))), (43, (.int .i64 (i112 + 1)))]) ⟨rfl, rfl, rfl, rfl, rfl, rfl, rfl, rfl, rfl, trivial⟩ ?_
                refine nt_norm ?_
                have e164 := Option.some.inj b119
                subst e164
                refine to_k (r := [(1, (.pointer (some ⟨b9, 0, none⟩))), (3, v15), (4, v98), (6, (.pointer (some ⟨b44, 0, none⟩))), (18, (.int .i64 (p0.Ends.length : Int))), (19, (.int .i64 i22)), (41, v62), (42, (.int .i64 (y61.length : Int))), (43, (.int .i64 (i112 + 1)))]) ⟨rfl, rfl, rfl, rfl, rfl, rfl, rfl, rfl, rfl, trivial⟩ ?_
                intro a ha
                exact ⟨_, (by rw [← m116]; simp only [List.length_drop]; omega), i112 + 1, y103, y106, x160, v104, v107, o145, n120, rfl, (by omega), ha, hB, h16, h99, h63, h64, h10, h163, h105, h108⟩
              · rw [if_neg (by rw [t159]; decide)] at b119
                refine wpC_seq ?_
                refine wpC_region ?_
                refine st_val (ex_field rfl Try.underlying102 rfl Try.sizeOf3) (by decide) trivial ?_
                refine st_val (ex_load1 rfl Try.isAgg3 (h49.cell rfl)) (by decide) trivial ?_
                refine st_val (ex_eql rfl rfl) (by decide) trivial ?_
                refine st_val (ex_move rfl) (by decide) trivial ?_
                obtain ⟨q165, hq165, b119⟩ := bind_some b119
                refine wpF_cutAt 5 (fun a167 w166 => Fr a167 111 [(1, (.pointer (some ⟨b9, 0, none⟩))), (3, v15), (4, v98), (6, (.pointer (some ⟨b44, 0, none⟩))), (12, v130), (13, v139), (18, (.int .i64 (p0.Ends.length : Int))), (19, (.int .i64 i22)), (41, v62), (42, (.int .i64 (y61.length : Int))), (43, (.int .i64 i112)), (74, (.bool q165))] ∧ Keeps w147 w166) ?_ ?_
                all_goals simp only [List.take_succ_cons, List.take_zero, List.drop_succ_cons, List.drop_zero]
                · have kp : Keeps w147 w147 := Keeps.refl _
                  rcases Bool.eq_false_or_eq_true (y109 == 0) with t168 | t168
                  · rw [if_pos t168] at hq165
                    refine st_no rfl rfl (by rw [t168]; rfl) (by decide) ?_
                    refine st_no rfl rfl (by rw [t168]; rfl) (by decide) ?_
                    refine st_no rfl rfl (by rw [t168]; rfl) (by decide) ?_
                    refine st_no rfl rfl (by rw [t168]; rfl) (by decide) ?_
                    refine st_val (ex_pick_t (congrArg (fun b => some (Value.bool b)) t168) rfl) (by decide) trivial ?_
                    have hq1652 := Option.some.inj hq165
                    refine wpF_end (r := [(1, (.pointer (some ⟨b9, 0, none⟩))), (3, v15), (4, v98), (6, (.pointer (some ⟨b44, 0, none⟩))), (12, v130), (13, v139), (18, (.int .i64 (p0.Ends.length : Int))), (19, (.int .i64 i22)), (41, v62), (42, (.int .i64 (y61.length : Int))), (43, (.int .i64 i112)), (74, (.bool true))]) ⟨rfl, rfl, rfl, rfl, rfl, rfl, rfl, rfl, rfl, rfl, rfl, rfl, trivial⟩ ?_
                    subst hq1652
                    refine np_norm (fun a ha => ⟨ha, kp⟩)
                  · rw [if_neg (by rw [t168]; decide)] at hq165
                    refine st_val (ex_move rfl) (by decide) ⟨_, rfl, (congrArg (fun b => some (Value.bool b)) t168)⟩ ?_
                    refine st_val (ex_field rfl Try.underlying102 rfl Try.sizeOf23) (by decide) ⟨_, rfl, (congrArg (fun b => some (Value.bool b)) t168)⟩ ?_
                    refine st_val (ex_load1 rfl Try.isAgg23 (h49.cell rfl)) (by decide) ⟨_, rfl, (congrArg (fun b => some (Value.bool b)) t168)⟩ ?_
                    obtain ⟨x169, hx169, hq165⟩ := bind_some hq165
                    refine st_op (by decide) ⟨_, rfl, (congrArg (fun b => some (Value.bool b)) t168)⟩ ?_
                    refine wf_call (cS_isBefore fuel w147 _ x137 h140.z _ y103 h105.z x169 hx169) Try.call121 ⟨rfl, rfl, trivial⟩ ?_
                    rintro e174 w170 ⟨rfl, k171⟩
                    have s173 := k171.stp 999 o145
                    refine ⟨_, rfl, ?_⟩
                    replace h16 := h16.stp s173 (by decide) (by decide)
                    replace h99 := h99.stp s173 (by decide) (by decide)
                    replace h131 := h131.stp s173 (by decide) (by decide)
                    replace h140 := h140.stp s173 (by decide) (by decide)
                    replace h63 := h63.stp s173 (by decide)
                    replace h64 := h64.stp s173 (by decide)
                    replace h105 := h105.stp s173 (by decide) (by decide)
                    replace h10 := h10.stp s173 (by decide)
                    replace h49 := h49.stp s173 (by decide)
                    replace h108 := h108.stp s173 (by decide) (by decide)
                    replace hB := hB.stp s173 (by decide)
                    replace kp := Keeps.trans kp k171
                    refine st_val (ex_pick_f (congrArg (fun b => some (Value.bool b)) t168) rfl) (by decide) trivial ?_
                    have hq1652 := Option.some.inj hq165
                    refine wpF_end (r := [(1, (.pointer (some ⟨b9, 0, none⟩))), (3, v15), (4, v98), (6, (.pointer (some ⟨b44, 0, none⟩))), (12, v130), (13, v139), (18, (.int .i64 (p0.Ends.length : Int))), (19, (.int .i64 i22)), (41, v62), (42, (.int .i64 (y61.length : Int))), (43, (.int .i64 i112)), (74, (.bool x169))]) ⟨rfl, rfl, rfl, rfl, rfl, rfl, rfl, rfl, rfl, rfl, rfl, rfl, trivial⟩ ?_
                    subst hq1652
                    refine np_norm (fun a ha => ⟨ha, kp⟩)
                rintro a177 w166 ⟨ha, k175⟩
                have s176 := k175.stp 999 o145
                replace h16 := h16.stp s176 (by decide) (by decide)
                replace h99 := h99.stp s176 (by decide) (by decide)
                replace h131 := h131.stp s176 (by decide) (by decide)
                replace h140 := h140.stp s176 (by decide) (by decide)
                replace h63 := h63.stp s176 (by decide)
                replace h64 := h64.stp s176 (by decide)
                replace h10 := h10.stp s176 (by decide)
                replace h49 := h49.stp s176 (by decide)
                replace h105 := h105.stp s176 (by decide) (by decide)
                replace h108 := h108.stp s176 (by decide) (by decide)
                replace hB := hB.stp s176 (by decide)
                refine wl_of ha ?_
                refine wpF_end (r := [(1, (.pointer (some ⟨b9, 0, none⟩))), (3, v15), (4, v98), (6, (.pointer (some ⟨b44, 0, none⟩))), (12, v130), (13, v139), (18, (.int .i64 (p0.Ends.length : Int))), (19, (.int .i64 i22)), (41, v62), (42, (.int .i64 (y61.length : Int))), (43, (.int .i64 i112)), (74, (.bool q165))]) ⟨rfl, rfl, rfl, rfl, rfl, rfl, rfl, rfl, rfl, rfl, rfl, rfl, trivial⟩ ?_
                refine nx ?_
                refine wpC_cond rfl (fun t178 => ?_) (fun t178 => ?_)
                · rw [if_pos t178] at b119
                  refine wpC_region ?_
                  refine st_val (ex_move rfl) (by decide) trivial ?_
                  refine st_val (ex_move rfl) (by decide) trivial ?_
                  refine st_val (ex_build (vs := [(0, v139), (1, v130), (2, (.int .i64 1))]) (cs := [v139, v130, (.int .i64 1)]) ⟨rfl, rfl, rfl, rfl, rfl, rfl, trivial⟩ (by obtain ⟨_, _, e0⟩ := h140.form; rw [e0]; obtain ⟨_, _, e1⟩ := h131.form; rw [e1]; kernel_rfl)) (by decide) trivial ?_
                  refine st_op0 trivial ?_
                  refine wf_storeA h49 rfl rfl rfl info1_t_spec_isPart_Apa (by intro c hc; simp only [List.mem_cons, List.not_mem_nil, or_false] at hc; rcases hc with rfl | rfl | rfl <;> first | rfl | exact h140.one1 | exact h131.one1) ?_
                  intro w179 h181 s180
                  replace h16 := h16.stp s180 (by decide) (by decide)
                  replace h99 := h99.stp s180 (by decide) (by decide)
                  replace h131 := h131.stp s180 (by decide) (by decide)
                  replace h140 := h140.stp s180 (by decide) (by decide)
                  replace h63 := h63.stp s180 (by decide)
                  replace h64 := h64.stp s180 (by decide)
                  replace h10 := h10.stp s180 (by decide)
                  replace h105 := h105.stp s180 (by decide) (by decide)
                  replace h108 := h108.stp s180 (by decide) (by decide)
                  replace hB := hB.stp s180 (by decide)
                  refine wpF_end (r := [(1, (.pointer (some ⟨b9, 0, none⟩))), (3, v15), (4, v98), (6, (.pointer (some ⟨b44, 0, none⟩))), (18, (.int .i64 (p0.Ends.length : Int))), (19, (.int .i64 i22)), (41, v62), (42, (.int .i64 (y61.length : Int))), (43, (.int .i64 i112))]) ⟨rfl, rfl, rfl, rfl, rfl, rfl, rfl, rfl, rfl, trivial⟩ ?_
                  refine nb_norm ?_
                  refine nx ?_
                  refine wpC_region ?_
                  refine st_val (ex_add rfl rfl (ck_in (by omega) (by omega))) (by decide) trivial ?_
                  refine st_val (ex_move rfl) (by decide) trivial ?_
                  refine wpF_end (r := [(1, (.pointer (some ⟨b9, 0, none⟩))), (3, v15), (4, v98), (6, (.pointer (some ⟨b44, 0, none⟩))), (18, (.int .i64 (p0.Ends.length : Int))), (19, (.int .i64 i22)), (41, v62), (42, (.int .i64 (y61.length : Int))), (43, (.int .i64 (i112 + 1)))]) ⟨rfl, rfl, rfl, rfl, rfl, rfl, rfl, rfl, rfl, trivial⟩ ?_
                  refine nt_norm ?_
                  have e182 := Option.some.inj b119
                  subst e182
                  replace h16 := h16.rtg_ne (k := 21) (k' := 18) (by decide) (by decide) (by decide)
                  replace h99 := h99.rtg_ne (k := 21) (k' := 18) (by decide) (by decide) (by decide)
                  replace h63 := h63.rtg 21 18 (by decide)
                  replace h64 := h64.rtg (k := 21) (k' := 18) (by decide) (by decide) (by decide)
                  replace h10 := h10.rtg_ne (k := 21) (k' := 18) (by decide) (by decide)
                  replace h181 := h181.rtg_ne (k := 21) (k' := 18) (by decide) (by decide)
                  replace h140 := h140.rtg 18 (by decide)
                  replace h131 := h131.rtg_ne (k := 21) (k' := 18) (by decide) (by decide) (by decide)
                  replace hB := hB.rtg 21 18 (by decide) (by decide)
                  generalize (rtg 21 18 o145) = o183 at *
                  replace h16 := h16.rtg_ne (k := 20) (k' := 19) (by decide) (by decide) (by decide)
                  replace h99 := h99.rtg_ne (k := 20) (k' := 19) (by decide) (by decide) (by decide)
                  replace h63 := h63.rtg 20 19 (by decide)
                  replace h64 := h64.rtg (k := 20) (k' := 19) (by decide) (by decide) (by decide)
                  replace h10 := h10.rtg_ne (k := 20) (k' := 19) (by decide) (by decide)
                  replace h181 := h181.rtg_ne (k := 20) (k' := 19) (by decide) (by decide)
                  replace h140 := h140.rtg_ne (k := 20) (k' := 19) (by decide) (by decide) (by decide)
                  replace h131 := h131.rtg 19 (by decide)
                  replace hB := hB.rtg 20 19 (by decide) (by decide)
                  generalize (rtg 20 19 o183) = o184 at *
                  refine to_k (r := [(1, (.pointer (some ⟨b9, 0, none⟩))), (3, v15), (4, v98), (6, (.pointer (some ⟨b44, 0, none⟩))), (18, (.int .i64 (p0.Ends.length : Int))), (19, (.int .i64 i22)), (41, v62), (42, (.int .i64 (y61.length : Int))), (43, (.int .i64 (i112 + 1)))]) ⟨rfl, rfl, rfl, rfl, rfl, rfl, rfl, rfl, rfl, trivial⟩ ?_
                  intro a ha
                  exact ⟨_, (by rw [← m116]; simp only [List.length_drop]; omega), i112 + 1, x137, x128, 1, v139, v130, o184, n120, rfl, (by omega), ha, hB, h16, h99, h63, h64, h10, h181, h140, h131⟩
                · rw [if_neg (by rw [t178]; decide)] at b119
                  refine wpC_skip ?_
                  refine nb_norm ?_
                  refine nx ?_
                  refine wpC_region ?_
                  refine st_val (ex_add rfl rfl (ck_in (by omega) (by omega))) (by decide) trivial ?_
                  refine st_val (ex_move rfl) (by decide) trivial ?_
                  refine wpF_end (r := [(1, (.pointer (some ⟨b9, 0, none⟩))), (3, v15), (4, v98), (6, (.pointer (some ⟨b44, 0, none⟩))), (18, (.int .i64 (p0.Ends.length : Int))), (19, (.int .i64 i22)), (41, v62), (42, (.int .i64 (y61.length : Int))), (43, (.int .i64 (i112 + 1)))]) ⟨rfl, rfl, rfl, rfl, rfl, rfl, rfl, rfl, rfl, trivial⟩ ?_
                  refine nt_norm ?_
                  have e185 := Option.some.inj b119
                  subst e185
                  refine to_k (r := [(1, (.pointer (some ⟨b9, 0, none⟩))), (3, v15), (4, v98), (6, (.pointer (some ⟨b44, 0, none⟩))), (18, (.int .i64 (p0.Ends.length : Int))), (19, (.int .i64 i22)), (41, v62), (42, (.int .i64 (y61.length : Int))), (43, (.int .i64 (i112 + 1)))]) ⟨rfl, rfl, rfl, rfl, rfl, rfl, rfl, rfl, rfl, trivial⟩ ?_
                  intro a ha
                  exact ⟨_, (by rw [← m116]; simp only [List.length_drop]; omega), i112 + 1, y103, y106, y109, v104, v107, o145, n120, rfl, (by omega), ha, hB, h16, h99, h63, h64, h10, h49, h105, h108⟩
            · have r186 := forI_done t121 l114
              refine wp_of ha ?_
              refine wpC_seq ?_
              refine wpC_region ?_
              refine st_val (ex_lss rfl rfl) (by decide) trivial ?_
              refine wpF_end (r := [(1, (.pointer (some ⟨b9, 0, none⟩))), (3, v15), (4, v98), (6, (.pointer (some ⟨b44, 0, none⟩))), (18, (.int .i64 (p0.Ends.length : Int))), (19, (.int .i64 i22)), (41, v62), (42, (.int .i64 (y61.length : Int))), (43, (.int .i64 i112)), (44, (.bool (decide (i112 < (y61.length : Int)))))]) ⟨rfl, rfl, rfl, rfl, rfl, rfl, rfl, rfl, rfl, rfl, trivial⟩ ?_
              refine nx ?_
              refine wpC_seq ?_
              refine wpC_false (congrArg (fun b => some (Value.bool b)) (decide_eq_false t121)) ?_
              refine wpC_exit ?_
              refine nt_exit ?_
              refine nt_exit ?_
              refine nb_hit ?_
              refine np_norm ?_
              refine to_k (r := [(1, (.pointer (some ⟨b9, 0, none⟩))), (3, v15), (4, v98), (6, (.pointer (some ⟨b44, 0, none⟩))), (18, (.int .i64 (p0.Ends.length : Int))), (19, (.int .i64 i22))]) ⟨rfl, rfl, rfl, rfl, rfl, rfl, trivial⟩ ?_
              intro a ha
              exact ⟨y103, y106, y109, v104, v107, o110, r186, ha, hB, h16, h99, h10, h49, h105, h108⟩
          · rintro a w111 ⟨y103, y106, y109, v104, v107, o110, rfl, ha, hB, h16, h99, h10, h49, h105, h108⟩
            dsimp only at b31
            refine ap_k ha ?_
            refine nx ?_
            refine wpC_seq ?_
            refine wpC_region ?_
            refine st_val (ex_assign rfl) (by decide) trivial ?_
            refine wpF_end (r := [(1, (.pointer (some ⟨b9, 0, none⟩))), (3, v15), (4, v98), (6, (.pointer (some ⟨b44, 0, none⟩))), (14, (.int .i64 0)), (18, (.int .i64 (p0.Ends.length : Int))), (19, (.int .i64 i22))]) ⟨rfl, rfl, rfl, rfl, rfl, rfl, rfl, trivial⟩ ?_
            refine nx ?_
            obtain ⟨q190, hq190, b31⟩ := bind_some b31
            refine wpC_cutP (fun a w189 => ∃ (y187 : Int) (o188 : Tg), q190 = .inl y187 ∧ Fr a 111 [(1, (.pointer (some ⟨b9, 0, none⟩))), (3, v15), (4, v98), (6, (.pointer (some ⟨b44, 0, none⟩))), (14, (.int .i64 y187)), (18, (.int .i64 (p0.Ends.length : Int))), (19, (.int .i64 i22))] ∧ Bs oo o188 w w189 ∧ Ow w.heap.size 102 12 o188 w189 v15 y14 ∧ Ow w.heap.size 3 13 o188 w189 v98 x95 ∧ Bx w.heap.size 11 o188 w189 b9 31 [v1, v3, v5] ∧ Bx w.heap.size 15 o188 w189 b44 102 [v104, v107, (.int .i64 y109)] ∧ Ow w.heap.size 3 18 o188 w189 v104 y103 ∧ Ow w.heap.size 3 19 o188 w189 v107 y106) (fun _ _ => False) ?_ ?_ ?_
            · refine wpC_block ?_
              refine wpC_loop (fun (K : Nat) a w189 => ∃ (y187 : Int) (o188 : Tg), loopF (fS_isParts_s4 fuel y14 y103) K y187 = some q190 ∧ Fr a 111 [(1, (.pointer (some ⟨b9, 0, none⟩))), (3, v15), (4, v98), (6, (.pointer (some ⟨b44, 0, none⟩))), (14, (.int .i64 y187)), (18, (.int .i64 (p0.Ends.length : Int))), (19, (.int .i64 i22))] ∧ Bs oo o188 w w189 ∧ Ow w.heap.size 102 12 o188 w189 v15 y14 ∧ Ow w.heap.size 3 13 o188 w189 v98 x95 ∧ Bx w.heap.size 11 o188 w189 b9 31 [v1, v3, v5] ∧ Bx w.heap.size 15 o188 w189 b44 102 [v104, v107, (.int .i64 y109)] ∧ Ow w.heap.size 3 18 o188 w189 v104 y103 ∧ Ow w.heap.size 3 19 o188 w189 v107 y106) fuel (fun a ha => ⟨0, o110, hq190, ha.sub (r := [(1, (.pointer (some ⟨b9, 0, none⟩))), (3, v15), (4, v98), (6, (.pointer (some ⟨b44, 0, none⟩))), (14, (.int .i64 0)), (18, (.int .i64 (p0.Ends.length : Int))), (19, (.int .i64 i22))]) ⟨rfl, rfl, rfl, rfl, rfl, rfl, rfl, trivial⟩, hB, h16, h99, h10, h49, h105, h108⟩) ?_
              rintro K194 a w189 ⟨y187, o188, l191, ha, hB, h16, h99, h10, h49, h105, h108⟩
              obtain ⟨K198, q195, e199, b196, n197⟩ := loopF_cons l191
              dsimp only [fS_isParts_s4] at b196
              refine wp_of ha ?_
              refine wpC_seq ?_
              refine wpC_seq ?_
              obtain ⟨q200, hq200, b196⟩ := bind_some b196
              refine wpC_cutN (fun a203 w202 => ∃ o201 : Tg, Fr a203 111 [(1, (.pointer (some ⟨b9, 0, none⟩))), (3, v15), (4, v98), (6, (.pointer (some ⟨b44, 0, none⟩))), (14, (.int .i64 y187)), (18, (.int .i64 (p0.Ends.length : Int))), (19, (.int .i64 i22)), (93, (.bool q200))] ∧ Bs oo o201 w w202 ∧ Ow w.heap.size 102 12 o201 w202 v15 y14 ∧ Ow w.heap.size 3 13 o201 w202 v98 x95 ∧ Bx w.heap.size 11 o201 w202 b9 31 [v1, v3, v5] ∧ Bx w.heap.size 15 o201 w202 b44 102 [v104, v107, (.int .i64 y109)] ∧ Ow w.heap.size 3 18 o201 w202 v104 y103 ∧ Ow w.heap.size 3 19 o201 w202 v107 y106) (fun _ _ => False) ?_ ?_ (fun _ _ h => h.elim)
              · rcases Bool.eq_false_or_eq_true (decide (y187 < (y14.length : Int))) with t204 | t204
                · rw [if_pos t204] at hq200
                  obtain ⟨x205, hx205, hq200⟩ := bind_some hq200
                  refine wpC_drawn (o := o188) [(1, (.pointer (some ⟨b9, 0, none⟩))), (3, v15), (4, v98), (6, (.pointer (some ⟨b44, 0, none⟩))), (14, (.int .i64 y187)), (18, (.int .i64 (p0.Ends.length : Int))), (19, (.int .i64 i22))] [1, 3, 4, 6, 14, 18, 19] [79, 80, 81, 82, 83, 84, 85, 86, 87, 88, 89, 90] [[], [], [1], [0, 2], [3], [4], [4, 5], [4], [4], [4, 7, 8], [4, 9], [4, 10]] [none, none, none, none, none, none, none, none, none, none, none, none] [999, 999, 999, 999, 999, 999, 999, 999, 999, 999, 999, 999] [0, 0, 0, 0, 0, 0, 0, 0, 0, 12, 12, 0] [999] [fun v _ _ => v = (.int .i64 y187), fun v _ _ => v = v15, fun v _ _ => v = (.int .i64 (y14.length : Int)), fun v _ _ => v = (.bool (decide (y187 < (y14.length : Int)))), fun v _ _ => v = (.bool (decide (y187 < (y14.length : Int)))), fun v _ _ => v = (.pointer (some ⟨b44, 0 + 0, none⟩)), fun v _ _ => v = v104, fun v _ _ => v = v15, fun v _ _ => v = (.int .i64 y187), fun v o w9 => ∃ vl, v = adr vl (y187.toNat * Rp.sz T_isPart) ∧ Ow w.heap.size 102 12 o w9 vl y14, fun v o w9 => ∃ vl, v = adr vl (y187.toNat * Rp.sz T_isPart + 0) ∧ Ow w.heap.size 102 12 o w9 vl y14, fun v o w9 => RdL o w9 v (x205.code : List Int)] (fun o8 w8 => Bs oo o8 w w8 ∧ Ow w.heap.size 102 12 o8 w8 v15 y14 ∧ Ow w.heap.size 3 13 o8 w8 v98 x95 ∧ Bx w.heap.size 11 o8 w8 b9 31 [v1, v3, v5] ∧ Bx w.heap.size 15 o8 w8 b44 102 [v104, v107, (.int .i64 y109)] ∧ Ow w.heap.size 3 18 o8 w8 v104 y103 ∧ Ow w.heap.size 3 19 o8 w8 v107 y106) follows_mixed (by kernel_rfl) rfl ⟨rfl, rfl, rfl, rfl, rfl, rfl, rfl, trivial⟩ ⟨hB, h16, h99, h10, h49, h105, h108⟩ ?_ ⟨st_eq _, st_eq _, st_eq _, st_eq _, st_eq _, st_eq _, st_eq _, st_eq _, st_eq _, fun _ _ _ _ _ _ h0 hb ⟨vl, e, h⟩ hs => ⟨vl, e, h.stp hs h0.1 (Ne.symm hb)⟩, fun _ _ _ _ _ _ h0 hb ⟨vl, e, h⟩ hs => ⟨vl, e, h.stp hs h0.1 (Ne.symm hb)⟩, fun _ _ _ _ _ _ h0 hb h hs => h.stp hs h0.1, trivial⟩ ?_ ?_
                  · rintro t9 o1 w1 o2 w2 ht9 ⟨hB, h16, h99, h10, h49, h105, h108⟩ hs9
                    have ht9 : t9 = 999 := by simpa using ht9
                    subst ht9
                    all_goals exact ⟨hB.stp hs9 (by decide), h16.stp hs9 (by decide) (by decide), h99.stp hs9 (by decide) (by decide), h10.stp hs9 (by decide), h49.stp hs9 (by decide), h105.stp hs9 (by decide) (by decide), h108.stp hs9 (by decide) (by decide)⟩
                  · refine ⟨?_, ?_, ?_, ?_, ?_, ?_, ?_, ?_, ?_, ?_, ?_, ?_, trivial⟩
                    · rintro o214 w215 a216 ha ⟨hB, h16, h99, h10, h49, h105, h108⟩ -
                      refine opS_of ha (trivial) ?_
                      refine op1_val (ex_move rfl) ?_
                      exact ⟨_, Stp.refl _ _ _, rfl⟩
                    · rintro o217 w218 a219 ha ⟨hB, h16, h99, h10, h49, h105, h108⟩ -
                      refine opS_of ha (trivial) ?_
                      refine op1_val (ex_move rfl) ?_
                      exact ⟨_, Stp.refl _ _ _, rfl⟩
                    · rintro o220 w221 a222 ha ⟨hB, h16, h99, h10, h49, h105, h108⟩ ⟨r223, -⟩
                      have ha := Fr.cons (d := 80) ha r223
                      refine opS_of ha (trivial) ?_
                      refine op1_val (ex_lenO rfl h16 Try.underlying99) ?_
                      exact ⟨_, Stp.refl _ _ _, rfl⟩
                    · rintro o224 w225 a226 ha ⟨hB, h16, h99, h10, h49, h105, h108⟩ ⟨r227, r228, -⟩
                      have ha := Fr.cons (d := 79) ha r227
                      have ha := Fr.cons (d := 81) ha r228
                      refine opS_of ha (trivial) ?_
                      refine op1_val (ex_lss rfl rfl) ?_
                      exact ⟨_, Stp.refl _ _ _, rfl⟩
                    · rintro o229 w230 a231 ha ⟨hB, h16, h99, h10, h49, h105, h108⟩ ⟨r232, -⟩
                      have ha := Fr.cons (d := 82) ha r232
                      refine opS_of ha (trivial) ?_
                      refine op1_val (ex_move rfl) ?_
                      exact ⟨_, Stp.refl _ _ _, rfl⟩
                    · rintro o233 w234 a235 ha ⟨hB, h16, h99, h10, h49, h105, h108⟩ ⟨r236, -⟩
                      have ha := Fr.cons (d := 83) ha r236
                      refine opS_of ha (⟨_, rfl, (congrArg (fun b => some (Value.bool b)) t204)⟩) ?_
                      refine op1_val (ex_field rfl Try.underlying102 rfl Try.sizeOf23) ?_
                      exact ⟨_, Stp.refl _ _ _, rfl⟩
                    · rintro o237 w238 a239 ha ⟨hB, h16, h99, h10, h49, h105, h108⟩ ⟨r240, r241, -⟩
                      have ha := Fr.cons (d := 83) ha r240
                      have ha := Fr.cons (d := 84) ha r241
                      refine opS_of ha (⟨_, rfl, (congrArg (fun b => some (Value.bool b)) t204)⟩) ?_
                      refine op1_val (ex_load1 rfl Try.isAgg23 (h49.cell rfl)) ?_
                      exact ⟨_, Stp.refl _ _ _, rfl⟩
                    · rintro o242 w243 a244 ha ⟨hB, h16, h99, h10, h49, h105, h108⟩ ⟨r245, -⟩
                      have ha := Fr.cons (d := 83) ha r245
                      refine opS_of ha (⟨_, rfl, (congrArg (fun b => some (Value.bool b)) t204)⟩) ?_
                      refine op1_val (ex_move rfl) ?_
                      exact ⟨_, Stp.refl _ _ _, rfl⟩
                    · rintro o246 w247 a248 ha ⟨hB, h16, h99, h10, h49, h105, h108⟩ ⟨r249, -⟩
                      have ha := Fr.cons (d := 83) ha r249
                      refine opS_of ha (⟨_, rfl, (congrArg (fun b => some (Value.bool b)) t204)⟩) ?_
                      refine op1_val (ex_move rfl) ?_
                      exact ⟨_, Stp.refl _ _ _, rfl⟩
                    · rintro o250 w251 a252 ha ⟨hB, h16, h99, h10, h49, h105, h108⟩ ⟨r253, r254, r255, -⟩
                      have ha := Fr.cons (d := 83) ha r253
                      have ha := Fr.cons (d := 86) ha r254
                      have ha := Fr.cons (d := 87) ha r255
                      refine opS_of ha (⟨_, rfl, (congrArg (fun b => some (Value.bool b)) t204)⟩) ?_
                      refine wd_indexW h16 hx205 rfl rfl Try.underlying99 Try.sizeOf102 ?_
                      exact ⟨_, Stp.refl _ _ _, ⟨_, rfl, h16⟩⟩
                    · rintro o256 w257 a258 ha ⟨hB, h16, h99, h10, h49, h105, h108⟩ ⟨r259, r260, -⟩
                      have ha := Fr.cons (d := 83) ha r259
                      obtain ⟨v261, e262, h263⟩ := r260
                      have ha := Fr.cons (d := 88) ha e262
                      refine opS_of ha (⟨_, rfl, (congrArg (fun b => some (Value.bool b)) t204)⟩) ?_
                      refine wd_field (RdL.plc h263.z hx205) rfl Try.underlying102 rfl Try.sizeOf23 ?_
                      exact ⟨_, Stp.refl _ _ _, ⟨_, rfl, h263⟩⟩
                    · rintro o264 w265 a266 ha ⟨hB, h16, h99, h10, h49, h105, h108⟩ ⟨r267, r268, -⟩
                      have ha := Fr.cons (d := 83) ha r267
                      obtain ⟨v269, e270, h271⟩ := r268
                      have ha := Fr.cons (d := 89) ha e270
                      refine opS_of ha (⟨_, rfl, (congrArg (fun b => some (Value.bool b)) t204)⟩) ?_
                      refine wd_loadFW h271 hx205 (of_decide_eq_true rfl) rfl Try.isAgg23 ?_
                      intro c272 c273 h274 h275
                      obtain ⟨v276, v278, rfl, h277, h279⟩ := h274
                      replace h275 : some v276 = some c273 := h275
                      cases h275
                      exact ⟨_, Stp.refl _ _ _, h277⟩
                  rintro o280 w281 a282 ha ⟨hB, h16, h99, h10, h49, h105, h108⟩ ⟨-, -, -, -, r283, -, r284, -, -, -, -, r285, -⟩
                  have ha := Fr.cons (d := 83) ha r283
                  have ha := Fr.cons (d := 85) ha r284
                  replace r285 : RdL o280 w281 (a282.tmps.getD 90 undef) (x205.code : List Int) := r285
                  generalize e287 : a282.tmps.getD 90 undef = v286 at r285
                  have ha := Fr.cons (d := 90) ha e287
                  refine wl_of ha ?_
                  simp only [List.length_cons, List.length_nil, Nat.zero_add, Nat.reduceAdd, List.drop_succ_cons, List.drop_zero]
                  obtain ⟨x288, hx288, hq200⟩ := bind_some hq200
                  refine st_op (by decide) ⟨_, rfl, (congrArg (fun b => some (Value.bool b)) t204)⟩ ?_
                  refine wf_call (cS_isBefore fuel w281 _ y103 h105.z _ x205.code r285.z x288 hx288) Try.call121 ⟨rfl, rfl, trivial⟩ ?_
                  rintro e293 w289 ⟨rfl, k290⟩
                  have s292 := k290.stp 999 o280
                  refine ⟨_, rfl, ?_⟩
                  replace h16 := h16.stp s292 (by decide) (by decide)
                  replace h99 := h99.stp s292 (by decide) (by decide)
                  replace h105 := h105.stp s292 (by decide) (by decide)
                  replace r285 := r285.stp s292 (by decide)
                  replace h10 := h10.stp s292 (by decide)
                  replace h49 := h49.stp s292 (by decide)
                  replace h108 := h108.stp s292 (by decide) (by decide)
                  replace hB := hB.stp s292 (by decide)
                  refine st_val (ex_not rfl) (by decide) ⟨_, rfl, (congrArg (fun b => some (Value.bool b)) t204)⟩ ?_
                  refine st_val (ex_pick_t (congrArg (fun b => some (Value.bool b)) t204) rfl) (by decide) trivial ?_
                  have e294 := Option.some.inj hq200
                  subst e294
                  refine wpF_end (r := [(1, (.pointer (some ⟨b9, 0, none⟩))), (3, v15), (4, v98), (6, (.pointer (some ⟨b44, 0, none⟩))), (14, (.int .i64 y187)), (18, (.int .i64 (p0.Ends.length : Int))), (19, (.int .i64 i22)), (93, (.bool (!x288)))]) ⟨rfl, rfl, rfl, rfl, rfl, rfl, rfl, rfl, trivial⟩ ?_
                  refine np_norm (fun a ha => ⟨o280, ha, hB, h16, h99, h10, h49, h105, h108⟩)
                · rw [if_neg (by rw [t204]; decide)] at hq200
                  refine wpC_drawn (o := o188) [(1, (.pointer (some ⟨b9, 0, none⟩))), (3, v15), (4, v98), (6, (.pointer (some ⟨b44, 0, none⟩))), (14, (.int .i64 y187)), (18, (.int .i64 (p0.Ends.length : Int))), (19, (.int .i64 i22))] [1, 3, 4, 6, 14, 18, 19] [79, 80, 81, 82, 83, 84, 85, 86, 87, 88, 89, 90] [[], [], [1], [0, 2], [3], [4], [4], [4], [4], [4], [4], [4]] [none, none, none, none, none, none, none, none, none, none, none, none] [999, 999, 999, 999, 999, 999, 999, 999, 999, 999, 999, 999] [0, 0, 0, 0, 0, 0, 0, 0, 0, 0, 0, 0] [999] [fun v _ _ => v = (.int .i64 y187), fun v _ _ => v = v15, fun v _ _ => v = (.int .i64 (y14.length : Int)), fun v _ _ => v = (.bool (decide (y187 < (y14.length : Int)))), fun v _ _ => v = (.bool (decide (y187 < (y14.length : Int)))), fun v _ _ => v = undef, fun v _ _ => v = undef, fun v _ _ => v = undef, fun v _ _ => v = undef, fun v _ _ => v = undef, fun v _ _ => v = undef, fun v _ _ => v = undef] (fun o8 w8 => Bs oo o8 w w8 ∧ Ow w.heap.size 102 12 o8 w8 v15 y14 ∧ Ow w.heap.size 3 13 o8 w8 v98 x95 ∧ Bx w.heap.size 11 o8 w8 b9 31 [v1, v3, v5] ∧ Bx w.heap.size 15 o8 w8 b44 102 [v104, v107, (.int .i64 y109)] ∧ Ow w.heap.size 3 18 o8 w8 v104 y103 ∧ Ow w.heap.size 3 19 o8 w8 v107 y106) follows_mixed (by kernel_rfl) rfl ⟨rfl, rfl, rfl, rfl, rfl, rfl, rfl, trivial⟩ ⟨hB, h16, h99, h10, h49, h105, h108⟩ ?_ ⟨st_eq _, st_eq _, st_eq _, st_eq _, st_eq _, st_eq _, st_eq _, st_eq _, st_eq _, st_eq _, st_eq _, st_eq _, trivial⟩ ?_ ?_
                  · rintro t9 o1 w1 o2 w2 ht9 ⟨hB, h16, h99, h10, h49, h105, h108⟩ hs9
                    have ht9 : t9 = 999 := by simpa using ht9
                    subst ht9
                    all_goals exact ⟨hB.stp hs9 (by decide), h16.stp hs9 (by decide) (by decide), h99.stp hs9 (by decide) (by decide), h10.stp hs9 (by decide), h49.stp hs9 (by decide), h105.stp hs9 (by decide) (by decide), h108.stp hs9 (by decide) (by decide)⟩
                  · refine ⟨?_, ?_, ?_, ?_, ?_, ?_, ?_, ?_, ?_, ?_, ?_, ?_, trivial⟩
                    · rintro o295 w296 a297 ha ⟨hB, h16, h99, h10, h49, h105, h108⟩ -
                      refine opS_of ha (trivial) ?_
                      refine op1_val (ex_move rfl) ?_
                      exact ⟨_, Stp.refl _ _ _, rfl⟩
                    · rintro o298 w299 a300 ha ⟨hB, h16, h99, h10, h49, h105, h108⟩ -
                      refine opS_of ha (trivial) ?_
                      refine op1_val (ex_move rfl) ?_
                      exact ⟨_, Stp.refl _ _ _, rfl⟩
                    · rintro o301 w302 a303 ha ⟨hB, h16, h99, h10, h49, h105, h108⟩ ⟨r304, -⟩
                      have ha := Fr.cons (d := 80) ha r304
                      refine opS_of ha (trivial) ?_
                      refine op1_val (ex_lenO rfl h16 Try.underlying99) ?_
                      exact ⟨_, Stp.refl _ _ _, rfl⟩
                    · rintro o305 w306 a307 ha ⟨hB, h16, h99, h10, h49, h105, h108⟩ ⟨r308, r309, -⟩
                      have ha := Fr.cons (d := 79) ha r308
                      have ha := Fr.cons (d := 81) ha r309
                      refine opS_of ha (trivial) ?_
                      refine op1_val (ex_lss rfl rfl) ?_
                      exact ⟨_, Stp.refl _ _ _, rfl⟩
                    · rintro o310 w311 a312 ha ⟨hB, h16, h99, h10, h49, h105, h108⟩ ⟨r313, -⟩
                      have ha := Fr.cons (d := 82) ha r313
                      refine opS_of ha (trivial) ?_
                      refine op1_val (ex_move rfl) ?_
                      exact ⟨_, Stp.refl _ _ _, rfl⟩
                    · rintro o314 w315 a316 ha ⟨hB, h16, h99, h10, h49, h105, h108⟩ ⟨r317, -⟩
                      have ha := Fr.cons (d := 83) ha r317
                      exact opS_no ha rfl rfl rfl (by rw [t204]; rfl) ⟨_, Stp.refl _ _ _, rfl⟩
                    · rintro o318 w319 a320 ha ⟨hB, h16, h99, h10, h49, h105, h108⟩ ⟨r321, -⟩
                      have ha := Fr.cons (d := 83) ha r321
                      exact opS_no ha rfl rfl rfl (by rw [t204]; rfl) ⟨_, Stp.refl _ _ _, rfl⟩
                    · rintro o322 w323 a324 ha ⟨hB, h16, h99, h10, h49, h105, h108⟩ ⟨r325, -⟩
                      have ha := Fr.cons (d := 83) ha r325
                      exact opS_no ha rfl rfl rfl (by rw [t204]; rfl) ⟨_, Stp.refl _ _ _, rfl⟩
                    · rintro o326 w327 a328 ha ⟨hB, h16, h99, h10, h49, h105, h108⟩ ⟨r329, -⟩
                      have ha := Fr.cons (d := 83) ha r329
                      exact opS_no ha rfl rfl rfl (by rw [t204]; rfl) ⟨_, Stp.refl _ _ _, rfl⟩
                    · rintro o330 w331 a332 ha ⟨hB, h16, h99, h10, h49, h105, h108⟩ ⟨r333, -⟩
                      have ha := Fr.cons (d := 83) ha r333
                      exact opS_no ha rfl rfl rfl (by rw [t204]; rfl) ⟨_, Stp.refl _ _ _, rfl⟩
                    · rintro o334 w335 a336 ha ⟨hB, h16, h99, h10, h49, h105, h108⟩ ⟨r337, -⟩
                      have ha := Fr.cons (d := 83) ha r337
                      exact opS_no ha rfl rfl rfl (by rw [t204]; rfl) ⟨_, Stp.refl _ _ _, rfl⟩
                    · rintro o338 w339 a340 ha ⟨hB, h16, h99, h10, h49, h105, h108⟩ ⟨r341, -⟩
                      have ha := Fr.cons (d := 83) ha r341
                      exact opS_no ha rfl rfl rfl (by rw [t204]; rfl) ⟨_, Stp.refl _ _ _, rfl⟩
                  rintro o342 w343 a344 ha ⟨hB, h16, h99, h10, h49, h105, h108⟩ ⟨-, -, -, -, r345, -, r346, -, -, -, -, r347, -⟩
                  have ha := Fr.cons (d := 83) ha r345
                  have ha := Fr.cons (d := 85) ha r346
                  have ha := Fr.cons (d := 90) ha r347
                  refine wl_of ha ?_
                  simp only [List.length_cons, List.length_nil, Nat.zero_add, Nat.reduceAdd, List.drop_succ_cons, List.drop_zero]
                  refine st_no rfl rfl (by rw [t204]; rfl) (by decide) ?_
                  refine st_no rfl rfl (by rw [t204]; rfl) (by decide) ?_
                  refine st_val (ex_pick_f (congrArg (fun b => some (Value.bool b)) t204) rfl) (by decide) trivial ?_
                  have e348 := Option.some.inj hq200
                  subst e348
                  refine wpF_end (r := [(1, (.pointer (some ⟨b9, 0, none⟩))), (3, v15), (4, v98), (6, (.pointer (some ⟨b44, 0, none⟩))), (14, (.int .i64 y187)), (18, (.int .i64 (p0.Ends.length : Int))), (19, (.int .i64 i22)), (93, (.bool false))]) ⟨rfl, rfl, rfl, rfl, rfl, rfl, rfl, rfl, trivial⟩ ?_
                  refine np_norm (fun a ha => ⟨o342, ha, hB, h16, h99, h10, h49, h105, h108⟩)
              rintro a349 w202 ⟨o201, ha, hB, h16, h99, h10, h49, h105, h108⟩
              refine ap_k ha ?_
              refine nx ?_
              refine wpC_cond rfl (fun t350 => ?_) (fun t350 => ?_)
              · rw [if_pos t350] at b196
                refine wpC_skip ?_
                refine nx ?_
                refine wpC_block ?_
                refine wpC_region ?_
                refine st_val (ex_move rfl) (by decide) trivial ?_
                obtain ⟨x351, hx351, b196⟩ := bind_some b196
                refine st_val (ex_add rfl rfl hx351) (by decide) trivial ?_
                refine st_val (ex_assign rfl) (by decide) trivial ?_
                refine wpF_end (r := [(1, (.pointer (some ⟨b9, 0, none⟩))), (3, v15), (4, v98), (6, (.pointer (some ⟨b44, 0, none⟩))), (14, (.int .i64 x351)), (18, (.int .i64 (p0.Ends.length : Int))), (19, (.int .i64 i22))]) ⟨rfl, rfl, rfl, rfl, rfl, rfl, rfl, trivial⟩ ?_
                refine nb_norm ?_
                refine nt_norm ?_
                have e352 := Option.some.inj b196
                subst e352
                refine to_k (r := [(1, (.pointer (some ⟨b9, 0, none⟩))), (3, v15), (4, v98), (6, (.pointer (some ⟨b44, 0, none⟩))), (14, (.int .i64 x351)), (18, (.int .i64 (p0.Ends.length : Int))), (19, (.int .i64 i22))]) ⟨rfl, rfl, rfl, rfl, rfl, rfl, rfl, trivial⟩ ?_
                intro a ha
                exact ⟨K198, by omega, x351, o201, n197, ha, hB, h16, h99, h10, h49, h105, h108⟩
              · rw [if_neg (by rw [t350]; decide)] at b196
                refine wpC_exit ?_
                refine nt_exit ?_
                refine nt_exit ?_
                refine nb_hit ?_
                refine np_norm ?_
                have e353 := Option.some.inj b196
                subst e353
                refine to_k (r := [(1, (.pointer (some ⟨b9, 0, none⟩))), (3, v15), (4, v98), (6, (.pointer (some ⟨b44, 0, none⟩))), (14, (.int .i64 y187)), (18, (.int .i64 (p0.Ends.length : Int))), (19, (.int .i64 i22))]) ⟨rfl, rfl, rfl, rfl, rfl, rfl, rfl, trivial⟩ ?_
                intro a ha
                exact ⟨y187, o201, n197, ha, hB, h16, h99, h10, h49, h105, h108⟩
            · rintro a w189 ⟨y187, o188, rfl, ha, hB, h16, h99, h10, h49, h105, h108⟩
              dsimp only at b31
              refine wp_of ha ?_
              refine wpC_seq ?_
              refine wpC_region ?_
              refine st_op (by decide) trivial ?_
              refine wf_litW w.heap.size 25 hB.keeps.size (α := T_isPart) (o := o188) (cs := []) (xs := ([] : List T_isPart)) (vs := []) rfl rfl trivial Try.underlying99 Try.sizeOf102 Try.zeroValue102 (by decide) fill0 (by simp) ?_
              intro o354 w355 v356 h357 s358
              replace h16 := h16.stp s358 (by decide) (by decide)
              replace h99 := h99.stp s358 (by decide) (by decide)
              replace h10 := h10.stp s358 (by decide)
              replace h49 := h49.stp s358 (by decide)
              replace h105 := h105.stp s358 (by decide) (by decide)
              replace h108 := h108.stp s358 (by decide) (by decide)
              replace hB := hB.stp s358 (by decide)
              refine st_val (ex_move rfl) (by decide) trivial ?_
              refine st_val (ex_move rfl) (by decide) trivial ?_
              obtain ⟨x359, hx359, b31⟩ := bind_some b31
              refine st_op (by decide) trivial ?_
              refine wf_cutSrc h16 hx359 rfl rfl Try.underlying99 Try.sizeOf102 ?_
              intro v360 h361
              obtain ⟨x362, hx362, b31⟩ := bind_some b31
              refine st_op (by decide) trivial ?_
              refine wf_catS h357 h361 hx362 (by decide) hB.keeps.size rfl rfl Try.underlying99 info2_t_spec_isPart_Apa rfl (by decide) ?_
              intro o363 w364 v365 h366 s367
              replace h16 := h16.stp s367 (by decide) (by decide)
              replace h99 := h99.stp s367 (by decide) (by decide)
              replace h10 := h10.stp s367 (by decide)
              replace h49 := h49.stp s367 (by decide)
              replace h105 := h105.stp s367 (by decide) (by decide)
              replace h108 := h108.stp s367 (by decide) (by decide)
              replace hB := hB.stp s367 (by decide)
              refine st_val (ex_assign rfl) (by decide) trivial ?_
              refine wpF_end (r := [(1, (.pointer (some ⟨b9, 0, none⟩))), (3, v15), (4, v98), (6, (.pointer (some ⟨b44, 0, none⟩))), (14, (.int .i64 y187)), (15, v365), (18, (.int .i64 (p0.Ends.length : Int))), (19, (.int .i64 i22))]) ⟨rfl, rfl, rfl, rfl, rfl, rfl, rfl, rfl, trivial⟩ ?_
              refine nx ?_
              replace h16 := h16.frz_ne (j := 18) (by decide)
              replace h99 := h99.frz_ne (j := 18) (by decide)
              replace h366 := h366.frz_ne (j := 18) (by decide)
              replace h10 := h10.frz_ne (j := 18) (by decide)
              replace h49 := h49.frz_ne (j := 18) (by decide)
              have h368 := h105.frzF
              replace h105 := h105.frz
              replace h108 := h108.frz_ne (j := 18) (by decide)
              replace hB := hB.frz 18 (by decide)
              generalize (frz 18 o363) = o369 at *
              replace h16 := h16.frz_ne (j := 19) (by decide)
              replace h99 := h99.frz_ne (j := 19) (by decide)
              replace h366 := h366.frz_ne (j := 19) (by decide)
              replace h10 := h10.frz_ne (j := 19) (by decide)
              replace h49 := h49.frz_ne (j := 19) (by decide)
              replace h105 := h105.frz 19
              replace h368 := h368.frz 19 (by decide)
              have h370 := h108.frzF
              replace h108 := h108.frz
              replace hB := hB.frz 19 (by decide)
              generalize (frz 19 o369) = o371 at *
              obtain ⟨x372, hx372, b31⟩ := bind_some b31
              obtain ⟨x380, hx380, b31⟩ := bind_some b31
              refine wpC_drawnS (o := o371) [(1, (.pointer (some ⟨b9, 0, none⟩))), (3, v15), (4, v98), (6, (.pointer (some ⟨b44, 0, none⟩))), (14, (.int .i64 y187)), (15, v365), (18, (.int .i64 (p0.Ends.length : Int))), (19, (.int .i64 i22))] [1, 3, 4, 6, 14, 15, 18, 19] [101, 102, 103, 104, 105, 106, 107] [[], [], [0, 1], [], [3], [2, 4], []] [none, none, none, none, none, none, none] [999, 999, 999, 999, 999, 12, 999] [0, 0, 0, 0, 0, 12, 0] [12, 999] [5] [12] [[], [], [0], [], [0], [0], []] [false, false, false, false, false, false, false] [fun v _ _ => v = v15, fun v _ _ => v = (.int .i64 y187), fun v _ _ => v = (prev v15 y187.toNat), fun v _ _ => v = (.agg #[v104, v107, (.int .i64 y109)]), fun v o w9 => RdL o w9 v (([(⟨y103, y106, y109⟩ : T_isPart)] : List T_isPart) : List T_isPart), fun v o w9 => Ow w.heap.size 102 12 o w9 v x380, fun v _ _ => v = v365] [fun _ o w9 => Ow w.heap.size 102 12 o w9 v15 y14] (fun o8 w8 => Bs oo o8 w w8 ∧ Ow w.heap.size 3 13 o8 w8 v98 x95 ∧ Ow w.heap.size 102 25 o8 w8 v365 x362 ∧ Bx w.heap.size 11 o8 w8 b9 31 [v1, v3, v5] ∧ Bx w.heap.size 15 o8 w8 b44 102 [v104, v107, (.int .i64 y109)] ∧ RdL o8 w8 v104 y103 ∧ Of 3 o8 w8 v104 y103 ∧ RdL o8 w8 v107 y106 ∧ Of 3 o8 w8 v107 y106) follows_mixed (by kernel_rfl) rfl ⟨rfl, rfl, rfl, rfl, rfl, rfl, rfl, rfl, trivial⟩ ⟨hB, h99, h366, h10, h49, h105, h368, h108, h370⟩ ⟨h16, trivial⟩ ?_ ⟨st_eq _, st_eq _, st_eq _, st_eq _, fun _ _ _ _ _ _ h0 hb h hs => h.stp hs h0.1, fun _ _ _ _ _ _ h0 hb h hs => h.stp hs h0.1 (Ne.symm hb), st_eq _, trivial⟩ ⟨fun _ _ _ _ _ _ h0 hb h hs => h.stp hs h0.1 (Ne.symm hb), trivial⟩ ⟨trivial, trivial, trivial, trivial, trivial, trivial, trivial, trivial⟩ ?_ ?_
              · rintro t9 o1 w1 o2 w2 ht9 ⟨hB, h99, h366, h10, h49, h105, h368, h108, h370⟩ hs9
                have ht9 : t9 = 12 ∨ t9 = 999 := by simpa using ht9
                rcases ht9 with rfl | rfl
                all_goals exact ⟨hB.stp hs9 (by decide), h99.stp hs9 (by decide) (by decide), h366.stp hs9 (by decide) (by decide), h10.stp hs9 (by decide), h49.stp hs9 (by decide), h105.stp hs9 (by decide), h368.stp hs9 (by decide), h108.stp hs9 (by decide), h370.stp hs9 (by decide)⟩
              · refine ⟨?_, ?_, ?_, ?_, ?_, ?_, ?_, trivial⟩
                · rintro o386 w387 a388 ha ⟨hB, h99, h366, h10, h49, h105, h368, h108, h370⟩ - -
                  refine opS_of ha (trivial) ?_
                  refine op1_val (ex_move rfl) ?_
                  exact ⟨_, Stp.refl _ _ _, rfl⟩
                · rintro o389 w390 a391 ha ⟨hB, h99, h366, h10, h49, h105, h368, h108, h370⟩ - -
                  refine opS_of ha (trivial) ?_
                  refine op1_val (ex_move rfl) ?_
                  exact ⟨_, Stp.refl _ _ _, rfl⟩
                · rintro o392 w393 a394 ha ⟨hB, h99, h366, h10, h49, h105, h368, h108, h370⟩ ⟨h16, -⟩ ⟨r395, r396, -⟩
                  have ha := Fr.cons (d := 101) ha r395
                  have ha := Fr.cons (d := 102) ha r396
                  refine opS_of ha (trivial) ?_
                  refine op1_val (ex_cutPreO h16 hx372 rfl rfl Try.underlying99 Try.sizeOf102) ?_
                  exact ⟨_, Stp.refl _ _ _, rfl⟩
                · rintro o397 w398 a399 ha ⟨hB, h99, h366, h10, h49, h105, h368, h108, h370⟩ - -
                  refine opS_of ha (trivial) ?_
                  refine op1_val (ex_loadA rfl Try.isAgg102 Try.sizeOf102 rfl h49.cells) ?_
                  exact ⟨_, Stp.refl _ _ _, rfl⟩
                · rintro o400 w401 a402 ha ⟨hB, h99, h366, h10, h49, h105, h368, h108, h370⟩ ⟨h16, -⟩ ⟨r403, -⟩
                  have ha := Fr.cons (d := 104) ha r403
                  refine opS_of ha (trivial) ?_
                  refine wf_litR (α := T_isPart) (o := o400) (cs := [v104, v107, (.int .i64 y109)]) (xs := ([(⟨y103, y106, y109⟩ : T_isPart)] : List T_isPart)) (vs := [(0, (.agg #[v104, v107, (.int .i64 y109)]))]) ⟨[v104, v107, (.int .i64 y109)], _, rfl, ⟨_, _, rfl, h105, h108⟩, rfl⟩ rfl ⟨rfl, rfl, trivial⟩ Try.underlying99 Try.sizeOf102 Try.zeroValue102 (by decide) (fillS 3 rfl rfl (by decide)) (by simp) ?_
                  intro o404 w405 v406 h407 s408 k409
                  replace h16 := h16.stp s408 (by decide) (by decide)
                  replace h99 := h99.stp s408 (by decide) (by decide)
                  replace h366 := h366.stp s408 (by decide) (by decide)
                  replace h105 := h105.stp s408 (by decide)
                  replace h368 := h368.stp s408 (by decide)
                  replace h108 := h108.stp s408 (by decide)
                  replace h370 := h370.stp s408 (by decide)
                  replace h10 := h10.stp s408 (by decide)
                  replace h49 := h49.stp s408 (by decide)
                  replace hB := hB.stp s408 (by decide)
                  exact ⟨_, s408, h407⟩
                · rintro o410 w411 a412 ha ⟨hB, h99, h366, h10, h49, h105, h368, h108, h370⟩ ⟨h16, -⟩ ⟨r413, r414, -⟩
                  have ha := Fr.cons (d := 103) ha r413
                  replace r414 : RdL o410 w411 (a412.tmps.getD 105 undef) (([(⟨y103, y106, y109⟩ : T_isPart)] : List T_isPart) : List T_isPart) := r414
                  generalize e416 : a412.tmps.getD 105 undef = v415 at r414
                  have ha := Fr.cons (d := 105) ha e416
                  refine opS_of ha (trivial) ?_
                  have h417 := Ow.pre h16 hx372
                  refine wf_cat h417 r414 (push_cat hx380) (by decide) hB.keeps.size rfl rfl Try.underlying99 info2_t_spec_isPart_Apa rfl (by decide) ?_
                  intro o418 w419 v420 h421 s422
                  replace h99 := h99.stp s422 (by decide) (by decide)
                  replace h366 := h366.stp s422 (by decide) (by decide)
                  replace r414 := r414.stp s422 (by decide)
                  replace h10 := h10.stp s422 (by decide)
                  replace h49 := h49.stp s422 (by decide)
                  replace h105 := h105.stp s422 (by decide)
                  replace h368 := h368.stp s422 (by decide)
                  replace h108 := h108.stp s422 (by decide)
                  replace h370 := h370.stp s422 (by decide)
                  replace hB := hB.stp s422 (by decide)
                  exact ⟨_, s422, h421⟩
                · rintro o423 w424 a425 ha ⟨hB, h99, h366, h10, h49, h105, h368, h108, h370⟩ - -
                  refine opS_of ha (trivial) ?_
                  refine op1_val (ex_move rfl) ?_
                  exact ⟨_, Stp.refl _ _ _, rfl⟩
              rintro o426 w427 a428 ha ⟨hB, h99, h366, h10, h49, h105, h368, h108, h370⟩ ⟨-, -, -, -, -, r429, r430, -⟩
              replace r429 : Ow w.heap.size 102 12 o426 w427 (a428.tmps.getD 106 undef) x380 := r429
              generalize e432 : a428.tmps.getD 106 undef = v431 at r429
              have ha := Fr.cons (d := 106) ha e432
              have ha := Fr.cons (d := 107) ha r430
              refine wl_of ha ?_
              simp only [List.length_cons, List.length_nil, Nat.zero_add, Nat.reduceAdd, List.drop_succ_cons, List.drop_zero]
              replace h99 := h99.frz_ne (j := 25) (by decide)
              have h433 := h366.frzF
              replace h366 := h366.frz
              replace r429 := r429.frz_ne (j := 25) (by decide)
              replace h10 := h10.frz_ne (j := 25) (by decide)
              replace h49 := h49.frz_ne (j := 25) (by decide)
              replace h105 := h105.frz 25
              replace h368 := h368.frz 25 (by decide)
              replace h108 := h108.frz 25
              replace h370 := h370.frz 25 (by decide)
              replace hB := hB.frz 25 (by decide)
              generalize (frz 25 o426) = o434 at *
              obtain ⟨x435, hx435, b31⟩ := bind_some b31
              refine st_op (by decide) trivial ?_
              refine wf_cat r429 h366 hx435 (by decide) hB.keeps.size rfl rfl Try.underlying99 info2_t_spec_isPart_Apa rfl (by decide) ?_
              intro o436 w437 v438 h439 s440
              replace h99 := h99.stp s440 (by decide) (by decide)
              replace h366 := h366.stp s440 (by decide)
              replace h433 := h433.stp s440 (by decide)
              replace h10 := h10.stp s440 (by decide)
              replace h49 := h49.stp s440 (by decide)
              replace h105 := h105.stp s440 (by decide)
              replace h368 := h368.stp s440 (by decide)
              replace h108 := h108.stp s440 (by decide)
              replace h370 := h370.stp s440 (by decide)
              replace hB := hB.stp s440 (by decide)
              refine st_val (ex_assign rfl) (by decide) trivial ?_
              refine wpF_end (r := [(1, (.pointer (some ⟨b9, 0, none⟩))), (3, v438), (4, v98), (18, (.int .i64 (p0.Ends.length : Int))), (19, (.int .i64 i22))]) ⟨rfl, rfl, rfl, rfl, rfl, trivial⟩ ?_
              refine nb_norm ?_
              refine nx ?_
              refine wpC_region ?_
              refine st_val (ex_add rfl rfl (ck_in (by omega) (by omega))) (by decide) trivial ?_
              refine st_val (ex_move rfl) (by decide) trivial ?_
              refine wpF_end (r := [(1, (.pointer (some ⟨b9, 0, none⟩))), (3, v438), (4, v98), (18, (.int .i64 (p0.Ends.length : Int))), (19, (.int .i64 (i22 + 1)))]) ⟨rfl, rfl, rfl, rfl, rfl, trivial⟩ ?_
              refine nt_norm ?_
              have e441 := Option.some.inj b31
              subst e441
              refine to_k (r := [(1, (.pointer (some ⟨b9, 0, none⟩))), (3, v438), (4, v98), (18, (.int .i64 (p0.Ends.length : Int))), (19, (.int .i64 (i22 + 1)))]) ⟨rfl, rfl, rfl, rfl, rfl, trivial⟩ ?_
              intro a ha
              exact ⟨_, (by rw [← m28]; omega), i22 + 1, x435, x95, v438, v98, o436, n32, rfl, (by omega), ha, hB, h439, h99, h10⟩
            · exact fun _ _ h => h.elim
          · exact fun _ _ h => h.elim
        · exact fun _ _ h => h.elim
    · have r442 := forN_done t33 l26
      refine wp_of ha ?_
      refine wpC_seq ?_
      refine wpC_region ?_
      refine st_val (ex_lss rfl rfl) (by decide) trivial ?_
      refine wpF_end (r := [(1, (.pointer (some ⟨b9, 0, none⟩))), (3, v15), (4, v18), (18, (.int .i64 (p0.Ends.length : Int))), (19, (.int .i64 i22)), (20, (.bool (decide (i22 < (p0.Ends.length : Int)))))]) ⟨rfl, rfl, rfl, rfl, rfl, rfl, trivial⟩ ?_
      refine nx ?_
      refine wpC_seq ?_
      refine wpC_false (congrArg (fun b => some (Value.bool b)) (decide_eq_false t33)) ?_
      refine wpC_exit ?_
      refine nt_exit ?_
      refine nt_exit ?_
      refine nb_hit ?_
      refine np_norm ?_
      refine to_k (r := [(3, v15)]) ⟨rfl, trivial⟩ ?_
      intro a ha
      exact ⟨y14, y17, v15, v18, o20, r442, ha, hB, h16⟩
  · rintro a w21 ⟨y14, y17, v15, v18, o20, rfl, ha, hB, h16⟩
    dsimp only at hF
    refine ap_k ha ?_
    refine nx ?_
    refine wpC_seq ?_
    refine wpC_region ?_
    refine st_val (ex_move rfl) (by decide) trivial ?_
    refine st_val (ex_assign rfl) (by decide) trivial ?_
    refine wpF_end (r := [(2, v15)]) ⟨rfl, trivial⟩ ?_
    refine nx ?_
    refine wpC_ret ?_
    have e443 := Option.some.inj hF
    subst e443
    refine ret_post (P := Try.prog) (vs := [v15]) Try.results86 ⟨rfl, trivial⟩ ?_
    exact ⟨_, rt oo o20 w.heap.size 12 t, rfl, h16.rt hB (by decide) t, hB.keeps, rt_old _ _ _ _ _⟩
  · exact fun _ _ h => h.elim

def fS_AutomorphismCount_s1 (x20 : List T_isPart) : Int → T_isPart → (Int × Int) → Option (Lp (Int × Int) (Int × Int) (Int × Bool)) := fun (i33 : Int) (x43 : T_isPart) (s : Int × Int) =>
  (ck (s.2 + 1)) >>= fun x61 =>
  (
    if decide (i33 > 0) then
      (ck (i33 - 1)) >>= fun x67 =>
      (ix x20 x67) >>= fun x68 =>
      (fS_l1Same x68.code x43.code) >>= fun x148 =>
      some (!x148)
    else
      some false) >>= fun q62 =>
  if q62 then
    (ck (1 * x43.count)) >>= fun x207 =>
    (ck (s.1 * x207)) >>= fun x208 =>
    if decide (x208 > 1000000000000) then
      some (.ret (0, false))
    else
      some (.go (x208, 1))
  else
    (ck (x61 * x43.count)) >>= fun x212 =>
    (ck (s.1 * x212)) >>= fun x213 =>
    if decide (x213 > 1000000000000) then
      some (.ret (0, false))
    else
      some (.go (x213, x61))
def fS_AutomorphismCount (fuel : Nat) (p0 : T_Network) : Option (Int × Bool) :=
  (fS_neGood p0) >>= fun x12 =>
  if !x12 then
    some (0, false)
  else
    (fS_isParts fuel p0) >>= fun x20 =>
    (forI (fS_AutomorphismCount_s1 x20) x20 0 (1, 0)) >>= fun q34 =>
    match q34 with
    | .inl (y29, y30) =>
      some (y29, true)
    | .inr r' => some r'

def pS_AutomorphismCount (w : World) (r : Int × Bool) : Ending → World → Prop := fun e w' => e = .returned (.tuple #[.int .i64 r.1, .bool r.2]) ∧ Keeps w w'
set_option maxRecDepth 100000 in
set_option maxHeartbeats 2000000 in
theorem cS_AutomorphismCount (fuel : Nat) (w : World) (u0 : List Value) (p0 : T_Network) (g0 : Rp.rd zt w u0 p0) (r : Int × Bool) (hF : fS_AutomorphismCount fuel p0 = some r) :
    Calls Try.prog 51 #[.agg u0.toArray] w (pS_AutomorphismCount w r) := by
  unfold fS_AutomorphismCount at hF
  obtain ⟨v1, v3, v5, rfl, h2, h4, h6⟩ := g0
  have hB : Bs (fun _ => 1) (col (fun _ => 1)) w w := Bs.start _ _
  refine calls_start (n := 47) (vs := [(.agg #[v1, v3, v5])]) Try.func51 rfl rfl ?_
  refine wpC_seq ?_
  refine wpC_region ?_
  refine st_op (by decide) trivial ?_
  refine wf_box (o := (col (fun _ => 1))) w.heap.size 11 hB.keeps.size (cs := [v1, v3, v5]) rfl rfl ?_
  intro o7 w8 b9 h10 s11
  replace hB := hB.stp s11 (by decide)
  refine st_val (ex_assign rfl) (by decide) trivial ?_
  refine st_val (ex_assign rfl) (by decide) trivial ?_
  refine wpF_end (r := [(1, (.pointer (some ⟨b9, 0, none⟩)))]) ⟨rfl, trivial⟩ ?_
  refine nx ?_
  refine wpC_seq ?_
  refine wpC_seq ?_
  refine wpC_region ?_
  refine st_val (ex_loadA rfl Try.isAgg31 Try.sizeOf31 rfl h10.cells) (by decide) trivial ?_
  obtain ⟨x12, hx12, hF⟩ := bind_some hF
  refine st_op (by decide) trivial ?_
  refine wf_call (cS_neGood w8 _ p0 (⟨_, _, _, rfl, (h2.keep hB.keeps), (h4.keep hB.keeps), (h6.keep hB.keeps)⟩) x12 hx12) Try.call76 ⟨rfl, trivial⟩ ?_
  rintro e17 w13 ⟨rfl, k14⟩
  have s16 := k14.stp 999 o7
  refine ⟨_, rfl, ?_⟩
  replace h10 := h10.stp s16 (by decide)
  replace hB := hB.stp s16 (by decide)
  refine st_val (ex_not rfl) (by decide) trivial ?_
  refine wpF_end (r := [(1, (.pointer (some ⟨b9, 0, none⟩))), (11, (.bool (!x12)))]) ⟨rfl, rfl, trivial⟩ ?_
  refine nx ?_
  refine wpC_cond rfl (fun t18 => ?_) (fun t18 => ?_)
  · rw [if_pos t18] at hF
    refine wpC_seq ?_
    refine wpC_region ?_
    refine st_val (ex_assign rfl) (by decide) trivial ?_
    refine st_val (ex_assign rfl) (by decide) trivial ?_
    refine wpF_end (r := [(2, (.int .i64 0)), (3, (.bool false))]) ⟨rfl, rfl, trivial⟩ ?_
    refine nx ?_
    refine wpC_ret ?_
    refine nt_ret ?_
    have e19 := Option.some.inj hF
    subst e19
    refine ret_post (P := Try.prog) (vs := [(.int .i64 0), (.bool false)]) Try.results51 ⟨rfl, rfl, trivial⟩ ?_
    exact ⟨rfl, hB.keeps⟩
  · rw [if_neg (by rw [t18]; decide)] at hF
    refine wpC_skip ?_
    refine nx ?_
    refine wpC_seq ?_
    refine wpC_region ?_
    refine st_val (ex_assign rfl) (by decide) trivial ?_
    refine st_val (ex_assign rfl) (by decide) trivial ?_
    refine wpF_end (r := [(1, (.pointer (some ⟨b9, 0, none⟩))), (4, (.int .i64 1)), (5, (.int .i64 0))]) ⟨rfl, rfl, rfl, trivial⟩ ?_
    refine nx ?_
    refine wpC_seq ?_
    refine wpC_region ?_
    refine st_val (ex_loadA rfl Try.isAgg31 Try.sizeOf31 rfl h10.cells) (by decide) trivial ?_
    obtain ⟨x20, hx20, hF⟩ := bind_some hF
    refine st_op (by decide) trivial ?_
    refine wf_call (cS_isParts fuel w13 o7 13 (by decide) _ p0 (⟨_, _, _, rfl, (h2.keep hB.keeps), (h4.keep hB.keeps), (h6.keep hB.keeps)⟩) x20 hx20) Try.call86 ⟨rfl, trivial⟩ ?_
    rintro e27 w21 ⟨v22, o28, rfl, h23, k24, k25⟩
    have s26 := k24.stp' 13 k25
    replace h23 := h23.mono hB.keeps.size
    refine ⟨_, rfl, ?_⟩
    replace h10 := h10.stp s26 (by decide)
    replace hB := hB.stp s26 (by decide)
    refine st_val (ex_assign rfl) (by decide) trivial ?_
    refine wpF_end (r := [(4, (.int .i64 1)), (5, (.int .i64 0)), (6, v22)]) ⟨rfl, rfl, rfl, trivial⟩ ?_
    refine nx ?_
    refine wpC_seq ?_
    refine wpC_seq ?_
    refine wpC_region ?_
    refine st_val (ex_move rfl) (by decide) trivial ?_
    refine st_val (ex_lenO rfl h23 Try.underlying99) (by decide) trivial ?_
    refine st_val (ex_move rfl) (by decide) trivial ?_
    refine wpF_end (r := [(4, (.int .i64 1)), (5, (.int .i64 0)), (6, v22), (14, v22), (15, (.int .i64 (x20.length : Int))), (16, (.int .i64 0))]) ⟨rfl, rfl, rfl, rfl, rfl, rfl, trivial⟩ ?_
    refine nx ?_
    obtain ⟨q34, hq34, hF⟩ := bind_some hF
    refine wpC_cutN (fun a w32 => ∃ (y29 : Int) (y30 : Int) (o31 : Tg), q34 = .inl (y29, y30) ∧ Fr a 47 [(4, (.int .i64 y29))] ∧ Bs (fun _ => 1) o31 w w32) (fun a w' => ∃ r', q34 = .inr r' ∧ bodyPost Try.prog Try.f51 (pS_AutomorphismCount w r') .ret a w') ?_ ?_ ?_
    · refine wpC_block ?_
      refine wpC_loop (fun (K : Nat) a w32 => ∃ (i33 : Int) (y29 : Int) (y30 : Int) (o31 : Tg), forI (fS_AutomorphismCount_s1 x20) (x20.drop i33.toNat) i33 (y29, y30) = some q34 ∧ (x20.drop i33.toNat).length = K ∧ 0 ≤ i33 ∧ Fr a 47 [(4, (.int .i64 y29)), (5, (.int .i64 y30)), (6, v22), (14, v22), (15, (.int .i64 (x20.length : Int))), (16, (.int .i64 i33))] ∧ Bs (fun _ => 1) o31 w w32 ∧ Ow w.heap.size 102 13 o31 w32 v22 x20) _ (fun a ha => ⟨0, 1, 0, o28, hq34, rfl, Int.le_refl 0, ha.sub (r := [(4, (.int .i64 1)), (5, (.int .i64 0)), (6, v22), (14, v22), (15, (.int .i64 (x20.length : Int))), (16, (.int .i64 0))]) ⟨rfl, rfl, rfl, rfl, rfl, rfl, trivial⟩, hB, h23⟩) ?_
      rintro K38 a w32 ⟨i33, y29, y30, o31, l35, m37, z36, ha, hB, h23⟩
      by_cases t42 : i33 < (x20.length : Int)
      · obtain ⟨x43, q39, hx43, b40, n41⟩ := forI_cons z36 t42 l35
        have hle := h23.len_le
        dsimp only [fS_AutomorphismCount_s1] at b40
        refine wp_of ha ?_
        refine wpC_seq ?_
        refine wpC_region ?_
        refine st_val (ex_lss rfl rfl) (by decide) trivial ?_
        refine wpF_end (r := [(4, (.int .i64 y29)), (5, (.int .i64 y30)), (6, v22), (14, v22), (15, (.int .i64 (x20.length : Int))), (16, (.int .i64 i33)), (17, (.bool (decide (i33 < (x20.length : Int)))))]) ⟨rfl, rfl, rfl, rfl, rfl, rfl, rfl, trivial⟩ ?_
        refine nx ?_
        refine wpC_seq ?_
        refine wpC_true (congrArg (fun b => some (Value.bool b)) (decide_eq_true t42)) ?_
        refine wpC_skip ?_
        refine nx ?_
        refine wpC_seq ?_
        refine wpC_block ?_
        refine wpC_seq ?_
        refine wpC_region ?_
        refine st_val (ex_move rfl) (by decide) trivial ?_
        refine st_op (by decide) trivial ?_
        refine wf_atW h23 hx43 rfl rfl Try.underlying99 Try.sizeOf102 ?_
        intro b44 f45 c46 h47 h48
        obtain ⟨v49, v51, rfl, h50, h52⟩ := h48
        refine st_val (ex_loadA rfl Try.isAgg102 Try.sizeOf102 rfl h47) (by decide) trivial ?_
        refine st_op (by decide) trivial ?_
        refine wf_alloc (o := o31) w.heap.size 14 hB.keeps.size (cs := [(.slice none 0 0), (.slice none 0 0), (.int .i64 0)]) Try.zeroValue102 rfl ?_
        intro o53 w54 b55 h56 s57
        replace h23 := h23.stp s57 (by decide) (by decide)
        replace h50 := h50.stp s57 (by decide)
        replace h52 := h52.stp s57 (by decide)
        replace hB := hB.stp s57 (by decide)
        refine st_val (ex_assign rfl) (by decide) trivial ?_
        refine st_op0 trivial ?_
        refine wf_storeA h56 rfl rfl rfl info1_t_spec_isPart_Apa (by intro c hc; simp only [List.mem_cons, List.not_mem_nil, or_false] at hc; rcases hc with rfl | rfl | rfl <;> first | rfl | exact h50.one1 | exact h52.one1) ?_
        intro w58 h60 s59
        replace h23 := h23.stp s59 (by decide) (by decide)
        replace h50 := h50.stp s59 (by decide)
        replace h52 := h52.stp s59 (by decide)
        replace hB := hB.stp s59 (by decide)
        refine wpF_end (r := [(4, (.int .i64 y29)), (5, (.int .i64 y30)), (6, v22), (7, (.int .i64 i33)), (8, (.pointer (some ⟨b55, 0, none⟩))), (14, v22), (15, (.int .i64 (x20.length : Int))), (16, (.int .i64 i33))]) ⟨rfl, rfl, rfl, rfl, rfl, rfl, rfl, rfl, trivial⟩ ?_
        refine nx ?_
        refine wpC_seq ?_
        refine wpC_region ?_
        refine st_val (ex_move rfl) (by decide) trivial ?_
        obtain ⟨x61, hx61, b40⟩ := bind_some b40
        refine st_val (ex_add rfl rfl hx61) (by decide) trivial ?_
        refine st_val (ex_assign rfl) (by decide) trivial ?_
        refine wpF_end (r := [(4, (.int .i64 y29)), (5, (.int .i64 x61)), (6, v22), (7, (.int .i64 i33)), (8, (.pointer (some ⟨b55, 0, none⟩))), (14, v22), (15, (.int .i64 (x20.length : Int))), (16, (.int .i64 i33))]) ⟨rfl, rfl, rfl, rfl, rfl, rfl, rfl, rfl, trivial⟩ ?_
        refine nx ?_
        refine wpC_seq ?_
        refine wpC_seq ?_
        obtain ⟨q62, hq62, b40⟩ := bind_some b40
        refine wpC_cutN (fun a65 w64 => ∃ o63 : Tg, Fr a65 47 [(4, (.int .i64 y29)), (5, (.int .i64 x61)), (6, v22), (8, (.pointer (some ⟨b55, 0, none⟩))), (14, v22), (15, (.int .i64 (x20.length : Int))), (16, (.int .i64 i33)), (36, (.bool q62))] ∧ Bs (fun _ => 1) o63 w w64 ∧ Ow w.heap.size 102 13 o63 w64 v22 x20 ∧ Bx w.heap.size 14 o63 w64 b55 102 [v49, v51, (.int .i64 x43.count)] ∧ RdL o63 w64 v49 (x43.code : List Int) ∧ RdL o63 w64 v51 (x43.walk : List Int)) (fun _ _ => False) ?_ ?_ (fun _ _ h => h.elim)
        · rcases Bool.eq_false_or_eq_true (decide (i33 > 0)) with t66 | t66
          · rw [if_pos t66] at hq62
            obtain ⟨x67, hx67, hq62⟩ := bind_some hq62
            obtain ⟨x68, hx68, hq62⟩ := bind_some hq62
            refine wpC_drawn (o := o53) [(4, (.int .i64 y29)), (5, (.int .i64 x61)), (6, v22), (7, (.int .i64 i33)), (8, (.pointer (some ⟨b55, 0, none⟩))), (14, v22), (15, (.int .i64 (x20.length : Int))), (16, (.int .i64 i33))] [4, 5, 6, 7, 8, 14, 15, 16] [23, 24, 25, 26, 27, 28, 29, 30, 31, 32, 33] [[], [0], [1], [2], [2], [2, 4], [2, 3, 5], [2, 6], [2, 7], [2], [2, 9]] [none, none, none, none, none, none, none, none, none, none, none] [999, 999, 999, 999, 999, 999, 999, 999, 999, 999, 999] [0, 0, 0, 0, 0, 0, 13, 13, 0, 0, 0] [999] [fun v _ _ => v = (.int .i64 i33), fun v _ _ => v = (.bool (decide (i33 > 0))), fun v _ _ => v = (.bool (decide (i33 > 0))), fun v _ _ => v = v22, fun v _ _ => v = (.int .i64 i33), fun v _ _ => v = (.int .i64 x67), fun v o w9 => ∃ vl, v = adr vl (x67.toNat * Rp.sz T_isPart) ∧ Ow w.heap.size 102 13 o w9 vl x20, fun v o w9 => ∃ vl, v = adr vl (x67.toNat * Rp.sz T_isPart + 0) ∧ Ow w.heap.size 102 13 o w9 vl x20, fun v o w9 => RdL o w9 v (x68.code : List Int), fun v _ _ => v = (.pointer (some ⟨b55, 0 + 0, none⟩)), fun v _ _ => v = v49] (fun o8 w8 => Bs (fun _ => 1) o8 w w8 ∧ Ow w.heap.size 102 13 o8 w8 v22 x20 ∧ Bx w.heap.size 14 o8 w8 b55 102 [v49, v51, (.int .i64 x43.count)] ∧ RdL o8 w8 v49 (x43.code : List Int) ∧ RdL o8 w8 v51 (x43.walk : List Int)) follows_mixed (by kernel_rfl) rfl ⟨rfl, rfl, rfl, rfl, rfl, rfl, rfl, rfl, trivial⟩ ⟨hB, h23, h60, h50, h52⟩ ?_ ⟨st_eq _, st_eq _, st_eq _, st_eq _, st_eq _, st_eq _, fun _ _ _ _ _ _ h0 hb ⟨vl, e, h⟩ hs => ⟨vl, e, h.stp hs h0.1 (Ne.symm hb)⟩, fun _ _ _ _ _ _ h0 hb ⟨vl, e, h⟩ hs => ⟨vl, e, h.stp hs h0.1 (Ne.symm hb)⟩, fun _ _ _ _ _ _ h0 hb h hs => h.stp hs h0.1, st_eq _, st_eq _, trivial⟩ ?_ ?_
            · rintro t9 o1 w1 o2 w2 ht9 ⟨hB, h23, h60, h50, h52⟩ hs9
              have ht9 : t9 = 999 := by simpa using ht9
              subst ht9
              all_goals exact ⟨hB.stp hs9 (by decide), h23.stp hs9 (by decide) (by decide), h60.stp hs9 (by decide), h50.stp hs9 (by decide), h52.stp hs9 (by decide)⟩
            · refine ⟨?_, ?_, ?_, ?_, ?_, ?_, ?_, ?_, ?_, ?_, ?_, trivial⟩
              · rintro o77 w78 a79 ha ⟨hB, h23, h60, h50, h52⟩ -
                refine opS_of ha (trivial) ?_
                refine op1_val (ex_move rfl) ?_
                exact ⟨_, Stp.refl _ _ _, rfl⟩
              · rintro o80 w81 a82 ha ⟨hB, h23, h60, h50, h52⟩ ⟨r83, -⟩
                have ha := Fr.cons (d := 23) ha r83
                refine opS_of ha (trivial) ?_
                refine op1_val (ex_gtr rfl rfl) ?_
                exact ⟨_, Stp.refl _ _ _, rfl⟩
              · rintro o84 w85 a86 ha ⟨hB, h23, h60, h50, h52⟩ ⟨r87, -⟩
                have ha := Fr.cons (d := 24) ha r87
                refine opS_of ha (trivial) ?_
                refine op1_val (ex_move rfl) ?_
                exact ⟨_, Stp.refl _ _ _, rfl⟩
              · rintro o88 w89 a90 ha ⟨hB, h23, h60, h50, h52⟩ ⟨r91, -⟩
                have ha := Fr.cons (d := 25) ha r91
                refine opS_of ha (⟨_, rfl, (congrArg (fun b => some (Value.bool b)) t66)⟩) ?_
                refine op1_val (ex_move rfl) ?_
                exact ⟨_, Stp.refl _ _ _, rfl⟩
              · rintro o92 w93 a94 ha ⟨hB, h23, h60, h50, h52⟩ ⟨r95, -⟩
                have ha := Fr.cons (d := 25) ha r95
                refine opS_of ha (⟨_, rfl, (congrArg (fun b => some (Value.bool b)) t66)⟩) ?_
                refine op1_val (ex_move rfl) ?_
                exact ⟨_, Stp.refl _ _ _, rfl⟩
              · rintro o96 w97 a98 ha ⟨hB, h23, h60, h50, h52⟩ ⟨r99, r100, -⟩
                have ha := Fr.cons (d := 25) ha r99
                have ha := Fr.cons (d := 27) ha r100
                refine opS_of ha (⟨_, rfl, (congrArg (fun b => some (Value.bool b)) t66)⟩) ?_
                refine op1_val (ex_sub rfl rfl hx67) ?_
                exact ⟨_, Stp.refl _ _ _, rfl⟩
              · rintro o101 w102 a103 ha ⟨hB, h23, h60, h50, h52⟩ ⟨r104, r105, r106, -⟩
                have ha := Fr.cons (d := 25) ha r104
                have ha := Fr.cons (d := 26) ha r105
                have ha := Fr.cons (d := 28) ha r106
                refine opS_of ha (⟨_, rfl, (congrArg (fun b => some (Value.bool b)) t66)⟩) ?_
                refine wd_indexW h23 hx68 rfl rfl Try.underlying99 Try.sizeOf102 ?_
                exact ⟨_, Stp.refl _ _ _, ⟨_, rfl, h23⟩⟩
              · rintro o107 w108 a109 ha ⟨hB, h23, h60, h50, h52⟩ ⟨r110, r111, -⟩
                have ha := Fr.cons (d := 25) ha r110
                obtain ⟨v112, e113, h114⟩ := r111
                have ha := Fr.cons (d := 29) ha e113
                refine opS_of ha (⟨_, rfl, (congrArg (fun b => some (Value.bool b)) t66)⟩) ?_
                refine wd_field (RdL.plc h114.z hx68) rfl Try.underlying102 rfl Try.sizeOf23 ?_
                exact ⟨_, Stp.refl _ _ _, ⟨_, rfl, h114⟩⟩
              · rintro o115 w116 a117 ha ⟨hB, h23, h60, h50, h52⟩ ⟨r118, r119, -⟩
                have ha := Fr.cons (d := 25) ha r118
                obtain ⟨v120, e121, h122⟩ := r119
                have ha := Fr.cons (d := 30) ha e121
                refine opS_of ha (⟨_, rfl, (congrArg (fun b => some (Value.bool b)) t66)⟩) ?_
                refine wd_loadFW h122 hx68 (of_decide_eq_true rfl) rfl Try.isAgg23 ?_
                intro c123 c124 h125 h126
                obtain ⟨v127, v129, rfl, h128, h130⟩ := h125
                replace h126 : some v127 = some c124 := h126
                cases h126
                exact ⟨_, Stp.refl _ _ _, h128⟩
              · rintro o131 w132 a133 ha ⟨hB, h23, h60, h50, h52⟩ ⟨r134, -⟩
                have ha := Fr.cons (d := 25) ha r134
                refine opS_of ha (⟨_, rfl, (congrArg (fun b => some (Value.bool b)) t66)⟩) ?_
                refine op1_val (ex_field rfl Try.underlying102 rfl Try.sizeOf23) ?_
                exact ⟨_, Stp.refl _ _ _, rfl⟩
              · rintro o135 w136 a137 ha ⟨hB, h23, h60, h50, h52⟩ ⟨r138, r139, -⟩
                have ha := Fr.cons (d := 25) ha r138
                have ha := Fr.cons (d := 32) ha r139
                refine opS_of ha (⟨_, rfl, (congrArg (fun b => some (Value.bool b)) t66)⟩) ?_
                refine op1_val (ex_load1 rfl Try.isAgg23 (h60.cell rfl)) ?_
                exact ⟨_, Stp.refl _ _ _, rfl⟩
            rintro o140 w141 a142 ha ⟨hB, h23, h60, h50, h52⟩ ⟨-, -, r143, -, -, -, -, -, r144, -, r145, -⟩
            have ha := Fr.cons (d := 25) ha r143
            replace r144 : RdL o140 w141 (a142.tmps.getD 31 undef) (x68.code : List Int) := r144
            generalize e147 : a142.tmps.getD 31 undef = v146 at r144
            have ha := Fr.cons (d := 31) ha e147
            have ha := Fr.cons (d := 33) ha r145
            refine wl_of ha ?_
            simp only [List.length_cons, List.length_nil, Nat.zero_add, Nat.reduceAdd, List.drop_succ_cons, List.drop_zero]
            obtain ⟨x148, hx148, hq62⟩ := bind_some hq62
            refine st_op (by decide) ⟨_, rfl, (congrArg (fun b => some (Value.bool b)) t66)⟩ ?_
            refine wf_call (cS_l1Same w141 _ x68.code r144.z _ x43.code h50.z x148 hx148) Try.call56 ⟨rfl, rfl, trivial⟩ ?_
            rintro e153 w149 ⟨rfl, k150⟩
            have s152 := k150.stp 999 o140
            refine ⟨_, rfl, ?_⟩
            replace h23 := h23.stp s152 (by decide) (by decide)
            replace r144 := r144.stp s152 (by decide)
            replace h50 := h50.stp s152 (by decide)
            replace h60 := h60.stp s152 (by decide)
            replace h52 := h52.stp s152 (by decide)
            replace hB := hB.stp s152 (by decide)
            refine st_val (ex_not rfl) (by decide) ⟨_, rfl, (congrArg (fun b => some (Value.bool b)) t66)⟩ ?_
            refine st_val (ex_pick_t (congrArg (fun b => some (Value.bool b)) t66) rfl) (by decide) trivial ?_
            have e154 := Option.some.inj hq62
            subst e154
            refine wpF_end (r := [(4, (.int .i64 y29)), (5, (.int .i64 x61)), (6, v22), (8, (.pointer (some ⟨b55, 0, none⟩))), (14, v22), (15, (.int .i64 (x20.length : Int))), (16, (.int .i64 i33)), (36, (.bool (!x148)))]) ⟨rfl, rfl, rfl, rfl, rfl, rfl, rfl, rfl, trivial⟩ ?_
            refine np_norm (fun a ha => ⟨o140, ha, hB, h23, h60, h50, h52⟩)
          · rw [if_neg (by rw [t66]; decide)] at hq62
            refine wpC_drawn (o := o53) [(4, (.int .i64 y29)), (5, (.int .i64 x61)), (6, v22), (7, (.int .i64 i33)), (8, (.pointer (some ⟨b55, 0, none⟩))), (14, v22), (15, (.int .i64 (x20.length : Int))), (16, (.int .i64 i33))] [4, 5, 6, 7, 8, 14, 15, 16] [23, 24, 25, 26, 27, 28, 29, 30, 31, 32, 33] [[], [0], [1], [2], [2], [2], [2], [2], [2], [2], [2]] [none, none, none, none, none, none, none, none, none, none, none] [999, 999, 999, 999, 999, 999, 999, 999, 999, 999, 999] [0, 0, 0, 0, 0, 0, 0, 0, 0, 0, 0] [999] [fun v _ _ => v = (.int .i64 i33), fun v _ _ => v = (.bool (decide (i33 > 0))), fun v _ _ => v = (.bool (decide (i33 > 0))), fun v _ _ => v = undef, fun v _ _ => v = undef, fun v _ _ => v = undef, fun v _ _ => v = undef, fun v _ _ => v = undef, fun v _ _ => v = undef, fun v _ _ => v = undef, fun v _ _ => v = undef] (fun o8 w8 => Bs (fun _ => 1) o8 w w8 ∧ Ow w.heap.size 102 13 o8 w8 v22 x20 ∧ Bx w.heap.size 14 o8 w8 b55 102 [v49, v51, (.int .i64 x43.count)] ∧ RdL o8 w8 v49 (x43.code : List Int) ∧ RdL o8 w8 v51 (x43.walk : List Int)) follows_mixed (by kernel_rfl) rfl ⟨rfl, rfl, rfl, rfl, rfl, rfl, rfl, rfl, trivial⟩ ⟨hB, h23, h60, h50, h52⟩ ?_ ⟨st_eq _, st_eq _, st_eq _, st_eq _, st_eq _, st_eq _, st_eq _, st_eq _, st_eq _, st_eq _, st_eq _, trivial⟩ ?_ ?_
            · rintro t9 o1 w1 o2 w2 ht9 ⟨hB, h23, h60, h50, h52⟩ hs9
              have ht9 : t9 = 999 := by simpa using ht9
              subst ht9
              all_goals exact ⟨hB.stp hs9 (by decide), h23.stp hs9 (by decide) (by decide), h60.stp hs9 (by decide), h50.stp hs9 (by decide), h52.stp hs9 (by decide)⟩
            · refine ⟨?_, ?_, ?_, ?_, ?_, ?_, ?_, ?_, ?_, ?_, ?_, trivial⟩
              · rintro o155 w156 a157 ha ⟨hB, h23, h60, h50, h52⟩ -
                refine opS_of ha (trivial) ?_
                refine op1_val (ex_move rfl) ?_
                exact ⟨_, Stp.refl _ _ _, rfl⟩
              · rintro o158 w159 a160 ha ⟨hB, h23, h60, h50, h52⟩ ⟨r161, -⟩
                have ha := Fr.cons (d := 23) ha r161
                refine opS_of ha (trivial) ?_
                refine op1_val (ex_gtr rfl rfl) ?_
                exact ⟨_, Stp.refl _ _ _, rfl⟩
              · rintro o162 w163 a164 ha ⟨hB, h23, h60, h50, h52⟩ ⟨r165, -⟩
                have ha := Fr.cons (d := 24) ha r165
                refine opS_of ha (trivial) ?_
                refine op1_val (ex_move rfl) ?_
                exact ⟨_, Stp.refl _ _ _, rfl⟩
              · rintro o166 w167 a168 ha ⟨hB, h23, h60, h50, h52⟩ ⟨r169, -⟩
                have ha := Fr.cons (d := 25) ha r169
                exact opS_no ha rfl rfl rfl (by rw [t66]; rfl) ⟨_, Stp.refl _ _ _, rfl⟩
              · rintro o170 w171 a172 ha ⟨hB, h23, h60, h50, h52⟩ ⟨r173, -⟩
                have ha := Fr.cons (d := 25) ha r173
                exact opS_no ha rfl rfl rfl (by rw [t66]; rfl) ⟨_, Stp.refl _ _ _, rfl⟩
              · rintro o174 w175 a176 ha ⟨hB, h23, h60, h50, h52⟩ ⟨r177, -⟩
                have ha := Fr.cons (d := 25) ha r177
                exact opS_no ha rfl rfl rfl (by rw [t66]; rfl) ⟨_, Stp.refl _ _ _, rfl⟩
              · rintro o178 w179 a180 ha ⟨hB, h23, h60, h50, h52⟩ ⟨r181, -⟩
                have ha := Fr.cons (d := 25) ha r181
                exact opS_no ha rfl rfl rfl (by rw [t66]; rfl) ⟨_, Stp.refl _ _ _, rfl⟩
              · rintro o182 w183 a184 ha ⟨hB, h23, h60, h50, h52⟩ ⟨r185, -⟩
                have ha := Fr.cons (d := 25) ha r185
                exact opS_no ha rfl rfl rfl (by rw [t66]; rfl) ⟨_, Stp.refl _ _ _, rfl⟩
              · rintro o186 w187 a188 ha ⟨hB, h23, h60, h50, h52⟩ ⟨r189, -⟩
                have ha := Fr.cons (d := 25) ha r189
                exact opS_no ha rfl rfl rfl (by rw [t66]; rfl) ⟨_, Stp.refl _ _ _, rfl⟩
              · rintro o190 w191 a192 ha ⟨hB, h23, h60, h50, h52⟩ ⟨r193, -⟩
                have ha := Fr.cons (d := 25) ha r193
                exact opS_no ha rfl rfl rfl (by rw [t66]; rfl) ⟨_, Stp.refl _ _ _, rfl⟩
              · rintro o194 w195 a196 ha ⟨hB, h23, h60, h50, h52⟩ ⟨r197, -⟩
                have ha := Fr.cons (d := 25) ha r197
                exact opS_no ha rfl rfl rfl (by rw [t66]; rfl) ⟨_, Stp.refl _ _ _, rfl⟩
            rintro o198 w199 a200 ha ⟨hB, h23, h60, h50, h52⟩ ⟨-, -, r201, -, -, -, -, -, r202, -, r203, -⟩
            have ha := Fr.cons (d := 25) ha r201
            have ha := Fr.cons (d := 31) ha r202
            have ha := Fr.cons (d := 33) ha r203
            refine wl_of ha ?_
            simp only [List.length_cons, List.length_nil, Nat.zero_add, Nat.reduceAdd, List.drop_succ_cons, List.drop_zero]
            refine st_no rfl rfl (by rw [t66]; rfl) (by decide) ?_
            refine st_no rfl rfl (by rw [t66]; rfl) (by decide) ?_
            refine st_val (ex_pick_f (congrArg (fun b => some (Value.bool b)) t66) rfl) (by decide) trivial ?_
            have e204 := Option.some.inj hq62
            subst e204
            refine wpF_end (r := [(4, (.int .i64 y29)), (5, (.int .i64 x61)), (6, v22), (8, (.pointer (some ⟨b55, 0, none⟩))), (14, v22), (15, (.int .i64 (x20.length : Int))), (16, (.int .i64 i33)), (36, (.bool false))]) ⟨rfl, rfl, rfl, rfl, rfl, rfl, rfl, rfl, trivial⟩ ?_
            refine np_norm (fun a ha => ⟨o198, ha, hB, h23, h60, h50, h52⟩)
        rintro a205 w64 ⟨o63, ha, hB, h23, h60, h50, h52⟩
        refine ap_k ha ?_
        refine nx ?_
        refine wpC_cond rfl (fun t206 => ?_) (fun t206 => ?_)
        · rw [if_pos t206] at b40
          refine wpC_region ?_
          refine st_val (ex_assign rfl) (by decide) trivial ?_
          refine wpF_end (r := [(4, (.int .i64 y29)), (5, (.int .i64 1)), (6, v22), (8, (.pointer (some ⟨b55, 0, none⟩))), (14, v22), (15, (.int .i64 (x20.length : Int))), (16, (.int .i64 i33))]) ⟨rfl, rfl, rfl, rfl, rfl, rfl, rfl, trivial⟩ ?_
          refine nx ?_
          refine wpC_seq ?_
          refine wpC_region ?_
          refine st_val (ex_move rfl) (by decide) trivial ?_
          refine st_val (ex_move rfl) (by decide) trivial ?_
          refine st_val (ex_field rfl Try.underlying102 rfl Try.sizeOf3) (by decide) trivial ?_
          refine st_val (ex_load1 rfl Try.isAgg3 (h60.cell rfl)) (by decide) trivial ?_
          obtain ⟨x207, hx207, b40⟩ := bind_some b40
          refine st_val (ex_mul rfl rfl hx207) (by decide) trivial ?_
          obtain ⟨x208, hx208, b40⟩ := bind_some b40
          refine st_val (ex_mul rfl rfl hx208) (by decide) trivial ?_
          refine st_val (ex_assign rfl) (by decide) trivial ?_
          refine wpF_end (r := [(4, (.int .i64 x208)), (5, (.int .i64 1)), (6, v22), (14, v22), (15, (.int .i64 (x20.length : Int))), (16, (.int .i64 i33))]) ⟨rfl, rfl, rfl, rfl, rfl, rfl, trivial⟩ ?_
          refine nx ?_
          refine wpC_seq ?_
          refine wpC_region ?_
          refine st_val (ex_move rfl) (by decide) trivial ?_
          refine st_val (ex_gtr rfl rfl) (by decide) trivial ?_
          refine wpF_end (r := [(4, (.int .i64 x208)), (5, (.int .i64 1)), (6, v22), (14, v22), (15, (.int .i64 (x20.length : Int))), (16, (.int .i64 i33)), (44, (.bool (decide (x208 > 1000000000000))))]) ⟨rfl, rfl, rfl, rfl, rfl, rfl, rfl, trivial⟩ ?_
          refine nx ?_
          refine wpC_cond rfl (fun t209 => ?_) (fun t209 => ?_)
          · rw [if_pos t209] at b40
            refine wpC_seq ?_
            refine wpC_region ?_
            refine st_val (ex_assign rfl) (by decide) trivial ?_
            refine st_val (ex_assign rfl) (by decide) trivial ?_
            refine wpF_end (r := [(2, (.int .i64 0)), (3, (.bool false))]) ⟨rfl, rfl, trivial⟩ ?_
            refine nx ?_
            refine wpC_ret ?_
            refine nb_ret ?_
            refine nt_ret ?_
            refine nt_ret ?_
            refine nb_ret ?_
            refine np_ret ?_
            have e210 := Option.some.inj b40
            subst e210
            refine fun a ha => ⟨_, n41, ?_⟩
            refine ret_post (P := Try.prog) (vs := [(.int .i64 0), (.bool false)]) Try.results51 ⟨rfl, rfl, trivial⟩ ?_ a ha
            exact ⟨rfl, hB.keeps⟩
          · rw [if_neg (by rw [t209]; decide)] at b40
            refine wpC_skip ?_
            refine nb_norm ?_
            refine nx ?_
            refine wpC_region ?_
            refine st_val (ex_add rfl rfl (ck_in (by omega) (by omega))) (by decide) trivial ?_
            refine st_val (ex_move rfl) (by decide) trivial ?_
            refine wpF_end (r := [(4, (.int .i64 x208)), (5, (.int .i64 1)), (6, v22), (14, v22), (15, (.int .i64 (x20.length : Int))), (16, (.int .i64 (i33 + 1)))]) ⟨rfl, rfl, rfl, rfl, rfl, rfl, trivial⟩ ?_
            refine nt_norm ?_
            have e211 := Option.some.inj b40
            subst e211
            refine to_k (r := [(4, (.int .i64 x208)), (5, (.int .i64 1)), (6, v22), (14, v22), (15, (.int .i64 (x20.length : Int))), (16, (.int .i64 (i33 + 1)))]) ⟨rfl, rfl, rfl, rfl, rfl, rfl, trivial⟩ ?_
            intro a ha
            exact ⟨_, (by rw [← m37]; simp only [List.length_drop]; omega), i33 + 1, x208, 1, o63, n41, rfl, (by omega), ha, hB, h23⟩
        · rw [if_neg (by rw [t206]; decide)] at b40
          refine wpC_skip ?_
          refine nx ?_
          refine wpC_seq ?_
          refine wpC_region ?_
          refine st_val (ex_move rfl) (by decide) trivial ?_
          refine st_val (ex_move rfl) (by decide) trivial ?_
          refine st_val (ex_field rfl Try.underlying102 rfl Try.sizeOf3) (by decide) trivial ?_
          refine st_val (ex_load1 rfl Try.isAgg3 (h60.cell rfl)) (by decide) trivial ?_
          obtain ⟨x212, hx212, b40⟩ := bind_some b40
          refine st_val (ex_mul rfl rfl hx212) (by decide) trivial ?_
          obtain ⟨x213, hx213, b40⟩ := bind_some b40
          refine st_val (ex_mul rfl rfl hx213) (by decide) trivial ?_
          refine st_val (ex_assign rfl) (by decide) trivial ?_
          refine wpF_end (r := [(4, (.int .i64 x213)), (5, (.int .i64 x61)), (6, v22), (14, v22), (15, (.int .i64 (x20.length : Int))), (16, (.int .i64 i33))]) ⟨rfl, rfl, rfl, rfl, rfl, rfl, trivial⟩ ?_
          refine nx ?_
          refine wpC_seq ?_
          refine wpC_region ?_
          refine st_val (ex_move rfl) (by decide) trivial ?_
          refine st_val (ex_gtr rfl rfl) (by decide) trivial ?_
          refine wpF_end (r := [(4, (.int .i64 x213)), (5, (.int .i64 x61)), (6, v22), (14, v22), (15, (.int .i64 (x20.length : Int))), (16, (.int .i64 i33)), (44, (.bool (decide (x213 > 1000000000000))))]) ⟨rfl, rfl, rfl, rfl, rfl, rfl, rfl, trivial⟩ ?_
          refine nx ?_
          refine wpC_cond rfl (fun t214 => ?_) (fun t214 => ?_)
          · rw [if_pos t214] at b40
            refine wpC_seq ?_
            refine wpC_region ?_
            refine st_val (ex_assign rfl) (by decide) trivial ?_
            refine st_val (ex_assign rfl) (by decide) trivial ?_
            refine wpF_end (r := [(2, (.int .i64 0)), (3, (.bool false))]) ⟨rfl, rfl, trivial⟩ ?_
            refine nx ?_
            refine wpC_ret ?_
            refine nb_ret ?_
            refine nt_ret ?_
            refine nt_ret ?_
            refine nb_ret ?_
            refine np_ret ?_
            have e215 := Option.some.inj b40
            subst e215
            refine fun a ha => ⟨_, n41, ?_⟩
            refine ret_post (P := Try.prog) (vs := [(.int .i64 0), (.bool false)]) Try.results51 ⟨rfl, rfl, trivial⟩ ?_ a ha
            exact ⟨rfl, hB.keeps⟩
          · rw [if_neg (by rw [t214]; decide)] at b40
            refine wpC_skip ?_
            refine nb_norm ?_
            refine nx ?_
            refine wpC_region ?_
            refine st_val (ex_add rfl rfl (ck_in (by omega) (by omega))) (by decide) trivial ?_
            refine st_val (ex_move rfl) (by decide) trivial ?_
            refine wpF_end (r := [(4, (.int .i64 x213)), (5, (.int .i64 x61)), (6, v22), (14, v22), (15, (.int .i64 (x20.length : Int))), (16, (.int .i64 (i33 + 1)))]) ⟨rfl, rfl, rfl, rfl, rfl, rfl, trivial⟩ ?_
            refine nt_norm ?_
            have e216 := Option.some.inj b40
            subst e216
            refine to_k (r := [(4, (.int .i64 x213)), (5, (.int .i64 x61)), (6, v22), (14, v22), (15, (.int .i64 (x20.length : Int))), (16, (.int .i64 (i33 + 1)))]) ⟨rfl, rfl, rfl, rfl, rfl, rfl, trivial⟩ ?_
            intro a ha
            exact ⟨_, (by rw [← m37]; simp only [List.length_drop]; omega), i33 + 1, x213, x61, o63, n41, rfl, (by omega), ha, hB, h23⟩
      · have r217 := forI_done t42 l35
        refine wp_of ha ?_
        refine wpC_seq ?_
        refine wpC_region ?_
        refine st_val (ex_lss rfl rfl) (by decide) trivial ?_
        refine wpF_end (r := [(4, (.int .i64 y29)), (5, (.int .i64 y30)), (6, v22), (14, v22), (15, (.int .i64 (x20.length : Int))), (16, (.int .i64 i33)), (17, (.bool (decide (i33 < (x20.length : Int)))))]) ⟨rfl, rfl, rfl, rfl, rfl, rfl, rfl, trivial⟩ ?_
        refine nx ?_
        refine wpC_seq ?_
        refine wpC_false (congrArg (fun b => some (Value.bool b)) (decide_eq_false t42)) ?_
        refine wpC_exit ?_
        refine nt_exit ?_
        refine nt_exit ?_
        refine nb_hit ?_
        refine np_norm ?_
        refine to_k (r := [(4, (.int .i64 y29))]) ⟨rfl, trivial⟩ ?_
        intro a ha
        exact ⟨y29, y30, o31, r217, ha, hB⟩
    · rintro a w32 ⟨y29, y30, o31, rfl, ha, hB⟩
      dsimp only at hF
      refine ap_k ha ?_
      refine nx ?_
      refine wpC_seq ?_
      refine wpC_region ?_
      refine st_val (ex_move rfl) (by decide) trivial ?_
      refine st_val (ex_assign rfl) (by decide) trivial ?_
      refine st_val (ex_assign rfl) (by decide) trivial ?_
      refine wpF_end (r := [(2, (.int .i64 y29)), (3, (.bool true))]) ⟨rfl, rfl, trivial⟩ ?_
      refine nx ?_
      refine wpC_ret ?_
      have e218 := Option.some.inj hF
      subst e218
      refine ret_post (P := Try.prog) (vs := [(.int .i64 y29), (.bool true)]) Try.results51 ⟨rfl, rfl, trivial⟩ ?_
      exact ⟨rfl, hB.keeps⟩
    · rintro a w32 ⟨r', rfl, b219⟩
      dsimp only at hF
      have e220 := Option.some.inj hF
      subst e220
      exact b219
end Go.Proofs.Ytijaojnaamkinaa
