/- spec.waCheck, spec.CheckWalkCertificate: plain functions, and the walks that show that the program computes them (printed by gen.py). -/
import Derived.Test.YtabclfacjaeblaaGS
namespace Go.Proofs.Ytabclfacjaeblaa
open Go.RowKit
set_option linter.unusedSimpArgs false
set_option linter.unusedVariables false

def fS_waCheck (fuel : Nat) (p0 : T_WalkProblem) (p1 : T_WalkCertificate) : Option Bool :=
  (ck (p0.Labels - 1)) >>= fun x19 =>
  (fS_l1In p1.Label 0 x19) >>= fun x20 =>
  if p1.Class == 3 then
    (
      if x20 then
        (ck ((p1.First.length : Int) + (p1.Second.length : Int))) >>= fun x32 =>
        (ck (x32 + (p1.Ranks.length : Int))) >>= fun x33 =>
        if x33 == 0 then
          (fS_waMay fuel p0) >>= fun x35 =>
          (ix x35 p1.Label) >>= fun x49 =>
          (ix x49 p1.Label) >>= fun x199 =>
          some x199
        else
          some false
      else
        some false) >>= fun q27 =>
    some q27
  else
    if p1.Class == 2 then
      (
        if x20 then
          if (p1.Ranks.length : Int) == 0 then
            (fS_waLoop p0) >>= fun x431 =>
            if decide (x431 < 0) then
              (fS_waRound fuel p0 p1.First p1.Label) >>= fun x438 =>
              if x438 then
                (fS_waRound fuel p0 p1.Second p1.Label) >>= fun x445 =>
                if x445 then
                  (ck ((p1.First.length : Int) - 1)) >>= fun x452 =>
                  (ck ((p1.Second.length : Int) - 1)) >>= fun x453 =>
                  (fS_waGcd x452 x453) >>= fun x454 =>
                  some (x454 == 1)
                else
                  some false
              else
                some false
            else
              some false
          else
            some false
        else
          some false) >>= fun q426 =>
      some q426
    else
      if p1.Class == 1 then
        (
          if x20 then
            if (p1.Second.length : Int) == 0 then
              (fS_waRound fuel p0 p1.First p1.Label) >>= fun x470 =>
              if x470 then
                (fS_waRanked p0 p1.Ranks) >>= fun x477 =>
                some x477
              else
                some false
            else
              some false
          else
            some false) >>= fun q465 =>
        some q465
      else
        if p1.Class == 0 then
          (
            if p1.Label == 0 then
              (ck ((p1.First.length : Int) + (p1.Second.length : Int))) >>= fun x492 =>
              if x492 == 0 then
                (fS_waRanked p0 p1.Ranks) >>= fun x494 =>
                if x494 then
                  (fS_waAbove p0 p1.Ranks) >>= fun x501 =>
                  some x501
                else
                  some false
              else
                some false
            else
              some false) >>= fun q488 =>
          some q488
        else
          some false

def pS_waCheck (w : World) (r : Bool) : Ending → World → Prop := fun e w' => e = .returned (.bool r) ∧ Keeps w w'
set_option maxRecDepth 100000 in
set_option maxHeartbeats 2000000 in
theorem cS_waCheck (fuel : Nat) (w : World) (u0 : List Value) (p0 : T_WalkProblem) (g0 : Rp.rd zt w u0 p0) (u1 : List Value) (p1 : T_WalkCertificate) (g1 : Rp.rd zt w u1 p1) (r : Bool) (hF : fS_waCheck fuel p0 p1 = some r) :
    Calls Try.prog 62 #[.agg u0.toArray, .agg u1.toArray] w (pS_waCheck w r) := by
  unfold fS_waCheck at hF
  obtain ⟨v1, rfl, h2⟩ := g0
  obtain ⟨v3, v5, v7, rfl, h4, h6, h8⟩ := g1
  have hB : Bs (fun _ => 1) (col (fun _ => 1)) w w := Bs.start _ _
  refine calls_start (n := 135) (vs := [(.agg #[(.int .i64 p0.Labels), v1]), (.agg #[(.int .i64 p1.Class), (.int .i64 p1.Label), v3, v5, v7])]) Try.func62 rfl rfl ?_
  refine wpC_seq ?_
  refine wpC_region ?_
  refine st_op (by decide) trivial ?_
  refine wf_box (o := (col (fun _ => 1))) w.heap.size 11 hB.keeps.size (cs := [(.int .i64 p0.Labels), v1]) rfl rfl ?_
  intro o9 w10 b11 h12 s13
  replace hB := hB.stp s13 (by decide)
  refine st_op (by decide) trivial ?_
  refine wf_box (o := o9) w.heap.size 12 hB.keeps.size (cs := [(.int .i64 p1.Class), (.int .i64 p1.Label), v3, v5, v7]) rfl rfl ?_
  intro o14 w15 b16 h17 s18
  replace h12 := h12.stp s18 (by decide)
  replace hB := hB.stp s18 (by decide)
  refine st_val (ex_assign rfl) (by decide) trivial ?_
  refine wpF_end (r := [(2, (.pointer (some ⟨b11, 0, none⟩))), (3, (.pointer (some ⟨b16, 0, none⟩)))]) ⟨rfl, rfl, trivial⟩ ?_
  refine nx ?_
  refine wpC_seq ?_
  refine wpC_region ?_
  refine st_val (ex_field rfl Try.underlying46 rfl Try.sizeOf3) (by decide) trivial ?_
  refine st_val (ex_load1 rfl Try.isAgg3 (h17.cell rfl)) (by decide) trivial ?_
  refine st_val (ex_field rfl Try.underlying44 rfl Try.sizeOf3) (by decide) trivial ?_
  refine st_val (ex_load1 rfl Try.isAgg3 (h12.cell rfl)) (by decide) trivial ?_
  obtain ⟨x19, hx19, hF⟩ := bind_some hF
  refine st_val (ex_sub rfl rfl hx19) (by decide) trivial ?_
  obtain ⟨x20, hx20, hF⟩ := bind_some hF
  refine st_op (by decide) trivial ?_
  refine wf_call (cS_l1In w15 p1.Label 0 x19 x20 hx20) Try.call53 ⟨rfl, rfl, rfl, trivial⟩ ?_
  rintro e25 w21 ⟨rfl, k22⟩
  have s24 := k22.stp 999 o14
  refine ⟨_, rfl, ?_⟩
  replace h12 := h12.stp s24 (by decide)
  replace h17 := h17.stp s24 (by decide)
  replace hB := hB.stp s24 (by decide)
  refine st_val (ex_assign rfl) (by decide) trivial ?_
  refine wpF_end (r := [(2, (.pointer (some ⟨b11, 0, none⟩))), (3, (.pointer (some ⟨b16, 0, none⟩))), (5, (.bool x20))]) ⟨rfl, rfl, rfl, trivial⟩ ?_
  refine nx ?_
  refine wpC_seq ?_
  refine wpC_seq ?_
  refine wpC_region ?_
  refine st_val (ex_field rfl Try.underlying46 rfl Try.sizeOf3) (by decide) trivial ?_
  refine st_val (ex_load1 rfl Try.isAgg3 (h17.cell rfl)) (by decide) trivial ?_
  refine wpF_end (r := [(2, (.pointer (some ⟨b11, 0, none⟩))), (3, (.pointer (some ⟨b16, 0, none⟩))), (5, (.bool x20)), (13, (.int .i64 p1.Class))]) ⟨rfl, rfl, rfl, rfl, trivial⟩ ?_
  refine nx ?_
  refine wpC_block ?_
  refine wpC_seq ?_
  refine wpC_region ?_
  refine st_val (ex_eql rfl rfl) (by decide) trivial ?_
  refine st_val (ex_assign rfl) (by decide) trivial ?_
  refine wpF_end (r := [(2, (.pointer (some ⟨b11, 0, none⟩))), (3, (.pointer (some ⟨b16, 0, none⟩))), (5, (.bool x20)), (13, (.int .i64 p1.Class)), (14, (.bool (p1.Class == 3)))]) ⟨rfl, rfl, rfl, rfl, rfl, trivial⟩ ?_
  refine nx ?_
  refine wpC_cond rfl (fun t26 => ?_) (fun t26 => ?_)
  · rw [if_pos t26] at hF
    refine wpC_seq ?_
    obtain ⟨q27, hq27, hF⟩ := bind_some hF
    refine wpC_cutN (fun a30 w29 => ∃ o28 : Tg, Fr a30 135 [(4, (.bool q27))] ∧ Bs (fun _ => 1) o28 w w29) (fun _ _ => False) ?_ ?_ (fun _ _ h => h.elim)
    · rcases Bool.eq_false_or_eq_true (x20) with t31 | t31
      · rw [if_pos t31] at hq27
        obtain ⟨x32, hx32, hq27⟩ := bind_some hq27
        obtain ⟨x33, hx33, hq27⟩ := bind_some hq27
        rcases Bool.eq_false_or_eq_true (x33 == 0) with t34 | t34
        · rw [if_pos t34] at hq27
          obtain ⟨x35, hx35, hq27⟩ := bind_some hq27
          obtain ⟨x49, hx49, hq27⟩ := bind_some hq27
          refine wpC_drawn (o := o14) [(2, (.pointer (some ⟨b11, 0, none⟩))), (3, (.pointer (some ⟨b16, 0, none⟩))), (5, (.bool x20))] [2, 3, 5] [16, 17, 18, 19, 20, 21, 22, 23, 24, 25, 26, 27, 28, 29, 30, 31, 32, 33, 34, 35, 36, 37, 38, 39] [[], [0], [1], [1, 2], [1, 3], [1], [1, 5], [1, 6], [1, 4, 7], [1], [1, 9], [1, 10], [1, 8, 11], [1, 12], [1, 13], [14], [15], [15, 16], [15], [15, 18], [15, 17, 19], [15, 20], [15], [15, 22]] [none, none, none, none, none, none, none, none, none, none, none, none, none, none, none, none, none, none, none, none, none, none, none, none] [999, 999, 999, 999, 999, 999, 999, 999, 999, 999, 999, 999, 999, 999, 999, 999, 999, 999, 999, 999, 999, 999, 999, 999] [0, 0, 0, 0, 0, 0, 0, 0, 0, 0, 0, 0, 0, 0, 0, 0, 0, 0, 0, 0, 0, 0, 0, 0] [999] [fun v _ _ => v = (.bool x20), fun v _ _ => v = (.bool x20), fun v _ _ => v = (.pointer (some ⟨b16, 0 + 2, none⟩)), fun v _ _ => v = v3, fun v _ _ => v = (.int .i64 (p1.First.length : Int)), fun v _ _ => v = (.pointer (some ⟨b16, 0 + 3, none⟩)), fun v _ _ => v = v5, fun v _ _ => v = (.int .i64 (p1.Second.length : Int)), fun v _ _ => v = (.int .i64 x32), fun v _ _ => v = (.pointer (some ⟨b16, 0 + 4, none⟩)), fun v _ _ => v = v7, fun v _ _ => v = (.int .i64 (p1.Ranks.length : Int)), fun v _ _ => v = (.int .i64 x33), fun v _ _ => v = (.bool (x33 == 0)), fun v _ _ => v = (.bool (x33 == 0)), fun v _ _ => v = (.bool (x33 == 0)), fun v _ _ => v = (.agg #[(.int .i64 p0.Labels), v1]), fun v o w9 => RdL o w9 v x35, fun v _ _ => v = (.pointer (some ⟨b16, 0 + 1, none⟩)), fun v _ _ => v = (.int .i64 p1.Label), fun v o w9 => ∃ vl, v = adr vl (p1.Label.toNat * Rp.sz (List Bool)) ∧ RdL o w9 vl x35, fun v o w9 => RdL o w9 v x49, fun v _ _ => v = (.pointer (some ⟨b16, 0 + 1, none⟩)), fun v _ _ => v = (.int .i64 p1.Label)] (fun o8 w8 => Bs (fun _ => 1) o8 w w8 ∧ Bx w.heap.size 11 o8 w8 b11 44 [(.int .i64 p0.Labels), v1] ∧ Bx w.heap.size 12 o8 w8 b16 46 [(.int .i64 p1.Class), (.int .i64 p1.Label), v3, v5, v7]) follows_mixed (by kernel_rfl) rfl ⟨rfl, rfl, rfl, trivial⟩ ⟨hB, h12, h17⟩ ?_ ⟨st_eq _, st_eq _, st_eq _, st_eq _, st_eq _, st_eq _, st_eq _, st_eq _, st_eq _, st_eq _, st_eq _, st_eq _, st_eq _, st_eq _, st_eq _, st_eq _, st_eq _, fun _ _ _ _ _ _ h0 hb h hs => h.stp hs h0.1, st_eq _, st_eq _, fun _ _ _ _ _ _ h0 hb ⟨vl, e, h⟩ hs => ⟨vl, e, h.stp hs h0.1⟩, fun _ _ _ _ _ _ h0 hb h hs => h.stp hs h0.1, st_eq _, st_eq _, trivial⟩ ?_ ?_
          · rintro t9 o1 w1 o2 w2 ht9 ⟨hB, h12, h17⟩ hs9
            have ht9 : t9 = 999 := by simpa using ht9
            subst ht9
            all_goals exact ⟨hB.stp hs9 (by decide), h12.stp hs9 (by decide), h17.stp hs9 (by decide)⟩
          · refine ⟨?_, ?_, ?_, ?_, ?_, ?_, ?_, ?_, ?_, ?_, ?_, ?_, ?_, ?_, ?_, ?_, ?_, ?_, ?_, ?_, ?_, ?_, ?_, ?_, trivial⟩
            · rintro o55 w56 a57 ha ⟨hB, h12, h17⟩ -
              refine opS_of ha (trivial) ?_
              refine op1_val (ex_move rfl) ?_
              exact ⟨_, Stp.refl _ _ _, rfl⟩
            · rintro o58 w59 a60 ha ⟨hB, h12, h17⟩ ⟨r61, -⟩
              have ha := Fr.cons (d := 16) ha r61
              refine opS_of ha (trivial) ?_
              refine op1_val (ex_move rfl) ?_
              exact ⟨_, Stp.refl _ _ _, rfl⟩
            · rintro o62 w63 a64 ha ⟨hB, h12, h17⟩ ⟨r65, -⟩
              have ha := Fr.cons (d := 17) ha r65
              refine opS_of ha (⟨_, rfl, (congrArg (fun b => some (Value.bool b)) t31)⟩) ?_
              refine op1_val (ex_field rfl Try.underlying46 rfl Try.sizeOf26) ?_
              exact ⟨_, Stp.refl _ _ _, rfl⟩
            · rintro o66 w67 a68 ha ⟨hB, h12, h17⟩ ⟨r69, r70, -⟩
              have ha := Fr.cons (d := 17) ha r69
              have ha := Fr.cons (d := 18) ha r70
              refine opS_of ha (⟨_, rfl, (congrArg (fun b => some (Value.bool b)) t31)⟩) ?_
              refine op1_val (ex_load1 rfl Try.isAgg26 (h17.cell rfl)) ?_
              exact ⟨_, Stp.refl _ _ _, rfl⟩
            · rintro o71 w72 a73 ha ⟨hB, h12, h17⟩ ⟨r74, r75, -⟩
              have ha := Fr.cons (d := 17) ha r74
              have ha := Fr.cons (d := 19) ha r75
              refine opS_of ha (⟨_, rfl, (congrArg (fun b => some (Value.bool b)) t31)⟩) ?_
              refine op1_val (ex_lenR rfl h4 Try.underlying26) ?_
              exact ⟨_, Stp.refl _ _ _, rfl⟩
            · rintro o76 w77 a78 ha ⟨hB, h12, h17⟩ ⟨r79, -⟩
              have ha := Fr.cons (d := 17) ha r79
              refine opS_of ha (⟨_, rfl, (congrArg (fun b => some (Value.bool b)) t31)⟩) ?_
              refine op1_val (ex_field rfl Try.underlying46 rfl Try.sizeOf26) ?_
              exact ⟨_, Stp.refl _ _ _, rfl⟩
            · rintro o80 w81 a82 ha ⟨hB, h12, h17⟩ ⟨r83, r84, -⟩
              have ha := Fr.cons (d := 17) ha r83
              have ha := Fr.cons (d := 21) ha r84
              refine opS_of ha (⟨_, rfl, (congrArg (fun b => some (Value.bool b)) t31)⟩) ?_
              refine op1_val (ex_load1 rfl Try.isAgg26 (h17.cell rfl)) ?_
              exact ⟨_, Stp.refl _ _ _, rfl⟩
            · rintro o85 w86 a87 ha ⟨hB, h12, h17⟩ ⟨r88, r89, -⟩
              have ha := Fr.cons (d := 17) ha r88
              have ha := Fr.cons (d := 22) ha r89
              refine opS_of ha (⟨_, rfl, (congrArg (fun b => some (Value.bool b)) t31)⟩) ?_
              refine op1_val (ex_lenR rfl h6 Try.underlying26) ?_
              exact ⟨_, Stp.refl _ _ _, rfl⟩
            · rintro o90 w91 a92 ha ⟨hB, h12, h17⟩ ⟨r93, r94, r95, -⟩
              have ha := Fr.cons (d := 17) ha r93
              have ha := Fr.cons (d := 20) ha r94
              have ha := Fr.cons (d := 23) ha r95
              refine opS_of ha (⟨_, rfl, (congrArg (fun b => some (Value.bool b)) t31)⟩) ?_
              refine op1_val (ex_add rfl rfl hx32) ?_
              exact ⟨_, Stp.refl _ _ _, rfl⟩
            · rintro o96 w97 a98 ha ⟨hB, h12, h17⟩ ⟨r99, -⟩
              have ha := Fr.cons (d := 17) ha r99
              refine opS_of ha (⟨_, rfl, (congrArg (fun b => some (Value.bool b)) t31)⟩) ?_
              refine op1_val (ex_field rfl Try.underlying46 rfl Try.sizeOf22) ?_
              exact ⟨_, Stp.refl _ _ _, rfl⟩
            · rintro o100 w101 a102 ha ⟨hB, h12, h17⟩ ⟨r103, r104, -⟩
              have ha := Fr.cons (d := 17) ha r103
              have ha := Fr.cons (d := 25) ha r104
              refine opS_of ha (⟨_, rfl, (congrArg (fun b => some (Value.bool b)) t31)⟩) ?_
              refine op1_val (ex_load1 rfl Try.isAgg22 (h17.cell rfl)) ?_
              exact ⟨_, Stp.refl _ _ _, rfl⟩
            · rintro o105 w106 a107 ha ⟨hB, h12, h17⟩ ⟨r108, r109, -⟩
              have ha := Fr.cons (d := 17) ha r108
              have ha := Fr.cons (d := 26) ha r109
              refine opS_of ha (⟨_, rfl, (congrArg (fun b => some (Value.bool b)) t31)⟩) ?_
              refine op1_val (ex_lenR rfl h8 Try.underlying22) ?_
              exact ⟨_, Stp.refl _ _ _, rfl⟩
            · rintro o110 w111 a112 ha ⟨hB, h12, h17⟩ ⟨r113, r114, r115, -⟩
              have ha := Fr.cons (d := 17) ha r113
              have ha := Fr.cons (d := 24) ha r114
              have ha := Fr.cons (d := 27) ha r115
              refine opS_of ha (⟨_, rfl, (congrArg (fun b => some (Value.bool b)) t31)⟩) ?_
              refine op1_val (ex_add rfl rfl hx33) ?_
              exact ⟨_, Stp.refl _ _ _, rfl⟩
            · rintro o116 w117 a118 ha ⟨hB, h12, h17⟩ ⟨r119, r120, -⟩
              have ha := Fr.cons (d := 17) ha r119
              have ha := Fr.cons (d := 28) ha r120
              refine opS_of ha (⟨_, rfl, (congrArg (fun b => some (Value.bool b)) t31)⟩) ?_
              refine op1_val (ex_eql rfl rfl) ?_
              exact ⟨_, Stp.refl _ _ _, rfl⟩
            · rintro o121 w122 a123 ha ⟨hB, h12, h17⟩ ⟨r124, r125, -⟩
              have ha := Fr.cons (d := 17) ha r124
              have ha := Fr.cons (d := 29) ha r125
              refine opS_of ha (trivial) ?_
              refine op1_val (ex_pick_t (congrArg (fun b => some (Value.bool b)) t31) rfl) ?_
              exact ⟨_, Stp.refl _ _ _, rfl⟩
            · rintro o126 w127 a128 ha ⟨hB, h12, h17⟩ ⟨r129, -⟩
              have ha := Fr.cons (d := 30) ha r129
              refine opS_of ha (trivial) ?_
              refine op1_val (ex_move rfl) ?_
              exact ⟨_, Stp.refl _ _ _, rfl⟩
            · rintro o130 w131 a132 ha ⟨hB, h12, h17⟩ ⟨r133, -⟩
              have ha := Fr.cons (d := 31) ha r133
              refine opS_of ha (⟨_, rfl, (congrArg (fun b => some (Value.bool b)) t34)⟩) ?_
              refine op1_val (ex_loadA rfl Try.isAgg44 Try.sizeOf44 rfl h12.cells) ?_
              exact ⟨_, Stp.refl _ _ _, rfl⟩
            · rintro o134 w135 a136 ha ⟨hB, h12, h17⟩ ⟨r137, r138, -⟩
              have ha := Fr.cons (d := 31) ha r137
              have ha := Fr.cons (d := 32) ha r138
              refine opS_of ha (⟨_, rfl, (congrArg (fun b => some (Value.bool b)) t34)⟩) ?_
              refine wf_call (cS_waMay fuel w135 o134 2032 (by decide) _ p0 (⟨_, rfl, (h2.keep hB.keeps)⟩) x35 hx35) Try.call105 ⟨rfl, trivial⟩ ?_
              rintro e148 w139 ⟨v140, g142, o149, rfl, h141, h143, k145, k146⟩
              obtain ⟨o150, k151, h144⟩ := dp_read h141 h143 k146
              have s147 := k145.stp' 999 k151
              refine ⟨_, rfl, ?_⟩
              replace h12 := h12.stp s147 (by decide)
              replace h17 := h17.stp s147 (by decide)
              replace hB := hB.stp s147 (by decide)
              exact ⟨_, s147, h144⟩
            · rintro o152 w153 a154 ha ⟨hB, h12, h17⟩ ⟨r155, -⟩
              have ha := Fr.cons (d := 31) ha r155
              refine opS_of ha (⟨_, rfl, (congrArg (fun b => some (Value.bool b)) t34)⟩) ?_
              refine op1_val (ex_field rfl Try.underlying46 rfl Try.sizeOf3) ?_
              exact ⟨_, Stp.refl _ _ _, rfl⟩
            · rintro o156 w157 a158 ha ⟨hB, h12, h17⟩ ⟨r159, r160, -⟩
              have ha := Fr.cons (d := 31) ha r159
              have ha := Fr.cons (d := 34) ha r160
              refine opS_of ha (⟨_, rfl, (congrArg (fun b => some (Value.bool b)) t34)⟩) ?_
              refine op1_val (ex_load1 rfl Try.isAgg3 (h17.cell rfl)) ?_
              exact ⟨_, Stp.refl _ _ _, rfl⟩
            · rintro o161 w162 a163 ha ⟨hB, h12, h17⟩ ⟨r164, r165, r166, -⟩
              have ha := Fr.cons (d := 31) ha r164
              replace r165 : RdL o161 w162 (a163.tmps.getD 33 undef) x35 := r165
              generalize e168 : a163.tmps.getD 33 undef = v167 at r165
              have ha := Fr.cons (d := 33) ha e168
              have ha := Fr.cons (d := 35) ha r166
              refine opS_of ha (⟨_, rfl, (congrArg (fun b => some (Value.bool b)) t34)⟩) ?_
              refine wd_indexR r165 hx49 rfl rfl Try.underlying110 Try.sizeOf109 ?_
              exact ⟨_, Stp.refl _ _ _, ⟨_, rfl, r165⟩⟩
            · rintro o169 w170 a171 ha ⟨hB, h12, h17⟩ ⟨r172, r173, -⟩
              have ha := Fr.cons (d := 31) ha r172
              obtain ⟨v174, e175, h176⟩ := r173
              have ha := Fr.cons (d := 36) ha e175
              refine opS_of ha (⟨_, rfl, (congrArg (fun b => some (Value.bool b)) t34)⟩) ?_
              refine wd_load1 h176 hx49 rfl rfl Try.isAgg109 ?_
              intro c177 h178
              obtain ⟨v179, e181, h180⟩ := h178
              cases e181
              exact ⟨_, Stp.refl _ _ _, h180⟩
            · rintro o182 w183 a184 ha ⟨hB, h12, h17⟩ ⟨r185, -⟩
              have ha := Fr.cons (d := 31) ha r185
              refine opS_of ha (⟨_, rfl, (congrArg (fun b => some (Value.bool b)) t34)⟩) ?_
              refine op1_val (ex_field rfl Try.underlying46 rfl Try.sizeOf3) ?_
              exact ⟨_, Stp.refl _ _ _, rfl⟩
            · rintro o186 w187 a188 ha ⟨hB, h12, h17⟩ ⟨r189, r190, -⟩
              have ha := Fr.cons (d := 31) ha r189
              have ha := Fr.cons (d := 38) ha r190
              refine opS_of ha (⟨_, rfl, (congrArg (fun b => some (Value.bool b)) t34)⟩) ?_
              refine op1_val (ex_load1 rfl Try.isAgg3 (h17.cell rfl)) ?_
              exact ⟨_, Stp.refl _ _ _, rfl⟩
          rintro o191 w192 a193 ha ⟨hB, h12, h17⟩ ⟨-, -, -, -, -, -, -, -, -, -, -, -, -, -, -, r194, -, -, -, -, -, r195, -, r196, -⟩
          have ha := Fr.cons (d := 31) ha r194
          replace r195 : RdL o191 w192 (a193.tmps.getD 37 undef) x49 := r195
          generalize e198 : a193.tmps.getD 37 undef = v197 at r195
          have ha := Fr.cons (d := 37) ha e198
          have ha := Fr.cons (d := 39) ha r196
          refine wl_of ha ?_
          simp only [List.length_cons, List.length_nil, Nat.zero_add, Nat.reduceAdd, List.drop_succ_cons, List.drop_zero]
          obtain ⟨x199, hx199, hq27⟩ := bind_some hq27
          refine st_op (by decide) ⟨_, rfl, (congrArg (fun b => some (Value.bool b)) t34)⟩ ?_
          refine wf_atO r195 hx199 rfl rfl Try.underlying109 Try.sizeOf4 ?_
          intro b200 f201 c202 h203 h204
          cases h204
          refine st_val (ex_load1 rfl Try.isAgg4 (cell_of_cells h203)) (by decide) ⟨_, rfl, (congrArg (fun b => some (Value.bool b)) t34)⟩ ?_
          refine st_val (ex_pick_t (congrArg (fun b => some (Value.bool b)) t34) rfl) (by decide) trivial ?_
          refine st_val (ex_assign rfl) (by decide) trivial ?_
          have e205 := Option.some.inj hq27
          subst e205
          refine wpF_end (r := [(4, (.bool x199))]) ⟨rfl, trivial⟩ ?_
          refine np_norm (fun a ha => ⟨o191, ha, hB⟩)
        · rw [if_neg (by rw [t34]; decide)] at hq27
          refine wpC_drawn (o := o14) [(2, (.pointer (some ⟨b11, 0, none⟩))), (3, (.pointer (some ⟨b16, 0, none⟩))), (5, (.bool x20))] [2, 3, 5] [16, 17, 18, 19, 20, 21, 22, 23, 24, 25, 26, 27, 28, 29, 30, 31, 32, 33, 34, 35, 36, 37, 38, 39] [[], [0], [1], [1, 2], [1, 3], [1], [1, 5], [1, 6], [1, 4, 7], [1], [1, 9], [1, 10], [1, 8, 11], [1, 12], [1, 13], [14], [15], [15], [15], [15], [15], [15], [15], [15]] [none, none, none, none, none, none, none, none, none, none, none, none, none, none, none, none, none, none, none, none, none, none, none, none] [999, 999, 999, 999, 999, 999, 999, 999, 999, 999, 999, 999, 999, 999, 999, 999, 999, 999, 999, 999, 999, 999, 999, 999] [0, 0, 0, 0, 0, 0, 0, 0, 0, 0, 0, 0, 0, 0, 0, 0, 0, 0, 0, 0, 0, 0, 0, 0] [999] [fun v _ _ => v = (.bool x20), fun v _ _ => v = (.bool x20), fun v _ _ => v = (.pointer (some ⟨b16, 0 + 2, none⟩)), fun v _ _ => v = v3, fun v _ _ => v = (.int .i64 (p1.First.length : Int)), fun v _ _ => v = (.pointer (some ⟨b16, 0 + 3, none⟩)), fun v _ _ => v = v5, fun v _ _ => v = (.int .i64 (p1.Second.length : Int)), fun v _ _ => v = (.int .i64 x32), fun v _ _ => v = (.pointer (some ⟨b16, 0 + 4, none⟩)), fun v _ _ => v = v7, fun v _ _ => v = (.int .i64 (p1.Ranks.length : Int)), fun v _ _ => v = (.int .i64 x33), fun v _ _ => v = (.bool (x33 == 0)), fun v _ _ => v = (.bool (x33 == 0)), fun v _ _ => v = (.bool (x33 == 0)), fun v _ _ => v = undef, fun v _ _ => v = undef, fun v _ _ => v = undef, fun v _ _ => v = undef, fun v _ _ => v = undef, fun v _ _ => v = undef, fun v _ _ => v = undef, fun v _ _ => v = undef] (fun o8 w8 => Bs (fun _ => 1) o8 w w8 ∧ Bx w.heap.size 11 o8 w8 b11 44 [(.int .i64 p0.Labels), v1] ∧ Bx w.heap.size 12 o8 w8 b16 46 [(.int .i64 p1.Class), (.int .i64 p1.Label), v3, v5, v7]) follows_mixed (by kernel_rfl) rfl ⟨rfl, rfl, rfl, trivial⟩ ⟨hB, h12, h17⟩ ?_ ⟨st_eq _, st_eq _, st_eq _, st_eq _, st_eq _, st_eq _, st_eq _, st_eq _, st_eq _, st_eq _, st_eq _, st_eq _, st_eq _, st_eq _, st_eq _, st_eq _, st_eq _, st_eq _, st_eq _, st_eq _, st_eq _, st_eq _, st_eq _, st_eq _, trivial⟩ ?_ ?_
          · rintro t9 o1 w1 o2 w2 ht9 ⟨hB, h12, h17⟩ hs9
            have ht9 : t9 = 999 := by simpa using ht9
            subst ht9
            all_goals exact ⟨hB.stp hs9 (by decide), h12.stp hs9 (by decide), h17.stp hs9 (by decide)⟩
          · refine ⟨?_, ?_, ?_, ?_, ?_, ?_, ?_, ?_, ?_, ?_, ?_, ?_, ?_, ?_, ?_, ?_, ?_, ?_, ?_, ?_, ?_, ?_, ?_, ?_, trivial⟩
            · rintro o206 w207 a208 ha ⟨hB, h12, h17⟩ -
              refine opS_of ha (trivial) ?_
              refine op1_val (ex_move rfl) ?_
              exact ⟨_, Stp.refl _ _ _, rfl⟩
            · rintro o209 w210 a211 ha ⟨hB, h12, h17⟩ ⟨r212, -⟩
              have ha := Fr.cons (d := 16) ha r212
              refine opS_of ha (trivial) ?_
              refine op1_val (ex_move rfl) ?_
              exact ⟨_, Stp.refl _ _ _, rfl⟩
            · rintro o213 w214 a215 ha ⟨hB, h12, h17⟩ ⟨r216, -⟩
              have ha := Fr.cons (d := 17) ha r216
              refine opS_of ha (⟨_, rfl, (congrArg (fun b => some (Value.bool b)) t31)⟩) ?_
              refine op1_val (ex_field rfl Try.underlying46 rfl Try.sizeOf26) ?_
              exact ⟨_, Stp.refl _ _ _, rfl⟩
            · rintro o217 w218 a219 ha ⟨hB, h12, h17⟩ ⟨r220, r221, -⟩
              have ha := Fr.cons (d := 17) ha r220
              have ha := Fr.cons (d := 18) ha r221
              refine opS_of ha (⟨_, rfl, (congrArg (fun b => some (Value.bool b)) t31)⟩) ?_
              refine op1_val (ex_load1 rfl Try.isAgg26 (h17.cell rfl)) ?_
              exact ⟨_, Stp.refl _ _ _, rfl⟩
            · rintro o222 w223 a224 ha ⟨hB, h12, h17⟩ ⟨r225, r226, -⟩
              have ha := Fr.cons (d := 17) ha r225
              have ha := Fr.cons (d := 19) ha r226
              refine opS_of ha (⟨_, rfl, (congrArg (fun b => some (Value.bool b)) t31)⟩) ?_
              refine op1_val (ex_lenR rfl h4 Try.underlying26) ?_
              exact ⟨_, Stp.refl _ _ _, rfl⟩
            · rintro o227 w228 a229 ha ⟨hB, h12, h17⟩ ⟨r230, -⟩
              have ha := Fr.cons (d := 17) ha r230
              refine opS_of ha (⟨_, rfl, (congrArg (fun b => some (Value.bool b)) t31)⟩) ?_
              refine op1_val (ex_field rfl Try.underlying46 rfl Try.sizeOf26) ?_
              exact ⟨_, Stp.refl _ _ _, rfl⟩
            · rintro o231 w232 a233 ha ⟨hB, h12, h17⟩ ⟨r234, r235, -⟩
              have ha := Fr.cons (d := 17) ha r234
              have ha := Fr.cons (d := 21) ha r235
              refine opS_of ha (⟨_, rfl, (congrArg (fun b => some (Value.bool b)) t31)⟩) ?_
              refine op1_val (ex_load1 rfl Try.isAgg26 (h17.cell rfl)) ?_
              exact ⟨_, Stp.refl _ _ _, rfl⟩
            · rintro o236 w237 a238 ha ⟨hB, h12, h17⟩ ⟨r239, r240, -⟩
              have ha := Fr.cons (d := 17) ha r239
              have ha := Fr.cons (d := 22) ha r240
              refine opS_of ha (⟨_, rfl, (congrArg (fun b => some (Value.bool b)) t31)⟩) ?_
              refine op1_val (ex_lenR rfl h6 Try.underlying26) ?_
              exact ⟨_, Stp.refl _ _ _, rfl⟩
            · rintro o241 w242 a243 ha ⟨hB, h12, h17⟩ ⟨r244, r245, r246, -⟩
              have ha := Fr.cons (d := 17) ha r244
              have ha := Fr.cons (d := 20) ha r245
              have ha := Fr.cons (d := 23) ha r246
              refine opS_of ha (⟨_, rfl, (congrArg (fun b => some (Value.bool b)) t31)⟩) ?_
              refine op1_val (ex_add rfl rfl hx32) ?_
              exact ⟨_, Stp.refl _ _ _, rfl⟩
            · rintro o247 w248 a249 ha ⟨hB, h12, h17⟩ ⟨r250, -⟩
              have ha := Fr.cons (d := 17) ha r250
              refine opS_of ha (⟨_, rfl, (congrArg (fun b => some (Value.bool b)) t31)⟩) ?_
              refine op1_val (ex_field rfl Try.underlying46 rfl Try.sizeOf22) ?_
              exact ⟨_, Stp.refl _ _ _, rfl⟩
            · rintro o251 w252 a253 ha ⟨hB, h12, h17⟩ ⟨r254, r255, -⟩
              have ha := Fr.cons (d := 17) ha r254
              have ha := Fr.cons (d := 25) ha r255
              refine opS_of ha (⟨_, rfl, (congrArg (fun b => some (Value.bool b)) t31)⟩) ?_
              refine op1_val (ex_load1 rfl Try.isAgg22 (h17.cell rfl)) ?_
              exact ⟨_, Stp.refl _ _ _, rfl⟩
            · rintro o256 w257 a258 ha ⟨hB, h12, h17⟩ ⟨r259, r260, -⟩
              have ha := Fr.cons (d := 17) ha r259
              have ha := Fr.cons (d := 26) ha r260
              refine opS_of ha (⟨_, rfl, (congrArg (fun b => some (Value.bool b)) t31)⟩) ?_
              refine op1_val (ex_lenR rfl h8 Try.underlying22) ?_
              exact ⟨_, Stp.refl _ _ _, rfl⟩
            · rintro o261 w262 a263 ha ⟨hB, h12, h17⟩ ⟨r264, r265, r266, -⟩
              have ha := Fr.cons (d := 17) ha r264
              have ha := Fr.cons (d := 24) ha r265
              have ha := Fr.cons (d := 27) ha r266
              refine opS_of ha (⟨_, rfl, (congrArg (fun b => some (Value.bool b)) t31)⟩) ?_
              refine op1_val (ex_add rfl rfl hx33) ?_
              exact ⟨_, Stp.refl _ _ _, rfl⟩
            · rintro o267 w268 a269 ha ⟨hB, h12, h17⟩ ⟨r270, r271, -⟩
              have ha := Fr.cons (d := 17) ha r270
              have ha := Fr.cons (d := 28) ha r271
              refine opS_of ha (⟨_, rfl, (congrArg (fun b => some (Value.bool b)) t31)⟩) ?_
              refine op1_val (ex_eql rfl rfl) ?_
              exact ⟨_, Stp.refl _ _ _, rfl⟩
            · rintro o272 w273 a274 ha ⟨hB, h12, h17⟩ ⟨r275, r276, -⟩
              have ha := Fr.cons (d := 17) ha r275
              have ha := Fr.cons (d := 29) ha r276
              refine opS_of ha (trivial) ?_
              refine op1_val (ex_pick_t (congrArg (fun b => some (Value.bool b)) t31) rfl) ?_
              exact ⟨_, Stp.refl _ _ _, rfl⟩
            · rintro o277 w278 a279 ha ⟨hB, h12, h17⟩ ⟨r280, -⟩
              have ha := Fr.cons (d := 30) ha r280
              refine opS_of ha (trivial) ?_
              refine op1_val (ex_move rfl) ?_
              exact ⟨_, Stp.refl _ _ _, rfl⟩
            · rintro o281 w282 a283 ha ⟨hB, h12, h17⟩ ⟨r284, -⟩
              have ha := Fr.cons (d := 31) ha r284
              exact opS_no ha rfl rfl rfl (by rw [t34]; rfl) ⟨_, Stp.refl _ _ _, rfl⟩
            · rintro o285 w286 a287 ha ⟨hB, h12, h17⟩ ⟨r288, -⟩
              have ha := Fr.cons (d := 31) ha r288
              exact opS_no ha rfl rfl rfl (by rw [t34]; rfl) ⟨_, Stp.refl _ _ _, rfl⟩
            · rintro o289 w290 a291 ha ⟨hB, h12, h17⟩ ⟨r292, -⟩
              have ha := Fr.cons (d := 31) ha r292
              exact opS_no ha rfl rfl rfl (by rw [t34]; rfl) ⟨_, Stp.refl _ _ _, rfl⟩
            · rintro o293 w294 a295 ha ⟨hB, h12, h17⟩ ⟨r296, -⟩
              have ha := Fr.cons (d := 31) ha r296
              exact opS_no ha rfl rfl rfl (by rw [t34]; rfl) ⟨_, Stp.refl _ _ _, rfl⟩
            · rintro o297 w298 a299 ha ⟨hB, h12, h17⟩ ⟨r300, -⟩
              have ha := Fr.cons (d := 31) ha r300
              exact opS_no ha rfl rfl rfl (by rw [t34]; rfl) ⟨_, Stp.refl _ _ _, rfl⟩
            · rintro o301 w302 a303 ha ⟨hB, h12, h17⟩ ⟨r304, -⟩
              have ha := Fr.cons (d := 31) ha r304
              exact opS_no ha rfl rfl rfl (by rw [t34]; rfl) ⟨_, Stp.refl _ _ _, rfl⟩
            · rintro o305 w306 a307 ha ⟨hB, h12, h17⟩ ⟨r308, -⟩
              have ha := Fr.cons (d := 31) ha r308
              exact opS_no ha rfl rfl rfl (by rw [t34]; rfl) ⟨_, Stp.refl _ _ _, rfl⟩
            · rintro o309 w310 a311 ha ⟨hB, h12, h17⟩ ⟨r312, -⟩
              have ha := Fr.cons (d := 31) ha r312
              exact opS_no ha rfl rfl rfl (by rw [t34]; rfl) ⟨_, Stp.refl _ _ _, rfl⟩
          rintro o313 w314 a315 ha ⟨hB, h12, h17⟩ ⟨-, -, -, -, -, -, -, -, -, -, -, -, -, -, -, r316, -, -, -, -, -, r317, -, r318, -⟩
          have ha := Fr.cons (d := 31) ha r316
          have ha := Fr.cons (d := 37) ha r317
          have ha := Fr.cons (d := 39) ha r318
          refine wl_of ha ?_
          simp only [List.length_cons, List.length_nil, Nat.zero_add, Nat.reduceAdd, List.drop_succ_cons, List.drop_zero]
          refine st_no rfl rfl (by rw [t34]; rfl) (by decide) ?_
          refine st_no rfl rfl (by rw [t34]; rfl) (by decide) ?_
          refine st_val (ex_pick_f (congrArg (fun b => some (Value.bool b)) t34) rfl) (by decide) trivial ?_
          refine st_val (ex_assign rfl) (by decide) trivial ?_
          have e319 := Option.some.inj hq27
          subst e319
          refine wpF_end (r := [(4, (.bool false))]) ⟨rfl, trivial⟩ ?_
          refine np_norm (fun a ha => ⟨o313, ha, hB⟩)
      · rw [if_neg (by rw [t31]; decide)] at hq27
        refine wpC_drawn (o := o14) [(2, (.pointer (some ⟨b11, 0, none⟩))), (3, (.pointer (some ⟨b16, 0, none⟩))), (5, (.bool x20))] [2, 3, 5] [16, 17, 18, 19, 20, 21, 22, 23, 24, 25, 26, 27, 28, 29, 30, 31, 32, 33, 34, 35, 36, 37, 38, 39] [[], [0], [1], [1], [1], [1], [1], [1], [1], [1], [1], [1], [1], [1], [1, 13], [14], [15], [15], [15], [15], [15], [15], [15], [15]] [none, none, none, none, none, none, none, none, none, none, none, none, none, none, none, none, none, none, none, none, none, none, none, none] [999, 999, 999, 999, 999, 999, 999, 999, 999, 999, 999, 999, 999, 999, 999, 999, 999, 999, 999, 999, 999, 999, 999, 999] [0, 0, 0, 0, 0, 0, 0, 0, 0, 0, 0, 0, 0, 0, 0, 0, 0, 0, 0, 0, 0, 0, 0, 0] [999] [fun v _ _ => v = (.bool x20), fun v _ _ => v = (.bool x20), fun v _ _ => v = undef, fun v _ _ => v = undef, fun v _ _ => v = undef, fun v _ _ => v = undef, fun v _ _ => v = undef, fun v _ _ => v = undef, fun v _ _ => v = undef, fun v _ _ => v = undef, fun v _ _ => v = undef, fun v _ _ => v = undef, fun v _ _ => v = undef, fun v _ _ => v = undef, fun v _ _ => v = (.bool false), fun v _ _ => v = (.bool false), fun v _ _ => v = undef, fun v _ _ => v = undef, fun v _ _ => v = undef, fun v _ _ => v = undef, fun v _ _ => v = undef, fun v _ _ => v = undef, fun v _ _ => v = undef, fun v _ _ => v = undef] (fun o8 w8 => Bs (fun _ => 1) o8 w w8 ∧ Bx w.heap.size 11 o8 w8 b11 44 [(.int .i64 p0.Labels), v1] ∧ Bx w.heap.size 12 o8 w8 b16 46 [(.int .i64 p1.Class), (.int .i64 p1.Label), v3, v5, v7]) follows_mixed (by kernel_rfl) rfl ⟨rfl, rfl, rfl, trivial⟩ ⟨hB, h12, h17⟩ ?_ ⟨st_eq _, st_eq _, st_eq _, st_eq _, st_eq _, st_eq _, st_eq _, st_eq _, st_eq _, st_eq _, st_eq _, st_eq _, st_eq _, st_eq _, st_eq _, st_eq _, st_eq _, st_eq _, st_eq _, st_eq _, st_eq _, st_eq _, st_eq _, st_eq _, trivial⟩ ?_ ?_
        · rintro t9 o1 w1 o2 w2 ht9 ⟨hB, h12, h17⟩ hs9
          have ht9 : t9 = 999 := by simpa using ht9
          subst ht9
          all_goals exact ⟨hB.stp hs9 (by decide), h12.stp hs9 (by decide), h17.stp hs9 (by decide)⟩
        · refine ⟨?_, ?_, ?_, ?_, ?_, ?_, ?_, ?_, ?_, ?_, ?_, ?_, ?_, ?_, ?_, ?_, ?_, ?_, ?_, ?_, ?_, ?_, ?_, ?_, trivial⟩
          · rintro o320 w321 a322 ha ⟨hB, h12, h17⟩ -
            refine opS_of ha (trivial) ?_
            refine op1_val (ex_move rfl) ?_
            exact ⟨_, Stp.refl _ _ _, rfl⟩
          · rintro o323 w324 a325 ha ⟨hB, h12, h17⟩ ⟨r326, -⟩
            have ha := Fr.cons (d := 16) ha r326
            refine opS_of ha (trivial) ?_
            refine op1_val (ex_move rfl) ?_
            exact ⟨_, Stp.refl _ _ _, rfl⟩
          · rintro o327 w328 a329 ha ⟨hB, h12, h17⟩ ⟨r330, -⟩
            have ha := Fr.cons (d := 17) ha r330
            exact opS_no ha rfl rfl rfl (by rw [t31]; rfl) ⟨_, Stp.refl _ _ _, rfl⟩
          · rintro o331 w332 a333 ha ⟨hB, h12, h17⟩ ⟨r334, -⟩
            have ha := Fr.cons (d := 17) ha r334
            exact opS_no ha rfl rfl rfl (by rw [t31]; rfl) ⟨_, Stp.refl _ _ _, rfl⟩
          · rintro o335 w336 a337 ha ⟨hB, h12, h17⟩ ⟨r338, -⟩
            have ha := Fr.cons (d := 17) ha r338
            exact opS_no ha rfl rfl rfl (by rw [t31]; rfl) ⟨_, Stp.refl _ _ _, rfl⟩
          · rintro o339 w340 a341 ha ⟨hB, h12, h17⟩ ⟨r342, -⟩
            have ha := Fr.cons (d := 17) ha r342
            exact opS_no ha rfl rfl rfl (by rw [t31]; rfl) ⟨_, Stp.refl _ _ _, rfl⟩
          · rintro o343 w344 a345 ha ⟨hB, h12, h17⟩ ⟨r346, -⟩
            have ha := Fr.cons (d := 17) ha r346
            exact opS_no ha rfl rfl rfl (by rw [t31]; rfl) ⟨_, Stp.refl _ _ _, rfl⟩
          · rintro o347 w348 a349 ha ⟨hB, h12, h17⟩ ⟨r350, -⟩
            have ha := Fr.cons (d := 17) ha r350
            exact opS_no ha rfl rfl rfl (by rw [t31]; rfl) ⟨_, Stp.refl _ _ _, rfl⟩
          · rintro o351 w352 a353 ha ⟨hB, h12, h17⟩ ⟨r354, -⟩
            have ha := Fr.cons (d := 17) ha r354
            exact opS_no ha rfl rfl rfl (by rw [t31]; rfl) ⟨_, Stp.refl _ _ _, rfl⟩
          · rintro o355 w356 a357 ha ⟨hB, h12, h17⟩ ⟨r358, -⟩
            have ha := Fr.cons (d := 17) ha r358
            exact opS_no ha rfl rfl rfl (by rw [t31]; rfl) ⟨_, Stp.refl _ _ _, rfl⟩
          · rintro o359 w360 a361 ha ⟨hB, h12, h17⟩ ⟨r362, -⟩
            have ha := Fr.cons (d := 17) ha r362
            exact opS_no ha rfl rfl rfl (by rw [t31]; rfl) ⟨_, Stp.refl _ _ _, rfl⟩
          · rintro o363 w364 a365 ha ⟨hB, h12, h17⟩ ⟨r366, -⟩
            have ha := Fr.cons (d := 17) ha r366
            exact opS_no ha rfl rfl rfl (by rw [t31]; rfl) ⟨_, Stp.refl _ _ _, rfl⟩
          · rintro o367 w368 a369 ha ⟨hB, h12, h17⟩ ⟨r370, -⟩
            have ha := Fr.cons (d := 17) ha r370
            exact opS_no ha rfl rfl rfl (by rw [t31]; rfl) ⟨_, Stp.refl _ _ _, rfl⟩
          · rintro o371 w372 a373 ha ⟨hB, h12, h17⟩ ⟨r374, -⟩
            have ha := Fr.cons (d := 17) ha r374
            exact opS_no ha rfl rfl rfl (by rw [t31]; rfl) ⟨_, Stp.refl _ _ _, rfl⟩
          · rintro o375 w376 a377 ha ⟨hB, h12, h17⟩ ⟨r378, r379, -⟩
            have ha := Fr.cons (d := 17) ha r378
            have ha := Fr.cons (d := 29) ha r379
            refine opS_of ha (trivial) ?_
            refine op1_val (ex_pick_f (congrArg (fun b => some (Value.bool b)) t31) rfl) ?_
            exact ⟨_, Stp.refl _ _ _, rfl⟩
          · rintro o380 w381 a382 ha ⟨hB, h12, h17⟩ ⟨r383, -⟩
            have ha := Fr.cons (d := 30) ha r383
            refine opS_of ha (trivial) ?_
            refine op1_val (ex_move rfl) ?_
            exact ⟨_, Stp.refl _ _ _, rfl⟩
          · rintro o384 w385 a386 ha ⟨hB, h12, h17⟩ ⟨r387, -⟩
            have ha := Fr.cons (d := 31) ha r387
            exact opS_no ha rfl rfl rfl rfl ⟨_, Stp.refl _ _ _, rfl⟩
          · rintro o388 w389 a390 ha ⟨hB, h12, h17⟩ ⟨r391, -⟩
            have ha := Fr.cons (d := 31) ha r391
            exact opS_no ha rfl rfl rfl rfl ⟨_, Stp.refl _ _ _, rfl⟩
          · rintro o392 w393 a394 ha ⟨hB, h12, h17⟩ ⟨r395, -⟩
            have ha := Fr.cons (d := 31) ha r395
            exact opS_no ha rfl rfl rfl rfl ⟨_, Stp.refl _ _ _, rfl⟩
          · rintro o396 w397 a398 ha ⟨hB, h12, h17⟩ ⟨r399, -⟩
            have ha := Fr.cons (d := 31) ha r399
            exact opS_no ha rfl rfl rfl rfl ⟨_, Stp.refl _ _ _, rfl⟩
          · rintro o400 w401 a402 ha ⟨hB, h12, h17⟩ ⟨r403, -⟩
            have ha := Fr.cons (d := 31) ha r403
            exact opS_no ha rfl rfl rfl rfl ⟨_, Stp.refl _ _ _, rfl⟩
          · rintro o404 w405 a406 ha ⟨hB, h12, h17⟩ ⟨r407, -⟩
            have ha := Fr.cons (d := 31) ha r407
            exact opS_no ha rfl rfl rfl rfl ⟨_, Stp.refl _ _ _, rfl⟩
          · rintro o408 w409 a410 ha ⟨hB, h12, h17⟩ ⟨r411, -⟩
            have ha := Fr.cons (d := 31) ha r411
            exact opS_no ha rfl rfl rfl rfl ⟨_, Stp.refl _ _ _, rfl⟩
          · rintro o412 w413 a414 ha ⟨hB, h12, h17⟩ ⟨r415, -⟩
            have ha := Fr.cons (d := 31) ha r415
            exact opS_no ha rfl rfl rfl rfl ⟨_, Stp.refl _ _ _, rfl⟩
        rintro o416 w417 a418 ha ⟨hB, h12, h17⟩ ⟨-, -, -, -, -, -, -, -, -, -, -, -, -, -, -, r419, -, -, -, -, -, r420, -, r421, -⟩
        have ha := Fr.cons (d := 31) ha r419
        have ha := Fr.cons (d := 37) ha r420
        have ha := Fr.cons (d := 39) ha r421
        refine wl_of ha ?_
        simp only [List.length_cons, List.length_nil, Nat.zero_add, Nat.reduceAdd, List.drop_succ_cons, List.drop_zero]
        refine st_no rfl rfl rfl (by decide) ?_
        refine st_no rfl rfl rfl (by decide) ?_
        refine st_val (ex_pick_f rfl rfl) (by decide) trivial ?_
        refine st_val (ex_assign rfl) (by decide) trivial ?_
        have e422 := Option.some.inj hq27
        subst e422
        refine wpF_end (r := [(4, (.bool false))]) ⟨rfl, trivial⟩ ?_
        refine np_norm (fun a ha => ⟨o416, ha, hB⟩)
    rintro a423 w29 ⟨o28, ha, hB⟩
    refine ap_k ha ?_
    refine nx ?_
    refine wpC_ret ?_
    refine nb_ret ?_
    refine nt_ret ?_
    have e424 := Option.some.inj hF
    subst e424
    refine ret_post (P := Try.prog) (vs := [(.bool q27)]) Try.results62 ⟨rfl, trivial⟩ ?_
    exact ⟨rfl, hB.keeps⟩
  · rw [if_neg (by rw [t26]; decide)] at hF
    refine wpC_seq ?_
    refine wpC_region ?_
    refine st_val (ex_eql rfl rfl) (by decide) trivial ?_
    refine st_val (ex_assign rfl) (by decide) trivial ?_
    refine wpF_end (r := [(2, (.pointer (some ⟨b11, 0, none⟩))), (3, (.pointer (some ⟨b16, 0, none⟩))), (5, (.bool x20)), (13, (.int .i64 p1.Class)), (43, (.bool (p1.Class == 2)))]) ⟨rfl, rfl, rfl, rfl, rfl, trivial⟩ ?_
    refine nx ?_
    refine wpC_cond rfl (fun t425 => ?_) (fun t425 => ?_)
    · rw [if_pos t425] at hF
      refine wpC_seq ?_
      refine wpC_region ?_
      refine st_val (ex_move rfl) (by decide) trivial ?_
      refine st_val (ex_move rfl) (by decide) trivial ?_
      obtain ⟨q426, hq426, hF⟩ := bind_some hF
      refine wpF_cutAt 38 (fun a428 w427 => Fr a428 135 [(84, (.bool q426))] ∧ Keeps w21 w427) ?_ ?_
      all_goals simp only [List.take_succ_cons, List.take_zero, List.drop_succ_cons, List.drop_zero]
      · have kp : Keeps w21 w21 := Keeps.refl _
        rcases Bool.eq_false_or_eq_true (x20) with t429 | t429
        · rw [if_pos t429] at hq426
          refine st_val (ex_field rfl Try.underlying46 rfl Try.sizeOf22) (by decide) ⟨_, rfl, (congrArg (fun b => some (Value.bool b)) t429)⟩ ?_
          refine st_val (ex_load1 rfl Try.isAgg22 (h17.cell rfl)) (by decide) ⟨_, rfl, (congrArg (fun b => some (Value.bool b)) t429)⟩ ?_
          refine st_val (ex_lenR rfl h8 Try.underlying22) (by decide) ⟨_, rfl, (congrArg (fun b => some (Value.bool b)) t429)⟩ ?_
          refine st_val (ex_eql rfl rfl) (by decide) ⟨_, rfl, (congrArg (fun b => some (Value.bool b)) t429)⟩ ?_
          refine st_val (ex_pick_t (congrArg (fun b => some (Value.bool b)) t429) rfl) (by decide) trivial ?_
          refine st_val (ex_move rfl) (by decide) trivial ?_
          rcases Bool.eq_false_or_eq_true ((p1.Ranks.length : Int) == 0) with t430 | t430
          · rw [if_pos t430] at hq426
            refine st_val (ex_loadA rfl Try.isAgg44 Try.sizeOf44 rfl h12.cells) (by decide) ⟨_, rfl, (congrArg (fun b => some (Value.bool b)) t430)⟩ ?_
            obtain ⟨x431, hx431, hq426⟩ := bind_some hq426
            refine st_op (by decide) ⟨_, rfl, (congrArg (fun b => some (Value.bool b)) t430)⟩ ?_
            refine wf_call (cS_waLoop w21 _ p0 (⟨_, rfl, (h2.keep hB.keeps)⟩) x431 hx431) Try.call106 ⟨rfl, trivial⟩ ?_
            rintro e436 w432 ⟨rfl, k433⟩
            have s435 := k433.stp 999 o14
            refine ⟨_, rfl, ?_⟩
            replace h12 := h12.stp s435 (by decide)
            replace h17 := h17.stp s435 (by decide)
            replace hB := hB.stp s435 (by decide)
            replace kp := Keeps.trans kp k433
            refine st_val (ex_lss rfl rfl) (by decide) ⟨_, rfl, (congrArg (fun b => some (Value.bool b)) t430)⟩ ?_
            refine st_val (ex_pick_t (congrArg (fun b => some (Value.bool b)) t430) rfl) (by decide) trivial ?_
            refine st_val (ex_move rfl) (by decide) trivial ?_
            rcases Bool.eq_false_or_eq_true (decide (x431 < 0)) with t437 | t437
            · rw [if_pos t437] at hq426
              refine st_val (ex_loadA rfl Try.isAgg44 Try.sizeOf44 rfl h12.cells) (by decide) ⟨_, rfl, (congrArg (fun b => some (Value.bool b)) t437)⟩ ?_
              refine st_val (ex_field rfl Try.underlying46 rfl Try.sizeOf26) (by decide) ⟨_, rfl, (congrArg (fun b => some (Value.bool b)) t437)⟩ ?_
              refine st_val (ex_load1 rfl Try.isAgg26 (h17.cell rfl)) (by decide) ⟨_, rfl, (congrArg (fun b => some (Value.bool b)) t437)⟩ ?_
              refine st_val (ex_field rfl Try.underlying46 rfl Try.sizeOf3) (by decide) ⟨_, rfl, (congrArg (fun b => some (Value.bool b)) t437)⟩ ?_
              refine st_val (ex_load1 rfl Try.isAgg3 (h17.cell rfl)) (by decide) ⟨_, rfl, (congrArg (fun b => some (Value.bool b)) t437)⟩ ?_
              obtain ⟨x438, hx438, hq426⟩ := bind_some hq426
              refine st_op (by decide) ⟨_, rfl, (congrArg (fun b => some (Value.bool b)) t437)⟩ ?_
              refine wf_call (cS_waRound fuel w432 _ p0 (⟨_, rfl, (h2.keep hB.keeps)⟩) _ p1.First (h4.keep hB.keeps) p1.Label x438 hx438) Try.call107 ⟨rfl, rfl, rfl, trivial⟩ ?_
              rintro e443 w439 ⟨rfl, k440⟩
              have s442 := k440.stp 999 o14
              refine ⟨_, rfl, ?_⟩
              replace h12 := h12.stp s442 (by decide)
              replace h17 := h17.stp s442 (by decide)
              replace hB := hB.stp s442 (by decide)
              replace kp := Keeps.trans kp k440
              refine st_val (ex_pick_t (congrArg (fun b => some (Value.bool b)) t437) rfl) (by decide) trivial ?_
              refine st_val (ex_move rfl) (by decide) trivial ?_
              rcases Bool.eq_false_or_eq_true (x438) with t444 | t444
              · rw [if_pos t444] at hq426
                refine st_val (ex_loadA rfl Try.isAgg44 Try.sizeOf44 rfl h12.cells) (by decide) ⟨_, rfl, (congrArg (fun b => some (Value.bool b)) t444)⟩ ?_
                refine st_val (ex_field rfl Try.underlying46 rfl Try.sizeOf26) (by decide) ⟨_, rfl, (congrArg (fun b => some (Value.bool b)) t444)⟩ ?_
                refine st_val (ex_load1 rfl Try.isAgg26 (h17.cell rfl)) (by decide) ⟨_, rfl, (congrArg (fun b => some (Value.bool b)) t444)⟩ ?_
                refine st_val (ex_field rfl Try.underlying46 rfl Try.sizeOf3) (by decide) ⟨_, rfl, (congrArg (fun b => some (Value.bool b)) t444)⟩ ?_
                refine st_val (ex_load1 rfl Try.isAgg3 (h17.cell rfl)) (by decide) ⟨_, rfl, (congrArg (fun b => some (Value.bool b)) t444)⟩ ?_
                obtain ⟨x445, hx445, hq426⟩ := bind_some hq426
                refine st_op (by decide) ⟨_, rfl, (congrArg (fun b => some (Value.bool b)) t444)⟩ ?_
                refine wf_call (cS_waRound fuel w439 _ p0 (⟨_, rfl, (h2.keep hB.keeps)⟩) _ p1.Second (h6.keep hB.keeps) p1.Label x445 hx445) Try.call107 ⟨rfl, rfl, rfl, trivial⟩ ?_
                rintro e450 w446 ⟨rfl, k447⟩
                have s449 := k447.stp 999 o14
                refine ⟨_, rfl, ?_⟩
                replace h12 := h12.stp s449 (by decide)
                replace h17 := h17.stp s449 (by decide)
                replace hB := hB.stp s449 (by decide)
                replace kp := Keeps.trans kp k447
                refine st_val (ex_pick_t (congrArg (fun b => some (Value.bool b)) t444) rfl) (by decide) trivial ?_
                refine st_val (ex_move rfl) (by decide) trivial ?_
                rcases Bool.eq_false_or_eq_true (x445) with t451 | t451
                · rw [if_pos t451] at hq426
                  refine st_val (ex_field rfl Try.underlying46 rfl Try.sizeOf26) (by decide) ⟨_, rfl, (congrArg (fun b => some (Value.bool b)) t451)⟩ ?_
                  refine st_val (ex_load1 rfl Try.isAgg26 (h17.cell rfl)) (by decide) ⟨_, rfl, (congrArg (fun b => some (Value.bool b)) t451)⟩ ?_
                  refine st_val (ex_lenR rfl h4 Try.underlying26) (by decide) ⟨_, rfl, (congrArg (fun b => some (Value.bool b)) t451)⟩ ?_
                  obtain ⟨x452, hx452, hq426⟩ := bind_some hq426
                  refine st_val (ex_sub rfl rfl hx452) (by decide) ⟨_, rfl, (congrArg (fun b => some (Value.bool b)) t451)⟩ ?_
                  refine st_val (ex_field rfl Try.underlying46 rfl Try.sizeOf26) (by decide) ⟨_, rfl, (congrArg (fun b => some (Value.bool b)) t451)⟩ ?_
                  refine st_val (ex_load1 rfl Try.isAgg26 (h17.cell rfl)) (by decide) ⟨_, rfl, (congrArg (fun b => some (Value.bool b)) t451)⟩ ?_
                  refine st_val (ex_lenR rfl h6 Try.underlying26) (by decide) ⟨_, rfl, (congrArg (fun b => some (Value.bool b)) t451)⟩ ?_
                  obtain ⟨x453, hx453, hq426⟩ := bind_some hq426
                  refine st_val (ex_sub rfl rfl hx453) (by decide) ⟨_, rfl, (congrArg (fun b => some (Value.bool b)) t451)⟩ ?_
                  obtain ⟨x454, hx454, hq426⟩ := bind_some hq426
                  refine st_op (by decide) ⟨_, rfl, (congrArg (fun b => some (Value.bool b)) t451)⟩ ?_
                  refine wf_call (cS_waGcd w446 x452 x453 x454 hx454) Try.call108 ⟨rfl, rfl, trivial⟩ ?_
                  rintro e459 w455 ⟨rfl, k456⟩
                  have s458 := k456.stp 999 o14
                  refine ⟨_, rfl, ?_⟩
                  replace h12 := h12.stp s458 (by decide)
                  replace h17 := h17.stp s458 (by decide)
                  replace hB := hB.stp s458 (by decide)
                  replace kp := Keeps.trans kp k456
                  refine st_val (ex_eql rfl rfl) (by decide) ⟨_, rfl, (congrArg (fun b => some (Value.bool b)) t451)⟩ ?_
                  refine st_val (ex_pick_t (congrArg (fun b => some (Value.bool b)) t451) rfl) (by decide) trivial ?_
                  have hq4262 := Option.some.inj hq426
                  refine wpF_end (r := [(84, (.bool (x454 == 1)))]) ⟨rfl, trivial⟩ ?_
                  subst hq4262
                  refine np_norm (fun a ha => ⟨ha, kp⟩)
                · rw [if_neg (by rw [t451]; decide)] at hq426
                  refine st_no rfl rfl (by rw [t451]; rfl) (by decide) ?_
                  refine st_no rfl rfl (by rw [t451]; rfl) (by decide) ?_
                  refine st_no rfl rfl (by rw [t451]; rfl) (by decide) ?_
                  refine st_no rfl rfl (by rw [t451]; rfl) (by decide) ?_
                  refine st_no rfl rfl (by rw [t451]; rfl) (by decide) ?_
                  refine st_no rfl rfl (by rw [t451]; rfl) (by decide) ?_
                  refine st_no rfl rfl (by rw [t451]; rfl) (by decide) ?_
                  refine st_no rfl rfl (by rw [t451]; rfl) (by decide) ?_
                  refine st_no rfl rfl (by rw [t451]; rfl) (by decide) ?_
                  refine st_no rfl rfl (by rw [t451]; rfl) (by decide) ?_
                  refine st_val (ex_pick_f (congrArg (fun b => some (Value.bool b)) t451) rfl) (by decide) trivial ?_
                  have hq4262 := Option.some.inj hq426
                  refine wpF_end (r := [(84, (.bool false))]) ⟨rfl, trivial⟩ ?_
                  subst hq4262
                  refine np_norm (fun a ha => ⟨ha, kp⟩)
              · rw [if_neg (by rw [t444]; decide)] at hq426
                refine st_no rfl rfl (by rw [t444]; rfl) (by decide) ?_
                refine st_no rfl rfl (by rw [t444]; rfl) (by decide) ?_
                refine st_no rfl rfl (by rw [t444]; rfl) (by decide) ?_
                refine st_no rfl rfl (by rw [t444]; rfl) (by decide) ?_
                refine st_no rfl rfl (by rw [t444]; rfl) (by decide) ?_
                refine st_no rfl rfl (by rw [t444]; rfl) (by decide) ?_
                refine st_val (ex_pick_f (congrArg (fun b => some (Value.bool b)) t444) rfl) (by decide) trivial ?_
                refine st_val (ex_move rfl) (by decide) trivial ?_
                refine st_no rfl rfl rfl (by decide) ?_
                refine st_no rfl rfl rfl (by decide) ?_
                refine st_no rfl rfl rfl (by decide) ?_
                refine st_no rfl rfl rfl (by decide) ?_
                refine st_no rfl rfl rfl (by decide) ?_
                refine st_no rfl rfl rfl (by decide) ?_
                refine st_no rfl rfl rfl (by decide) ?_
                refine st_no rfl rfl rfl (by decide) ?_
                refine st_no rfl rfl rfl (by decide) ?_
                refine st_no rfl rfl rfl (by decide) ?_
                refine st_val (ex_pick_f rfl rfl) (by decide) trivial ?_
                have hq4262 := Option.some.inj hq426
                refine wpF_end (r := [(84, (.bool false))]) ⟨rfl, trivial⟩ ?_
                subst hq4262
                refine np_norm (fun a ha => ⟨ha, kp⟩)
            · rw [if_neg (by rw [t437]; decide)] at hq426
              refine st_no rfl rfl (by rw [t437]; rfl) (by decide) ?_
              refine st_no rfl rfl (by rw [t437]; rfl) (by decide) ?_
              refine st_no rfl rfl (by rw [t437]; rfl) (by decide) ?_
              refine st_no rfl rfl (by rw [t437]; rfl) (by decide) ?_
              refine st_no rfl rfl (by rw [t437]; rfl) (by decide) ?_
              refine st_no rfl rfl (by rw [t437]; rfl) (by decide) ?_
              refine st_val (ex_pick_f (congrArg (fun b => some (Value.bool b)) t437) rfl) (by decide) trivial ?_
              refine st_val (ex_move rfl) (by decide) trivial ?_
              refine st_no rfl rfl rfl (by decide) ?_
              refine st_no rfl rfl rfl (by decide) ?_
              refine st_no rfl rfl rfl (by decide) ?_
              refine st_no rfl rfl rfl (by decide) ?_
              refine st_no rfl rfl rfl (by decide) ?_
              refine st_no rfl rfl rfl (by decide) ?_
              refine st_val (ex_pick_f rfl rfl) (by decide) trivial ?_
              refine st_val (ex_move rfl) (by decide) trivial ?_
              refine st_no rfl rfl rfl (by decide) ?_
              refine st_no rfl rfl rfl (by decide) ?_
              refine st_no rfl rfl rfl (by decide) ?_
              refine st_no rfl rfl rfl (by decide) ?_
              refine st_no rfl rfl rfl (by decide) ?_
              refine st_no rfl rfl rfl (by decide) ?_
              refine st_no rfl rfl rfl (by decide) ?_
              refine st_no rfl rfl rfl (by decide) ?_
              refine st_no rfl rfl rfl (by decide) ?_
              refine st_no rfl rfl rfl (by decide) ?_
              refine st_val (ex_pick_f rfl rfl) (by decide) trivial ?_
              have hq4262 := Option.some.inj hq426
              refine wpF_end (r := [(84, (.bool false))]) ⟨rfl, trivial⟩ ?_
              subst hq4262
              refine np_norm (fun a ha => ⟨ha, kp⟩)
          · rw [if_neg (by rw [t430]; decide)] at hq426
            refine st_no rfl rfl (by rw [t430]; rfl) (by decide) ?_
            refine st_no rfl rfl (by rw [t430]; rfl) (by decide) ?_
            refine st_no rfl rfl (by rw [t430]; rfl) (by decide) ?_
            refine st_val (ex_pick_f (congrArg (fun b => some (Value.bool b)) t430) rfl) (by decide) trivial ?_
            refine st_val (ex_move rfl) (by decide) trivial ?_
            refine st_no rfl rfl rfl (by decide) ?_
            refine st_no rfl rfl rfl (by decide) ?_
            refine st_no rfl rfl rfl (by decide) ?_
            refine st_no rfl rfl rfl (by decide) ?_
            refine st_no rfl rfl rfl (by decide) ?_
            refine st_no rfl rfl rfl (by decide) ?_
            refine st_val (ex_pick_f rfl rfl) (by decide) trivial ?_
            refine st_val (ex_move rfl) (by decide) trivial ?_
            refine st_no rfl rfl rfl (by decide) ?_
            refine st_no rfl rfl rfl (by decide) ?_
            refine st_no rfl rfl rfl (by decide) ?_
            refine st_no rfl rfl rfl (by decide) ?_
            refine st_no rfl rfl rfl (by decide) ?_
            refine st_no rfl rfl rfl (by decide) ?_
            refine st_val (ex_pick_f rfl rfl) (by decide) trivial ?_
            refine st_val (ex_move rfl) (by decide) trivial ?_
            refine st_no rfl rfl rfl (by decide) ?_
            refine st_no rfl rfl rfl (by decide) ?_
            refine st_no rfl rfl rfl (by decide) ?_
            refine st_no rfl rfl rfl (by decide) ?_
            refine st_no rfl rfl rfl (by decide) ?_
            refine st_no rfl rfl rfl (by decide) ?_
            refine st_no rfl rfl rfl (by decide) ?_
            refine st_no rfl rfl rfl (by decide) ?_
            refine st_no rfl rfl rfl (by decide) ?_
            refine st_no rfl rfl rfl (by decide) ?_
            refine st_val (ex_pick_f rfl rfl) (by decide) trivial ?_
            have hq4262 := Option.some.inj hq426
            refine wpF_end (r := [(84, (.bool false))]) ⟨rfl, trivial⟩ ?_
            subst hq4262
            refine np_norm (fun a ha => ⟨ha, kp⟩)
        · rw [if_neg (by rw [t429]; decide)] at hq426
          refine st_no rfl rfl (by rw [t429]; rfl) (by decide) ?_
          refine st_no rfl rfl (by rw [t429]; rfl) (by decide) ?_
          refine st_no rfl rfl (by rw [t429]; rfl) (by decide) ?_
          refine st_no rfl rfl (by rw [t429]; rfl) (by decide) ?_
          refine st_val (ex_pick_f (congrArg (fun b => some (Value.bool b)) t429) rfl) (by decide) trivial ?_
          refine st_val (ex_move rfl) (by decide) trivial ?_
          refine st_no rfl rfl rfl (by decide) ?_
          refine st_no rfl rfl rfl (by decide) ?_
          refine st_no rfl rfl rfl (by decide) ?_
          refine st_val (ex_pick_f rfl rfl) (by decide) trivial ?_
          refine st_val (ex_move rfl) (by decide) trivial ?_
          refine st_no rfl rfl rfl (by decide) ?_
          refine st_no rfl rfl rfl (by decide) ?_
          refine st_no rfl rfl rfl (by decide) ?_
          refine st_no rfl rfl rfl (by decide) ?_
          refine st_no rfl rfl rfl (by decide) ?_
          refine st_no rfl rfl rfl (by decide) ?_
          refine st_val (ex_pick_f rfl rfl) (by decide) trivial ?_
          refine st_val (ex_move rfl) (by decide) trivial ?_
          refine st_no rfl rfl rfl (by decide) ?_
          refine st_no rfl rfl rfl (by decide) ?_
          refine st_no rfl rfl rfl (by decide) ?_
          refine st_no rfl rfl rfl (by decide) ?_
          refine st_no rfl rfl rfl (by decide) ?_
          refine st_no rfl rfl rfl (by decide) ?_
          refine st_val (ex_pick_f rfl rfl) (by decide) trivial ?_
          refine st_val (ex_move rfl) (by decide) trivial ?_
          refine st_no rfl rfl rfl (by decide) ?_
          refine st_no rfl rfl rfl (by decide) ?_
          refine st_no rfl rfl rfl (by decide) ?_
          refine st_no rfl rfl rfl (by decide) ?_
          refine st_no rfl rfl rfl (by decide) ?_
          refine st_no rfl rfl rfl (by decide) ?_
          refine st_no rfl rfl rfl (by decide) ?_
          refine st_no rfl rfl rfl (by decide) ?_
          refine st_no rfl rfl rfl (by decide) ?_
          refine st_no rfl rfl rfl (by decide) ?_
          refine st_val (ex_pick_f rfl rfl) (by decide) trivial ?_
          have hq4262 := Option.some.inj hq426
          refine wpF_end (r := [(84, (.bool false))]) ⟨rfl, trivial⟩ ?_
          subst hq4262
          refine np_norm (fun a ha => ⟨ha, kp⟩)
      rintro a462 w427 ⟨ha, k460⟩
      have s461 := k460.stp 999 o14
      replace h12 := h12.stp s461 (by decide)
      replace h17 := h17.stp s461 (by decide)
      replace hB := hB.stp s461 (by decide)
      refine wl_of ha ?_
      refine st_val (ex_assign rfl) (by decide) trivial ?_
      refine wpF_end (r := [(4, (.bool q426))]) ⟨rfl, trivial⟩ ?_
      refine nx ?_
      refine wpC_ret ?_
      refine nb_ret ?_
      refine nt_ret ?_
      have e463 := Option.some.inj hF
      subst e463
      refine ret_post (P := Try.prog) (vs := [(.bool q426)]) Try.results62 ⟨rfl, trivial⟩ ?_
      exact ⟨rfl, hB.keeps⟩
    · rw [if_neg (by rw [t425]; decide)] at hF
      refine wpC_seq ?_
      refine wpC_region ?_
      refine st_val (ex_eql rfl rfl) (by decide) trivial ?_
      refine st_val (ex_assign rfl) (by decide) trivial ?_
      refine wpF_end (r := [(2, (.pointer (some ⟨b11, 0, none⟩))), (3, (.pointer (some ⟨b16, 0, none⟩))), (5, (.bool x20)), (13, (.int .i64 p1.Class)), (85, (.bool (p1.Class == 1)))]) ⟨rfl, rfl, rfl, rfl, rfl, trivial⟩ ?_
      refine nx ?_
      refine wpC_cond rfl (fun t464 => ?_) (fun t464 => ?_)
      · rw [if_pos t464] at hF
        refine wpC_seq ?_
        refine wpC_region ?_
        refine st_val (ex_move rfl) (by decide) trivial ?_
        refine st_val (ex_move rfl) (by decide) trivial ?_
        obtain ⟨q465, hq465, hF⟩ := bind_some hF
        refine wpF_cutAt 19 (fun a467 w466 => Fr a467 135 [(107, (.bool q465))] ∧ Keeps w21 w466) ?_ ?_
        all_goals simp only [List.take_succ_cons, List.take_zero, List.drop_succ_cons, List.drop_zero]
        · have kp : Keeps w21 w21 := Keeps.refl _
          rcases Bool.eq_false_or_eq_true (x20) with t468 | t468
          · rw [if_pos t468] at hq465
            refine st_val (ex_field rfl Try.underlying46 rfl Try.sizeOf26) (by decide) ⟨_, rfl, (congrArg (fun b => some (Value.bool b)) t468)⟩ ?_
            refine st_val (ex_load1 rfl Try.isAgg26 (h17.cell rfl)) (by decide) ⟨_, rfl, (congrArg (fun b => some (Value.bool b)) t468)⟩ ?_
            refine st_val (ex_lenR rfl h6 Try.underlying26) (by decide) ⟨_, rfl, (congrArg (fun b => some (Value.bool b)) t468)⟩ ?_
            refine st_val (ex_eql rfl rfl) (by decide) ⟨_, rfl, (congrArg (fun b => some (Value.bool b)) t468)⟩ ?_
            refine st_val (ex_pick_t (congrArg (fun b => some (Value.bool b)) t468) rfl) (by decide) trivial ?_
            refine st_val (ex_move rfl) (by decide) trivial ?_
            rcases Bool.eq_false_or_eq_true ((p1.Second.length : Int) == 0) with t469 | t469
            · rw [if_pos t469] at hq465
              refine st_val (ex_loadA rfl Try.isAgg44 Try.sizeOf44 rfl h12.cells) (by decide) ⟨_, rfl, (congrArg (fun b => some (Value.bool b)) t469)⟩ ?_
              refine st_val (ex_field rfl Try.underlying46 rfl Try.sizeOf26) (by decide) ⟨_, rfl, (congrArg (fun b => some (Value.bool b)) t469)⟩ ?_
              refine st_val (ex_load1 rfl Try.isAgg26 (h17.cell rfl)) (by decide) ⟨_, rfl, (congrArg (fun b => some (Value.bool b)) t469)⟩ ?_
              refine st_val (ex_field rfl Try.underlying46 rfl Try.sizeOf3) (by decide) ⟨_, rfl, (congrArg (fun b => some (Value.bool b)) t469)⟩ ?_
              refine st_val (ex_load1 rfl Try.isAgg3 (h17.cell rfl)) (by decide) ⟨_, rfl, (congrArg (fun b => some (Value.bool b)) t469)⟩ ?_
              obtain ⟨x470, hx470, hq465⟩ := bind_some hq465
              refine st_op (by decide) ⟨_, rfl, (congrArg (fun b => some (Value.bool b)) t469)⟩ ?_
              refine wf_call (cS_waRound fuel w21 _ p0 (⟨_, rfl, (h2.keep hB.keeps)⟩) _ p1.First (h4.keep hB.keeps) p1.Label x470 hx470) Try.call107 ⟨rfl, rfl, rfl, trivial⟩ ?_
              rintro e475 w471 ⟨rfl, k472⟩
              have s474 := k472.stp 999 o14
              refine ⟨_, rfl, ?_⟩
              replace h12 := h12.stp s474 (by decide)
              replace h17 := h17.stp s474 (by decide)
              replace hB := hB.stp s474 (by decide)
              replace kp := Keeps.trans kp k472
              refine st_val (ex_pick_t (congrArg (fun b => some (Value.bool b)) t469) rfl) (by decide) trivial ?_
              refine st_val (ex_move rfl) (by decide) trivial ?_
              rcases Bool.eq_false_or_eq_true (x470) with t476 | t476
              · rw [if_pos t476] at hq465
                refine st_val (ex_loadA rfl Try.isAgg44 Try.sizeOf44 rfl h12.cells) (by decide) ⟨_, rfl, (congrArg (fun b => some (Value.bool b)) t476)⟩ ?_
                refine st_val (ex_field rfl Try.underlying46 rfl Try.sizeOf22) (by decide) ⟨_, rfl, (congrArg (fun b => some (Value.bool b)) t476)⟩ ?_
                refine st_val (ex_load1 rfl Try.isAgg22 (h17.cell rfl)) (by decide) ⟨_, rfl, (congrArg (fun b => some (Value.bool b)) t476)⟩ ?_
                obtain ⟨x477, hx477, hq465⟩ := bind_some hq465
                refine st_op (by decide) ⟨_, rfl, (congrArg (fun b => some (Value.bool b)) t476)⟩ ?_
                refine wf_call (cS_waRanked w471 _ p0 (⟨_, rfl, (h2.keep hB.keeps)⟩) _ p1.Ranks (h8.keep hB.keeps) x477 hx477) Try.call109 ⟨rfl, rfl, trivial⟩ ?_
                rintro e482 w478 ⟨rfl, k479⟩
                have s481 := k479.stp 999 o14
                refine ⟨_, rfl, ?_⟩
                replace h12 := h12.stp s481 (by decide)
                replace h17 := h17.stp s481 (by decide)
                replace hB := hB.stp s481 (by decide)
                replace kp := Keeps.trans kp k479
                refine st_val (ex_pick_t (congrArg (fun b => some (Value.bool b)) t476) rfl) (by decide) trivial ?_
                have hq4652 := Option.some.inj hq465
                refine wpF_end (r := [(107, (.bool x477))]) ⟨rfl, trivial⟩ ?_
                subst hq4652
                refine np_norm (fun a ha => ⟨ha, kp⟩)
              · rw [if_neg (by rw [t476]; decide)] at hq465
                refine st_no rfl rfl (by rw [t476]; rfl) (by decide) ?_
                refine st_no rfl rfl (by rw [t476]; rfl) (by decide) ?_
                refine st_no rfl rfl (by rw [t476]; rfl) (by decide) ?_
                refine st_no rfl rfl (by rw [t476]; rfl) (by decide) ?_
                refine st_val (ex_pick_f (congrArg (fun b => some (Value.bool b)) t476) rfl) (by decide) trivial ?_
                have hq4652 := Option.some.inj hq465
                refine wpF_end (r := [(107, (.bool false))]) ⟨rfl, trivial⟩ ?_
                subst hq4652
                refine np_norm (fun a ha => ⟨ha, kp⟩)
            · rw [if_neg (by rw [t469]; decide)] at hq465
              refine st_no rfl rfl (by rw [t469]; rfl) (by decide) ?_
              refine st_no rfl rfl (by rw [t469]; rfl) (by decide) ?_
              refine st_no rfl rfl (by rw [t469]; rfl) (by decide) ?_
              refine st_no rfl rfl (by rw [t469]; rfl) (by decide) ?_
              refine st_no rfl rfl (by rw [t469]; rfl) (by decide) ?_
              refine st_no rfl rfl (by rw [t469]; rfl) (by decide) ?_
              refine st_val (ex_pick_f (congrArg (fun b => some (Value.bool b)) t469) rfl) (by decide) trivial ?_
              refine st_val (ex_move rfl) (by decide) trivial ?_
              refine st_no rfl rfl rfl (by decide) ?_
              refine st_no rfl rfl rfl (by decide) ?_
              refine st_no rfl rfl rfl (by decide) ?_
              refine st_no rfl rfl rfl (by decide) ?_
              refine st_val (ex_pick_f rfl rfl) (by decide) trivial ?_
              have hq4652 := Option.some.inj hq465
              refine wpF_end (r := [(107, (.bool false))]) ⟨rfl, trivial⟩ ?_
              subst hq4652
              refine np_norm (fun a ha => ⟨ha, kp⟩)
          · rw [if_neg (by rw [t468]; decide)] at hq465
            refine st_no rfl rfl (by rw [t468]; rfl) (by decide) ?_
            refine st_no rfl rfl (by rw [t468]; rfl) (by decide) ?_
            refine st_no rfl rfl (by rw [t468]; rfl) (by decide) ?_
            refine st_no rfl rfl (by rw [t468]; rfl) (by decide) ?_
            refine st_val (ex_pick_f (congrArg (fun b => some (Value.bool b)) t468) rfl) (by decide) trivial ?_
            refine st_val (ex_move rfl) (by decide) trivial ?_
            refine st_no rfl rfl rfl (by decide) ?_
            refine st_no rfl rfl rfl (by decide) ?_
            refine st_no rfl rfl rfl (by decide) ?_
            refine st_no rfl rfl rfl (by decide) ?_
            refine st_no rfl rfl rfl (by decide) ?_
            refine st_no rfl rfl rfl (by decide) ?_
            refine st_val (ex_pick_f rfl rfl) (by decide) trivial ?_
            refine st_val (ex_move rfl) (by decide) trivial ?_
            refine st_no rfl rfl rfl (by decide) ?_
            refine st_no rfl rfl rfl (by decide) ?_
            refine st_no rfl rfl rfl (by decide) ?_
            refine st_no rfl rfl rfl (by decide) ?_
            refine st_val (ex_pick_f rfl rfl) (by decide) trivial ?_
            have hq4652 := Option.some.inj hq465
            refine wpF_end (r := [(107, (.bool false))]) ⟨rfl, trivial⟩ ?_
            subst hq4652
            refine np_norm (fun a ha => ⟨ha, kp⟩)
        rintro a485 w466 ⟨ha, k483⟩
        have s484 := k483.stp 999 o14
        replace h12 := h12.stp s484 (by decide)
        replace h17 := h17.stp s484 (by decide)
        replace hB := hB.stp s484 (by decide)
        refine wl_of ha ?_
        refine st_val (ex_assign rfl) (by decide) trivial ?_
        refine wpF_end (r := [(4, (.bool q465))]) ⟨rfl, trivial⟩ ?_
        refine nx ?_
        refine wpC_ret ?_
        refine nb_ret ?_
        refine nt_ret ?_
        have e486 := Option.some.inj hF
        subst e486
        refine ret_post (P := Try.prog) (vs := [(.bool q465)]) Try.results62 ⟨rfl, trivial⟩ ?_
        exact ⟨rfl, hB.keeps⟩
      · rw [if_neg (by rw [t464]; decide)] at hF
        refine wpC_seq ?_
        refine wpC_region ?_
        refine st_val (ex_eql rfl rfl) (by decide) trivial ?_
        refine st_val (ex_assign rfl) (by decide) trivial ?_
        refine wpF_end (r := [(2, (.pointer (some ⟨b11, 0, none⟩))), (3, (.pointer (some ⟨b16, 0, none⟩))), (108, (.bool (p1.Class == 0)))]) ⟨rfl, rfl, rfl, trivial⟩ ?_
        refine nx ?_
        refine wpC_cond rfl (fun t487 => ?_) (fun t487 => ?_)
        · rw [if_pos t487] at hF
          refine wpC_seq ?_
          refine wpC_region ?_
          refine st_val (ex_field rfl Try.underlying46 rfl Try.sizeOf3) (by decide) trivial ?_
          refine st_val (ex_load1 rfl Try.isAgg3 (h17.cell rfl)) (by decide) trivial ?_
          refine st_val (ex_eql rfl rfl) (by decide) trivial ?_
          refine st_val (ex_move rfl) (by decide) trivial ?_
          obtain ⟨q488, hq488, hF⟩ := bind_some hF
          refine wpF_cutAt 21 (fun a490 w489 => Fr a490 135 [(134, (.bool q488))] ∧ Keeps w21 w489) ?_ ?_
          all_goals simp only [List.take_succ_cons, List.take_zero, List.drop_succ_cons, List.drop_zero]
          · have kp : Keeps w21 w21 := Keeps.refl _
            rcases Bool.eq_false_or_eq_true (p1.Label == 0) with t491 | t491
            · rw [if_pos t491] at hq488
              refine st_val (ex_field rfl Try.underlying46 rfl Try.sizeOf26) (by decide) ⟨_, rfl, (congrArg (fun b => some (Value.bool b)) t491)⟩ ?_
              refine st_val (ex_load1 rfl Try.isAgg26 (h17.cell rfl)) (by decide) ⟨_, rfl, (congrArg (fun b => some (Value.bool b)) t491)⟩ ?_
              refine st_val (ex_lenR rfl h4 Try.underlying26) (by decide) ⟨_, rfl, (congrArg (fun b => some (Value.bool b)) t491)⟩ ?_
              refine st_val (ex_field rfl Try.underlying46 rfl Try.sizeOf26) (by decide) ⟨_, rfl, (congrArg (fun b => some (Value.bool b)) t491)⟩ ?_
              refine st_val (ex_load1 rfl Try.isAgg26 (h17.cell rfl)) (by decide) ⟨_, rfl, (congrArg (fun b => some (Value.bool b)) t491)⟩ ?_
              refine st_val (ex_lenR rfl h6 Try.underlying26) (by decide) ⟨_, rfl, (congrArg (fun b => some (Value.bool b)) t491)⟩ ?_
              obtain ⟨x492, hx492, hq488⟩ := bind_some hq488
              refine st_val (ex_add rfl rfl hx492) (by decide) ⟨_, rfl, (congrArg (fun b => some (Value.bool b)) t491)⟩ ?_
              refine st_val (ex_eql rfl rfl) (by decide) ⟨_, rfl, (congrArg (fun b => some (Value.bool b)) t491)⟩ ?_
              refine st_val (ex_pick_t (congrArg (fun b => some (Value.bool b)) t491) rfl) (by decide) trivial ?_
              refine st_val (ex_move rfl) (by decide) trivial ?_
              rcases Bool.eq_false_or_eq_true (x492 == 0) with t493 | t493
              · rw [if_pos t493] at hq488
                refine st_val (ex_loadA rfl Try.isAgg44 Try.sizeOf44 rfl h12.cells) (by decide) ⟨_, rfl, (congrArg (fun b => some (Value.bool b)) t493)⟩ ?_
                refine st_val (ex_field rfl Try.underlying46 rfl Try.sizeOf22) (by decide) ⟨_, rfl, (congrArg (fun b => some (Value.bool b)) t493)⟩ ?_
                refine st_val (ex_load1 rfl Try.isAgg22 (h17.cell rfl)) (by decide) ⟨_, rfl, (congrArg (fun b => some (Value.bool b)) t493)⟩ ?_
                obtain ⟨x494, hx494, hq488⟩ := bind_some hq488
                refine st_op (by decide) ⟨_, rfl, (congrArg (fun b => some (Value.bool b)) t493)⟩ ?_
                refine wf_call (cS_waRanked w21 _ p0 (⟨_, rfl, (h2.keep hB.keeps)⟩) _ p1.Ranks (h8.keep hB.keeps) x494 hx494) Try.call109 ⟨rfl, rfl, trivial⟩ ?_
                rintro e499 w495 ⟨rfl, k496⟩
                have s498 := k496.stp 999 o14
                refine ⟨_, rfl, ?_⟩
                replace h12 := h12.stp s498 (by decide)
                replace h17 := h17.stp s498 (by decide)
                replace hB := hB.stp s498 (by decide)
                replace kp := Keeps.trans kp k496
                refine st_val (ex_pick_t (congrArg (fun b => some (Value.bool b)) t493) rfl) (by decide) trivial ?_
                refine st_val (ex_move rfl) (by decide) trivial ?_
                rcases Bool.eq_false_or_eq_true (x494) with t500 | t500
                · rw [if_pos t500] at hq488
                  refine st_val (ex_loadA rfl Try.isAgg44 Try.sizeOf44 rfl h12.cells) (by decide) ⟨_, rfl, (congrArg (fun b => some (Value.bool b)) t500)⟩ ?_
                  refine st_val (ex_field rfl Try.underlying46 rfl Try.sizeOf22) (by decide) ⟨_, rfl, (congrArg (fun b => some (Value.bool b)) t500)⟩ ?_
                  refine st_val (ex_load1 rfl Try.isAgg22 (h17.cell rfl)) (by decide) ⟨_, rfl, (congrArg (fun b => some (Value.bool b)) t500)⟩ ?_
                  obtain ⟨x501, hx501, hq488⟩ := bind_some hq488
                  refine st_op (by decide) ⟨_, rfl, (congrArg (fun b => some (Value.bool b)) t500)⟩ ?_
                  refine wf_call (cS_waAbove w495 _ p0 (⟨_, rfl, (h2.keep hB.keeps)⟩) _ p1.Ranks (h8.keep hB.keeps) x501 hx501) Try.call110 ⟨rfl, rfl, trivial⟩ ?_
                  rintro e506 w502 ⟨rfl, k503⟩
                  have s505 := k503.stp 999 o14
                  refine ⟨_, rfl, ?_⟩
                  replace h12 := h12.stp s505 (by decide)
                  replace h17 := h17.stp s505 (by decide)
                  replace hB := hB.stp s505 (by decide)
                  replace kp := Keeps.trans kp k503
                  refine st_val (ex_pick_t (congrArg (fun b => some (Value.bool b)) t500) rfl) (by decide) trivial ?_
                  have hq4882 := Option.some.inj hq488
                  refine wpF_end (r := [(134, (.bool x501))]) ⟨rfl, trivial⟩ ?_
                  subst hq4882
                  refine np_norm (fun a ha => ⟨ha, kp⟩)
                · rw [if_neg (by rw [t500]; decide)] at hq488
                  refine st_no rfl rfl (by rw [t500]; rfl) (by decide) ?_
                  refine st_no rfl rfl (by rw [t500]; rfl) (by decide) ?_
                  refine st_no rfl rfl (by rw [t500]; rfl) (by decide) ?_
                  refine st_no rfl rfl (by rw [t500]; rfl) (by decide) ?_
                  refine st_val (ex_pick_f (congrArg (fun b => some (Value.bool b)) t500) rfl) (by decide) trivial ?_
                  have hq4882 := Option.some.inj hq488
                  refine wpF_end (r := [(134, (.bool false))]) ⟨rfl, trivial⟩ ?_
                  subst hq4882
                  refine np_norm (fun a ha => ⟨ha, kp⟩)
              · rw [if_neg (by rw [t493]; decide)] at hq488
                refine st_no rfl rfl (by rw [t493]; rfl) (by decide) ?_
                refine st_no rfl rfl (by rw [t493]; rfl) (by decide) ?_
                refine st_no rfl rfl (by rw [t493]; rfl) (by decide) ?_
                refine st_no rfl rfl (by rw [t493]; rfl) (by decide) ?_
                refine st_val (ex_pick_f (congrArg (fun b => some (Value.bool b)) t493) rfl) (by decide) trivial ?_
                refine st_val (ex_move rfl) (by decide) trivial ?_
                refine st_no rfl rfl rfl (by decide) ?_
                refine st_no rfl rfl rfl (by decide) ?_
                refine st_no rfl rfl rfl (by decide) ?_
                refine st_no rfl rfl rfl (by decide) ?_
                refine st_val (ex_pick_f rfl rfl) (by decide) trivial ?_
                have hq4882 := Option.some.inj hq488
                refine wpF_end (r := [(134, (.bool false))]) ⟨rfl, trivial⟩ ?_
                subst hq4882
                refine np_norm (fun a ha => ⟨ha, kp⟩)
            · rw [if_neg (by rw [t491]; decide)] at hq488
              refine st_no rfl rfl (by rw [t491]; rfl) (by decide) ?_
              refine st_no rfl rfl (by rw [t491]; rfl) (by decide) ?_
              refine st_no rfl rfl (by rw [t491]; rfl) (by decide) ?_
              refine st_no rfl rfl (by rw [t491]; rfl) (by decide) ?_
              refine st_no rfl rfl (by rw [t491]; rfl) (by decide) ?_
              refine st_no rfl rfl (by rw [t491]; rfl) (by decide) ?_
              refine st_no rfl rfl (by rw [t491]; rfl) (by decide) ?_
              refine st_no rfl rfl (by rw [t491]; rfl) (by decide) ?_
              refine st_val (ex_pick_f (congrArg (fun b => some (Value.bool b)) t491) rfl) (by decide) trivial ?_
              refine st_val (ex_move rfl) (by decide) trivial ?_
              refine st_no rfl rfl rfl (by decide) ?_
              refine st_no rfl rfl rfl (by decide) ?_
              refine st_no rfl rfl rfl (by decide) ?_
              refine st_no rfl rfl rfl (by decide) ?_
              refine st_val (ex_pick_f rfl rfl) (by decide) trivial ?_
              refine st_val (ex_move rfl) (by decide) trivial ?_
              refine st_no rfl rfl rfl (by decide) ?_
              refine st_no rfl rfl rfl (by decide) ?_
              refine st_no rfl rfl rfl (by decide) ?_
              refine st_no rfl rfl rfl (by decide) ?_
              refine st_val (ex_pick_f rfl rfl) (by decide) trivial ?_
              have hq4882 := Option.some.inj hq488
              refine wpF_end (r := [(134, (.bool false))]) ⟨rfl, trivial⟩ ?_
              subst hq4882
              refine np_norm (fun a ha => ⟨ha, kp⟩)
          rintro a509 w489 ⟨ha, k507⟩
          have s508 := k507.stp 999 o14
          replace h12 := h12.stp s508 (by decide)
          replace h17 := h17.stp s508 (by decide)
          replace hB := hB.stp s508 (by decide)
          refine wl_of ha ?_
          refine st_val (ex_assign rfl) (by decide) trivial ?_
          refine wpF_end (r := [(4, (.bool q488))]) ⟨rfl, trivial⟩ ?_
          refine nx ?_
          refine wpC_ret ?_
          refine nb_ret ?_
          refine nt_ret ?_
          have e510 := Option.some.inj hF
          subst e510
          refine ret_post (P := Try.prog) (vs := [(.bool q488)]) Try.results62 ⟨rfl, trivial⟩ ?_
          exact ⟨rfl, hB.keeps⟩
        · rw [if_neg (by rw [t487]; decide)] at hF
          refine wpC_skip ?_
          refine nb_norm ?_
          refine nx ?_
          refine wpC_seq ?_
          refine wpC_region ?_
          refine st_val (ex_assign rfl) (by decide) trivial ?_
          refine wpF_end (r := [(4, (.bool false))]) ⟨rfl, trivial⟩ ?_
          refine nx ?_
          refine wpC_ret ?_
          have e511 := Option.some.inj hF
          subst e511
          refine ret_post (P := Try.prog) (vs := [(.bool false)]) Try.results62 ⟨rfl, trivial⟩ ?_
          exact ⟨rfl, hB.keeps⟩

def fS_CheckWalkCertificate (fuel : Nat) (p0 : T_WalkProblem) (p1 : T_WalkCertificate) : Option (Bool × Bool) :=
  (fS_waGood p0) >>= fun x19 =>
  if !x19 then
    some (false, false)
  else
    (fS_waCheck fuel p0 p1) >>= fun x27 =>
    some (x27, true)

def pS_CheckWalkCertificate (w : World) (r : Bool × Bool) : Ending → World → Prop := fun e w' => e = .returned (.tuple #[.bool r.1, .bool r.2]) ∧ Keeps w w'
set_option maxRecDepth 100000 in
set_option maxHeartbeats 2000000 in
theorem cS_CheckWalkCertificate (fuel : Nat) (w : World) (u0 : List Value) (p0 : T_WalkProblem) (g0 : Rp.rd zt w u0 p0) (u1 : List Value) (p1 : T_WalkCertificate) (g1 : Rp.rd zt w u1 p1) (r : Bool × Bool) (hF : fS_CheckWalkCertificate fuel p0 p1 = some r) :
    Calls Try.prog 23 #[.agg u0.toArray, .agg u1.toArray] w (pS_CheckWalkCertificate w r) := by
  unfold fS_CheckWalkCertificate at hF
  obtain ⟨v1, rfl, h2⟩ := g0
  obtain ⟨v3, v5, v7, rfl, h4, h6, h8⟩ := g1
  have hB : Bs (fun _ => 1) (col (fun _ => 1)) w w := Bs.start _ _
  refine calls_start (n := 12) (vs := [(.agg #[(.int .i64 p0.Labels), v1]), (.agg #[(.int .i64 p1.Class), (.int .i64 p1.Label), v3, v5, v7])]) Try.func23 rfl rfl ?_
  refine wpC_seq ?_
  refine wpC_region ?_
  refine st_op (by decide) trivial ?_
  refine wf_box (o := (col (fun _ => 1))) w.heap.size 11 hB.keeps.size (cs := [(.int .i64 p0.Labels), v1]) rfl rfl ?_
  intro o9 w10 b11 h12 s13
  replace hB := hB.stp s13 (by decide)
  refine st_op (by decide) trivial ?_
  refine wf_box (o := o9) w.heap.size 12 hB.keeps.size (cs := [(.int .i64 p1.Class), (.int .i64 p1.Label), v3, v5, v7]) rfl rfl ?_
  intro o14 w15 b16 h17 s18
  replace h12 := h12.stp s18 (by decide)
  replace hB := hB.stp s18 (by decide)
  refine st_val (ex_assign rfl) (by decide) trivial ?_
  refine st_val (ex_assign rfl) (by decide) trivial ?_
  refine wpF_end (r := [(2, (.pointer (some ⟨b11, 0, none⟩))), (3, (.pointer (some ⟨b16, 0, none⟩)))]) ⟨rfl, rfl, trivial⟩ ?_
  refine nx ?_
  refine wpC_seq ?_
  refine wpC_seq ?_
  refine wpC_region ?_
  refine st_val (ex_loadA rfl Try.isAgg44 Try.sizeOf44 rfl h12.cells) (by decide) trivial ?_
  obtain ⟨x19, hx19, hF⟩ := bind_some hF
  refine st_op (by decide) trivial ?_
  refine wf_call (cS_waGood w15 _ p0 (⟨_, rfl, (h2.keep hB.keeps)⟩) x19 hx19) Try.call61 ⟨rfl, trivial⟩ ?_
  rintro e24 w20 ⟨rfl, k21⟩
  have s23 := k21.stp 999 o14
  refine ⟨_, rfl, ?_⟩
  replace h12 := h12.stp s23 (by decide)
  replace h17 := h17.stp s23 (by decide)
  replace hB := hB.stp s23 (by decide)
  refine st_val (ex_not rfl) (by decide) trivial ?_
  refine wpF_end (r := [(2, (.pointer (some ⟨b11, 0, none⟩))), (3, (.pointer (some ⟨b16, 0, none⟩))), (8, (.bool (!x19)))]) ⟨rfl, rfl, rfl, trivial⟩ ?_
  refine nx ?_
  refine wpC_cond rfl (fun t25 => ?_) (fun t25 => ?_)
  · rw [if_pos t25] at hF
    refine wpC_seq ?_
    refine wpC_region ?_
    refine st_val (ex_assign rfl) (by decide) trivial ?_
    refine st_val (ex_assign rfl) (by decide) trivial ?_
    refine wpF_end (r := [(4, (.bool false)), (5, (.bool false))]) ⟨rfl, rfl, trivial⟩ ?_
    refine nx ?_
    refine wpC_ret ?_
    refine nt_ret ?_
    have e26 := Option.some.inj hF
    subst e26
    refine ret_post (P := Try.prog) (vs := [(.bool false), (.bool false)]) Try.results23 ⟨rfl, rfl, trivial⟩ ?_
    exact ⟨rfl, hB.keeps⟩
  · rw [if_neg (by rw [t25]; decide)] at hF
    refine wpC_skip ?_
    refine nx ?_
    refine wpC_seq ?_
    refine wpC_region ?_
    refine st_val (ex_loadA rfl Try.isAgg44 Try.sizeOf44 rfl h12.cells) (by decide) trivial ?_
    refine st_val (ex_loadA rfl Try.isAgg46 Try.sizeOf46 rfl h17.cells) (by decide) trivial ?_
    obtain ⟨x27, hx27, hF⟩ := bind_some hF
    refine st_op (by decide) trivial ?_
    refine wf_call (cS_waCheck fuel w20 _ p0 (⟨_, rfl, (h2.keep hB.keeps)⟩) _ p1 (⟨_, _, _, rfl, (h4.keep hB.keeps), (h6.keep hB.keeps), (h8.keep hB.keeps)⟩) x27 hx27) Try.call62 ⟨rfl, rfl, trivial⟩ ?_
    rintro e32 w28 ⟨rfl, k29⟩
    have s31 := k29.stp 999 o14
    refine ⟨_, rfl, ?_⟩
    replace h12 := h12.stp s31 (by decide)
    replace h17 := h17.stp s31 (by decide)
    replace hB := hB.stp s31 (by decide)
    refine st_val (ex_assign rfl) (by decide) trivial ?_
    refine st_val (ex_assign rfl) (by decide) trivial ?_
    refine wpF_end (r := [(4, (.bool x27)), (5, (.bool true))]) ⟨rfl, rfl, trivial⟩ ?_
    refine nx ?_
    refine wpC_ret ?_
    have e33 := Option.some.inj hF
    subst e33
    refine ret_post (P := Try.prog) (vs := [(.bool x27), (.bool true)]) Try.results23 ⟨rfl, rfl, trivial⟩ ?_
    exact ⟨rfl, hB.keeps⟩

end Go.Proofs.Ytabclfacjaeblaa
