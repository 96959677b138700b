/- spec.roFault, spec.roLabeled, spec.IsRootedSolution, spec.FirstRootedFault, (impl.RootedProblem).line, impl.rootedFault$1, impl.rootedFault, impl.IsRootedSolution, impl.FirstRootedFault: plain functions, and the walks that show that the program computes them (printed by gen.py). -/
import Derived.Test.YtiejigogmnkjdaaGM
import Derived.Test.YtiejigogmnkjdaaGN
import Derived.Test.YtiejigogmnkjdaaGIm
import Derived.Test.YtiejigogmnkjdaaGR
namespace Go.Proofs.Ytiejigogmnkjdaa
open Go.RowKit
set_option linter.unusedSimpArgs false
set_option linter.unusedVariables false

theorem info2_t_int_Y : Inf Try.prog 3 (.int .i64 0) 1 8 := by unfold Inf; kernel_rfl

def fS_roFault_s1 (fuel : Nat) (p0 : T_RootedProblem) (p2 : List Int) : Int → (List Int) → Unit → Option (Lp Unit Unit Int) := fun (i21 : Int) (x31 : List Int) (s : Unit) =>
  (
    if decide ((x31.length : Int) > 0) then
      (ix p2 i21) >>= fun x46 =>
      (fS_coThrough p2 x31) >>= fun x54 =>
      (fS_prSorted fuel x54) >>= fun x63 =>
      (cat ([x46] : List Int) x63) >>= fun x72 =>
      (fS_prHas p0.Lines x72) >>= fun x196 =>
      some (!x196)
    else
      some false) >>= fun q41 =>
  if q41 then
    some (.ret i21)
  else
    some (.go ())
def fS_roFault (fuel : Nat) (p0 : T_RootedProblem) (p1 : List Int) (p2 : List Int) : Option Int :=
  (fS_roBelow p1) >>= fun x8 =>
  (forI (fS_roFault_s1 fuel p0 p2) x8 0 ()) >>= fun q22 =>
  match q22 with
  | .inl _ =>
    some (-1)
  | .inr r' => some r'

def pS_roFault (w : World) (r : Int) : Ending → World → Prop := fun e w' => e = .returned (.int .i64 r) ∧ Keeps w w'
set_option maxRecDepth 100000 in
set_option maxHeartbeats 2000000 in
theorem cS_roFault (fuel : Nat) (w : World) (u0 : List Value) (p0 : T_RootedProblem) (g0 : Rp.rd zt w u0 p0) (u1 : Value) (p1 : List Int) (g1 : RdL zt w u1 p1) (u2 : Value) (p2 : List Int) (g2 : RdL zt w u2 p2) (r : Int) (hF : fS_roFault fuel p0 p1 p2 = some r) :
    Calls Try.prog 94 #[.agg u0.toArray, u1, u2] w (pS_roFault w r) := by
  unfold fS_roFault at hF
  obtain ⟨v1, rfl, h2⟩ := g0
  have hB : Bs (fun _ => 1) (col (fun _ => 1)) w w := Bs.start _ _
  refine calls_start (n := 38) (vs := [(.agg #[(.int .i64 p0.Labels), (.int .i64 p0.Children), v1]), u1, u2]) Try.func94 rfl rfl ?_
  refine wpC_seq ?_
  refine wpC_region ?_
  refine st_op (by decide) trivial ?_
  refine wf_box (o := (col (fun _ => 1))) w.heap.size 11 hB.keeps.size (cs := [(.int .i64 p0.Labels), (.int .i64 p0.Children), v1]) rfl rfl ?_
  intro o3 w4 b5 h6 s7
  replace hB := hB.stp s7 (by decide)
  refine st_val (ex_assign rfl) (by decide) trivial ?_
  refine wpF_end (r := [(1, u1), (2, u2), (3, (.pointer (some ⟨b5, 0, none⟩)))]) ⟨rfl, rfl, rfl, trivial⟩ ?_
  refine nx ?_
  refine wpC_seq ?_
  refine wpC_seq ?_
  refine wpC_region ?_
  refine st_val (ex_move rfl) (by decide) trivial ?_
  obtain ⟨x8, hx8, hF⟩ := bind_some hF
  refine st_op (by decide) trivial ?_
  refine wf_call (cS_roBelow w4 o3 12 (by decide) _ p1 (g1.keep hB.keeps) x8 hx8) Try.call143 ⟨rfl, trivial⟩ ?_
  rintro e17 w9 ⟨v10, g12, o18, rfl, h11, h13, k14, k15⟩
  have s16 := k14.stp' 12 k15
  replace h11 := h11.mono hB.keeps.size
  replace h13 := h13.mono hB.keeps.size
  refine ⟨_, rfl, ?_⟩
  replace h6 := h6.stp s16 (by decide)
  replace hB := hB.stp s16 (by decide)
  refine st_val (ex_lenR rfl (h13.z h11) Try.underlying22) (by decide) trivial ?_
  refine st_val (ex_move rfl) (by decide) trivial ?_
  refine wpF_end (r := [(2, u2), (3, (.pointer (some ⟨b5, 0, none⟩))), (10, v10), (11, (.int .i64 (x8.length : Int))), (12, (.int .i64 0))]) ⟨rfl, rfl, rfl, rfl, rfl, trivial⟩ ?_
  refine nx ?_
  obtain ⟨q22, hq22, hF⟩ := bind_some hF
  refine wpC_cutN (fun a w20 => ∃ (o19 : Tg), q22 = .inl () ∧ Fr a 38 [] ∧ Bs (fun _ => 1) o19 w w20) (fun a w' => ∃ r', q22 = .inr r' ∧ bodyPost Try.prog Try.f94 (pS_roFault w r') .ret a w') ?_ ?_ ?_
  · refine wpC_block ?_
    refine wpC_loop (fun (K : Nat) a w20 => ∃ (i21 : Int) (o19 : Tg), forI (fS_roFault_s1 fuel p0 p2) (x8.drop i21.toNat) i21 () = some q22 ∧ (x8.drop i21.toNat).length = K ∧ 0 ≤ i21 ∧ Fr a 38 [(2, u2), (3, (.pointer (some ⟨b5, 0, none⟩))), (10, v10), (11, (.int .i64 (x8.length : Int))), (12, (.int .i64 i21))] ∧ Bs (fun _ => 1) o19 w w20 ∧ Ow w.heap.size 25 12 o19 w20 v10 g12 ∧ Rws w.heap.size 3 13 o19 w20 g12 x8 ∧ Bx w.heap.size 11 o19 w20 b5 64 [(.int .i64 p0.Labels), (.int .i64 p0.Children), v1]) _ (fun a ha => ⟨0, o18, hq22, rfl, Int.le_refl 0, ha.sub (r := [(2, u2), (3, (.pointer (some ⟨b5, 0, none⟩))), (10, v10), (11, (.int .i64 (x8.length : Int))), (12, (.int .i64 0))]) ⟨rfl, rfl, rfl, rfl, rfl, trivial⟩, hB, h11, h13, h6⟩) ?_
    rintro K26 a w20 ⟨i21, o19, l23, m25, z24, ha, hB, h11, h13, h6⟩
    by_cases t30 : i21 < (x8.length : Int)
    · obtain ⟨x31, q27, hx31, b28, n29⟩ := forI_cons z24 t30 l23
      have hle := (h13.z h11).len_le
      dsimp only [fS_roFault_s1] at b28
      refine wp_of ha ?_
      refine wpC_seq ?_
      refine wpC_region ?_
      refine st_val (ex_lss rfl rfl) (by decide) trivial ?_
      refine wpF_end (r := [(2, u2), (3, (.pointer (some ⟨b5, 0, none⟩))), (10, v10), (11, (.int .i64 (x8.length : Int))), (12, (.int .i64 i21)), (13, (.bool (decide (i21 < (x8.length : Int)))))]) ⟨rfl, rfl, rfl, rfl, rfl, rfl, trivial⟩ ?_
      refine nx ?_
      refine wpC_seq ?_
      refine wpC_true (congrArg (fun b => some (Value.bool b)) (decide_eq_true t30)) ?_
      refine wpC_skip ?_
      refine nx ?_
      refine wpC_seq ?_
      refine wpC_block ?_
      refine wpC_seq ?_
      refine wpC_region ?_
      refine st_val (ex_move rfl) (by decide) trivial ?_
      obtain ⟨v32, h33, h34, h35⟩ := h13.ix hx31
      refine st_op (by decide) trivial ?_
      refine wf_atW h11 h33 rfl rfl Try.underlying22 Try.sizeOf25 ?_
      intro b36 f37 c38 h39 h40
      obtain ⟨rfl, -⟩ := h40
      refine st_val (ex_load1 rfl Try.isAgg25 (cell_of_cells h39)) (by decide) trivial ?_
      refine st_val (ex_assign rfl) (by decide) trivial ?_
      refine st_val (ex_assign rfl) (by decide) trivial ?_
      refine wpF_end (r := [(2, u2), (3, (.pointer (some ⟨b5, 0, none⟩))), (7, (.int .i64 i21)), (8, v32), (10, v10), (11, (.int .i64 (x8.length : Int))), (12, (.int .i64 i21))]) ⟨rfl, rfl, rfl, rfl, rfl, rfl, rfl, trivial⟩ ?_
      refine nx ?_
      refine wpC_seq ?_
      obtain ⟨q41, hq41, b28⟩ := bind_some b28
      refine wpC_cutN (fun a44 w43 => ∃ o42 : Tg, Fr a44 38 [(2, u2), (3, (.pointer (some ⟨b5, 0, none⟩))), (7, (.int .i64 i21)), (10, v10), (11, (.int .i64 (x8.length : Int))), (12, (.int .i64 i21)), (35, (.bool q41))] ∧ Bs (fun _ => 1) o42 w w43 ∧ Ow w.heap.size 25 12 o42 w43 v10 g12 ∧ Rws w.heap.size 3 13 o42 w43 g12 x8 ∧ Bx w.heap.size 11 o42 w43 b5 64 [(.int .i64 p0.Labels), (.int .i64 p0.Children), v1]) (fun _ _ => False) ?_ ?_ (fun _ _ h => h.elim)
      · rcases Bool.eq_false_or_eq_true (decide ((x31.length : Int) > 0)) with t45 | t45
        · rw [if_pos t45] at hq41
          obtain ⟨x46, hx46, hq41⟩ := bind_some hq41
          obtain ⟨x54, hx54, hq41⟩ := bind_some hq41
          obtain ⟨x63, hx63, hq41⟩ := bind_some hq41
          obtain ⟨x72, hx72, hq41⟩ := bind_some hq41
          refine wpC_drawn (o := o19) [(2, u2), (3, (.pointer (some ⟨b5, 0, none⟩))), (7, (.int .i64 i21)), (8, v32), (10, v10), (11, (.int .i64 (x8.length : Int))), (12, (.int .i64 i21))] [2, 3, 7, 8, 10, 11, 12] [17, 18, 19, 20, 21, 22, 23, 24, 25, 26, 27, 28, 29, 30, 31, 32] [[], [0], [1], [2], [3], [3, 4], [3], [3], [3, 6, 7], [3, 8], [3, 9], [3], [3], [3, 11, 12], [3, 13], [3, 10, 14]] [none, none, none, none, none, none, none, none, none, none, some 15, none, none, none, none, none] [999, 999, 999, 999, 999, 999, 999, 999, 999, 999, 999, 999, 999, 999, 999, 14] [0, 0, 0, 0, 0, 0, 0, 0, 0, 0, 14, 0, 0, 15, 16, 14] [14, 999] [fun v _ _ => v = v32, fun v _ _ => v = (.int .i64 (x31.length : Int)), fun v _ _ => v = (.bool (decide ((x31.length : Int) > 0))), fun v _ _ => v = (.bool (decide ((x31.length : Int) > 0))), fun v _ _ => v = (.pointer (some ⟨b5, 0 + 2, none⟩)), fun v _ _ => v = v1, fun v _ _ => v = u2, fun v _ _ => v = (.int .i64 i21), fun v o w9 => ∃ vl, v = adr vl (i21.toNat * Rp.sz Int) ∧ RdL zt w vl p2, fun v _ _ => v = (.int .i64 x46), fun v o w9 => Ow w.heap.size 3 14 o w9 v (([x46] : List Int) : List Int), fun v _ _ => v = u2, fun v _ _ => v = v32, fun v o w9 => Ow w.heap.size 3 15 o w9 v x54, fun v o w9 => Ow w.heap.size 3 16 o w9 v x63, fun v o w9 => Ow w.heap.size 3 14 o w9 v x72] (fun o8 w8 => Bs (fun _ => 1) o8 w w8 ∧ Ow w.heap.size 25 12 o8 w8 v10 g12 ∧ Rws w.heap.size 3 13 o8 w8 g12 x8 ∧ Bx w.heap.size 11 o8 w8 b5 64 [(.int .i64 p0.Labels), (.int .i64 p0.Children), v1]) follows_mixed (by kernel_rfl) rfl ⟨rfl, rfl, rfl, rfl, rfl, rfl, rfl, trivial⟩ ⟨hB, h11, h13, h6⟩ ?_ ⟨st_eq _, st_eq _, st_eq _, st_eq _, st_eq _, st_eq _, st_eq _, st_eq _, fun _ _ _ _ _ _ h0 hb ⟨vl, e, h⟩ hs => ⟨vl, e, h⟩, st_eq _, fun _ _ _ _ _ _ h0 hb h hs => h.stp hs h0.1 (Ne.symm hb), st_eq _, st_eq _, fun _ _ _ _ _ _ h0 hb h hs => h.stp hs h0.1 (Ne.symm hb), fun _ _ _ _ _ _ h0 hb h hs => h.stp hs h0.1 (Ne.symm hb), fun _ _ _ _ _ _ h0 hb h hs => h.stp hs h0.1 (Ne.symm hb), trivial⟩ ?_ ?_
          · rintro t9 o1 w1 o2 w2 ht9 ⟨hB, h11, h13, h6⟩ hs9
            have ht9 : t9 = 14 ∨ t9 = 999 := by simpa using ht9
            rcases ht9 with rfl | rfl
            all_goals exact ⟨hB.stp hs9 (by decide), h11.stp hs9 (by decide) (by decide), h13.stp hs9 (by decide) (by decide), h6.stp hs9 (by decide)⟩
          · refine ⟨?_, ?_, ?_, ?_, ?_, ?_, ?_, ?_, ?_, ?_, ?_, ?_, ?_, ?_, ?_, ?_, trivial⟩
            · rintro o78 w79 a80 ha ⟨hB, h11, h13, h6⟩ -
              refine opS_of ha (trivial) ?_
              refine op1_val (ex_move rfl) ?_
              exact ⟨_, Stp.refl _ _ _, rfl⟩
            · rintro o81 w82 a83 ha ⟨hB, h11, h13, h6⟩ ⟨r84, -⟩
              have ha := Fr.cons (d := 17) ha r84
              refine opS_of ha (trivial) ?_
              refine op1_val (ex_lenO rfl (h13.at h34 h35) Try.underlying25) ?_
              exact ⟨_, Stp.refl _ _ _, rfl⟩
            · rintro o85 w86 a87 ha ⟨hB, h11, h13, h6⟩ ⟨r88, -⟩
              have ha := Fr.cons (d := 18) ha r88
              refine opS_of ha (trivial) ?_
              refine op1_val (ex_gtr rfl rfl) ?_
              exact ⟨_, Stp.refl _ _ _, rfl⟩
            · rintro o89 w90 a91 ha ⟨hB, h11, h13, h6⟩ ⟨r92, -⟩
              have ha := Fr.cons (d := 19) ha r92
              refine opS_of ha (trivial) ?_
              refine op1_val (ex_move rfl) ?_
              exact ⟨_, Stp.refl _ _ _, rfl⟩
            · rintro o93 w94 a95 ha ⟨hB, h11, h13, h6⟩ ⟨r96, -⟩
              have ha := Fr.cons (d := 20) ha r96
              refine opS_of ha (⟨_, rfl, (congrArg (fun b => some (Value.bool b)) t45)⟩) ?_
              refine op1_val (ex_field rfl Try.underlying64 rfl Try.sizeOf22) ?_
              exact ⟨_, Stp.refl _ _ _, rfl⟩
            · rintro o97 w98 a99 ha ⟨hB, h11, h13, h6⟩ ⟨r100, r101, -⟩
              have ha := Fr.cons (d := 20) ha r100
              have ha := Fr.cons (d := 21) ha r101
              refine opS_of ha (⟨_, rfl, (congrArg (fun b => some (Value.bool b)) t45)⟩) ?_
              refine op1_val (ex_load1 rfl Try.isAgg22 (h6.cell rfl)) ?_
              exact ⟨_, Stp.refl _ _ _, rfl⟩
            · rintro o102 w103 a104 ha ⟨hB, h11, h13, h6⟩ ⟨r105, -⟩
              have ha := Fr.cons (d := 20) ha r105
              refine opS_of ha (⟨_, rfl, (congrArg (fun b => some (Value.bool b)) t45)⟩) ?_
              refine op1_val (ex_move rfl) ?_
              exact ⟨_, Stp.refl _ _ _, rfl⟩
            · rintro o106 w107 a108 ha ⟨hB, h11, h13, h6⟩ ⟨r109, -⟩
              have ha := Fr.cons (d := 20) ha r109
              refine opS_of ha (⟨_, rfl, (congrArg (fun b => some (Value.bool b)) t45)⟩) ?_
              refine op1_val (ex_move rfl) ?_
              exact ⟨_, Stp.refl _ _ _, rfl⟩
            · rintro o110 w111 a112 ha ⟨hB, h11, h13, h6⟩ ⟨r113, r114, r115, -⟩
              have ha := Fr.cons (d := 20) ha r113
              have ha := Fr.cons (d := 23) ha r114
              have ha := Fr.cons (d := 24) ha r115
              refine opS_of ha (⟨_, rfl, (congrArg (fun b => some (Value.bool b)) t45)⟩) ?_
              refine wd_indexR g2 hx46 rfl rfl Try.underlying25 Try.sizeOf3 ?_
              exact ⟨_, Stp.refl _ _ _, ⟨_, rfl, g2⟩⟩
            · rintro o116 w117 a118 ha ⟨hB, h11, h13, h6⟩ ⟨r119, r120, -⟩
              have ha := Fr.cons (d := 20) ha r119
              obtain ⟨v121, e122, h123⟩ := r120
              have ha := Fr.cons (d := 25) ha e122
              refine opS_of ha (⟨_, rfl, (congrArg (fun b => some (Value.bool b)) t45)⟩) ?_
              refine wd_load1Z h123 hx46 hB rfl rfl Try.isAgg3 ?_
              intro c124 h125
              cases h125
              exact ⟨_, Stp.refl _ _ _, rfl⟩
            · rintro o126 w127 a128 ha ⟨hB, h11, h13, h6⟩ ⟨r129, r130, -⟩
              have ha := Fr.cons (d := 20) ha r129
              have ha := Fr.cons (d := 26) ha r130
              refine opS_of ha (⟨_, rfl, (congrArg (fun b => some (Value.bool b)) t45)⟩) ?_
              refine wf_litW9 w.heap.size 14 hB.keeps.size (o := o126) (cs := [(.int .i64 x46)]) (xs := ([x46] : List Int)) (vs := [(0, (.int .i64 x46))]) ⟨_, _, rfl, rfl, rfl⟩ rfl ⟨rfl, rfl, trivial⟩ Try.underlying25 Try.sizeOf3 Try.zeroValue3 (by decide) (fill1 rfl) (by simp) ?_
              intro o131 w132 v133 h134 s135
              replace h11 := h11.stp s135 (by decide) (by decide)
              replace h13 := h13.stp s135 (by decide) (by decide)
              replace h6 := h6.stp s135 (by decide)
              replace hB := hB.stp s135 (by decide)
              exact ⟨_, s135, h134⟩
            · rintro o136 w137 a138 ha ⟨hB, h11, h13, h6⟩ ⟨r139, -⟩
              have ha := Fr.cons (d := 20) ha r139
              refine opS_of ha (⟨_, rfl, (congrArg (fun b => some (Value.bool b)) t45)⟩) ?_
              refine op1_val (ex_move rfl) ?_
              exact ⟨_, Stp.refl _ _ _, rfl⟩
            · rintro o140 w141 a142 ha ⟨hB, h11, h13, h6⟩ ⟨r143, -⟩
              have ha := Fr.cons (d := 20) ha r143
              refine opS_of ha (⟨_, rfl, (congrArg (fun b => some (Value.bool b)) t45)⟩) ?_
              refine op1_val (ex_move rfl) ?_
              exact ⟨_, Stp.refl _ _ _, rfl⟩
            · rintro o144 w145 a146 ha ⟨hB, h11, h13, h6⟩ ⟨r147, r148, r149, -⟩
              have ha := Fr.cons (d := 20) ha r147
              have ha := Fr.cons (d := 28) ha r148
              have ha := Fr.cons (d := 29) ha r149
              refine opS_of ha (⟨_, rfl, (congrArg (fun b => some (Value.bool b)) t45)⟩) ?_
              refine wf_call (cS_coThrough w145 o144 15 (by decide) _ p2 (g2.keep hB.keeps) _ x31 (h13.at h34 h35).z x54 hx54) Try.call145 ⟨rfl, rfl, trivial⟩ ?_
              rintro e156 w150 ⟨v151, o157, rfl, h152, k153, k154⟩
              have s155 := k153.stp' 999 k154
              replace h152 := h152.mono hB.keeps.size
              refine ⟨_, rfl, ?_⟩
              replace h11 := h11.stp s155 (by decide) (by decide)
              replace h13 := h13.stp s155 (by decide) (by decide)
              replace h6 := h6.stp s155 (by decide)
              replace hB := hB.stp s155 (by decide)
              exact ⟨_, s155, h152⟩
            · rintro o158 w159 a160 ha ⟨hB, h11, h13, h6⟩ ⟨r161, r162, -⟩
              have ha := Fr.cons (d := 20) ha r161
              replace r162 : Ow w.heap.size 3 15 o158 w159 (a160.tmps.getD 30 undef) x54 := r162
              generalize e164 : a160.tmps.getD 30 undef = v163 at r162
              have ha := Fr.cons (d := 30) ha e164
              refine opS_of ha (⟨_, rfl, (congrArg (fun b => some (Value.bool b)) t45)⟩) ?_
              refine wf_call (cS_prSorted fuel w159 o158 16 (by decide) _ x54 r162.z x63 hx63) Try.call129 ⟨rfl, trivial⟩ ?_
              rintro e171 w165 ⟨v166, o172, rfl, h167, k168, k169⟩
              have s170 := k168.stp' 999 k169
              replace h167 := h167.mono hB.keeps.size
              refine ⟨_, rfl, ?_⟩
              replace h11 := h11.stp s170 (by decide) (by decide)
              replace h13 := h13.stp s170 (by decide) (by decide)
              replace r162 := r162.stp s170 (by decide) (by decide)
              replace h6 := h6.stp s170 (by decide)
              replace hB := hB.stp s170 (by decide)
              exact ⟨_, s170, h167⟩
            · rintro o173 w174 a175 ha ⟨hB, h11, h13, h6⟩ ⟨r176, r177, r178, -⟩
              have ha := Fr.cons (d := 20) ha r176
              replace r177 : Ow w.heap.size 3 14 o173 w174 (a175.tmps.getD 27 undef) (([x46] : List Int) : List Int) := r177
              generalize e180 : a175.tmps.getD 27 undef = v179 at r177
              have ha := Fr.cons (d := 27) ha e180
              replace r178 : Ow w.heap.size 3 16 o173 w174 (a175.tmps.getD 31 undef) x63 := r178
              generalize e182 : a175.tmps.getD 31 undef = v181 at r178
              have ha := Fr.cons (d := 31) ha e182
              refine opS_of ha (⟨_, rfl, (congrArg (fun b => some (Value.bool b)) t45)⟩) ?_
              refine wf_catZ r177 (r178.z) hx72 (by decide) hB.keeps.size (fun _ _ h => h) rfl rfl Try.underlying25 info2_t_int_Y rfl (by decide) ?_
              intro o183 w184 v185 h186 s187
              replace h11 := h11.stp s187 (by decide) (by decide)
              replace h13 := h13.stp s187 (by decide) (by decide)
              replace r178 := r178.stp s187 (by decide) (by decide)
              replace h6 := h6.stp s187 (by decide)
              replace hB := hB.stp s187 (by decide)
              exact ⟨_, s187, h186⟩
          rintro o188 w189 a190 ha ⟨hB, h11, h13, h6⟩ ⟨-, -, -, r191, -, r192, -, -, -, -, -, -, -, -, -, r193, -⟩
          have ha := Fr.cons (d := 20) ha r191
          have ha := Fr.cons (d := 22) ha r192
          replace r193 : Ow w.heap.size 3 14 o188 w189 (a190.tmps.getD 32 undef) x72 := r193
          generalize e195 : a190.tmps.getD 32 undef = v194 at r193
          have ha := Fr.cons (d := 32) ha e195
          refine wl_of ha ?_
          simp only [List.length_cons, List.length_nil, Nat.zero_add, Nat.reduceAdd, List.drop_succ_cons, List.drop_zero]
          obtain ⟨x196, hx196, hq41⟩ := bind_some hq41
          refine st_op (by decide) ⟨_, rfl, (congrArg (fun b => some (Value.bool b)) t45)⟩ ?_
          refine wf_call (cS_prHas w189 _ p0.Lines (h2.keep hB.keeps) _ x72 r193.z x196 hx196) Try.call144 ⟨rfl, rfl, trivial⟩ ?_
          rintro e201 w197 ⟨rfl, k198⟩
          have s200 := k198.stp 999 o188
          refine ⟨_, rfl, ?_⟩
          replace h11 := h11.stp s200 (by decide) (by decide)
          replace h13 := h13.stp s200 (by decide) (by decide)
          replace r193 := r193.stp s200 (by decide) (by decide)
          replace h6 := h6.stp s200 (by decide)
          replace hB := hB.stp s200 (by decide)
          refine st_val (ex_not rfl) (by decide) ⟨_, rfl, (congrArg (fun b => some (Value.bool b)) t45)⟩ ?_
          refine st_val (ex_pick_t (congrArg (fun b => some (Value.bool b)) t45) rfl) (by decide) trivial ?_
          have e202 := Option.some.inj hq41
          subst e202
          refine wpF_end (r := [(2, u2), (3, (.pointer (some ⟨b5, 0, none⟩))), (7, (.int .i64 i21)), (10, v10), (11, (.int .i64 (x8.length : Int))), (12, (.int .i64 i21)), (35, (.bool (!x196)))]) ⟨rfl, rfl, rfl, rfl, rfl, rfl, rfl, trivial⟩ ?_
          refine np_norm (fun a ha => ⟨o188, ha, hB, h11, h13, h6⟩)
        · rw [if_neg (by rw [t45]; decide)] at hq41
          refine wpC_drawn (o := o19) [(2, u2), (3, (.pointer (some ⟨b5, 0, none⟩))), (7, (.int .i64 i21)), (8, v32), (10, v10), (11, (.int .i64 (x8.length : Int))), (12, (.int .i64 i21))] [2, 3, 7, 8, 10, 11, 12] [17, 18, 19, 20, 21, 22, 23, 24, 25, 26, 27, 28, 29, 30, 31, 32] [[], [0], [1], [2], [3], [3], [3], [3], [3], [3], [3], [3], [3], [3], [3], [3]] [none, none, none, none, none, none, none, none, none, none, none, none, none, none, none, none] [999, 999, 999, 999, 999, 999, 999, 999, 999, 999, 999, 999, 999, 999, 999, 999] [0, 0, 0, 0, 0, 0, 0, 0, 0, 0, 0, 0, 0, 0, 0, 0] [999] [fun v _ _ => v = v32, fun v _ _ => v = (.int .i64 (x31.length : Int)), fun v _ _ => v = (.bool (decide ((x31.length : Int) > 0))), fun v _ _ => v = (.bool (decide ((x31.length : Int) > 0))), fun v _ _ => v = undef, fun v _ _ => v = undef, fun v _ _ => v = undef, fun v _ _ => v = undef, fun v _ _ => v = undef, fun v _ _ => v = undef, fun v _ _ => v = undef, fun v _ _ => v = undef, fun v _ _ => v = undef, fun v _ _ => v = undef, fun v _ _ => v = undef, fun v _ _ => v = undef] (fun o8 w8 => Bs (fun _ => 1) o8 w w8 ∧ Ow w.heap.size 25 12 o8 w8 v10 g12 ∧ Rws w.heap.size 3 13 o8 w8 g12 x8 ∧ Bx w.heap.size 11 o8 w8 b5 64 [(.int .i64 p0.Labels), (.int .i64 p0.Children), v1]) follows_mixed (by kernel_rfl) rfl ⟨rfl, rfl, rfl, rfl, rfl, rfl, rfl, trivial⟩ ⟨hB, h11, h13, h6⟩ ?_ ⟨st_eq _, st_eq _, st_eq _, st_eq _, st_eq _, st_eq _, st_eq _, st_eq _, st_eq _, st_eq _, st_eq _, st_eq _, st_eq _, st_eq _, st_eq _, st_eq _, trivial⟩ ?_ ?_
          · rintro t9 o1 w1 o2 w2 ht9 ⟨hB, h11, h13, h6⟩ hs9
            have ht9 : t9 = 999 := by simpa using ht9
            subst ht9
            all_goals exact ⟨hB.stp hs9 (by decide), h11.stp hs9 (by decide) (by decide), h13.stp hs9 (by decide) (by decide), h6.stp hs9 (by decide)⟩
          · refine ⟨?_, ?_, ?_, ?_, ?_, ?_, ?_, ?_, ?_, ?_, ?_, ?_, ?_, ?_, ?_, ?_, trivial⟩
            · rintro o203 w204 a205 ha ⟨hB, h11, h13, h6⟩ -
              refine opS_of ha (trivial) ?_
              refine op1_val (ex_move rfl) ?_
              exact ⟨_, Stp.refl _ _ _, rfl⟩
            · rintro o206 w207 a208 ha ⟨hB, h11, h13, h6⟩ ⟨r209, -⟩
              have ha := Fr.cons (d := 17) ha r209
              refine opS_of ha (trivial) ?_
              refine op1_val (ex_lenO rfl (h13.at h34 h35) Try.underlying25) ?_
              exact ⟨_, Stp.refl _ _ _, rfl⟩
            · rintro o210 w211 a212 ha ⟨hB, h11, h13, h6⟩ ⟨r213, -⟩
              have ha := Fr.cons (d := 18) ha r213
              refine opS_of ha (trivial) ?_
              refine op1_val (ex_gtr rfl rfl) ?_
              exact ⟨_, Stp.refl _ _ _, rfl⟩
            · rintro o214 w215 a216 ha ⟨hB, h11, h13, h6⟩ ⟨r217, -⟩
              have ha := Fr.cons (d := 19) ha r217
              refine opS_of ha (trivial) ?_
              refine op1_val (ex_move rfl) ?_
              exact ⟨_, Stp.refl _ _ _, rfl⟩
            · rintro o218 w219 a220 ha ⟨hB, h11, h13, h6⟩ ⟨r221, -⟩
              have ha := Fr.cons (d := 20) ha r221
              exact opS_no ha rfl rfl rfl (by rw [t45]; rfl) ⟨_, Stp.refl _ _ _, rfl⟩
            · rintro o222 w223 a224 ha ⟨hB, h11, h13, h6⟩ ⟨r225, -⟩
              have ha := Fr.cons (d := 20) ha r225
              exact opS_no ha rfl rfl rfl (by rw [t45]; rfl) ⟨_, Stp.refl _ _ _, rfl⟩
            · rintro o226 w227 a228 ha ⟨hB, h11, h13, h6⟩ ⟨r229, -⟩
              have ha := Fr.cons (d := 20) ha r229
              exact opS_no ha rfl rfl rfl (by rw [t45]; rfl) ⟨_, Stp.refl _ _ _, rfl⟩
            · rintro o230 w231 a232 ha ⟨hB, h11, h13, h6⟩ ⟨r233, -⟩
              have ha := Fr.cons (d := 20) ha r233
              exact opS_no ha rfl rfl rfl (by rw [t45]; rfl) ⟨_, Stp.refl _ _ _, rfl⟩
            · rintro o234 w235 a236 ha ⟨hB, h11, h13, h6⟩ ⟨r237, -⟩
              have ha := Fr.cons (d := 20) ha r237
              exact opS_no ha rfl rfl rfl (by rw [t45]; rfl) ⟨_, Stp.refl _ _ _, rfl⟩
            · rintro o238 w239 a240 ha ⟨hB, h11, h13, h6⟩ ⟨r241, -⟩
              have ha := Fr.cons (d := 20) ha r241
              exact opS_no ha rfl rfl rfl (by rw [t45]; rfl) ⟨_, Stp.refl _ _ _, rfl⟩
            · rintro o242 w243 a244 ha ⟨hB, h11, h13, h6⟩ ⟨r245, -⟩
              have ha := Fr.cons (d := 20) ha r245
              exact opS_no ha rfl rfl rfl (by rw [t45]; rfl) ⟨_, Stp.refl _ _ _, rfl⟩
            · rintro o246 w247 a248 ha ⟨hB, h11, h13, h6⟩ ⟨r249, -⟩
              have ha := Fr.cons (d := 20) ha r249
              exact opS_no ha rfl rfl rfl (by rw [t45]; rfl) ⟨_, Stp.refl _ _ _, rfl⟩
            · rintro o250 w251 a252 ha ⟨hB, h11, h13, h6⟩ ⟨r253, -⟩
              have ha := Fr.cons (d := 20) ha r253
              exact opS_no ha rfl rfl rfl (by rw [t45]; rfl) ⟨_, Stp.refl _ _ _, rfl⟩
            · rintro o254 w255 a256 ha ⟨hB, h11, h13, h6⟩ ⟨r257, -⟩
              have ha := Fr.cons (d := 20) ha r257
              exact opS_no ha rfl rfl rfl (by rw [t45]; rfl) ⟨_, Stp.refl _ _ _, rfl⟩
            · rintro o258 w259 a260 ha ⟨hB, h11, h13, h6⟩ ⟨r261, -⟩
              have ha := Fr.cons (d := 20) ha r261
              exact opS_no ha rfl rfl rfl (by rw [t45]; rfl) ⟨_, Stp.refl _ _ _, rfl⟩
            · rintro o262 w263 a264 ha ⟨hB, h11, h13, h6⟩ ⟨r265, -⟩
              have ha := Fr.cons (d := 20) ha r265
              exact opS_no ha rfl rfl rfl (by rw [t45]; rfl) ⟨_, Stp.refl _ _ _, rfl⟩
          rintro o266 w267 a268 ha ⟨hB, h11, h13, h6⟩ ⟨-, -, -, r269, -, r270, -, -, -, -, -, -, -, -, -, r271, -⟩
          have ha := Fr.cons (d := 20) ha r269
          have ha := Fr.cons (d := 22) ha r270
          have ha := Fr.cons (d := 32) ha r271
          refine wl_of ha ?_
          simp only [List.length_cons, List.length_nil, Nat.zero_add, Nat.reduceAdd, List.drop_succ_cons, List.drop_zero]
          refine st_no rfl rfl (by rw [t45]; rfl) (by decide) ?_
          refine st_no rfl rfl (by rw [t45]; rfl) (by decide) ?_
          refine st_val (ex_pick_f (congrArg (fun b => some (Value.bool b)) t45) rfl) (by decide) trivial ?_
          have e272 := Option.some.inj hq41
          subst e272
          refine wpF_end (r := [(2, u2), (3, (.pointer (some ⟨b5, 0, none⟩))), (7, (.int .i64 i21)), (10, v10), (11, (.int .i64 (x8.length : Int))), (12, (.int .i64 i21)), (35, (.bool false))]) ⟨rfl, rfl, rfl, rfl, rfl, rfl, rfl, trivial⟩ ?_
          refine np_norm (fun a ha => ⟨o266, ha, hB, h11, h13, h6⟩)
      rintro a273 w43 ⟨o42, ha, hB, h11, h13, h6⟩
      refine ap_k ha ?_
      refine nx ?_
      refine wpC_cond rfl (fun t274 => ?_) (fun t274 => ?_)
      · rw [if_pos t274] at b28
        refine wpC_seq ?_
        refine wpC_region ?_
        refine st_val (ex_move rfl) (by decide) trivial ?_
        refine st_val (ex_assign rfl) (by decide) trivial ?_
        refine wpF_end (r := [(6, (.int .i64 i21))]) ⟨rfl, trivial⟩ ?_
        refine nx ?_
        refine wpC_ret ?_
        refine nb_ret ?_
        refine nt_ret ?_
        refine nt_ret ?_
        refine nb_ret ?_
        refine np_ret ?_
        have e275 := Option.some.inj b28
        subst e275
        refine fun a ha => ⟨_, n29, ?_⟩
        refine ret_post (P := Try.prog) (vs := [(.int .i64 i21)]) Try.results94 ⟨rfl, trivial⟩ ?_ a ha
        exact ⟨rfl, hB.keeps⟩
      · rw [if_neg (by rw [t274]; decide)] at b28
        refine wpC_skip ?_
        refine nb_norm ?_
        refine nx ?_
        refine wpC_region ?_
        refine st_val (ex_add rfl rfl (ck_in (by omega) (by omega))) (by decide) trivial ?_
        refine st_val (ex_move rfl) (by decide) trivial ?_
        refine wpF_end (r := [(2, u2), (3, (.pointer (some ⟨b5, 0, none⟩))), (10, v10), (11, (.int .i64 (x8.length : Int))), (12, (.int .i64 (i21 + 1)))]) ⟨rfl, rfl, rfl, rfl, rfl, trivial⟩ ?_
        refine nt_norm ?_
        have e276 := Option.some.inj b28
        subst e276
        refine to_k (r := [(2, u2), (3, (.pointer (some ⟨b5, 0, none⟩))), (10, v10), (11, (.int .i64 (x8.length : Int))), (12, (.int .i64 (i21 + 1)))]) ⟨rfl, rfl, rfl, rfl, rfl, trivial⟩ ?_
        intro a ha
        exact ⟨_, (by rw [← m25]; simp only [List.length_drop]; omega), i21 + 1, o42, n29, rfl, (by omega), ha, hB, h11, h13, h6⟩
    · have r277 := forI_done t30 l23
      refine wp_of ha ?_
      refine wpC_seq ?_
      refine wpC_region ?_
      refine st_val (ex_lss rfl rfl) (by decide) trivial ?_
      refine wpF_end (r := [(2, u2), (3, (.pointer (some ⟨b5, 0, none⟩))), (10, v10), (11, (.int .i64 (x8.length : Int))), (12, (.int .i64 i21)), (13, (.bool (decide (i21 < (x8.length : Int)))))]) ⟨rfl, rfl, rfl, rfl, rfl, rfl, trivial⟩ ?_
      refine nx ?_
      refine wpC_seq ?_
      refine wpC_false (congrArg (fun b => some (Value.bool b)) (decide_eq_false t30)) ?_
      refine wpC_exit ?_
      refine nt_exit ?_
      refine nt_exit ?_
      refine nb_hit ?_
      refine np_norm ?_
      refine to_k (r := []) trivial ?_
      intro a ha
      exact ⟨o19, r277, ha, hB⟩
  · rintro a w20 ⟨o19, rfl, ha, hB⟩
    dsimp only at hF
    refine ap_k ha ?_
    refine nx ?_
    refine wpC_seq ?_
    refine wpC_region ?_
    refine st_val (ex_assign rfl) (by decide) trivial ?_
    refine wpF_end (r := [(6, (.int .i64 (-1)))]) ⟨rfl, trivial⟩ ?_
    refine nx ?_
    refine wpC_ret ?_
    have e278 := Option.some.inj hF
    subst e278
    refine ret_post (P := Try.prog) (vs := [(.int .i64 (-1))]) Try.results94 ⟨rfl, trivial⟩ ?_
    exact ⟨rfl, hB.keeps⟩
  · rintro a w20 ⟨r', rfl, b279⟩
    dsimp only at hF
    have e280 := Option.some.inj hF
    subst e280
    exact b279

def fS_roLabeled (fuel : Nat) (p0 : T_RootedProblem) (p1 : List Int) (p2 : List Int) : Option Bool :=
  (fS_roAsked fuel p0 p1) >>= fun x8 =>
  (
    if x8 then
      if (p2.length : Int) == (p1.length : Int) then
        (ck (p0.Labels - 1)) >>= fun x19 =>
        (fS_l1All p2 0 x19) >>= fun x20 =>
        some x20
      else
        some false
    else
      some false) >>= fun q14 =>
  some q14

def pS_roLabeled (w : World) (r : Bool) : Ending → World → Prop := fun e w' => e = .returned (.bool r) ∧ Keeps w w'
set_option maxRecDepth 100000 in
set_option maxHeartbeats 2000000 in
theorem cS_roLabeled (fuel : Nat) (w : World) (u0 : List Value) (p0 : T_RootedProblem) (g0 : Rp.rd zt w u0 p0) (u1 : Value) (p1 : List Int) (g1 : RdL zt w u1 p1) (u2 : Value) (p2 : List Int) (g2 : RdL zt w u2 p2) (r : Bool) (hF : fS_roLabeled fuel p0 p1 p2 = some r) :
    Calls Try.prog 93 #[.agg u0.toArray, u1, u2] w (pS_roLabeled w r) := by
  unfold fS_roLabeled at hF
  obtain ⟨v1, rfl, h2⟩ := g0
  have hB : Bs (fun _ => 1) (col (fun _ => 1)) w w := Bs.start _ _
  refine calls_start (n := 24) (vs := [(.agg #[(.int .i64 p0.Labels), (.int .i64 p0.Children), v1]), u1, u2]) Try.func93 rfl rfl ?_
  refine wpC_seq ?_
  refine wpC_region ?_
  refine st_op (by decide) trivial ?_
  refine wf_box (o := (col (fun _ => 1))) w.heap.size 11 hB.keeps.size (cs := [(.int .i64 p0.Labels), (.int .i64 p0.Children), v1]) rfl rfl ?_
  intro o3 w4 b5 h6 s7
  replace hB := hB.stp s7 (by decide)
  refine st_val (ex_assign rfl) (by decide) trivial ?_
  refine wpF_end (r := [(1, u1), (2, u2), (3, (.pointer (some ⟨b5, 0, none⟩)))]) ⟨rfl, rfl, rfl, trivial⟩ ?_
  refine nx ?_
  refine wpC_seq ?_
  refine wpC_region ?_
  refine st_val (ex_loadA rfl Try.isAgg64 Try.sizeOf64 rfl h6.cells) (by decide) trivial ?_
  refine st_val (ex_move rfl) (by decide) trivial ?_
  obtain ⟨x8, hx8, hF⟩ := bind_some hF
  refine st_op (by decide) trivial ?_
  refine wf_call (cS_roAsked fuel w4 _ p0 (⟨_, rfl, (h2.keep hB.keeps)⟩) _ p1 (g1.keep hB.keeps) x8 hx8) Try.call142 ⟨rfl, rfl, trivial⟩ ?_
  rintro e13 w9 ⟨rfl, k10⟩
  have s12 := k10.stp 999 o3
  refine ⟨_, rfl, ?_⟩
  replace h6 := h6.stp s12 (by decide)
  replace hB := hB.stp s12 (by decide)
  refine st_val (ex_move rfl) (by decide) trivial ?_
  obtain ⟨q14, hq14, hF⟩ := bind_some hF
  refine wpF_cutAt 13 (fun a16 w15 => Fr a16 24 [(23, (.bool q14))] ∧ Keeps w9 w15) ?_ ?_
  all_goals simp only [List.take_succ_cons, List.take_zero, List.drop_succ_cons, List.drop_zero]
  · have kp : Keeps w9 w9 := Keeps.refl _
    rcases Bool.eq_false_or_eq_true (x8) with t17 | t17
    · rw [if_pos t17] at hq14
      refine st_val (ex_move rfl) (by decide) ⟨_, rfl, (congrArg (fun b => some (Value.bool b)) t17)⟩ ?_
      refine st_val (ex_lenR rfl g2 Try.underlying25) (by decide) ⟨_, rfl, (congrArg (fun b => some (Value.bool b)) t17)⟩ ?_
      refine st_val (ex_move rfl) (by decide) ⟨_, rfl, (congrArg (fun b => some (Value.bool b)) t17)⟩ ?_
      refine st_val (ex_lenR rfl g1 Try.underlying25) (by decide) ⟨_, rfl, (congrArg (fun b => some (Value.bool b)) t17)⟩ ?_
      refine st_val (ex_eql rfl rfl) (by decide) ⟨_, rfl, (congrArg (fun b => some (Value.bool b)) t17)⟩ ?_
      refine st_val (ex_pick_t (congrArg (fun b => some (Value.bool b)) t17) rfl) (by decide) trivial ?_
      refine st_val (ex_move rfl) (by decide) trivial ?_
      rcases Bool.eq_false_or_eq_true ((p2.length : Int) == (p1.length : Int)) with t18 | t18
      · rw [if_pos t18] at hq14
        refine st_val (ex_move rfl) (by decide) ⟨_, rfl, (congrArg (fun b => some (Value.bool b)) t18)⟩ ?_
        refine st_val (ex_field rfl Try.underlying64 rfl Try.sizeOf3) (by decide) ⟨_, rfl, (congrArg (fun b => some (Value.bool b)) t18)⟩ ?_
        refine st_val (ex_load1 rfl Try.isAgg3 (h6.cell rfl)) (by decide) ⟨_, rfl, (congrArg (fun b => some (Value.bool b)) t18)⟩ ?_
        obtain ⟨x19, hx19, hq14⟩ := bind_some hq14
        refine st_val (ex_sub rfl rfl hx19) (by decide) ⟨_, rfl, (congrArg (fun b => some (Value.bool b)) t18)⟩ ?_
        obtain ⟨x20, hx20, hq14⟩ := bind_some hq14
        refine st_op (by decide) ⟨_, rfl, (congrArg (fun b => some (Value.bool b)) t18)⟩ ?_
        refine wf_call (cS_l1All w9 _ p2 (g2.keep hB.keeps) 0 x19 x20 hx20) Try.call79 ⟨rfl, rfl, rfl, trivial⟩ ?_
        rintro e25 w21 ⟨rfl, k22⟩
        have s24 := k22.stp 999 o3
        refine ⟨_, rfl, ?_⟩
        replace h6 := h6.stp s24 (by decide)
        replace hB := hB.stp s24 (by decide)
        replace kp := Keeps.trans kp k22
        refine st_val (ex_pick_t (congrArg (fun b => some (Value.bool b)) t18) rfl) (by decide) trivial ?_
        have hq142 := Option.some.inj hq14
        refine wpF_end (r := [(23, (.bool x20))]) ⟨rfl, trivial⟩ ?_
        subst hq142
        refine np_norm (fun a ha => ⟨ha, kp⟩)
      · rw [if_neg (by rw [t18]; decide)] at hq14
        refine st_no rfl rfl (by rw [t18]; rfl) (by decide) ?_
        refine st_no rfl rfl (by rw [t18]; rfl) (by decide) ?_
        refine st_no rfl rfl (by rw [t18]; rfl) (by decide) ?_
        refine st_no rfl rfl (by rw [t18]; rfl) (by decide) ?_
        refine st_no rfl rfl (by rw [t18]; rfl) (by decide) ?_
        refine st_val (ex_pick_f (congrArg (fun b => some (Value.bool b)) t18) rfl) (by decide) trivial ?_
        have hq142 := Option.some.inj hq14
        refine wpF_end (r := [(23, (.bool false))]) ⟨rfl, trivial⟩ ?_
        subst hq142
        refine np_norm (fun a ha => ⟨ha, kp⟩)
    · rw [if_neg (by rw [t17]; decide)] at hq14
      refine st_no rfl rfl (by rw [t17]; rfl) (by decide) ?_
      refine st_no rfl rfl (by rw [t17]; rfl) (by decide) ?_
      refine st_no rfl rfl (by rw [t17]; rfl) (by decide) ?_
      refine st_no rfl rfl (by rw [t17]; rfl) (by decide) ?_
      refine st_no rfl rfl (by rw [t17]; rfl) (by decide) ?_
      refine st_val (ex_pick_f (congrArg (fun b => some (Value.bool b)) t17) rfl) (by decide) trivial ?_
      refine st_val (ex_move rfl) (by decide) trivial ?_
      refine st_no rfl rfl rfl (by decide) ?_
      refine st_no rfl rfl rfl (by decide) ?_
      refine st_no rfl rfl rfl (by decide) ?_
      refine st_no rfl rfl rfl (by decide) ?_
      refine st_no rfl rfl rfl (by decide) ?_
      refine st_val (ex_pick_f rfl rfl) (by decide) trivial ?_
      have hq142 := Option.some.inj hq14
      refine wpF_end (r := [(23, (.bool false))]) ⟨rfl, trivial⟩ ?_
      subst hq142
      refine np_norm (fun a ha => ⟨ha, kp⟩)
  rintro a28 w15 ⟨ha, k26⟩
  have s27 := k26.stp 999 o3
  replace h6 := h6.stp s27 (by decide)
  replace hB := hB.stp s27 (by decide)
  refine wl_of ha ?_
  refine st_val (ex_assign rfl) (by decide) trivial ?_
  refine wpF_end (r := [(6, (.bool q14))]) ⟨rfl, trivial⟩ ?_
  refine nx ?_
  refine wpC_ret ?_
  have e29 := Option.some.inj hF
  subst e29
  refine ret_post (P := Try.prog) (vs := [(.bool q14)]) Try.results93 ⟨rfl, trivial⟩ ?_
  exact ⟨rfl, hB.keeps⟩

def fS_IsRootedSolution (fuel : Nat) (p0 : T_RootedProblem) (p1 : List Int) (p2 : List Int) : Option (Bool × Bool) :=
  (fS_roLabeled fuel p0 p1 p2) >>= fun x8 =>
  if !x8 then
    some (false, false)
  else
    (fS_roFault fuel p0 p1 p2) >>= fun x16 =>
    some (decide (x16 < 0), true)

def pS_IsRootedSolution (w : World) (r : Bool × Bool) : Ending → World → Prop := fun e w' => e = .returned (.tuple #[.bool r.1, .bool r.2]) ∧ Keeps w w'
set_option maxRecDepth 100000 in
set_option maxHeartbeats 2000000 in
theorem cS_IsRootedSolution (fuel : Nat) (w : World) (u0 : List Value) (p0 : T_RootedProblem) (g0 : Rp.rd zt w u0 p0) (u1 : Value) (p1 : List Int) (g1 : RdL zt w u1 p1) (u2 : Value) (p2 : List Int) (g2 : RdL zt w u2 p2) (r : Bool × Bool) (hF : fS_IsRootedSolution fuel p0 p1 p2 = some r) :
    Calls Try.prog 43 #[.agg u0.toArray, u1, u2] w (pS_IsRootedSolution w r) := by
  unfold fS_IsRootedSolution at hF
  obtain ⟨v1, rfl, h2⟩ := g0
  have hB : Bs (fun _ => 1) (col (fun _ => 1)) w w := Bs.start _ _
  refine calls_start (n := 18) (vs := [(.agg #[(.int .i64 p0.Labels), (.int .i64 p0.Children), v1]), u1, u2]) Try.func43 rfl rfl ?_
  refine wpC_seq ?_
  refine wpC_region ?_
  refine st_op (by decide) trivial ?_
  refine wf_box (o := (col (fun _ => 1))) w.heap.size 11 hB.keeps.size (cs := [(.int .i64 p0.Labels), (.int .i64 p0.Children), v1]) rfl rfl ?_
  intro o3 w4 b5 h6 s7
  replace hB := hB.stp s7 (by decide)
  refine st_val (ex_assign rfl) (by decide) trivial ?_
  refine st_val (ex_assign rfl) (by decide) trivial ?_
  refine wpF_end (r := [(1, u1), (2, u2), (3, (.pointer (some ⟨b5, 0, none⟩)))]) ⟨rfl, rfl, rfl, trivial⟩ ?_
  refine nx ?_
  refine wpC_seq ?_
  refine wpC_seq ?_
  refine wpC_region ?_
  refine st_val (ex_loadA rfl Try.isAgg64 Try.sizeOf64 rfl h6.cells) (by decide) trivial ?_
  refine st_val (ex_move rfl) (by decide) trivial ?_
  refine st_val (ex_move rfl) (by decide) trivial ?_
  obtain ⟨x8, hx8, hF⟩ := bind_some hF
  refine st_op (by decide) trivial ?_
  refine wf_call (cS_roLabeled fuel w4 _ p0 (⟨_, rfl, (h2.keep hB.keeps)⟩) _ p1 (g1.keep hB.keeps) _ p2 (g2.keep hB.keeps) x8 hx8) Try.call93 ⟨rfl, rfl, rfl, trivial⟩ ?_
  rintro e13 w9 ⟨rfl, k10⟩
  have s12 := k10.stp 999 o3
  refine ⟨_, rfl, ?_⟩
  replace h6 := h6.stp s12 (by decide)
  replace hB := hB.stp s12 (by decide)
  refine st_val (ex_not rfl) (by decide) trivial ?_
  refine wpF_end (r := [(1, u1), (2, u2), (3, (.pointer (some ⟨b5, 0, none⟩))), (12, (.bool (!x8)))]) ⟨rfl, rfl, rfl, rfl, trivial⟩ ?_
  refine nx ?_
  refine wpC_cond rfl (fun t14 => ?_) (fun t14 => ?_)
  · rw [if_pos t14] at hF
    refine wpC_seq ?_
    refine wpC_region ?_
    refine st_val (ex_assign rfl) (by decide) trivial ?_
    refine st_val (ex_assign rfl) (by decide) trivial ?_
    refine wpF_end (r := [(6, (.bool false)), (7, (.bool false))]) ⟨rfl, rfl, trivial⟩ ?_
    refine nx ?_
    refine wpC_ret ?_
    refine nt_ret ?_
    have e15 := Option.some.inj hF
    subst e15
    refine ret_post (P := Try.prog) (vs := [(.bool false), (.bool false)]) Try.results43 ⟨rfl, rfl, trivial⟩ ?_
    exact ⟨rfl, hB.keeps⟩
  · rw [if_neg (by rw [t14]; decide)] at hF
    refine wpC_skip ?_
    refine nx ?_
    refine wpC_seq ?_
    refine wpC_region ?_
    refine st_val (ex_loadA rfl Try.isAgg64 Try.sizeOf64 rfl h6.cells) (by decide) trivial ?_
    refine st_val (ex_move rfl) (by decide) trivial ?_
    refine st_val (ex_move rfl) (by decide) trivial ?_
    obtain ⟨x16, hx16, hF⟩ := bind_some hF
    refine st_op (by decide) trivial ?_
    refine wf_call (cS_roFault fuel w9 _ p0 (⟨_, rfl, (h2.keep hB.keeps)⟩) _ p1 (g1.keep hB.keeps) _ p2 (g2.keep hB.keeps) x16 hx16) Try.call94 ⟨rfl, rfl, rfl, trivial⟩ ?_
    rintro e21 w17 ⟨rfl, k18⟩
    have s20 := k18.stp 999 o3
    refine ⟨_, rfl, ?_⟩
    replace h6 := h6.stp s20 (by decide)
    replace hB := hB.stp s20 (by decide)
    refine st_val (ex_lss rfl rfl) (by decide) trivial ?_
    refine st_val (ex_assign rfl) (by decide) trivial ?_
    refine st_val (ex_assign rfl) (by decide) trivial ?_
    refine wpF_end (r := [(6, (.bool (decide (x16 < 0)))), (7, (.bool true))]) ⟨rfl, rfl, trivial⟩ ?_
    refine nx ?_
    refine wpC_ret ?_
    have e22 := Option.some.inj hF
    subst e22
    refine ret_post (P := Try.prog) (vs := [(.bool (decide (x16 < 0))), (.bool true)]) Try.results43 ⟨rfl, rfl, trivial⟩ ?_
    exact ⟨rfl, hB.keeps⟩

def fS_FirstRootedFault (fuel : Nat) (p0 : T_RootedProblem) (p1 : List Int) (p2 : List Int) : Option (Int × Bool) :=
  (fS_roLabeled fuel p0 p1 p2) >>= fun x8 =>
  (
    if !x8 then
      some true
    else
      (fS_roFault fuel p0 p1 p2) >>= fun x18 =>
      some (decide (x18 < 0))) >>= fun q14 =>
  if q14 then
    some (0, false)
  else
    (fS_roFault fuel p0 p1 p2) >>= fun x29 =>
    some (x29, true)

def pS_FirstRootedFault (w : World) (r : Int × Bool) : Ending → World → Prop := fun e w' => e = .returned (.tuple #[.int .i64 r.1, .bool r.2]) ∧ Keeps w w'
set_option maxRecDepth 100000 in
set_option maxHeartbeats 2000000 in
theorem cS_FirstRootedFault (fuel : Nat) (w : World) (u0 : List Value) (p0 : T_RootedProblem) (g0 : Rp.rd zt w u0 p0) (u1 : Value) (p1 : List Int) (g1 : RdL zt w u1 p1) (u2 : Value) (p2 : List Int) (g2 : RdL zt w u2 p2) (r : Int × Bool) (hF : fS_FirstRootedFault fuel p0 p1 p2 = some r) :
    Calls Try.prog 47 #[.agg u0.toArray, u1, u2] w (pS_FirstRootedFault w r) := by
  unfold fS_FirstRootedFault at hF
  obtain ⟨v1, rfl, h2⟩ := g0
  have hB : Bs (fun _ => 1) (col (fun _ => 1)) w w := Bs.start _ _
  refine calls_start (n := 24) (vs := [(.agg #[(.int .i64 p0.Labels), (.int .i64 p0.Children), v1]), u1, u2]) Try.func47 rfl rfl ?_
  refine wpC_seq ?_
  refine wpC_region ?_
  refine st_op (by decide) trivial ?_
  refine wf_box (o := (col (fun _ => 1))) w.heap.size 11 hB.keeps.size (cs := [(.int .i64 p0.Labels), (.int .i64 p0.Children), v1]) rfl rfl ?_
  intro o3 w4 b5 h6 s7
  replace hB := hB.stp s7 (by decide)
  refine st_val (ex_assign rfl) (by decide) trivial ?_
  refine st_val (ex_assign rfl) (by decide) trivial ?_
  refine wpF_end (r := [(1, u1), (2, u2), (3, (.pointer (some ⟨b5, 0, none⟩)))]) ⟨rfl, rfl, rfl, trivial⟩ ?_
  refine nx ?_
  refine wpC_seq ?_
  refine wpC_seq ?_
  refine wpC_region ?_
  refine st_val (ex_loadA rfl Try.isAgg64 Try.sizeOf64 rfl h6.cells) (by decide) trivial ?_
  refine st_val (ex_move rfl) (by decide) trivial ?_
  refine st_val (ex_move rfl) (by decide) trivial ?_
  obtain ⟨x8, hx8, hF⟩ := bind_some hF
  refine st_op (by decide) trivial ?_
  refine wf_call (cS_roLabeled fuel w4 _ p0 (⟨_, rfl, (h2.keep hB.keeps)⟩) _ p1 (g1.keep hB.keeps) _ p2 (g2.keep hB.keeps) x8 hx8) Try.call93 ⟨rfl, rfl, rfl, trivial⟩ ?_
  rintro e13 w9 ⟨rfl, k10⟩
  have s12 := k10.stp 999 o3
  refine ⟨_, rfl, ?_⟩
  replace h6 := h6.stp s12 (by decide)
  replace hB := hB.stp s12 (by decide)
  refine st_val (ex_not rfl) (by decide) trivial ?_
  refine st_val (ex_move rfl) (by decide) trivial ?_
  obtain ⟨q14, hq14, hF⟩ := bind_some hF
  refine wpF_cutAt 6 (fun a16 w15 => Fr a16 24 [(1, u1), (2, u2), (3, (.pointer (some ⟨b5, 0, none⟩))), (19, (.bool q14))] ∧ Keeps w9 w15) ?_ ?_
  all_goals simp only [List.take_succ_cons, List.take_zero, List.drop_succ_cons, List.drop_zero]
  · have kp : Keeps w9 w9 := Keeps.refl _
    rcases Bool.eq_false_or_eq_true (!x8) with t17 | t17
    · rw [if_pos t17] at hq14
      refine st_no rfl rfl (by rw [t17]; rfl) (by decide) ?_
      refine st_no rfl rfl (by rw [t17]; rfl) (by decide) ?_
      refine st_no rfl rfl (by rw [t17]; rfl) (by decide) ?_
      refine st_no rfl rfl (by rw [t17]; rfl) (by decide) ?_
      refine st_no rfl rfl (by rw [t17]; rfl) (by decide) ?_
      refine st_val (ex_pick_t (congrArg (fun b => some (Value.bool b)) t17) rfl) (by decide) trivial ?_
      have hq142 := Option.some.inj hq14
      refine wpF_end (r := [(1, u1), (2, u2), (3, (.pointer (some ⟨b5, 0, none⟩))), (19, (.bool true))]) ⟨rfl, rfl, rfl, rfl, trivial⟩ ?_
      subst hq142
      refine np_norm (fun a ha => ⟨ha, kp⟩)
    · rw [if_neg (by rw [t17]; decide)] at hq14
      refine st_val (ex_loadA rfl Try.isAgg64 Try.sizeOf64 rfl h6.cells) (by decide) ⟨_, rfl, (congrArg (fun b => some (Value.bool b)) t17)⟩ ?_
      refine st_val (ex_move rfl) (by decide) ⟨_, rfl, (congrArg (fun b => some (Value.bool b)) t17)⟩ ?_
      refine st_val (ex_move rfl) (by decide) ⟨_, rfl, (congrArg (fun b => some (Value.bool b)) t17)⟩ ?_
      obtain ⟨x18, hx18, hq14⟩ := bind_some hq14
      refine st_op (by decide) ⟨_, rfl, (congrArg (fun b => some (Value.bool b)) t17)⟩ ?_
      refine wf_call (cS_roFault fuel w9 _ p0 (⟨_, rfl, (h2.keep hB.keeps)⟩) _ p1 (g1.keep hB.keeps) _ p2 (g2.keep hB.keeps) x18 hx18) Try.call94 ⟨rfl, rfl, rfl, trivial⟩ ?_
      rintro e23 w19 ⟨rfl, k20⟩
      have s22 := k20.stp 999 o3
      refine ⟨_, rfl, ?_⟩
      replace h6 := h6.stp s22 (by decide)
      replace hB := hB.stp s22 (by decide)
      replace kp := Keeps.trans kp k20
      refine st_val (ex_lss rfl rfl) (by decide) ⟨_, rfl, (congrArg (fun b => some (Value.bool b)) t17)⟩ ?_
      refine st_val (ex_pick_f (congrArg (fun b => some (Value.bool b)) t17) rfl) (by decide) trivial ?_
      have hq142 := Option.some.inj hq14
      refine wpF_end (r := [(1, u1), (2, u2), (3, (.pointer (some ⟨b5, 0, none⟩))), (19, (.bool (decide (x18 < 0))))]) ⟨rfl, rfl, rfl, rfl, trivial⟩ ?_
      subst hq142
      refine np_norm (fun a ha => ⟨ha, kp⟩)
  rintro a26 w15 ⟨ha, k24⟩
  have s25 := k24.stp 999 o3
  replace h6 := h6.stp s25 (by decide)
  replace hB := hB.stp s25 (by decide)
  refine wl_of ha ?_
  refine wpF_end (r := [(1, u1), (2, u2), (3, (.pointer (some ⟨b5, 0, none⟩))), (19, (.bool q14))]) ⟨rfl, rfl, rfl, rfl, trivial⟩ ?_
  refine nx ?_
  refine wpC_cond rfl (fun t27 => ?_) (fun t27 => ?_)
  · rw [if_pos t27] at hF
    refine wpC_seq ?_
    refine wpC_region ?_
    refine st_val (ex_assign rfl) (by decide) trivial ?_
    refine st_val (ex_assign rfl) (by decide) trivial ?_
    refine wpF_end (r := [(6, (.int .i64 0)), (7, (.bool false))]) ⟨rfl, rfl, trivial⟩ ?_
    refine nx ?_
    refine wpC_ret ?_
    refine nt_ret ?_
    have e28 := Option.some.inj hF
    subst e28
    refine ret_post (P := Try.prog) (vs := [(.int .i64 0), (.bool false)]) Try.results47 ⟨rfl, rfl, trivial⟩ ?_
    exact ⟨rfl, hB.keeps⟩
  · rw [if_neg (by rw [t27]; decide)] at hF
    refine wpC_skip ?_
    refine nx ?_
    refine wpC_seq ?_
    refine wpC_region ?_
    refine st_val (ex_loadA rfl Try.isAgg64 Try.sizeOf64 rfl h6.cells) (by decide) trivial ?_
    refine st_val (ex_move rfl) (by decide) trivial ?_
    refine st_val (ex_move rfl) (by decide) trivial ?_
    obtain ⟨x29, hx29, hF⟩ := bind_some hF
    refine st_op (by decide) trivial ?_
    refine wf_call (cS_roFault fuel w15 _ p0 (⟨_, rfl, (h2.keep hB.keeps)⟩) _ p1 (g1.keep hB.keeps) _ p2 (g2.keep hB.keeps) x29 hx29) Try.call94 ⟨rfl, rfl, rfl, trivial⟩ ?_
    rintro e34 w30 ⟨rfl, k31⟩
    have s33 := k31.stp 999 o3
    refine ⟨_, rfl, ?_⟩
    replace h6 := h6.stp s33 (by decide)
    replace hB := hB.stp s33 (by decide)
    refine st_val (ex_assign rfl) (by decide) trivial ?_
    refine st_val (ex_assign rfl) (by decide) trivial ?_
    refine wpF_end (r := [(6, (.int .i64 x29)), (7, (.bool true))]) ⟨rfl, rfl, trivial⟩ ?_
    refine nx ?_
    refine wpC_ret ?_
    have e35 := Option.some.inj hF
    subst e35
    refine ret_post (P := Try.prog) (vs := [(.int .i64 x29), (.bool true)]) Try.results47 ⟨rfl, rfl, trivial⟩ ?_
    exact ⟨rfl, hB.keeps⟩

def fI_RootedProblem_line (fuel : Nat) (p0 : T_RootedProblem) (p1 : Int) (p2 : List Int) : Option Bool :=
  (srtO p2) >>= fun x22 =>
  (cat ([p1] : List Int) x22) >>= fun x30 =>
  (fX_slices_BinarySearchFunc_LLint_int_int fuel p0.Lines x30 (fun (z36 : (List Int) × (List Int)) => fX_slices_Compare_int_int z36.1 z36.2)) >>= fun x45 =>
  some x45.2

def pI_RootedProblem_line (w : World) (r : Bool) : Ending → World → Prop := fun e w' => e = .returned (.bool r) ∧ Keeps w w'
set_option maxRecDepth 100000 in
set_option maxHeartbeats 2000000 in
theorem cI_RootedProblem_line (fuel : Nat) (w : World) (u0 : List Value) (p0 : T_RootedProblem) (g0 : Rp.rd zt w u0 p0) (p1 : Int) (u2 : Value) (p2 : List Int) (g2 : RdL zt w u2 p2) (r : Bool) (hF : fI_RootedProblem_line fuel p0 p1 p2 = some r) :
    Calls Try.prog 151 #[.agg u0.toArray, .int .i64 p1, u2] w (pI_RootedProblem_line w r) := by
  unfold fI_RootedProblem_line at hF
  obtain ⟨v1, rfl, h2⟩ := g0
  have hB : Bs (fun _ => 1) (col (fun _ => 1)) w w := Bs.start _ _
  refine calls_start (n := 24) (vs := [(.agg #[(.int .i64 p0.Labels), (.int .i64 p0.Children), v1]), (.int .i64 p1), u2]) Try.func151 rfl rfl ?_
  refine wpC_seq ?_
  refine wpC_region ?_
  refine st_op (by decide) trivial ?_
  refine wf_box (o := (col (fun _ => 1))) w.heap.size 11 hB.keeps.size (cs := [(.int .i64 p0.Labels), (.int .i64 p0.Children), v1]) rfl rfl ?_
  intro o3 w4 b5 h6 s7
  replace hB := hB.stp s7 (by decide)
  refine st_val (ex_assign rfl) (by decide) trivial ?_
  refine wpF_end (r := [(1, (.int .i64 p1)), (2, u2), (3, (.pointer (some ⟨b5, 0, none⟩)))]) ⟨rfl, rfl, rfl, trivial⟩ ?_
  refine nx ?_
  refine wpC_seq ?_
  refine wpC_region ?_
  refine st_val (ex_move rfl) (by decide) trivial ?_
  refine st_op (by decide) trivial ?_
  refine wf_call (cX_Values w4 o3 u2 p2 (g2.keep hB.keeps)) Try.call133 ⟨rfl, trivial⟩ ?_
  rintro e9 w8 ⟨v14, o13, rfl, h15, k10, k11⟩
  have s12 := k10.stp' 999 k11
  refine ⟨_, rfl, ?_⟩
  replace h6 := h6.stp s12 (by decide)
  replace hB := hB.stp s12 (by decide)
  obtain ⟨x22, hx22, hF⟩ := bind_some hF
  refine st_op (by decide) trivial ?_
  refine wf_call (cX_Sorted w8 o13 12 v14 u2 _ h15 p2 (g2.keep hB.keeps) x22 hx22) Try.call132 ⟨rfl, trivial⟩ ?_
  rintro e17 w16 ⟨v23, o21, rfl, h24, k18, k19⟩
  have s20 := k18.stp' 12 k19
  replace h24 := h24.mono hB.keeps.size
  refine ⟨_, rfl, ?_⟩
  replace h15 := h15.stp s20 (by decide)
  replace h6 := h6.stp s20 (by decide)
  replace hB := hB.stp s20 (by decide)
  refine st_val (ex_assign rfl) (by decide) trivial ?_
  refine wpF_end (r := [(1, (.int .i64 p1)), (3, (.pointer (some ⟨b5, 0, none⟩))), (7, v23)]) ⟨rfl, rfl, rfl, trivial⟩ ?_
  refine nx ?_
  refine wpC_seq ?_
  obtain ⟨x30, hx30, hF⟩ := bind_some hF
  obtain ⟨x45, hx45, hF⟩ := bind_some hF
  refine wpC_drawn (o := o21) [(1, (.int .i64 p1)), (3, (.pointer (some ⟨b5, 0, none⟩))), (7, v23)] [1, 3, 7] [14, 15, 16, 17, 18, 19, 20, 13, 21, 22, 8] [[], [0], [], [2], [], [3, 4], [1, 5], [6], [7], [7], [8]] [none, none, none, some 5, none, none, none, none, none, none, none] [999, 999, 999, 999, 999, 13, 999, 999, 999, 999, 999] [0, 0, 0, 13, 0, 13, 0, 0, 0, 0, 0] [13, 999] [fun v _ _ => v = (.pointer (some ⟨b5, 0 + 2, none⟩)), fun v _ _ => v = v1, fun v _ _ => v = (.int .i64 p1), fun v o w9 => Ow w.heap.size 3 13 o w9 v (([p1] : List Int) : List Int), fun v _ _ => v = v23, fun v o w9 => Ow w.heap.size 3 13 o w9 v x30, fun v _ _ => v = (.tuple #[(.int .i64 x45.1), (.bool x45.2)]), fun v _ _ => v = (.tuple #[(.int .i64 x45.1), (.bool x45.2)]), fun v _ _ => v = (.int .i64 x45.1), fun v _ _ => v = (.bool x45.2), fun v _ _ => v = (.int .i64 x45.1)] (fun o8 w8 => Bs (fun _ => 1) o8 w w8 ∧ Ow w.heap.size 3 12 o8 w8 v23 x22 ∧ Bx w.heap.size 11 o8 w8 b5 64 [(.int .i64 p0.Labels), (.int .i64 p0.Children), v1]) follows_mixed (by kernel_rfl) rfl ⟨rfl, rfl, rfl, trivial⟩ ⟨hB, h24, h6⟩ ?_ ⟨st_eq _, st_eq _, st_eq _, fun _ _ _ _ _ _ h0 hb h hs => h.stp hs h0.1 (Ne.symm hb), st_eq _, fun _ _ _ _ _ _ h0 hb h hs => h.stp hs h0.1 (Ne.symm hb), st_eq _, st_eq _, st_eq _, st_eq _, st_eq _, trivial⟩ ?_ ?_
  · rintro t9 o1 w1 o2 w2 ht9 ⟨hB, h24, h6⟩ hs9
    have ht9 : t9 = 13 ∨ t9 = 999 := by simpa using ht9
    rcases ht9 with rfl | rfl
    all_goals exact ⟨hB.stp hs9 (by decide), h24.stp hs9 (by decide) (by decide), h6.stp hs9 (by decide)⟩
  · refine ⟨?_, ?_, ?_, ?_, ?_, ?_, ?_, ?_, ?_, ?_, ?_, trivial⟩
    · rintro o51 w52 a53 ha ⟨hB, h24, h6⟩ -
      refine opS_of ha (trivial) ?_
      refine op1_val (ex_field rfl Try.underlying64 rfl Try.sizeOf22) ?_
      exact ⟨_, Stp.refl _ _ _, rfl⟩
    · rintro o54 w55 a56 ha ⟨hB, h24, h6⟩ ⟨r57, -⟩
      have ha := Fr.cons (d := 14) ha r57
      refine opS_of ha (trivial) ?_
      refine op1_val (ex_load1 rfl Try.isAgg22 (h6.cell rfl)) ?_
      exact ⟨_, Stp.refl _ _ _, rfl⟩
    · rintro o58 w59 a60 ha ⟨hB, h24, h6⟩ -
      refine opS_of ha (trivial) ?_
      refine op1_val (ex_move rfl) ?_
      exact ⟨_, Stp.refl _ _ _, rfl⟩
    · rintro o61 w62 a63 ha ⟨hB, h24, h6⟩ ⟨r64, -⟩
      have ha := Fr.cons (d := 16) ha r64
      refine opS_of ha (trivial) ?_
      refine wf_litW9 w.heap.size 13 hB.keeps.size (o := o61) (cs := [(.int .i64 p1)]) (xs := ([p1] : List Int)) (vs := [(0, (.int .i64 p1))]) ⟨_, _, rfl, rfl, rfl⟩ rfl ⟨rfl, rfl, trivial⟩ Try.underlying25 Try.sizeOf3 Try.zeroValue3 (by decide) (fill1 rfl) (by simp) ?_
      intro o65 w66 v67 h68 s69
      replace h24 := h24.stp s69 (by decide) (by decide)
      replace h6 := h6.stp s69 (by decide)
      replace hB := hB.stp s69 (by decide)
      exact ⟨_, s69, h68⟩
    · rintro o70 w71 a72 ha ⟨hB, h24, h6⟩ -
      refine opS_of ha (trivial) ?_
      refine op1_val (ex_move rfl) ?_
      exact ⟨_, Stp.refl _ _ _, rfl⟩
    · rintro o73 w74 a75 ha ⟨hB, h24, h6⟩ ⟨r76, r77, -⟩
      replace r76 : Ow w.heap.size 3 13 o73 w74 (a75.tmps.getD 17 undef) (([p1] : List Int) : List Int) := r76
      generalize e79 : a75.tmps.getD 17 undef = v78 at r76
      have ha := Fr.cons (d := 17) ha e79
      have ha := Fr.cons (d := 18) ha r77
      refine opS_of ha (trivial) ?_
      refine wf_catZ r76 (h24.z) hx30 (by decide) hB.keeps.size (fun _ _ h => h) rfl rfl Try.underlying25 info2_t_int_Y rfl (by decide) ?_
      intro o80 w81 v82 h83 s84
      replace h24 := h24.stp s84 (by decide) (by decide)
      replace h6 := h6.stp s84 (by decide)
      replace hB := hB.stp s84 (by decide)
      exact ⟨_, s84, h83⟩
    · rintro o85 w86 a87 ha ⟨hB, h24, h6⟩ ⟨r88, r89, -⟩
      have ha := Fr.cons (d := 15) ha r88
      replace r89 : Ow w.heap.size 3 13 o85 w86 (a87.tmps.getD 19 undef) x30 := r89
      generalize e91 : a87.tmps.getD 19 undef = v90 at r89
      have ha := Fr.cons (d := 19) ha e91
      refine opS_of ha (trivial) ?_
      refine wf_call (cX_slices_BinarySearchFunc_LLint_int_int fuel w86 _ p0.Lines (h2.keep hB.keeps) _ x30 r89.z _ (fun (z92 : (List Int) × (List Int)) => fX_slices_Compare_int_int z92.1 z92.2) (show FnV Try.prog w86 (.func (.func 157) #[] #[]) (fun (z92 : (List Int) × (List Int)) => fX_slices_Compare_int_int z92.1 z92.2) from ⟨_, _, rfl, Try.call157, fun ww vs xx rr kk hok hG => by (obtain ⟨a93, b94, rfl, h95, h96⟩ := hok; obtain ⟨v97, rfl, h98⟩ := h95; obtain ⟨v99, rfl, h100⟩ := h96; exact cX_slices_Compare_int_int ww _ xx.1 h98 _ xx.2 h100 rr hG)⟩) x45 hx45) Try.call184 ⟨rfl, rfl, rfl, trivial⟩ ?_
      rintro e105 w101 ⟨rfl, k102⟩
      have s104 := k102.stp 999 o85
      refine ⟨_, rfl, ?_⟩
      replace h24 := h24.stp s104 (by decide) (by decide)
      replace r89 := r89.stp s104 (by decide) (by decide)
      replace h6 := h6.stp s104 (by decide)
      replace hB := hB.stp s104 (by decide)
      exact ⟨_, s104, rfl⟩
    · rintro o106 w107 a108 ha ⟨hB, h24, h6⟩ ⟨r109, -⟩
      have ha := Fr.cons (d := 20) ha r109
      refine opS_of ha (trivial) ?_
      refine op1_val (ex_move rfl) ?_
      exact ⟨_, Stp.refl _ _ _, rfl⟩
    · rintro o110 w111 a112 ha ⟨hB, h24, h6⟩ ⟨r113, -⟩
      have ha := Fr.cons (d := 13) ha r113
      refine opS_of ha (trivial) ?_
      refine op1_val (ex_extract rfl rfl) ?_
      exact ⟨_, Stp.refl _ _ _, rfl⟩
    · rintro o114 w115 a116 ha ⟨hB, h24, h6⟩ ⟨r117, -⟩
      have ha := Fr.cons (d := 13) ha r117
      refine opS_of ha (trivial) ?_
      refine op1_val (ex_extract rfl rfl) ?_
      exact ⟨_, Stp.refl _ _ _, rfl⟩
    · rintro o118 w119 a120 ha ⟨hB, h24, h6⟩ ⟨r121, -⟩
      have ha := Fr.cons (d := 21) ha r121
      refine opS_of ha (trivial) ?_
      refine op1_val (ex_assign rfl) ?_
      exact ⟨_, Stp.refl _ _ _, rfl⟩
  rintro o122 w123 a124 ha ⟨hB, h24, h6⟩ ⟨-, -, -, -, -, -, -, -, -, r125, -, -⟩
  have ha := Fr.cons (d := 22) ha r125
  refine wl_of ha ?_
  simp only [List.length_cons, List.length_nil, Nat.zero_add, Nat.reduceAdd, List.drop_succ_cons, List.drop_zero]
  refine st_val (ex_assign rfl) (by decide) trivial ?_
  refine wpF_end (r := [(9, (.bool x45.2))]) ⟨rfl, trivial⟩ ?_
  refine nx ?_
  refine wpC_seq ?_
  refine wpC_region ?_
  refine st_val (ex_move rfl) (by decide) trivial ?_
  refine st_val (ex_assign rfl) (by decide) trivial ?_
  refine wpF_end (r := [(6, (.bool x45.2))]) ⟨rfl, trivial⟩ ?_
  refine nx ?_
  refine wpC_ret ?_
  have e126 := Option.some.inj hF
  subst e126
  refine ret_post (P := Try.prog) (vs := [(.bool x45.2)]) Try.results151 ⟨rfl, trivial⟩ ?_
  exact ⟨rfl, hB.keeps⟩

def fI_rootedFault_1 (fuel : Nat) (p0 : Int) (p1 : List Int) (p2 : T_RootedProblem) (p3 : List Int) : Option Bool :=
  (fI_childrenOf p1) >>= fun x7 =>
  (ix x7 p0) >>= fun x18 =>
  (
    if decide ((x18.length : Int) > 0) then
      (ix p3 p0) >>= fun x33 =>
      (fI_images x18 p3) >>= fun x36 =>
      (fI_RootedProblem_line fuel p2 x33 x36) >>= fun x128 =>
      some (!x128)
    else
      some false) >>= fun q28 =>
  some q28

def pI_rootedFault_1 (w : World) (r : Bool) : Ending → World → Prop := fun e w' => e = .returned (.bool r) ∧ Keeps w w'
set_option maxRecDepth 100000 in
set_option maxHeartbeats 2000000 in
theorem cI_rootedFault_1 (fuel : Nat) (w : World) (p0 : Int) (b1 : Nat) (u1 : List Value) (p1 : List Int) (k1 : Cells w b1 0 u1) (g1 : Rp.rd zt w u1 p1) (b2 : Nat) (u2 : List Value) (p2 : T_RootedProblem) (k2 : Cells w b2 0 u2) (g2 : Rp.rd zt w u2 p2) (b3 : Nat) (u3 : List Value) (p3 : List Int) (k3 : Cells w b3 0 u3) (g3 : Rp.rd zt w u3 p3) (r : Bool) (hF : fI_rootedFault_1 fuel p0 p1 p2 p3 = some r) :
    Calls Try.prog 149 #[.int .i64 p0, .pointer (some ⟨b1, 0, none⟩), .pointer (some ⟨b2, 0, none⟩), .pointer (some ⟨b3, 0, none⟩)] w (pI_rootedFault_1 w r) := by
  unfold fI_rootedFault_1 at hF
  have g1k := g1
  obtain ⟨v1, rfl, h2⟩ := g1
  have g2k := g2
  obtain ⟨v3, rfl, h4⟩ := g2
  have g3k := g3
  obtain ⟨v5, rfl, h6⟩ := g3
  have hB : Bs (fun _ => 1) (col (fun _ => 1)) w w := Bs.start _ _
  refine calls_start (n := 27) (vs := [(.int .i64 p0), (.pointer (some ⟨b1, 0, none⟩)), (.pointer (some ⟨b2, 0, none⟩)), (.pointer (some ⟨b3, 0, none⟩))]) Try.func149 rfl rfl ?_
  refine wpC_seq ?_
  refine wpC_region ?_
  refine st_val (ex_assign rfl) (by decide) trivial ?_
  refine wpF_end (r := [(0, (.int .i64 p0)), (1, (.pointer (some ⟨b1, 0, none⟩))), (2, (.pointer (some ⟨b2, 0, none⟩))), (3, (.pointer (some ⟨b3, 0, none⟩)))]) ⟨rfl, rfl, rfl, rfl, trivial⟩ ?_
  refine nx ?_
  refine wpC_seq ?_
  refine wpC_region ?_
  refine st_val (ex_load1 rfl Try.isAgg25 (cell_of_cells (k1.keep hB.keeps))) (by decide) trivial ?_
  obtain ⟨x7, hx7, hF⟩ := bind_some hF
  refine st_op (by decide) trivial ?_
  refine wf_call (cI_childrenOf w (col (fun _ => 1)) 11 (by decide) _ p1 (h2.keep hB.keeps) x7 hx7) Try.call150 ⟨rfl, trivial⟩ ?_
  rintro e16 w8 ⟨v9, g11, o17, rfl, h10, h12, k13, k14⟩
  have s15 := k13.stp' 11 k14
  replace h10 := h10.mono hB.keeps.size
  replace h12 := h12.mono hB.keeps.size
  refine ⟨_, rfl, ?_⟩
  replace hB := hB.stp s15 (by decide)
  refine st_val (ex_move rfl) (by decide) trivial ?_
  obtain ⟨x18, hx18, hF⟩ := bind_some hF
  obtain ⟨v19, h20, h21, h22⟩ := h12.ix hx18
  refine st_op (by decide) trivial ?_
  refine wf_atW h10 h20 rfl rfl Try.underlying22 Try.sizeOf25 ?_
  intro b23 f24 c25 h26 h27
  obtain ⟨rfl, -⟩ := h27
  refine st_val (ex_load1 rfl Try.isAgg25 (cell_of_cells h26)) (by decide) trivial ?_
  refine st_val (ex_assign rfl) (by decide) trivial ?_
  refine wpF_end (r := [(0, (.int .i64 p0)), (2, (.pointer (some ⟨b2, 0, none⟩))), (3, (.pointer (some ⟨b3, 0, none⟩))), (6, v19), (8, v9)]) ⟨rfl, rfl, rfl, rfl, rfl, trivial⟩ ?_
  refine nx ?_
  refine wpC_seq ?_
  obtain ⟨q28, hq28, hF⟩ := bind_some hF
  refine wpC_cutN (fun a31 w30 => ∃ o29 : Tg, Fr a31 27 [(5, (.bool q28))] ∧ Bs (fun _ => 1) o29 w w30) (fun _ _ => False) ?_ ?_ (fun _ _ h => h.elim)
  · rcases Bool.eq_false_or_eq_true (decide ((x18.length : Int) > 0)) with t32 | t32
    · rw [if_pos t32] at hq28
      obtain ⟨x33, hx33, hq28⟩ := bind_some hq28
      obtain ⟨x36, hx36, hq28⟩ := bind_some hq28
      refine wpC_drawn (o := o17) [(0, (.int .i64 p0)), (2, (.pointer (some ⟨b2, 0, none⟩))), (3, (.pointer (some ⟨b3, 0, none⟩))), (6, v19), (8, v9)] [0, 2, 3, 6, 8] [12, 13, 14, 15, 16, 17, 18, 19, 20, 21, 22, 23] [[], [0], [1], [2], [3], [3], [3], [3, 5, 6], [3, 7], [3], [3], [3, 9, 10]] [none, none, none, none, none, none, none, none, none, none, none, none] [999, 999, 999, 999, 999, 999, 999, 999, 999, 999, 999, 999] [0, 0, 0, 0, 0, 0, 0, 0, 0, 0, 0, 13] [999] [fun v _ _ => v = v19, fun v _ _ => v = (.int .i64 (x18.length : Int)), fun v _ _ => v = (.bool (decide ((x18.length : Int) > 0))), fun v _ _ => v = (.bool (decide ((x18.length : Int) > 0))), fun v o w9 => ∃ (c : List Value), v = .agg c.toArray ∧ Rp.rd zt w c p2, fun v o w9 => RdL zt w v p3, fun v _ _ => v = (.int .i64 p0), fun v o w9 => ∃ vl, v = adr vl (p0.toNat * Rp.sz Int) ∧ RdL zt w vl p3, fun v _ _ => v = (.int .i64 x33), fun v _ _ => v = v19, fun v o w9 => RdL zt w v p3, fun v o w9 => Ow w.heap.size 3 13 o w9 v x36] (fun o8 w8 => Bs (fun _ => 1) o8 w w8 ∧ Ow w.heap.size 25 11 o8 w8 v9 g11 ∧ Rws w.heap.size 3 12 o8 w8 g11 x7) follows_mixed (by kernel_rfl) rfl ⟨rfl, rfl, rfl, rfl, rfl, trivial⟩ ⟨hB, h10, h12⟩ ?_ ⟨st_eq _, st_eq _, st_eq _, st_eq _, fun _ _ _ _ _ _ h0 hb ⟨c, e, h⟩ hs => ⟨c, e, h⟩, fun _ _ _ _ _ _ h0 hb h hs => h, st_eq _, fun _ _ _ _ _ _ h0 hb ⟨vl, e, h⟩ hs => ⟨vl, e, h⟩, st_eq _, st_eq _, fun _ _ _ _ _ _ h0 hb h hs => h, fun _ _ _ _ _ _ h0 hb h hs => h.stp hs h0.1 (Ne.symm hb), trivial⟩ ?_ ?_
      · rintro t9 o1 w1 o2 w2 ht9 ⟨hB, h10, h12⟩ hs9
        have ht9 : t9 = 999 := by simpa using ht9
        subst ht9
        all_goals exact ⟨hB.stp hs9 (by decide), h10.stp hs9 (by decide) (by decide), h12.stp hs9 (by decide) (by decide)⟩
      · refine ⟨?_, ?_, ?_, ?_, ?_, ?_, ?_, ?_, ?_, ?_, ?_, ?_, trivial⟩
        · rintro o45 w46 a47 ha ⟨hB, h10, h12⟩ -
          refine opS_of ha (trivial) ?_
          refine op1_val (ex_move rfl) ?_
          exact ⟨_, Stp.refl _ _ _, rfl⟩
        · rintro o48 w49 a50 ha ⟨hB, h10, h12⟩ ⟨r51, -⟩
          have ha := Fr.cons (d := 12) ha r51
          refine opS_of ha (trivial) ?_
          refine op1_val (ex_lenO rfl (h12.at h21 h22) Try.underlying25) ?_
          exact ⟨_, Stp.refl _ _ _, rfl⟩
        · rintro o52 w53 a54 ha ⟨hB, h10, h12⟩ ⟨r55, -⟩
          have ha := Fr.cons (d := 13) ha r55
          refine opS_of ha (trivial) ?_
          refine op1_val (ex_gtr rfl rfl) ?_
          exact ⟨_, Stp.refl _ _ _, rfl⟩
        · rintro o56 w57 a58 ha ⟨hB, h10, h12⟩ ⟨r59, -⟩
          have ha := Fr.cons (d := 14) ha r59
          refine opS_of ha (trivial) ?_
          refine op1_val (ex_move rfl) ?_
          exact ⟨_, Stp.refl _ _ _, rfl⟩
        · rintro o60 w61 a62 ha ⟨hB, h10, h12⟩ ⟨r63, -⟩
          have ha := Fr.cons (d := 15) ha r63
          refine opS_of ha (⟨_, rfl, (congrArg (fun b => some (Value.bool b)) t32)⟩) ?_
          refine op1_val (ex_loadA rfl Try.isAgg64 Try.sizeOf64 rfl (k2.keep hB.keeps)) ?_
          exact ⟨_, Stp.refl _ _ _, ⟨_, rfl, ⟨_, rfl, h4⟩⟩⟩
        · rintro o64 w65 a66 ha ⟨hB, h10, h12⟩ ⟨r67, -⟩
          have ha := Fr.cons (d := 15) ha r67
          refine opS_of ha (⟨_, rfl, (congrArg (fun b => some (Value.bool b)) t32)⟩) ?_
          refine op1_val (ex_load1 rfl Try.isAgg25 (cell_of_cells (k3.keep hB.keeps))) ?_
          exact ⟨_, Stp.refl _ _ _, h6⟩
        · rintro o68 w69 a70 ha ⟨hB, h10, h12⟩ ⟨r71, -⟩
          have ha := Fr.cons (d := 15) ha r71
          refine opS_of ha (⟨_, rfl, (congrArg (fun b => some (Value.bool b)) t32)⟩) ?_
          refine op1_val (ex_move rfl) ?_
          exact ⟨_, Stp.refl _ _ _, rfl⟩
        · rintro o72 w73 a74 ha ⟨hB, h10, h12⟩ ⟨r75, r76, r77, -⟩
          have ha := Fr.cons (d := 15) ha r75
          replace r76 : RdL zt w (a74.tmps.getD 17 undef) p3 := r76
          generalize e79 : a74.tmps.getD 17 undef = v78 at r76
          have ha := Fr.cons (d := 17) ha e79
          have ha := Fr.cons (d := 18) ha r77
          refine opS_of ha (⟨_, rfl, (congrArg (fun b => some (Value.bool b)) t32)⟩) ?_
          refine wd_indexR r76 hx33 rfl rfl Try.underlying25 Try.sizeOf3 ?_
          exact ⟨_, Stp.refl _ _ _, ⟨_, rfl, r76⟩⟩
        · rintro o80 w81 a82 ha ⟨hB, h10, h12⟩ ⟨r83, r84, -⟩
          have ha := Fr.cons (d := 15) ha r83
          obtain ⟨v85, e86, h87⟩ := r84
          have ha := Fr.cons (d := 19) ha e86
          refine opS_of ha (⟨_, rfl, (congrArg (fun b => some (Value.bool b)) t32)⟩) ?_
          refine wd_load1Z h87 hx33 hB rfl rfl Try.isAgg3 ?_
          intro c88 h89
          cases h89
          exact ⟨_, Stp.refl _ _ _, rfl⟩
        · rintro o90 w91 a92 ha ⟨hB, h10, h12⟩ ⟨r93, -⟩
          have ha := Fr.cons (d := 15) ha r93
          refine opS_of ha (⟨_, rfl, (congrArg (fun b => some (Value.bool b)) t32)⟩) ?_
          refine op1_val (ex_move rfl) ?_
          exact ⟨_, Stp.refl _ _ _, rfl⟩
        · rintro o94 w95 a96 ha ⟨hB, h10, h12⟩ ⟨r97, -⟩
          have ha := Fr.cons (d := 15) ha r97
          refine opS_of ha (⟨_, rfl, (congrArg (fun b => some (Value.bool b)) t32)⟩) ?_
          refine op1_val (ex_load1 rfl Try.isAgg25 (cell_of_cells (k3.keep hB.keeps))) ?_
          exact ⟨_, Stp.refl _ _ _, h6⟩
        · rintro o98 w99 a100 ha ⟨hB, h10, h12⟩ ⟨r101, r102, r103, -⟩
          have ha := Fr.cons (d := 15) ha r101
          have ha := Fr.cons (d := 21) ha r102
          replace r103 : RdL zt w (a100.tmps.getD 22 undef) p3 := r103
          generalize e105 : a100.tmps.getD 22 undef = v104 at r103
          have ha := Fr.cons (d := 22) ha e105
          refine opS_of ha (⟨_, rfl, (congrArg (fun b => some (Value.bool b)) t32)⟩) ?_
          refine wf_call (cI_images w99 o98 13 (by decide) _ x18 (h12.at h21 h22).z _ p3 (r103.keep hB.keeps) x36 hx36) Try.call121 ⟨rfl, rfl, trivial⟩ ?_
          rintro e112 w106 ⟨v107, o113, rfl, h108, k109, k110⟩
          have s111 := k109.stp' 999 k110
          replace h108 := h108.mono hB.keeps.size
          refine ⟨_, rfl, ?_⟩
          replace h10 := h10.stp s111 (by decide) (by decide)
          replace h12 := h12.stp s111 (by decide) (by decide)
          replace hB := hB.stp s111 (by decide)
          exact ⟨_, s111, h108⟩
      rintro o114 w115 a116 ha ⟨hB, h10, h12⟩ ⟨-, -, -, r117, r118, -, -, -, r119, -, -, r120, -⟩
      have ha := Fr.cons (d := 15) ha r117
      obtain ⟨c121, e122, h123⟩ := r118
      obtain ⟨v124, rfl, h125⟩ := h123
      have ha := Fr.cons (d := 16) ha e122
      have ha := Fr.cons (d := 20) ha r119
      replace r120 : Ow w.heap.size 3 13 o114 w115 (a116.tmps.getD 23 undef) x36 := r120
      generalize e127 : a116.tmps.getD 23 undef = v126 at r120
      have ha := Fr.cons (d := 23) ha e127
      refine wl_of ha ?_
      simp only [List.length_cons, List.length_nil, Nat.zero_add, Nat.reduceAdd, List.drop_succ_cons, List.drop_zero]
      obtain ⟨x128, hx128, hq28⟩ := bind_some hq28
      refine st_op (by decide) ⟨_, rfl, (congrArg (fun b => some (Value.bool b)) t32)⟩ ?_
      refine wf_call (cI_RootedProblem_line fuel w115 _ p2 (⟨_, rfl, (h125.keep hB.keeps)⟩) x33 _ x36 r120.z x128 hx128) Try.call151 ⟨rfl, rfl, rfl, trivial⟩ ?_
      rintro e133 w129 ⟨rfl, k130⟩
      have s132 := k130.stp 999 o114
      refine ⟨_, rfl, ?_⟩
      replace h10 := h10.stp s132 (by decide) (by decide)
      replace h12 := h12.stp s132 (by decide) (by decide)
      replace r120 := r120.stp s132 (by decide) (by decide)
      replace hB := hB.stp s132 (by decide)
      refine st_val (ex_not rfl) (by decide) ⟨_, rfl, (congrArg (fun b => some (Value.bool b)) t32)⟩ ?_
      refine st_val (ex_pick_t (congrArg (fun b => some (Value.bool b)) t32) rfl) (by decide) trivial ?_
      refine st_val (ex_assign rfl) (by decide) trivial ?_
      have e134 := Option.some.inj hq28
      subst e134
      refine wpF_end (r := [(5, (.bool (!x128)))]) ⟨rfl, trivial⟩ ?_
      refine np_norm (fun a ha => ⟨o114, ha, hB⟩)
    · rw [if_neg (by rw [t32]; decide)] at hq28
      refine wpC_drawn (o := o17) [(0, (.int .i64 p0)), (2, (.pointer (some ⟨b2, 0, none⟩))), (3, (.pointer (some ⟨b3, 0, none⟩))), (6, v19), (8, v9)] [0, 2, 3, 6, 8] [12, 13, 14, 15, 16, 17, 18, 19, 20, 21, 22, 23] [[], [0], [1], [2], [3], [3], [3], [3], [3], [3], [3], [3]] [none, none, none, none, none, none, none, none, none, none, none, none] [999, 999, 999, 999, 999, 999, 999, 999, 999, 999, 999, 999] [0, 0, 0, 0, 0, 0, 0, 0, 0, 0, 0, 0] [999] [fun v _ _ => v = v19, fun v _ _ => v = (.int .i64 (x18.length : Int)), fun v _ _ => v = (.bool (decide ((x18.length : Int) > 0))), fun v _ _ => v = (.bool (decide ((x18.length : Int) > 0))), fun v _ _ => v = undef, fun v _ _ => v = undef, fun v _ _ => v = undef, fun v _ _ => v = undef, fun v _ _ => v = undef, fun v _ _ => v = undef, fun v _ _ => v = undef, fun v _ _ => v = undef] (fun o8 w8 => Bs (fun _ => 1) o8 w w8 ∧ Ow w.heap.size 25 11 o8 w8 v9 g11 ∧ Rws w.heap.size 3 12 o8 w8 g11 x7) follows_mixed (by kernel_rfl) rfl ⟨rfl, rfl, rfl, rfl, rfl, trivial⟩ ⟨hB, h10, h12⟩ ?_ ⟨st_eq _, st_eq _, st_eq _, st_eq _, st_eq _, st_eq _, st_eq _, st_eq _, st_eq _, st_eq _, st_eq _, st_eq _, trivial⟩ ?_ ?_
      · rintro t9 o1 w1 o2 w2 ht9 ⟨hB, h10, h12⟩ hs9
        have ht9 : t9 = 999 := by simpa using ht9
        subst ht9
        all_goals exact ⟨hB.stp hs9 (by decide), h10.stp hs9 (by decide) (by decide), h12.stp hs9 (by decide) (by decide)⟩
      · refine ⟨?_, ?_, ?_, ?_, ?_, ?_, ?_, ?_, ?_, ?_, ?_, ?_, trivial⟩
        · rintro o135 w136 a137 ha ⟨hB, h10, h12⟩ -
          refine opS_of ha (trivial) ?_
          refine op1_val (ex_move rfl) ?_
          exact ⟨_, Stp.refl _ _ _, rfl⟩
        · rintro o138 w139 a140 ha ⟨hB, h10, h12⟩ ⟨r141, -⟩
          have ha := Fr.cons (d := 12) ha r141
          refine opS_of ha (trivial) ?_
          refine op1_val (ex_lenO rfl (h12.at h21 h22) Try.underlying25) ?_
          exact ⟨_, Stp.refl _ _ _, rfl⟩
        · rintro o142 w143 a144 ha ⟨hB, h10, h12⟩ ⟨r145, -⟩
          have ha := Fr.cons (d := 13) ha r145
          refine opS_of ha (trivial) ?_
          refine op1_val (ex_gtr rfl rfl) ?_
          exact ⟨_, Stp.refl _ _ _, rfl⟩
        · rintro o146 w147 a148 ha ⟨hB, h10, h12⟩ ⟨r149, -⟩
          have ha := Fr.cons (d := 14) ha r149
          refine opS_of ha (trivial) ?_
          refine op1_val (ex_move rfl) ?_
          exact ⟨_, Stp.refl _ _ _, rfl⟩
        · rintro o150 w151 a152 ha ⟨hB, h10, h12⟩ ⟨r153, -⟩
          have ha := Fr.cons (d := 15) ha r153
          exact opS_no ha rfl rfl rfl (by rw [t32]; rfl) ⟨_, Stp.refl _ _ _, rfl⟩
        · rintro o154 w155 a156 ha ⟨hB, h10, h12⟩ ⟨r157, -⟩
          have ha := Fr.cons (d := 15) ha r157
          exact opS_no ha rfl rfl rfl (by rw [t32]; rfl) ⟨_, Stp.refl _ _ _, rfl⟩
        · rintro o158 w159 a160 ha ⟨hB, h10, h12⟩ ⟨r161, -⟩
          have ha := Fr.cons (d := 15) ha r161
          exact opS_no ha rfl rfl rfl (by rw [t32]; rfl) ⟨_, Stp.refl _ _ _, rfl⟩
        · rintro o162 w163 a164 ha ⟨hB, h10, h12⟩ ⟨r165, -⟩
          have ha := Fr.cons (d := 15) ha r165
          exact opS_no ha rfl rfl rfl (by rw [t32]; rfl) ⟨_, Stp.refl _ _ _, rfl⟩
        · rintro o166 w167 a168 ha ⟨hB, h10, h12⟩ ⟨r169, -⟩
          have ha := Fr.cons (d := 15) ha r169
          exact opS_no ha rfl rfl rfl (by rw [t32]; rfl) ⟨_, Stp.refl _ _ _, rfl⟩
        · rintro o170 w171 a172 ha ⟨hB, h10, h12⟩ ⟨r173, -⟩
          have ha := Fr.cons (d := 15) ha r173
          exact opS_no ha rfl rfl rfl (by rw [t32]; rfl) ⟨_, Stp.refl _ _ _, rfl⟩
        · rintro o174 w175 a176 ha ⟨hB, h10, h12⟩ ⟨r177, -⟩
          have ha := Fr.cons (d := 15) ha r177
          exact opS_no ha rfl rfl rfl (by rw [t32]; rfl) ⟨_, Stp.refl _ _ _, rfl⟩
        · rintro o178 w179 a180 ha ⟨hB, h10, h12⟩ ⟨r181, -⟩
          have ha := Fr.cons (d := 15) ha r181
          exact opS_no ha rfl rfl rfl (by rw [t32]; rfl) ⟨_, Stp.refl _ _ _, rfl⟩
      rintro o182 w183 a184 ha ⟨hB, h10, h12⟩ ⟨-, -, -, r185, r186, -, -, -, r187, -, -, r188, -⟩
      have ha := Fr.cons (d := 15) ha r185
      have ha := Fr.cons (d := 16) ha r186
      have ha := Fr.cons (d := 20) ha r187
      have ha := Fr.cons (d := 23) ha r188
      refine wl_of ha ?_
      simp only [List.length_cons, List.length_nil, Nat.zero_add, Nat.reduceAdd, List.drop_succ_cons, List.drop_zero]
      refine st_no rfl rfl (by rw [t32]; rfl) (by decide) ?_
      refine st_no rfl rfl (by rw [t32]; rfl) (by decide) ?_
      refine st_val (ex_pick_f (congrArg (fun b => some (Value.bool b)) t32) rfl) (by decide) trivial ?_
      refine st_val (ex_assign rfl) (by decide) trivial ?_
      have e189 := Option.some.inj hq28
      subst e189
      refine wpF_end (r := [(5, (.bool false))]) ⟨rfl, trivial⟩ ?_
      refine np_norm (fun a ha => ⟨o182, ha, hB⟩)
  rintro a190 w30 ⟨o29, ha, hB⟩
  refine ap_k ha ?_
  refine nx ?_
  refine wpC_ret ?_
  have e191 := Option.some.inj hF
  subst e191
  refine ret_post (P := Try.prog) (vs := [(.bool q28)]) Try.results149 ⟨rfl, trivial⟩ ?_
  exact ⟨rfl, hB.keeps⟩

def fI_rootedFault (fuel : Nat) (p0 : T_RootedProblem) (p1 : List Int) (p2 : List Int) : Option Int :=
  (fI_numbersTo (p1.length : Int)) >>= fun x18 =>
  (fX_slices_IndexFunc_int_int x18 (fun z27 => fI_rootedFault_1 fuel z27 p1 p0 p2)) >>= fun x28 =>
  some x28

def pI_rootedFault (w : World) (r : Int) : Ending → World → Prop := fun e w' => e = .returned (.int .i64 r) ∧ Keeps w w'
set_option maxRecDepth 100000 in
set_option maxHeartbeats 2000000 in
theorem cI_rootedFault (fuel : Nat) (w : World) (u0 : List Value) (p0 : T_RootedProblem) (g0 : Rp.rd zt w u0 p0) (u1 : Value) (p1 : List Int) (g1 : RdL zt w u1 p1) (u2 : Value) (p2 : List Int) (g2 : RdL zt w u2 p2) (r : Int) (hF : fI_rootedFault fuel p0 p1 p2 = some r) :
    Calls Try.prog 97 #[.agg u0.toArray, u1, u2] w (pI_rootedFault w r) := by
  unfold fI_rootedFault at hF
  obtain ⟨v1, rfl, h2⟩ := g0
  have hB : Bs (fun _ => 1) (col (fun _ => 1)) w w := Bs.start _ _
  refine calls_start (n := 12) (vs := [(.agg #[(.int .i64 p0.Labels), (.int .i64 p0.Children), v1]), u1, u2]) Try.func97 rfl rfl ?_
  refine wpC_seq ?_
  refine wpC_region ?_
  refine st_op (by decide) trivial ?_
  refine wf_box (o := (col (fun _ => 1))) w.heap.size 11 hB.keeps.size (cs := [(.int .i64 p0.Labels), (.int .i64 p0.Children), v1]) rfl rfl ?_
  intro o3 w4 b5 h6 s7
  replace hB := hB.stp s7 (by decide)
  refine st_op (by decide) trivial ?_
  refine wf_box (o := o3) w.heap.size 12 hB.keeps.size (cs := [u1]) g1.cells1 rfl ?_
  intro o8 w9 b10 h11 s12
  replace h6 := h6.stp s12 (by decide)
  replace hB := hB.stp s12 (by decide)
  refine st_op (by decide) trivial ?_
  refine wf_box (o := o8) w.heap.size 13 hB.keeps.size (cs := [u2]) g2.cells1 rfl ?_
  intro o13 w14 b15 h16 s17
  replace h6 := h6.stp s17 (by decide)
  replace h11 := h11.stp s17 (by decide)
  replace hB := hB.stp s17 (by decide)
  refine st_val (ex_assign rfl) (by decide) trivial ?_
  refine wpF_end (r := [(3, (.pointer (some ⟨b5, 0, none⟩))), (4, (.pointer (some ⟨b10, 0, none⟩))), (5, (.pointer (some ⟨b15, 0, none⟩)))]) ⟨rfl, rfl, rfl, trivial⟩ ?_
  refine nx ?_
  refine wpC_seq ?_
  refine wpC_region ?_
  refine st_val (ex_load1 rfl Try.isAgg25 (h11.cell rfl)) (by decide) trivial ?_
  refine st_val (ex_lenR rfl g1 Try.underlying25) (by decide) trivial ?_
  obtain ⟨x18, hx18, hF⟩ := bind_some hF
  refine st_op (by decide) trivial ?_
  refine wf_call (cI_numbersTo w14 o13 14 (by decide) (p1.length : Int) x18 hx18) Try.call148 ⟨rfl, trivial⟩ ?_
  rintro e25 w19 ⟨v20, o26, rfl, h21, k22, k23⟩
  have s24 := k22.stp' 14 k23
  replace h21 := h21.mono hB.keeps.size
  refine ⟨_, rfl, ?_⟩
  replace h6 := h6.stp s24 (by decide)
  replace h11 := h11.stp s24 (by decide)
  replace h16 := h16.stp s24 (by decide)
  replace hB := hB.stp s24 (by decide)
  refine st_val (ex_func (vs := [(.pointer (some ⟨b10, 0, none⟩)), (.pointer (some ⟨b5, 0, none⟩)), (.pointer (some ⟨b15, 0, none⟩))]) ⟨rfl, rfl, rfl, trivial⟩) (by decide) trivial ?_
  obtain ⟨x28, hx28, hF⟩ := bind_some hF
  refine st_op (by decide) trivial ?_
  refine wf_call (cX_slices_IndexFunc_int_int w19 _ x18 h21.z _ (fun z27 => fI_rootedFault_1 fuel z27 p1 p0 p2) (show FnV Try.prog w19 (.func (.func 149) #[] #[(.pointer (some ⟨b10, 0, none⟩)), (.pointer (some ⟨b5, 0, none⟩)), (.pointer (some ⟨b15, 0, none⟩))]) (fun z27 => fI_rootedFault_1 fuel z27 p1 p0 p2) from ⟨_, _, rfl, Try.call149, fun ww vs xx rr kk hok hG => by (cases hok; exact cI_rootedFault_1 fuel ww xx b10 _ p1 ((h11.cells).keep kk) (Rp.keep ((show Rp.rd zt w19 [u1] (p1 : List Int) from rd_list (g1.keep hB.keeps))) kk) b5 _ p0 ((h6.cells).keep kk) (Rp.keep ((show Rp.rd zt w19 [(.int .i64 p0.Labels), (.int .i64 p0.Children), v1] (p0 : T_RootedProblem) from ⟨_, rfl, (h2.keep hB.keeps)⟩)) kk) b15 _ p2 ((h16.cells).keep kk) (Rp.keep ((show Rp.rd zt w19 [u2] (p2 : List Int) from rd_list (g2.keep hB.keeps))) kk) rr hG)⟩) x28 hx28) Try.call147 ⟨rfl, rfl, trivial⟩ ?_
  rintro e33 w29 ⟨rfl, k30⟩
  have s32 := k30.stp 999 o26
  refine ⟨_, rfl, ?_⟩
  replace h21 := h21.stp s32 (by decide) (by decide)
  replace h6 := h6.stp s32 (by decide)
  replace h11 := h11.stp s32 (by decide)
  replace h16 := h16.stp s32 (by decide)
  replace hB := hB.stp s32 (by decide)
  refine st_val (ex_assign rfl) (by decide) trivial ?_
  refine wpF_end (r := [(6, (.int .i64 x28))]) ⟨rfl, trivial⟩ ?_
  refine nx ?_
  refine wpC_ret ?_
  have e34 := Option.some.inj hF
  subst e34
  refine ret_post (P := Try.prog) (vs := [(.int .i64 x28)]) Try.results97 ⟨rfl, trivial⟩ ?_
  exact ⟨rfl, hB.keeps⟩

def fI_IsRootedSolution (fuel : Nat) (p0 : T_RootedProblem) (p1 : List Int) (p2 : List Int) : Option (Bool × Bool) :=
  (fI_rootedOk fuel p0 p1) >>= fun x8 =>
  (
    if !x8 then
      some true
    else
      if (p2.length : Int) != (p1.length : Int) then
        some true
      else
        (fI_RootedProblem_hasLabels p0 p2) >>= fun x19 =>
        some (!x19)) >>= fun q14 =>
  if q14 then
    some (false, false)
  else
    (fI_rootedFault fuel p0 p1 p2) >>= fun x30 =>
    some (decide (x30 < 0), true)

def pI_IsRootedSolution (w : World) (r : Bool × Bool) : Ending → World → Prop := fun e w' => e = .returned (.tuple #[.bool r.1, .bool r.2]) ∧ Keeps w w'
set_option maxRecDepth 100000 in
set_option maxHeartbeats 2000000 in
theorem cI_IsRootedSolution (fuel : Nat) (w : World) (u0 : List Value) (p0 : T_RootedProblem) (g0 : Rp.rd zt w u0 p0) (u1 : Value) (p1 : List Int) (g1 : RdL zt w u1 p1) (u2 : Value) (p2 : List Int) (g2 : RdL zt w u2 p2) (r : Bool × Bool) (hF : fI_IsRootedSolution fuel p0 p1 p2 = some r) :
    Calls Try.prog 45 #[.agg u0.toArray, u1, u2] w (pI_IsRootedSolution w r) := by
  unfold fI_IsRootedSolution at hF
  obtain ⟨v1, rfl, h2⟩ := g0
  have hB : Bs (fun _ => 1) (col (fun _ => 1)) w w := Bs.start _ _
  refine calls_start (n := 30) (vs := [(.agg #[(.int .i64 p0.Labels), (.int .i64 p0.Children), v1]), u1, u2]) Try.func45 rfl rfl ?_
  refine wpC_seq ?_
  refine wpC_region ?_
  refine st_op (by decide) trivial ?_
  refine wf_box (o := (col (fun _ => 1))) w.heap.size 11 hB.keeps.size (cs := [(.int .i64 p0.Labels), (.int .i64 p0.Children), v1]) rfl rfl ?_
  intro o3 w4 b5 h6 s7
  replace hB := hB.stp s7 (by decide)
  refine st_val (ex_assign rfl) (by decide) trivial ?_
  refine st_val (ex_assign rfl) (by decide) trivial ?_
  refine wpF_end (r := [(1, u1), (2, u2), (3, (.pointer (some ⟨b5, 0, none⟩)))]) ⟨rfl, rfl, rfl, trivial⟩ ?_
  refine nx ?_
  refine wpC_seq ?_
  refine wpC_seq ?_
  refine wpC_region ?_
  refine st_val (ex_loadA rfl Try.isAgg64 Try.sizeOf64 rfl h6.cells) (by decide) trivial ?_
  refine st_val (ex_move rfl) (by decide) trivial ?_
  obtain ⟨x8, hx8, hF⟩ := bind_some hF
  refine st_op (by decide) trivial ?_
  refine wf_call (cI_rootedOk fuel w4 _ p0 (⟨_, rfl, (h2.keep hB.keeps)⟩) _ p1 (g1.keep hB.keeps) x8 hx8) Try.call95 ⟨rfl, rfl, trivial⟩ ?_
  rintro e13 w9 ⟨rfl, k10⟩
  have s12 := k10.stp 999 o3
  refine ⟨_, rfl, ?_⟩
  replace h6 := h6.stp s12 (by decide)
  replace hB := hB.stp s12 (by decide)
  refine st_val (ex_not rfl) (by decide) trivial ?_
  refine st_val (ex_move rfl) (by decide) trivial ?_
  obtain ⟨q14, hq14, hF⟩ := bind_some hF
  refine wpF_cutAt 12 (fun a16 w15 => Fr a16 30 [(1, u1), (2, u2), (3, (.pointer (some ⟨b5, 0, none⟩))), (24, (.bool q14))] ∧ Keeps w9 w15) ?_ ?_
  all_goals simp only [List.take_succ_cons, List.take_zero, List.drop_succ_cons, List.drop_zero]
  · have kp : Keeps w9 w9 := Keeps.refl _
    rcases Bool.eq_false_or_eq_true (!x8) with t17 | t17
    · rw [if_pos t17] at hq14
      refine st_no rfl rfl (by rw [t17]; rfl) (by decide) ?_
      refine st_no rfl rfl (by rw [t17]; rfl) (by decide) ?_
      refine st_no rfl rfl (by rw [t17]; rfl) (by decide) ?_
      refine st_no rfl rfl (by rw [t17]; rfl) (by decide) ?_
      refine st_no rfl rfl (by rw [t17]; rfl) (by decide) ?_
      refine st_val (ex_pick_t (congrArg (fun b => some (Value.bool b)) t17) rfl) (by decide) trivial ?_
      refine st_val (ex_move rfl) (by decide) trivial ?_
      refine st_no rfl rfl rfl (by decide) ?_
      refine st_no rfl rfl rfl (by decide) ?_
      refine st_no rfl rfl rfl (by decide) ?_
      refine st_no rfl rfl rfl (by decide) ?_
      refine st_val (ex_pick_t rfl rfl) (by decide) trivial ?_
      have hq142 := Option.some.inj hq14
      refine wpF_end (r := [(1, u1), (2, u2), (3, (.pointer (some ⟨b5, 0, none⟩))), (24, (.bool true))]) ⟨rfl, rfl, rfl, rfl, trivial⟩ ?_
      subst hq142
      refine np_norm (fun a ha => ⟨ha, kp⟩)
    · rw [if_neg (by rw [t17]; decide)] at hq14
      refine st_val (ex_move rfl) (by decide) ⟨_, rfl, (congrArg (fun b => some (Value.bool b)) t17)⟩ ?_
      refine st_val (ex_lenR rfl g2 Try.underlying25) (by decide) ⟨_, rfl, (congrArg (fun b => some (Value.bool b)) t17)⟩ ?_
      refine st_val (ex_move rfl) (by decide) ⟨_, rfl, (congrArg (fun b => some (Value.bool b)) t17)⟩ ?_
      refine st_val (ex_lenR rfl g1 Try.underlying25) (by decide) ⟨_, rfl, (congrArg (fun b => some (Value.bool b)) t17)⟩ ?_
      refine st_val (ex_neq rfl rfl) (by decide) ⟨_, rfl, (congrArg (fun b => some (Value.bool b)) t17)⟩ ?_
      refine st_val (ex_pick_f (congrArg (fun b => some (Value.bool b)) t17) rfl) (by decide) trivial ?_
      refine st_val (ex_move rfl) (by decide) trivial ?_
      rcases Bool.eq_false_or_eq_true ((p2.length : Int) != (p1.length : Int)) with t18 | t18
      · rw [if_pos t18] at hq14
        refine st_no rfl rfl (by rw [t18]; rfl) (by decide) ?_
        refine st_no rfl rfl (by rw [t18]; rfl) (by decide) ?_
        refine st_no rfl rfl (by rw [t18]; rfl) (by decide) ?_
        refine st_no rfl rfl (by rw [t18]; rfl) (by decide) ?_
        refine st_val (ex_pick_t (congrArg (fun b => some (Value.bool b)) t18) rfl) (by decide) trivial ?_
        have hq142 := Option.some.inj hq14
        refine wpF_end (r := [(1, u1), (2, u2), (3, (.pointer (some ⟨b5, 0, none⟩))), (24, (.bool true))]) ⟨rfl, rfl, rfl, rfl, trivial⟩ ?_
        subst hq142
        refine np_norm (fun a ha => ⟨ha, kp⟩)
      · rw [if_neg (by rw [t18]; decide)] at hq14
        refine st_val (ex_loadA rfl Try.isAgg64 Try.sizeOf64 rfl h6.cells) (by decide) ⟨_, rfl, (congrArg (fun b => some (Value.bool b)) t18)⟩ ?_
        refine st_val (ex_move rfl) (by decide) ⟨_, rfl, (congrArg (fun b => some (Value.bool b)) t18)⟩ ?_
        obtain ⟨x19, hx19, hq14⟩ := bind_some hq14
        refine st_op (by decide) ⟨_, rfl, (congrArg (fun b => some (Value.bool b)) t18)⟩ ?_
        refine wf_call (cI_RootedProblem_hasLabels w9 _ p0 (⟨_, rfl, (h2.keep hB.keeps)⟩) _ p2 (g2.keep hB.keeps) x19 hx19) Try.call96 ⟨rfl, rfl, trivial⟩ ?_
        rintro e24 w20 ⟨rfl, k21⟩
        have s23 := k21.stp 999 o3
        refine ⟨_, rfl, ?_⟩
        replace h6 := h6.stp s23 (by decide)
        replace hB := hB.stp s23 (by decide)
        replace kp := Keeps.trans kp k21
        refine st_val (ex_not rfl) (by decide) ⟨_, rfl, (congrArg (fun b => some (Value.bool b)) t18)⟩ ?_
        refine st_val (ex_pick_f (congrArg (fun b => some (Value.bool b)) t18) rfl) (by decide) trivial ?_
        have hq142 := Option.some.inj hq14
        refine wpF_end (r := [(1, u1), (2, u2), (3, (.pointer (some ⟨b5, 0, none⟩))), (24, (.bool (!x19)))]) ⟨rfl, rfl, rfl, rfl, trivial⟩ ?_
        subst hq142
        refine np_norm (fun a ha => ⟨ha, kp⟩)
  rintro a27 w15 ⟨ha, k25⟩
  have s26 := k25.stp 999 o3
  replace h6 := h6.stp s26 (by decide)
  replace hB := hB.stp s26 (by decide)
  refine wl_of ha ?_
  refine wpF_end (r := [(1, u1), (2, u2), (3, (.pointer (some ⟨b5, 0, none⟩))), (24, (.bool q14))]) ⟨rfl, rfl, rfl, rfl, trivial⟩ ?_
  refine nx ?_
  refine wpC_cond rfl (fun t28 => ?_) (fun t28 => ?_)
  · rw [if_pos t28] at hF
    refine wpC_seq ?_
    refine wpC_region ?_
    refine st_val (ex_assign rfl) (by decide) trivial ?_
    refine st_val (ex_assign rfl) (by decide) trivial ?_
    refine wpF_end (r := [(6, (.bool false)), (7, (.bool false))]) ⟨rfl, rfl, trivial⟩ ?_
    refine nx ?_
    refine wpC_ret ?_
    refine nt_ret ?_
    have e29 := Option.some.inj hF
    subst e29
    refine ret_post (P := Try.prog) (vs := [(.bool false), (.bool false)]) Try.results45 ⟨rfl, rfl, trivial⟩ ?_
    exact ⟨rfl, hB.keeps⟩
  · rw [if_neg (by rw [t28]; decide)] at hF
    refine wpC_skip ?_
    refine nx ?_
    refine wpC_seq ?_
    refine wpC_region ?_
    refine st_val (ex_loadA rfl Try.isAgg64 Try.sizeOf64 rfl h6.cells) (by decide) trivial ?_
    refine st_val (ex_move rfl) (by decide) trivial ?_
    refine st_val (ex_move rfl) (by decide) trivial ?_
    obtain ⟨x30, hx30, hF⟩ := bind_some hF
    refine st_op (by decide) trivial ?_
    refine wf_call (cI_rootedFault fuel w15 _ p0 (⟨_, rfl, (h2.keep hB.keeps)⟩) _ p1 (g1.keep hB.keeps) _ p2 (g2.keep hB.keeps) x30 hx30) Try.call97 ⟨rfl, rfl, rfl, trivial⟩ ?_
    rintro e35 w31 ⟨rfl, k32⟩
    have s34 := k32.stp 999 o3
    refine ⟨_, rfl, ?_⟩
    replace h6 := h6.stp s34 (by decide)
    replace hB := hB.stp s34 (by decide)
    refine st_val (ex_lss rfl rfl) (by decide) trivial ?_
    refine st_val (ex_assign rfl) (by decide) trivial ?_
    refine st_val (ex_assign rfl) (by decide) trivial ?_
    refine wpF_end (r := [(6, (.bool (decide (x30 < 0)))), (7, (.bool true))]) ⟨rfl, rfl, trivial⟩ ?_
    refine nx ?_
    refine wpC_ret ?_
    have e36 := Option.some.inj hF
    subst e36
    refine ret_post (P := Try.prog) (vs := [(.bool (decide (x30 < 0))), (.bool true)]) Try.results45 ⟨rfl, rfl, trivial⟩ ?_
    exact ⟨rfl, hB.keeps⟩

def fI_FirstRootedFault (fuel : Nat) (p0 : T_RootedProblem) (p1 : List Int) (p2 : List Int) : Option (Int × Bool) :=
  (fI_IsRootedSolution fuel p0 p1 p2) >>= fun x8 =>
  (
    if !x8.2 then
      some true
    else
      some x8.1) >>= fun q14 =>
  if q14 then
    some (0, false)
  else
    (fI_rootedFault fuel p0 p1 p2) >>= fun x23 =>
    some (x23, true)

def pI_FirstRootedFault (w : World) (r : Int × Bool) : Ending → World → Prop := fun e w' => e = .returned (.tuple #[.int .i64 r.1, .bool r.2]) ∧ Keeps w w'
set_option maxRecDepth 100000 in
set_option maxHeartbeats 2000000 in
theorem cI_FirstRootedFault (fuel : Nat) (w : World) (u0 : List Value) (p0 : T_RootedProblem) (g0 : Rp.rd zt w u0 p0) (u1 : Value) (p1 : List Int) (g1 : RdL zt w u1 p1) (u2 : Value) (p2 : List Int) (g2 : RdL zt w u2 p2) (r : Int × Bool) (hF : fI_FirstRootedFault fuel p0 p1 p2 = some r) :
    Calls Try.prog 48 #[.agg u0.toArray, u1, u2] w (pI_FirstRootedFault w r) := by
  unfold fI_FirstRootedFault at hF
  obtain ⟨v1, rfl, h2⟩ := g0
  have hB : Bs (fun _ => 1) (col (fun _ => 1)) w w := Bs.start _ _
  refine calls_start (n := 26) (vs := [(.agg #[(.int .i64 p0.Labels), (.int .i64 p0.Children), v1]), u1, u2]) Try.func48 rfl rfl ?_
  refine wpC_seq ?_
  refine wpC_region ?_
  refine st_op (by decide) trivial ?_
  refine wf_box (o := (col (fun _ => 1))) w.heap.size 11 hB.keeps.size (cs := [(.int .i64 p0.Labels), (.int .i64 p0.Children), v1]) rfl rfl ?_
  intro o3 w4 b5 h6 s7
  replace hB := hB.stp s7 (by decide)
  refine st_val (ex_assign rfl) (by decide) trivial ?_
  refine st_val (ex_assign rfl) (by decide) trivial ?_
  refine wpF_end (r := [(1, u1), (2, u2), (3, (.pointer (some ⟨b5, 0, none⟩)))]) ⟨rfl, rfl, rfl, trivial⟩ ?_
  refine nx ?_
  refine wpC_seq ?_
  refine wpC_region ?_
  refine st_val (ex_loadA rfl Try.isAgg64 Try.sizeOf64 rfl h6.cells) (by decide) trivial ?_
  refine st_val (ex_move rfl) (by decide) trivial ?_
  refine st_val (ex_move rfl) (by decide) trivial ?_
  obtain ⟨x8, hx8, hF⟩ := bind_some hF
  refine st_op (by decide) trivial ?_
  refine wf_call (cI_IsRootedSolution fuel w4 _ p0 (⟨_, rfl, (h2.keep hB.keeps)⟩) _ p1 (g1.keep hB.keeps) _ p2 (g2.keep hB.keeps) x8 hx8) Try.call45 ⟨rfl, rfl, rfl, trivial⟩ ?_
  rintro e13 w9 ⟨rfl, k10⟩
  have s12 := k10.stp 999 o3
  refine ⟨_, rfl, ?_⟩
  replace h6 := h6.stp s12 (by decide)
  replace hB := hB.stp s12 (by decide)
  refine st_val (ex_move rfl) (by decide) trivial ?_
  refine st_val (ex_extract rfl rfl) (by decide) trivial ?_
  refine st_val (ex_extract rfl rfl) (by decide) trivial ?_
  refine st_val (ex_assign rfl) (by decide) trivial ?_
  refine st_val (ex_assign rfl) (by decide) trivial ?_
  refine wpF_end (r := [(1, u1), (2, u2), (3, (.pointer (some ⟨b5, 0, none⟩))), (8, (.bool x8.1)), (9, (.bool x8.2))]) ⟨rfl, rfl, rfl, rfl, rfl, trivial⟩ ?_
  refine nx ?_
  refine wpC_seq ?_
  refine wpC_seq ?_
  refine wpC_region ?_
  refine st_val (ex_move rfl) (by decide) trivial ?_
  refine st_val (ex_not rfl) (by decide) trivial ?_
  refine st_val (ex_move rfl) (by decide) trivial ?_
  obtain ⟨q14, hq14, hF⟩ := bind_some hF
  refine wpF_cutAt 2 (fun a16 w15 => Fr a16 26 [(1, u1), (2, u2), (3, (.pointer (some ⟨b5, 0, none⟩))), (21, (.bool q14))] ∧ Keeps w9 w15) ?_ ?_
  all_goals simp only [List.take_succ_cons, List.take_zero, List.drop_succ_cons, List.drop_zero]
  · have kp : Keeps w9 w9 := Keeps.refl _
    rcases Bool.eq_false_or_eq_true (!x8.2) with t17 | t17
    · rw [if_pos t17] at hq14
      refine st_no rfl rfl (by rw [t17]; rfl) (by decide) ?_
      refine st_val (ex_pick_t (congrArg (fun b => some (Value.bool b)) t17) rfl) (by decide) trivial ?_
      have hq142 := Option.some.inj hq14
      refine wpF_end (r := [(1, u1), (2, u2), (3, (.pointer (some ⟨b5, 0, none⟩))), (21, (.bool true))]) ⟨rfl, rfl, rfl, rfl, trivial⟩ ?_
      subst hq142
      refine np_norm (fun a ha => ⟨ha, kp⟩)
    · rw [if_neg (by rw [t17]; decide)] at hq14
      refine st_val (ex_move rfl) (by decide) ⟨_, rfl, (congrArg (fun b => some (Value.bool b)) t17)⟩ ?_
      refine st_val (ex_pick_f (congrArg (fun b => some (Value.bool b)) t17) rfl) (by decide) trivial ?_
      have hq142 := Option.some.inj hq14
      refine wpF_end (r := [(1, u1), (2, u2), (3, (.pointer (some ⟨b5, 0, none⟩))), (21, (.bool x8.1))]) ⟨rfl, rfl, rfl, rfl, trivial⟩ ?_
      subst hq142
      refine np_norm (fun a ha => ⟨ha, kp⟩)
  rintro a20 w15 ⟨ha, k18⟩
  have s19 := k18.stp 999 o3
  replace h6 := h6.stp s19 (by decide)
  replace hB := hB.stp s19 (by decide)
  refine wl_of ha ?_
  refine wpF_end (r := [(1, u1), (2, u2), (3, (.pointer (some ⟨b5, 0, none⟩))), (21, (.bool q14))]) ⟨rfl, rfl, rfl, rfl, trivial⟩ ?_
  refine nx ?_
  refine wpC_cond rfl (fun t21 => ?_) (fun t21 => ?_)
  · rw [if_pos t21] at hF
    refine wpC_seq ?_
    refine wpC_region ?_
    refine st_val (ex_assign rfl) (by decide) trivial ?_
    refine st_val (ex_assign rfl) (by decide) trivial ?_
    refine wpF_end (r := [(6, (.int .i64 0)), (7, (.bool false))]) ⟨rfl, rfl, trivial⟩ ?_
    refine nx ?_
    refine wpC_ret ?_
    refine nt_ret ?_
    have e22 := Option.some.inj hF
    subst e22
    refine ret_post (P := Try.prog) (vs := [(.int .i64 0), (.bool false)]) Try.results48 ⟨rfl, rfl, trivial⟩ ?_
    exact ⟨rfl, hB.keeps⟩
  · rw [if_neg (by rw [t21]; decide)] at hF
    refine wpC_skip ?_
    refine nx ?_
    refine wpC_seq ?_
    refine wpC_region ?_
    refine st_val (ex_loadA rfl Try.isAgg64 Try.sizeOf64 rfl h6.cells) (by decide) trivial ?_
    refine st_val (ex_move rfl) (by decide) trivial ?_
    refine st_val (ex_move rfl) (by decide) trivial ?_
    obtain ⟨x23, hx23, hF⟩ := bind_some hF
    refine st_op (by decide) trivial ?_
    refine wf_call (cI_rootedFault fuel w15 _ p0 (⟨_, rfl, (h2.keep hB.keeps)⟩) _ p1 (g1.keep hB.keeps) _ p2 (g2.keep hB.keeps) x23 hx23) Try.call97 ⟨rfl, rfl, rfl, trivial⟩ ?_
    rintro e28 w24 ⟨rfl, k25⟩
    have s27 := k25.stp 999 o3
    refine ⟨_, rfl, ?_⟩
    replace h6 := h6.stp s27 (by decide)
    replace hB := hB.stp s27 (by decide)
    refine st_val (ex_assign rfl) (by decide) trivial ?_
    refine st_val (ex_assign rfl) (by decide) trivial ?_
    refine wpF_end (r := [(6, (.int .i64 x23)), (7, (.bool true))]) ⟨rfl, rfl, trivial⟩ ?_
    refine nx ?_
    refine wpC_ret ?_
    have e29 := Option.some.inj hF
    subst e29
    refine ret_post (P := Try.prog) (vs := [(.int .i64 x23), (.bool true)]) Try.results48 ⟨rfl, rfl, trivial⟩ ?_
    exact ⟨rfl, hB.keeps⟩

end Go.Proofs.Ytiejigogmnkjdaa
