/- spec.waLoop, (impl.WalkProblem).loopOf$1, (impl.WalkProblem).loopOf: plain functions, and the walks that show that the program computes them (printed by gen.py). -/
import Derived.Test.YtffgdhbhlcifmaaGI
namespace Go.Proofs.Ytffgdhbhlcifmaa
open Go.RowKit
set_option linter.unusedSimpArgs false
set_option linter.unusedVariables false

def fS_waLoop_s1 : Int → (List Int) → Unit → Option (Lp Unit Unit Int) := fun (i10 : Int) (x20 : List Int) (s : Unit) =>
  (ix x20 0) >>= fun x28 =>
  (ix x20 1) >>= fun x31 =>
  if x28 == x31 then
    (ix x20 0) >>= fun x72 =>
    some (.ret x72)
  else
    some (.go ())
def fS_waLoop (p0 : T_WalkProblem) : Option Int :=
  (forI (fS_waLoop_s1) p0.Arcs 0 ()) >>= fun q11 =>
  match q11 with
  | .inl _ =>
    some (-1)
  | .inr r' => some r'

def pS_waLoop (w : World) (r : Int) : Ending → World → Prop := fun e w' => e = .returned (.int .i64 r) ∧ Keeps w w'
set_option maxRecDepth 100000 in
set_option maxHeartbeats 2000000 in
theorem cS_waLoop (w : World) (u0 : List Value) (p0 : T_WalkProblem) (g0 : Rp.rd zt w u0 p0) (r : Int) (hF : fS_waLoop p0 = some r) :
    Calls Try.prog 102 #[.agg u0.toArray] w (pS_waLoop w r) := by
  unfold fS_waLoop at hF
  obtain ⟨v1, rfl, h2⟩ := g0
  have hB : Bs (fun _ => 1) (col (fun _ => 1)) w w := Bs.start _ _
  refine calls_start (n := 23) (vs := [(.agg #[(.int .i64 p0.Labels), v1])]) Try.func102 rfl rfl ?_
  refine wpC_seq ?_
  refine wpC_region ?_
  refine st_op (by decide) trivial ?_
  refine wf_box (o := (col (fun _ => 1))) w.heap.size 11 hB.keeps.size (cs := [(.int .i64 p0.Labels), v1]) rfl rfl ?_
  intro o3 w4 b5 h6 s7
  replace hB := hB.stp s7 (by decide)
  refine st_val (ex_assign rfl) (by decide) trivial ?_
  refine wpF_end (r := [(1, (.pointer (some ⟨b5, 0, none⟩)))]) ⟨rfl, trivial⟩ ?_
  refine nx ?_
  refine wpC_seq ?_
  refine wpC_seq ?_
  refine wpC_region ?_
  refine st_val (ex_field rfl Try.underlying29 rfl Try.sizeOf22) (by decide) trivial ?_
  refine st_val (ex_load1 rfl Try.isAgg22 (h6.cell rfl)) (by decide) trivial ?_
  refine st_val (ex_lenR rfl h2 Try.underlying22) (by decide) trivial ?_
  refine st_val (ex_move rfl) (by decide) trivial ?_
  refine wpF_end (r := [(6, v1), (7, (.int .i64 (p0.Arcs.length : Int))), (8, (.int .i64 0))]) ⟨rfl, rfl, rfl, trivial⟩ ?_
  refine nx ?_
  obtain ⟨q11, hq11, hF⟩ := bind_some hF
  refine wpC_cutN (fun a w9 => ∃ (o8 : Tg), q11 = .inl () ∧ Fr a 23 [] ∧ Bs (fun _ => 1) o8 w w9) (fun a w' => ∃ r', q11 = .inr r' ∧ bodyPost Try.prog Try.f102 (pS_waLoop w r') .ret a w') ?_ ?_ ?_
  · refine wpC_block ?_
    refine wpC_loop (fun (K : Nat) a w9 => ∃ (i10 : Int) (o8 : Tg), forI (fS_waLoop_s1) (p0.Arcs.drop i10.toNat) i10 () = some q11 ∧ (p0.Arcs.drop i10.toNat).length = K ∧ 0 ≤ i10 ∧ Fr a 23 [(6, v1), (7, (.int .i64 (p0.Arcs.length : Int))), (8, (.int .i64 i10))] ∧ Bs (fun _ => 1) o8 w w9) _ (fun a ha => ⟨0, o3, hq11, rfl, Int.le_refl 0, ha.sub (r := [(6, v1), (7, (.int .i64 (p0.Arcs.length : Int))), (8, (.int .i64 0))]) ⟨rfl, rfl, rfl, trivial⟩, hB⟩) ?_
    rintro K15 a w9 ⟨i10, o8, l12, m14, z13, ha, hB⟩
    by_cases t19 : i10 < (p0.Arcs.length : Int)
    · obtain ⟨x20, q16, hx20, b17, n18⟩ := forI_cons z13 t19 l12
      have hle := h2.len_le
      dsimp only [fS_waLoop_s1] at b17
      refine wp_of ha ?_
      refine wpC_seq ?_
      refine wpC_region ?_
      refine st_val (ex_lss rfl rfl) (by decide) trivial ?_
      refine wpF_end (r := [(6, v1), (7, (.int .i64 (p0.Arcs.length : Int))), (8, (.int .i64 i10)), (9, (.bool (decide (i10 < (p0.Arcs.length : Int)))))]) ⟨rfl, rfl, rfl, rfl, trivial⟩ ?_
      refine nx ?_
      refine wpC_seq ?_
      refine wpC_true (congrArg (fun b => some (Value.bool b)) (decide_eq_true t19)) ?_
      refine wpC_skip ?_
      refine nx ?_
      refine wpC_seq ?_
      refine wpC_block ?_
      refine wpC_seq ?_
      refine wpC_region ?_
      refine st_op (by decide) trivial ?_
      refine wf_atZ h2 hx20 hB rfl rfl Try.underlying22 Try.sizeOf26 ?_
      intro b21 f22 c23 h24 h25
      obtain ⟨v26, rfl, h27⟩ := h25
      refine st_val (ex_load1 rfl Try.isAgg26 (cell_of_cells h24)) (by decide) trivial ?_
      refine st_val (ex_assign rfl) (by decide) trivial ?_
      refine wpF_end (r := [(4, v26), (6, v1), (7, (.int .i64 (p0.Arcs.length : Int))), (8, (.int .i64 i10))]) ⟨rfl, rfl, rfl, rfl, trivial⟩ ?_
      refine nx ?_
      refine wpC_seq ?_
      obtain ⟨x28, hx28, b17⟩ := bind_some b17
      obtain ⟨x31, hx31, b17⟩ := bind_some b17
      refine wpC_drawn (o := o8) [(4, v26), (6, v1), (7, (.int .i64 (p0.Arcs.length : Int))), (8, (.int .i64 i10))] [4, 6, 7, 8] [12, 13, 14, 15, 16, 17] [[], [0], [1], [], [3], [4]] [none, none, none, none, none, none] [999, 999, 999, 999, 999, 999] [0, 0, 0, 0, 0, 0] [999] [fun v _ _ => v = v26, fun v o w9 => ∃ vl, v = adr vl ((0 : Int).toNat * Rp.sz Int) ∧ RdL zt w vl x20, fun v _ _ => v = (.int .i64 x28), fun v _ _ => v = v26, fun v o w9 => ∃ vl, v = adr vl ((1 : Int).toNat * Rp.sz Int) ∧ RdL zt w vl x20, fun v _ _ => v = (.int .i64 x31)] (fun o8 w8 => Bs (fun _ => 1) o8 w w8) follows_mixed (by kernel_rfl) rfl ⟨rfl, rfl, rfl, rfl, trivial⟩ hB ?_ ⟨st_eq _, fun _ _ _ _ _ _ h0 hb ⟨vl, e, h⟩ hs => ⟨vl, e, h⟩, st_eq _, st_eq _, fun _ _ _ _ _ _ h0 hb ⟨vl, e, h⟩ hs => ⟨vl, e, h⟩, st_eq _, trivial⟩ ?_ ?_
      · rintro t9 o1 w1 o2 w2 ht9 hB hs9
        have ht9 : t9 = 999 := by simpa using ht9
        subst ht9
        all_goals exact hB.stp hs9 (by decide)
      · refine ⟨?_, ?_, ?_, ?_, ?_, ?_, trivial⟩
        · rintro o34 w35 a36 ha hB -
          refine opS_of ha (trivial) ?_
          refine op1_val (ex_move rfl) ?_
          exact ⟨_, Stp.refl _ _ _, rfl⟩
        · rintro o37 w38 a39 ha hB ⟨r40, -⟩
          have ha := Fr.cons (d := 12) ha r40
          refine opS_of ha (trivial) ?_
          refine wd_indexR h27 hx28 rfl rfl Try.underlying26 Try.sizeOf3 ?_
          exact ⟨_, Stp.refl _ _ _, ⟨_, rfl, h27⟩⟩
        · rintro o41 w42 a43 ha hB ⟨r44, -⟩
          obtain ⟨v45, e46, h47⟩ := r44
          have ha := Fr.cons (d := 13) ha e46
          refine opS_of ha (trivial) ?_
          refine wd_load1Z h47 hx28 hB rfl rfl Try.isAgg3 ?_
          intro c48 h49
          cases h49
          exact ⟨_, Stp.refl _ _ _, rfl⟩
        · rintro o50 w51 a52 ha hB -
          refine opS_of ha (trivial) ?_
          refine op1_val (ex_move rfl) ?_
          exact ⟨_, Stp.refl _ _ _, rfl⟩
        · rintro o53 w54 a55 ha hB ⟨r56, -⟩
          have ha := Fr.cons (d := 15) ha r56
          refine opS_of ha (trivial) ?_
          refine wd_indexR h27 hx31 rfl rfl Try.underlying26 Try.sizeOf3 ?_
          exact ⟨_, Stp.refl _ _ _, ⟨_, rfl, h27⟩⟩
        · rintro o57 w58 a59 ha hB ⟨r60, -⟩
          obtain ⟨v61, e62, h63⟩ := r60
          have ha := Fr.cons (d := 16) ha e62
          refine opS_of ha (trivial) ?_
          refine wd_load1Z h63 hx31 hB rfl rfl Try.isAgg3 ?_
          intro c64 h65
          cases h65
          exact ⟨_, Stp.refl _ _ _, rfl⟩
      rintro o66 w67 a68 ha hB ⟨-, -, r69, -, -, r70, -⟩
      have ha := Fr.cons (d := 14) ha r69
      have ha := Fr.cons (d := 17) ha r70
      refine wl_of ha ?_
      simp only [List.length_cons, List.length_nil, Nat.zero_add, Nat.reduceAdd, List.drop_succ_cons, List.drop_zero]
      refine st_val (ex_eql rfl rfl) (by decide) trivial ?_
      refine wpF_end (r := [(4, v26), (6, v1), (7, (.int .i64 (p0.Arcs.length : Int))), (8, (.int .i64 i10)), (18, (.bool (x28 == x31)))]) ⟨rfl, rfl, rfl, rfl, rfl, trivial⟩ ?_
      refine nx ?_
      refine wpC_cond rfl (fun t71 => ?_) (fun t71 => ?_)
      · rw [if_pos t71] at b17
        refine wpC_seq ?_
        refine wpC_region ?_
        refine st_val (ex_move rfl) (by decide) trivial ?_
        obtain ⟨x72, hx72, b17⟩ := bind_some b17
        refine st_op (by decide) trivial ?_
        refine wf_atZ h27 hx72 hB rfl rfl Try.underlying26 Try.sizeOf3 ?_
        intro b73 f74 c75 h76 h77
        cases h77
        refine st_val (ex_load1 rfl Try.isAgg3 (cell_of_cells h76)) (by decide) trivial ?_
        refine st_val (ex_assign rfl) (by decide) trivial ?_
        refine wpF_end (r := [(2, (.int .i64 x72))]) ⟨rfl, trivial⟩ ?_
        refine nx ?_
        refine wpC_ret ?_
        refine nb_ret ?_
        refine nt_ret ?_
        refine nt_ret ?_
        refine nb_ret ?_
        refine np_ret ?_
        have e78 := Option.some.inj b17
        subst e78
        refine fun a ha => ⟨_, n18, ?_⟩
        refine ret_post (P := Try.prog) (vs := [(.int .i64 x72)]) Try.results102 ⟨rfl, trivial⟩ ?_ a ha
        exact ⟨rfl, hB.keeps⟩
      · rw [if_neg (by rw [t71]; decide)] at b17
        refine wpC_skip ?_
        refine nb_norm ?_
        refine nx ?_
        refine wpC_region ?_
        refine st_val (ex_add rfl rfl (ck_in (by omega) (by omega))) (by decide) trivial ?_
        refine st_val (ex_move rfl) (by decide) trivial ?_
        refine wpF_end (r := [(6, v1), (7, (.int .i64 (p0.Arcs.length : Int))), (8, (.int .i64 (i10 + 1)))]) ⟨rfl, rfl, rfl, trivial⟩ ?_
        refine nt_norm ?_
        have e79 := Option.some.inj b17
        subst e79
        refine to_k (r := [(6, v1), (7, (.int .i64 (p0.Arcs.length : Int))), (8, (.int .i64 (i10 + 1)))]) ⟨rfl, rfl, rfl, trivial⟩ ?_
        intro a ha
        exact ⟨_, (by rw [← m14]; simp only [List.length_drop]; omega), i10 + 1, o66, n18, rfl, (by omega), ha, hB⟩
    · have r80 := forI_done t19 l12
      refine wp_of ha ?_
      refine wpC_seq ?_
      refine wpC_region ?_
      refine st_val (ex_lss rfl rfl) (by decide) trivial ?_
      refine wpF_end (r := [(6, v1), (7, (.int .i64 (p0.Arcs.length : Int))), (8, (.int .i64 i10)), (9, (.bool (decide (i10 < (p0.Arcs.length : Int)))))]) ⟨rfl, rfl, rfl, rfl, trivial⟩ ?_
      refine nx ?_
      refine wpC_seq ?_
      refine wpC_false (congrArg (fun b => some (Value.bool b)) (decide_eq_false t19)) ?_
      refine wpC_exit ?_
      refine nt_exit ?_
      refine nt_exit ?_
      refine nb_hit ?_
      refine np_norm ?_
      refine to_k (r := []) trivial ?_
      intro a ha
      exact ⟨o8, r80, ha, hB⟩
  · rintro a w9 ⟨o8, rfl, ha, hB⟩
    dsimp only at hF
    refine ap_k ha ?_
    refine nx ?_
    refine wpC_seq ?_
    refine wpC_region ?_
    refine st_val (ex_assign rfl) (by decide) trivial ?_
    refine wpF_end (r := [(2, (.int .i64 (-1)))]) ⟨rfl, trivial⟩ ?_
    refine nx ?_
    refine wpC_ret ?_
    have e81 := Option.some.inj hF
    subst e81
    refine ret_post (P := Try.prog) (vs := [(.int .i64 (-1))]) Try.results102 ⟨rfl, trivial⟩ ?_
    exact ⟨rfl, hB.keeps⟩
  · rintro a w9 ⟨r', rfl, b82⟩
    dsimp only at hF
    have e83 := Option.some.inj hF
    subst e83
    exact b82

def fI_WalkProblem_loopOf_1 (p0 : Int) (p1 : T_WalkProblem) : Option Bool :=
  (fI_WalkProblem_after p1) >>= fun x3 =>
  (ix x3 p0) >>= fun x12 =>
  (shr x12 p0) >>= fun x18 =>
  some ((band x18 1) == 1)

def pI_WalkProblem_loopOf_1 (w : World) (r : Bool) : Ending → World → Prop := fun e w' => e = .returned (.bool r) ∧ Keeps w w'
set_option maxRecDepth 100000 in
set_option maxHeartbeats 2000000 in
theorem cI_WalkProblem_loopOf_1 (w : World) (p0 : Int) (b1 : Nat) (u1 : List Value) (p1 : T_WalkProblem) (k1 : Cells w b1 0 u1) (g1 : Rp.rd zt w u1 p1) (r : Bool) (hF : fI_WalkProblem_loopOf_1 p0 p1 = some r) :
    Calls Try.prog 127 #[.int .i64 p0, .pointer (some ⟨b1, 0, none⟩)] w (pI_WalkProblem_loopOf_1 w r) := by
  unfold fI_WalkProblem_loopOf_1 at hF
  have g1k := g1
  obtain ⟨v1, rfl, h2⟩ := g1
  have hB : Bs (fun _ => 1) (col (fun _ => 1)) w w := Bs.start _ _
  refine calls_start (n := 13) (vs := [(.int .i64 p0), (.pointer (some ⟨b1, 0, none⟩))]) Try.func127 rfl rfl ?_
  refine wpC_seq ?_
  refine wpC_region ?_
  refine st_val (ex_assign rfl) (by decide) trivial ?_
  refine wpF_end (r := [(0, (.int .i64 p0)), (1, (.pointer (some ⟨b1, 0, none⟩)))]) ⟨rfl, rfl, trivial⟩ ?_
  refine nx ?_
  refine wpC_seq ?_
  refine wpC_region ?_
  refine st_val (ex_loadA rfl Try.isAgg29 Try.sizeOf29 rfl (k1.keep hB.keeps)) (by decide) trivial ?_
  obtain ⟨x3, hx3, hF⟩ := bind_some hF
  refine st_op (by decide) trivial ?_
  refine wf_call (cI_WalkProblem_after w (col (fun _ => 1)) 11 (by decide) _ p1 (⟨_, rfl, (h2.keep hB.keeps)⟩) x3 hx3) Try.call80 ⟨rfl, trivial⟩ ?_
  rintro e10 w4 ⟨v5, o11, rfl, h6, k7, k8⟩
  have s9 := k7.stp' 11 k8
  replace h6 := h6.mono hB.keeps.size
  refine ⟨_, rfl, ?_⟩
  replace hB := hB.stp s9 (by decide)
  refine st_val (ex_move rfl) (by decide) trivial ?_
  obtain ⟨x12, hx12, hF⟩ := bind_some hF
  refine st_op (by decide) trivial ?_
  refine wf_atW h6 hx12 rfl rfl Try.underlying26 Try.sizeOf3 ?_
  intro b13 f14 c15 h16 h17
  cases h17
  refine st_val (ex_load1 rfl Try.isAgg3 (cell_of_cells h16)) (by decide) trivial ?_
  refine st_val (ex_move rfl) (by decide) trivial ?_
  obtain ⟨x18, hx18, hF⟩ := bind_some hF
  refine st_val (ex_shr rfl rfl hx18) (by decide) trivial ?_
  refine st_val (ex_and rfl rfl) (by decide) trivial ?_
  refine st_val (ex_eql rfl rfl) (by decide) trivial ?_
  refine st_val (ex_assign rfl) (by decide) trivial ?_
  refine wpF_end (r := [(3, (.bool ((band x18 1) == 1)))]) ⟨rfl, trivial⟩ ?_
  refine nx ?_
  refine wpC_ret ?_
  have e19 := Option.some.inj hF
  subst e19
  refine ret_post (P := Try.prog) (vs := [(.bool ((band x18 1) == 1))]) Try.results127 ⟨rfl, trivial⟩ ?_
  exact ⟨rfl, hB.keeps⟩

def fI_WalkProblem_loopOf (p0 : T_WalkProblem) : Option Int :=
  (fI_numbersTo p0.Labels) >>= fun x8 =>
  (fX_slices_IndexFunc_int_int x8 (fun z17 => fI_WalkProblem_loopOf_1 z17 p0)) >>= fun x18 =>
  some x18

def pI_WalkProblem_loopOf (w : World) (r : Int) : Ending → World → Prop := fun e w' => e = .returned (.int .i64 r) ∧ Keeps w w'
set_option maxRecDepth 100000 in
set_option maxHeartbeats 2000000 in
theorem cI_WalkProblem_loopOf (w : World) (u0 : List Value) (p0 : T_WalkProblem) (g0 : Rp.rd zt w u0 p0) (r : Int) (hF : fI_WalkProblem_loopOf p0 = some r) :
    Calls Try.prog 103 #[.agg u0.toArray] w (pI_WalkProblem_loopOf w r) := by
  unfold fI_WalkProblem_loopOf at hF
  obtain ⟨v1, rfl, h2⟩ := g0
  have hB : Bs (fun _ => 1) (col (fun _ => 1)) w w := Bs.start _ _
  refine calls_start (n := 8) (vs := [(.agg #[(.int .i64 p0.Labels), v1])]) Try.func103 rfl rfl ?_
  refine wpC_seq ?_
  refine wpC_region ?_
  refine st_op (by decide) trivial ?_
  refine wf_box (o := (col (fun _ => 1))) w.heap.size 11 hB.keeps.size (cs := [(.int .i64 p0.Labels), v1]) rfl rfl ?_
  intro o3 w4 b5 h6 s7
  replace hB := hB.stp s7 (by decide)
  refine st_val (ex_assign rfl) (by decide) trivial ?_
  refine wpF_end (r := [(1, (.pointer (some ⟨b5, 0, none⟩)))]) ⟨rfl, trivial⟩ ?_
  refine nx ?_
  refine wpC_seq ?_
  refine wpC_region ?_
  refine st_val (ex_field rfl Try.underlying29 rfl Try.sizeOf3) (by decide) trivial ?_
  refine st_val (ex_load1 rfl Try.isAgg3 (h6.cell rfl)) (by decide) trivial ?_
  obtain ⟨x8, hx8, hF⟩ := bind_some hF
  refine st_op (by decide) trivial ?_
  refine wf_call (cI_numbersTo w4 o3 12 (by decide) p0.Labels x8 hx8) Try.call126 ⟨rfl, trivial⟩ ?_
  rintro e15 w9 ⟨v10, o16, rfl, h11, k12, k13⟩
  have s14 := k12.stp' 12 k13
  replace h11 := h11.mono hB.keeps.size
  refine ⟨_, rfl, ?_⟩
  replace h6 := h6.stp s14 (by decide)
  replace hB := hB.stp s14 (by decide)
  refine st_val (ex_func (vs := [(.pointer (some ⟨b5, 0, none⟩))]) ⟨rfl, trivial⟩) (by decide) trivial ?_
  obtain ⟨x18, hx18, hF⟩ := bind_some hF
  refine st_op (by decide) trivial ?_
  refine wf_call (cX_slices_IndexFunc_int_int w9 _ x8 h11.z _ (fun z17 => fI_WalkProblem_loopOf_1 z17 p0) (show FnV Try.prog w9 (.func (.func 127) #[] #[(.pointer (some ⟨b5, 0, none⟩))]) (fun z17 => fI_WalkProblem_loopOf_1 z17 p0) from ⟨_, _, rfl, Try.call127, fun ww vs xx rr kk hok hG => by (cases hok; exact cI_WalkProblem_loopOf_1 ww xx b5 _ p0 ((h6.cells).keep kk) (Rp.keep ((show Rp.rd zt w9 [(.int .i64 p0.Labels), v1] (p0 : T_WalkProblem) from ⟨_, rfl, (h2.keep hB.keeps)⟩)) kk) rr hG)⟩) x18 hx18) Try.call121 ⟨rfl, rfl, trivial⟩ ?_
  rintro e23 w19 ⟨rfl, k20⟩
  have s22 := k20.stp 999 o16
  refine ⟨_, rfl, ?_⟩
  replace h11 := h11.stp s22 (by decide) (by decide)
  replace h6 := h6.stp s22 (by decide)
  replace hB := hB.stp s22 (by decide)
  refine st_val (ex_assign rfl) (by decide) trivial ?_
  refine wpF_end (r := [(2, (.int .i64 x18))]) ⟨rfl, trivial⟩ ?_
  refine nx ?_
  refine wpC_ret ?_
  have e24 := Option.some.inj hF
  subst e24
  refine ret_post (P := Try.prog) (vs := [(.int .i64 x18)]) Try.results103 ⟨rfl, trivial⟩ ?_
  exact ⟨rfl, hB.keeps⟩

end Go.Proofs.Ytffgdhbhlcifmaa
