/- (impl.WalkProblem).walkBetween, impl.gapsOf, impl.marksOk, impl.FillCycle: plain functions, and the walks that show that the program computes them (printed by gen.py). -/
import Derived.Test.YtabclfacjaeblaaGI
import Derived.Test.YtabclfacjaeblaaKh
namespace Go.Proofs.Ytabclfacjaeblaa
open Go.RowKit
set_option linter.unusedSimpArgs false
set_option linter.unusedVariables false

theorem info2_t_int_Fb : Inf Try.prog 3 (.int .i64 0) 1 8 := by unfold Inf; kernel_rfl

def fI_WalkProblem_walkBetween_s1 : Int → (List Int) → (List Int) → Option (Lp (List Int) (List Int) (List Int)) := fun (i18 : Int) (x28 : List Int) (s : List Int) =>
  (ix x28 1) >>= fun x36 =>
  (ix s x36) >>= fun x39 =>
  (ix x28 0) >>= fun x42 =>
  (shl 1 x42) >>= fun x45 =>
  (ix s x36) >>= fun x106 =>
  (st s x36 (bor x39 x45)) >>= fun x115 =>
  some (.go x115)
def fI_WalkProblem_walkBetween_s3 (y14 : List Int) : Int → Int → Int → Option (Lp Int Int (List Int)) := fun (i160 : Int) (x170 : Int) (s : Int) =>
  (ix y14 x170) >>= fun x176 =>
  some (.go (bor s x176))
def fI_WalkProblem_walkBetween_s2 (fuel : Nat) (y14 : List Int) : Int → (List Int) → Option (Lp (List Int) (List Int) (List Int)) := fun (i130 : Int) (s : List Int) =>
  (ix s i130) >>= fun x142 =>
  (fI_labelsIn fuel x142) >>= fun x148 =>
  (forI (fI_WalkProblem_walkBetween_s3 y14) x148 0 0) >>= fun q161 =>
  match q161 with
  | .inl y157 =>
    (push s y157) >>= fun x190 =>
    some (.go x190)
  | .inr _ => none
def fI_WalkProblem_walkBetween_s4 (fuel : Nat) (y125 : List Int) (x207 : List Int) : ((List Int) × Int) → Option (Lp ((List Int) × Int) ((List Int) × Int) (List Int)) := fun (s : (List Int) × Int) =>
  if decide (s.2 ≥ 0) then
    (ck ((s.1.length : Int) - 1)) >>= fun x239 =>
    (ix s.1 x239) >>= fun x240 =>
    (ix x207 x240) >>= fun x243 =>
    (ix y125 s.2) >>= fun x246 =>
    (fI_labelsIn fuel (band x243 x246)) >>= fun x249 =>
    (ix x249 0) >>= fun x258 =>
    (push s.1 x258) >>= fun x384 =>
    (ck (s.2 - 1)) >>= fun x390 =>
    some (.go (x384, x390))
  else
    some (.out (s.1, s.2))
def fI_WalkProblem_walkBetween (fuel : Nat) (p0 : T_WalkProblem) (p1 : Int) (p2 : Int) (p3 : Int) : Option (List Int) :=
  (mk (Rz.z : Int) p0.Labels) >>= fun x8 =>
  (forI (fI_WalkProblem_walkBetween_s1) p0.Arcs 0 x8) >>= fun q19 =>
  match q19 with
  | .inl y14 =>
    (shl 1 p2) >>= fun x119 =>
    ck p3 >>= fun _ =>
    (forN (fI_WalkProblem_walkBetween_s2 fuel y14) (p3).toNat 0 ([x119] : List Int)) >>= fun q131 =>
    match q131 with
    | .inl y125 =>
      (ix y125 p3) >>= fun x198 =>
      (shr x198 p1) >>= fun x204 =>
      if (band x204 1) == 0 then
        some []
      else
        (fI_WalkProblem_after p0) >>= fun x207 =>
        (ck (p3 - 1)) >>= fun x221 =>
        (loopF (fI_WalkProblem_walkBetween_s4 fuel y125 x207) fuel (([p1] : List Int), x221)) >>= fun q228 =>
        match q228 with
        | .inl (y222, y225) =>
          (nem y222) >>= fun x393 =>
          some y222
        | .inr _ => none
    | .inr _ => none
  | .inr _ => none

def pI_WalkProblem_walkBetween (oo : Tg) (t : Nat) (w : World) (r : List Int) : Ending → World → Prop := fun e w' => ∃ (v0 : Value) (o' : Tg), e = .returned (v0) ∧ Ow w.heap.size 3 t o' w' v0 r ∧ isnil v0 = r.isEmpty ∧ Keeps w w' ∧ ∀ b, b < w.heap.size → o' b = oo b
set_option maxRecDepth 100000 in
set_option maxHeartbeats 2000000 in
theorem cI_WalkProblem_walkBetween (fuel : Nat) (w : World) (oo : Tg) (t : Nat) (ht : 2 ≤ t) (u0 : List Value) (p0 : T_WalkProblem) (g0 : Rp.rd zt w u0 p0) (p1 : Int) (p2 : Int) (p3 : Int) (r : List Int) (hF : fI_WalkProblem_walkBetween fuel p0 p1 p2 p3 = some r) :
    Calls Try.prog 70 #[.agg u0.toArray, .int .i64 p1, .int .i64 p2, .int .i64 p3] w (pI_WalkProblem_walkBetween oo t w r) := by
  unfold fI_WalkProblem_walkBetween at hF
  obtain ⟨v1, rfl, h2⟩ := g0
  have hB : Bs oo (col oo) w w := Bs.start _ _
  refine calls_start (n := 111) (vs := [(.agg #[(.int .i64 p0.Labels), v1]), (.int .i64 p1), (.int .i64 p2), (.int .i64 p3)]) Try.func70 rfl rfl ?_
  generalize col oo = o at *
  refine wpC_seq ?_
  refine wpC_region ?_
  refine st_op (by decide) trivial ?_
  refine wf_box (o := o) w.heap.size 11 hB.keeps.size (cs := [(.int .i64 p0.Labels), v1]) rfl rfl ?_
  intro o3 w4 b5 h6 s7
  replace hB := hB.stp s7 (by decide)
  refine st_val (ex_assign rfl) (by decide) trivial ?_
  refine wpF_end (r := [(1, (.int .i64 p1)), (2, (.int .i64 p2)), (3, (.int .i64 p3)), (4, (.pointer (some ⟨b5, 0, none⟩)))]) ⟨rfl, rfl, rfl, rfl, trivial⟩ ?_
  refine nx ?_
  refine wpC_seq ?_
  refine wpC_region ?_
  refine st_val (ex_field rfl Try.underlying44 rfl Try.sizeOf3) (by decide) trivial ?_
  refine st_val (ex_load1 rfl Try.isAgg3 (h6.cell rfl)) (by decide) trivial ?_
  obtain ⟨x8, hx8, hF⟩ := bind_some hF
  refine st_op (by decide) trivial ?_
  refine wf_make (o := o3) w.heap.size 12 hB.keeps.size hx8 rfl rfl Try.underlying26 info2_t_int_Fb rfl (by decide) ?_
  intro o9 w10 v11 h12 s13
  replace h6 := h6.stp s13 (by decide)
  replace hB := hB.stp s13 (by decide)
  refine st_val (ex_assign rfl) (by decide) trivial ?_
  refine wpF_end (r := [(1, (.int .i64 p1)), (2, (.int .i64 p2)), (3, (.int .i64 p3)), (4, (.pointer (some ⟨b5, 0, none⟩))), (9, v11)]) ⟨rfl, rfl, rfl, rfl, rfl, trivial⟩ ?_
  refine nx ?_
  refine wpC_seq ?_
  refine wpC_seq ?_
  refine wpC_region ?_
  refine st_val (ex_field rfl Try.underlying44 rfl Try.sizeOf22) (by decide) trivial ?_
  refine st_val (ex_load1 rfl Try.isAgg22 (h6.cell rfl)) (by decide) trivial ?_
  refine st_val (ex_lenR rfl h2 Try.underlying22) (by decide) trivial ?_
  refine st_val (ex_move rfl) (by decide) trivial ?_
  refine wpF_end (r := [(1, (.int .i64 p1)), (2, (.int .i64 p2)), (3, (.int .i64 p3)), (4, (.pointer (some ⟨b5, 0, none⟩))), (9, v11), (24, v1), (25, (.int .i64 (p0.Arcs.length : Int))), (26, (.int .i64 0))]) ⟨rfl, rfl, rfl, rfl, rfl, rfl, rfl, rfl, trivial⟩ ?_
  refine nx ?_
  obtain ⟨q19, hq19, hF⟩ := bind_some hF
  refine wpC_cutN (fun a w17 => ∃ (y14 : List Int) (o16 : Tg), q19 = .inl y14 ∧ Fr a 111 [(1, (.int .i64 p1)), (2, (.int .i64 p2)), (3, (.int .i64 p3)), (4, (.pointer (some ⟨b5, 0, none⟩))), (9, v11)] ∧ Bs oo o16 w w17 ∧ Ow w.heap.size 3 12 o16 w17 v11 y14 ∧ Bx w.heap.size 11 o16 w17 b5 44 [(.int .i64 p0.Labels), v1]) (fun _ _ => False) ?_ ?_ ?_
  · refine wpC_block ?_
    refine wpC_loop (fun (K : Nat) a w17 => ∃ (i18 : Int) (y14 : List Int) (o16 : Tg), forI (fI_WalkProblem_walkBetween_s1) (p0.Arcs.drop i18.toNat) i18 y14 = some q19 ∧ (p0.Arcs.drop i18.toNat).length = K ∧ 0 ≤ i18 ∧ Fr a 111 [(1, (.int .i64 p1)), (2, (.int .i64 p2)), (3, (.int .i64 p3)), (4, (.pointer (some ⟨b5, 0, none⟩))), (9, v11), (24, v1), (25, (.int .i64 (p0.Arcs.length : Int))), (26, (.int .i64 i18))] ∧ Bs oo o16 w w17 ∧ Ow w.heap.size 3 12 o16 w17 v11 y14 ∧ Bx w.heap.size 11 o16 w17 b5 44 [(.int .i64 p0.Labels), v1]) _ (fun a ha => ⟨0, x8, o9, hq19, rfl, Int.le_refl 0, ha.sub (r := [(1, (.int .i64 p1)), (2, (.int .i64 p2)), (3, (.int .i64 p3)), (4, (.pointer (some ⟨b5, 0, none⟩))), (9, v11), (24, v1), (25, (.int .i64 (p0.Arcs.length : Int))), (26, (.int .i64 0))]) ⟨rfl, rfl, rfl, rfl, rfl, rfl, rfl, rfl, trivial⟩, hB, h12, h6⟩) ?_
    rintro K23 a w17 ⟨i18, y14, o16, l20, m22, z21, ha, hB, h15, h6⟩
    by_cases t27 : i18 < (p0.Arcs.length : Int)
    · obtain ⟨x28, q24, hx28, b25, n26⟩ := forI_cons z21 t27 l20
      have hle := h2.len_le
      dsimp only [fI_WalkProblem_walkBetween_s1] at b25
      refine wp_of ha ?_
      refine wpC_seq ?_
      refine wpC_region ?_
      refine st_val (ex_lss rfl rfl) (by decide) trivial ?_
      refine wpF_end (r := [(1, (.int .i64 p1)), (2, (.int .i64 p2)), (3, (.int .i64 p3)), (4, (.pointer (some ⟨b5, 0, none⟩))), (9, v11), (24, v1), (25, (.int .i64 (p0.Arcs.length : Int))), (26, (.int .i64 i18)), (27, (.bool (decide (i18 < (p0.Arcs.length : Int)))))]) ⟨rfl, rfl, rfl, rfl, rfl, rfl, rfl, rfl, rfl, trivial⟩ ?_
      refine nx ?_
      refine wpC_seq ?_
      refine wpC_true (congrArg (fun b => some (Value.bool b)) (decide_eq_true t27)) ?_
      refine wpC_skip ?_
      refine nx ?_
      refine wpC_seq ?_
      refine wpC_block ?_
      refine wpC_seq ?_
      refine wpC_region ?_
      refine st_op (by decide) trivial ?_
      refine wf_atZ h2 hx28 hB rfl rfl Try.underlying22 Try.sizeOf26 ?_
      intro b29 f30 c31 h32 h33
      obtain ⟨v34, rfl, h35⟩ := h33
      refine st_val (ex_load1 rfl Try.isAgg26 (cell_of_cells h32)) (by decide) trivial ?_
      refine st_val (ex_assign rfl) (by decide) trivial ?_
      refine wpF_end (r := [(1, (.int .i64 p1)), (2, (.int .i64 p2)), (3, (.int .i64 p3)), (4, (.pointer (some ⟨b5, 0, none⟩))), (9, v11), (11, v34), (24, v1), (25, (.int .i64 (p0.Arcs.length : Int))), (26, (.int .i64 i18))]) ⟨rfl, rfl, rfl, rfl, rfl, rfl, rfl, rfl, rfl, trivial⟩ ?_
      refine nx ?_
      obtain ⟨x36, hx36, b25⟩ := bind_some b25
      obtain ⟨x39, hx39, b25⟩ := bind_some b25
      obtain ⟨x42, hx42, b25⟩ := bind_some b25
      obtain ⟨x45, hx45, b25⟩ := bind_some b25
      refine wpC_drawn (o := o16) [(1, (.int .i64 p1)), (2, (.int .i64 p2)), (3, (.int .i64 p3)), (4, (.pointer (some ⟨b5, 0, none⟩))), (9, v11), (11, v34), (24, v1), (25, (.int .i64 (p0.Arcs.length : Int))), (26, (.int .i64 i18))] [1, 2, 3, 4, 9, 11, 24, 25, 26] [30, 31, 32, 33, 34, 35, 36, 37, 38, 39] [[], [], [1], [2], [0, 3], [4], [], [6], [7], [8]] [none, none, none, none, none, none, none, none, none, none] [999, 999, 999, 999, 999, 999, 999, 999, 999, 999] [0, 0, 0, 0, 12, 0, 0, 0, 0, 0] [999] [fun v _ _ => v = v11, fun v _ _ => v = v34, fun v o w9 => ∃ vl, v = adr vl ((1 : Int).toNat * Rp.sz Int) ∧ RdL zt w vl x28, fun v _ _ => v = (.int .i64 x36), fun v o w9 => ∃ vl, v = adr vl (x36.toNat * Rp.sz Int) ∧ Ow w.heap.size 3 12 o w9 vl y14, fun v _ _ => v = (.int .i64 x39), fun v _ _ => v = v34, fun v o w9 => ∃ vl, v = adr vl ((0 : Int).toNat * Rp.sz Int) ∧ RdL zt w vl x28, fun v _ _ => v = (.int .i64 x42), fun v _ _ => v = (.int .i64 x45)] (fun o8 w8 => Bs oo o8 w w8 ∧ Ow w.heap.size 3 12 o8 w8 v11 y14 ∧ Bx w.heap.size 11 o8 w8 b5 44 [(.int .i64 p0.Labels), v1]) follows_mixed (by kernel_rfl) rfl ⟨rfl, rfl, rfl, rfl, rfl, rfl, rfl, rfl, rfl, trivial⟩ ⟨hB, h15, h6⟩ ?_ ⟨st_eq _, st_eq _, fun _ _ _ _ _ _ h0 hb ⟨vl, e, h⟩ hs => ⟨vl, e, h⟩, st_eq _, fun _ _ _ _ _ _ h0 hb ⟨vl, e, h⟩ hs => ⟨vl, e, h.stp hs h0.1 (Ne.symm hb)⟩, st_eq _, st_eq _, fun _ _ _ _ _ _ h0 hb ⟨vl, e, h⟩ hs => ⟨vl, e, h⟩, st_eq _, st_eq _, trivial⟩ ?_ ?_
      · rintro t9 o1 w1 o2 w2 ht9 ⟨hB, h15, h6⟩ hs9
        have ht9 : t9 = 999 := by simpa using ht9
        subst ht9
        all_goals exact ⟨hB.stp hs9 (by decide), h15.stp hs9 (by decide) (by decide), h6.stp hs9 (by decide)⟩
      · refine ⟨?_, ?_, ?_, ?_, ?_, ?_, ?_, ?_, ?_, ?_, trivial⟩
        · rintro o46 w47 a48 ha ⟨hB, h15, h6⟩ -
          refine opS_of ha (trivial) ?_
          refine op1_val (ex_move rfl) ?_
          exact ⟨_, Stp.refl _ _ _, rfl⟩
        · rintro o49 w50 a51 ha ⟨hB, h15, h6⟩ -
          refine opS_of ha (trivial) ?_
          refine op1_val (ex_move rfl) ?_
          exact ⟨_, Stp.refl _ _ _, rfl⟩
        · rintro o52 w53 a54 ha ⟨hB, h15, h6⟩ ⟨r55, -⟩
          have ha := Fr.cons (d := 31) ha r55
          refine opS_of ha (trivial) ?_
          refine wd_indexR h35 hx36 rfl rfl Try.underlying26 Try.sizeOf3 ?_
          exact ⟨_, Stp.refl _ _ _, ⟨_, rfl, h35⟩⟩
        · rintro o56 w57 a58 ha ⟨hB, h15, h6⟩ ⟨r59, -⟩
          obtain ⟨v60, e61, h62⟩ := r59
          have ha := Fr.cons (d := 32) ha e61
          refine opS_of ha (trivial) ?_
          refine wd_load1Z h62 hx36 hB rfl rfl Try.isAgg3 ?_
          intro c63 h64
          cases h64
          exact ⟨_, Stp.refl _ _ _, rfl⟩
        · rintro o65 w66 a67 ha ⟨hB, h15, h6⟩ ⟨r68, r69, -⟩
          have ha := Fr.cons (d := 30) ha r68
          have ha := Fr.cons (d := 33) ha r69
          refine opS_of ha (trivial) ?_
          refine wd_indexW h15 hx39 rfl rfl Try.underlying26 Try.sizeOf3 ?_
          exact ⟨_, Stp.refl _ _ _, ⟨_, rfl, h15⟩⟩
        · rintro o70 w71 a72 ha ⟨hB, h15, h6⟩ ⟨r73, -⟩
          obtain ⟨v74, e75, h76⟩ := r73
          have ha := Fr.cons (d := 34) ha e75
          refine opS_of ha (trivial) ?_
          refine wd_load1W h76 hx39 rfl rfl Try.isAgg3 ?_
          intro c77 h78
          cases h78
          exact ⟨_, Stp.refl _ _ _, rfl⟩
        · rintro o79 w80 a81 ha ⟨hB, h15, h6⟩ -
          refine opS_of ha (trivial) ?_
          refine op1_val (ex_move rfl) ?_
          exact ⟨_, Stp.refl _ _ _, rfl⟩
        · rintro o82 w83 a84 ha ⟨hB, h15, h6⟩ ⟨r85, -⟩
          have ha := Fr.cons (d := 36) ha r85
          refine opS_of ha (trivial) ?_
          refine wd_indexR h35 hx42 rfl rfl Try.underlying26 Try.sizeOf3 ?_
          exact ⟨_, Stp.refl _ _ _, ⟨_, rfl, h35⟩⟩
        · rintro o86 w87 a88 ha ⟨hB, h15, h6⟩ ⟨r89, -⟩
          obtain ⟨v90, e91, h92⟩ := r89
          have ha := Fr.cons (d := 37) ha e91
          refine opS_of ha (trivial) ?_
          refine wd_load1Z h92 hx42 hB rfl rfl Try.isAgg3 ?_
          intro c93 h94
          cases h94
          exact ⟨_, Stp.refl _ _ _, rfl⟩
        · rintro o95 w96 a97 ha ⟨hB, h15, h6⟩ ⟨r98, -⟩
          have ha := Fr.cons (d := 38) ha r98
          refine opS_of ha (trivial) ?_
          refine op1_val (ex_shl rfl rfl hx45) ?_
          exact ⟨_, Stp.refl _ _ _, rfl⟩
      rintro o99 w100 a101 ha ⟨hB, h15, h6⟩ ⟨r102, -, -, r103, -, r104, -, -, -, r105, -⟩
      have ha := Fr.cons (d := 30) ha r102
      have ha := Fr.cons (d := 33) ha r103
      have ha := Fr.cons (d := 35) ha r104
      have ha := Fr.cons (d := 39) ha r105
      refine wl_of ha ?_
      simp only [List.length_cons, List.length_nil, Nat.zero_add, Nat.reduceAdd, List.drop_succ_cons, List.drop_zero]
      refine st_val (ex_or rfl rfl) (by decide) trivial ?_
      obtain ⟨x106, hx106, b25⟩ := bind_some b25
      refine st_op (by decide) trivial ?_
      refine wf_atP h15 hx106 rfl rfl Try.underlying26 Try.sizeOf3 ?_
      intro b107 c109 h112 h110 h111
      cases h111
      obtain ⟨x115, hx115, b25⟩ := bind_some b25
      refine st_op0 trivial ?_
      refine wf_storeW h15 h112 hx115 rfl (by decide) rfl rfl rfl Try.sizeOf3 rfl ?_
      intro w113 h116 s114
      replace h6 := h6.stp s114 (by decide)
      replace hB := hB.stp s114 (by decide)
      refine wpF_end (r := [(1, (.int .i64 p1)), (2, (.int .i64 p2)), (3, (.int .i64 p3)), (4, (.pointer (some ⟨b5, 0, none⟩))), (9, v11), (24, v1), (25, (.int .i64 (p0.Arcs.length : Int))), (26, (.int .i64 i18))]) ⟨rfl, rfl, rfl, rfl, rfl, rfl, rfl, rfl, trivial⟩ ?_
      refine nb_norm ?_
      refine nx ?_
      refine wpC_region ?_
      refine st_val (ex_add rfl rfl (ck_in (by omega) (by omega))) (by decide) trivial ?_
      refine st_val (ex_move rfl) (by decide) trivial ?_
      refine wpF_end (r := [(1, (.int .i64 p1)), (2, (.int .i64 p2)), (3, (.int .i64 p3)), (4, (.pointer (some ⟨b5, 0, none⟩))), (9, v11), (24, v1), (25, (.int .i64 (p0.Arcs.length : Int))), (26, (.int .i64 (i18 + 1)))]) ⟨rfl, rfl, rfl, rfl, rfl, rfl, rfl, rfl, trivial⟩ ?_
      refine nt_norm ?_
      have e117 := Option.some.inj b25
      subst e117
      refine to_k (r := [(1, (.int .i64 p1)), (2, (.int .i64 p2)), (3, (.int .i64 p3)), (4, (.pointer (some ⟨b5, 0, none⟩))), (9, v11), (24, v1), (25, (.int .i64 (p0.Arcs.length : Int))), (26, (.int .i64 (i18 + 1)))]) ⟨rfl, rfl, rfl, rfl, rfl, rfl, rfl, rfl, trivial⟩ ?_
      intro a ha
      exact ⟨_, (by rw [← m22]; simp only [List.length_drop]; omega), i18 + 1, x115, o99, n26, rfl, (by omega), ha, hB, h116, h6⟩
    · have r118 := forI_done t27 l20
      refine wp_of ha ?_
      refine wpC_seq ?_
      refine wpC_region ?_
      refine st_val (ex_lss rfl rfl) (by decide) trivial ?_
      refine wpF_end (r := [(1, (.int .i64 p1)), (2, (.int .i64 p2)), (3, (.int .i64 p3)), (4, (.pointer (some ⟨b5, 0, none⟩))), (9, v11), (24, v1), (25, (.int .i64 (p0.Arcs.length : Int))), (26, (.int .i64 i18)), (27, (.bool (decide (i18 < (p0.Arcs.length : Int)))))]) ⟨rfl, rfl, rfl, rfl, rfl, rfl, rfl, rfl, rfl, trivial⟩ ?_
      refine nx ?_
      refine wpC_seq ?_
      refine wpC_false (congrArg (fun b => some (Value.bool b)) (decide_eq_false t27)) ?_
      refine wpC_exit ?_
      refine nt_exit ?_
      refine nt_exit ?_
      refine nb_hit ?_
      refine np_norm ?_
      refine to_k (r := [(1, (.int .i64 p1)), (2, (.int .i64 p2)), (3, (.int .i64 p3)), (4, (.pointer (some ⟨b5, 0, none⟩))), (9, v11)]) ⟨rfl, rfl, rfl, rfl, rfl, trivial⟩ ?_
      intro a ha
      exact ⟨y14, o16, r118, ha, hB, h15, h6⟩
  · rintro a w17 ⟨y14, o16, rfl, ha, hB, h15, h6⟩
    dsimp only at hF
    refine ap_k ha ?_
    refine nx ?_
    refine wpC_seq ?_
    refine wpC_region ?_
    refine st_val (ex_move rfl) (by decide) trivial ?_
    obtain ⟨x119, hx119, hF⟩ := bind_some hF
    refine st_val (ex_shl rfl rfl hx119) (by decide) trivial ?_
    refine st_op (by decide) trivial ?_
    refine wf_litW w.heap.size 13 hB.keeps.size (o := o16) (cs := [(.int .i64 x119)]) (xs := ([x119] : List Int)) (vs := [(0, (.int .i64 x119))]) ⟨_, _, rfl, rfl, rfl⟩ rfl ⟨rfl, rfl, trivial⟩ Try.underlying26 Try.sizeOf3 Try.zeroValue3 (by decide) (fill1 rfl) (by simp) ?_
    intro o120 w121 v122 h123 s124
    replace h15 := h15.stp s124 (by decide) (by decide)
    replace h6 := h6.stp s124 (by decide)
    replace hB := hB.stp s124 (by decide)
    refine st_val (ex_assign rfl) (by decide) trivial ?_
    refine wpF_end (r := [(1, (.int .i64 p1)), (3, (.int .i64 p3)), (4, (.pointer (some ⟨b5, 0, none⟩))), (9, v11), (12, v122)]) ⟨rfl, rfl, rfl, rfl, rfl, trivial⟩ ?_
    refine nx ?_
    refine wpC_seq ?_
    refine wpC_seq ?_
    refine wpC_region ?_
    refine st_val (ex_move rfl) (by decide) trivial ?_
    refine st_val (ex_move rfl) (by decide) trivial ?_
    refine wpF_end (r := [(1, (.int .i64 p1)), (3, (.int .i64 p3)), (4, (.pointer (some ⟨b5, 0, none⟩))), (9, v11), (12, v122), (46, (.int .i64 p3)), (47, (.int .i64 0))]) ⟨rfl, rfl, rfl, rfl, rfl, rfl, rfl, trivial⟩ ?_
    refine nx ?_
    obtain ⟨u133, h132, hF⟩ := bind_some hF
    obtain ⟨-, h132a, h132b⟩ := ck_some h132
    obtain ⟨q131, hq131, hF⟩ := bind_some hF
    refine wpC_cutN (fun a w129 => ∃ (y125 : List Int) (v126 : Value) (o128 : Tg), q131 = .inl y125 ∧ Fr a 111 [(1, (.int .i64 p1)), (3, (.int .i64 p3)), (4, (.pointer (some ⟨b5, 0, none⟩))), (12, v126)] ∧ Bs oo o128 w w129 ∧ Ow w.heap.size 3 13 o128 w129 v126 y125 ∧ Bx w.heap.size 11 o128 w129 b5 44 [(.int .i64 p0.Labels), v1]) (fun _ _ => False) ?_ ?_ ?_
    · refine wpC_block ?_
      refine wpC_loop (fun (K : Nat) a w129 => ∃ (i130 : Int) (y125 : List Int) (v126 : Value) (o128 : Tg), forN (fI_WalkProblem_walkBetween_s2 fuel y14) (p3 - i130).toNat i130 y125 = some q131 ∧ (p3 - i130).toNat = K ∧ 0 ≤ i130 ∧ Fr a 111 [(1, (.int .i64 p1)), (3, (.int .i64 p3)), (4, (.pointer (some ⟨b5, 0, none⟩))), (9, v11), (12, v126), (46, (.int .i64 p3)), (47, (.int .i64 i130))] ∧ Bs oo o128 w w129 ∧ Ow w.heap.size 3 12 o128 w129 v11 y14 ∧ Ow w.heap.size 3 13 o128 w129 v126 y125 ∧ Bx w.heap.size 11 o128 w129 b5 44 [(.int .i64 p0.Labels), v1]) _ (fun a ha => ⟨0, ([x119] : List Int), v122, o120, (by rw [Int.sub_zero]; exact hq131), rfl, Int.le_refl 0, ha.sub (r := [(1, (.int .i64 p1)), (3, (.int .i64 p3)), (4, (.pointer (some ⟨b5, 0, none⟩))), (9, v11), (12, v122), (46, (.int .i64 p3)), (47, (.int .i64 0))]) ⟨rfl, rfl, rfl, rfl, rfl, rfl, rfl, trivial⟩, hB, h15, h123, h6⟩) ?_
      rintro K137 a w129 ⟨i130, y125, v126, o128, l134, m136, z135, ha, hB, h15, h127, h6⟩
      by_cases t141 : i130 < p3
      · obtain ⟨q138, b139, n140⟩ := forN_cons t141 l134
        dsimp only [fI_WalkProblem_walkBetween_s2] at b139
        refine wp_of ha ?_
        refine wpC_seq ?_
        refine wpC_region ?_
        refine st_val (ex_lss rfl rfl) (by decide) trivial ?_
        refine wpF_end (r := [(1, (.int .i64 p1)), (3, (.int .i64 p3)), (4, (.pointer (some ⟨b5, 0, none⟩))), (9, v11), (12, v126), (46, (.int .i64 p3)), (47, (.int .i64 i130)), (48, (.bool (decide (i130 < p3))))]) ⟨rfl, rfl, rfl, rfl, rfl, rfl, rfl, rfl, trivial⟩ ?_
        refine nx ?_
        refine wpC_seq ?_
        refine wpC_true (congrArg (fun b => some (Value.bool b)) (decide_eq_true t141)) ?_
        refine wpC_skip ?_
        refine nx ?_
        refine wpC_seq ?_
        refine wpC_block ?_
        refine wpC_seq ?_
        refine wpC_region ?_
        refine st_val (ex_move rfl) (by decide) trivial ?_
        refine st_val (ex_assign rfl) (by decide) trivial ?_
        refine wpF_end (r := [(1, (.int .i64 p1)), (3, (.int .i64 p3)), (4, (.pointer (some ⟨b5, 0, none⟩))), (9, v11), (12, v126), (13, (.int .i64 i130)), (46, (.int .i64 p3)), (47, (.int .i64 i130))]) ⟨rfl, rfl, rfl, rfl, rfl, rfl, rfl, rfl, trivial⟩ ?_
        refine nx ?_
        refine wpC_seq ?_
        refine wpC_region ?_
        refine st_val (ex_assign rfl) (by decide) trivial ?_
        refine wpF_end (r := [(1, (.int .i64 p1)), (3, (.int .i64 p3)), (4, (.pointer (some ⟨b5, 0, none⟩))), (9, v11), (12, v126), (13, (.int .i64 i130)), (14, (.int .i64 0)), (46, (.int .i64 p3)), (47, (.int .i64 i130))]) ⟨rfl, rfl, rfl, rfl, rfl, rfl, rfl, rfl, rfl, trivial⟩ ?_
        refine nx ?_
        refine wpC_seq ?_
        refine wpC_seq ?_
        refine wpC_region ?_
        refine st_val (ex_move rfl) (by decide) trivial ?_
        refine st_val (ex_move rfl) (by decide) trivial ?_
        obtain ⟨x142, hx142, b139⟩ := bind_some b139
        refine st_op (by decide) trivial ?_
        refine wf_atW h127 hx142 rfl rfl Try.underlying26 Try.sizeOf3 ?_
        intro b143 f144 c145 h146 h147
        cases h147
        refine st_val (ex_load1 rfl Try.isAgg3 (cell_of_cells h146)) (by decide) trivial ?_
        obtain ⟨x148, hx148, b139⟩ := bind_some b139
        refine st_op (by decide) trivial ?_
        refine wf_call (cI_labelsIn fuel w129 o128 14 (by decide) x142 x148 hx148) Try.call58 ⟨rfl, trivial⟩ ?_
        rintro e155 w149 ⟨v150, o156, rfl, h151, k152, k153⟩
        have s154 := k152.stp' 14 k153
        replace h151 := h151.mono hB.keeps.size
        refine ⟨_, rfl, ?_⟩
        replace h15 := h15.stp s154 (by decide) (by decide)
        replace h127 := h127.stp s154 (by decide) (by decide)
        replace h6 := h6.stp s154 (by decide)
        replace hB := hB.stp s154 (by decide)
        refine st_val (ex_lenO rfl h151 Try.underlying26) (by decide) trivial ?_
        refine st_val (ex_move rfl) (by decide) trivial ?_
        refine wpF_end (r := [(1, (.int .i64 p1)), (3, (.int .i64 p3)), (4, (.pointer (some ⟨b5, 0, none⟩))), (9, v11), (12, v126), (14, (.int .i64 0)), (46, (.int .i64 p3)), (47, (.int .i64 i130)), (54, v150), (55, (.int .i64 (x148.length : Int))), (56, (.int .i64 0))]) ⟨rfl, rfl, rfl, rfl, rfl, rfl, rfl, rfl, rfl, rfl, rfl, trivial⟩ ?_
        refine nx ?_
        obtain ⟨q161, hq161, b139⟩ := bind_some b139
        refine wpC_cutN (fun a w159 => ∃ (y157 : Int) (o158 : Tg), q161 = .inl y157 ∧ Fr a 111 [(1, (.int .i64 p1)), (3, (.int .i64 p3)), (4, (.pointer (some ⟨b5, 0, none⟩))), (9, v11), (12, v126), (14, (.int .i64 y157)), (46, (.int .i64 p3)), (47, (.int .i64 i130))] ∧ Bs oo o158 w w159 ∧ Ow w.heap.size 3 12 o158 w159 v11 y14 ∧ Ow w.heap.size 3 13 o158 w159 v126 y125 ∧ Bx w.heap.size 11 o158 w159 b5 44 [(.int .i64 p0.Labels), v1]) (fun _ _ => False) ?_ ?_ ?_
        · refine wpC_block ?_
          refine wpC_loop (fun (K : Nat) a w159 => ∃ (i160 : Int) (y157 : Int) (o158 : Tg), forI (fI_WalkProblem_walkBetween_s3 y14) (x148.drop i160.toNat) i160 y157 = some q161 ∧ (x148.drop i160.toNat).length = K ∧ 0 ≤ i160 ∧ Fr a 111 [(1, (.int .i64 p1)), (3, (.int .i64 p3)), (4, (.pointer (some ⟨b5, 0, none⟩))), (9, v11), (12, v126), (14, (.int .i64 y157)), (46, (.int .i64 p3)), (47, (.int .i64 i130)), (54, v150), (55, (.int .i64 (x148.length : Int))), (56, (.int .i64 i160))] ∧ Bs oo o158 w w159 ∧ Ow w.heap.size 3 12 o158 w159 v11 y14 ∧ Ow w.heap.size 3 13 o158 w159 v126 y125 ∧ Ow w.heap.size 3 14 o158 w159 v150 x148 ∧ Bx w.heap.size 11 o158 w159 b5 44 [(.int .i64 p0.Labels), v1]) _ (fun a ha => ⟨0, 0, o156, hq161, rfl, Int.le_refl 0, ha.sub (r := [(1, (.int .i64 p1)), (3, (.int .i64 p3)), (4, (.pointer (some ⟨b5, 0, none⟩))), (9, v11), (12, v126), (14, (.int .i64 0)), (46, (.int .i64 p3)), (47, (.int .i64 i130)), (54, v150), (55, (.int .i64 (x148.length : Int))), (56, (.int .i64 0))]) ⟨rfl, rfl, rfl, rfl, rfl, rfl, rfl, rfl, rfl, rfl, rfl, trivial⟩, hB, h15, h127, h151, h6⟩) ?_
          rintro K165 a w159 ⟨i160, y157, o158, l162, m164, z163, ha, hB, h15, h127, h151, h6⟩
          by_cases t169 : i160 < (x148.length : Int)
          · obtain ⟨x170, q166, hx170, b167, n168⟩ := forI_cons z163 t169 l162
            have hle := h151.len_le
            dsimp only [fI_WalkProblem_walkBetween_s3] at b167
            refine wp_of ha ?_
            refine wpC_seq ?_
            refine wpC_region ?_
            refine st_val (ex_lss rfl rfl) (by decide) trivial ?_
            refine wpF_end (r := [(1, (.int .i64 p1)), (3, (.int .i64 p3)), (4, (.pointer (some ⟨b5, 0, none⟩))), (9, v11), (12, v126), (14, (.int .i64 y157)), (46, (.int .i64 p3)), (47, (.int .i64 i130)), (54, v150), (55, (.int .i64 (x148.length : Int))), (56, (.int .i64 i160)), (57, (.bool (decide (i160 < (x148.length : Int)))))]) ⟨rfl, rfl, rfl, rfl, rfl, rfl, rfl, rfl, rfl, rfl, rfl, rfl, trivial⟩ ?_
            refine nx ?_
            refine wpC_seq ?_
            refine wpC_true (congrArg (fun b => some (Value.bool b)) (decide_eq_true t169)) ?_
            refine wpC_skip ?_
            refine nx ?_
            refine wpC_seq ?_
            refine wpC_block ?_
            refine wpC_seq ?_
            refine wpC_region ?_
            refine st_op (by decide) trivial ?_
            refine wf_atW h151 hx170 rfl rfl Try.underlying26 Try.sizeOf3 ?_
            intro b171 f172 c173 h174 h175
            cases h175
            refine st_val (ex_load1 rfl Try.isAgg3 (cell_of_cells h174)) (by decide) trivial ?_
            refine st_val (ex_assign rfl) (by decide) trivial ?_
            refine wpF_end (r := [(1, (.int .i64 p1)), (3, (.int .i64 p3)), (4, (.pointer (some ⟨b5, 0, none⟩))), (9, v11), (12, v126), (14, (.int .i64 y157)), (16, (.int .i64 x170)), (46, (.int .i64 p3)), (47, (.int .i64 i130)), (54, v150), (55, (.int .i64 (x148.length : Int))), (56, (.int .i64 i160))]) ⟨rfl, rfl, rfl, rfl, rfl, rfl, rfl, rfl, rfl, rfl, rfl, rfl, trivial⟩ ?_
            refine nx ?_
            refine wpC_region ?_
            refine st_val (ex_move rfl) (by decide) trivial ?_
            refine st_val (ex_move rfl) (by decide) trivial ?_
            refine st_val (ex_move rfl) (by decide) trivial ?_
            obtain ⟨x176, hx176, b167⟩ := bind_some b167
            refine st_op (by decide) trivial ?_
            refine wf_atW h15 hx176 rfl rfl Try.underlying26 Try.sizeOf3 ?_
            intro b177 f178 c179 h180 h181
            cases h181
            refine st_val (ex_load1 rfl Try.isAgg3 (cell_of_cells h180)) (by decide) trivial ?_
            refine st_val (ex_or rfl rfl) (by decide) trivial ?_
            refine st_val (ex_assign rfl) (by decide) trivial ?_
            refine wpF_end (r := [(1, (.int .i64 p1)), (3, (.int .i64 p3)), (4, (.pointer (some ⟨b5, 0, none⟩))), (9, v11), (12, v126), (14, (.int .i64 (bor y157 x176))), (46, (.int .i64 p3)), (47, (.int .i64 i130)), (54, v150), (55, (.int .i64 (x148.length : Int))), (56, (.int .i64 i160))]) ⟨rfl, rfl, rfl, rfl, rfl, rfl, rfl, rfl, rfl, rfl, rfl, trivial⟩ ?_
            refine nb_norm ?_
            refine nx ?_
            refine wpC_region ?_
            refine st_val (ex_add rfl rfl (ck_in (by omega) (by omega))) (by decide) trivial ?_
            refine st_val (ex_move rfl) (by decide) trivial ?_
            refine wpF_end (r := [(1, (.int .i64 p1)), (3, (.int .i64 p3)), (4, (.pointer (some ⟨b5, 0, none⟩))), (9, v11), (12, v126), (14, (.int .i64 (bor y157 x176))), (46, (.int .i64 p3)), (47, (.int .i64 i130)), (54, v150), (55, (.int .i64 (x148.length : Int))), (56, (.int .i64 (i160 + 1)))]) ⟨rfl, rfl, rfl, rfl, rfl, rfl, rfl, rfl, rfl, rfl, rfl, trivial⟩ ?_
            refine nt_norm ?_
            have e182 := Option.some.inj b167
            subst e182
            refine to_k (r := [(1, (.int .i64 p1)), (3, (.int .i64 p3)), (4, (.pointer (some ⟨b5, 0, none⟩))), (9, v11), (12, v126), (14, (.int .i64 (bor y157 x176))), (46, (.int .i64 p3)), (47, (.int .i64 i130)), (54, v150), (55, (.int .i64 (x148.length : Int))), (56, (.int .i64 (i160 + 1)))]) ⟨rfl, rfl, rfl, rfl, rfl, rfl, rfl, rfl, rfl, rfl, rfl, trivial⟩ ?_
            intro a ha
            exact ⟨_, (by rw [← m164]; simp only [List.length_drop]; omega), i160 + 1, bor y157 x176, o158, n168, rfl, (by omega), ha, hB, h15, h127, h151, h6⟩
          · have r183 := forI_done t169 l162
            refine wp_of ha ?_
            refine wpC_seq ?_
            refine wpC_region ?_
            refine st_val (ex_lss rfl rfl) (by decide) trivial ?_
            refine wpF_end (r := [(1, (.int .i64 p1)), (3, (.int .i64 p3)), (4, (.pointer (some ⟨b5, 0, none⟩))), (9, v11), (12, v126), (14, (.int .i64 y157)), (46, (.int .i64 p3)), (47, (.int .i64 i130)), (54, v150), (55, (.int .i64 (x148.length : Int))), (56, (.int .i64 i160)), (57, (.bool (decide (i160 < (x148.length : Int)))))]) ⟨rfl, rfl, rfl, rfl, rfl, rfl, rfl, rfl, rfl, rfl, rfl, rfl, trivial⟩ ?_
            refine nx ?_
            refine wpC_seq ?_
            refine wpC_false (congrArg (fun b => some (Value.bool b)) (decide_eq_false t169)) ?_
            refine wpC_exit ?_
            refine nt_exit ?_
            refine nt_exit ?_
            refine nb_hit ?_
            refine np_norm ?_
            refine to_k (r := [(1, (.int .i64 p1)), (3, (.int .i64 p3)), (4, (.pointer (some ⟨b5, 0, none⟩))), (9, v11), (12, v126), (14, (.int .i64 y157)), (46, (.int .i64 p3)), (47, (.int .i64 i130))]) ⟨rfl, rfl, rfl, rfl, rfl, rfl, rfl, rfl, trivial⟩ ?_
            intro a ha
            exact ⟨y157, o158, r183, ha, hB, h15, h127, h6⟩
        · rintro a w159 ⟨y157, o158, rfl, ha, hB, h15, h127, h6⟩
          dsimp only at b139
          refine ap_k ha ?_
          refine nx ?_
          refine wpC_region ?_
          refine st_val (ex_move rfl) (by decide) trivial ?_
          refine st_val (ex_move rfl) (by decide) trivial ?_
          refine st_op (by decide) trivial ?_
          refine wf_litR (o := o158) (cs := [(.int .i64 y157)]) (xs := ([y157] : List Int)) (vs := [(0, (.int .i64 y157))]) ⟨_, _, rfl, rfl, rfl⟩ rfl ⟨rfl, rfl, trivial⟩ Try.underlying26 Try.sizeOf3 Try.zeroValue3 (by decide) (fill1 rfl) (by simp) ?_
          intro o184 w185 v186 h187 s188 k189
          replace h15 := h15.stp s188 (by decide) (by decide)
          replace h127 := h127.stp s188 (by decide) (by decide)
          replace h6 := h6.stp s188 (by decide)
          replace hB := hB.stp s188 (by decide)
          obtain ⟨x190, hx190, b139⟩ := bind_some b139
          refine st_op (by decide) trivial ?_
          refine wf_cat h127 h187 (push_cat hx190) (by decide) hB.keeps.size rfl rfl Try.underlying26 info2_t_int_Fb rfl (by decide) ?_
          intro o191 w192 v193 h194 s195
          replace h15 := h15.stp s195 (by decide) (by decide)
          replace h187 := h187.stp s195 (by decide)
          replace h6 := h6.stp s195 (by decide)
          replace hB := hB.stp s195 (by decide)
          refine st_val (ex_assign rfl) (by decide) trivial ?_
          refine wpF_end (r := [(1, (.int .i64 p1)), (3, (.int .i64 p3)), (4, (.pointer (some ⟨b5, 0, none⟩))), (9, v11), (12, v193), (46, (.int .i64 p3)), (47, (.int .i64 i130))]) ⟨rfl, rfl, rfl, rfl, rfl, rfl, rfl, trivial⟩ ?_
          refine nb_norm ?_
          refine nx ?_
          refine wpC_region ?_
          refine st_val (ex_add rfl rfl (ck_in (by omega) (by omega))) (by decide) trivial ?_
          refine st_val (ex_move rfl) (by decide) trivial ?_
          refine wpF_end (r := [(1, (.int .i64 p1)), (3, (.int .i64 p3)), (4, (.pointer (some ⟨b5, 0, none⟩))), (9, v11), (12, v193), (46, (.int .i64 p3)), (47, (.int .i64 (i130 + 1)))]) ⟨rfl, rfl, rfl, rfl, rfl, rfl, rfl, trivial⟩ ?_
          refine nt_norm ?_
          have e196 := Option.some.inj b139
          subst e196
          refine to_k (r := [(1, (.int .i64 p1)), (3, (.int .i64 p3)), (4, (.pointer (some ⟨b5, 0, none⟩))), (9, v11), (12, v193), (46, (.int .i64 p3)), (47, (.int .i64 (i130 + 1)))]) ⟨rfl, rfl, rfl, rfl, rfl, rfl, rfl, trivial⟩ ?_
          intro a ha
          exact ⟨_, (by rw [← m136]; omega), i130 + 1, x190, v193, o191, n140, rfl, (by omega), ha, hB, h15, h194, h6⟩
        · exact fun _ _ h => h.elim
      · have r197 := forN_done t141 l134
        refine wp_of ha ?_
        refine wpC_seq ?_
        refine wpC_region ?_
        refine st_val (ex_lss rfl rfl) (by decide) trivial ?_
        refine wpF_end (r := [(1, (.int .i64 p1)), (3, (.int .i64 p3)), (4, (.pointer (some ⟨b5, 0, none⟩))), (9, v11), (12, v126), (46, (.int .i64 p3)), (47, (.int .i64 i130)), (48, (.bool (decide (i130 < p3))))]) ⟨rfl, rfl, rfl, rfl, rfl, rfl, rfl, rfl, trivial⟩ ?_
        refine nx ?_
        refine wpC_seq ?_
        refine wpC_false (congrArg (fun b => some (Value.bool b)) (decide_eq_false t141)) ?_
        refine wpC_exit ?_
        refine nt_exit ?_
        refine nt_exit ?_
        refine nb_hit ?_
        refine np_norm ?_
        refine to_k (r := [(1, (.int .i64 p1)), (3, (.int .i64 p3)), (4, (.pointer (some ⟨b5, 0, none⟩))), (12, v126)]) ⟨rfl, rfl, rfl, rfl, trivial⟩ ?_
        intro a ha
        exact ⟨y125, v126, o128, r197, ha, hB, h127, h6⟩
    · rintro a w129 ⟨y125, v126, o128, rfl, ha, hB, h127, h6⟩
      dsimp only at hF
      refine ap_k ha ?_
      refine nx ?_
      refine wpC_seq ?_
      refine wpC_seq ?_
      refine wpC_region ?_
      refine st_val (ex_move rfl) (by decide) trivial ?_
      refine st_val (ex_move rfl) (by decide) trivial ?_
      obtain ⟨x198, hx198, hF⟩ := bind_some hF
      refine st_op (by decide) trivial ?_
      refine wf_atW h127 hx198 rfl rfl Try.underlying26 Try.sizeOf3 ?_
      intro b199 f200 c201 h202 h203
      cases h203
      refine st_val (ex_load1 rfl Try.isAgg3 (cell_of_cells h202)) (by decide) trivial ?_
      refine st_val (ex_move rfl) (by decide) trivial ?_
      obtain ⟨x204, hx204, hF⟩ := bind_some hF
      refine st_val (ex_shr rfl rfl hx204) (by decide) trivial ?_
      refine st_val (ex_and rfl rfl) (by decide) trivial ?_
      refine st_val (ex_eql rfl rfl) (by decide) trivial ?_
      refine wpF_end (r := [(1, (.int .i64 p1)), (3, (.int .i64 p3)), (4, (.pointer (some ⟨b5, 0, none⟩))), (12, v126), (79, (.bool ((band x204 1) == 0)))]) ⟨rfl, rfl, rfl, rfl, rfl, trivial⟩ ?_
      refine nx ?_
      refine wpC_cond rfl (fun t205 => ?_) (fun t205 => ?_)
      · rw [if_pos t205] at hF
        refine wpC_seq ?_
        refine wpC_region ?_
        refine st_val (ex_assign rfl) (by decide) trivial ?_
        refine wpF_end (r := [(8, (.slice none 0 0))]) ⟨rfl, trivial⟩ ?_
        refine nx ?_
        refine wpC_ret ?_
        refine nt_ret ?_
        have e206 := Option.some.inj hF
        subst e206
        refine ret_post (P := Try.prog) (vs := [(.slice none 0 0)]) Try.results70 ⟨rfl, trivial⟩ ?_
        exact ⟨_, rt oo o128 w.heap.size 9 t, rfl, (Ow.nil _ _ _ _ _), rfl, hB.keeps, rt_old _ _ _ _ _⟩
      · rw [if_neg (by rw [t205]; decide)] at hF
        refine wpC_skip ?_
        refine nx ?_
        refine wpC_seq ?_
        refine wpC_region ?_
        refine st_val (ex_loadA rfl Try.isAgg44 Try.sizeOf44 rfl h6.cells) (by decide) trivial ?_
        obtain ⟨x207, hx207, hF⟩ := bind_some hF
        refine st_op (by decide) trivial ?_
        refine wf_call (cI_WalkProblem_after w129 o128 15 (by decide) _ p0 (⟨_, rfl, (h2.keep hB.keeps)⟩) x207 hx207) Try.call111 ⟨rfl, trivial⟩ ?_
        rintro e214 w208 ⟨v209, o215, rfl, h210, k211, k212⟩
        have s213 := k211.stp' 15 k212
        replace h210 := h210.mono hB.keeps.size
        refine ⟨_, rfl, ?_⟩
        replace h127 := h127.stp s213 (by decide) (by decide)
        replace h6 := h6.stp s213 (by decide)
        replace hB := hB.stp s213 (by decide)
        refine st_val (ex_assign rfl) (by decide) trivial ?_
        refine wpF_end (r := [(1, (.int .i64 p1)), (3, (.int .i64 p3)), (12, v126), (17, v209)]) ⟨rfl, rfl, rfl, rfl, trivial⟩ ?_
        refine nx ?_
        refine wpC_seq ?_
        refine wpC_region ?_
        refine st_val (ex_move rfl) (by decide) trivial ?_
        refine st_op (by decide) trivial ?_
        refine wf_litW w.heap.size 16 hB.keeps.size (o := o215) (cs := [(.int .i64 p1)]) (xs := ([p1] : List Int)) (vs := [(0, (.int .i64 p1))]) ⟨_, _, rfl, rfl, rfl⟩ rfl ⟨rfl, rfl, trivial⟩ Try.underlying26 Try.sizeOf3 Try.zeroValue3 (by decide) (fill1 rfl) (by simp) ?_
        intro o216 w217 v218 h219 s220
        replace h127 := h127.stp s220 (by decide) (by decide)
        replace h210 := h210.stp s220 (by decide) (by decide)
        replace h6 := h6.stp s220 (by decide)
        replace hB := hB.stp s220 (by decide)
        refine st_val (ex_assign rfl) (by decide) trivial ?_
        refine wpF_end (r := [(3, (.int .i64 p3)), (12, v126), (17, v209), (18, v218)]) ⟨rfl, rfl, rfl, rfl, trivial⟩ ?_
        refine nx ?_
        refine wpC_seq ?_
        refine wpC_seq ?_
        refine wpC_region ?_
        refine st_val (ex_move rfl) (by decide) trivial ?_
        obtain ⟨x221, hx221, hF⟩ := bind_some hF
        refine st_val (ex_sub rfl rfl hx221) (by decide) trivial ?_
        refine st_val (ex_assign rfl) (by decide) trivial ?_
        refine wpF_end (r := [(12, v126), (17, v209), (18, v218), (19, (.int .i64 x221))]) ⟨rfl, rfl, rfl, rfl, trivial⟩ ?_
        refine nx ?_
        obtain ⟨q228, hq228, hF⟩ := bind_some hF
        refine wpC_cutN (fun a w227 => ∃ (y222 : List Int) (y225 : Int) (v223 : Value) (o226 : Tg), q228 = .inl (y222, y225) ∧ Fr a 111 [(18, v223)] ∧ Bs oo o226 w w227 ∧ Ow w.heap.size 3 16 o226 w227 v223 y222) (fun _ _ => False) ?_ ?_ ?_
        · refine wpC_block ?_
          refine wpC_loop (fun (K : Nat) a w227 => ∃ (y222 : List Int) (y225 : Int) (v223 : Value) (o226 : Tg), loopF (fI_WalkProblem_walkBetween_s4 fuel y125 x207) K (y222, y225) = some q228 ∧ Fr a 111 [(12, v126), (17, v209), (18, v223), (19, (.int .i64 y225))] ∧ Bs oo o226 w w227 ∧ Ow w.heap.size 3 13 o226 w227 v126 y125 ∧ Ow w.heap.size 3 15 o226 w227 v209 x207 ∧ Ow w.heap.size 3 16 o226 w227 v223 y222) fuel (fun a ha => ⟨([p1] : List Int), x221, v218, o216, hq228, ha.sub (r := [(12, v126), (17, v209), (18, v218), (19, (.int .i64 x221))]) ⟨rfl, rfl, rfl, rfl, trivial⟩, hB, h127, h210, h219⟩) ?_
          rintro K232 a w227 ⟨y222, y225, v223, o226, l229, ha, hB, h127, h210, h224⟩
          obtain ⟨K236, q233, e237, b234, n235⟩ := loopF_cons l229
          dsimp only [fI_WalkProblem_walkBetween_s4] at b234
          refine wp_of ha ?_
          refine wpC_seq ?_
          refine wpC_seq ?_
          refine wpC_region ?_
          refine st_val (ex_move rfl) (by decide) trivial ?_
          refine st_val (ex_geq rfl rfl) (by decide) trivial ?_
          refine wpF_end (r := [(12, v126), (17, v209), (18, v223), (19, (.int .i64 y225)), (87, (.bool (decide (y225 ≥ 0))))]) ⟨rfl, rfl, rfl, rfl, rfl, trivial⟩ ?_
          refine nx ?_
          refine wpC_cond rfl (fun t238 => ?_) (fun t238 => ?_)
          · rw [if_pos t238] at b234
            refine wpC_skip ?_
            refine nx ?_
            refine wpC_seq ?_
            refine wpC_block ?_
            obtain ⟨x239, hx239, b234⟩ := bind_some b234
            obtain ⟨x240, hx240, b234⟩ := bind_some b234
            obtain ⟨x243, hx243, b234⟩ := bind_some b234
            obtain ⟨x246, hx246, b234⟩ := bind_some b234
            obtain ⟨x249, hx249, b234⟩ := bind_some b234
            obtain ⟨x258, hx258, b234⟩ := bind_some b234
            refine wpC_drawn (o := o226) [(12, v126), (17, v209), (18, v223), (19, (.int .i64 y225))] [12, 17, 18, 19] [90, 91, 92, 93, 94, 95, 96, 97, 98, 99, 100, 101, 102, 103, 104, 105, 106, 107, 108] [[], [], [], [], [3], [4], [2, 5], [6], [1, 7], [8], [], [], [10, 11], [12], [9, 13], [14], [15], [16], [17]] [none, none, none, none, none, none, none, none, none, none, none, none, none, none, none, none, none, none, none] [999, 999, 999, 999, 999, 999, 999, 999, 999, 999, 999, 999, 999, 999, 999, 999, 999, 999, 999] [0, 0, 0, 0, 0, 0, 16, 0, 15, 0, 0, 0, 13, 0, 0, 17, 17, 0, 0] [999] [fun v _ _ => v = v223, fun v _ _ => v = v209, fun v _ _ => v = v223, fun v _ _ => v = v223, fun v _ _ => v = (.int .i64 (y222.length : Int)), fun v _ _ => v = (.int .i64 x239), fun v o w9 => ∃ vl, v = adr vl (x239.toNat * Rp.sz Int) ∧ Ow w.heap.size 3 16 o w9 vl y222, fun v _ _ => v = (.int .i64 x240), fun v o w9 => ∃ vl, v = adr vl (x240.toNat * Rp.sz Int) ∧ Ow w.heap.size 3 15 o w9 vl x207, fun v _ _ => v = (.int .i64 x243), fun v _ _ => v = v126, fun v _ _ => v = (.int .i64 y225), fun v o w9 => ∃ vl, v = adr vl (y225.toNat * Rp.sz Int) ∧ Ow w.heap.size 3 13 o w9 vl y125, fun v _ _ => v = (.int .i64 x246), fun v _ _ => v = (.int .i64 (band x243 x246)), fun v o w9 => Ow w.heap.size 3 17 o w9 v x249, fun v o w9 => ∃ vl, v = adr vl ((0 : Int).toNat * Rp.sz Int) ∧ Ow w.heap.size 3 17 o w9 vl x249, fun v _ _ => v = (.int .i64 x258), fun v o w9 => RdL o w9 v (([x258] : List Int) : List Int)] (fun o8 w8 => Bs oo o8 w w8 ∧ Ow w.heap.size 3 13 o8 w8 v126 y125 ∧ Ow w.heap.size 3 15 o8 w8 v209 x207 ∧ Ow w.heap.size 3 16 o8 w8 v223 y222) follows_mixed (by kernel_rfl) rfl ⟨rfl, rfl, rfl, rfl, trivial⟩ ⟨hB, h127, h210, h224⟩ ?_ ⟨st_eq _, st_eq _, st_eq _, st_eq _, st_eq _, st_eq _, fun _ _ _ _ _ _ h0 hb ⟨vl, e, h⟩ hs => ⟨vl, e, h.stp hs h0.1 (Ne.symm hb)⟩, st_eq _, fun _ _ _ _ _ _ h0 hb ⟨vl, e, h⟩ hs => ⟨vl, e, h.stp hs h0.1 (Ne.symm hb)⟩, st_eq _, st_eq _, st_eq _, fun _ _ _ _ _ _ h0 hb ⟨vl, e, h⟩ hs => ⟨vl, e, h.stp hs h0.1 (Ne.symm hb)⟩, st_eq _, st_eq _, fun _ _ _ _ _ _ h0 hb h hs => h.stp hs h0.1 (Ne.symm hb), fun _ _ _ _ _ _ h0 hb ⟨vl, e, h⟩ hs => ⟨vl, e, h.stp hs h0.1 (Ne.symm hb)⟩, st_eq _, fun _ _ _ _ _ _ h0 hb h hs => h.stp hs h0.1, trivial⟩ ?_ ?_
            · rintro t9 o1 w1 o2 w2 ht9 ⟨hB, h127, h210, h224⟩ hs9
              have ht9 : t9 = 999 := by simpa using ht9
              subst ht9
              all_goals exact ⟨hB.stp hs9 (by decide), h127.stp hs9 (by decide) (by decide), h210.stp hs9 (by decide) (by decide), h224.stp hs9 (by decide) (by decide)⟩
            · refine ⟨?_, ?_, ?_, ?_, ?_, ?_, ?_, ?_, ?_, ?_, ?_, ?_, ?_, ?_, ?_, ?_, ?_, ?_, ?_, trivial⟩
              · rintro o267 w268 a269 ha ⟨hB, h127, h210, h224⟩ -
                refine opS_of ha (trivial) ?_
                refine op1_val (ex_move rfl) ?_
                exact ⟨_, Stp.refl _ _ _, rfl⟩
              · rintro o270 w271 a272 ha ⟨hB, h127, h210, h224⟩ -
                refine opS_of ha (trivial) ?_
                refine op1_val (ex_move rfl) ?_
                exact ⟨_, Stp.refl _ _ _, rfl⟩
              · rintro o273 w274 a275 ha ⟨hB, h127, h210, h224⟩ -
                refine opS_of ha (trivial) ?_
                refine op1_val (ex_move rfl) ?_
                exact ⟨_, Stp.refl _ _ _, rfl⟩
              · rintro o276 w277 a278 ha ⟨hB, h127, h210, h224⟩ -
                refine opS_of ha (trivial) ?_
                refine op1_val (ex_move rfl) ?_
                exact ⟨_, Stp.refl _ _ _, rfl⟩
              · rintro o279 w280 a281 ha ⟨hB, h127, h210, h224⟩ ⟨r282, -⟩
                have ha := Fr.cons (d := 93) ha r282
                refine opS_of ha (trivial) ?_
                refine op1_val (ex_lenO rfl h224 Try.underlying26) ?_
                exact ⟨_, Stp.refl _ _ _, rfl⟩
              · rintro o283 w284 a285 ha ⟨hB, h127, h210, h224⟩ ⟨r286, -⟩
                have ha := Fr.cons (d := 94) ha r286
                refine opS_of ha (trivial) ?_
                refine op1_val (ex_sub rfl rfl hx239) ?_
                exact ⟨_, Stp.refl _ _ _, rfl⟩
              · rintro o287 w288 a289 ha ⟨hB, h127, h210, h224⟩ ⟨r290, r291, -⟩
                have ha := Fr.cons (d := 92) ha r290
                have ha := Fr.cons (d := 95) ha r291
                refine opS_of ha (trivial) ?_
                refine wd_indexW h224 hx240 rfl rfl Try.underlying26 Try.sizeOf3 ?_
                exact ⟨_, Stp.refl _ _ _, ⟨_, rfl, h224⟩⟩
              · rintro o292 w293 a294 ha ⟨hB, h127, h210, h224⟩ ⟨r295, -⟩
                obtain ⟨v296, e297, h298⟩ := r295
                have ha := Fr.cons (d := 96) ha e297
                refine opS_of ha (trivial) ?_
                refine wd_load1W h298 hx240 rfl rfl Try.isAgg3 ?_
                intro c299 h300
                cases h300
                exact ⟨_, Stp.refl _ _ _, rfl⟩
              · rintro o301 w302 a303 ha ⟨hB, h127, h210, h224⟩ ⟨r304, r305, -⟩
                have ha := Fr.cons (d := 91) ha r304
                have ha := Fr.cons (d := 97) ha r305
                refine opS_of ha (trivial) ?_
                refine wd_indexW h210 hx243 rfl rfl Try.underlying26 Try.sizeOf3 ?_
                exact ⟨_, Stp.refl _ _ _, ⟨_, rfl, h210⟩⟩
              · rintro o306 w307 a308 ha ⟨hB, h127, h210, h224⟩ ⟨r309, -⟩
                obtain ⟨v310, e311, h312⟩ := r309
                have ha := Fr.cons (d := 98) ha e311
                refine opS_of ha (trivial) ?_
                refine wd_load1W h312 hx243 rfl rfl Try.isAgg3 ?_
                intro c313 h314
                cases h314
                exact ⟨_, Stp.refl _ _ _, rfl⟩
              · rintro o315 w316 a317 ha ⟨hB, h127, h210, h224⟩ -
                refine opS_of ha (trivial) ?_
                refine op1_val (ex_move rfl) ?_
                exact ⟨_, Stp.refl _ _ _, rfl⟩
              · rintro o318 w319 a320 ha ⟨hB, h127, h210, h224⟩ -
                refine opS_of ha (trivial) ?_
                refine op1_val (ex_move rfl) ?_
                exact ⟨_, Stp.refl _ _ _, rfl⟩
              · rintro o321 w322 a323 ha ⟨hB, h127, h210, h224⟩ ⟨r324, r325, -⟩
                have ha := Fr.cons (d := 100) ha r324
                have ha := Fr.cons (d := 101) ha r325
                refine opS_of ha (trivial) ?_
                refine wd_indexW h127 hx246 rfl rfl Try.underlying26 Try.sizeOf3 ?_
                exact ⟨_, Stp.refl _ _ _, ⟨_, rfl, h127⟩⟩
              · rintro o326 w327 a328 ha ⟨hB, h127, h210, h224⟩ ⟨r329, -⟩
                obtain ⟨v330, e331, h332⟩ := r329
                have ha := Fr.cons (d := 102) ha e331
                refine opS_of ha (trivial) ?_
                refine wd_load1W h332 hx246 rfl rfl Try.isAgg3 ?_
                intro c333 h334
                cases h334
                exact ⟨_, Stp.refl _ _ _, rfl⟩
              · rintro o335 w336 a337 ha ⟨hB, h127, h210, h224⟩ ⟨r338, r339, -⟩
                have ha := Fr.cons (d := 99) ha r338
                have ha := Fr.cons (d := 103) ha r339
                refine opS_of ha (trivial) ?_
                refine op1_val (ex_and rfl rfl) ?_
                exact ⟨_, Stp.refl _ _ _, rfl⟩
              · rintro o340 w341 a342 ha ⟨hB, h127, h210, h224⟩ ⟨r343, -⟩
                have ha := Fr.cons (d := 104) ha r343
                refine opS_of ha (trivial) ?_
                refine wf_call (cI_labelsIn fuel w341 o340 17 (by decide) (band x243 x246) x249 hx249) Try.call58 ⟨rfl, trivial⟩ ?_
                rintro e350 w344 ⟨v345, o351, rfl, h346, k347, k348⟩
                have s349 := k347.stp' 999 k348
                replace h346 := h346.mono hB.keeps.size
                refine ⟨_, rfl, ?_⟩
                replace h127 := h127.stp s349 (by decide) (by decide)
                replace h210 := h210.stp s349 (by decide) (by decide)
                replace h224 := h224.stp s349 (by decide) (by decide)
                replace hB := hB.stp s349 (by decide)
                exact ⟨_, s349, h346⟩
              · rintro o352 w353 a354 ha ⟨hB, h127, h210, h224⟩ ⟨r355, -⟩
                replace r355 : Ow w.heap.size 3 17 o352 w353 (a354.tmps.getD 105 undef) x249 := r355
                generalize e357 : a354.tmps.getD 105 undef = v356 at r355
                have ha := Fr.cons (d := 105) ha e357
                refine opS_of ha (trivial) ?_
                refine wd_indexW r355 hx258 rfl rfl Try.underlying26 Try.sizeOf3 ?_
                exact ⟨_, Stp.refl _ _ _, ⟨_, rfl, r355⟩⟩
              · rintro o358 w359 a360 ha ⟨hB, h127, h210, h224⟩ ⟨r361, -⟩
                obtain ⟨v362, e363, h364⟩ := r361
                have ha := Fr.cons (d := 106) ha e363
                refine opS_of ha (trivial) ?_
                refine wd_load1W h364 hx258 rfl rfl Try.isAgg3 ?_
                intro c365 h366
                cases h366
                exact ⟨_, Stp.refl _ _ _, rfl⟩
              · rintro o367 w368 a369 ha ⟨hB, h127, h210, h224⟩ ⟨r370, -⟩
                have ha := Fr.cons (d := 107) ha r370
                refine opS_of ha (trivial) ?_
                refine wf_litR (o := o367) (cs := [(.int .i64 x258)]) (xs := ([x258] : List Int)) (vs := [(0, (.int .i64 x258))]) ⟨_, _, rfl, rfl, rfl⟩ rfl ⟨rfl, rfl, trivial⟩ Try.underlying26 Try.sizeOf3 Try.zeroValue3 (by decide) (fill1 rfl) (by simp) ?_
                intro o371 w372 v373 h374 s375 k376
                replace h127 := h127.stp s375 (by decide) (by decide)
                replace h210 := h210.stp s375 (by decide) (by decide)
                replace h224 := h224.stp s375 (by decide) (by decide)
                replace hB := hB.stp s375 (by decide)
                exact ⟨_, s375, h374⟩
            rintro o377 w378 a379 ha ⟨hB, h127, h210, h224⟩ ⟨r380, -, -, -, -, -, -, -, -, -, -, -, -, -, -, -, -, -, r381, -⟩
            have ha := Fr.cons (d := 90) ha r380
            replace r381 : RdL o377 w378 (a379.tmps.getD 108 undef) (([x258] : List Int) : List Int) := r381
            generalize e383 : a379.tmps.getD 108 undef = v382 at r381
            have ha := Fr.cons (d := 108) ha e383
            refine wl_of ha ?_
            simp only [List.length_cons, List.length_nil, Nat.zero_add, Nat.reduceAdd, List.drop_succ_cons, List.drop_zero]
            obtain ⟨x384, hx384, b234⟩ := bind_some b234
            refine st_op (by decide) trivial ?_
            refine wf_cat h224 r381 (push_cat hx384) (by decide) hB.keeps.size rfl rfl Try.underlying26 info2_t_int_Fb rfl (by decide) ?_
            intro o385 w386 v387 h388 s389
            replace h127 := h127.stp s389 (by decide) (by decide)
            replace h210 := h210.stp s389 (by decide) (by decide)
            replace r381 := r381.stp s389 (by decide)
            replace hB := hB.stp s389 (by decide)
            refine st_val (ex_assign rfl) (by decide) trivial ?_
            refine wpF_end (r := [(12, v126), (17, v209), (18, v387), (19, (.int .i64 y225))]) ⟨rfl, rfl, rfl, rfl, trivial⟩ ?_
            refine nb_norm ?_
            refine nx ?_
            refine wpC_region ?_
            refine st_val (ex_move rfl) (by decide) trivial ?_
            obtain ⟨x390, hx390, b234⟩ := bind_some b234
            refine st_val (ex_sub rfl rfl hx390) (by decide) trivial ?_
            refine st_val (ex_assign rfl) (by decide) trivial ?_
            refine wpF_end (r := [(12, v126), (17, v209), (18, v387), (19, (.int .i64 x390))]) ⟨rfl, rfl, rfl, rfl, trivial⟩ ?_
            refine nt_norm ?_
            have e391 := Option.some.inj b234
            subst e391
            refine to_k (r := [(12, v126), (17, v209), (18, v387), (19, (.int .i64 x390))]) ⟨rfl, rfl, rfl, rfl, trivial⟩ ?_
            intro a ha
            exact ⟨K236, by omega, x384, x390, v387, o385, n235, ha, hB, h127, h210, h388⟩
          · rw [if_neg (by rw [t238]; decide)] at b234
            refine wpC_exit ?_
            refine nt_exit ?_
            refine nt_exit ?_
            refine nb_hit ?_
            refine np_norm ?_
            have e392 := Option.some.inj b234
            subst e392
            refine to_k (r := [(18, v223)]) ⟨rfl, trivial⟩ ?_
            intro a ha
            exact ⟨y222, y225, v223, o226, n235, ha, hB, h224⟩
        · rintro a w227 ⟨y222, y225, v223, o226, rfl, ha, hB, h224⟩
          dsimp only at hF
          refine ap_k ha ?_
          refine nx ?_
          refine wpC_seq ?_
          refine wpC_region ?_
          refine st_val (ex_move rfl) (by decide) trivial ?_
          refine st_val (ex_assign rfl) (by decide) trivial ?_
          refine wpF_end (r := [(8, v223)]) ⟨rfl, trivial⟩ ?_
          refine nx ?_
          refine wpC_ret ?_
          obtain ⟨x393, hx393, hF⟩ := bind_some hF
          have e394 := Option.some.inj hF
          subst e394
          refine ret_post (P := Try.prog) (vs := [v223]) Try.results70 ⟨rfl, trivial⟩ ?_
          exact ⟨_, rt oo o226 w.heap.size 16 t, rfl, h224.rt hB (by decide) t, (nx_of h224.z hx393), hB.keeps, rt_old _ _ _ _ _⟩
        · exact fun _ _ h => h.elim
    · exact fun _ _ h => h.elim
  · exact fun _ _ h => h.elim

def fI_gapsOf_s1 (p0 : Int) (p1 : List Int) : Int → Int → (List Int) → Option (Lp (List Int) (List Int) (List Int)) := fun (i7 : Int) (x17 : Int) (s : List Int) =>
  (ix p1 0) >>= fun x23 =>
  (ck (p0 + x23)) >>= fun x29 =>
  (ck (i7 + 1)) >>= fun x30 =>
  if decide (x30 < (p1.length : Int)) then
    (ck (i7 + 1)) >>= fun x32 =>
    (ix p1 x32) >>= fun x33 =>
    (ck (x33 - x17)) >>= fun x39 =>
    (push s x39) >>= fun x46 =>
    some (.go x46)
  else
    (ck (x29 - x17)) >>= fun x53 =>
    (push s x53) >>= fun x60 =>
    some (.go x60)
def fI_gapsOf (p0 : Int) (p1 : List Int) : Option (List Int) :=
  (forI (fI_gapsOf_s1 p0 p1) p1 0 []) >>= fun q8 =>
  match q8 with
  | .inl y2 =>
    some y2
  | .inr _ => none

def pI_gapsOf (oo : Tg) (t : Nat) (w : World) (r : List Int) : Ending → World → Prop := fun e w' => ∃ (v0 : Value) (o' : Tg), e = .returned (v0) ∧ Ow w.heap.size 3 t o' w' v0 r ∧ Keeps w w' ∧ ∀ b, b < w.heap.size → o' b = oo b
set_option maxRecDepth 100000 in
set_option maxHeartbeats 2000000 in
theorem cI_gapsOf (w : World) (oo : Tg) (t : Nat) (ht : 2 ≤ t) (p0 : Int) (u1 : Value) (p1 : List Int) (g1 : RdL zt w u1 p1) (r : List Int) (hF : fI_gapsOf p0 p1 = some r) :
    Calls Try.prog 69 #[.int .i64 p0, u1] w (pI_gapsOf oo t w r) := by
  unfold fI_gapsOf at hF
  have hB : Bs oo (col oo) w w := Bs.start _ _
  refine calls_start (n := 39) (vs := [(.int .i64 p0), u1]) Try.func69 rfl rfl ?_
  generalize col oo = o at *
  refine wpC_seq ?_
  refine wpC_region ?_
  refine st_val (ex_assign rfl) (by decide) trivial ?_
  refine wpF_end (r := [(0, (.int .i64 p0)), (1, u1)]) ⟨rfl, rfl, trivial⟩ ?_
  refine nx ?_
  refine wpC_seq ?_
  refine wpC_region ?_
  refine st_val (ex_assign rfl) (by decide) trivial ?_
  refine wpF_end (r := [(0, (.int .i64 p0)), (1, u1), (5, (.slice none 0 0))]) ⟨rfl, rfl, rfl, trivial⟩ ?_
  refine nx ?_
  refine wpC_seq ?_
  refine wpC_seq ?_
  refine wpC_region ?_
  refine st_val (ex_move rfl) (by decide) trivial ?_
  refine st_val (ex_lenR rfl g1 Try.underlying26) (by decide) trivial ?_
  refine st_val (ex_move rfl) (by decide) trivial ?_
  refine wpF_end (r := [(0, (.int .i64 p0)), (1, u1), (5, (.slice none 0 0)), (9, u1), (10, (.int .i64 (p1.length : Int))), (11, (.int .i64 0))]) ⟨rfl, rfl, rfl, rfl, rfl, rfl, trivial⟩ ?_
  refine nx ?_
  have h1 : Ow w.heap.size 3 11 o w (.slice none 0 0) ([] : List Int) := Ow.nil _ _ _ _ _
  obtain ⟨q8, hq8, hF⟩ := bind_some hF
  refine wpC_cutN (fun a w6 => ∃ (y2 : List Int) (v3 : Value) (o5 : Tg), q8 = .inl y2 ∧ Fr a 39 [(5, v3)] ∧ Bs oo o5 w w6 ∧ Ow w.heap.size 3 11 o5 w6 v3 y2) (fun _ _ => False) ?_ ?_ ?_
  · refine wpC_block ?_
    refine wpC_loop (fun (K : Nat) a w6 => ∃ (i7 : Int) (y2 : List Int) (v3 : Value) (o5 : Tg), forI (fI_gapsOf_s1 p0 p1) (p1.drop i7.toNat) i7 y2 = some q8 ∧ (p1.drop i7.toNat).length = K ∧ 0 ≤ i7 ∧ Fr a 39 [(0, (.int .i64 p0)), (1, u1), (5, v3), (9, u1), (10, (.int .i64 (p1.length : Int))), (11, (.int .i64 i7))] ∧ Bs oo o5 w w6 ∧ Ow w.heap.size 3 11 o5 w6 v3 y2) _ (fun a ha => ⟨0, [], (.slice none 0 0), o, hq8, rfl, Int.le_refl 0, ha.sub (r := [(0, (.int .i64 p0)), (1, u1), (5, (.slice none 0 0)), (9, u1), (10, (.int .i64 (p1.length : Int))), (11, (.int .i64 0))]) ⟨rfl, rfl, rfl, rfl, rfl, rfl, trivial⟩, hB, h1⟩) ?_
    rintro K12 a w6 ⟨i7, y2, v3, o5, l9, m11, z10, ha, hB, h4⟩
    by_cases t16 : i7 < (p1.length : Int)
    · obtain ⟨x17, q13, hx17, b14, n15⟩ := forI_cons z10 t16 l9
      have hle := g1.len_le
      dsimp only [fI_gapsOf_s1] at b14
      refine wp_of ha ?_
      refine wpC_seq ?_
      refine wpC_region ?_
      refine st_val (ex_lss rfl rfl) (by decide) trivial ?_
      refine wpF_end (r := [(0, (.int .i64 p0)), (1, u1), (5, v3), (9, u1), (10, (.int .i64 (p1.length : Int))), (11, (.int .i64 i7)), (12, (.bool (decide (i7 < (p1.length : Int)))))]) ⟨rfl, rfl, rfl, rfl, rfl, rfl, rfl, trivial⟩ ?_
      refine nx ?_
      refine wpC_seq ?_
      refine wpC_true (congrArg (fun b => some (Value.bool b)) (decide_eq_true t16)) ?_
      refine wpC_skip ?_
      refine nx ?_
      refine wpC_seq ?_
      refine wpC_block ?_
      refine wpC_seq ?_
      refine wpC_region ?_
      refine st_val (ex_move rfl) (by decide) trivial ?_
      refine st_op (by decide) trivial ?_
      refine wf_atZ g1 hx17 hB rfl rfl Try.underlying26 Try.sizeOf3 ?_
      intro b18 f19 c20 h21 h22
      cases h22
      refine st_val (ex_load1 rfl Try.isAgg3 (cell_of_cells h21)) (by decide) trivial ?_
      refine st_val (ex_assign rfl) (by decide) trivial ?_
      refine st_val (ex_assign rfl) (by decide) trivial ?_
      refine wpF_end (r := [(0, (.int .i64 p0)), (1, u1), (5, v3), (6, (.int .i64 i7)), (7, (.int .i64 x17)), (9, u1), (10, (.int .i64 (p1.length : Int))), (11, (.int .i64 i7))]) ⟨rfl, rfl, rfl, rfl, rfl, rfl, rfl, rfl, trivial⟩ ?_
      refine nx ?_
      refine wpC_seq ?_
      refine wpC_region ?_
      refine st_val (ex_move rfl) (by decide) trivial ?_
      refine st_val (ex_move rfl) (by decide) trivial ?_
      obtain ⟨x23, hx23, b14⟩ := bind_some b14
      refine st_op (by decide) trivial ?_
      refine wf_atZ g1 hx23 hB rfl rfl Try.underlying26 Try.sizeOf3 ?_
      intro b24 f25 c26 h27 h28
      cases h28
      refine st_val (ex_load1 rfl Try.isAgg3 (cell_of_cells h27)) (by decide) trivial ?_
      obtain ⟨x29, hx29, b14⟩ := bind_some b14
      refine st_val (ex_add rfl rfl hx29) (by decide) trivial ?_
      refine st_val (ex_assign rfl) (by decide) trivial ?_
      refine wpF_end (r := [(0, (.int .i64 p0)), (1, u1), (5, v3), (6, (.int .i64 i7)), (7, (.int .i64 x17)), (8, (.int .i64 x29)), (9, u1), (10, (.int .i64 (p1.length : Int))), (11, (.int .i64 i7))]) ⟨rfl, rfl, rfl, rfl, rfl, rfl, rfl, rfl, rfl, trivial⟩ ?_
      refine nx ?_
      refine wpC_seq ?_
      refine wpC_seq ?_
      refine wpC_region ?_
      refine st_val (ex_move rfl) (by decide) trivial ?_
      obtain ⟨x30, hx30, b14⟩ := bind_some b14
      refine st_val (ex_add rfl rfl hx30) (by decide) trivial ?_
      refine st_val (ex_move rfl) (by decide) trivial ?_
      refine st_val (ex_lenR rfl g1 Try.underlying26) (by decide) trivial ?_
      refine st_val (ex_lss rfl rfl) (by decide) trivial ?_
      refine wpF_end (r := [(0, (.int .i64 p0)), (1, u1), (5, v3), (6, (.int .i64 i7)), (7, (.int .i64 x17)), (8, (.int .i64 x29)), (9, u1), (10, (.int .i64 (p1.length : Int))), (11, (.int .i64 i7)), (25, (.bool (decide (x30 < (p1.length : Int)))))]) ⟨rfl, rfl, rfl, rfl, rfl, rfl, rfl, rfl, rfl, rfl, trivial⟩ ?_
      refine nx ?_
      refine wpC_cond rfl (fun t31 => ?_) (fun t31 => ?_)
      · rw [if_pos t31] at b14
        refine wpC_region ?_
        refine st_val (ex_move rfl) (by decide) trivial ?_
        refine st_val (ex_move rfl) (by decide) trivial ?_
        obtain ⟨x32, hx32, b14⟩ := bind_some b14
        refine st_val (ex_add rfl rfl hx32) (by decide) trivial ?_
        obtain ⟨x33, hx33, b14⟩ := bind_some b14
        refine st_op (by decide) trivial ?_
        refine wf_atZ g1 hx33 hB rfl rfl Try.underlying26 Try.sizeOf3 ?_
        intro b34 f35 c36 h37 h38
        cases h38
        refine st_val (ex_load1 rfl Try.isAgg3 (cell_of_cells h37)) (by decide) trivial ?_
        refine st_val (ex_assign rfl) (by decide) trivial ?_
        refine wpF_end (r := [(0, (.int .i64 p0)), (1, u1), (5, v3), (7, (.int .i64 x17)), (8, (.int .i64 x33)), (9, u1), (10, (.int .i64 (p1.length : Int))), (11, (.int .i64 i7))]) ⟨rfl, rfl, rfl, rfl, rfl, rfl, rfl, rfl, trivial⟩ ?_
        refine nx ?_
        refine wpC_region ?_
        refine st_val (ex_move rfl) (by decide) trivial ?_
        refine st_val (ex_move rfl) (by decide) trivial ?_
        refine st_val (ex_move rfl) (by decide) trivial ?_
        obtain ⟨x39, hx39, b14⟩ := bind_some b14
        refine st_val (ex_sub rfl rfl hx39) (by decide) trivial ?_
        refine st_op (by decide) trivial ?_
        refine wf_litR (o := o5) (cs := [(.int .i64 x39)]) (xs := ([x39] : List Int)) (vs := [(0, (.int .i64 x39))]) ⟨_, _, rfl, rfl, rfl⟩ rfl ⟨rfl, rfl, trivial⟩ Try.underlying26 Try.sizeOf3 Try.zeroValue3 (by decide) (fill1 rfl) (by simp) ?_
        intro o40 w41 v42 h43 s44 k45
        replace h4 := h4.stp s44 (by decide) (by decide)
        replace hB := hB.stp s44 (by decide)
        obtain ⟨x46, hx46, b14⟩ := bind_some b14
        refine st_op (by decide) trivial ?_
        refine wf_cat h4 h43 (push_cat hx46) (by decide) hB.keeps.size rfl rfl Try.underlying26 info2_t_int_Fb rfl (by decide) ?_
        intro o47 w48 v49 h50 s51
        replace h43 := h43.stp s51 (by decide)
        replace hB := hB.stp s51 (by decide)
        refine st_val (ex_assign rfl) (by decide) trivial ?_
        refine wpF_end (r := [(0, (.int .i64 p0)), (1, u1), (5, v49), (9, u1), (10, (.int .i64 (p1.length : Int))), (11, (.int .i64 i7))]) ⟨rfl, rfl, rfl, rfl, rfl, rfl, trivial⟩ ?_
        refine nb_norm ?_
        refine nx ?_
        refine wpC_region ?_
        refine st_val (ex_add rfl rfl (ck_in (by omega) (by omega))) (by decide) trivial ?_
        refine st_val (ex_move rfl) (by decide) trivial ?_
        refine wpF_end (r := [(0, (.int .i64 p0)), (1, u1), (5, v49), (9, u1), (10, (.int .i64 (p1.length : Int))), (11, (.int .i64 (i7 + 1)))]) ⟨rfl, rfl, rfl, rfl, rfl, rfl, trivial⟩ ?_
        refine nt_norm ?_
        have e52 := Option.some.inj b14
        subst e52
        refine to_k (r := [(0, (.int .i64 p0)), (1, u1), (5, v49), (9, u1), (10, (.int .i64 (p1.length : Int))), (11, (.int .i64 (i7 + 1)))]) ⟨rfl, rfl, rfl, rfl, rfl, rfl, trivial⟩ ?_
        intro a ha
        exact ⟨_, (by rw [← m11]; simp only [List.length_drop]; omega), i7 + 1, x46, v49, o47, n15, rfl, (by omega), ha, hB, h50⟩
      · rw [if_neg (by rw [t31]; decide)] at b14
        refine wpC_skip ?_
        refine nx ?_
        refine wpC_region ?_
        refine st_val (ex_move rfl) (by decide) trivial ?_
        refine st_val (ex_move rfl) (by decide) trivial ?_
        refine st_val (ex_move rfl) (by decide) trivial ?_
        obtain ⟨x53, hx53, b14⟩ := bind_some b14
        refine st_val (ex_sub rfl rfl hx53) (by decide) trivial ?_
        refine st_op (by decide) trivial ?_
        refine wf_litR (o := o5) (cs := [(.int .i64 x53)]) (xs := ([x53] : List Int)) (vs := [(0, (.int .i64 x53))]) ⟨_, _, rfl, rfl, rfl⟩ rfl ⟨rfl, rfl, trivial⟩ Try.underlying26 Try.sizeOf3 Try.zeroValue3 (by decide) (fill1 rfl) (by simp) ?_
        intro o54 w55 v56 h57 s58 k59
        replace h4 := h4.stp s58 (by decide) (by decide)
        replace hB := hB.stp s58 (by decide)
        obtain ⟨x60, hx60, b14⟩ := bind_some b14
        refine st_op (by decide) trivial ?_
        refine wf_cat h4 h57 (push_cat hx60) (by decide) hB.keeps.size rfl rfl Try.underlying26 info2_t_int_Fb rfl (by decide) ?_
        intro o61 w62 v63 h64 s65
        replace h57 := h57.stp s65 (by decide)
        replace hB := hB.stp s65 (by decide)
        refine st_val (ex_assign rfl) (by decide) trivial ?_
        refine wpF_end (r := [(0, (.int .i64 p0)), (1, u1), (5, v63), (9, u1), (10, (.int .i64 (p1.length : Int))), (11, (.int .i64 i7))]) ⟨rfl, rfl, rfl, rfl, rfl, rfl, trivial⟩ ?_
        refine nb_norm ?_
        refine nx ?_
        refine wpC_region ?_
        refine st_val (ex_add rfl rfl (ck_in (by omega) (by omega))) (by decide) trivial ?_
        refine st_val (ex_move rfl) (by decide) trivial ?_
        refine wpF_end (r := [(0, (.int .i64 p0)), (1, u1), (5, v63), (9, u1), (10, (.int .i64 (p1.length : Int))), (11, (.int .i64 (i7 + 1)))]) ⟨rfl, rfl, rfl, rfl, rfl, rfl, trivial⟩ ?_
        refine nt_norm ?_
        have e66 := Option.some.inj b14
        subst e66
        refine to_k (r := [(0, (.int .i64 p0)), (1, u1), (5, v63), (9, u1), (10, (.int .i64 (p1.length : Int))), (11, (.int .i64 (i7 + 1)))]) ⟨rfl, rfl, rfl, rfl, rfl, rfl, trivial⟩ ?_
        intro a ha
        exact ⟨_, (by rw [← m11]; simp only [List.length_drop]; omega), i7 + 1, x60, v63, o61, n15, rfl, (by omega), ha, hB, h64⟩
    · have r67 := forI_done t16 l9
      refine wp_of ha ?_
      refine wpC_seq ?_
      refine wpC_region ?_
      refine st_val (ex_lss rfl rfl) (by decide) trivial ?_
      refine wpF_end (r := [(0, (.int .i64 p0)), (1, u1), (5, v3), (9, u1), (10, (.int .i64 (p1.length : Int))), (11, (.int .i64 i7)), (12, (.bool (decide (i7 < (p1.length : Int)))))]) ⟨rfl, rfl, rfl, rfl, rfl, rfl, rfl, trivial⟩ ?_
      refine nx ?_
      refine wpC_seq ?_
      refine wpC_false (congrArg (fun b => some (Value.bool b)) (decide_eq_false t16)) ?_
      refine wpC_exit ?_
      refine nt_exit ?_
      refine nt_exit ?_
      refine nb_hit ?_
      refine np_norm ?_
      refine to_k (r := [(5, v3)]) ⟨rfl, trivial⟩ ?_
      intro a ha
      exact ⟨y2, v3, o5, r67, ha, hB, h4⟩
  · rintro a w6 ⟨y2, v3, o5, rfl, ha, hB, h4⟩
    dsimp only at hF
    refine ap_k ha ?_
    refine nx ?_
    refine wpC_seq ?_
    refine wpC_region ?_
    refine st_val (ex_move rfl) (by decide) trivial ?_
    refine st_val (ex_assign rfl) (by decide) trivial ?_
    refine wpF_end (r := [(4, v3)]) ⟨rfl, trivial⟩ ?_
    refine nx ?_
    refine wpC_ret ?_
    have e68 := Option.some.inj hF
    subst e68
    refine ret_post (P := Try.prog) (vs := [v3]) Try.results69 ⟨rfl, trivial⟩ ?_
    exact ⟨_, rt oo o5 w.heap.size 11 t, rfl, h4.rt hB (by decide) t, hB.keeps, rt_old _ _ _ _ _⟩
  · exact fun _ _ h => h.elim

def fI_marksOk (p0 : Int) (p1 : List Int) : Option Bool :=
  (fI_within p0 2 180) >>= fun x1 =>
  (
    if x1 then
      if decide ((p1.length : Int) > 0) then
        (ck (p0 - 1)) >>= fun x12 =>
        (fI_increasing p1 0 x12) >>= fun x13 =>
        some x13
      else
        some false
    else
      some false) >>= fun q7 =>
  some q7

def pI_marksOk (w : World) (r : Bool) : Ending → World → Prop := fun e w' => e = .returned (.bool r) ∧ Keeps w w'
set_option maxRecDepth 100000 in
set_option maxHeartbeats 2000000 in
theorem cI_marksOk (w : World) (p0 : Int) (u1 : Value) (p1 : List Int) (g1 : RdL zt w u1 p1) (r : Bool) (hF : fI_marksOk p0 p1 = some r) :
    Calls Try.prog 68 #[.int .i64 p0, u1] w (pI_marksOk w r) := by
  unfold fI_marksOk at hF
  have hB : Bs (fun _ => 1) (col (fun _ => 1)) w w := Bs.start _ _
  refine calls_start (n := 18) (vs := [(.int .i64 p0), u1]) Try.func68 rfl rfl ?_
  refine wpC_seq ?_
  refine wpC_region ?_
  refine st_val (ex_assign rfl) (by decide) trivial ?_
  refine wpF_end (r := [(0, (.int .i64 p0)), (1, u1)]) ⟨rfl, rfl, trivial⟩ ?_
  refine nx ?_
  refine wpC_seq ?_
  refine wpC_region ?_
  refine st_val (ex_move rfl) (by decide) trivial ?_
  obtain ⟨x1, hx1, hF⟩ := bind_some hF
  refine st_op (by decide) trivial ?_
  refine wf_call (cI_within w p0 2 180 x1 hx1) Try.call57 ⟨rfl, rfl, rfl, trivial⟩ ?_
  rintro e6 w2 ⟨rfl, k3⟩
  have s5 := k3.stp 999 (col (fun _ => 1))
  refine ⟨_, rfl, ?_⟩
  replace hB := hB.stp s5 (by decide)
  refine st_val (ex_move rfl) (by decide) trivial ?_
  obtain ⟨q7, hq7, hF⟩ := bind_some hF
  refine wpF_cutAt 10 (fun a9 w8 => Fr a9 18 [(17, (.bool q7))] ∧ Keeps w2 w8) ?_ ?_
  all_goals simp only [List.take_succ_cons, List.take_zero, List.drop_succ_cons, List.drop_zero]
  · have kp : Keeps w2 w2 := Keeps.refl _
    rcases Bool.eq_false_or_eq_true (x1) with t10 | t10
    · rw [if_pos t10] at hq7
      refine st_val (ex_move rfl) (by decide) ⟨_, rfl, (congrArg (fun b => some (Value.bool b)) t10)⟩ ?_
      refine st_val (ex_lenR rfl g1 Try.underlying26) (by decide) ⟨_, rfl, (congrArg (fun b => some (Value.bool b)) t10)⟩ ?_
      refine st_val (ex_gtr rfl rfl) (by decide) ⟨_, rfl, (congrArg (fun b => some (Value.bool b)) t10)⟩ ?_
      refine st_val (ex_pick_t (congrArg (fun b => some (Value.bool b)) t10) rfl) (by decide) trivial ?_
      refine st_val (ex_move rfl) (by decide) trivial ?_
      rcases Bool.eq_false_or_eq_true (decide ((p1.length : Int) > 0)) with t11 | t11
      · rw [if_pos t11] at hq7
        refine st_val (ex_move rfl) (by decide) ⟨_, rfl, (congrArg (fun b => some (Value.bool b)) t11)⟩ ?_
        refine st_val (ex_move rfl) (by decide) ⟨_, rfl, (congrArg (fun b => some (Value.bool b)) t11)⟩ ?_
        obtain ⟨x12, hx12, hq7⟩ := bind_some hq7
        refine st_val (ex_sub rfl rfl hx12) (by decide) ⟨_, rfl, (congrArg (fun b => some (Value.bool b)) t11)⟩ ?_
        obtain ⟨x13, hx13, hq7⟩ := bind_some hq7
        refine st_op (by decide) ⟨_, rfl, (congrArg (fun b => some (Value.bool b)) t11)⟩ ?_
        refine wf_call (cI_increasing w2 _ p1 (g1.keep hB.keeps) 0 x12 x13 hx13) Try.call120 ⟨rfl, rfl, rfl, trivial⟩ ?_
        rintro e18 w14 ⟨rfl, k15⟩
        have s17 := k15.stp 999 (col (fun _ => 1))
        refine ⟨_, rfl, ?_⟩
        replace hB := hB.stp s17 (by decide)
        replace kp := Keeps.trans kp k15
        refine st_val (ex_pick_t (congrArg (fun b => some (Value.bool b)) t11) rfl) (by decide) trivial ?_
        have hq72 := Option.some.inj hq7
        refine wpF_end (r := [(17, (.bool x13))]) ⟨rfl, trivial⟩ ?_
        subst hq72
        refine np_norm (fun a ha => ⟨ha, kp⟩)
      · rw [if_neg (by rw [t11]; decide)] at hq7
        refine st_no rfl rfl (by rw [t11]; rfl) (by decide) ?_
        refine st_no rfl rfl (by rw [t11]; rfl) (by decide) ?_
        refine st_no rfl rfl (by rw [t11]; rfl) (by decide) ?_
        refine st_no rfl rfl (by rw [t11]; rfl) (by decide) ?_
        refine st_val (ex_pick_f (congrArg (fun b => some (Value.bool b)) t11) rfl) (by decide) trivial ?_
        have hq72 := Option.some.inj hq7
        refine wpF_end (r := [(17, (.bool false))]) ⟨rfl, trivial⟩ ?_
        subst hq72
        refine np_norm (fun a ha => ⟨ha, kp⟩)
    · rw [if_neg (by rw [t10]; decide)] at hq7
      refine st_no rfl rfl (by rw [t10]; rfl) (by decide) ?_
      refine st_no rfl rfl (by rw [t10]; rfl) (by decide) ?_
      refine st_no rfl rfl (by rw [t10]; rfl) (by decide) ?_
      refine st_val (ex_pick_f (congrArg (fun b => some (Value.bool b)) t10) rfl) (by decide) trivial ?_
      refine st_val (ex_move rfl) (by decide) trivial ?_
      refine st_no rfl rfl rfl (by decide) ?_
      refine st_no rfl rfl rfl (by decide) ?_
      refine st_no rfl rfl rfl (by decide) ?_
      refine st_no rfl rfl rfl (by decide) ?_
      refine st_val (ex_pick_f rfl rfl) (by decide) trivial ?_
      have hq72 := Option.some.inj hq7
      refine wpF_end (r := [(17, (.bool false))]) ⟨rfl, trivial⟩ ?_
      subst hq72
      refine np_norm (fun a ha => ⟨ha, kp⟩)
  rintro a21 w8 ⟨ha, k19⟩
  have s20 := k19.stp 999 (col (fun _ => 1))
  replace hB := hB.stp s20 (by decide)
  refine wl_of ha ?_
  refine st_val (ex_assign rfl) (by decide) trivial ?_
  refine wpF_end (r := [(4, (.bool q7))]) ⟨rfl, trivial⟩ ?_
  refine nx ?_
  refine wpC_ret ?_
  have e22 := Option.some.inj hF
  subst e22
  refine ret_post (P := Try.prog) (vs := [(.bool q7)]) Try.results68 ⟨rfl, trivial⟩ ?_
  exact ⟨rfl, hB.keeps⟩

def fI_FillCycle_s2 (p2 : Int) (p3 : List Int) (i61 : Int) (x77 : List Int) : Int → (List Int) → Option (Lp (List Int) (List Int) ((List Int) × Bool)) := fun (i93 : Int) (s : List Int) =>
  (ix p3 i61) >>= fun x105 =>
  (ck (x105 + i93)) >>= fun x108 =>
  (rem x108 p2) >>= fun x109 =>
  (ix x77 i93) >>= fun x110 =>
  (ix s x109) >>= fun x178 =>
  (st s x109 x110) >>= fun x187 =>
  some (.go x187)
def fI_FillCycle_s1 (fuel : Nat) (p0 : T_WalkProblem) (p1 : Int) (p2 : Int) (p3 : List Int) : Int → Int → (List Int) → Option (Lp (List Int) (List Int) ((List Int) × Bool)) := fun (i61 : Int) (x71 : Int) (s : List Int) =>
  (fI_WalkProblem_walkBetween fuel p0 p1 p1 x71) >>= fun x77 =>
  if x77.isEmpty then
    some (.ret ([], false))
  else
    ck x71 >>= fun _ =>
    (forN (fI_FillCycle_s2 p2 p3 i61 x77) (x71).toNat 0 s) >>= fun q94 =>
    match q94 with
    | .inl y89 =>
      some (.go y89)
    | .inr _ => none
def fI_FillCycle (fuel : Nat) (p0 : T_WalkProblem) (p1 : Int) (p2 : Int) (p3 : List Int) : Option ((List Int) × Bool) :=
  (fI_IsWalkProblem p0) >>= fun x8 =>
  (
    if !x8 then
      some true
    else
      (fI_WalkProblem_hasLabels p0 ([p1] : List Int)) >>= fun x24 =>
      if !x24 then
        some true
      else
        (fI_marksOk p2 p3) >>= fun x31 =>
        some (!x31)) >>= fun q14 =>
  if q14 then
    some ([], false)
  else
    (mk (Rz.z : Int) p2) >>= fun x42 =>
    (fI_gapsOf p2 p3) >>= fun x48 =>
    (forI (fI_FillCycle_s1 fuel p0 p1 p2 p3) x48 0 x42) >>= fun q62 =>
    match q62 with
    | .inl y57 =>
      some (y57, true)
    | .inr r' => some r'

def pI_FillCycle (oo : Tg) (t : Nat) (w : World) (r : (List Int) × Bool) : Ending → World → Prop := fun e w' => ∃ (v0 : Value) (o' : Tg), e = .returned (.tuple #[v0, .bool r.2]) ∧ Ow w.heap.size 3 t o' w' v0 r.1 ∧ Keeps w w' ∧ ∀ b, b < w.heap.size → o' b = oo b
set_option maxRecDepth 100000 in
set_option maxHeartbeats 2000000 in
theorem cI_FillCycle (fuel : Nat) (w : World) (oo : Tg) (t : Nat) (ht : 2 ≤ t) (u0 : List Value) (p0 : T_WalkProblem) (g0 : Rp.rd zt w u0 p0) (p1 : Int) (p2 : Int) (u3 : Value) (p3 : List Int) (g3 : RdL zt w u3 p3) (r : (List Int) × Bool) (hF : fI_FillCycle fuel p0 p1 p2 p3 = some r) :
    Calls Try.prog 31 #[.agg u0.toArray, .int .i64 p1, .int .i64 p2, u3] w (pI_FillCycle oo t w r) := by
  unfold fI_FillCycle at hF
  obtain ⟨v1, rfl, h2⟩ := g0
  have hB : Bs oo (col oo) w w := Bs.start _ _
  refine calls_start (n := 70) (vs := [(.agg #[(.int .i64 p0.Labels), v1]), (.int .i64 p1), (.int .i64 p2), u3]) Try.func31 rfl rfl ?_
  generalize col oo = o at *
  refine wpC_seq ?_
  refine wpC_region ?_
  refine st_op (by decide) trivial ?_
  refine wf_box (o := o) w.heap.size 11 hB.keeps.size (cs := [(.int .i64 p0.Labels), v1]) rfl rfl ?_
  intro o3 w4 b5 h6 s7
  replace hB := hB.stp s7 (by decide)
  refine st_val (ex_assign rfl) (by decide) trivial ?_
  refine st_val (ex_assign rfl) (by decide) trivial ?_
  refine wpF_end (r := [(1, (.int .i64 p1)), (2, (.int .i64 p2)), (3, u3), (4, (.pointer (some ⟨b5, 0, none⟩)))]) ⟨rfl, rfl, rfl, rfl, trivial⟩ ?_
  refine nx ?_
  refine wpC_seq ?_
  refine wpC_seq ?_
  refine wpC_region ?_
  refine st_val (ex_loadA rfl Try.isAgg44 Try.sizeOf44 rfl h6.cells) (by decide) trivial ?_
  obtain ⟨x8, hx8, hF⟩ := bind_some hF
  refine st_op (by decide) trivial ?_
  refine wf_call (cI_IsWalkProblem w4 _ p0 (⟨_, rfl, (h2.keep hB.keeps)⟩) x8 hx8) Try.call63 ⟨rfl, trivial⟩ ?_
  rintro e13 w9 ⟨rfl, k10⟩
  have s12 := k10.stp 999 o3
  refine ⟨_, rfl, ?_⟩
  replace h6 := h6.stp s12 (by decide)
  replace hB := hB.stp s12 (by decide)
  refine st_val (ex_not rfl) (by decide) trivial ?_
  refine st_val (ex_move rfl) (by decide) trivial ?_
  obtain ⟨q14, hq14, hF⟩ := bind_some hF
  refine wpF_cutAt 12 (fun a16 w15 => Fr a16 70 [(1, (.int .i64 p1)), (2, (.int .i64 p2)), (3, u3), (4, (.pointer (some ⟨b5, 0, none⟩))), (30, (.bool q14))] ∧ Keeps w9 w15) ?_ ?_
  all_goals simp only [List.take_succ_cons, List.take_zero, List.drop_succ_cons, List.drop_zero]
  · have kp : Keeps w9 w9 := Keeps.refl _
    rcases Bool.eq_false_or_eq_true (!x8) with t17 | t17
    · rw [if_pos t17] at hq14
      refine st_no rfl rfl (by rw [t17]; rfl) (by decide) ?_
      refine st_no rfl rfl (by rw [t17]; rfl) (by decide) ?_
      refine st_no rfl rfl (by rw [t17]; rfl) (by decide) ?_
      refine st_no rfl rfl (by rw [t17]; rfl) (by decide) ?_
      refine st_no rfl rfl (by rw [t17]; rfl) (by decide) ?_
      refine st_val (ex_pick_t (congrArg (fun b => some (Value.bool b)) t17) rfl) (by decide) trivial ?_
      refine st_val (ex_move rfl) (by decide) trivial ?_
      refine st_no rfl rfl rfl (by decide) ?_
      refine st_no rfl rfl rfl (by decide) ?_
      refine st_no rfl rfl rfl (by decide) ?_
      refine st_no rfl rfl rfl (by decide) ?_
      refine st_val (ex_pick_t rfl rfl) (by decide) trivial ?_
      have hq142 := Option.some.inj hq14
      refine wpF_end (r := [(1, (.int .i64 p1)), (2, (.int .i64 p2)), (3, u3), (4, (.pointer (some ⟨b5, 0, none⟩))), (30, (.bool true))]) ⟨rfl, rfl, rfl, rfl, rfl, trivial⟩ ?_
      subst hq142
      refine np_norm (fun a ha => ⟨ha, kp⟩)
    · rw [if_neg (by rw [t17]; decide)] at hq14
      refine st_val (ex_loadA rfl Try.isAgg44 Try.sizeOf44 rfl h6.cells) (by decide) ⟨_, rfl, (congrArg (fun b => some (Value.bool b)) t17)⟩ ?_
      refine st_val (ex_move rfl) (by decide) ⟨_, rfl, (congrArg (fun b => some (Value.bool b)) t17)⟩ ?_
      refine st_op (by decide) ⟨_, rfl, (congrArg (fun b => some (Value.bool b)) t17)⟩ ?_
      refine wf_litR (o := o3) (cs := [(.int .i64 p1)]) (xs := ([p1] : List Int)) (vs := [(0, (.int .i64 p1))]) ⟨_, _, rfl, rfl, rfl⟩ rfl ⟨rfl, rfl, trivial⟩ Try.underlying26 Try.sizeOf3 Try.zeroValue3 (by decide) (fill1 rfl) (by simp) ?_
      intro o18 w19 v20 h21 s22 k23
      replace h6 := h6.stp s22 (by decide)
      replace hB := hB.stp s22 (by decide)
      replace kp := Keeps.trans kp k23
      obtain ⟨x24, hx24, hq14⟩ := bind_some hq14
      refine st_op (by decide) ⟨_, rfl, (congrArg (fun b => some (Value.bool b)) t17)⟩ ?_
      refine wf_call (cI_WalkProblem_hasLabels w19 _ p0 (⟨_, rfl, (h2.keep hB.keeps)⟩) _ ([p1] : List Int) h21.z x24 hx24) Try.call67 ⟨rfl, rfl, trivial⟩ ?_
      rintro e29 w25 ⟨rfl, k26⟩
      have s28 := k26.stp 999 o18
      refine ⟨_, rfl, ?_⟩
      replace h21 := h21.stp s28 (by decide)
      replace h6 := h6.stp s28 (by decide)
      replace hB := hB.stp s28 (by decide)
      replace kp := Keeps.trans kp k26
      refine st_val (ex_not rfl) (by decide) ⟨_, rfl, (congrArg (fun b => some (Value.bool b)) t17)⟩ ?_
      refine st_val (ex_pick_f (congrArg (fun b => some (Value.bool b)) t17) rfl) (by decide) trivial ?_
      refine st_val (ex_move rfl) (by decide) trivial ?_
      rcases Bool.eq_false_or_eq_true (!x24) with t30 | t30
      · rw [if_pos t30] at hq14
        refine st_no rfl rfl (by rw [t30]; rfl) (by decide) ?_
        refine st_no rfl rfl (by rw [t30]; rfl) (by decide) ?_
        refine st_no rfl rfl (by rw [t30]; rfl) (by decide) ?_
        refine st_no rfl rfl (by rw [t30]; rfl) (by decide) ?_
        refine st_val (ex_pick_t (congrArg (fun b => some (Value.bool b)) t30) rfl) (by decide) trivial ?_
        have hq142 := Option.some.inj hq14
        refine wpF_end (r := [(1, (.int .i64 p1)), (2, (.int .i64 p2)), (3, u3), (4, (.pointer (some ⟨b5, 0, none⟩))), (30, (.bool true))]) ⟨rfl, rfl, rfl, rfl, rfl, trivial⟩ ?_
        subst hq142
        refine np_norm (fun a ha => ⟨ha, kp⟩)
      · rw [if_neg (by rw [t30]; decide)] at hq14
        refine st_val (ex_move rfl) (by decide) ⟨_, rfl, (congrArg (fun b => some (Value.bool b)) t30)⟩ ?_
        refine st_val (ex_move rfl) (by decide) ⟨_, rfl, (congrArg (fun b => some (Value.bool b)) t30)⟩ ?_
        obtain ⟨x31, hx31, hq14⟩ := bind_some hq14
        refine st_op (by decide) ⟨_, rfl, (congrArg (fun b => some (Value.bool b)) t30)⟩ ?_
        refine wf_call (cI_marksOk w25 p2 _ p3 (g3.keep hB.keeps) x31 hx31) Try.call68 ⟨rfl, rfl, trivial⟩ ?_
        rintro e36 w32 ⟨rfl, k33⟩
        have s35 := k33.stp 999 o18
        refine ⟨_, rfl, ?_⟩
        replace h21 := h21.stp s35 (by decide)
        replace h6 := h6.stp s35 (by decide)
        replace hB := hB.stp s35 (by decide)
        replace kp := Keeps.trans kp k33
        refine st_val (ex_not rfl) (by decide) ⟨_, rfl, (congrArg (fun b => some (Value.bool b)) t30)⟩ ?_
        refine st_val (ex_pick_f (congrArg (fun b => some (Value.bool b)) t30) rfl) (by decide) trivial ?_
        have hq142 := Option.some.inj hq14
        refine wpF_end (r := [(1, (.int .i64 p1)), (2, (.int .i64 p2)), (3, u3), (4, (.pointer (some ⟨b5, 0, none⟩))), (30, (.bool (!x31)))]) ⟨rfl, rfl, rfl, rfl, rfl, trivial⟩ ?_
        subst hq142
        refine np_norm (fun a ha => ⟨ha, kp⟩)
  rintro a39 w15 ⟨ha, k37⟩
  have s38 := k37.stp 999 o3
  replace h6 := h6.stp s38 (by decide)
  replace hB := hB.stp s38 (by decide)
  refine wl_of ha ?_
  refine wpF_end (r := [(1, (.int .i64 p1)), (2, (.int .i64 p2)), (3, u3), (4, (.pointer (some ⟨b5, 0, none⟩))), (30, (.bool q14))]) ⟨rfl, rfl, rfl, rfl, rfl, trivial⟩ ?_
  refine nx ?_
  refine wpC_cond rfl (fun t40 => ?_) (fun t40 => ?_)
  · rw [if_pos t40] at hF
    refine wpC_seq ?_
    refine wpC_region ?_
    refine st_val (ex_assign rfl) (by decide) trivial ?_
    refine st_val (ex_assign rfl) (by decide) trivial ?_
    refine wpF_end (r := [(8, (.slice none 0 0)), (9, (.bool false))]) ⟨rfl, rfl, trivial⟩ ?_
    refine nx ?_
    refine wpC_ret ?_
    refine nt_ret ?_
    have e41 := Option.some.inj hF
    subst e41
    refine ret_post (P := Try.prog) (vs := [(.slice none 0 0), (.bool false)]) Try.results31 ⟨rfl, rfl, trivial⟩ ?_
    exact ⟨_, rt oo o3 w.heap.size 9 t, rfl, (Ow.nil _ _ _ _ _), hB.keeps, rt_old _ _ _ _ _⟩
  · rw [if_neg (by rw [t40]; decide)] at hF
    refine wpC_skip ?_
    refine nx ?_
    refine wpC_seq ?_
    refine wpC_region ?_
    refine st_val (ex_move rfl) (by decide) trivial ?_
    obtain ⟨x42, hx42, hF⟩ := bind_some hF
    refine st_op (by decide) trivial ?_
    refine wf_make (o := o3) w.heap.size 15 hB.keeps.size hx42 rfl rfl Try.underlying26 info2_t_int_Fb rfl (by decide) ?_
    intro o43 w44 v45 h46 s47
    replace h6 := h6.stp s47 (by decide)
    replace hB := hB.stp s47 (by decide)
    refine st_val (ex_assign rfl) (by decide) trivial ?_
    refine wpF_end (r := [(1, (.int .i64 p1)), (2, (.int .i64 p2)), (3, u3), (4, (.pointer (some ⟨b5, 0, none⟩))), (10, v45)]) ⟨rfl, rfl, rfl, rfl, rfl, trivial⟩ ?_
    refine nx ?_
    refine wpC_seq ?_
    refine wpC_seq ?_
    refine wpC_region ?_
    refine st_val (ex_move rfl) (by decide) trivial ?_
    refine st_val (ex_move rfl) (by decide) trivial ?_
    obtain ⟨x48, hx48, hF⟩ := bind_some hF
    refine st_op (by decide) trivial ?_
    refine wf_call (cI_gapsOf w44 o43 16 (by decide) p2 _ p3 (g3.keep hB.keeps) x48 hx48) Try.call69 ⟨rfl, rfl, trivial⟩ ?_
    rintro e55 w49 ⟨v50, o56, rfl, h51, k52, k53⟩
    have s54 := k52.stp' 16 k53
    replace h51 := h51.mono hB.keeps.size
    refine ⟨_, rfl, ?_⟩
    replace h46 := h46.stp s54 (by decide) (by decide)
    replace h6 := h6.stp s54 (by decide)
    replace hB := hB.stp s54 (by decide)
    refine st_val (ex_lenO rfl h51 Try.underlying26) (by decide) trivial ?_
    refine st_val (ex_move rfl) (by decide) trivial ?_
    refine wpF_end (r := [(1, (.int .i64 p1)), (2, (.int .i64 p2)), (3, u3), (4, (.pointer (some ⟨b5, 0, none⟩))), (10, v45), (35, v50), (36, (.int .i64 (x48.length : Int))), (37, (.int .i64 0))]) ⟨rfl, rfl, rfl, rfl, rfl, rfl, rfl, rfl, trivial⟩ ?_
    refine nx ?_
    obtain ⟨q62, hq62, hF⟩ := bind_some hF
    refine wpC_cutN (fun a w60 => ∃ (y57 : List Int) (o59 : Tg), q62 = .inl y57 ∧ Fr a 70 [(10, v45)] ∧ Bs oo o59 w w60 ∧ Ow w.heap.size 3 15 o59 w60 v45 y57) (fun a w' => ∃ r', q62 = .inr r' ∧ bodyPost Try.prog Try.f31 (pI_FillCycle oo t w r') .ret a w') ?_ ?_ ?_
    · refine wpC_block ?_
      refine wpC_loop (fun (K : Nat) a w60 => ∃ (i61 : Int) (y57 : List Int) (o59 : Tg), forI (fI_FillCycle_s1 fuel p0 p1 p2 p3) (x48.drop i61.toNat) i61 y57 = some q62 ∧ (x48.drop i61.toNat).length = K ∧ 0 ≤ i61 ∧ Fr a 70 [(1, (.int .i64 p1)), (2, (.int .i64 p2)), (3, u3), (4, (.pointer (some ⟨b5, 0, none⟩))), (10, v45), (35, v50), (36, (.int .i64 (x48.length : Int))), (37, (.int .i64 i61))] ∧ Bs oo o59 w w60 ∧ Ow w.heap.size 3 15 o59 w60 v45 y57 ∧ Ow w.heap.size 3 16 o59 w60 v50 x48 ∧ Bx w.heap.size 11 o59 w60 b5 44 [(.int .i64 p0.Labels), v1]) _ (fun a ha => ⟨0, x42, o56, hq62, rfl, Int.le_refl 0, ha.sub (r := [(1, (.int .i64 p1)), (2, (.int .i64 p2)), (3, u3), (4, (.pointer (some ⟨b5, 0, none⟩))), (10, v45), (35, v50), (36, (.int .i64 (x48.length : Int))), (37, (.int .i64 0))]) ⟨rfl, rfl, rfl, rfl, rfl, rfl, rfl, rfl, trivial⟩, hB, h46, h51, h6⟩) ?_
      rintro K66 a w60 ⟨i61, y57, o59, l63, m65, z64, ha, hB, h58, h51, h6⟩
      by_cases t70 : i61 < (x48.length : Int)
      · obtain ⟨x71, q67, hx71, b68, n69⟩ := forI_cons z64 t70 l63
        have hle := h51.len_le
        dsimp only [fI_FillCycle_s1] at b68
        refine wp_of ha ?_
        refine wpC_seq ?_
        refine wpC_region ?_
        refine st_val (ex_lss rfl rfl) (by decide) trivial ?_
        refine wpF_end (r := [(1, (.int .i64 p1)), (2, (.int .i64 p2)), (3, u3), (4, (.pointer (some ⟨b5, 0, none⟩))), (10, v45), (35, v50), (36, (.int .i64 (x48.length : Int))), (37, (.int .i64 i61)), (38, (.bool (decide (i61 < (x48.length : Int)))))]) ⟨rfl, rfl, rfl, rfl, rfl, rfl, rfl, rfl, rfl, trivial⟩ ?_
        refine nx ?_
        refine wpC_seq ?_
        refine wpC_true (congrArg (fun b => some (Value.bool b)) (decide_eq_true t70)) ?_
        refine wpC_skip ?_
        refine nx ?_
        refine wpC_seq ?_
        refine wpC_block ?_
        refine wpC_seq ?_
        refine wpC_region ?_
        refine st_val (ex_move rfl) (by decide) trivial ?_
        refine st_op (by decide) trivial ?_
        refine wf_atW h51 hx71 rfl rfl Try.underlying26 Try.sizeOf3 ?_
        intro b72 f73 c74 h75 h76
        cases h76
        refine st_val (ex_load1 rfl Try.isAgg3 (cell_of_cells h75)) (by decide) trivial ?_
        refine st_val (ex_assign rfl) (by decide) trivial ?_
        refine st_val (ex_assign rfl) (by decide) trivial ?_
        refine wpF_end (r := [(1, (.int .i64 p1)), (2, (.int .i64 p2)), (3, u3), (4, (.pointer (some ⟨b5, 0, none⟩))), (10, v45), (11, (.int .i64 i61)), (12, (.int .i64 x71)), (35, v50), (36, (.int .i64 (x48.length : Int))), (37, (.int .i64 i61))]) ⟨rfl, rfl, rfl, rfl, rfl, rfl, rfl, rfl, rfl, rfl, trivial⟩ ?_
        refine nx ?_
        refine wpC_seq ?_
        refine wpC_region ?_
        refine st_val (ex_loadA rfl Try.isAgg44 Try.sizeOf44 rfl h6.cells) (by decide) trivial ?_
        refine st_val (ex_move rfl) (by decide) trivial ?_
        refine st_val (ex_move rfl) (by decide) trivial ?_
        refine st_val (ex_move rfl) (by decide) trivial ?_
        obtain ⟨x77, hx77, b68⟩ := bind_some b68
        refine st_op (by decide) trivial ?_
        refine wf_call (cI_WalkProblem_walkBetween fuel w60 o59 17 (by decide) _ p0 (⟨_, rfl, (h2.keep hB.keeps)⟩) p1 p1 x71 x77 hx77) Try.call70 ⟨rfl, rfl, rfl, rfl, trivial⟩ ?_
        rintro e85 w78 ⟨v79, o86, rfl, h80, n81, k82, k83⟩
        have s84 := k82.stp' 17 k83
        replace h80 := h80.mono hB.keeps.size
        refine ⟨_, rfl, ?_⟩
        replace h58 := h58.stp s84 (by decide) (by decide)
        replace h51 := h51.stp s84 (by decide) (by decide)
        replace h6 := h6.stp s84 (by decide)
        replace hB := hB.stp s84 (by decide)
        refine st_val (ex_assign rfl) (by decide) trivial ?_
        refine wpF_end (r := [(1, (.int .i64 p1)), (2, (.int .i64 p2)), (3, u3), (4, (.pointer (some ⟨b5, 0, none⟩))), (10, v45), (11, (.int .i64 i61)), (12, (.int .i64 x71)), (13, v79), (35, v50), (36, (.int .i64 (x48.length : Int))), (37, (.int .i64 i61))]) ⟨rfl, rfl, rfl, rfl, rfl, rfl, rfl, rfl, rfl, rfl, rfl, trivial⟩ ?_
        refine nx ?_
        refine wpC_seq ?_
        refine wpC_seq ?_
        refine wpC_region ?_
        refine st_val (ex_move rfl) (by decide) trivial ?_
        refine st_val (ex_eqlnil h80.z rfl rfl Try.underlying26) (by decide) trivial ?_
        refine wpF_end (r := [(1, (.int .i64 p1)), (2, (.int .i64 p2)), (3, u3), (4, (.pointer (some ⟨b5, 0, none⟩))), (10, v45), (11, (.int .i64 i61)), (12, (.int .i64 x71)), (13, v79), (35, v50), (36, (.int .i64 (x48.length : Int))), (37, (.int .i64 i61)), (48, (.bool (isnil v79)))]) ⟨rfl, rfl, rfl, rfl, rfl, rfl, rfl, rfl, rfl, rfl, rfl, rfl, trivial⟩ ?_
        refine nx ?_
        refine wpC_cond rfl (fun t87 => ?_) (fun t87 => ?_)
        · replace t87 := n81.symm.trans t87
          rw [if_pos t87] at b68
          refine wpC_seq ?_
          refine wpC_region ?_
          refine st_val (ex_assign rfl) (by decide) trivial ?_
          refine st_val (ex_assign rfl) (by decide) trivial ?_
          refine wpF_end (r := [(8, (.slice none 0 0)), (9, (.bool false))]) ⟨rfl, rfl, trivial⟩ ?_
          refine nx ?_
          refine wpC_ret ?_
          refine nt_ret ?_
          refine nb_ret ?_
          refine nt_ret ?_
          refine nt_ret ?_
          refine nb_ret ?_
          refine np_ret ?_
          have e88 := Option.some.inj b68
          subst e88
          refine fun a ha => ⟨_, n69, ?_⟩
          refine ret_post (P := Try.prog) (vs := [(.slice none 0 0), (.bool false)]) Try.results31 ⟨rfl, rfl, trivial⟩ ?_ a ha
          exact ⟨_, rt oo o86 w.heap.size 9 t, rfl, (Ow.nil _ _ _ _ _), hB.keeps, rt_old _ _ _ _ _⟩
        · replace t87 := n81.symm.trans t87
          rw [if_neg (by rw [t87]; decide)] at b68
          refine wpC_skip ?_
          refine nx ?_
          refine wpC_seq ?_
          refine wpC_region ?_
          refine st_val (ex_move rfl) (by decide) trivial ?_
          refine st_val (ex_move rfl) (by decide) trivial ?_
          refine wpF_end (r := [(1, (.int .i64 p1)), (2, (.int .i64 p2)), (3, u3), (4, (.pointer (some ⟨b5, 0, none⟩))), (10, v45), (11, (.int .i64 i61)), (13, v79), (35, v50), (36, (.int .i64 (x48.length : Int))), (37, (.int .i64 i61)), (49, (.int .i64 x71)), (50, (.int .i64 0))]) ⟨rfl, rfl, rfl, rfl, rfl, rfl, rfl, rfl, rfl, rfl, rfl, rfl, trivial⟩ ?_
          refine nx ?_
          obtain ⟨u96, h95, b68⟩ := bind_some b68
          obtain ⟨-, h95a, h95b⟩ := ck_some h95
          obtain ⟨q94, hq94, b68⟩ := bind_some b68
          refine wpC_cutN (fun a w92 => ∃ (y89 : List Int) (o91 : Tg), q94 = .inl y89 ∧ Fr a 70 [(1, (.int .i64 p1)), (2, (.int .i64 p2)), (3, u3), (4, (.pointer (some ⟨b5, 0, none⟩))), (10, v45), (35, v50), (36, (.int .i64 (x48.length : Int))), (37, (.int .i64 i61))] ∧ Bs oo o91 w w92 ∧ Ow w.heap.size 3 15 o91 w92 v45 y89 ∧ Ow w.heap.size 3 16 o91 w92 v50 x48 ∧ Bx w.heap.size 11 o91 w92 b5 44 [(.int .i64 p0.Labels), v1]) (fun _ _ => False) ?_ ?_ ?_
          · refine wpC_block ?_
            refine wpC_loop (fun (K : Nat) a w92 => ∃ (i93 : Int) (y89 : List Int) (o91 : Tg), forN (fI_FillCycle_s2 p2 p3 i61 x77) (x71 - i93).toNat i93 y89 = some q94 ∧ (x71 - i93).toNat = K ∧ 0 ≤ i93 ∧ Fr a 70 [(1, (.int .i64 p1)), (2, (.int .i64 p2)), (3, u3), (4, (.pointer (some ⟨b5, 0, none⟩))), (10, v45), (11, (.int .i64 i61)), (13, v79), (35, v50), (36, (.int .i64 (x48.length : Int))), (37, (.int .i64 i61)), (49, (.int .i64 x71)), (50, (.int .i64 i93))] ∧ Bs oo o91 w w92 ∧ Ow w.heap.size 3 15 o91 w92 v45 y89 ∧ Ow w.heap.size 3 17 o91 w92 v79 x77 ∧ Ow w.heap.size 3 16 o91 w92 v50 x48 ∧ Bx w.heap.size 11 o91 w92 b5 44 [(.int .i64 p0.Labels), v1]) _ (fun a ha => ⟨0, y57, o86, (by rw [Int.sub_zero]; exact hq94), rfl, Int.le_refl 0, ha.sub (r := [(1, (.int .i64 p1)), (2, (.int .i64 p2)), (3, u3), (4, (.pointer (some ⟨b5, 0, none⟩))), (10, v45), (11, (.int .i64 i61)), (13, v79), (35, v50), (36, (.int .i64 (x48.length : Int))), (37, (.int .i64 i61)), (49, (.int .i64 x71)), (50, (.int .i64 0))]) ⟨rfl, rfl, rfl, rfl, rfl, rfl, rfl, rfl, rfl, rfl, rfl, rfl, trivial⟩, hB, h58, h80, h51, h6⟩) ?_
            rintro K100 a w92 ⟨i93, y89, o91, l97, m99, z98, ha, hB, h90, h80, h51, h6⟩
            by_cases t104 : i93 < x71
            · obtain ⟨q101, b102, n103⟩ := forN_cons t104 l97
              dsimp only [fI_FillCycle_s2] at b102
              refine wp_of ha ?_
              refine wpC_seq ?_
              refine wpC_region ?_
              refine st_val (ex_lss rfl rfl) (by decide) trivial ?_
              refine wpF_end (r := [(1, (.int .i64 p1)), (2, (.int .i64 p2)), (3, u3), (4, (.pointer (some ⟨b5, 0, none⟩))), (10, v45), (11, (.int .i64 i61)), (13, v79), (35, v50), (36, (.int .i64 (x48.length : Int))), (37, (.int .i64 i61)), (49, (.int .i64 x71)), (50, (.int .i64 i93)), (51, (.bool (decide (i93 < x71))))]) ⟨rfl, rfl, rfl, rfl, rfl, rfl, rfl, rfl, rfl, rfl, rfl, rfl, rfl, trivial⟩ ?_
              refine nx ?_
              refine wpC_seq ?_
              refine wpC_true (congrArg (fun b => some (Value.bool b)) (decide_eq_true t104)) ?_
              refine wpC_skip ?_
              refine nx ?_
              refine wpC_seq ?_
              refine wpC_block ?_
              refine wpC_seq ?_
              refine wpC_region ?_
              refine st_val (ex_move rfl) (by decide) trivial ?_
              refine st_val (ex_assign rfl) (by decide) trivial ?_
              refine wpF_end (r := [(1, (.int .i64 p1)), (2, (.int .i64 p2)), (3, u3), (4, (.pointer (some ⟨b5, 0, none⟩))), (10, v45), (11, (.int .i64 i61)), (13, v79), (14, (.int .i64 i93)), (35, v50), (36, (.int .i64 (x48.length : Int))), (37, (.int .i64 i61)), (49, (.int .i64 x71)), (50, (.int .i64 i93))]) ⟨rfl, rfl, rfl, rfl, rfl, rfl, rfl, rfl, rfl, rfl, rfl, rfl, rfl, trivial⟩ ?_
              refine nx ?_
              obtain ⟨x105, hx105, b102⟩ := bind_some b102
              obtain ⟨x108, hx108, b102⟩ := bind_some b102
              obtain ⟨x109, hx109, b102⟩ := bind_some b102
              obtain ⟨x110, hx110, b102⟩ := bind_some b102
              refine wpC_drawn (o := o91) [(1, (.int .i64 p1)), (2, (.int .i64 p2)), (3, u3), (4, (.pointer (some ⟨b5, 0, none⟩))), (10, v45), (11, (.int .i64 i61)), (13, v79), (14, (.int .i64 i93)), (35, v50), (36, (.int .i64 (x48.length : Int))), (37, (.int .i64 i61)), (49, (.int .i64 x71)), (50, (.int .i64 i93))] [1, 2, 3, 4, 10, 11, 13, 14, 35, 36, 37, 49, 50] [53, 54, 55, 56, 57, 58, 59, 60, 61, 62, 63, 64, 65] [[], [], [], [1, 2], [3], [], [4, 5], [], [6, 7], [], [], [9, 10], [11]] [none, none, none, none, none, none, none, none, none, none, none, none, none] [999, 999, 999, 999, 999, 999, 999, 999, 999, 999, 999, 999, 999] [0, 0, 0, 0, 0, 0, 0, 0, 0, 0, 0, 17, 0] [999] [fun v _ _ => v = v45, fun v _ _ => v = u3, fun v _ _ => v = (.int .i64 i61), fun v o w9 => ∃ vl, v = adr vl (i61.toNat * Rp.sz Int) ∧ RdL zt w vl p3, fun v _ _ => v = (.int .i64 x105), fun v _ _ => v = (.int .i64 i93), fun v _ _ => v = (.int .i64 x108), fun v _ _ => v = (.int .i64 p2), fun v _ _ => v = (.int .i64 x109), fun v _ _ => v = v79, fun v _ _ => v = (.int .i64 i93), fun v o w9 => ∃ vl, v = adr vl (i93.toNat * Rp.sz Int) ∧ Ow w.heap.size 3 17 o w9 vl x77, fun v _ _ => v = (.int .i64 x110)] (fun o8 w8 => Bs oo o8 w w8 ∧ Ow w.heap.size 3 15 o8 w8 v45 y89 ∧ Ow w.heap.size 3 17 o8 w8 v79 x77 ∧ Ow w.heap.size 3 16 o8 w8 v50 x48 ∧ Bx w.heap.size 11 o8 w8 b5 44 [(.int .i64 p0.Labels), v1]) follows_mixed (by kernel_rfl) rfl ⟨rfl, rfl, rfl, rfl, rfl, rfl, rfl, rfl, rfl, rfl, rfl, rfl, rfl, trivial⟩ ⟨hB, h90, h80, h51, h6⟩ ?_ ⟨st_eq _, st_eq _, st_eq _, fun _ _ _ _ _ _ h0 hb ⟨vl, e, h⟩ hs => ⟨vl, e, h⟩, st_eq _, st_eq _, st_eq _, st_eq _, st_eq _, st_eq _, st_eq _, fun _ _ _ _ _ _ h0 hb ⟨vl, e, h⟩ hs => ⟨vl, e, h.stp hs h0.1 (Ne.symm hb)⟩, st_eq _, trivial⟩ ?_ ?_
              · rintro t9 o1 w1 o2 w2 ht9 ⟨hB, h90, h80, h51, h6⟩ hs9
                have ht9 : t9 = 999 := by simpa using ht9
                subst ht9
                all_goals exact ⟨hB.stp hs9 (by decide), h90.stp hs9 (by decide) (by decide), h80.stp hs9 (by decide) (by decide), h51.stp hs9 (by decide) (by decide), h6.stp hs9 (by decide)⟩
              · refine ⟨?_, ?_, ?_, ?_, ?_, ?_, ?_, ?_, ?_, ?_, ?_, ?_, ?_, trivial⟩
                · rintro o113 w114 a115 ha ⟨hB, h90, h80, h51, h6⟩ -
                  refine opS_of ha (trivial) ?_
                  refine op1_val (ex_move rfl) ?_
                  exact ⟨_, Stp.refl _ _ _, rfl⟩
                · rintro o116 w117 a118 ha ⟨hB, h90, h80, h51, h6⟩ -
                  refine opS_of ha (trivial) ?_
                  refine op1_val (ex_move rfl) ?_
                  exact ⟨_, Stp.refl _ _ _, rfl⟩
                · rintro o119 w120 a121 ha ⟨hB, h90, h80, h51, h6⟩ -
                  refine opS_of ha (trivial) ?_
                  refine op1_val (ex_move rfl) ?_
                  exact ⟨_, Stp.refl _ _ _, rfl⟩
                · rintro o122 w123 a124 ha ⟨hB, h90, h80, h51, h6⟩ ⟨r125, r126, -⟩
                  have ha := Fr.cons (d := 54) ha r125
                  have ha := Fr.cons (d := 55) ha r126
                  refine opS_of ha (trivial) ?_
                  refine wd_indexR g3 hx105 rfl rfl Try.underlying26 Try.sizeOf3 ?_
                  exact ⟨_, Stp.refl _ _ _, ⟨_, rfl, g3⟩⟩
                · rintro o127 w128 a129 ha ⟨hB, h90, h80, h51, h6⟩ ⟨r130, -⟩
                  obtain ⟨v131, e132, h133⟩ := r130
                  have ha := Fr.cons (d := 56) ha e132
                  refine opS_of ha (trivial) ?_
                  refine wd_load1Z h133 hx105 hB rfl rfl Try.isAgg3 ?_
                  intro c134 h135
                  cases h135
                  exact ⟨_, Stp.refl _ _ _, rfl⟩
                · rintro o136 w137 a138 ha ⟨hB, h90, h80, h51, h6⟩ -
                  refine opS_of ha (trivial) ?_
                  refine op1_val (ex_move rfl) ?_
                  exact ⟨_, Stp.refl _ _ _, rfl⟩
                · rintro o139 w140 a141 ha ⟨hB, h90, h80, h51, h6⟩ ⟨r142, r143, -⟩
                  have ha := Fr.cons (d := 57) ha r142
                  have ha := Fr.cons (d := 58) ha r143
                  refine opS_of ha (trivial) ?_
                  refine op1_val (ex_add rfl rfl hx108) ?_
                  exact ⟨_, Stp.refl _ _ _, rfl⟩
                · rintro o144 w145 a146 ha ⟨hB, h90, h80, h51, h6⟩ -
                  refine opS_of ha (trivial) ?_
                  refine op1_val (ex_move rfl) ?_
                  exact ⟨_, Stp.refl _ _ _, rfl⟩
                · rintro o147 w148 a149 ha ⟨hB, h90, h80, h51, h6⟩ ⟨r150, r151, -⟩
                  have ha := Fr.cons (d := 59) ha r150
                  have ha := Fr.cons (d := 60) ha r151
                  refine opS_of ha (trivial) ?_
                  refine op1_val (ex_rem rfl rfl hx109) ?_
                  exact ⟨_, Stp.refl _ _ _, rfl⟩
                · rintro o152 w153 a154 ha ⟨hB, h90, h80, h51, h6⟩ -
                  refine opS_of ha (trivial) ?_
                  refine op1_val (ex_move rfl) ?_
                  exact ⟨_, Stp.refl _ _ _, rfl⟩
                · rintro o155 w156 a157 ha ⟨hB, h90, h80, h51, h6⟩ -
                  refine opS_of ha (trivial) ?_
                  refine op1_val (ex_move rfl) ?_
                  exact ⟨_, Stp.refl _ _ _, rfl⟩
                · rintro o158 w159 a160 ha ⟨hB, h90, h80, h51, h6⟩ ⟨r161, r162, -⟩
                  have ha := Fr.cons (d := 62) ha r161
                  have ha := Fr.cons (d := 63) ha r162
                  refine opS_of ha (trivial) ?_
                  refine wd_indexW h80 hx110 rfl rfl Try.underlying26 Try.sizeOf3 ?_
                  exact ⟨_, Stp.refl _ _ _, ⟨_, rfl, h80⟩⟩
                · rintro o163 w164 a165 ha ⟨hB, h90, h80, h51, h6⟩ ⟨r166, -⟩
                  obtain ⟨v167, e168, h169⟩ := r166
                  have ha := Fr.cons (d := 64) ha e168
                  refine opS_of ha (trivial) ?_
                  refine wd_load1W h169 hx110 rfl rfl Try.isAgg3 ?_
                  intro c170 h171
                  cases h171
                  exact ⟨_, Stp.refl _ _ _, rfl⟩
              rintro o172 w173 a174 ha ⟨hB, h90, h80, h51, h6⟩ ⟨r175, -, -, -, -, -, -, -, r176, -, -, -, r177, -⟩
              have ha := Fr.cons (d := 53) ha r175
              have ha := Fr.cons (d := 61) ha r176
              have ha := Fr.cons (d := 65) ha r177
              refine wl_of ha ?_
              simp only [List.length_cons, List.length_nil, Nat.zero_add, Nat.reduceAdd, List.drop_succ_cons, List.drop_zero]
              obtain ⟨x178, hx178, b102⟩ := bind_some b102
              refine st_op (by decide) trivial ?_
              refine wf_atP h90 hx178 rfl rfl Try.underlying26 Try.sizeOf3 ?_
              intro b179 c181 h184 h182 h183
              cases h183
              obtain ⟨x187, hx187, b102⟩ := bind_some b102
              refine st_op0 trivial ?_
              refine wf_storeW h90 h184 hx187 rfl (by decide) rfl rfl rfl Try.sizeOf3 rfl ?_
              intro w185 h188 s186
              replace h80 := h80.stp s186 (by decide) (by decide)
              replace h51 := h51.stp s186 (by decide) (by decide)
              replace h6 := h6.stp s186 (by decide)
              replace hB := hB.stp s186 (by decide)
              refine wpF_end (r := [(1, (.int .i64 p1)), (2, (.int .i64 p2)), (3, u3), (4, (.pointer (some ⟨b5, 0, none⟩))), (10, v45), (11, (.int .i64 i61)), (13, v79), (35, v50), (36, (.int .i64 (x48.length : Int))), (37, (.int .i64 i61)), (49, (.int .i64 x71)), (50, (.int .i64 i93))]) ⟨rfl, rfl, rfl, rfl, rfl, rfl, rfl, rfl, rfl, rfl, rfl, rfl, trivial⟩ ?_
              refine nb_norm ?_
              refine nx ?_
              refine wpC_region ?_
              refine st_val (ex_add rfl rfl (ck_in (by omega) (by omega))) (by decide) trivial ?_
              refine st_val (ex_move rfl) (by decide) trivial ?_
              refine wpF_end (r := [(1, (.int .i64 p1)), (2, (.int .i64 p2)), (3, u3), (4, (.pointer (some ⟨b5, 0, none⟩))), (10, v45), (11, (.int .i64 i61)), (13, v79), (35, v50), (36, (.int .i64 (x48.length : Int))), (37, (.int .i64 i61)), (49, (.int .i64 x71)), (50, (.int .i64 (i93 + 1)))]) ⟨rfl, rfl, rfl, rfl, rfl, rfl, rfl, rfl, rfl, rfl, rfl, rfl, trivial⟩ ?_
              refine nt_norm ?_
              have e189 := Option.some.inj b102
              subst e189
              refine to_k (r := [(1, (.int .i64 p1)), (2, (.int .i64 p2)), (3, u3), (4, (.pointer (some ⟨b5, 0, none⟩))), (10, v45), (11, (.int .i64 i61)), (13, v79), (35, v50), (36, (.int .i64 (x48.length : Int))), (37, (.int .i64 i61)), (49, (.int .i64 x71)), (50, (.int .i64 (i93 + 1)))]) ⟨rfl, rfl, rfl, rfl, rfl, rfl, rfl, rfl, rfl, rfl, rfl, rfl, trivial⟩ ?_
              intro a ha
              exact ⟨_, (by rw [← m99]; omega), i93 + 1, x187, o172, n103, rfl, (by omega), ha, hB, h188, h80, h51, h6⟩
            · have r190 := forN_done t104 l97
              refine wp_of ha ?_
              refine wpC_seq ?_
              refine wpC_region ?_
              refine st_val (ex_lss rfl rfl) (by decide) trivial ?_
              refine wpF_end (r := [(1, (.int .i64 p1)), (2, (.int .i64 p2)), (3, u3), (4, (.pointer (some ⟨b5, 0, none⟩))), (10, v45), (11, (.int .i64 i61)), (13, v79), (35, v50), (36, (.int .i64 (x48.length : Int))), (37, (.int .i64 i61)), (49, (.int .i64 x71)), (50, (.int .i64 i93)), (51, (.bool (decide (i93 < x71))))]) ⟨rfl, rfl, rfl, rfl, rfl, rfl, rfl, rfl, rfl, rfl, rfl, rfl, rfl, trivial⟩ ?_
              refine nx ?_
              refine wpC_seq ?_
              refine wpC_false (congrArg (fun b => some (Value.bool b)) (decide_eq_false t104)) ?_
              refine wpC_exit ?_
              refine nt_exit ?_
              refine nt_exit ?_
              refine nb_hit ?_
              refine np_norm ?_
              refine to_k (r := [(1, (.int .i64 p1)), (2, (.int .i64 p2)), (3, u3), (4, (.pointer (some ⟨b5, 0, none⟩))), (10, v45), (35, v50), (36, (.int .i64 (x48.length : Int))), (37, (.int .i64 i61))]) ⟨rfl, rfl, rfl, rfl, rfl, rfl, rfl, rfl, trivial⟩ ?_
              intro a ha
              exact ⟨y89, o91, r190, ha, hB, h90, h51, h6⟩
          · rintro a w92 ⟨y89, o91, rfl, ha, hB, h90, h51, h6⟩
            dsimp only at b68
            refine ap_k ha ?_
            refine nb_norm ?_
            refine nx ?_
            refine wpC_region ?_
            refine st_val (ex_add rfl rfl (ck_in (by omega) (by omega))) (by decide) trivial ?_
            refine st_val (ex_move rfl) (by decide) trivial ?_
            refine wpF_end (r := [(1, (.int .i64 p1)), (2, (.int .i64 p2)), (3, u3), (4, (.pointer (some ⟨b5, 0, none⟩))), (10, v45), (35, v50), (36, (.int .i64 (x48.length : Int))), (37, (.int .i64 (i61 + 1)))]) ⟨rfl, rfl, rfl, rfl, rfl, rfl, rfl, rfl, trivial⟩ ?_
            refine nt_norm ?_
            have e191 := Option.some.inj b68
            subst e191
            refine to_k (r := [(1, (.int .i64 p1)), (2, (.int .i64 p2)), (3, u3), (4, (.pointer (some ⟨b5, 0, none⟩))), (10, v45), (35, v50), (36, (.int .i64 (x48.length : Int))), (37, (.int .i64 (i61 + 1)))]) ⟨rfl, rfl, rfl, rfl, rfl, rfl, rfl, rfl, trivial⟩ ?_
            intro a ha
            exact ⟨_, (by rw [← m65]; simp only [List.length_drop]; omega), i61 + 1, y89, o91, n69, rfl, (by omega), ha, hB, h90, h51, h6⟩
          · exact fun _ _ h => h.elim
      · have r192 := forI_done t70 l63
        refine wp_of ha ?_
        refine wpC_seq ?_
        refine wpC_region ?_
        refine st_val (ex_lss rfl rfl) (by decide) trivial ?_
        refine wpF_end (r := [(1, (.int .i64 p1)), (2, (.int .i64 p2)), (3, u3), (4, (.pointer (some ⟨b5, 0, none⟩))), (10, v45), (35, v50), (36, (.int .i64 (x48.length : Int))), (37, (.int .i64 i61)), (38, (.bool (decide (i61 < (x48.length : Int)))))]) ⟨rfl, rfl, rfl, rfl, rfl, rfl, rfl, rfl, rfl, trivial⟩ ?_
        refine nx ?_
        refine wpC_seq ?_
        refine wpC_false (congrArg (fun b => some (Value.bool b)) (decide_eq_false t70)) ?_
        refine wpC_exit ?_
        refine nt_exit ?_
        refine nt_exit ?_
        refine nb_hit ?_
        refine np_norm ?_
        refine to_k (r := [(10, v45)]) ⟨rfl, trivial⟩ ?_
        intro a ha
        exact ⟨y57, o59, r192, ha, hB, h58⟩
    · rintro a w60 ⟨y57, o59, rfl, ha, hB, h58⟩
      dsimp only at hF
      refine ap_k ha ?_
      refine nx ?_
      refine wpC_seq ?_
      refine wpC_region ?_
      refine st_val (ex_move rfl) (by decide) trivial ?_
      refine st_val (ex_assign rfl) (by decide) trivial ?_
      refine st_val (ex_assign rfl) (by decide) trivial ?_
      refine wpF_end (r := [(8, v45), (9, (.bool true))]) ⟨rfl, rfl, trivial⟩ ?_
      refine nx ?_
      refine wpC_ret ?_
      have e193 := Option.some.inj hF
      subst e193
      refine ret_post (P := Try.prog) (vs := [v45, (.bool true)]) Try.results31 ⟨rfl, rfl, trivial⟩ ?_
      exact ⟨_, rt oo o59 w.heap.size 15 t, rfl, h58.rt hB (by decide) t, hB.keeps, rt_old _ _ _ _ _⟩
    · rintro a w60 ⟨r', rfl, b194⟩
      dsimp only at hF
      have e195 := Option.some.inj hF
      subst e195
      exact b194

end Go.Proofs.Ytabclfacjaeblaa
