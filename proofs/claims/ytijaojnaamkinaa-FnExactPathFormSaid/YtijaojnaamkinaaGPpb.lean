/- (impl.RootedProblem).pathForm, impl.PathForm: plain functions, and the walks that show that the program computes them (printed by gen.py). -/
import Derived.Test.YtijaojnaamkinaaGC
import Derived.Test.YtijaojnaamkinaaSle
namespace Go.Proofs.Ytijaojnaamkinaa
open Go.RowKit
set_option linter.unusedSimpArgs false
set_option linter.unusedVariables false

theorem info2_t_Lint_Ppb : Inf Try.prog 23 (.slice none 0 0) 1 24 := by unfold Inf; kernel_rfl

theorem info1_t_impl_WalkProblem_Ppb : (Try.prog.info? 46).map (·.size) = some 2 := by kernel_rfl

def fI_RootedProblem_pathForm_s2 (x40 : List Int) : Int → Int → (List (List Int)) → Option (Lp (List (List Int)) (List (List Int)) T_WalkProblem) := fun (i65 : Int) (x75 : Int) (s : List (List Int)) =>
  (ix x40 0) >>= fun x81 =>
  (push s ([x81, x75] : List Int)) >>= fun x153 =>
  some (.go x153)
def fI_RootedProblem_pathForm_s1 (p1 : Int) : Int → (List Int) → (List (List Int)) → Option (Lp (List (List Int)) (List (List Int)) T_WalkProblem) := fun (i30 : Int) (x40 : List Int) (s : List (List Int)) =>
  (fI_onlyIn p1 x40) >>= fun x48 =>
  if x48 then
    (cut x40 1 x40.length) >>= fun x55 =>
    (forI (fI_RootedProblem_pathForm_s2 x40) x55 0 s) >>= fun q66 =>
    match q66 with
    | .inl y58 =>
      some (.go y58)
    | .inr _ => none
  else
    some (.go s)
def fI_RootedProblem_pathForm (p0 : T_RootedProblem) (p1 : Int) : Option T_WalkProblem :=
  (forI (fI_RootedProblem_pathForm_s1 p1) p0.Lines 0 []) >>= fun q31 =>
  match q31 with
  | .inl y23 =>
    (srtL y23) >>= fun x172 =>
    some (⟨p0.Labels, x172⟩ : T_WalkProblem)
  | .inr _ => none

def pI_RootedProblem_pathForm (oo : Tg) (t : Nat) (w : World) (r : T_WalkProblem) : Ending → World → Prop := fun e w' => ∃ (v0 : List Value) (o' : Tg), e = .returned (.agg v0.toArray) ∧ Rp.rd o' w' v0 r ∧ Dz 23 3 o' w' (v0.getD 1 undef) r.Arcs ∧ Keeps w w' ∧ ∀ b, b < w.heap.size → o' b = oo b
set_option maxRecDepth 100000 in
set_option maxHeartbeats 2000000 in
theorem cI_RootedProblem_pathForm (w : World) (oo : Tg) (t : Nat) (ht : 2 ≤ t) (u0 : List Value) (p0 : T_RootedProblem) (g0 : Rp.rd zt w u0 p0) (p1 : Int) (r : T_WalkProblem) (hF : fI_RootedProblem_pathForm p0 p1 = some r) :
    Calls Try.prog 73 #[.agg u0.toArray, .int .i64 p1] w (pI_RootedProblem_pathForm oo t w r) := by
  unfold fI_RootedProblem_pathForm at hF
  obtain ⟨v1, rfl, h2⟩ := g0
  have hB : Bs oo (col oo) w w := Bs.start _ _
  refine calls_start (n := 47) (vs := [(.agg #[(.int .i64 p0.Labels), (.int .i64 p0.Children), v1]), (.int .i64 p1)]) Try.func73 rfl rfl ?_
  generalize col oo = o at *
  refine wpC_seq ?_
  refine wpC_region ?_
  refine st_op (by decide) trivial ?_
  refine wf_box (o := o) w.heap.size 11 hB.keeps.size (cs := [(.int .i64 p0.Labels), (.int .i64 p0.Children), v1]) rfl rfl ?_
  intro o3 w4 b5 h6 s7
  replace hB := hB.stp s7 (by decide)
  refine st_op (by decide) trivial ?_
  refine wf_alloc (o := o3) w.heap.size 12 hB.keeps.size (cs := [(.int .i64 0), (.slice none 0 0)]) Try.zeroValue46 rfl ?_
  intro o8 w9 b10 h11 s12
  replace h6 := h6.stp s12 (by decide)
  replace hB := hB.stp s12 (by decide)
  refine wpF_end (r := [(1, (.int .i64 p1)), (2, (.pointer (some ⟨b5, 0, none⟩))), (4, (.pointer (some ⟨b10, 0, none⟩)))]) ⟨rfl, rfl, rfl, trivial⟩ ?_
  refine nx ?_
  refine wpC_seq ?_
  refine wpC_region ?_
  refine st_val (ex_field rfl Try.underlying49 rfl Try.sizeOf3) (by decide) trivial ?_
  refine st_val (ex_load1 rfl Try.isAgg3 (h6.cell rfl)) (by decide) trivial ?_
  refine st_val (ex_build (vs := [(0, (.int .i64 p0.Labels))]) (cs := [(.int .i64 p0.Labels), (.slice none 0 0)]) ⟨rfl, rfl, trivial⟩ (by kernel_rfl)) (by decide) trivial ?_
  refine st_op (by decide) trivial ?_
  refine wf_alloc (o := o8) w.heap.size 13 hB.keeps.size (cs := [(.int .i64 0), (.slice none 0 0)]) Try.zeroValue46 rfl ?_
  intro o13 w14 b15 h16 s17
  replace h6 := h6.stp s17 (by decide)
  replace h11 := h11.stp s17 (by decide)
  replace hB := hB.stp s17 (by decide)
  refine st_op0 trivial ?_
  refine wf_storeA h16 rfl rfl rfl info1_t_impl_WalkProblem_Ppb (by intro c hc; simp only [List.mem_cons, List.not_mem_nil, or_false] at hc; rcases hc with rfl | rfl <;> first | rfl) ?_
  intro w18 h20 s19
  replace h6 := h6.stp s19 (by decide)
  replace h11 := h11.stp s19 (by decide)
  replace hB := hB.stp s19 (by decide)
  refine wpF_end (r := [(1, (.int .i64 p1)), (2, (.pointer (some ⟨b5, 0, none⟩))), (4, (.pointer (some ⟨b10, 0, none⟩))), (5, (.pointer (some ⟨b15, 0, none⟩)))]) ⟨rfl, rfl, rfl, rfl, trivial⟩ ?_
  refine nx ?_
  refine wpC_seq ?_
  refine wpC_seq ?_
  refine wpC_region ?_
  refine st_val (ex_field rfl Try.underlying49 rfl Try.sizeOf41) (by decide) trivial ?_
  refine st_val (ex_load1 rfl Try.isAgg41 (h6.cell rfl)) (by decide) trivial ?_
  refine st_val (ex_lenR rfl h2 Try.underlying41) (by decide) trivial ?_
  refine st_val (ex_move rfl) (by decide) trivial ?_
  refine wpF_end (r := [(1, (.int .i64 p1)), (4, (.pointer (some ⟨b10, 0, none⟩))), (5, (.pointer (some ⟨b15, 0, none⟩))), (14, v1), (15, (.int .i64 (p0.Lines.length : Int))), (16, (.int .i64 0))]) ⟨rfl, rfl, rfl, rfl, rfl, rfl, trivial⟩ ?_
  refine nx ?_
  have h21 : Ow w.heap.size 23 14 o13 w18 (.slice none 0 0) ([] : List Hv) := Ow.nil _ _ _ _ _
  have h22 : Rws w.heap.size 3 15 o13 w18 [] ([] : List (List Int)) := Rws.nil _ _ _ _ _
  obtain ⟨q31, hq31, hF⟩ := bind_some hF
  refine wpC_cutN (fun a w29 => ∃ (y23 : List (List Int)) (v24 : Value) (g27 : List Hv) (o28 : Tg), q31 = .inl y23 ∧ Fr a 47 [(4, (.pointer (some ⟨b10, 0, none⟩))), (5, (.pointer (some ⟨b15, 0, none⟩)))] ∧ Bs oo o28 w w29 ∧ Bx w.heap.size 12 o28 w29 b10 46 [(.int .i64 0), (.slice none 0 0)] ∧ Bx w.heap.size 13 o28 w29 b15 46 [(.int .i64 p0.Labels), v24] ∧ Ow w.heap.size 23 14 o28 w29 v24 g27 ∧ Rws w.heap.size 3 15 o28 w29 g27 y23) (fun _ _ => False) ?_ ?_ ?_
  · refine wpC_block ?_
    refine wpC_loop (fun (K : Nat) a w29 => ∃ (i30 : Int) (y23 : List (List Int)) (v24 : Value) (g27 : List Hv) (o28 : Tg), forI (fI_RootedProblem_pathForm_s1 p1) (p0.Lines.drop i30.toNat) i30 y23 = some q31 ∧ (p0.Lines.drop i30.toNat).length = K ∧ 0 ≤ i30 ∧ Fr a 47 [(1, (.int .i64 p1)), (4, (.pointer (some ⟨b10, 0, none⟩))), (5, (.pointer (some ⟨b15, 0, none⟩))), (14, v1), (15, (.int .i64 (p0.Lines.length : Int))), (16, (.int .i64 i30))] ∧ Bs oo o28 w w29 ∧ Bx w.heap.size 12 o28 w29 b10 46 [(.int .i64 0), (.slice none 0 0)] ∧ Bx w.heap.size 13 o28 w29 b15 46 [(.int .i64 p0.Labels), v24] ∧ Ow w.heap.size 23 14 o28 w29 v24 g27 ∧ Rws w.heap.size 3 15 o28 w29 g27 y23) _ (fun a ha => ⟨0, [], (.slice none 0 0), [], o13, hq31, rfl, Int.le_refl 0, ha.sub (r := [(1, (.int .i64 p1)), (4, (.pointer (some ⟨b10, 0, none⟩))), (5, (.pointer (some ⟨b15, 0, none⟩))), (14, v1), (15, (.int .i64 (p0.Lines.length : Int))), (16, (.int .i64 0))]) ⟨rfl, rfl, rfl, rfl, rfl, rfl, trivial⟩, hB, h11, h20, h21, h22⟩) ?_
    rintro K35 a w29 ⟨i30, y23, v24, g27, o28, l32, m34, z33, ha, hB, h11, h20, h25, h26⟩
    by_cases t39 : i30 < (p0.Lines.length : Int)
    · obtain ⟨x40, q36, hx40, b37, n38⟩ := forI_cons z33 t39 l32
      have hle := h2.len_le
      dsimp only [fI_RootedProblem_pathForm_s1] at b37
      refine wp_of ha ?_
      refine wpC_seq ?_
      refine wpC_region ?_
      refine st_val (ex_lss rfl rfl) (by decide) trivial ?_
      refine wpF_end (r := [(1, (.int .i64 p1)), (4, (.pointer (some ⟨b10, 0, none⟩))), (5, (.pointer (some ⟨b15, 0, none⟩))), (14, v1), (15, (.int .i64 (p0.Lines.length : Int))), (16, (.int .i64 i30)), (17, (.bool (decide (i30 < (p0.Lines.length : Int)))))]) ⟨rfl, rfl, rfl, rfl, rfl, rfl, rfl, trivial⟩ ?_
      refine nx ?_
      refine wpC_seq ?_
      refine wpC_true (congrArg (fun b => some (Value.bool b)) (decide_eq_true t39)) ?_
      refine wpC_skip ?_
      refine nx ?_
      refine wpC_seq ?_
      refine wpC_block ?_
      refine wpC_seq ?_
      refine wpC_region ?_
      refine st_op (by decide) trivial ?_
      refine wf_atZ h2 hx40 hB rfl rfl Try.underlying41 Try.sizeOf23 ?_
      intro b41 f42 c43 h44 h45
      obtain ⟨v46, rfl, h47⟩ := h45
      refine st_val (ex_load1 rfl Try.isAgg23 (cell_of_cells h44)) (by decide) trivial ?_
      refine st_val (ex_assign rfl) (by decide) trivial ?_
      refine wpF_end (r := [(1, (.int .i64 p1)), (4, (.pointer (some ⟨b10, 0, none⟩))), (5, (.pointer (some ⟨b15, 0, none⟩))), (7, v46), (14, v1), (15, (.int .i64 (p0.Lines.length : Int))), (16, (.int .i64 i30))]) ⟨rfl, rfl, rfl, rfl, rfl, rfl, rfl, trivial⟩ ?_
      refine nx ?_
      refine wpC_seq ?_
      refine wpC_region ?_
      refine st_val (ex_move rfl) (by decide) trivial ?_
      refine st_val (ex_move rfl) (by decide) trivial ?_
      obtain ⟨x48, hx48, b37⟩ := bind_some b37
      refine st_op (by decide) trivial ?_
      refine wf_call (cI_onlyIn w29 p1 _ x40 (h47.keep hB.keeps) x48 hx48) Try.call108 ⟨rfl, rfl, trivial⟩ ?_
      rintro e53 w49 ⟨rfl, k50⟩
      have s52 := k50.stp 999 o28
      refine ⟨_, rfl, ?_⟩
      replace h11 := h11.stp s52 (by decide)
      replace h20 := h20.stp s52 (by decide)
      replace h25 := h25.stp s52 (by decide) (by decide)
      replace h26 := h26.stp s52 (by decide) (by decide)
      replace hB := hB.stp s52 (by decide)
      refine wpF_end (r := [(1, (.int .i64 p1)), (4, (.pointer (some ⟨b10, 0, none⟩))), (5, (.pointer (some ⟨b15, 0, none⟩))), (7, v46), (14, v1), (15, (.int .i64 (p0.Lines.length : Int))), (16, (.int .i64 i30)), (22, (.bool x48))]) ⟨rfl, rfl, rfl, rfl, rfl, rfl, rfl, rfl, trivial⟩ ?_
      refine nx ?_
      refine wpC_cond rfl (fun t54 => ?_) (fun t54 => ?_)
      · rw [if_pos t54] at b37
        refine wpC_seq ?_
        refine wpC_region ?_
        refine st_val (ex_move rfl) (by decide) trivial ?_
        obtain ⟨x55, hx55, b37⟩ := bind_some b37
        refine st_op (by decide) trivial ?_
        refine wf_cutZ h47 hx55 rfl rfl rfl Try.underlying23 Try.sizeOf3 ?_
        intro v56 h57
        refine st_val (ex_lenR rfl h57 Try.underlying23) (by decide) trivial ?_
        refine st_val (ex_move rfl) (by decide) trivial ?_
        refine wpF_end (r := [(1, (.int .i64 p1)), (4, (.pointer (some ⟨b10, 0, none⟩))), (5, (.pointer (some ⟨b15, 0, none⟩))), (7, v46), (14, v1), (15, (.int .i64 (p0.Lines.length : Int))), (16, (.int .i64 i30)), (24, v56), (25, (.int .i64 (x55.length : Int))), (26, (.int .i64 0))]) ⟨rfl, rfl, rfl, rfl, rfl, rfl, rfl, rfl, rfl, rfl, trivial⟩ ?_
        refine nx ?_
        obtain ⟨q66, hq66, b37⟩ := bind_some b37
        refine wpC_cutN (fun a w64 => ∃ (y58 : List (List Int)) (v59 : Value) (g62 : List Hv) (o63 : Tg), q66 = .inl y58 ∧ Fr a 47 [(1, (.int .i64 p1)), (4, (.pointer (some ⟨b10, 0, none⟩))), (5, (.pointer (some ⟨b15, 0, none⟩))), (14, v1), (15, (.int .i64 (p0.Lines.length : Int))), (16, (.int .i64 i30))] ∧ Bs oo o63 w w64 ∧ Bx w.heap.size 12 o63 w64 b10 46 [(.int .i64 0), (.slice none 0 0)] ∧ Bx w.heap.size 13 o63 w64 b15 46 [(.int .i64 p0.Labels), v59] ∧ Ow w.heap.size 23 14 o63 w64 v59 g62 ∧ Rws w.heap.size 3 15 o63 w64 g62 y58) (fun _ _ => False) ?_ ?_ ?_
        · refine wpC_block ?_
          refine wpC_loop (fun (K : Nat) a w64 => ∃ (i65 : Int) (y58 : List (List Int)) (v59 : Value) (g62 : List Hv) (o63 : Tg), forI (fI_RootedProblem_pathForm_s2 x40) (x55.drop i65.toNat) i65 y58 = some q66 ∧ (x55.drop i65.toNat).length = K ∧ 0 ≤ i65 ∧ Fr a 47 [(1, (.int .i64 p1)), (4, (.pointer (some ⟨b10, 0, none⟩))), (5, (.pointer (some ⟨b15, 0, none⟩))), (7, v46), (14, v1), (15, (.int .i64 (p0.Lines.length : Int))), (16, (.int .i64 i30)), (24, v56), (25, (.int .i64 (x55.length : Int))), (26, (.int .i64 i65))] ∧ Bs oo o63 w w64 ∧ Bx w.heap.size 12 o63 w64 b10 46 [(.int .i64 0), (.slice none 0 0)] ∧ Bx w.heap.size 13 o63 w64 b15 46 [(.int .i64 p0.Labels), v59] ∧ Ow w.heap.size 23 14 o63 w64 v59 g62 ∧ Rws w.heap.size 3 15 o63 w64 g62 y58) _ (fun a ha => ⟨0, y23, v24, g27, o28, hq66, rfl, Int.le_refl 0, ha.sub (r := [(1, (.int .i64 p1)), (4, (.pointer (some ⟨b10, 0, none⟩))), (5, (.pointer (some ⟨b15, 0, none⟩))), (7, v46), (14, v1), (15, (.int .i64 (p0.Lines.length : Int))), (16, (.int .i64 i30)), (24, v56), (25, (.int .i64 (x55.length : Int))), (26, (.int .i64 0))]) ⟨rfl, rfl, rfl, rfl, rfl, rfl, rfl, rfl, rfl, rfl, trivial⟩, hB, h11, h20, h25, h26⟩) ?_
          rintro K70 a w64 ⟨i65, y58, v59, g62, o63, l67, m69, z68, ha, hB, h11, h20, h60, h61⟩
          by_cases t74 : i65 < (x55.length : Int)
          · obtain ⟨x75, q71, hx75, b72, n73⟩ := forI_cons z68 t74 l67
            have hle := h57.len_le
            dsimp only [fI_RootedProblem_pathForm_s2] at b72
            refine wp_of ha ?_
            refine wpC_seq ?_
            refine wpC_region ?_
            refine st_val (ex_lss rfl rfl) (by decide) trivial ?_
            refine wpF_end (r := [(1, (.int .i64 p1)), (4, (.pointer (some ⟨b10, 0, none⟩))), (5, (.pointer (some ⟨b15, 0, none⟩))), (7, v46), (14, v1), (15, (.int .i64 (p0.Lines.length : Int))), (16, (.int .i64 i30)), (24, v56), (25, (.int .i64 (x55.length : Int))), (26, (.int .i64 i65)), (27, (.bool (decide (i65 < (x55.length : Int)))))]) ⟨rfl, rfl, rfl, rfl, rfl, rfl, rfl, rfl, rfl, rfl, rfl, trivial⟩ ?_
            refine nx ?_
            refine wpC_seq ?_
            refine wpC_true (congrArg (fun b => some (Value.bool b)) (decide_eq_true t74)) ?_
            refine wpC_skip ?_
            refine nx ?_
            refine wpC_seq ?_
            refine wpC_block ?_
            refine wpC_seq ?_
            refine wpC_region ?_
            refine st_op (by decide) trivial ?_
            refine wf_atZ h57 hx75 hB rfl rfl Try.underlying23 Try.sizeOf3 ?_
            intro b76 f77 c78 h79 h80
            cases h80
            refine st_val (ex_load1 rfl Try.isAgg3 (cell_of_cells h79)) (by decide) trivial ?_
            refine st_val (ex_assign rfl) (by decide) trivial ?_
            refine wpF_end (r := [(1, (.int .i64 p1)), (4, (.pointer (some ⟨b10, 0, none⟩))), (5, (.pointer (some ⟨b15, 0, none⟩))), (7, v46), (9, (.int .i64 x75)), (14, v1), (15, (.int .i64 (p0.Lines.length : Int))), (16, (.int .i64 i30)), (24, v56), (25, (.int .i64 (x55.length : Int))), (26, (.int .i64 i65))]) ⟨rfl, rfl, rfl, rfl, rfl, rfl, rfl, rfl, rfl, rfl, rfl, trivial⟩ ?_
            refine nx ?_
            obtain ⟨x81, hx81, b72⟩ := bind_some b72
            refine wpC_drawn (o := o63) [(1, (.int .i64 p1)), (4, (.pointer (some ⟨b10, 0, none⟩))), (5, (.pointer (some ⟨b15, 0, none⟩))), (7, v46), (9, (.int .i64 x75)), (14, v1), (15, (.int .i64 (p0.Lines.length : Int))), (16, (.int .i64 i30)), (24, v56), (25, (.int .i64 (x55.length : Int))), (26, (.int .i64 i65))] [1, 4, 5, 7, 9, 14, 15, 16, 24, 25, 26] [30, 31, 32, 33, 34, 35, 36, 37] [[], [0], [], [2], [3], [], [4, 5], [6]] [none, none, none, none, none, none, none, none] [999, 999, 999, 999, 999, 999, 999, 999] [0, 0, 0, 0, 0, 0, 17, 17] [999] [fun v _ _ => v = (.pointer (some ⟨b15, 0 + 1, none⟩)), fun v _ _ => v = v59, fun v _ _ => v = v46, fun v o w9 => ∃ vl, v = adr vl ((0 : Int).toNat * Rp.sz Int) ∧ RdL zt w vl x40, fun v _ _ => v = (.int .i64 x81), fun v _ _ => v = (.int .i64 x75), fun v o w9 => Ow w.heap.size 3 17 o w9 v (([x81, x75] : List Int) : List Int), fun v o w9 => ∃ u : Value, RdL o w9 v [(⟨u⟩ : Hv)] ∧ Ow w.heap.size 3 17 o w9 u (([x81, x75] : List Int) : List Int)] (fun o8 w8 => Bs oo o8 w w8 ∧ Bx w.heap.size 12 o8 w8 b10 46 [(.int .i64 0), (.slice none 0 0)] ∧ Bx w.heap.size 13 o8 w8 b15 46 [(.int .i64 p0.Labels), v59] ∧ Ow w.heap.size 23 14 o8 w8 v59 g62 ∧ Rws w.heap.size 3 15 o8 w8 g62 y58) follows_mixed (by kernel_rfl) rfl ⟨rfl, rfl, rfl, rfl, rfl, rfl, rfl, rfl, rfl, rfl, rfl, trivial⟩ ⟨hB, h11, h20, h60, h61⟩ ?_ ⟨st_eq _, st_eq _, st_eq _, fun _ _ _ _ _ _ h0 hb ⟨vl, e, h⟩ hs => ⟨vl, e, h⟩, st_eq _, st_eq _, fun _ _ _ _ _ _ h0 hb h hs => h.stp hs h0.1 (Ne.symm hb), fun _ _ _ _ _ _ h0 hb ⟨u, h, h2⟩ hs => ⟨u, h.stp hs h0.1, h2.stp hs h0.1 (Ne.symm hb)⟩, trivial⟩ ?_ ?_
            · rintro t9 o1 w1 o2 w2 ht9 ⟨hB, h11, h20, h60, h61⟩ hs9
              have ht9 : t9 = 999 := by simpa using ht9
              subst ht9
              all_goals exact ⟨hB.stp hs9 (by decide), h11.stp hs9 (by decide), h20.stp hs9 (by decide), h60.stp hs9 (by decide) (by decide), h61.stp hs9 (by decide) (by decide)⟩
            · refine ⟨?_, ?_, ?_, ?_, ?_, ?_, ?_, ?_, trivial⟩
              · rintro o95 w96 a97 ha ⟨hB, h11, h20, h60, h61⟩ -
                refine opS_of ha (trivial) ?_
                refine op1_val (ex_field rfl Try.underlying46 rfl Try.sizeOf41) ?_
                exact ⟨_, Stp.refl _ _ _, rfl⟩
              · rintro o98 w99 a100 ha ⟨hB, h11, h20, h60, h61⟩ ⟨r101, -⟩
                have ha := Fr.cons (d := 30) ha r101
                refine opS_of ha (trivial) ?_
                refine op1_val (ex_load1 rfl Try.isAgg41 (h20.cell rfl)) ?_
                exact ⟨_, Stp.refl _ _ _, rfl⟩
              · rintro o102 w103 a104 ha ⟨hB, h11, h20, h60, h61⟩ -
                refine opS_of ha (trivial) ?_
                refine op1_val (ex_move rfl) ?_
                exact ⟨_, Stp.refl _ _ _, rfl⟩
              · rintro o105 w106 a107 ha ⟨hB, h11, h20, h60, h61⟩ ⟨r108, -⟩
                have ha := Fr.cons (d := 32) ha r108
                refine opS_of ha (trivial) ?_
                refine wd_indexR h47 hx81 rfl rfl Try.underlying23 Try.sizeOf3 ?_
                exact ⟨_, Stp.refl _ _ _, ⟨_, rfl, h47⟩⟩
              · rintro o109 w110 a111 ha ⟨hB, h11, h20, h60, h61⟩ ⟨r112, -⟩
                obtain ⟨v113, e114, h115⟩ := r112
                have ha := Fr.cons (d := 33) ha e114
                refine opS_of ha (trivial) ?_
                refine wd_load1Z h115 hx81 hB rfl rfl Try.isAgg3 ?_
                intro c116 h117
                cases h117
                exact ⟨_, Stp.refl _ _ _, rfl⟩
              · rintro o118 w119 a120 ha ⟨hB, h11, h20, h60, h61⟩ -
                refine opS_of ha (trivial) ?_
                refine op1_val (ex_move rfl) ?_
                exact ⟨_, Stp.refl _ _ _, rfl⟩
              · rintro o121 w122 a123 ha ⟨hB, h11, h20, h60, h61⟩ ⟨r124, r125, -⟩
                have ha := Fr.cons (d := 34) ha r124
                have ha := Fr.cons (d := 35) ha r125
                refine opS_of ha (trivial) ?_
                refine wf_litW9 w.heap.size 17 hB.keeps.size (o := o121) (cs := [(.int .i64 x81), (.int .i64 x75)]) (xs := ([x81, x75] : List Int)) (vs := [(0, (.int .i64 x81)), (1, (.int .i64 x75))]) ⟨_, _, rfl, rfl, ⟨_, _, rfl, rfl, rfl⟩⟩ rfl ⟨rfl, rfl, rfl, rfl, trivial⟩ Try.underlying23 Try.sizeOf3 Try.zeroValue3 (by decide) (fill2 rfl rfl) (by simp) ?_
                intro o126 w127 v128 h129 s130
                replace h11 := h11.stp s130 (by decide)
                replace h20 := h20.stp s130 (by decide)
                replace h60 := h60.stp s130 (by decide) (by decide)
                replace h61 := h61.stp s130 (by decide) (by decide)
                replace hB := hB.stp s130 (by decide)
                exact ⟨_, s130, h129⟩
              · rintro o131 w132 a133 ha ⟨hB, h11, h20, h60, h61⟩ ⟨r134, -⟩
                replace r134 : Ow w.heap.size 3 17 o131 w132 (a133.tmps.getD 36 undef) (([x81, x75] : List Int) : List Int) := r134
                generalize e136 : a133.tmps.getD 36 undef = v135 at r134
                have ha := Fr.cons (d := 36) ha e136
                refine opS_of ha (trivial) ?_
                refine wf_litR (o := o131) (cs := [v135]) (xs := ([⟨v135⟩] : List Hv)) (vs := [(0, v135)]) ⟨_, _, rfl, rd_hv r134, rfl⟩ rfl ⟨rfl, rfl, trivial⟩ Try.underlying41 Try.sizeOf23 Try.zeroValue23 (by decide) (fill1 r134.cells1) (by simp) ?_
                intro o137 w138 v139 h140 s141 k142
                replace r134 := r134.stp s141 (by decide) (by decide)
                replace h11 := h11.stp s141 (by decide)
                replace h20 := h20.stp s141 (by decide)
                replace h60 := h60.stp s141 (by decide) (by decide)
                replace h61 := h61.stp s141 (by decide) (by decide)
                replace hB := hB.stp s141 (by decide)
                exact ⟨_, s141, ⟨_, h140, r134⟩⟩
            rintro o143 w144 a145 ha ⟨hB, h11, h20, h60, h61⟩ ⟨-, r146, -, -, -, -, -, r147, -⟩
            have ha := Fr.cons (d := 31) ha r146
            obtain ⟨v150, h151, h152⟩ := r147
            replace h151 : RdL o143 w144 (a145.tmps.getD 37 undef) ([⟨v150⟩] : List Hv) := h151
            replace h152 : Ow w.heap.size 3 17 o143 w144 v150 (([x81, x75] : List Int) : List Int) := h152
            generalize e149 : a145.tmps.getD 37 undef = v148 at h151
            have ha := Fr.cons (d := 37) ha e149
            refine wl_of ha ?_
            simp only [List.length_cons, List.length_nil, Nat.zero_add, Nat.reduceAdd, List.drop_succ_cons, List.drop_zero]
            obtain ⟨x153, hx153, b72⟩ := bind_some b72
            obtain ⟨h154, h155⟩ := h61.pushV hx153 v150
            refine st_op (by decide) trivial ?_
            refine wf_cat h60 h151 (push_cat h154) (by decide) hB.keeps.size rfl rfl Try.underlying41 info2_t_Lint_Ppb rfl (by decide) ?_
            intro o156 w157 v158 h159 s160
            replace h61 := h61.stp s160 (by decide) (by decide)
            replace h152 := h152.stp s160 (by decide) (by decide)
            replace h11 := h11.stp s160 (by decide)
            replace h20 := h20.stp s160 (by decide)
            replace hB := hB.stp s160 (by decide)
            have h161 := h61.push h152 (by decide) (by decide)
            rw [← h155] at h161
            clear h61 h152
            have r162 := mrg_rc 17 15 o156
            replace h159 := h159.rc r162 (by decide) (by decide)
            replace h11 := h11.rc r162 (by decide)
            replace h20 := h20.rc r162 (by decide)
            replace hB := hB.rc r162 (by decide)
            generalize mrg 17 15 o156 = o163 at *
            refine st_val (ex_field rfl Try.underlying46 rfl Try.sizeOf41) (by decide) trivial ?_
            refine st_op0 trivial ?_
            refine wf_storeB h20 rfl rfl (of_decide_eq_true rfl) Try.sizeOf41 h159.cells1 h159.one1 ?_
            intro w164 h166 s165
            replace h159 := h159.stp s165 (by decide) (by decide)
            replace h161 := h161.stp s165 (by decide) (by decide)
            replace h11 := h11.stp s165 (by decide)
            replace hB := hB.stp s165 (by decide)
            replace h166 : Bx w.heap.size 13 o163 w164 b15 46 [(.int .i64 p0.Labels), v158] := h166
            refine wpF_end (r := [(1, (.int .i64 p1)), (4, (.pointer (some ⟨b10, 0, none⟩))), (5, (.pointer (some ⟨b15, 0, none⟩))), (7, v46), (14, v1), (15, (.int .i64 (p0.Lines.length : Int))), (16, (.int .i64 i30)), (24, v56), (25, (.int .i64 (x55.length : Int))), (26, (.int .i64 i65))]) ⟨rfl, rfl, rfl, rfl, rfl, rfl, rfl, rfl, rfl, rfl, trivial⟩ ?_
            refine nb_norm ?_
            refine nx ?_
            refine wpC_region ?_
            refine st_val (ex_add rfl rfl (ck_in (by omega) (by omega))) (by decide) trivial ?_
            refine st_val (ex_move rfl) (by decide) trivial ?_
            refine wpF_end (r := [(1, (.int .i64 p1)), (4, (.pointer (some ⟨b10, 0, none⟩))), (5, (.pointer (some ⟨b15, 0, none⟩))), (7, v46), (14, v1), (15, (.int .i64 (p0.Lines.length : Int))), (16, (.int .i64 i30)), (24, v56), (25, (.int .i64 (x55.length : Int))), (26, (.int .i64 (i65 + 1)))]) ⟨rfl, rfl, rfl, rfl, rfl, rfl, rfl, rfl, rfl, rfl, trivial⟩ ?_
            refine nt_norm ?_
            have e167 := Option.some.inj b72
            subst e167
            refine to_k (r := [(1, (.int .i64 p1)), (4, (.pointer (some ⟨b10, 0, none⟩))), (5, (.pointer (some ⟨b15, 0, none⟩))), (7, v46), (14, v1), (15, (.int .i64 (p0.Lines.length : Int))), (16, (.int .i64 i30)), (24, v56), (25, (.int .i64 (x55.length : Int))), (26, (.int .i64 (i65 + 1)))]) ⟨rfl, rfl, rfl, rfl, rfl, rfl, rfl, rfl, rfl, rfl, trivial⟩ ?_
            intro a ha
            exact ⟨_, (by rw [← m69]; simp only [List.length_drop]; omega), i65 + 1, x153, v158, (g62 ++ [⟨v150⟩]), o163, n73, rfl, (by omega), ha, hB, h11, h166, h159, h161⟩
          · have r168 := forI_done t74 l67
            refine wp_of ha ?_
            refine wpC_seq ?_
            refine wpC_region ?_
            refine st_val (ex_lss rfl rfl) (by decide) trivial ?_
            refine wpF_end (r := [(1, (.int .i64 p1)), (4, (.pointer (some ⟨b10, 0, none⟩))), (5, (.pointer (some ⟨b15, 0, none⟩))), (7, v46), (14, v1), (15, (.int .i64 (p0.Lines.length : Int))), (16, (.int .i64 i30)), (24, v56), (25, (.int .i64 (x55.length : Int))), (26, (.int .i64 i65)), (27, (.bool (decide (i65 < (x55.length : Int)))))]) ⟨rfl, rfl, rfl, rfl, rfl, rfl, rfl, rfl, rfl, rfl, rfl, trivial⟩ ?_
            refine nx ?_
            refine wpC_seq ?_
            refine wpC_false (congrArg (fun b => some (Value.bool b)) (decide_eq_false t74)) ?_
            refine wpC_exit ?_
            refine nt_exit ?_
            refine nt_exit ?_
            refine nb_hit ?_
            refine np_norm ?_
            refine to_k (r := [(1, (.int .i64 p1)), (4, (.pointer (some ⟨b10, 0, none⟩))), (5, (.pointer (some ⟨b15, 0, none⟩))), (14, v1), (15, (.int .i64 (p0.Lines.length : Int))), (16, (.int .i64 i30))]) ⟨rfl, rfl, rfl, rfl, rfl, rfl, trivial⟩ ?_
            intro a ha
            exact ⟨y58, v59, g62, o63, r168, ha, hB, h11, h20, h60, h61⟩
        · rintro a w64 ⟨y58, v59, g62, o63, rfl, ha, hB, h11, h20, h60, h61⟩
          dsimp only at b37
          refine ap_k ha ?_
          refine nb_norm ?_
          refine nx ?_
          refine wpC_region ?_
          refine st_val (ex_add rfl rfl (ck_in (by omega) (by omega))) (by decide) trivial ?_
          refine st_val (ex_move rfl) (by decide) trivial ?_
          refine wpF_end (r := [(1, (.int .i64 p1)), (4, (.pointer (some ⟨b10, 0, none⟩))), (5, (.pointer (some ⟨b15, 0, none⟩))), (14, v1), (15, (.int .i64 (p0.Lines.length : Int))), (16, (.int .i64 (i30 + 1)))]) ⟨rfl, rfl, rfl, rfl, rfl, rfl, trivial⟩ ?_
          refine nt_norm ?_
          have e169 := Option.some.inj b37
          subst e169
          refine to_k (r := [(1, (.int .i64 p1)), (4, (.pointer (some ⟨b10, 0, none⟩))), (5, (.pointer (some ⟨b15, 0, none⟩))), (14, v1), (15, (.int .i64 (p0.Lines.length : Int))), (16, (.int .i64 (i30 + 1)))]) ⟨rfl, rfl, rfl, rfl, rfl, rfl, trivial⟩ ?_
          intro a ha
          exact ⟨_, (by rw [← m34]; simp only [List.length_drop]; omega), i30 + 1, y58, v59, g62, o63, n38, rfl, (by omega), ha, hB, h11, h20, h60, h61⟩
        · exact fun _ _ h => h.elim
      · rw [if_neg (by rw [t54]; decide)] at b37
        refine wpC_skip ?_
        refine nb_norm ?_
        refine nx ?_
        refine wpC_region ?_
        refine st_val (ex_add rfl rfl (ck_in (by omega) (by omega))) (by decide) trivial ?_
        refine st_val (ex_move rfl) (by decide) trivial ?_
        refine wpF_end (r := [(1, (.int .i64 p1)), (4, (.pointer (some ⟨b10, 0, none⟩))), (5, (.pointer (some ⟨b15, 0, none⟩))), (14, v1), (15, (.int .i64 (p0.Lines.length : Int))), (16, (.int .i64 (i30 + 1)))]) ⟨rfl, rfl, rfl, rfl, rfl, rfl, trivial⟩ ?_
        refine nt_norm ?_
        have e170 := Option.some.inj b37
        subst e170
        refine to_k (r := [(1, (.int .i64 p1)), (4, (.pointer (some ⟨b10, 0, none⟩))), (5, (.pointer (some ⟨b15, 0, none⟩))), (14, v1), (15, (.int .i64 (p0.Lines.length : Int))), (16, (.int .i64 (i30 + 1)))]) ⟨rfl, rfl, rfl, rfl, rfl, rfl, trivial⟩ ?_
        intro a ha
        exact ⟨_, (by rw [← m34]; simp only [List.length_drop]; omega), i30 + 1, y23, v24, g27, o28, n38, rfl, (by omega), ha, hB, h11, h20, h25, h26⟩
    · have r171 := forI_done t39 l32
      refine wp_of ha ?_
      refine wpC_seq ?_
      refine wpC_region ?_
      refine st_val (ex_lss rfl rfl) (by decide) trivial ?_
      refine wpF_end (r := [(1, (.int .i64 p1)), (4, (.pointer (some ⟨b10, 0, none⟩))), (5, (.pointer (some ⟨b15, 0, none⟩))), (14, v1), (15, (.int .i64 (p0.Lines.length : Int))), (16, (.int .i64 i30)), (17, (.bool (decide (i30 < (p0.Lines.length : Int)))))]) ⟨rfl, rfl, rfl, rfl, rfl, rfl, rfl, trivial⟩ ?_
      refine nx ?_
      refine wpC_seq ?_
      refine wpC_false (congrArg (fun b => some (Value.bool b)) (decide_eq_false t39)) ?_
      refine wpC_exit ?_
      refine nt_exit ?_
      refine nt_exit ?_
      refine nb_hit ?_
      refine np_norm ?_
      refine to_k (r := [(4, (.pointer (some ⟨b10, 0, none⟩))), (5, (.pointer (some ⟨b15, 0, none⟩)))]) ⟨rfl, rfl, trivial⟩ ?_
      intro a ha
      exact ⟨y23, v24, g27, o28, r171, ha, hB, h11, h20, h25, h26⟩
  · rintro a w29 ⟨y23, v24, g27, o28, rfl, ha, hB, h11, h20, h25, h26⟩
    dsimp only at hF
    refine ap_k ha ?_
    refine nx ?_
    refine wpC_seq ?_
    refine wpC_region ?_
    refine st_val (ex_field rfl Try.underlying46 rfl Try.sizeOf41) (by decide) trivial ?_
    refine st_val (ex_load1 rfl Try.isAgg41 (h20.cell rfl)) (by decide) trivial ?_
    obtain ⟨x172, hx172, hF⟩ := bind_some hF
    refine st_op (by decide) trivial ?_
    refine wf_call (cI_sortedLists h25 h26 (by decide) (by decide) (by decide) hB.keeps.size hx172) Try.call109 ⟨rfl, trivial⟩ ?_
    rintro e174 w173 ⟨v175, g176, o177, rfl, h178, h179, s180⟩
    refine ⟨_, rfl, ?_⟩
    replace h11 := h11.stp s180 (by decide)
    replace h20 := h20.stp s180 (by decide)
    replace hB := hB.stp s180 (by decide)
    refine st_val (ex_field rfl Try.underlying46 rfl Try.sizeOf41) (by decide) trivial ?_
    refine st_op0 trivial ?_
    refine wf_storeB h20 rfl rfl (of_decide_eq_true rfl) Try.sizeOf41 h178.cells1 h178.one1 ?_
    intro w181 h183 s182
    replace h178 := h178.stp s182 (by decide) (by decide)
    replace h179 := h179.stp s182 (by decide) (by decide)
    replace h11 := h11.stp s182 (by decide)
    replace hB := hB.stp s182 (by decide)
    replace h183 : Bx w.heap.size 13 o177 w181 b15 46 [(.int .i64 p0.Labels), v175] := h183
    refine wpF_end (r := [(4, (.pointer (some ⟨b10, 0, none⟩))), (5, (.pointer (some ⟨b15, 0, none⟩)))]) ⟨rfl, rfl, trivial⟩ ?_
    refine nx ?_
    refine wpC_seq ?_
    refine wpC_region ?_
    refine st_val (ex_loadA rfl Try.isAgg46 Try.sizeOf46 rfl h183.cells) (by decide) trivial ?_
    refine st_op0 trivial ?_
    refine wf_storeA h11 rfl rfl rfl info1_t_impl_WalkProblem_Ppb (by intro c hc; simp only [List.mem_cons, List.not_mem_nil, or_false] at hc; rcases hc with rfl | rfl <;> first | rfl | exact h178.one1) ?_
    intro w184 h186 s185
    replace h178 := h178.stp s185 (by decide) (by decide)
    replace h179 := h179.stp s185 (by decide) (by decide)
    replace h183 := h183.stp s185 (by decide)
    replace hB := hB.stp s185 (by decide)
    refine wpF_end (r := [(4, (.pointer (some ⟨b10, 0, none⟩)))]) ⟨rfl, trivial⟩ ?_
    refine nx ?_
    refine wpC_ret ?_
    have h187 := Dz.of h178 h179 (by decide) (by decide) (by decide)
    have r188 := frz_rc 14 o177
    have r189 := frz_rc 15 (frz 14 o177)
    replace h186 := (h186.rc r188 (by decide)).rc r189 (by decide)
    replace h183 := (h183.rc r188 (by decide)).rc r189 (by decide)
    replace hB := (hB.rc r188 (by decide)).rc r189 (by decide)
    clear r188 r189
    generalize frz 15 (frz 14 o177) = o191 at *
    have h190 := h187.rd
    have e192 := Option.some.inj hF
    subst e192
    refine ret_post (P := Try.prog) (vs := [(.agg #[(.int .i64 p0.Labels), v175])]) Try.results73 ⟨⟨_, rfl, run_loadA Try.isAgg46 Try.sizeOf46 rfl h186.cells⟩, trivial⟩ ?_
    exact ⟨[(.int .i64 p0.Labels), v175], rt oo o191 w.heap.size 9 t, rfl, ⟨_, rfl, h190.rt hB 9 t (by decide)⟩, h187.rt hB 9 t (by decide), hB.keeps, rt_old _ _ _ _ _⟩
  · exact fun _ _ h => h.elim

def fI_PathForm (fuel : Nat) (p0 : T_RootedProblem) : Option (T_WalkProblem × Bool) :=
  (fI_IsRootedProblem fuel p0) >>= fun x13 =>
  if !x13 then
    some ((⟨0, []⟩ : T_WalkProblem), false)
  else
    (shl 1 p0.Labels) >>= fun x24 =>
    (ck (x24 - 1)) >>= fun x25 =>
    (fI_RootedProblem_pathForm p0 x25) >>= fun x49 =>
    some (x49, true)

def pI_PathForm (oo : Tg) (t : Nat) (w : World) (r : T_WalkProblem × Bool) : Ending → World → Prop := fun e w' => ∃ (v0 : List Value) (o' : Tg), e = .returned (.tuple #[.agg v0.toArray, .bool r.2]) ∧ Rp.rd o' w' v0 r.1 ∧ Dz 23 3 o' w' (v0.getD 1 undef) r.1.Arcs ∧ Keeps w w' ∧ ∀ b, b < w.heap.size → o' b = oo b
set_option maxRecDepth 100000 in
set_option maxHeartbeats 2000000 in
theorem cI_PathForm (fuel : Nat) (w : World) (oo : Tg) (t : Nat) (ht : 2 ≤ t) (u0 : List Value) (p0 : T_RootedProblem) (g0 : Rp.rd zt w u0 p0) (r : T_WalkProblem × Bool) (hF : fI_PathForm fuel p0 = some r) :
    Calls Try.prog 27 #[.agg u0.toArray] w (pI_PathForm oo t w r) := by
  unfold fI_PathForm at hF
  obtain ⟨v1, rfl, h2⟩ := g0
  have hB : Bs oo (col oo) w w := Bs.start _ _
  refine calls_start (n := 14) (vs := [(.agg #[(.int .i64 p0.Labels), (.int .i64 p0.Children), v1])]) Try.func27 rfl rfl ?_
  generalize col oo = o at *
  refine wpC_seq ?_
  refine wpC_region ?_
  refine st_op (by decide) trivial ?_
  refine wf_box (o := o) w.heap.size 11 hB.keeps.size (cs := [(.int .i64 p0.Labels), (.int .i64 p0.Children), v1]) rfl rfl ?_
  intro o3 w4 b5 h6 s7
  replace hB := hB.stp s7 (by decide)
  refine st_op (by decide) trivial ?_
  refine wf_alloc (o := o3) w.heap.size 12 hB.keeps.size (cs := [(.int .i64 0), (.slice none 0 0)]) Try.zeroValue46 rfl ?_
  intro o8 w9 b10 h11 s12
  replace h6 := h6.stp s12 (by decide)
  replace hB := hB.stp s12 (by decide)
  refine st_val (ex_assign rfl) (by decide) trivial ?_
  refine wpF_end (r := [(1, (.pointer (some ⟨b5, 0, none⟩))), (2, (.pointer (some ⟨b10, 0, none⟩)))]) ⟨rfl, rfl, trivial⟩ ?_
  refine nx ?_
  refine wpC_seq ?_
  refine wpC_seq ?_
  refine wpC_region ?_
  refine st_val (ex_loadA rfl Try.isAgg49 Try.sizeOf49 rfl h6.cells) (by decide) trivial ?_
  obtain ⟨x13, hx13, hF⟩ := bind_some hF
  refine st_op (by decide) trivial ?_
  refine wf_call (cI_IsRootedProblem fuel w9 _ p0 (⟨_, rfl, (h2.keep hB.keeps)⟩) x13 hx13) Try.call72 ⟨rfl, trivial⟩ ?_
  rintro e18 w14 ⟨rfl, k15⟩
  have s17 := k15.stp 999 o8
  refine ⟨_, rfl, ?_⟩
  replace h6 := h6.stp s17 (by decide)
  replace h11 := h11.stp s17 (by decide)
  replace hB := hB.stp s17 (by decide)
  refine st_val (ex_not rfl) (by decide) trivial ?_
  refine wpF_end (r := [(1, (.pointer (some ⟨b5, 0, none⟩))), (2, (.pointer (some ⟨b10, 0, none⟩))), (6, (.bool (!x13)))]) ⟨rfl, rfl, rfl, trivial⟩ ?_
  refine nx ?_
  refine wpC_cond rfl (fun t19 => ?_) (fun t19 => ?_)
  · rw [if_pos t19] at hF
    refine wpC_seq ?_
    refine wpC_region ?_
    refine st_val (ex_build (vs := []) (cs := [(.int .i64 0), (.slice none 0 0)]) trivial (by kernel_rfl)) (by decide) trivial ?_
    refine st_op0 trivial ?_
    refine wf_storeA h11 rfl rfl rfl info1_t_impl_WalkProblem_Ppb (by intro c hc; simp only [List.mem_cons, List.not_mem_nil, or_false] at hc; rcases hc with rfl | rfl <;> first | rfl) ?_
    intro w20 h22 s21
    replace h6 := h6.stp s21 (by decide)
    replace hB := hB.stp s21 (by decide)
    refine st_val (ex_assign rfl) (by decide) trivial ?_
    refine wpF_end (r := [(2, (.pointer (some ⟨b10, 0, none⟩))), (3, (.bool false))]) ⟨rfl, rfl, trivial⟩ ?_
    refine nx ?_
    refine wpC_ret ?_
    refine nt_ret ?_
    have e23 := Option.some.inj hF
    subst e23
    refine ret_post (P := Try.prog) (vs := [(.agg #[(.int .i64 0), (.slice none 0 0)]), (.bool false)]) Try.results27 ⟨⟨_, rfl, run_loadA Try.isAgg46 Try.sizeOf46 rfl h22.cells⟩, rfl, trivial⟩ ?_
    exact ⟨[(.int .i64 0), (.slice none 0 0)], rt oo o8 w.heap.size 9 t, rfl, ⟨_, rfl, RdL.nil _ _⟩, (Dz.nil _ _ _ _), hB.keeps, rt_old _ _ _ _ _⟩
  · rw [if_neg (by rw [t19]; decide)] at hF
    refine wpC_skip ?_
    refine nx ?_
    refine wpC_seq ?_
    obtain ⟨x24, hx24, hF⟩ := bind_some hF
    obtain ⟨x25, hx25, hF⟩ := bind_some hF
    refine wpC_drawn (o := o8) [(1, (.pointer (some ⟨b5, 0, none⟩))), (2, (.pointer (some ⟨b10, 0, none⟩)))] [1, 2] [8, 9, 10, 11, 12] [[], [], [1], [2], [3]] [none, none, none, none, none] [999, 999, 999, 999, 999] [0, 0, 0, 0, 0] [999] [fun v _ _ => v = (.agg #[(.int .i64 p0.Labels), (.int .i64 p0.Children), v1]), fun v _ _ => v = (.pointer (some ⟨b5, 0 + 0, none⟩)), fun v _ _ => v = (.int .i64 p0.Labels), fun v _ _ => v = (.int .i64 x24), fun v _ _ => v = (.int .i64 x25)] (fun o8 w8 => Bs oo o8 w w8 ∧ Bx w.heap.size 11 o8 w8 b5 49 [(.int .i64 p0.Labels), (.int .i64 p0.Children), v1] ∧ Bx w.heap.size 12 o8 w8 b10 46 [(.int .i64 0), (.slice none 0 0)]) follows_mixed (by kernel_rfl) rfl ⟨rfl, rfl, trivial⟩ ⟨hB, h6, h11⟩ ?_ ⟨st_eq _, st_eq _, st_eq _, st_eq _, st_eq _, trivial⟩ ?_ ?_
    · rintro t9 o1 w1 o2 w2 ht9 ⟨hB, h6, h11⟩ hs9
      have ht9 : t9 = 999 := by simpa using ht9
      subst ht9
      all_goals exact ⟨hB.stp hs9 (by decide), h6.stp hs9 (by decide), h11.stp hs9 (by decide)⟩
    · refine ⟨?_, ?_, ?_, ?_, ?_, trivial⟩
      · rintro o26 w27 a28 ha ⟨hB, h6, h11⟩ -
        refine opS_of ha (trivial) ?_
        refine op1_val (ex_loadA rfl Try.isAgg49 Try.sizeOf49 rfl h6.cells) ?_
        exact ⟨_, Stp.refl _ _ _, rfl⟩
      · rintro o29 w30 a31 ha ⟨hB, h6, h11⟩ -
        refine opS_of ha (trivial) ?_
        refine op1_val (ex_field rfl Try.underlying49 rfl Try.sizeOf3) ?_
        exact ⟨_, Stp.refl _ _ _, rfl⟩
      · rintro o32 w33 a34 ha ⟨hB, h6, h11⟩ ⟨r35, -⟩
        have ha := Fr.cons (d := 9) ha r35
        refine opS_of ha (trivial) ?_
        refine op1_val (ex_load1 rfl Try.isAgg3 (h6.cell rfl)) ?_
        exact ⟨_, Stp.refl _ _ _, rfl⟩
      · rintro o36 w37 a38 ha ⟨hB, h6, h11⟩ ⟨r39, -⟩
        have ha := Fr.cons (d := 10) ha r39
        refine opS_of ha (trivial) ?_
        refine op1_val (ex_shl rfl rfl hx24) ?_
        exact ⟨_, Stp.refl _ _ _, rfl⟩
      · rintro o40 w41 a42 ha ⟨hB, h6, h11⟩ ⟨r43, -⟩
        have ha := Fr.cons (d := 11) ha r43
        refine opS_of ha (trivial) ?_
        refine op1_val (ex_sub rfl rfl hx25) ?_
        exact ⟨_, Stp.refl _ _ _, rfl⟩
    rintro o44 w45 a46 ha ⟨hB, h6, h11⟩ ⟨r47, -, -, -, r48, -⟩
    have ha := Fr.cons (d := 8) ha r47
    have ha := Fr.cons (d := 12) ha r48
    refine wl_of ha ?_
    simp only [List.length_cons, List.length_nil, Nat.zero_add, Nat.reduceAdd, List.drop_succ_cons, List.drop_zero]
    obtain ⟨x49, hx49, hF⟩ := bind_some hF
    refine st_op (by decide) trivial ?_
    refine wf_call (cI_RootedProblem_pathForm w45 o44 14 (by decide) _ p0 (⟨_, rfl, (h2.keep hB.keeps)⟩) x25 x49 hx49) Try.call73 ⟨rfl, rfl, trivial⟩ ?_
    rintro e57 w50 ⟨c51, o58, rfl, h52, h53, k54, k55⟩
    have s56 := k54.stp' 14 k55
    refine ⟨_, rfl, ?_⟩
    obtain ⟨v59, rfl, h60⟩ := h52
    replace h53 : Dz 23 3 o58 w50 v59 x49.Arcs := h53
    replace h6 := h6.stp s56 (by decide)
    replace h11 := h11.stp s56 (by decide)
    replace hB := hB.stp s56 (by decide)
    refine st_op0 trivial ?_
    refine wf_storeA h11 rfl rfl rfl info1_t_impl_WalkProblem_Ppb (by intro c hc; simp only [List.mem_cons, List.not_mem_nil, or_false] at hc; rcases hc with rfl | rfl <;> first | rfl | exact h60.one1) ?_
    intro w61 h63 s62
    replace h60 := h60.stp s62 (by decide)
    replace h53 := h53.stp s62 (by decide)
    replace h6 := h6.stp s62 (by decide)
    replace hB := hB.stp s62 (by decide)
    refine st_val (ex_assign rfl) (by decide) trivial ?_
    refine wpF_end (r := [(2, (.pointer (some ⟨b10, 0, none⟩))), (3, (.bool true))]) ⟨rfl, rfl, trivial⟩ ?_
    refine nx ?_
    refine wpC_ret ?_
    have e64 := Option.some.inj hF
    subst e64
    refine ret_post (P := Try.prog) (vs := [(.agg #[(.int .i64 x49.Labels), v59]), (.bool true)]) Try.results27 ⟨⟨_, rfl, run_loadA Try.isAgg46 Try.sizeOf46 rfl h63.cells⟩, rfl, trivial⟩ ?_
    exact ⟨[(.int .i64 x49.Labels), v59], rt oo o58 w.heap.size 9 t, rfl, ⟨_, rfl, h60.rt hB 9 t (by decide)⟩, h53.rt hB 9 t (by decide), hB.keeps, rt_old _ _ _ _ _⟩

end Go.Proofs.Ytijaojnaamkinaa
