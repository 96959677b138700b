/- spec.waBetween, spec.WalkBetween, spec.cyMarks, spec.cyGaps, spec.cyFill, spec.FillCycle: plain functions, and the walks that show that the program computes them (printed by gen.py). -/
import Derived.Test.YtabclfacjaeblaaGH
import Derived.Test.YtabclfacjaeblaaGI
import Derived.Test.YtabclfacjaeblaaKh
namespace Go.Proofs.Ytabclfacjaeblaa
open Go.RowKit
set_option linter.unusedSimpArgs false
set_option linter.unusedVariables false

theorem info2_t_int_Fa : Inf Try.prog 3 (.int .i64 0) 1 8 := by unfold Inf; kernel_rfl

def fS_waBetween_s2 (p0 : T_WalkProblem) (p2 : Int) (x8 : List (List (List Bool))) (x41 : List (List Bool)) (y61 : Int) : ((List Int) × Int) → Option (Lp ((List Int) × Int) ((List Int) × Int) ((List Int) × Bool)) := fun (s : (List Int) × Int) =>
  if decide (s.2 < p0.Labels) then
    (ck ((s.1.length : Int) - 1)) >>= fun x92 =>
    (ix s.1 x92) >>= fun x93 =>
    (ix x41 x93) >>= fun x99 =>
    (ix x99 s.2) >>= fun x109 =>
    (
      if x109 then
        (ix x8 y61) >>= fun x119 =>
        (ix x119 s.2) >>= fun x127 =>
        (ix x127 p2) >>= fun x135 =>
        some x135
      else
        some false) >>= fun q115 =>
    if q115 then
      (push s.1 s.2) >>= fun x151 =>
      some (.out (x151, 0))
    else
      (ck (s.2 + 1)) >>= fun x158 =>
      some (.go (s.1, x158))
  else
    some (.out (s.1, s.2))
def fS_waBetween_s1 (fuel : Nat) (p0 : T_WalkProblem) (p2 : Int) (x8 : List (List (List Bool))) (x41 : List (List Bool)) : ((List Int) × Int) → Option (Lp ((List Int) × Int) ((List Int) × Int) ((List Int) × Bool)) := fun (s : (List Int) × Int) =>
  if decide (s.2 ≥ 0) then
    (loopF (fS_waBetween_s2 p0 p2 x8 x41 s.2) fuel (s.1, 0)) >>= fun q81 =>
    match q81 with
    | .inl (y75, y78) =>
      (ck (s.2 - 1)) >>= fun x161 =>
      some (.go (y75, x161))
    | .inr _ => none
  else
    some (.out (s.1, s.2))
def fS_waBetween (fuel : Nat) (p0 : T_WalkProblem) (p1 : Int) (p2 : Int) (p3 : Int) : Option ((List Int) × Bool) :=
  (fS_waPowers fuel p0 p3) >>= fun x8 =>
  (ix x8 p3) >>= fun x17 =>
  (ix x17 p1) >>= fun x25 =>
  (ix x25 p2) >>= fun x33 =>
  if !x33 then
    some ([], false)
  else
    (fS_waMay fuel p0) >>= fun x41 =>
    (ck (p3 - 1)) >>= fun x57 =>
    (loopF (fS_waBetween_s1 fuel p0 p2 x8 x41) fuel (([p1] : List Int), x57)) >>= fun q64 =>
    match q64 with
    | .inl (y58, y61) =>
      some (y58, true)
    | .inr _ => none

def pS_waBetween (oo : Tg) (t : Nat) (w : World) (r : (List Int) × Bool) : Ending → World → Prop := fun e w' => ∃ (v0 : Value) (o' : Tg), e = .returned (.tuple #[v0, .bool r.2]) ∧ Ow w.heap.size 3 t o' w' v0 r.1 ∧ Keeps w w' ∧ ∀ b, b < w.heap.size → o' b = oo b
set_option maxRecDepth 100000 in
set_option maxHeartbeats 2000000 in
theorem cS_waBetween (fuel : Nat) (w : World) (oo : Tg) (t : Nat) (ht : 2 ≤ t) (u0 : List Value) (p0 : T_WalkProblem) (g0 : Rp.rd zt w u0 p0) (p1 : Int) (p2 : Int) (p3 : Int) (r : (List Int) × Bool) (hF : fS_waBetween fuel p0 p1 p2 p3 = some r) :
    Calls Try.prog 154 #[.agg u0.toArray, .int .i64 p1, .int .i64 p2, .int .i64 p3] w (pS_waBetween oo t w r) := by
  unfold fS_waBetween at hF
  obtain ⟨v1, rfl, h2⟩ := g0
  have hB : Bs oo (col oo) w w := Bs.start _ _
  refine calls_start (n := 74) (vs := [(.agg #[(.int .i64 p0.Labels), v1]), (.int .i64 p1), (.int .i64 p2), (.int .i64 p3)]) Try.func154 rfl rfl ?_
  generalize col oo = o at *
  refine wpC_seq ?_
  refine wpC_region ?_
  refine st_op (by decide) trivial ?_
  refine wf_box (o := o) w.heap.size 11 hB.keeps.size (cs := [(.int .i64 p0.Labels), v1]) rfl rfl ?_
  intro o3 w4 b5 h6 s7
  replace hB := hB.stp s7 (by decide)
  refine st_val (ex_assign rfl) (by decide) trivial ?_
  refine st_val (ex_assign rfl) (by decide) trivial ?_
  refine wpF_end (r := [(1, (.int .i64 p1)), (2, (.int .i64 p2)), (3, (.int .i64 p3)), (4, (.pointer (some ⟨b5, 0, none⟩)))]) ⟨rfl, rfl, rfl, rfl, trivial⟩ ?_
  refine nx ?_
  refine wpC_seq ?_
  refine wpC_region ?_
  refine st_val (ex_loadA rfl Try.isAgg44 Try.sizeOf44 rfl h6.cells) (by decide) trivial ?_
  refine st_val (ex_move rfl) (by decide) trivial ?_
  obtain ⟨x8, hx8, hF⟩ := bind_some hF
  refine st_op (by decide) trivial ?_
  refine wf_call (cS_waPowers fuel w4 o3 12 (by decide) _ p0 (⟨_, rfl, (h2.keep hB.keeps)⟩) p3 x8 hx8) Try.call158 ⟨rfl, rfl, trivial⟩ ?_
  rintro e15 w9 ⟨v10, o16, rfl, h11, k12, k13⟩
  have s14 := k12.stp' 12 k13
  replace h11 := h11.mono hB.keeps.size
  refine ⟨_, rfl, ?_⟩
  replace h6 := h6.stp s14 (by decide)
  replace hB := hB.stp s14 (by decide)
  refine st_val (ex_assign rfl) (by decide) trivial ?_
  refine wpF_end (r := [(1, (.int .i64 p1)), (2, (.int .i64 p2)), (3, (.int .i64 p3)), (4, (.pointer (some ⟨b5, 0, none⟩))), (10, v10)]) ⟨rfl, rfl, rfl, rfl, rfl, trivial⟩ ?_
  refine nx ?_
  refine wpC_seq ?_
  refine wpC_seq ?_
  refine wpC_region ?_
  refine st_val (ex_move rfl) (by decide) trivial ?_
  refine st_val (ex_move rfl) (by decide) trivial ?_
  obtain ⟨x17, hx17, hF⟩ := bind_some hF
  refine st_op (by decide) trivial ?_
  refine wf_atW h11 hx17 rfl rfl Try.underlying136 Try.sizeOf110 ?_
  intro b18 f19 c20 h21 h22
  obtain ⟨v23, rfl, h24⟩ := h22
  refine st_val (ex_load1 rfl Try.isAgg110 (cell_of_cells h21)) (by decide) trivial ?_
  refine st_val (ex_move rfl) (by decide) trivial ?_
  obtain ⟨x25, hx25, hF⟩ := bind_some hF
  refine st_op (by decide) trivial ?_
  refine wf_atO h24 hx25 rfl rfl Try.underlying110 Try.sizeOf109 ?_
  intro b26 f27 c28 h29 h30
  obtain ⟨v31, rfl, h32⟩ := h30
  refine st_val (ex_load1 rfl Try.isAgg109 (cell_of_cells h29)) (by decide) trivial ?_
  refine st_val (ex_move rfl) (by decide) trivial ?_
  obtain ⟨x33, hx33, hF⟩ := bind_some hF
  refine st_op (by decide) trivial ?_
  refine wf_atO h32 hx33 rfl rfl Try.underlying109 Try.sizeOf4 ?_
  intro b34 f35 c36 h37 h38
  cases h38
  refine st_val (ex_load1 rfl Try.isAgg4 (cell_of_cells h37)) (by decide) trivial ?_
  refine st_val (ex_not rfl) (by decide) trivial ?_
  refine wpF_end (r := [(1, (.int .i64 p1)), (2, (.int .i64 p2)), (3, (.int .i64 p3)), (4, (.pointer (some ⟨b5, 0, none⟩))), (10, v10), (28, (.bool (!x33)))]) ⟨rfl, rfl, rfl, rfl, rfl, rfl, trivial⟩ ?_
  refine nx ?_
  refine wpC_cond rfl (fun t39 => ?_) (fun t39 => ?_)
  · rw [if_pos t39] at hF
    refine wpC_seq ?_
    refine wpC_region ?_
    refine st_val (ex_assign rfl) (by decide) trivial ?_
    refine st_val (ex_assign rfl) (by decide) trivial ?_
    refine wpF_end (r := [(8, (.slice none 0 0)), (9, (.bool false))]) ⟨rfl, rfl, trivial⟩ ?_
    refine nx ?_
    refine wpC_ret ?_
    refine nt_ret ?_
    have e40 := Option.some.inj hF
    subst e40
    refine ret_post (P := Try.prog) (vs := [(.slice none 0 0), (.bool false)]) Try.results154 ⟨rfl, rfl, trivial⟩ ?_
    exact ⟨_, rt oo o16 w.heap.size 9 t, rfl, (Ow.nil _ _ _ _ _), hB.keeps, rt_old _ _ _ _ _⟩
  · rw [if_neg (by rw [t39]; decide)] at hF
    refine wpC_skip ?_
    refine nx ?_
    refine wpC_seq ?_
    refine wpC_region ?_
    refine st_val (ex_loadA rfl Try.isAgg44 Try.sizeOf44 rfl h6.cells) (by decide) trivial ?_
    obtain ⟨x41, hx41, hF⟩ := bind_some hF
    refine st_op (by decide) trivial ?_
    refine wf_call (cS_waMay fuel w9 o16 13 (by decide) _ p0 (⟨_, rfl, (h2.keep hB.keeps)⟩) x41 hx41) Try.call105 ⟨rfl, trivial⟩ ?_
    rintro e50 w42 ⟨v43, g45, o51, rfl, h44, h46, k47, k48⟩
    have s49 := k47.stp' 13 k48
    replace h44 := h44.mono hB.keeps.size
    replace h46 := h46.mono hB.keeps.size
    refine ⟨_, rfl, ?_⟩
    replace h11 := h11.stp s49 (by decide) (by decide)
    replace h6 := h6.stp s49 (by decide)
    replace hB := hB.stp s49 (by decide)
    refine st_val (ex_assign rfl) (by decide) trivial ?_
    refine wpF_end (r := [(1, (.int .i64 p1)), (2, (.int .i64 p2)), (3, (.int .i64 p3)), (4, (.pointer (some ⟨b5, 0, none⟩))), (10, v10), (11, v43)]) ⟨rfl, rfl, rfl, rfl, rfl, rfl, trivial⟩ ?_
    refine nx ?_
    refine wpC_seq ?_
    refine wpC_region ?_
    refine st_val (ex_move rfl) (by decide) trivial ?_
    refine st_op (by decide) trivial ?_
    refine wf_litW w.heap.size 15 hB.keeps.size (o := o51) (cs := [(.int .i64 p1)]) (xs := ([p1] : List Int)) (vs := [(0, (.int .i64 p1))]) ⟨_, _, rfl, rfl, rfl⟩ rfl ⟨rfl, rfl, trivial⟩ Try.underlying26 Try.sizeOf3 Try.zeroValue3 (by decide) (fill1 rfl) (by simp) ?_
    intro o52 w53 v54 h55 s56
    replace h11 := h11.stp s56 (by decide) (by decide)
    replace h44 := h44.stp s56 (by decide) (by decide)
    replace h46 := h46.stp s56 (by decide) (by decide)
    replace h6 := h6.stp s56 (by decide)
    replace hB := hB.stp s56 (by decide)
    refine st_val (ex_assign rfl) (by decide) trivial ?_
    refine wpF_end (r := [(2, (.int .i64 p2)), (3, (.int .i64 p3)), (4, (.pointer (some ⟨b5, 0, none⟩))), (10, v10), (11, v43), (12, v54)]) ⟨rfl, rfl, rfl, rfl, rfl, rfl, trivial⟩ ?_
    refine nx ?_
    refine wpC_seq ?_
    refine wpC_seq ?_
    refine wpC_region ?_
    refine st_val (ex_move rfl) (by decide) trivial ?_
    obtain ⟨x57, hx57, hF⟩ := bind_some hF
    refine st_val (ex_sub rfl rfl hx57) (by decide) trivial ?_
    refine st_val (ex_assign rfl) (by decide) trivial ?_
    refine wpF_end (r := [(2, (.int .i64 p2)), (4, (.pointer (some ⟨b5, 0, none⟩))), (10, v10), (11, v43), (12, v54), (13, (.int .i64 x57))]) ⟨rfl, rfl, rfl, rfl, rfl, rfl, trivial⟩ ?_
    refine nx ?_
    obtain ⟨q64, hq64, hF⟩ := bind_some hF
    refine wpC_cutN (fun a w63 => ∃ (y58 : List Int) (y61 : Int) (v59 : Value) (o62 : Tg), q64 = .inl (y58, y61) ∧ Fr a 74 [(12, v59)] ∧ Bs oo o62 w w63 ∧ Ow w.heap.size 3 15 o62 w63 v59 y58) (fun _ _ => False) ?_ ?_ ?_
    · refine wpC_block ?_
      refine wpC_loop (fun (K : Nat) a w63 => ∃ (y58 : List Int) (y61 : Int) (v59 : Value) (o62 : Tg), loopF (fS_waBetween_s1 fuel p0 p2 x8 x41) K (y58, y61) = some q64 ∧ Fr a 74 [(2, (.int .i64 p2)), (4, (.pointer (some ⟨b5, 0, none⟩))), (10, v10), (11, v43), (12, v59), (13, (.int .i64 y61))] ∧ Bs oo o62 w w63 ∧ Ow w.heap.size 110 12 o62 w63 v10 x8 ∧ Ow w.heap.size 109 13 o62 w63 v43 g45 ∧ Rws w.heap.size 4 14 o62 w63 g45 x41 ∧ Ow w.heap.size 3 15 o62 w63 v59 y58 ∧ Bx w.heap.size 11 o62 w63 b5 44 [(.int .i64 p0.Labels), v1]) fuel (fun a ha => ⟨([p1] : List Int), x57, v54, o52, hq64, ha.sub (r := [(2, (.int .i64 p2)), (4, (.pointer (some ⟨b5, 0, none⟩))), (10, v10), (11, v43), (12, v54), (13, (.int .i64 x57))]) ⟨rfl, rfl, rfl, rfl, rfl, rfl, trivial⟩, hB, h11, h44, h46, h55, h6⟩) ?_
      rintro K68 a w63 ⟨y58, y61, v59, o62, l65, ha, hB, h11, h44, h46, h60, h6⟩
      obtain ⟨K72, q69, e73, b70, n71⟩ := loopF_cons l65
      dsimp only [fS_waBetween_s1] at b70
      refine wp_of ha ?_
      refine wpC_seq ?_
      refine wpC_seq ?_
      refine wpC_region ?_
      refine st_val (ex_move rfl) (by decide) trivial ?_
      refine st_val (ex_geq rfl rfl) (by decide) trivial ?_
      refine wpF_end (r := [(2, (.int .i64 p2)), (4, (.pointer (some ⟨b5, 0, none⟩))), (10, v10), (11, v43), (12, v59), (13, (.int .i64 y61)), (36, (.bool (decide (y61 ≥ 0))))]) ⟨rfl, rfl, rfl, rfl, rfl, rfl, rfl, trivial⟩ ?_
      refine nx ?_
      refine wpC_cond rfl (fun t74 => ?_) (fun t74 => ?_)
      · rw [if_pos t74] at b70
        refine wpC_skip ?_
        refine nx ?_
        refine wpC_seq ?_
        refine wpC_block ?_
        refine wpC_seq ?_
        refine wpC_region ?_
        refine st_val (ex_assign rfl) (by decide) trivial ?_
        refine wpF_end (r := [(2, (.int .i64 p2)), (4, (.pointer (some ⟨b5, 0, none⟩))), (10, v10), (11, v43), (12, v59), (13, (.int .i64 y61)), (14, (.int .i64 0))]) ⟨rfl, rfl, rfl, rfl, rfl, rfl, rfl, trivial⟩ ?_
        refine nx ?_
        obtain ⟨q81, hq81, b70⟩ := bind_some b70
        refine wpC_cutN (fun a w80 => ∃ (y75 : List Int) (y78 : Int) (v76 : Value) (o79 : Tg), q81 = .inl (y75, y78) ∧ Fr a 74 [(2, (.int .i64 p2)), (4, (.pointer (some ⟨b5, 0, none⟩))), (10, v10), (11, v43), (12, v76), (13, (.int .i64 y61))] ∧ Bs oo o79 w w80 ∧ Ow w.heap.size 110 12 o79 w80 v10 x8 ∧ Ow w.heap.size 109 13 o79 w80 v43 g45 ∧ Rws w.heap.size 4 14 o79 w80 g45 x41 ∧ Ow w.heap.size 3 15 o79 w80 v76 y75 ∧ Bx w.heap.size 11 o79 w80 b5 44 [(.int .i64 p0.Labels), v1]) (fun _ _ => False) ?_ ?_ ?_
        · refine wpC_block ?_
          refine wpC_loop (fun (K : Nat) a w80 => ∃ (y75 : List Int) (y78 : Int) (v76 : Value) (o79 : Tg), loopF (fS_waBetween_s2 p0 p2 x8 x41 y61) K (y75, y78) = some q81 ∧ Fr a 74 [(2, (.int .i64 p2)), (4, (.pointer (some ⟨b5, 0, none⟩))), (10, v10), (11, v43), (12, v76), (13, (.int .i64 y61)), (14, (.int .i64 y78))] ∧ Bs oo o79 w w80 ∧ Ow w.heap.size 110 12 o79 w80 v10 x8 ∧ Ow w.heap.size 109 13 o79 w80 v43 g45 ∧ Rws w.heap.size 4 14 o79 w80 g45 x41 ∧ Ow w.heap.size 3 15 o79 w80 v76 y75 ∧ Bx w.heap.size 11 o79 w80 b5 44 [(.int .i64 p0.Labels), v1]) fuel (fun a ha => ⟨y58, 0, v59, o62, hq81, ha.sub (r := [(2, (.int .i64 p2)), (4, (.pointer (some ⟨b5, 0, none⟩))), (10, v10), (11, v43), (12, v59), (13, (.int .i64 y61)), (14, (.int .i64 0))]) ⟨rfl, rfl, rfl, rfl, rfl, rfl, rfl, trivial⟩, hB, h11, h44, h46, h60, h6⟩) ?_
          rintro K85 a w80 ⟨y75, y78, v76, o79, l82, ha, hB, h11, h44, h46, h77, h6⟩
          obtain ⟨K89, q86, e90, b87, n88⟩ := loopF_cons l82
          dsimp only [fS_waBetween_s2] at b87
          refine wp_of ha ?_
          refine wpC_seq ?_
          refine wpC_seq ?_
          refine wpC_region ?_
          refine st_val (ex_move rfl) (by decide) trivial ?_
          refine st_val (ex_field rfl Try.underlying44 rfl Try.sizeOf3) (by decide) trivial ?_
          refine st_val (ex_load1 rfl Try.isAgg3 (h6.cell rfl)) (by decide) trivial ?_
          refine st_val (ex_lss rfl rfl) (by decide) trivial ?_
          refine wpF_end (r := [(2, (.int .i64 p2)), (4, (.pointer (some ⟨b5, 0, none⟩))), (10, v10), (11, v43), (12, v76), (13, (.int .i64 y61)), (14, (.int .i64 y78)), (42, (.bool (decide (y78 < p0.Labels))))]) ⟨rfl, rfl, rfl, rfl, rfl, rfl, rfl, rfl, trivial⟩ ?_
          refine nx ?_
          refine wpC_cond rfl (fun t91 => ?_) (fun t91 => ?_)
          · rw [if_pos t91] at b87
            refine wpC_skip ?_
            refine nx ?_
            refine wpC_seq ?_
            refine wpC_block ?_
            refine wpC_seq ?_
            refine wpC_region ?_
            refine st_val (ex_move rfl) (by decide) trivial ?_
            refine st_val (ex_move rfl) (by decide) trivial ?_
            refine st_val (ex_move rfl) (by decide) trivial ?_
            refine st_val (ex_lenO rfl h77 Try.underlying26) (by decide) trivial ?_
            obtain ⟨x92, hx92, b87⟩ := bind_some b87
            refine st_val (ex_sub rfl rfl hx92) (by decide) trivial ?_
            obtain ⟨x93, hx93, b87⟩ := bind_some b87
            refine st_op (by decide) trivial ?_
            refine wf_atW h77 hx93 rfl rfl Try.underlying26 Try.sizeOf3 ?_
            intro b94 f95 c96 h97 h98
            cases h98
            refine st_val (ex_load1 rfl Try.isAgg3 (cell_of_cells h97)) (by decide) trivial ?_
            obtain ⟨x99, hx99, b87⟩ := bind_some b87
            obtain ⟨v100, h101, h102, h103⟩ := h46.ix hx99
            refine st_op (by decide) trivial ?_
            refine wf_atW h44 h101 rfl rfl Try.underlying110 Try.sizeOf109 ?_
            intro b104 f105 c106 h107 h108
            obtain ⟨rfl, -⟩ := h108
            refine st_val (ex_load1 rfl Try.isAgg109 (cell_of_cells h107)) (by decide) trivial ?_
            refine st_val (ex_move rfl) (by decide) trivial ?_
            obtain ⟨x109, hx109, b87⟩ := bind_some b87
            refine st_op (by decide) trivial ?_
            refine wf_atW (h46.at h102 h103) hx109 rfl rfl Try.underlying109 Try.sizeOf4 ?_
            intro b110 f111 c112 h113 h114
            cases h114
            refine st_val (ex_load1 rfl Try.isAgg4 (cell_of_cells h113)) (by decide) trivial ?_
            refine st_val (ex_move rfl) (by decide) trivial ?_
            obtain ⟨q115, hq115, b87⟩ := bind_some b87
            refine wpF_cutAt 11 (fun a117 w116 => Fr a117 74 [(2, (.int .i64 p2)), (4, (.pointer (some ⟨b5, 0, none⟩))), (10, v10), (11, v43), (12, v76), (13, (.int .i64 y61)), (14, (.int .i64 y78)), (68, (.bool q115))] ∧ Keeps w80 w116) ?_ ?_
            all_goals simp only [List.take_succ_cons, List.take_zero, List.drop_succ_cons, List.drop_zero]
            · have kp : Keeps w80 w80 := Keeps.refl _
              rcases Bool.eq_false_or_eq_true (x109) with t118 | t118
              · rw [if_pos t118] at hq115
                refine st_val (ex_move rfl) (by decide) ⟨_, rfl, (congrArg (fun b => some (Value.bool b)) t118)⟩ ?_
                refine st_val (ex_move rfl) (by decide) ⟨_, rfl, (congrArg (fun b => some (Value.bool b)) t118)⟩ ?_
                obtain ⟨x119, hx119, hq115⟩ := bind_some hq115
                refine st_op (by decide) ⟨_, rfl, (congrArg (fun b => some (Value.bool b)) t118)⟩ ?_
                refine wf_atW h11 hx119 rfl rfl Try.underlying136 Try.sizeOf110 ?_
                intro b120 f121 c122 h123 h124
                obtain ⟨v125, rfl, h126⟩ := h124
                refine st_val (ex_load1 rfl Try.isAgg110 (cell_of_cells h123)) (by decide) ⟨_, rfl, (congrArg (fun b => some (Value.bool b)) t118)⟩ ?_
                refine st_val (ex_move rfl) (by decide) ⟨_, rfl, (congrArg (fun b => some (Value.bool b)) t118)⟩ ?_
                obtain ⟨x127, hx127, hq115⟩ := bind_some hq115
                refine st_op (by decide) ⟨_, rfl, (congrArg (fun b => some (Value.bool b)) t118)⟩ ?_
                refine wf_atO h126 hx127 rfl rfl Try.underlying110 Try.sizeOf109 ?_
                intro b128 f129 c130 h131 h132
                obtain ⟨v133, rfl, h134⟩ := h132
                refine st_val (ex_load1 rfl Try.isAgg109 (cell_of_cells h131)) (by decide) ⟨_, rfl, (congrArg (fun b => some (Value.bool b)) t118)⟩ ?_
                refine st_val (ex_move rfl) (by decide) ⟨_, rfl, (congrArg (fun b => some (Value.bool b)) t118)⟩ ?_
                obtain ⟨x135, hx135, hq115⟩ := bind_some hq115
                refine st_op (by decide) ⟨_, rfl, (congrArg (fun b => some (Value.bool b)) t118)⟩ ?_
                refine wf_atO h134 hx135 rfl rfl Try.underlying109 Try.sizeOf4 ?_
                intro b136 f137 c138 h139 h140
                cases h140
                refine st_val (ex_load1 rfl Try.isAgg4 (cell_of_cells h139)) (by decide) ⟨_, rfl, (congrArg (fun b => some (Value.bool b)) t118)⟩ ?_
                refine st_val (ex_pick_t (congrArg (fun b => some (Value.bool b)) t118) rfl) (by decide) trivial ?_
                have hq1152 := Option.some.inj hq115
                refine wpF_end (r := [(2, (.int .i64 p2)), (4, (.pointer (some ⟨b5, 0, none⟩))), (10, v10), (11, v43), (12, v76), (13, (.int .i64 y61)), (14, (.int .i64 y78)), (68, (.bool x135))]) ⟨rfl, rfl, rfl, rfl, rfl, rfl, rfl, rfl, trivial⟩ ?_
                subst hq1152
                refine np_norm (fun a ha => ⟨ha, kp⟩)
              · rw [if_neg (by rw [t118]; decide)] at hq115
                refine st_no rfl rfl (by rw [t118]; rfl) (by decide) ?_
                refine st_no rfl rfl (by rw [t118]; rfl) (by decide) ?_
                refine st_no rfl rfl (by rw [t118]; rfl) (by decide) ?_
                refine st_no rfl rfl (by rw [t118]; rfl) (by decide) ?_
                refine st_no rfl rfl (by rw [t118]; rfl) (by decide) ?_
                refine st_no rfl rfl (by rw [t118]; rfl) (by decide) ?_
                refine st_no rfl rfl (by rw [t118]; rfl) (by decide) ?_
                refine st_no rfl rfl (by rw [t118]; rfl) (by decide) ?_
                refine st_no rfl rfl (by rw [t118]; rfl) (by decide) ?_
                refine st_no rfl rfl (by rw [t118]; rfl) (by decide) ?_
                refine st_val (ex_pick_f (congrArg (fun b => some (Value.bool b)) t118) rfl) (by decide) trivial ?_
                have hq1152 := Option.some.inj hq115
                refine wpF_end (r := [(2, (.int .i64 p2)), (4, (.pointer (some ⟨b5, 0, none⟩))), (10, v10), (11, v43), (12, v76), (13, (.int .i64 y61)), (14, (.int .i64 y78)), (68, (.bool false))]) ⟨rfl, rfl, rfl, rfl, rfl, rfl, rfl, rfl, trivial⟩ ?_
                subst hq1152
                refine np_norm (fun a ha => ⟨ha, kp⟩)
            rintro a143 w116 ⟨ha, k141⟩
            have s142 := k141.stp 999 o79
            replace h11 := h11.stp s142 (by decide) (by decide)
            replace h44 := h44.stp s142 (by decide) (by decide)
            replace h46 := h46.stp s142 (by decide) (by decide)
            replace h77 := h77.stp s142 (by decide) (by decide)
            replace h6 := h6.stp s142 (by decide)
            replace hB := hB.stp s142 (by decide)
            refine wl_of ha ?_
            refine wpF_end (r := [(2, (.int .i64 p2)), (4, (.pointer (some ⟨b5, 0, none⟩))), (10, v10), (11, v43), (12, v76), (13, (.int .i64 y61)), (14, (.int .i64 y78)), (68, (.bool q115))]) ⟨rfl, rfl, rfl, rfl, rfl, rfl, rfl, rfl, trivial⟩ ?_
            refine nx ?_
            refine wpC_cond rfl (fun t144 => ?_) (fun t144 => ?_)
            · rw [if_pos t144] at b87
              refine wpC_seq ?_
              refine wpC_region ?_
              refine st_val (ex_move rfl) (by decide) trivial ?_
              refine st_val (ex_move rfl) (by decide) trivial ?_
              refine st_op (by decide) trivial ?_
              refine wf_litR (o := o79) (cs := [(.int .i64 y78)]) (xs := ([y78] : List Int)) (vs := [(0, (.int .i64 y78))]) ⟨_, _, rfl, rfl, rfl⟩ rfl ⟨rfl, rfl, trivial⟩ Try.underlying26 Try.sizeOf3 Try.zeroValue3 (by decide) (fill1 rfl) (by simp) ?_
              intro o145 w146 v147 h148 s149 k150
              replace h11 := h11.stp s149 (by decide) (by decide)
              replace h44 := h44.stp s149 (by decide) (by decide)
              replace h46 := h46.stp s149 (by decide) (by decide)
              replace h77 := h77.stp s149 (by decide) (by decide)
              replace h6 := h6.stp s149 (by decide)
              replace hB := hB.stp s149 (by decide)
              obtain ⟨x151, hx151, b87⟩ := bind_some b87
              refine st_op (by decide) trivial ?_
              refine wf_cat h77 h148 (push_cat hx151) (by decide) hB.keeps.size rfl rfl Try.underlying26 info2_t_int_Fa rfl (by decide) ?_
              intro o152 w153 v154 h155 s156
              replace h11 := h11.stp s156 (by decide) (by decide)
              replace h44 := h44.stp s156 (by decide) (by decide)
              replace h46 := h46.stp s156 (by decide) (by decide)
              replace h148 := h148.stp s156 (by decide)
              replace h6 := h6.stp s156 (by decide)
              replace hB := hB.stp s156 (by decide)
              refine st_val (ex_assign rfl) (by decide) trivial ?_
              refine wpF_end (r := [(2, (.int .i64 p2)), (4, (.pointer (some ⟨b5, 0, none⟩))), (10, v10), (11, v43), (12, v154), (13, (.int .i64 y61))]) ⟨rfl, rfl, rfl, rfl, rfl, rfl, trivial⟩ ?_
              refine nx ?_
              refine wpC_exit ?_
              refine nb_miss (by decide) ?_
              refine nt_exit ?_
              refine nt_exit ?_
              refine nb_hit ?_
              refine np_norm ?_
              have e157 := Option.some.inj b87
              subst e157
              refine to_k (r := [(2, (.int .i64 p2)), (4, (.pointer (some ⟨b5, 0, none⟩))), (10, v10), (11, v43), (12, v154), (13, (.int .i64 y61))]) ⟨rfl, rfl, rfl, rfl, rfl, rfl, trivial⟩ ?_
              intro a ha
              exact ⟨x151, 0, v154, o152, n88, ha, hB, h11, h44, h46, h155, h6⟩
            · rw [if_neg (by rw [t144]; decide)] at b87
              refine wpC_skip ?_
              refine nb_norm ?_
              refine nx ?_
              refine wpC_region ?_
              refine st_val (ex_move rfl) (by decide) trivial ?_
              obtain ⟨x158, hx158, b87⟩ := bind_some b87
              refine st_val (ex_add rfl rfl hx158) (by decide) trivial ?_
              refine st_val (ex_assign rfl) (by decide) trivial ?_
              refine wpF_end (r := [(2, (.int .i64 p2)), (4, (.pointer (some ⟨b5, 0, none⟩))), (10, v10), (11, v43), (12, v76), (13, (.int .i64 y61)), (14, (.int .i64 x158))]) ⟨rfl, rfl, rfl, rfl, rfl, rfl, rfl, trivial⟩ ?_
              refine nt_norm ?_
              have e159 := Option.some.inj b87
              subst e159
              refine to_k (r := [(2, (.int .i64 p2)), (4, (.pointer (some ⟨b5, 0, none⟩))), (10, v10), (11, v43), (12, v76), (13, (.int .i64 y61)), (14, (.int .i64 x158))]) ⟨rfl, rfl, rfl, rfl, rfl, rfl, rfl, trivial⟩ ?_
              intro a ha
              exact ⟨K89, by omega, y75, x158, v76, o79, n88, ha, hB, h11, h44, h46, h77, h6⟩
          · rw [if_neg (by rw [t91]; decide)] at b87
            refine wpC_exit ?_
            refine nt_exit ?_
            refine nt_exit ?_
            refine nb_hit ?_
            refine np_norm ?_
            have e160 := Option.some.inj b87
            subst e160
            refine to_k (r := [(2, (.int .i64 p2)), (4, (.pointer (some ⟨b5, 0, none⟩))), (10, v10), (11, v43), (12, v76), (13, (.int .i64 y61))]) ⟨rfl, rfl, rfl, rfl, rfl, rfl, trivial⟩ ?_
            intro a ha
            exact ⟨y75, y78, v76, o79, n88, ha, hB, h11, h44, h46, h77, h6⟩
        · rintro a w80 ⟨y75, y78, v76, o79, rfl, ha, hB, h11, h44, h46, h77, h6⟩
          dsimp only at b70
          refine ap_k ha ?_
          refine nb_norm ?_
          refine nx ?_
          refine wpC_region ?_
          refine st_val (ex_move rfl) (by decide) trivial ?_
          obtain ⟨x161, hx161, b70⟩ := bind_some b70
          refine st_val (ex_sub rfl rfl hx161) (by decide) trivial ?_
          refine st_val (ex_assign rfl) (by decide) trivial ?_
          refine wpF_end (r := [(2, (.int .i64 p2)), (4, (.pointer (some ⟨b5, 0, none⟩))), (10, v10), (11, v43), (12, v76), (13, (.int .i64 x161))]) ⟨rfl, rfl, rfl, rfl, rfl, rfl, trivial⟩ ?_
          refine nt_norm ?_
          have e162 := Option.some.inj b70
          subst e162
          refine to_k (r := [(2, (.int .i64 p2)), (4, (.pointer (some ⟨b5, 0, none⟩))), (10, v10), (11, v43), (12, v76), (13, (.int .i64 x161))]) ⟨rfl, rfl, rfl, rfl, rfl, rfl, trivial⟩ ?_
          intro a ha
          exact ⟨K72, by omega, y75, x161, v76, o79, n71, ha, hB, h11, h44, h46, h77, h6⟩
        · exact fun _ _ h => h.elim
      · rw [if_neg (by rw [t74]; decide)] at b70
        refine wpC_exit ?_
        refine nt_exit ?_
        refine nt_exit ?_
        refine nb_hit ?_
        refine np_norm ?_
        have e163 := Option.some.inj b70
        subst e163
        refine to_k (r := [(12, v59)]) ⟨rfl, trivial⟩ ?_
        intro a ha
        exact ⟨y58, y61, v59, o62, n71, ha, hB, h60⟩
    · rintro a w63 ⟨y58, y61, v59, o62, rfl, ha, hB, h60⟩
      dsimp only at hF
      refine ap_k ha ?_
      refine nx ?_
      refine wpC_seq ?_
      refine wpC_region ?_
      refine st_val (ex_move rfl) (by decide) trivial ?_
      refine st_val (ex_assign rfl) (by decide) trivial ?_
      refine st_val (ex_assign rfl) (by decide) trivial ?_
      refine wpF_end (r := [(8, v59), (9, (.bool true))]) ⟨rfl, rfl, trivial⟩ ?_
      refine nx ?_
      refine wpC_ret ?_
      have e164 := Option.some.inj hF
      subst e164
      refine ret_post (P := Try.prog) (vs := [v59, (.bool true)]) Try.results154 ⟨rfl, rfl, trivial⟩ ?_
      exact ⟨_, rt oo o62 w.heap.size 15 t, rfl, h60.rt hB (by decide) t, hB.keeps, rt_old _ _ _ _ _⟩
    · exact fun _ _ h => h.elim

def fS_WalkBetween (fuel : Nat) (p0 : T_WalkProblem) (p1 : Int) (p2 : Int) (p3 : Int) : Option ((List Int) × Bool) :=
  (fS_waGood p0) >>= fun x8 =>
  (
    if !x8 then
      some true
    else
      (ck (p0.Labels - 1)) >>= fun x24 =>
      (fS_l1All ([p1, p2] : List Int) 0 x24) >>= fun x25 =>
      if !x25 then
        some true
      else
        (fS_l1In p3 0 199) >>= fun x32 =>
        some (!x32)) >>= fun q14 =>
  if q14 then
    some ([], false)
  else
    (fS_waBetween fuel p0 p1 p2 p3) >>= fun x43 =>
    some (x43.1, x43.2)

def pS_WalkBetween (oo : Tg) (t : Nat) (w : World) (r : (List Int) × Bool) : Ending → World → Prop := fun e w' => ∃ (v0 : Value) (o' : Tg), e = .returned (.tuple #[v0, .bool r.2]) ∧ Ow w.heap.size 3 t o' w' v0 r.1 ∧ Keeps w w' ∧ ∀ b, b < w.heap.size → o' b = oo b
set_option maxRecDepth 100000 in
set_option maxHeartbeats 2000000 in
theorem cS_WalkBetween (fuel : Nat) (w : World) (oo : Tg) (t : Nat) (ht : 2 ≤ t) (u0 : List Value) (p0 : T_WalkProblem) (g0 : Rp.rd zt w u0 p0) (p1 : Int) (p2 : Int) (p3 : Int) (r : (List Int) × Bool) (hF : fS_WalkBetween fuel p0 p1 p2 p3 = some r) :
    Calls Try.prog 118 #[.agg u0.toArray, .int .i64 p1, .int .i64 p2, .int .i64 p3] w (pS_WalkBetween oo t w r) := by
  unfold fS_WalkBetween at hF
  obtain ⟨v1, rfl, h2⟩ := g0
  have hB : Bs oo (col oo) w w := Bs.start _ _
  refine calls_start (n := 35) (vs := [(.agg #[(.int .i64 p0.Labels), v1]), (.int .i64 p1), (.int .i64 p2), (.int .i64 p3)]) Try.func118 rfl rfl ?_
  generalize col oo = o at *
  refine wpC_seq ?_
  refine wpC_region ?_
  refine st_op (by decide) trivial ?_
  refine wf_box (o := o) w.heap.size 11 hB.keeps.size (cs := [(.int .i64 p0.Labels), v1]) rfl rfl ?_
  intro o3 w4 b5 h6 s7
  replace hB := hB.stp s7 (by decide)
  refine st_val (ex_assign rfl) (by decide) trivial ?_
  refine st_val (ex_assign rfl) (by decide) trivial ?_
  refine wpF_end (r := [(1, (.int .i64 p1)), (2, (.int .i64 p2)), (3, (.int .i64 p3)), (4, (.pointer (some ⟨b5, 0, none⟩)))]) ⟨rfl, rfl, rfl, rfl, trivial⟩ ?_
  refine nx ?_
  refine wpC_seq ?_
  refine wpC_seq ?_
  refine wpC_region ?_
  refine st_val (ex_loadA rfl Try.isAgg44 Try.sizeOf44 rfl h6.cells) (by decide) trivial ?_
  obtain ⟨x8, hx8, hF⟩ := bind_some hF
  refine st_op (by decide) trivial ?_
  refine wf_call (cS_waGood w4 _ p0 (⟨_, rfl, (h2.keep hB.keeps)⟩) x8 hx8) Try.call61 ⟨rfl, trivial⟩ ?_
  rintro e13 w9 ⟨rfl, k10⟩
  have s12 := k10.stp 999 o3
  refine ⟨_, rfl, ?_⟩
  replace h6 := h6.stp s12 (by decide)
  replace hB := hB.stp s12 (by decide)
  refine st_val (ex_not rfl) (by decide) trivial ?_
  refine st_val (ex_move rfl) (by decide) trivial ?_
  obtain ⟨q14, hq14, hF⟩ := bind_some hF
  refine wpF_cutAt 14 (fun a16 w15 => Fr a16 35 [(1, (.int .i64 p1)), (2, (.int .i64 p2)), (3, (.int .i64 p3)), (4, (.pointer (some ⟨b5, 0, none⟩))), (27, (.bool q14))] ∧ Keeps w9 w15) ?_ ?_
  all_goals simp only [List.take_succ_cons, List.take_zero, List.drop_succ_cons, List.drop_zero]
  · have kp : Keeps w9 w9 := Keeps.refl _
    rcases Bool.eq_false_or_eq_true (!x8) with t17 | t17
    · rw [if_pos t17] at hq14
      refine st_no rfl rfl (by rw [t17]; rfl) (by decide) ?_
      refine st_no rfl rfl (by rw [t17]; rfl) (by decide) ?_
      refine st_no rfl rfl (by rw [t17]; rfl) (by decide) ?_
      refine st_no rfl rfl (by rw [t17]; rfl) (by decide) ?_
      refine st_no rfl rfl (by rw [t17]; rfl) (by decide) ?_
      refine st_no rfl rfl (by rw [t17]; rfl) (by decide) ?_
      refine st_no rfl rfl (by rw [t17]; rfl) (by decide) ?_
      refine st_no rfl rfl (by rw [t17]; rfl) (by decide) ?_
      refine st_val (ex_pick_t (congrArg (fun b => some (Value.bool b)) t17) rfl) (by decide) trivial ?_
      refine st_val (ex_move rfl) (by decide) trivial ?_
      refine st_no rfl rfl rfl (by decide) ?_
      refine st_no rfl rfl rfl (by decide) ?_
      refine st_no rfl rfl rfl (by decide) ?_
      refine st_val (ex_pick_t rfl rfl) (by decide) trivial ?_
      have hq142 := Option.some.inj hq14
      refine wpF_end (r := [(1, (.int .i64 p1)), (2, (.int .i64 p2)), (3, (.int .i64 p3)), (4, (.pointer (some ⟨b5, 0, none⟩))), (27, (.bool true))]) ⟨rfl, rfl, rfl, rfl, rfl, trivial⟩ ?_
      subst hq142
      refine np_norm (fun a ha => ⟨ha, kp⟩)
    · rw [if_neg (by rw [t17]; decide)] at hq14
      refine st_val (ex_move rfl) (by decide) ⟨_, rfl, (congrArg (fun b => some (Value.bool b)) t17)⟩ ?_
      refine st_val (ex_move rfl) (by decide) ⟨_, rfl, (congrArg (fun b => some (Value.bool b)) t17)⟩ ?_
      refine st_op (by decide) ⟨_, rfl, (congrArg (fun b => some (Value.bool b)) t17)⟩ ?_
      refine wf_litR (o := o3) (cs := [(.int .i64 p1), (.int .i64 p2)]) (xs := ([p1, p2] : List Int)) (vs := [(0, (.int .i64 p1)), (1, (.int .i64 p2))]) ⟨_, _, rfl, rfl, ⟨_, _, rfl, rfl, rfl⟩⟩ rfl ⟨rfl, rfl, rfl, rfl, trivial⟩ Try.underlying26 Try.sizeOf3 Try.zeroValue3 (by decide) (fill2 rfl rfl) (by simp) ?_
      intro o18 w19 v20 h21 s22 k23
      replace h6 := h6.stp s22 (by decide)
      replace hB := hB.stp s22 (by decide)
      replace kp := Keeps.trans kp k23
      refine st_val (ex_field rfl Try.underlying44 rfl Try.sizeOf3) (by decide) ⟨_, rfl, (congrArg (fun b => some (Value.bool b)) t17)⟩ ?_
      refine st_val (ex_load1 rfl Try.isAgg3 (h6.cell rfl)) (by decide) ⟨_, rfl, (congrArg (fun b => some (Value.bool b)) t17)⟩ ?_
      obtain ⟨x24, hx24, hq14⟩ := bind_some hq14
      refine st_val (ex_sub rfl rfl hx24) (by decide) ⟨_, rfl, (congrArg (fun b => some (Value.bool b)) t17)⟩ ?_
      obtain ⟨x25, hx25, hq14⟩ := bind_some hq14
      refine st_op (by decide) ⟨_, rfl, (congrArg (fun b => some (Value.bool b)) t17)⟩ ?_
      refine wf_call (cS_l1All w19 _ ([p1, p2] : List Int) h21.z 0 x24 x25 hx25) Try.call88 ⟨rfl, rfl, rfl, trivial⟩ ?_
      rintro e30 w26 ⟨rfl, k27⟩
      have s29 := k27.stp 999 o18
      refine ⟨_, rfl, ?_⟩
      replace h21 := h21.stp s29 (by decide)
      replace h6 := h6.stp s29 (by decide)
      replace hB := hB.stp s29 (by decide)
      replace kp := Keeps.trans kp k27
      refine st_val (ex_not rfl) (by decide) ⟨_, rfl, (congrArg (fun b => some (Value.bool b)) t17)⟩ ?_
      refine st_val (ex_pick_f (congrArg (fun b => some (Value.bool b)) t17) rfl) (by decide) trivial ?_
      refine st_val (ex_move rfl) (by decide) trivial ?_
      rcases Bool.eq_false_or_eq_true (!x25) with t31 | t31
      · rw [if_pos t31] at hq14
        refine st_no rfl rfl (by rw [t31]; rfl) (by decide) ?_
        refine st_no rfl rfl (by rw [t31]; rfl) (by decide) ?_
        refine st_no rfl rfl (by rw [t31]; rfl) (by decide) ?_
        refine st_val (ex_pick_t (congrArg (fun b => some (Value.bool b)) t31) rfl) (by decide) trivial ?_
        have hq142 := Option.some.inj hq14
        refine wpF_end (r := [(1, (.int .i64 p1)), (2, (.int .i64 p2)), (3, (.int .i64 p3)), (4, (.pointer (some ⟨b5, 0, none⟩))), (27, (.bool true))]) ⟨rfl, rfl, rfl, rfl, rfl, trivial⟩ ?_
        subst hq142
        refine np_norm (fun a ha => ⟨ha, kp⟩)
      · rw [if_neg (by rw [t31]; decide)] at hq14
        refine st_val (ex_move rfl) (by decide) ⟨_, rfl, (congrArg (fun b => some (Value.bool b)) t31)⟩ ?_
        obtain ⟨x32, hx32, hq14⟩ := bind_some hq14
        refine st_op (by decide) ⟨_, rfl, (congrArg (fun b => some (Value.bool b)) t31)⟩ ?_
        refine wf_call (cS_l1In w26 p3 0 199 x32 hx32) Try.call53 ⟨rfl, rfl, rfl, trivial⟩ ?_
        rintro e37 w33 ⟨rfl, k34⟩
        have s36 := k34.stp 999 o18
        refine ⟨_, rfl, ?_⟩
        replace h21 := h21.stp s36 (by decide)
        replace h6 := h6.stp s36 (by decide)
        replace hB := hB.stp s36 (by decide)
        replace kp := Keeps.trans kp k34
        refine st_val (ex_not rfl) (by decide) ⟨_, rfl, (congrArg (fun b => some (Value.bool b)) t31)⟩ ?_
        refine st_val (ex_pick_f (congrArg (fun b => some (Value.bool b)) t31) rfl) (by decide) trivial ?_
        have hq142 := Option.some.inj hq14
        refine wpF_end (r := [(1, (.int .i64 p1)), (2, (.int .i64 p2)), (3, (.int .i64 p3)), (4, (.pointer (some ⟨b5, 0, none⟩))), (27, (.bool (!x32)))]) ⟨rfl, rfl, rfl, rfl, rfl, trivial⟩ ?_
        subst hq142
        refine np_norm (fun a ha => ⟨ha, kp⟩)
  rintro a40 w15 ⟨ha, k38⟩
  have s39 := k38.stp 999 o3
  replace h6 := h6.stp s39 (by decide)
  replace hB := hB.stp s39 (by decide)
  refine wl_of ha ?_
  refine wpF_end (r := [(1, (.int .i64 p1)), (2, (.int .i64 p2)), (3, (.int .i64 p3)), (4, (.pointer (some ⟨b5, 0, none⟩))), (27, (.bool q14))]) ⟨rfl, rfl, rfl, rfl, rfl, trivial⟩ ?_
  refine nx ?_
  refine wpC_cond rfl (fun t41 => ?_) (fun t41 => ?_)
  · rw [if_pos t41] at hF
    refine wpC_seq ?_
    refine wpC_region ?_
    refine st_val (ex_assign rfl) (by decide) trivial ?_
    refine st_val (ex_assign rfl) (by decide) trivial ?_
    refine wpF_end (r := [(8, (.slice none 0 0)), (9, (.bool false))]) ⟨rfl, rfl, trivial⟩ ?_
    refine nx ?_
    refine wpC_ret ?_
    refine nt_ret ?_
    have e42 := Option.some.inj hF
    subst e42
    refine ret_post (P := Try.prog) (vs := [(.slice none 0 0), (.bool false)]) Try.results118 ⟨rfl, rfl, trivial⟩ ?_
    exact ⟨_, rt oo o3 w.heap.size 9 t, rfl, (Ow.nil _ _ _ _ _), hB.keeps, rt_old _ _ _ _ _⟩
  · rw [if_neg (by rw [t41]; decide)] at hF
    refine wpC_skip ?_
    refine nx ?_
    refine wpC_seq ?_
    refine wpC_region ?_
    refine st_val (ex_loadA rfl Try.isAgg44 Try.sizeOf44 rfl h6.cells) (by decide) trivial ?_
    refine st_val (ex_move rfl) (by decide) trivial ?_
    refine st_val (ex_move rfl) (by decide) trivial ?_
    refine st_val (ex_move rfl) (by decide) trivial ?_
    obtain ⟨x43, hx43, hF⟩ := bind_some hF
    refine st_op (by decide) trivial ?_
    refine wf_call (cS_waBetween fuel w15 o3 15 (by decide) _ p0 (⟨_, rfl, (h2.keep hB.keeps)⟩) p1 p2 p3 x43 hx43) Try.call154 ⟨rfl, rfl, rfl, rfl, trivial⟩ ?_
    rintro e50 w44 ⟨v45, o51, rfl, h46, k47, k48⟩
    have s49 := k47.stp' 15 k48
    replace h46 := h46.mono hB.keeps.size
    refine ⟨_, rfl, ?_⟩
    replace h6 := h6.stp s49 (by decide)
    replace hB := hB.stp s49 (by decide)
    refine st_val (ex_extract rfl rfl) (by decide) trivial ?_
    refine st_val (ex_extract rfl rfl) (by decide) trivial ?_
    refine st_val (ex_assign rfl) (by decide) trivial ?_
    refine st_val (ex_assign rfl) (by decide) trivial ?_
    refine wpF_end (r := [(8, v45), (9, (.bool x43.2))]) ⟨rfl, rfl, trivial⟩ ?_
    refine nx ?_
    refine wpC_ret ?_
    have e52 := Option.some.inj hF
    subst e52
    refine ret_post (P := Try.prog) (vs := [v45, (.bool x43.2)]) Try.results118 ⟨rfl, rfl, trivial⟩ ?_
    exact ⟨_, rt oo o51 w.heap.size 15 t, rfl, h46.rt hB (by decide) t, hB.keeps, rt_old _ _ _ _ _⟩

def fS_cyMarks (p0 : Int) (p1 : List Int) : Option Bool :=
  (fS_l1In p0 2 180) >>= fun x1 =>
  (
    if x1 then
      if decide ((p1.length : Int) > 0) then
        (ck (p0 - 1)) >>= fun x12 =>
        (fS_l1Rising p1 0 x12) >>= fun x13 =>
        some x13
      else
        some false
    else
      some false) >>= fun q7 =>
  some q7

def pS_cyMarks (w : World) (r : Bool) : Ending → World → Prop := fun e w' => e = .returned (.bool r) ∧ Keeps w w'
set_option maxRecDepth 100000 in
set_option maxHeartbeats 2000000 in
theorem cS_cyMarks (w : World) (p0 : Int) (u1 : Value) (p1 : List Int) (g1 : RdL zt w u1 p1) (r : Bool) (hF : fS_cyMarks p0 p1 = some r) :
    Calls Try.prog 65 #[.int .i64 p0, u1] w (pS_cyMarks w r) := by
  unfold fS_cyMarks at hF
  have hB : Bs (fun _ => 1) (col (fun _ => 1)) w w := Bs.start _ _
  refine calls_start (n := 18) (vs := [(.int .i64 p0), u1]) Try.func65 rfl rfl ?_
  refine wpC_seq ?_
  refine wpC_region ?_
  refine st_val (ex_assign rfl) (by decide) trivial ?_
  refine wpF_end (r := [(0, (.int .i64 p0)), (1, u1)]) ⟨rfl, rfl, trivial⟩ ?_
  refine nx ?_
  refine wpC_seq ?_
  refine wpC_region ?_
  refine st_val (ex_move rfl) (by decide) trivial ?_
  obtain ⟨x1, hx1, hF⟩ := bind_some hF
  refine st_op (by decide) trivial ?_
  refine wf_call (cS_l1In w p0 2 180 x1 hx1) Try.call53 ⟨rfl, rfl, rfl, trivial⟩ ?_
  rintro e6 w2 ⟨rfl, k3⟩
  have s5 := k3.stp 999 (col (fun _ => 1))
  refine ⟨_, rfl, ?_⟩
  replace hB := hB.stp s5 (by decide)
  refine st_val (ex_move rfl) (by decide) trivial ?_
  obtain ⟨q7, hq7, hF⟩ := bind_some hF
  refine wpF_cutAt 10 (fun a9 w8 => Fr a9 18 [(17, (.bool q7))] ∧ Keeps w2 w8) ?_ ?_
  all_goals simp only [List.take_succ_cons, List.take_zero, List.drop_succ_cons, List.drop_zero]
  · have kp : Keeps w2 w2 := Keeps.refl _
    rcases Bool.eq_false_or_eq_true (x1) with t10 | t10
    · rw [if_pos t10] at hq7
      refine st_val (ex_move rfl) (by decide) ⟨_, rfl, (congrArg (fun b => some (Value.bool b)) t10)⟩ ?_
      refine st_val (ex_lenR rfl g1 Try.underlying26) (by decide) ⟨_, rfl, (congrArg (fun b => some (Value.bool b)) t10)⟩ ?_
      refine st_val (ex_gtr rfl rfl) (by decide) ⟨_, rfl, (congrArg (fun b => some (Value.bool b)) t10)⟩ ?_
      refine st_val (ex_pick_t (congrArg (fun b => some (Value.bool b)) t10) rfl) (by decide) trivial ?_
      refine st_val (ex_move rfl) (by decide) trivial ?_
      rcases Bool.eq_false_or_eq_true (decide ((p1.length : Int) > 0)) with t11 | t11
      · rw [if_pos t11] at hq7
        refine st_val (ex_move rfl) (by decide) ⟨_, rfl, (congrArg (fun b => some (Value.bool b)) t11)⟩ ?_
        refine st_val (ex_move rfl) (by decide) ⟨_, rfl, (congrArg (fun b => some (Value.bool b)) t11)⟩ ?_
        obtain ⟨x12, hx12, hq7⟩ := bind_some hq7
        refine st_val (ex_sub rfl rfl hx12) (by decide) ⟨_, rfl, (congrArg (fun b => some (Value.bool b)) t11)⟩ ?_
        obtain ⟨x13, hx13, hq7⟩ := bind_some hq7
        refine st_op (by decide) ⟨_, rfl, (congrArg (fun b => some (Value.bool b)) t11)⟩ ?_
        refine wf_call (cS_l1Rising w2 _ p1 (g1.keep hB.keeps) 0 x12 x13 hx13) Try.call116 ⟨rfl, rfl, rfl, trivial⟩ ?_
        rintro e18 w14 ⟨rfl, k15⟩
        have s17 := k15.stp 999 (col (fun _ => 1))
        refine ⟨_, rfl, ?_⟩
        replace hB := hB.stp s17 (by decide)
        replace kp := Keeps.trans kp k15
        refine st_val (ex_pick_t (congrArg (fun b => some (Value.bool b)) t11) rfl) (by decide) trivial ?_
        have hq72 := Option.some.inj hq7
        refine wpF_end (r := [(17, (.bool x13))]) ⟨rfl, trivial⟩ ?_
        subst hq72
        refine np_norm (fun a ha => ⟨ha, kp⟩)
      · rw [if_neg (by rw [t11]; decide)] at hq7
        refine st_no rfl rfl (by rw [t11]; rfl) (by decide) ?_
        refine st_no rfl rfl (by rw [t11]; rfl) (by decide) ?_
        refine st_no rfl rfl (by rw [t11]; rfl) (by decide) ?_
        refine st_no rfl rfl (by rw [t11]; rfl) (by decide) ?_
        refine st_val (ex_pick_f (congrArg (fun b => some (Value.bool b)) t11) rfl) (by decide) trivial ?_
        have hq72 := Option.some.inj hq7
        refine wpF_end (r := [(17, (.bool false))]) ⟨rfl, trivial⟩ ?_
        subst hq72
        refine np_norm (fun a ha => ⟨ha, kp⟩)
    · rw [if_neg (by rw [t10]; decide)] at hq7
      refine st_no rfl rfl (by rw [t10]; rfl) (by decide) ?_
      refine st_no rfl rfl (by rw [t10]; rfl) (by decide) ?_
      refine st_no rfl rfl (by rw [t10]; rfl) (by decide) ?_
      refine st_val (ex_pick_f (congrArg (fun b => some (Value.bool b)) t10) rfl) (by decide) trivial ?_
      refine st_val (ex_move rfl) (by decide) trivial ?_
      refine st_no rfl rfl rfl (by decide) ?_
      refine st_no rfl rfl rfl (by decide) ?_
      refine st_no rfl rfl rfl (by decide) ?_
      refine st_no rfl rfl rfl (by decide) ?_
      refine st_val (ex_pick_f rfl rfl) (by decide) trivial ?_
      have hq72 := Option.some.inj hq7
      refine wpF_end (r := [(17, (.bool false))]) ⟨rfl, trivial⟩ ?_
      subst hq72
      refine np_norm (fun a ha => ⟨ha, kp⟩)
  rintro a21 w8 ⟨ha, k19⟩
  have s20 := k19.stp 999 (col (fun _ => 1))
  replace hB := hB.stp s20 (by decide)
  refine wl_of ha ?_
  refine st_val (ex_assign rfl) (by decide) trivial ?_
  refine wpF_end (r := [(4, (.bool q7))]) ⟨rfl, trivial⟩ ?_
  refine nx ?_
  refine wpC_ret ?_
  have e22 := Option.some.inj hF
  subst e22
  refine ret_post (P := Try.prog) (vs := [(.bool q7)]) Try.results65 ⟨rfl, trivial⟩ ?_
  exact ⟨rfl, hB.keeps⟩

def fS_cyGaps_s1 (p0 : Int) (p1 : List Int) : Int → Int → (List Int) → Option (Lp (List Int) (List Int) (List Int)) := fun (i7 : Int) (x17 : Int) (s : List Int) =>
  (ck (i7 + 1)) >>= fun x23 =>
  if decide (x23 < (p1.length : Int)) then
    (ck (i7 + 1)) >>= fun x25 =>
    (ix p1 x25) >>= fun x26 =>
    (ck (x26 - x17)) >>= fun x32 =>
    (push s x32) >>= fun x39 =>
    some (.go x39)
  else
    (ix p1 0) >>= fun x46 =>
    (ck (x46 + p0)) >>= fun x52 =>
    (ck (x52 - x17)) >>= fun x53 =>
    (push s x53) >>= fun x60 =>
    some (.go x60)
def fS_cyGaps (p0 : Int) (p1 : List Int) : Option (List Int) :=
  (forI (fS_cyGaps_s1 p0 p1) p1 0 []) >>= fun q8 =>
  match q8 with
  | .inl y2 =>
    some y2
  | .inr _ => none

def pS_cyGaps (oo : Tg) (t : Nat) (w : World) (r : List Int) : Ending → World → Prop := fun e w' => ∃ (v0 : Value) (o' : Tg), e = .returned (v0) ∧ Ow w.heap.size 3 t o' w' v0 r ∧ Keeps w w' ∧ ∀ b, b < w.heap.size → o' b = oo b
set_option maxRecDepth 100000 in
set_option maxHeartbeats 2000000 in
theorem cS_cyGaps (w : World) (oo : Tg) (t : Nat) (ht : 2 ≤ t) (p0 : Int) (u1 : Value) (p1 : List Int) (g1 : RdL zt w u1 p1) (r : List Int) (hF : fS_cyGaps p0 p1 = some r) :
    Calls Try.prog 117 #[.int .i64 p0, u1] w (pS_cyGaps oo t w r) := by
  unfold fS_cyGaps at hF
  have hB : Bs oo (col oo) w w := Bs.start _ _
  refine calls_start (n := 42) (vs := [(.int .i64 p0), u1]) Try.func117 rfl rfl ?_
  generalize col oo = o at *
  refine wpC_seq ?_
  refine wpC_region ?_
  refine st_val (ex_assign rfl) (by decide) trivial ?_
  refine wpF_end (r := [(0, (.int .i64 p0)), (1, u1)]) ⟨rfl, rfl, trivial⟩ ?_
  refine nx ?_
  refine wpC_seq ?_
  refine wpC_region ?_
  refine st_val (ex_assign rfl) (by decide) trivial ?_
  refine wpF_end (r := [(0, (.int .i64 p0)), (1, u1), (5, (.slice none 0 0))]) ⟨rfl, rfl, rfl, trivial⟩ ?_
  refine nx ?_
  refine wpC_seq ?_
  refine wpC_seq ?_
  refine wpC_region ?_
  refine st_val (ex_move rfl) (by decide) trivial ?_
  refine st_val (ex_lenR rfl g1 Try.underlying26) (by decide) trivial ?_
  refine st_val (ex_move rfl) (by decide) trivial ?_
  refine wpF_end (r := [(0, (.int .i64 p0)), (1, u1), (5, (.slice none 0 0)), (8, u1), (9, (.int .i64 (p1.length : Int))), (10, (.int .i64 0))]) ⟨rfl, rfl, rfl, rfl, rfl, rfl, trivial⟩ ?_
  refine nx ?_
  have h1 : Ow w.heap.size 3 11 o w (.slice none 0 0) ([] : List Int) := Ow.nil _ _ _ _ _
  obtain ⟨q8, hq8, hF⟩ := bind_some hF
  refine wpC_cutN (fun a w6 => ∃ (y2 : List Int) (v3 : Value) (o5 : Tg), q8 = .inl y2 ∧ Fr a 42 [(5, v3)] ∧ Bs oo o5 w w6 ∧ Ow w.heap.size 3 11 o5 w6 v3 y2) (fun _ _ => False) ?_ ?_ ?_
  · refine wpC_block ?_
    refine wpC_loop (fun (K : Nat) a w6 => ∃ (i7 : Int) (y2 : List Int) (v3 : Value) (o5 : Tg), forI (fS_cyGaps_s1 p0 p1) (p1.drop i7.toNat) i7 y2 = some q8 ∧ (p1.drop i7.toNat).length = K ∧ 0 ≤ i7 ∧ Fr a 42 [(0, (.int .i64 p0)), (1, u1), (5, v3), (8, u1), (9, (.int .i64 (p1.length : Int))), (10, (.int .i64 i7))] ∧ Bs oo o5 w w6 ∧ Ow w.heap.size 3 11 o5 w6 v3 y2) _ (fun a ha => ⟨0, [], (.slice none 0 0), o, hq8, rfl, Int.le_refl 0, ha.sub (r := [(0, (.int .i64 p0)), (1, u1), (5, (.slice none 0 0)), (8, u1), (9, (.int .i64 (p1.length : Int))), (10, (.int .i64 0))]) ⟨rfl, rfl, rfl, rfl, rfl, rfl, trivial⟩, hB, h1⟩) ?_
    rintro K12 a w6 ⟨i7, y2, v3, o5, l9, m11, z10, ha, hB, h4⟩
    by_cases t16 : i7 < (p1.length : Int)
    · obtain ⟨x17, q13, hx17, b14, n15⟩ := forI_cons z10 t16 l9
      have hle := g1.len_le
      dsimp only [fS_cyGaps_s1] at b14
      refine wp_of ha ?_
      refine wpC_seq ?_
      refine wpC_region ?_
      refine st_val (ex_lss rfl rfl) (by decide) trivial ?_
      refine wpF_end (r := [(0, (.int .i64 p0)), (1, u1), (5, v3), (8, u1), (9, (.int .i64 (p1.length : Int))), (10, (.int .i64 i7)), (11, (.bool (decide (i7 < (p1.length : Int)))))]) ⟨rfl, rfl, rfl, rfl, rfl, rfl, rfl, trivial⟩ ?_
      refine nx ?_
      refine wpC_seq ?_
      refine wpC_true (congrArg (fun b => some (Value.bool b)) (decide_eq_true t16)) ?_
      refine wpC_skip ?_
      refine nx ?_
      refine wpC_seq ?_
      refine wpC_block ?_
      refine wpC_seq ?_
      refine wpC_region ?_
      refine st_val (ex_move rfl) (by decide) trivial ?_
      refine st_op (by decide) trivial ?_
      refine wf_atZ g1 hx17 hB rfl rfl Try.underlying26 Try.sizeOf3 ?_
      intro b18 f19 c20 h21 h22
      cases h22
      refine st_val (ex_load1 rfl Try.isAgg3 (cell_of_cells h21)) (by decide) trivial ?_
      refine st_val (ex_assign rfl) (by decide) trivial ?_
      refine st_val (ex_assign rfl) (by decide) trivial ?_
      refine wpF_end (r := [(0, (.int .i64 p0)), (1, u1), (5, v3), (6, (.int .i64 i7)), (7, (.int .i64 x17)), (8, u1), (9, (.int .i64 (p1.length : Int))), (10, (.int .i64 i7))]) ⟨rfl, rfl, rfl, rfl, rfl, rfl, rfl, rfl, trivial⟩ ?_
      refine nx ?_
      refine wpC_seq ?_
      refine wpC_region ?_
      refine st_val (ex_move rfl) (by decide) trivial ?_
      obtain ⟨x23, hx23, b14⟩ := bind_some b14
      refine st_val (ex_add rfl rfl hx23) (by decide) trivial ?_
      refine st_val (ex_move rfl) (by decide) trivial ?_
      refine st_val (ex_lenR rfl g1 Try.underlying26) (by decide) trivial ?_
      refine st_val (ex_lss rfl rfl) (by decide) trivial ?_
      refine wpF_end (r := [(0, (.int .i64 p0)), (1, u1), (5, v3), (6, (.int .i64 i7)), (7, (.int .i64 x17)), (8, u1), (9, (.int .i64 (p1.length : Int))), (10, (.int .i64 i7)), (19, (.bool (decide (x23 < (p1.length : Int)))))]) ⟨rfl, rfl, rfl, rfl, rfl, rfl, rfl, rfl, rfl, trivial⟩ ?_
      refine nx ?_
      refine wpC_cond rfl (fun t24 => ?_) (fun t24 => ?_)
      · rw [if_pos t24] at b14
        refine wpC_region ?_
        refine st_val (ex_move rfl) (by decide) trivial ?_
        refine st_val (ex_move rfl) (by decide) trivial ?_
        refine st_val (ex_move rfl) (by decide) trivial ?_
        obtain ⟨x25, hx25, b14⟩ := bind_some b14
        refine st_val (ex_add rfl rfl hx25) (by decide) trivial ?_
        obtain ⟨x26, hx26, b14⟩ := bind_some b14
        refine st_op (by decide) trivial ?_
        refine wf_atZ g1 hx26 hB rfl rfl Try.underlying26 Try.sizeOf3 ?_
        intro b27 f28 c29 h30 h31
        cases h31
        refine st_val (ex_load1 rfl Try.isAgg3 (cell_of_cells h30)) (by decide) trivial ?_
        refine st_val (ex_move rfl) (by decide) trivial ?_
        obtain ⟨x32, hx32, b14⟩ := bind_some b14
        refine st_val (ex_sub rfl rfl hx32) (by decide) trivial ?_
        refine st_op (by decide) trivial ?_
        refine wf_litR (o := o5) (cs := [(.int .i64 x32)]) (xs := ([x32] : List Int)) (vs := [(0, (.int .i64 x32))]) ⟨_, _, rfl, rfl, rfl⟩ rfl ⟨rfl, rfl, trivial⟩ Try.underlying26 Try.sizeOf3 Try.zeroValue3 (by decide) (fill1 rfl) (by simp) ?_
        intro o33 w34 v35 h36 s37 k38
        replace h4 := h4.stp s37 (by decide) (by decide)
        replace hB := hB.stp s37 (by decide)
        obtain ⟨x39, hx39, b14⟩ := bind_some b14
        refine st_op (by decide) trivial ?_
        refine wf_cat h4 h36 (push_cat hx39) (by decide) hB.keeps.size rfl rfl Try.underlying26 info2_t_int_Fa rfl (by decide) ?_
        intro o40 w41 v42 h43 s44
        replace h36 := h36.stp s44 (by decide)
        replace hB := hB.stp s44 (by decide)
        refine st_val (ex_assign rfl) (by decide) trivial ?_
        refine wpF_end (r := [(0, (.int .i64 p0)), (1, u1), (5, v42), (8, u1), (9, (.int .i64 (p1.length : Int))), (10, (.int .i64 i7))]) ⟨rfl, rfl, rfl, rfl, rfl, rfl, trivial⟩ ?_
        refine nb_norm ?_
        refine nx ?_
        refine wpC_region ?_
        refine st_val (ex_add rfl rfl (ck_in (by omega) (by omega))) (by decide) trivial ?_
        refine st_val (ex_move rfl) (by decide) trivial ?_
        refine wpF_end (r := [(0, (.int .i64 p0)), (1, u1), (5, v42), (8, u1), (9, (.int .i64 (p1.length : Int))), (10, (.int .i64 (i7 + 1)))]) ⟨rfl, rfl, rfl, rfl, rfl, rfl, trivial⟩ ?_
        refine nt_norm ?_
        have e45 := Option.some.inj b14
        subst e45
        refine to_k (r := [(0, (.int .i64 p0)), (1, u1), (5, v42), (8, u1), (9, (.int .i64 (p1.length : Int))), (10, (.int .i64 (i7 + 1)))]) ⟨rfl, rfl, rfl, rfl, rfl, rfl, trivial⟩ ?_
        intro a ha
        exact ⟨_, (by rw [← m11]; simp only [List.length_drop]; omega), i7 + 1, x39, v42, o40, n15, rfl, (by omega), ha, hB, h43⟩
      · rw [if_neg (by rw [t24]; decide)] at b14
        refine wpC_region ?_
        refine st_val (ex_move rfl) (by decide) trivial ?_
        refine st_val (ex_move rfl) (by decide) trivial ?_
        obtain ⟨x46, hx46, b14⟩ := bind_some b14
        refine st_op (by decide) trivial ?_
        refine wf_atZ g1 hx46 hB rfl rfl Try.underlying26 Try.sizeOf3 ?_
        intro b47 f48 c49 h50 h51
        cases h51
        refine st_val (ex_load1 rfl Try.isAgg3 (cell_of_cells h50)) (by decide) trivial ?_
        refine st_val (ex_move rfl) (by decide) trivial ?_
        obtain ⟨x52, hx52, b14⟩ := bind_some b14
        refine st_val (ex_add rfl rfl hx52) (by decide) trivial ?_
        refine st_val (ex_move rfl) (by decide) trivial ?_
        obtain ⟨x53, hx53, b14⟩ := bind_some b14
        refine st_val (ex_sub rfl rfl hx53) (by decide) trivial ?_
        refine st_op (by decide) trivial ?_
        refine wf_litR (o := o5) (cs := [(.int .i64 x53)]) (xs := ([x53] : List Int)) (vs := [(0, (.int .i64 x53))]) ⟨_, _, rfl, rfl, rfl⟩ rfl ⟨rfl, rfl, trivial⟩ Try.underlying26 Try.sizeOf3 Try.zeroValue3 (by decide) (fill1 rfl) (by simp) ?_
        intro o54 w55 v56 h57 s58 k59
        replace h4 := h4.stp s58 (by decide) (by decide)
        replace hB := hB.stp s58 (by decide)
        obtain ⟨x60, hx60, b14⟩ := bind_some b14
        refine st_op (by decide) trivial ?_
        refine wf_cat h4 h57 (push_cat hx60) (by decide) hB.keeps.size rfl rfl Try.underlying26 info2_t_int_Fa rfl (by decide) ?_
        intro o61 w62 v63 h64 s65
        replace h57 := h57.stp s65 (by decide)
        replace hB := hB.stp s65 (by decide)
        refine st_val (ex_assign rfl) (by decide) trivial ?_
        refine wpF_end (r := [(0, (.int .i64 p0)), (1, u1), (5, v63), (8, u1), (9, (.int .i64 (p1.length : Int))), (10, (.int .i64 i7))]) ⟨rfl, rfl, rfl, rfl, rfl, rfl, trivial⟩ ?_
        refine nb_norm ?_
        refine nx ?_
        refine wpC_region ?_
        refine st_val (ex_add rfl rfl (ck_in (by omega) (by omega))) (by decide) trivial ?_
        refine st_val (ex_move rfl) (by decide) trivial ?_
        refine wpF_end (r := [(0, (.int .i64 p0)), (1, u1), (5, v63), (8, u1), (9, (.int .i64 (p1.length : Int))), (10, (.int .i64 (i7 + 1)))]) ⟨rfl, rfl, rfl, rfl, rfl, rfl, trivial⟩ ?_
        refine nt_norm ?_
        have e66 := Option.some.inj b14
        subst e66
        refine to_k (r := [(0, (.int .i64 p0)), (1, u1), (5, v63), (8, u1), (9, (.int .i64 (p1.length : Int))), (10, (.int .i64 (i7 + 1)))]) ⟨rfl, rfl, rfl, rfl, rfl, rfl, trivial⟩ ?_
        intro a ha
        exact ⟨_, (by rw [← m11]; simp only [List.length_drop]; omega), i7 + 1, x60, v63, o61, n15, rfl, (by omega), ha, hB, h64⟩
    · have r67 := forI_done t16 l9
      refine wp_of ha ?_
      refine wpC_seq ?_
      refine wpC_region ?_
      refine st_val (ex_lss rfl rfl) (by decide) trivial ?_
      refine wpF_end (r := [(0, (.int .i64 p0)), (1, u1), (5, v3), (8, u1), (9, (.int .i64 (p1.length : Int))), (10, (.int .i64 i7)), (11, (.bool (decide (i7 < (p1.length : Int)))))]) ⟨rfl, rfl, rfl, rfl, rfl, rfl, rfl, trivial⟩ ?_
      refine nx ?_
      refine wpC_seq ?_
      refine wpC_false (congrArg (fun b => some (Value.bool b)) (decide_eq_false t16)) ?_
      refine wpC_exit ?_
      refine nt_exit ?_
      refine nt_exit ?_
      refine nb_hit ?_
      refine np_norm ?_
      refine to_k (r := [(5, v3)]) ⟨rfl, trivial⟩ ?_
      intro a ha
      exact ⟨y2, v3, o5, r67, ha, hB, h4⟩
  · rintro a w6 ⟨y2, v3, o5, rfl, ha, hB, h4⟩
    dsimp only at hF
    refine ap_k ha ?_
    refine nx ?_
    refine wpC_seq ?_
    refine wpC_region ?_
    refine st_val (ex_move rfl) (by decide) trivial ?_
    refine st_val (ex_assign rfl) (by decide) trivial ?_
    refine wpF_end (r := [(4, v3)]) ⟨rfl, trivial⟩ ?_
    refine nx ?_
    refine wpC_ret ?_
    have e68 := Option.some.inj hF
    subst e68
    refine ret_post (P := Try.prog) (vs := [v3]) Try.results117 ⟨rfl, trivial⟩ ?_
    exact ⟨_, rt oo o5 w.heap.size 11 t, rfl, h4.rt hB (by decide) t, hB.keeps, rt_old _ _ _ _ _⟩
  · exact fun _ _ h => h.elim

def fS_cyFill_s2 (p2 : Int) (p3 : List Int) (i27 : Int) : Int → Int → (List Int) → Option (Lp (List Int) (List Int) ((List Int) × Bool)) := fun (i58 : Int) (x68 : Int) (s : List Int) =>
  (ix p3 i27) >>= fun x74 =>
  (ck (x74 + i58)) >>= fun x80 =>
  (rem x80 p2) >>= fun x81 =>
  (ix s x81) >>= fun x82 =>
  (st s x81 x68) >>= fun x91 =>
  some (.go x91)
def fS_cyFill_s1 (fuel : Nat) (p0 : T_WalkProblem) (p1 : Int) (p2 : Int) (p3 : List Int) : Int → Int → (List Int) → Option (Lp (List Int) (List Int) ((List Int) × Bool)) := fun (i27 : Int) (x37 : Int) (s : List Int) =>
  (fS_WalkBetween fuel p0 p1 p1 x37) >>= fun x43 =>
  if !x43.2 then
    some (.ret ([], false))
  else
    (forI (fS_cyFill_s2 p2 p3 i27) x43.1 0 s) >>= fun q59 =>
    match q59 with
    | .inl y54 =>
      some (.go y54)
    | .inr _ => none
def fS_cyFill (fuel : Nat) (p0 : T_WalkProblem) (p1 : Int) (p2 : Int) (p3 : List Int) : Option ((List Int) × Bool) :=
  (mk (Rz.z : Int) p2) >>= fun x8 =>
  (fS_cyGaps p2 p3) >>= fun x14 =>
  (forI (fS_cyFill_s1 fuel p0 p1 p2 p3) x14 0 x8) >>= fun q28 =>
  match q28 with
  | .inl y23 =>
    some (y23, true)
  | .inr r' => some r'

def pS_cyFill (oo : Tg) (t : Nat) (w : World) (r : (List Int) × Bool) : Ending → World → Prop := fun e w' => ∃ (v0 : Value) (o' : Tg), e = .returned (.tuple #[v0, .bool r.2]) ∧ Ow w.heap.size 3 t o' w' v0 r.1 ∧ Keeps w w' ∧ ∀ b, b < w.heap.size → o' b = oo b
set_option maxRecDepth 100000 in
set_option maxHeartbeats 2000000 in
theorem cS_cyFill (fuel : Nat) (w : World) (oo : Tg) (t : Nat) (ht : 2 ≤ t) (u0 : List Value) (p0 : T_WalkProblem) (g0 : Rp.rd zt w u0 p0) (p1 : Int) (p2 : Int) (u3 : Value) (p3 : List Int) (g3 : RdL zt w u3 p3) (r : (List Int) × Bool) (hF : fS_cyFill fuel p0 p1 p2 p3 = some r) :
    Calls Try.prog 66 #[.agg u0.toArray, .int .i64 p1, .int .i64 p2, u3] w (pS_cyFill oo t w r) := by
  unfold fS_cyFill at hF
  obtain ⟨v1, rfl, h2⟩ := g0
  have hB : Bs oo (col oo) w w := Bs.start _ _
  refine calls_start (n := 59) (vs := [(.agg #[(.int .i64 p0.Labels), v1]), (.int .i64 p1), (.int .i64 p2), u3]) Try.func66 rfl rfl ?_
  generalize col oo = o at *
  refine wpC_seq ?_
  refine wpC_region ?_
  refine st_op (by decide) trivial ?_
  refine wf_box (o := o) w.heap.size 11 hB.keeps.size (cs := [(.int .i64 p0.Labels), v1]) rfl rfl ?_
  intro o3 w4 b5 h6 s7
  replace hB := hB.stp s7 (by decide)
  refine st_val (ex_assign rfl) (by decide) trivial ?_
  refine st_val (ex_assign rfl) (by decide) trivial ?_
  refine wpF_end (r := [(1, (.int .i64 p1)), (2, (.int .i64 p2)), (3, u3), (4, (.pointer (some ⟨b5, 0, none⟩)))]) ⟨rfl, rfl, rfl, rfl, trivial⟩ ?_
  refine nx ?_
  refine wpC_seq ?_
  refine wpC_region ?_
  refine st_val (ex_move rfl) (by decide) trivial ?_
  obtain ⟨x8, hx8, hF⟩ := bind_some hF
  refine st_op (by decide) trivial ?_
  refine wf_make (o := o3) w.heap.size 12 hB.keeps.size hx8 rfl rfl Try.underlying26 info2_t_int_Fa rfl (by decide) ?_
  intro o9 w10 v11 h12 s13
  replace h6 := h6.stp s13 (by decide)
  replace hB := hB.stp s13 (by decide)
  refine st_val (ex_assign rfl) (by decide) trivial ?_
  refine wpF_end (r := [(1, (.int .i64 p1)), (2, (.int .i64 p2)), (3, u3), (4, (.pointer (some ⟨b5, 0, none⟩))), (10, v11)]) ⟨rfl, rfl, rfl, rfl, rfl, trivial⟩ ?_
  refine nx ?_
  refine wpC_seq ?_
  refine wpC_seq ?_
  refine wpC_region ?_
  refine st_val (ex_move rfl) (by decide) trivial ?_
  refine st_val (ex_move rfl) (by decide) trivial ?_
  obtain ⟨x14, hx14, hF⟩ := bind_some hF
  refine st_op (by decide) trivial ?_
  refine wf_call (cS_cyGaps w10 o9 13 (by decide) p2 _ p3 (g3.keep hB.keeps) x14 hx14) Try.call117 ⟨rfl, rfl, trivial⟩ ?_
  rintro e21 w15 ⟨v16, o22, rfl, h17, k18, k19⟩
  have s20 := k18.stp' 13 k19
  replace h17 := h17.mono hB.keeps.size
  refine ⟨_, rfl, ?_⟩
  replace h12 := h12.stp s20 (by decide) (by decide)
  replace h6 := h6.stp s20 (by decide)
  replace hB := hB.stp s20 (by decide)
  refine st_val (ex_lenO rfl h17 Try.underlying26) (by decide) trivial ?_
  refine st_val (ex_move rfl) (by decide) trivial ?_
  refine wpF_end (r := [(1, (.int .i64 p1)), (2, (.int .i64 p2)), (3, u3), (4, (.pointer (some ⟨b5, 0, none⟩))), (10, v11), (21, v16), (22, (.int .i64 (x14.length : Int))), (23, (.int .i64 0))]) ⟨rfl, rfl, rfl, rfl, rfl, rfl, rfl, rfl, trivial⟩ ?_
  refine nx ?_
  obtain ⟨q28, hq28, hF⟩ := bind_some hF
  refine wpC_cutN (fun a w26 => ∃ (y23 : List Int) (o25 : Tg), q28 = .inl y23 ∧ Fr a 59 [(10, v11)] ∧ Bs oo o25 w w26 ∧ Ow w.heap.size 3 12 o25 w26 v11 y23) (fun a w' => ∃ r', q28 = .inr r' ∧ bodyPost Try.prog Try.f66 (pS_cyFill oo t w r') .ret a w') ?_ ?_ ?_
  · refine wpC_block ?_
    refine wpC_loop (fun (K : Nat) a w26 => ∃ (i27 : Int) (y23 : List Int) (o25 : Tg), forI (fS_cyFill_s1 fuel p0 p1 p2 p3) (x14.drop i27.toNat) i27 y23 = some q28 ∧ (x14.drop i27.toNat).length = K ∧ 0 ≤ i27 ∧ Fr a 59 [(1, (.int .i64 p1)), (2, (.int .i64 p2)), (3, u3), (4, (.pointer (some ⟨b5, 0, none⟩))), (10, v11), (21, v16), (22, (.int .i64 (x14.length : Int))), (23, (.int .i64 i27))] ∧ Bs oo o25 w w26 ∧ Ow w.heap.size 3 12 o25 w26 v11 y23 ∧ Ow w.heap.size 3 13 o25 w26 v16 x14 ∧ Bx w.heap.size 11 o25 w26 b5 44 [(.int .i64 p0.Labels), v1]) _ (fun a ha => ⟨0, x8, o22, hq28, rfl, Int.le_refl 0, ha.sub (r := [(1, (.int .i64 p1)), (2, (.int .i64 p2)), (3, u3), (4, (.pointer (some ⟨b5, 0, none⟩))), (10, v11), (21, v16), (22, (.int .i64 (x14.length : Int))), (23, (.int .i64 0))]) ⟨rfl, rfl, rfl, rfl, rfl, rfl, rfl, rfl, trivial⟩, hB, h12, h17, h6⟩) ?_
    rintro K32 a w26 ⟨i27, y23, o25, l29, m31, z30, ha, hB, h24, h17, h6⟩
    by_cases t36 : i27 < (x14.length : Int)
    · obtain ⟨x37, q33, hx37, b34, n35⟩ := forI_cons z30 t36 l29
      have hle := h17.len_le
      dsimp only [fS_cyFill_s1] at b34
      refine wp_of ha ?_
      refine wpC_seq ?_
      refine wpC_region ?_
      refine st_val (ex_lss rfl rfl) (by decide) trivial ?_
      refine wpF_end (r := [(1, (.int .i64 p1)), (2, (.int .i64 p2)), (3, u3), (4, (.pointer (some ⟨b5, 0, none⟩))), (10, v11), (21, v16), (22, (.int .i64 (x14.length : Int))), (23, (.int .i64 i27)), (24, (.bool (decide (i27 < (x14.length : Int)))))]) ⟨rfl, rfl, rfl, rfl, rfl, rfl, rfl, rfl, rfl, trivial⟩ ?_
      refine nx ?_
      refine wpC_seq ?_
      refine wpC_true (congrArg (fun b => some (Value.bool b)) (decide_eq_true t36)) ?_
      refine wpC_skip ?_
      refine nx ?_
      refine wpC_seq ?_
      refine wpC_block ?_
      refine wpC_seq ?_
      refine wpC_region ?_
      refine st_val (ex_move rfl) (by decide) trivial ?_
      refine st_op (by decide) trivial ?_
      refine wf_atW h17 hx37 rfl rfl Try.underlying26 Try.sizeOf3 ?_
      intro b38 f39 c40 h41 h42
      cases h42
      refine st_val (ex_load1 rfl Try.isAgg3 (cell_of_cells h41)) (by decide) trivial ?_
      refine st_val (ex_assign rfl) (by decide) trivial ?_
      refine st_val (ex_assign rfl) (by decide) trivial ?_
      refine wpF_end (r := [(1, (.int .i64 p1)), (2, (.int .i64 p2)), (3, u3), (4, (.pointer (some ⟨b5, 0, none⟩))), (10, v11), (11, (.int .i64 i27)), (12, (.int .i64 x37)), (21, v16), (22, (.int .i64 (x14.length : Int))), (23, (.int .i64 i27))]) ⟨rfl, rfl, rfl, rfl, rfl, rfl, rfl, rfl, rfl, rfl, trivial⟩ ?_
      refine nx ?_
      refine wpC_seq ?_
      refine wpC_region ?_
      refine st_val (ex_loadA rfl Try.isAgg44 Try.sizeOf44 rfl h6.cells) (by decide) trivial ?_
      refine st_val (ex_move rfl) (by decide) trivial ?_
      refine st_val (ex_move rfl) (by decide) trivial ?_
      refine st_val (ex_move rfl) (by decide) trivial ?_
      obtain ⟨x43, hx43, b34⟩ := bind_some b34
      refine st_op (by decide) trivial ?_
      refine wf_call (cS_WalkBetween fuel w26 o25 14 (by decide) _ p0 (⟨_, rfl, (h2.keep hB.keeps)⟩) p1 p1 x37 x43 hx43) Try.call118 ⟨rfl, rfl, rfl, rfl, trivial⟩ ?_
      rintro e50 w44 ⟨v45, o51, rfl, h46, k47, k48⟩
      have s49 := k47.stp' 14 k48
      replace h46 := h46.mono hB.keeps.size
      refine ⟨_, rfl, ?_⟩
      replace h24 := h24.stp s49 (by decide) (by decide)
      replace h17 := h17.stp s49 (by decide) (by decide)
      replace h6 := h6.stp s49 (by decide)
      replace hB := hB.stp s49 (by decide)
      refine st_val (ex_move rfl) (by decide) trivial ?_
      refine st_val (ex_extract rfl rfl) (by decide) trivial ?_
      refine st_val (ex_extract rfl rfl) (by decide) trivial ?_
      refine st_val (ex_assign rfl) (by decide) trivial ?_
      refine st_val (ex_assign rfl) (by decide) trivial ?_
      refine wpF_end (r := [(1, (.int .i64 p1)), (2, (.int .i64 p2)), (3, u3), (4, (.pointer (some ⟨b5, 0, none⟩))), (10, v11), (11, (.int .i64 i27)), (13, v45), (14, (.bool x43.2)), (21, v16), (22, (.int .i64 (x14.length : Int))), (23, (.int .i64 i27))]) ⟨rfl, rfl, rfl, rfl, rfl, rfl, rfl, rfl, rfl, rfl, rfl, trivial⟩ ?_
      refine nx ?_
      refine wpC_seq ?_
      refine wpC_seq ?_
      refine wpC_region ?_
      refine st_val (ex_move rfl) (by decide) trivial ?_
      refine st_val (ex_not rfl) (by decide) trivial ?_
      refine wpF_end (r := [(1, (.int .i64 p1)), (2, (.int .i64 p2)), (3, u3), (4, (.pointer (some ⟨b5, 0, none⟩))), (10, v11), (11, (.int .i64 i27)), (13, v45), (21, v16), (22, (.int .i64 (x14.length : Int))), (23, (.int .i64 i27)), (37, (.bool (!x43.2)))]) ⟨rfl, rfl, rfl, rfl, rfl, rfl, rfl, rfl, rfl, rfl, rfl, trivial⟩ ?_
      refine nx ?_
      refine wpC_cond rfl (fun t52 => ?_) (fun t52 => ?_)
      · rw [if_pos t52] at b34
        refine wpC_seq ?_
        refine wpC_region ?_
        refine st_val (ex_assign rfl) (by decide) trivial ?_
        refine st_val (ex_assign rfl) (by decide) trivial ?_
        refine wpF_end (r := [(8, (.slice none 0 0)), (9, (.bool false))]) ⟨rfl, rfl, trivial⟩ ?_
        refine nx ?_
        refine wpC_ret ?_
        refine nt_ret ?_
        refine nb_ret ?_
        refine nt_ret ?_
        refine nt_ret ?_
        refine nb_ret ?_
        refine np_ret ?_
        have e53 := Option.some.inj b34
        subst e53
        refine fun a ha => ⟨_, n35, ?_⟩
        refine ret_post (P := Try.prog) (vs := [(.slice none 0 0), (.bool false)]) Try.results66 ⟨rfl, rfl, trivial⟩ ?_ a ha
        exact ⟨_, rt oo o51 w.heap.size 9 t, rfl, (Ow.nil _ _ _ _ _), hB.keeps, rt_old _ _ _ _ _⟩
      · rw [if_neg (by rw [t52]; decide)] at b34
        refine wpC_skip ?_
        refine nx ?_
        refine wpC_seq ?_
        refine wpC_region ?_
        refine st_val (ex_move rfl) (by decide) trivial ?_
        refine st_val (ex_lenO rfl h46 Try.underlying26) (by decide) trivial ?_
        refine st_val (ex_move rfl) (by decide) trivial ?_
        refine wpF_end (r := [(1, (.int .i64 p1)), (2, (.int .i64 p2)), (3, u3), (4, (.pointer (some ⟨b5, 0, none⟩))), (10, v11), (11, (.int .i64 i27)), (21, v16), (22, (.int .i64 (x14.length : Int))), (23, (.int .i64 i27)), (38, v45), (39, (.int .i64 (x43.1.length : Int))), (40, (.int .i64 0))]) ⟨rfl, rfl, rfl, rfl, rfl, rfl, rfl, rfl, rfl, rfl, rfl, rfl, trivial⟩ ?_
        refine nx ?_
        obtain ⟨q59, hq59, b34⟩ := bind_some b34
        refine wpC_cutN (fun a w57 => ∃ (y54 : List Int) (o56 : Tg), q59 = .inl y54 ∧ Fr a 59 [(1, (.int .i64 p1)), (2, (.int .i64 p2)), (3, u3), (4, (.pointer (some ⟨b5, 0, none⟩))), (10, v11), (21, v16), (22, (.int .i64 (x14.length : Int))), (23, (.int .i64 i27))] ∧ Bs oo o56 w w57 ∧ Ow w.heap.size 3 12 o56 w57 v11 y54 ∧ Ow w.heap.size 3 13 o56 w57 v16 x14 ∧ Bx w.heap.size 11 o56 w57 b5 44 [(.int .i64 p0.Labels), v1]) (fun _ _ => False) ?_ ?_ ?_
        · refine wpC_block ?_
          refine wpC_loop (fun (K : Nat) a w57 => ∃ (i58 : Int) (y54 : List Int) (o56 : Tg), forI (fS_cyFill_s2 p2 p3 i27) (x43.1.drop i58.toNat) i58 y54 = some q59 ∧ (x43.1.drop i58.toNat).length = K ∧ 0 ≤ i58 ∧ Fr a 59 [(1, (.int .i64 p1)), (2, (.int .i64 p2)), (3, u3), (4, (.pointer (some ⟨b5, 0, none⟩))), (10, v11), (11, (.int .i64 i27)), (21, v16), (22, (.int .i64 (x14.length : Int))), (23, (.int .i64 i27)), (38, v45), (39, (.int .i64 (x43.1.length : Int))), (40, (.int .i64 i58))] ∧ Bs oo o56 w w57 ∧ Ow w.heap.size 3 12 o56 w57 v11 y54 ∧ Ow w.heap.size 3 13 o56 w57 v16 x14 ∧ Ow w.heap.size 3 14 o56 w57 v45 (x43.1 : List Int) ∧ Bx w.heap.size 11 o56 w57 b5 44 [(.int .i64 p0.Labels), v1]) _ (fun a ha => ⟨0, y23, o51, hq59, rfl, Int.le_refl 0, ha.sub (r := [(1, (.int .i64 p1)), (2, (.int .i64 p2)), (3, u3), (4, (.pointer (some ⟨b5, 0, none⟩))), (10, v11), (11, (.int .i64 i27)), (21, v16), (22, (.int .i64 (x14.length : Int))), (23, (.int .i64 i27)), (38, v45), (39, (.int .i64 (x43.1.length : Int))), (40, (.int .i64 0))]) ⟨rfl, rfl, rfl, rfl, rfl, rfl, rfl, rfl, rfl, rfl, rfl, rfl, trivial⟩, hB, h24, h17, h46, h6⟩) ?_
          rintro K63 a w57 ⟨i58, y54, o56, l60, m62, z61, ha, hB, h55, h17, h46, h6⟩
          by_cases t67 : i58 < (x43.1.length : Int)
          · obtain ⟨x68, q64, hx68, b65, n66⟩ := forI_cons z61 t67 l60
            have hle := h46.len_le
            dsimp only [fS_cyFill_s2] at b65
            refine wp_of ha ?_
            refine wpC_seq ?_
            refine wpC_region ?_
            refine st_val (ex_lss rfl rfl) (by decide) trivial ?_
            refine wpF_end (r := [(1, (.int .i64 p1)), (2, (.int .i64 p2)), (3, u3), (4, (.pointer (some ⟨b5, 0, none⟩))), (10, v11), (11, (.int .i64 i27)), (21, v16), (22, (.int .i64 (x14.length : Int))), (23, (.int .i64 i27)), (38, v45), (39, (.int .i64 (x43.1.length : Int))), (40, (.int .i64 i58)), (41, (.bool (decide (i58 < (x43.1.length : Int)))))]) ⟨rfl, rfl, rfl, rfl, rfl, rfl, rfl, rfl, rfl, rfl, rfl, rfl, rfl, trivial⟩ ?_
            refine nx ?_
            refine wpC_seq ?_
            refine wpC_true (congrArg (fun b => some (Value.bool b)) (decide_eq_true t67)) ?_
            refine wpC_skip ?_
            refine nx ?_
            refine wpC_seq ?_
            refine wpC_block ?_
            refine wpC_seq ?_
            refine wpC_region ?_
            refine st_val (ex_move rfl) (by decide) trivial ?_
            refine st_op (by decide) trivial ?_
            refine wf_atW h46 hx68 rfl rfl Try.underlying26 Try.sizeOf3 ?_
            intro b69 f70 c71 h72 h73
            cases h73
            refine st_val (ex_load1 rfl Try.isAgg3 (cell_of_cells h72)) (by decide) trivial ?_
            refine st_val (ex_assign rfl) (by decide) trivial ?_
            refine st_val (ex_assign rfl) (by decide) trivial ?_
            refine wpF_end (r := [(1, (.int .i64 p1)), (2, (.int .i64 p2)), (3, u3), (4, (.pointer (some ⟨b5, 0, none⟩))), (10, v11), (11, (.int .i64 i27)), (15, (.int .i64 i58)), (16, (.int .i64 x68)), (21, v16), (22, (.int .i64 (x14.length : Int))), (23, (.int .i64 i27)), (38, v45), (39, (.int .i64 (x43.1.length : Int))), (40, (.int .i64 i58))]) ⟨rfl, rfl, rfl, rfl, rfl, rfl, rfl, rfl, rfl, rfl, rfl, rfl, rfl, rfl, trivial⟩ ?_
            refine nx ?_
            refine wpC_region ?_
            refine st_val (ex_move rfl) (by decide) trivial ?_
            refine st_val (ex_move rfl) (by decide) trivial ?_
            refine st_val (ex_move rfl) (by decide) trivial ?_
            obtain ⟨x74, hx74, b65⟩ := bind_some b65
            refine st_op (by decide) trivial ?_
            refine wf_atZ g3 hx74 hB rfl rfl Try.underlying26 Try.sizeOf3 ?_
            intro b75 f76 c77 h78 h79
            cases h79
            refine st_val (ex_load1 rfl Try.isAgg3 (cell_of_cells h78)) (by decide) trivial ?_
            refine st_val (ex_move rfl) (by decide) trivial ?_
            obtain ⟨x80, hx80, b65⟩ := bind_some b65
            refine st_val (ex_add rfl rfl hx80) (by decide) trivial ?_
            refine st_val (ex_move rfl) (by decide) trivial ?_
            obtain ⟨x81, hx81, b65⟩ := bind_some b65
            refine st_val (ex_rem rfl rfl hx81) (by decide) trivial ?_
            refine st_val (ex_move rfl) (by decide) trivial ?_
            obtain ⟨x82, hx82, b65⟩ := bind_some b65
            refine st_op (by decide) trivial ?_
            refine wf_atP h55 hx82 rfl rfl Try.underlying26 Try.sizeOf3 ?_
            intro b83 c85 h88 h86 h87
            cases h87
            obtain ⟨x91, hx91, b65⟩ := bind_some b65
            refine st_op0 trivial ?_
            refine wf_storeW h55 h88 hx91 rfl (by decide) rfl rfl rfl Try.sizeOf3 rfl ?_
            intro w89 h92 s90
            replace h17 := h17.stp s90 (by decide) (by decide)
            replace h46 := h46.stp s90 (by decide) (by decide)
            replace h6 := h6.stp s90 (by decide)
            replace hB := hB.stp s90 (by decide)
            refine wpF_end (r := [(1, (.int .i64 p1)), (2, (.int .i64 p2)), (3, u3), (4, (.pointer (some ⟨b5, 0, none⟩))), (10, v11), (11, (.int .i64 i27)), (21, v16), (22, (.int .i64 (x14.length : Int))), (23, (.int .i64 i27)), (38, v45), (39, (.int .i64 (x43.1.length : Int))), (40, (.int .i64 i58))]) ⟨rfl, rfl, rfl, rfl, rfl, rfl, rfl, rfl, rfl, rfl, rfl, rfl, trivial⟩ ?_
            refine nb_norm ?_
            refine nx ?_
            refine wpC_region ?_
            refine st_val (ex_add rfl rfl (ck_in (by omega) (by omega))) (by decide) trivial ?_
            refine st_val (ex_move rfl) (by decide) trivial ?_
            refine wpF_end (r := [(1, (.int .i64 p1)), (2, (.int .i64 p2)), (3, u3), (4, (.pointer (some ⟨b5, 0, none⟩))), (10, v11), (11, (.int .i64 i27)), (21, v16), (22, (.int .i64 (x14.length : Int))), (23, (.int .i64 i27)), (38, v45), (39, (.int .i64 (x43.1.length : Int))), (40, (.int .i64 (i58 + 1)))]) ⟨rfl, rfl, rfl, rfl, rfl, rfl, rfl, rfl, rfl, rfl, rfl, rfl, trivial⟩ ?_
            refine nt_norm ?_
            have e93 := Option.some.inj b65
            subst e93
            refine to_k (r := [(1, (.int .i64 p1)), (2, (.int .i64 p2)), (3, u3), (4, (.pointer (some ⟨b5, 0, none⟩))), (10, v11), (11, (.int .i64 i27)), (21, v16), (22, (.int .i64 (x14.length : Int))), (23, (.int .i64 i27)), (38, v45), (39, (.int .i64 (x43.1.length : Int))), (40, (.int .i64 (i58 + 1)))]) ⟨rfl, rfl, rfl, rfl, rfl, rfl, rfl, rfl, rfl, rfl, rfl, rfl, trivial⟩ ?_
            intro a ha
            exact ⟨_, (by rw [← m62]; simp only [List.length_drop]; omega), i58 + 1, x91, o56, n66, rfl, (by omega), ha, hB, h92, h17, h46, h6⟩
          · have r94 := forI_done t67 l60
            refine wp_of ha ?_
            refine wpC_seq ?_
            refine wpC_region ?_
            refine st_val (ex_lss rfl rfl) (by decide) trivial ?_
            refine wpF_end (r := [(1, (.int .i64 p1)), (2, (.int .i64 p2)), (3, u3), (4, (.pointer (some ⟨b5, 0, none⟩))), (10, v11), (11, (.int .i64 i27)), (21, v16), (22, (.int .i64 (x14.length : Int))), (23, (.int .i64 i27)), (38, v45), (39, (.int .i64 (x43.1.length : Int))), (40, (.int .i64 i58)), (41, (.bool (decide (i58 < (x43.1.length : Int)))))]) ⟨rfl, rfl, rfl, rfl, rfl, rfl, rfl, rfl, rfl, rfl, rfl, rfl, rfl, trivial⟩ ?_
            refine nx ?_
            refine wpC_seq ?_
            refine wpC_false (congrArg (fun b => some (Value.bool b)) (decide_eq_false t67)) ?_
            refine wpC_exit ?_
            refine nt_exit ?_
            refine nt_exit ?_
            refine nb_hit ?_
            refine np_norm ?_
            refine to_k (r := [(1, (.int .i64 p1)), (2, (.int .i64 p2)), (3, u3), (4, (.pointer (some ⟨b5, 0, none⟩))), (10, v11), (21, v16), (22, (.int .i64 (x14.length : Int))), (23, (.int .i64 i27))]) ⟨rfl, rfl, rfl, rfl, rfl, rfl, rfl, rfl, trivial⟩ ?_
            intro a ha
            exact ⟨y54, o56, r94, ha, hB, h55, h17, h6⟩
        · rintro a w57 ⟨y54, o56, rfl, ha, hB, h55, h17, h6⟩
          dsimp only at b34
          refine ap_k ha ?_
          refine nb_norm ?_
          refine nx ?_
          refine wpC_region ?_
          refine st_val (ex_add rfl rfl (ck_in (by omega) (by omega))) (by decide) trivial ?_
          refine st_val (ex_move rfl) (by decide) trivial ?_
          refine wpF_end (r := [(1, (.int .i64 p1)), (2, (.int .i64 p2)), (3, u3), (4, (.pointer (some ⟨b5, 0, none⟩))), (10, v11), (21, v16), (22, (.int .i64 (x14.length : Int))), (23, (.int .i64 (i27 + 1)))]) ⟨rfl, rfl, rfl, rfl, rfl, rfl, rfl, rfl, trivial⟩ ?_
          refine nt_norm ?_
          have e95 := Option.some.inj b34
          subst e95
          refine to_k (r := [(1, (.int .i64 p1)), (2, (.int .i64 p2)), (3, u3), (4, (.pointer (some ⟨b5, 0, none⟩))), (10, v11), (21, v16), (22, (.int .i64 (x14.length : Int))), (23, (.int .i64 (i27 + 1)))]) ⟨rfl, rfl, rfl, rfl, rfl, rfl, rfl, rfl, trivial⟩ ?_
          intro a ha
          exact ⟨_, (by rw [← m31]; simp only [List.length_drop]; omega), i27 + 1, y54, o56, n35, rfl, (by omega), ha, hB, h55, h17, h6⟩
        · exact fun _ _ h => h.elim
    · have r96 := forI_done t36 l29
      refine wp_of ha ?_
      refine wpC_seq ?_
      refine wpC_region ?_
      refine st_val (ex_lss rfl rfl) (by decide) trivial ?_
      refine wpF_end (r := [(1, (.int .i64 p1)), (2, (.int .i64 p2)), (3, u3), (4, (.pointer (some ⟨b5, 0, none⟩))), (10, v11), (21, v16), (22, (.int .i64 (x14.length : Int))), (23, (.int .i64 i27)), (24, (.bool (decide (i27 < (x14.length : Int)))))]) ⟨rfl, rfl, rfl, rfl, rfl, rfl, rfl, rfl, rfl, trivial⟩ ?_
      refine nx ?_
      refine wpC_seq ?_
      refine wpC_false (congrArg (fun b => some (Value.bool b)) (decide_eq_false t36)) ?_
      refine wpC_exit ?_
      refine nt_exit ?_
      refine nt_exit ?_
      refine nb_hit ?_
      refine np_norm ?_
      refine to_k (r := [(10, v11)]) ⟨rfl, trivial⟩ ?_
      intro a ha
      exact ⟨y23, o25, r96, ha, hB, h24⟩
  · rintro a w26 ⟨y23, o25, rfl, ha, hB, h24⟩
    dsimp only at hF
    refine ap_k ha ?_
    refine nx ?_
    refine wpC_seq ?_
    refine wpC_region ?_
    refine st_val (ex_move rfl) (by decide) trivial ?_
    refine st_val (ex_assign rfl) (by decide) trivial ?_
    refine st_val (ex_assign rfl) (by decide) trivial ?_
    refine wpF_end (r := [(8, v11), (9, (.bool true))]) ⟨rfl, rfl, trivial⟩ ?_
    refine nx ?_
    refine wpC_ret ?_
    have e97 := Option.some.inj hF
    subst e97
    refine ret_post (P := Try.prog) (vs := [v11, (.bool true)]) Try.results66 ⟨rfl, rfl, trivial⟩ ?_
    exact ⟨_, rt oo o25 w.heap.size 12 t, rfl, h24.rt hB (by decide) t, hB.keeps, rt_old _ _ _ _ _⟩
  · rintro a w26 ⟨r', rfl, b98⟩
    dsimp only at hF
    have e99 := Option.some.inj hF
    subst e99
    exact b98

def fS_FillCycle (fuel : Nat) (p0 : T_WalkProblem) (p1 : Int) (p2 : Int) (p3 : List Int) : Option ((List Int) × Bool) :=
  (fS_waGood p0) >>= fun x8 =>
  (
    if !x8 then
      some true
    else
      (ck (p0.Labels - 1)) >>= fun x18 =>
      (fS_l1In p1 0 x18) >>= fun x19 =>
      if !x19 then
        some true
      else
        (fS_cyMarks p2 p3) >>= fun x26 =>
        some (!x26)) >>= fun q14 =>
  if q14 then
    some ([], false)
  else
    (fS_cyFill fuel p0 p1 p2 p3) >>= fun x37 =>
    some (x37.1, x37.2)

def pS_FillCycle (oo : Tg) (t : Nat) (w : World) (r : (List Int) × Bool) : Ending → World → Prop := fun e w' => ∃ (v0 : Value) (o' : Tg), e = .returned (.tuple #[v0, .bool r.2]) ∧ Ow w.heap.size 3 t o' w' v0 r.1 ∧ Keeps w w' ∧ ∀ b, b < w.heap.size → o' b = oo b
set_option maxRecDepth 100000 in
set_option maxHeartbeats 2000000 in
theorem cS_FillCycle (fuel : Nat) (w : World) (oo : Tg) (t : Nat) (ht : 2 ≤ t) (u0 : List Value) (p0 : T_WalkProblem) (g0 : Rp.rd zt w u0 p0) (p1 : Int) (p2 : Int) (u3 : Value) (p3 : List Int) (g3 : RdL zt w u3 p3) (r : (List Int) × Bool) (hF : fS_FillCycle fuel p0 p1 p2 p3 = some r) :
    Calls Try.prog 29 #[.agg u0.toArray, .int .i64 p1, .int .i64 p2, u3] w (pS_FillCycle oo t w r) := by
  unfold fS_FillCycle at hF
  obtain ⟨v1, rfl, h2⟩ := g0
  have hB : Bs oo (col oo) w w := Bs.start _ _
  refine calls_start (n := 34) (vs := [(.agg #[(.int .i64 p0.Labels), v1]), (.int .i64 p1), (.int .i64 p2), u3]) Try.func29 rfl rfl ?_
  generalize col oo = o at *
  refine wpC_seq ?_
  refine wpC_region ?_
  refine st_op (by decide) trivial ?_
  refine wf_box (o := o) w.heap.size 11 hB.keeps.size (cs := [(.int .i64 p0.Labels), v1]) rfl rfl ?_
  intro o3 w4 b5 h6 s7
  replace hB := hB.stp s7 (by decide)
  refine st_val (ex_assign rfl) (by decide) trivial ?_
  refine st_val (ex_assign rfl) (by decide) trivial ?_
  refine wpF_end (r := [(1, (.int .i64 p1)), (2, (.int .i64 p2)), (3, u3), (4, (.pointer (some ⟨b5, 0, none⟩)))]) ⟨rfl, rfl, rfl, rfl, trivial⟩ ?_
  refine nx ?_
  refine wpC_seq ?_
  refine wpC_seq ?_
  refine wpC_region ?_
  refine st_val (ex_loadA rfl Try.isAgg44 Try.sizeOf44 rfl h6.cells) (by decide) trivial ?_
  obtain ⟨x8, hx8, hF⟩ := bind_some hF
  refine st_op (by decide) trivial ?_
  refine wf_call (cS_waGood w4 _ p0 (⟨_, rfl, (h2.keep hB.keeps)⟩) x8 hx8) Try.call61 ⟨rfl, trivial⟩ ?_
  rintro e13 w9 ⟨rfl, k10⟩
  have s12 := k10.stp 999 o3
  refine ⟨_, rfl, ?_⟩
  replace h6 := h6.stp s12 (by decide)
  replace hB := hB.stp s12 (by decide)
  refine st_val (ex_not rfl) (by decide) trivial ?_
  refine st_val (ex_move rfl) (by decide) trivial ?_
  obtain ⟨q14, hq14, hF⟩ := bind_some hF
  refine wpF_cutAt 13 (fun a16 w15 => Fr a16 34 [(1, (.int .i64 p1)), (2, (.int .i64 p2)), (3, u3), (4, (.pointer (some ⟨b5, 0, none⟩))), (26, (.bool q14))] ∧ Keeps w9 w15) ?_ ?_
  all_goals simp only [List.take_succ_cons, List.take_zero, List.drop_succ_cons, List.drop_zero]
  · have kp : Keeps w9 w9 := Keeps.refl _
    rcases Bool.eq_false_or_eq_true (!x8) with t17 | t17
    · rw [if_pos t17] at hq14
      refine st_no rfl rfl (by rw [t17]; rfl) (by decide) ?_
      refine st_no rfl rfl (by rw [t17]; rfl) (by decide) ?_
      refine st_no rfl rfl (by rw [t17]; rfl) (by decide) ?_
      refine st_no rfl rfl (by rw [t17]; rfl) (by decide) ?_
      refine st_no rfl rfl (by rw [t17]; rfl) (by decide) ?_
      refine st_no rfl rfl (by rw [t17]; rfl) (by decide) ?_
      refine st_val (ex_pick_t (congrArg (fun b => some (Value.bool b)) t17) rfl) (by decide) trivial ?_
      refine st_val (ex_move rfl) (by decide) trivial ?_
      refine st_no rfl rfl rfl (by decide) ?_
      refine st_no rfl rfl rfl (by decide) ?_
      refine st_no rfl rfl rfl (by decide) ?_
      refine st_no rfl rfl rfl (by decide) ?_
      refine st_val (ex_pick_t rfl rfl) (by decide) trivial ?_
      have hq142 := Option.some.inj hq14
      refine wpF_end (r := [(1, (.int .i64 p1)), (2, (.int .i64 p2)), (3, u3), (4, (.pointer (some ⟨b5, 0, none⟩))), (26, (.bool true))]) ⟨rfl, rfl, rfl, rfl, rfl, trivial⟩ ?_
      subst hq142
      refine np_norm (fun a ha => ⟨ha, kp⟩)
    · rw [if_neg (by rw [t17]; decide)] at hq14
      refine st_val (ex_move rfl) (by decide) ⟨_, rfl, (congrArg (fun b => some (Value.bool b)) t17)⟩ ?_
      refine st_val (ex_field rfl Try.underlying44 rfl Try.sizeOf3) (by decide) ⟨_, rfl, (congrArg (fun b => some (Value.bool b)) t17)⟩ ?_
      refine st_val (ex_load1 rfl Try.isAgg3 (h6.cell rfl)) (by decide) ⟨_, rfl, (congrArg (fun b => some (Value.bool b)) t17)⟩ ?_
      obtain ⟨x18, hx18, hq14⟩ := bind_some hq14
      refine st_val (ex_sub rfl rfl hx18) (by decide) ⟨_, rfl, (congrArg (fun b => some (Value.bool b)) t17)⟩ ?_
      obtain ⟨x19, hx19, hq14⟩ := bind_some hq14
      refine st_op (by decide) ⟨_, rfl, (congrArg (fun b => some (Value.bool b)) t17)⟩ ?_
      refine wf_call (cS_l1In w9 p1 0 x18 x19 hx19) Try.call53 ⟨rfl, rfl, rfl, trivial⟩ ?_
      rintro e24 w20 ⟨rfl, k21⟩
      have s23 := k21.stp 999 o3
      refine ⟨_, rfl, ?_⟩
      replace h6 := h6.stp s23 (by decide)
      replace hB := hB.stp s23 (by decide)
      replace kp := Keeps.trans kp k21
      refine st_val (ex_not rfl) (by decide) ⟨_, rfl, (congrArg (fun b => some (Value.bool b)) t17)⟩ ?_
      refine st_val (ex_pick_f (congrArg (fun b => some (Value.bool b)) t17) rfl) (by decide) trivial ?_
      refine st_val (ex_move rfl) (by decide) trivial ?_
      rcases Bool.eq_false_or_eq_true (!x19) with t25 | t25
      · rw [if_pos t25] at hq14
        refine st_no rfl rfl (by rw [t25]; rfl) (by decide) ?_
        refine st_no rfl rfl (by rw [t25]; rfl) (by decide) ?_
        refine st_no rfl rfl (by rw [t25]; rfl) (by decide) ?_
        refine st_no rfl rfl (by rw [t25]; rfl) (by decide) ?_
        refine st_val (ex_pick_t (congrArg (fun b => some (Value.bool b)) t25) rfl) (by decide) trivial ?_
        have hq142 := Option.some.inj hq14
        refine wpF_end (r := [(1, (.int .i64 p1)), (2, (.int .i64 p2)), (3, u3), (4, (.pointer (some ⟨b5, 0, none⟩))), (26, (.bool true))]) ⟨rfl, rfl, rfl, rfl, rfl, trivial⟩ ?_
        subst hq142
        refine np_norm (fun a ha => ⟨ha, kp⟩)
      · rw [if_neg (by rw [t25]; decide)] at hq14
        refine st_val (ex_move rfl) (by decide) ⟨_, rfl, (congrArg (fun b => some (Value.bool b)) t25)⟩ ?_
        refine st_val (ex_move rfl) (by decide) ⟨_, rfl, (congrArg (fun b => some (Value.bool b)) t25)⟩ ?_
        obtain ⟨x26, hx26, hq14⟩ := bind_some hq14
        refine st_op (by decide) ⟨_, rfl, (congrArg (fun b => some (Value.bool b)) t25)⟩ ?_
        refine wf_call (cS_cyMarks w20 p2 _ p3 (g3.keep hB.keeps) x26 hx26) Try.call65 ⟨rfl, rfl, trivial⟩ ?_
        rintro e31 w27 ⟨rfl, k28⟩
        have s30 := k28.stp 999 o3
        refine ⟨_, rfl, ?_⟩
        replace h6 := h6.stp s30 (by decide)
        replace hB := hB.stp s30 (by decide)
        replace kp := Keeps.trans kp k28
        refine st_val (ex_not rfl) (by decide) ⟨_, rfl, (congrArg (fun b => some (Value.bool b)) t25)⟩ ?_
        refine st_val (ex_pick_f (congrArg (fun b => some (Value.bool b)) t25) rfl) (by decide) trivial ?_
        have hq142 := Option.some.inj hq14
        refine wpF_end (r := [(1, (.int .i64 p1)), (2, (.int .i64 p2)), (3, u3), (4, (.pointer (some ⟨b5, 0, none⟩))), (26, (.bool (!x26)))]) ⟨rfl, rfl, rfl, rfl, rfl, trivial⟩ ?_
        subst hq142
        refine np_norm (fun a ha => ⟨ha, kp⟩)
  rintro a34 w15 ⟨ha, k32⟩
  have s33 := k32.stp 999 o3
  replace h6 := h6.stp s33 (by decide)
  replace hB := hB.stp s33 (by decide)
  refine wl_of ha ?_
  refine wpF_end (r := [(1, (.int .i64 p1)), (2, (.int .i64 p2)), (3, u3), (4, (.pointer (some ⟨b5, 0, none⟩))), (26, (.bool q14))]) ⟨rfl, rfl, rfl, rfl, rfl, trivial⟩ ?_
  refine nx ?_
  refine wpC_cond rfl (fun t35 => ?_) (fun t35 => ?_)
  · rw [if_pos t35] at hF
    refine wpC_seq ?_
    refine wpC_region ?_
    refine st_val (ex_assign rfl) (by decide) trivial ?_
    refine st_val (ex_assign rfl) (by decide) trivial ?_
    refine wpF_end (r := [(8, (.slice none 0 0)), (9, (.bool false))]) ⟨rfl, rfl, trivial⟩ ?_
    refine nx ?_
    refine wpC_ret ?_
    refine nt_ret ?_
    have e36 := Option.some.inj hF
    subst e36
    refine ret_post (P := Try.prog) (vs := [(.slice none 0 0), (.bool false)]) Try.results29 ⟨rfl, rfl, trivial⟩ ?_
    exact ⟨_, rt oo o3 w.heap.size 9 t, rfl, (Ow.nil _ _ _ _ _), hB.keeps, rt_old _ _ _ _ _⟩
  · rw [if_neg (by rw [t35]; decide)] at hF
    refine wpC_skip ?_
    refine nx ?_
    refine wpC_seq ?_
    refine wpC_region ?_
    refine st_val (ex_loadA rfl Try.isAgg44 Try.sizeOf44 rfl h6.cells) (by decide) trivial ?_
    refine st_val (ex_move rfl) (by decide) trivial ?_
    refine st_val (ex_move rfl) (by decide) trivial ?_
    refine st_val (ex_move rfl) (by decide) trivial ?_
    obtain ⟨x37, hx37, hF⟩ := bind_some hF
    refine st_op (by decide) trivial ?_
    refine wf_call (cS_cyFill fuel w15 o3 15 (by decide) _ p0 (⟨_, rfl, (h2.keep hB.keeps)⟩) p1 p2 _ p3 (g3.keep hB.keeps) x37 hx37) Try.call66 ⟨rfl, rfl, rfl, rfl, trivial⟩ ?_
    rintro e44 w38 ⟨v39, o45, rfl, h40, k41, k42⟩
    have s43 := k41.stp' 15 k42
    replace h40 := h40.mono hB.keeps.size
    refine ⟨_, rfl, ?_⟩
    replace h6 := h6.stp s43 (by decide)
    replace hB := hB.stp s43 (by decide)
    refine st_val (ex_extract rfl rfl) (by decide) trivial ?_
    refine st_val (ex_extract rfl rfl) (by decide) trivial ?_
    refine st_val (ex_assign rfl) (by decide) trivial ?_
    refine st_val (ex_assign rfl) (by decide) trivial ?_
    refine wpF_end (r := [(8, v39), (9, (.bool x37.2))]) ⟨rfl, rfl, trivial⟩ ?_
    refine nx ?_
    refine wpC_ret ?_
    have e46 := Option.some.inj hF
    subst e46
    refine ret_post (P := Try.prog) (vs := [v39, (.bool x37.2)]) Try.results29 ⟨rfl, rfl, trivial⟩ ?_
    exact ⟨_, rt oo o45 w.heap.size 15 t, rfl, h40.rt hB (by decide) t, hB.keeps, rt_old _ _ _ _ _⟩

end Go.Proofs.Ytabclfacjaeblaa
