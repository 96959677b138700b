/- spec.WalkComponents: plain functions, and the walks that show that the program computes them (printed by gen.py). -/
import Derived.Test.YtffgdhbhlcifmaaGWa
namespace Go.Proofs.Ytffgdhbhlcifmaa
open Go.RowKit
set_option linter.unusedSimpArgs false
set_option linter.unusedVariables false

theorem info2_t_int_We : Inf Try.prog 3 (.int .i64 0) 1 8 := by unfold Inf; kernel_rfl

theorem info2_t_Lint_We : Inf Try.prog 26 (.slice none 0 0) 1 24 := by unfold Inf; kernel_rfl

theorem info1_t_spec_waPart_We : (Try.prog.info? 60).map (·.size) = some 3 := by kernel_rfl

def fS_WalkComponents_s1 : Int → T_waPart → ((List (List Int)) × (List Int)) → Option (Lp ((List (List Int)) × (List Int)) ((List (List Int)) × (List Int)) ((List (List Int)) × (List Int) × Bool)) := fun (i35 : Int) (x45 : T_waPart) (s : (List (List Int)) × (List Int)) =>
  (push s.1 x45.labels) >>= fun x69 =>
  (push s.2 x45.period) >>= fun x81 =>
  some (.go (x69, x81))
def fS_WalkComponents (fuel : Nat) (p0 : T_WalkProblem) : Option ((List (List Int)) × (List Int) × Bool) :=
  (fS_waGood p0) >>= fun x8 =>
  if !x8 then
    some ([], [], false)
  else
    (fS_waParts fuel p0) >>= fun x16 =>
    (forI (fS_WalkComponents_s1) x16 0 ([], [])) >>= fun q36 =>
    match q36 with
    | .inl (y27, y30) =>
      some (y27, y30, true)
    | .inr _ => none

def pS_WalkComponents (oo : Tg) (t : Nat) (w : World) (r : (List (List Int)) × (List Int) × Bool) : Ending → World → Prop := fun e w' => ∃ (v0 : Value) (v1 : Value) (o' : Tg), e = .returned (.tuple #[v0, v1, .bool r.2.2]) ∧ Ow w.heap.size 26 t o' w' v0 r.1 ∧ Of 3 o' w' v1 r.2.1 ∧ Keeps w w' ∧ ∀ b, b < w.heap.size → o' b = oo b
set_option maxRecDepth 100000 in
set_option maxHeartbeats 2000000 in
theorem cS_WalkComponents (fuel : Nat) (w : World) (oo : Tg) (t : Nat) (ht : 2 ≤ t) (u0 : List Value) (p0 : T_WalkProblem) (g0 : Rp.rd zt w u0 p0) (r : (List (List Int)) × (List Int) × Bool) (hF : fS_WalkComponents fuel p0 = some r) :
    Calls Try.prog 10 #[.agg u0.toArray] w (pS_WalkComponents oo t w r) := by
  unfold fS_WalkComponents at hF
  obtain ⟨v1, rfl, h2⟩ := g0
  have hB : Bs oo (col oo) w w := Bs.start _ _
  refine calls_start (n := 32) (vs := [(.agg #[(.int .i64 p0.Labels), v1])]) Try.func10 rfl rfl ?_
  generalize col oo = o at *
  refine wpC_seq ?_
  refine wpC_region ?_
  refine st_op (by decide) trivial ?_
  refine wf_box (o := o) w.heap.size 11 hB.keeps.size (cs := [(.int .i64 p0.Labels), v1]) rfl rfl ?_
  intro o3 w4 b5 h6 s7
  replace hB := hB.stp s7 (by decide)
  refine st_val (ex_assign rfl) (by decide) trivial ?_
  refine st_val (ex_assign rfl) (by decide) trivial ?_
  refine st_val (ex_assign rfl) (by decide) trivial ?_
  refine wpF_end (r := [(1, (.pointer (some ⟨b5, 0, none⟩)))]) ⟨rfl, trivial⟩ ?_
  refine nx ?_
  refine wpC_seq ?_
  refine wpC_seq ?_
  refine wpC_region ?_
  refine st_val (ex_loadA rfl Try.isAgg29 Try.sizeOf29 rfl h6.cells) (by decide) trivial ?_
  obtain ⟨x8, hx8, hF⟩ := bind_some hF
  refine st_op (by decide) trivial ?_
  refine wf_call (cS_waGood w4 _ p0 (⟨_, rfl, (h2.keep hB.keeps)⟩) x8 hx8) Try.call37 ⟨rfl, trivial⟩ ?_
  rintro e13 w9 ⟨rfl, k10⟩
  have s12 := k10.stp 999 o3
  refine ⟨_, rfl, ?_⟩
  replace h6 := h6.stp s12 (by decide)
  replace hB := hB.stp s12 (by decide)
  refine st_val (ex_not rfl) (by decide) trivial ?_
  refine wpF_end (r := [(1, (.pointer (some ⟨b5, 0, none⟩))), (11, (.bool (!x8)))]) ⟨rfl, rfl, trivial⟩ ?_
  refine nx ?_
  refine wpC_cond rfl (fun t14 => ?_) (fun t14 => ?_)
  · rw [if_pos t14] at hF
    refine wpC_seq ?_
    refine wpC_region ?_
    refine st_val (ex_assign rfl) (by decide) trivial ?_
    refine st_val (ex_assign rfl) (by decide) trivial ?_
    refine st_val (ex_assign rfl) (by decide) trivial ?_
    refine wpF_end (r := [(2, (.slice none 0 0)), (3, (.slice none 0 0)), (4, (.bool false))]) ⟨rfl, rfl, rfl, trivial⟩ ?_
    refine nx ?_
    refine wpC_ret ?_
    refine nt_ret ?_
    have e15 := Option.some.inj hF
    subst e15
    refine ret_post (P := Try.prog) (vs := [(.slice none 0 0), (.slice none 0 0), (.bool false)]) Try.results10 ⟨rfl, rfl, rfl, trivial⟩ ?_
    exact ⟨_, _, rt oo o3 w.heap.size 9 t, rfl, (Ow.nil _ _ _ _ _), (Of.nil _ _ _), hB.keeps, rt_old _ _ _ _ _⟩
  · rw [if_neg (by rw [t14]; decide)] at hF
    refine wpC_skip ?_
    refine nx ?_
    refine wpC_seq ?_
    refine wpC_region ?_
    refine st_val (ex_assign rfl) (by decide) trivial ?_
    refine wpF_end (r := [(1, (.pointer (some ⟨b5, 0, none⟩))), (5, (.slice none 0 0))]) ⟨rfl, rfl, trivial⟩ ?_
    refine nx ?_
    refine wpC_seq ?_
    refine wpC_region ?_
    refine st_val (ex_assign rfl) (by decide) trivial ?_
    refine wpF_end (r := [(1, (.pointer (some ⟨b5, 0, none⟩))), (5, (.slice none 0 0)), (6, (.slice none 0 0))]) ⟨rfl, rfl, rfl, trivial⟩ ?_
    refine nx ?_
    refine wpC_seq ?_
    refine wpC_seq ?_
    refine wpC_region ?_
    refine st_val (ex_loadA rfl Try.isAgg29 Try.sizeOf29 rfl h6.cells) (by decide) trivial ?_
    obtain ⟨x16, hx16, hF⟩ := bind_some hF
    refine st_op (by decide) trivial ?_
    refine wf_call (cS_waParts fuel w9 o3 13 (by decide) _ p0 (⟨_, rfl, (h2.keep hB.keeps)⟩) x16 hx16) Try.call38 ⟨rfl, trivial⟩ ?_
    rintro e23 w17 ⟨v18, o24, rfl, h19, k20, k21⟩
    have s22 := k20.stp' 13 k21
    replace h19 := h19.mono hB.keeps.size
    refine ⟨_, rfl, ?_⟩
    replace h6 := h6.stp s22 (by decide)
    replace hB := hB.stp s22 (by decide)
    refine st_val (ex_lenO rfl h19 Try.underlying57) (by decide) trivial ?_
    refine st_val (ex_move rfl) (by decide) trivial ?_
    refine wpF_end (r := [(5, (.slice none 0 0)), (6, (.slice none 0 0)), (13, v18), (14, (.int .i64 (x16.length : Int))), (15, (.int .i64 0))]) ⟨rfl, rfl, rfl, rfl, rfl, trivial⟩ ?_
    refine nx ?_
    have h25 : Ow w.heap.size 26 14 o24 w17 (.slice none 0 0) ([] : List (List Int)) := Ow.nil _ _ _ _ _
    have h26 : Ow w.heap.size 3 15 o24 w17 (.slice none 0 0) ([] : List Int) := Ow.nil _ _ _ _ _
    obtain ⟨q36, hq36, hF⟩ := bind_some hF
    refine wpC_cutN (fun a w34 => ∃ (y27 : List (List Int)) (y30 : List Int) (v28 : Value) (v31 : Value) (o33 : Tg), q36 = .inl (y27, y30) ∧ Fr a 32 [(5, v28), (6, v31)] ∧ Bs oo o33 w w34 ∧ Ow w.heap.size 26 14 o33 w34 v28 y27 ∧ Ow w.heap.size 3 15 o33 w34 v31 y30) (fun _ _ => False) ?_ ?_ ?_
    · refine wpC_block ?_
      refine wpC_loop (fun (K : Nat) a w34 => ∃ (i35 : Int) (y27 : List (List Int)) (y30 : List Int) (v28 : Value) (v31 : Value) (o33 : Tg), forI (fS_WalkComponents_s1) (x16.drop i35.toNat) i35 (y27, y30) = some q36 ∧ (x16.drop i35.toNat).length = K ∧ 0 ≤ i35 ∧ Fr a 32 [(5, v28), (6, v31), (13, v18), (14, (.int .i64 (x16.length : Int))), (15, (.int .i64 i35))] ∧ Bs oo o33 w w34 ∧ Ow w.heap.size 26 14 o33 w34 v28 y27 ∧ Ow w.heap.size 3 15 o33 w34 v31 y30 ∧ Ow w.heap.size 60 13 o33 w34 v18 x16) _ (fun a ha => ⟨0, [], [], (.slice none 0 0), (.slice none 0 0), o24, hq36, rfl, Int.le_refl 0, ha.sub (r := [(5, (.slice none 0 0)), (6, (.slice none 0 0)), (13, v18), (14, (.int .i64 (x16.length : Int))), (15, (.int .i64 0))]) ⟨rfl, rfl, rfl, rfl, rfl, trivial⟩, hB, h25, h26, h19⟩) ?_
      rintro K40 a w34 ⟨i35, y27, y30, v28, v31, o33, l37, m39, z38, ha, hB, h29, h32, h19⟩
      by_cases t44 : i35 < (x16.length : Int)
      · obtain ⟨x45, q41, hx45, b42, n43⟩ := forI_cons z38 t44 l37
        have hle := h19.len_le
        dsimp only [fS_WalkComponents_s1] at b42
        refine wp_of ha ?_
        refine wpC_seq ?_
        refine wpC_region ?_
        refine st_val (ex_lss rfl rfl) (by decide) trivial ?_
        refine wpF_end (r := [(5, v28), (6, v31), (13, v18), (14, (.int .i64 (x16.length : Int))), (15, (.int .i64 i35)), (16, (.bool (decide (i35 < (x16.length : Int)))))]) ⟨rfl, rfl, rfl, rfl, rfl, rfl, trivial⟩ ?_
        refine nx ?_
        refine wpC_seq ?_
        refine wpC_true (congrArg (fun b => some (Value.bool b)) (decide_eq_true t44)) ?_
        refine wpC_skip ?_
        refine nx ?_
        refine wpC_seq ?_
        refine wpC_block ?_
        refine wpC_seq ?_
        refine wpC_region ?_
        refine st_op (by decide) trivial ?_
        refine wf_atW h19 hx45 rfl rfl Try.underlying57 Try.sizeOf60 ?_
        intro b46 f47 c48 h49 h50
        obtain ⟨v51, v53, rfl, h52, h54⟩ := h50
        refine st_val (ex_loadA rfl Try.isAgg60 Try.sizeOf60 rfl h49) (by decide) trivial ?_
        refine st_op (by decide) trivial ?_
        refine wf_alloc (o := o33) w.heap.size 16 hB.keeps.size (cs := [(.slice none 0 0), (.int .i64 0), (.slice none 0 0)]) Try.zeroValue60 rfl ?_
        intro o55 w56 b57 h58 s59
        replace h29 := h29.stp s59 (by decide) (by decide)
        replace h32 := h32.stp s59 (by decide) (by decide)
        replace h19 := h19.stp s59 (by decide) (by decide)
        replace h52 := h52.stp s59 (by decide)
        replace h54 := h54.stp s59 (by decide)
        replace hB := hB.stp s59 (by decide)
        refine st_op0 trivial ?_
        refine wf_storeA h58 rfl rfl rfl info1_t_spec_waPart_We (by intro c hc; simp only [List.mem_cons, List.not_mem_nil, or_false] at hc; rcases hc with rfl | rfl | rfl <;> first | rfl | exact h52.one1 | exact h54.one1) ?_
        intro w60 h62 s61
        replace h29 := h29.stp s61 (by decide) (by decide)
        replace h32 := h32.stp s61 (by decide) (by decide)
        replace h19 := h19.stp s61 (by decide) (by decide)
        replace h52 := h52.stp s61 (by decide)
        replace h54 := h54.stp s61 (by decide)
        replace hB := hB.stp s61 (by decide)
        refine wpF_end (r := [(5, v28), (6, v31), (8, (.pointer (some ⟨b57, 0, none⟩))), (13, v18), (14, (.int .i64 (x16.length : Int))), (15, (.int .i64 i35))]) ⟨rfl, rfl, rfl, rfl, rfl, rfl, trivial⟩ ?_
        refine nx ?_
        refine wpC_seq ?_
        refine wpC_region ?_
        refine st_val (ex_move rfl) (by decide) trivial ?_
        refine st_val (ex_field rfl Try.underlying60 rfl Try.sizeOf26) (by decide) trivial ?_
        refine st_val (ex_load1 rfl Try.isAgg26 (h62.cell rfl)) (by decide) trivial ?_
        refine st_op (by decide) trivial ?_
        refine wf_litR (o := o55) (cs := [v51]) (xs := ([x45.labels] : List (List Int))) (vs := [(0, v51)]) ⟨_, _, rfl, (rd_list h52), rfl⟩ rfl ⟨rfl, rfl, trivial⟩ Try.underlying22 Try.sizeOf26 Try.zeroValue26 (by decide) (fill1 h52.cells1) (by simp) ?_
        intro o63 w64 v65 h66 s67 k68
        replace h29 := h29.stp s67 (by decide) (by decide)
        replace h32 := h32.stp s67 (by decide) (by decide)
        replace h19 := h19.stp s67 (by decide) (by decide)
        replace h52 := h52.stp s67 (by decide)
        replace h62 := h62.stp s67 (by decide)
        replace h54 := h54.stp s67 (by decide)
        replace hB := hB.stp s67 (by decide)
        obtain ⟨x69, hx69, b42⟩ := bind_some b42
        refine st_op (by decide) trivial ?_
        refine wf_cat h29 h66 (push_cat hx69) (by decide) hB.keeps.size rfl rfl Try.underlying22 info2_t_Lint_We rfl (by decide) ?_
        intro o70 w71 v72 h73 s74
        replace h32 := h32.stp s74 (by decide) (by decide)
        replace h19 := h19.stp s74 (by decide) (by decide)
        replace h52 := h52.stp s74 (by decide)
        replace h66 := h66.stp s74 (by decide)
        replace h62 := h62.stp s74 (by decide)
        replace h54 := h54.stp s74 (by decide)
        replace hB := hB.stp s74 (by decide)
        refine st_val (ex_assign rfl) (by decide) trivial ?_
        refine wpF_end (r := [(5, v72), (6, v31), (8, (.pointer (some ⟨b57, 0, none⟩))), (13, v18), (14, (.int .i64 (x16.length : Int))), (15, (.int .i64 i35))]) ⟨rfl, rfl, rfl, rfl, rfl, rfl, trivial⟩ ?_
        refine nx ?_
        refine wpC_region ?_
        refine st_val (ex_move rfl) (by decide) trivial ?_
        refine st_val (ex_field rfl Try.underlying60 rfl Try.sizeOf3) (by decide) trivial ?_
        refine st_val (ex_load1 rfl Try.isAgg3 (h62.cell rfl)) (by decide) trivial ?_
        refine st_op (by decide) trivial ?_
        refine wf_litR (o := o70) (cs := [(.int .i64 x45.period)]) (xs := ([x45.period] : List Int)) (vs := [(0, (.int .i64 x45.period))]) ⟨_, _, rfl, rfl, rfl⟩ rfl ⟨rfl, rfl, trivial⟩ Try.underlying26 Try.sizeOf3 Try.zeroValue3 (by decide) (fill1 rfl) (by simp) ?_
        intro o75 w76 v77 h78 s79 k80
        replace h73 := h73.stp s79 (by decide) (by decide)
        replace h32 := h32.stp s79 (by decide) (by decide)
        replace h19 := h19.stp s79 (by decide) (by decide)
        replace h62 := h62.stp s79 (by decide)
        replace h52 := h52.stp s79 (by decide)
        replace h54 := h54.stp s79 (by decide)
        replace hB := hB.stp s79 (by decide)
        obtain ⟨x81, hx81, b42⟩ := bind_some b42
        refine st_op (by decide) trivial ?_
        refine wf_cat h32 h78 (push_cat hx81) (by decide) hB.keeps.size rfl rfl Try.underlying26 info2_t_int_We rfl (by decide) ?_
        intro o82 w83 v84 h85 s86
        replace h73 := h73.stp s86 (by decide) (by decide)
        replace h19 := h19.stp s86 (by decide) (by decide)
        replace h78 := h78.stp s86 (by decide)
        replace h62 := h62.stp s86 (by decide)
        replace h52 := h52.stp s86 (by decide)
        replace h54 := h54.stp s86 (by decide)
        replace hB := hB.stp s86 (by decide)
        refine st_val (ex_assign rfl) (by decide) trivial ?_
        refine wpF_end (r := [(5, v72), (6, v84), (13, v18), (14, (.int .i64 (x16.length : Int))), (15, (.int .i64 i35))]) ⟨rfl, rfl, rfl, rfl, rfl, trivial⟩ ?_
        refine nb_norm ?_
        refine nx ?_
        refine wpC_region ?_
        refine st_val (ex_add rfl rfl (ck_in (by omega) (by omega))) (by decide) trivial ?_
        refine st_val (ex_move rfl) (by decide) trivial ?_
        refine wpF_end (r := [(5, v72), (6, v84), (13, v18), (14, (.int .i64 (x16.length : Int))), (15, (.int .i64 (i35 + 1)))]) ⟨rfl, rfl, rfl, rfl, rfl, trivial⟩ ?_
        refine nt_norm ?_
        have e87 := Option.some.inj b42
        subst e87
        refine to_k (r := [(5, v72), (6, v84), (13, v18), (14, (.int .i64 (x16.length : Int))), (15, (.int .i64 (i35 + 1)))]) ⟨rfl, rfl, rfl, rfl, rfl, trivial⟩ ?_
        intro a ha
        exact ⟨_, (by rw [← m39]; simp only [List.length_drop]; omega), i35 + 1, x69, x81, v72, v84, o82, n43, rfl, (by omega), ha, hB, h73, h85, h19⟩
      · have r88 := forI_done t44 l37
        refine wp_of ha ?_
        refine wpC_seq ?_
        refine wpC_region ?_
        refine st_val (ex_lss rfl rfl) (by decide) trivial ?_
        refine wpF_end (r := [(5, v28), (6, v31), (13, v18), (14, (.int .i64 (x16.length : Int))), (15, (.int .i64 i35)), (16, (.bool (decide (i35 < (x16.length : Int)))))]) ⟨rfl, rfl, rfl, rfl, rfl, rfl, trivial⟩ ?_
        refine nx ?_
        refine wpC_seq ?_
        refine wpC_false (congrArg (fun b => some (Value.bool b)) (decide_eq_false t44)) ?_
        refine wpC_exit ?_
        refine nt_exit ?_
        refine nt_exit ?_
        refine nb_hit ?_
        refine np_norm ?_
        refine to_k (r := [(5, v28), (6, v31)]) ⟨rfl, rfl, trivial⟩ ?_
        intro a ha
        exact ⟨y27, y30, v28, v31, o33, r88, ha, hB, h29, h32⟩
    · rintro a w34 ⟨y27, y30, v28, v31, o33, rfl, ha, hB, h29, h32⟩
      dsimp only at hF
      refine ap_k ha ?_
      refine nx ?_
      refine wpC_seq ?_
      refine wpC_region ?_
      refine st_val (ex_move rfl) (by decide) trivial ?_
      refine st_val (ex_move rfl) (by decide) trivial ?_
      refine st_val (ex_assign rfl) (by decide) trivial ?_
      refine st_val (ex_assign rfl) (by decide) trivial ?_
      refine st_val (ex_assign rfl) (by decide) trivial ?_
      refine wpF_end (r := [(2, v28), (3, v31), (4, (.bool true))]) ⟨rfl, rfl, rfl, trivial⟩ ?_
      refine nx ?_
      refine wpC_ret ?_
      replace h29 := h29.frz_ne (j := 15) (by decide)
      have h89 := h32.frzF
      replace h32 := h32.frz
      replace hB := hB.frz 15 (by decide)
      generalize (frz 15 o33) = o90 at *
      have e91 := Option.some.inj hF
      subst e91
      refine ret_post (P := Try.prog) (vs := [v28, v31, (.bool true)]) Try.results10 ⟨rfl, rfl, rfl, trivial⟩ ?_
      exact ⟨_, _, rt oo o90 w.heap.size 14 t, rfl, h29.rt hB (by decide) t, h89.rt hB 14 t (by decide), hB.keeps, rt_old _ _ _ _ _⟩
    · exact fun _ _ h => h.elim

end Go.Proofs.Ytffgdhbhlcifmaa
