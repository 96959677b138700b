/- (impl.WalkProblem).flexibleLabels, impl.FlexibleLabels, (impl.WalkProblem).flexibilityOf, impl.FlexibilityOf, (impl.WalkProblem).classOf, impl.ClassOfWalk, impl.WalkComponents: plain functions, and the walks that show that the program computes them (printed by gen.py). -/
import Derived.Test.YtffgdhbhlcifmaaGWb
import Derived.Test.YtffgdhbhlcifmaaGLp
import Derived.Test.YtffgdhbhlcifmaaSort
namespace Go.Proofs.Ytffgdhbhlcifmaa
open Go.RowKit
set_option linter.unusedSimpArgs false
set_option linter.unusedVariables false

theorem info2_t_int_Wd : Inf Try.prog 3 (.int .i64 0) 1 8 := by unfold Inf; kernel_rfl

def fI_WalkProblem_flexibleLabels_s1 (x8 : (List (List Int)) × (List Int)) : Int → (List Int) → (List Int) → Option (Lp (List Int) (List Int) (List Int)) := fun (i26 : Int) (x36 : List Int) (s : List Int) =>
  (ix x8.2 i26) >>= fun x44 =>
  if x44 == 1 then
    (cat s x36) >>= fun x51 =>
    some (.go x51)
  else
    some (.go s)
def fI_WalkProblem_flexibleLabels (fuel : Nat) (p0 : T_WalkProblem) : Option (List Int) :=
  (fI_WalkProblem_walkComponents fuel p0) >>= fun x8 =>
  (forI (fI_WalkProblem_flexibleLabels_s1 x8) x8.1 0 []) >>= fun q27 =>
  match q27 with
  | .inl y21 =>
    (srtO y21) >>= fun x66 =>
    some x66
  | .inr _ => none

def pI_WalkProblem_flexibleLabels (oo : Tg) (t : Nat) (w : World) (r : List Int) : Ending → World → Prop := fun e w' => ∃ (v0 : Value) (o' : Tg), e = .returned (v0) ∧ Ow w.heap.size 3 t o' w' v0 r ∧ Keeps w w' ∧ ∀ b, b < w.heap.size → o' b = oo b
set_option maxRecDepth 100000 in
set_option maxHeartbeats 2000000 in
theorem cI_WalkProblem_flexibleLabels (fuel : Nat) (w : World) (oo : Tg) (t : Nat) (ht : 2 ≤ t) (u0 : List Value) (p0 : T_WalkProblem) (g0 : Rp.rd zt w u0 p0) (r : List Int) (hF : fI_WalkProblem_flexibleLabels fuel p0 = some r) :
    Calls Try.prog 65 #[.agg u0.toArray] w (pI_WalkProblem_flexibleLabels oo t w r) := by
  unfold fI_WalkProblem_flexibleLabels at hF
  obtain ⟨v1, rfl, h2⟩ := g0
  have hB : Bs oo (col oo) w w := Bs.start _ _
  refine calls_start (n := 32) (vs := [(.agg #[(.int .i64 p0.Labels), v1])]) Try.func65 rfl rfl ?_
  generalize col oo = o at *
  refine wpC_seq ?_
  refine wpC_region ?_
  refine st_op (by decide) trivial ?_
  refine wf_box (o := o) w.heap.size 11 hB.keeps.size (cs := [(.int .i64 p0.Labels), v1]) rfl rfl ?_
  intro o3 w4 b5 h6 s7
  replace hB := hB.stp s7 (by decide)
  refine st_val (ex_assign rfl) (by decide) trivial ?_
  refine wpF_end (r := [(1, (.pointer (some ⟨b5, 0, none⟩)))]) ⟨rfl, trivial⟩ ?_
  refine nx ?_
  refine wpC_seq ?_
  refine wpC_region ?_
  refine st_val (ex_assign rfl) (by decide) trivial ?_
  refine wpF_end (r := [(1, (.pointer (some ⟨b5, 0, none⟩))), (3, (.slice none 0 0))]) ⟨rfl, rfl, trivial⟩ ?_
  refine nx ?_
  refine wpC_seq ?_
  refine wpC_region ?_
  refine st_val (ex_loadA rfl Try.isAgg29 Try.sizeOf29 rfl h6.cells) (by decide) trivial ?_
  obtain ⟨x8, hx8, hF⟩ := bind_some hF
  refine st_op (by decide) trivial ?_
  refine wf_call (cI_WalkProblem_walkComponents fuel w4 o3 12 (by decide) _ p0 (⟨_, rfl, (h2.keep hB.keeps)⟩) x8 hx8) Try.call41 ⟨rfl, trivial⟩ ?_
  rintro e18 w9 ⟨v10, v13, o19, rfl, h11, h14, k15, k16⟩
  have s17 := k15.stp' 12 k16
  replace h14 := h14.mono hB.keeps.size
  have h12 := h11.rd
  refine ⟨_, rfl, ?_⟩
  replace h6 := h6.stp s17 (by decide)
  replace hB := hB.stp s17 (by decide)
  refine st_val (ex_move rfl) (by decide) trivial ?_
  refine st_val (ex_extract rfl rfl) (by decide) trivial ?_
  refine st_val (ex_extract rfl rfl) (by decide) trivial ?_
  refine st_val (ex_assign rfl) (by decide) trivial ?_
  refine st_val (ex_assign rfl) (by decide) trivial ?_
  refine wpF_end (r := [(3, (.slice none 0 0)), (4, v10), (5, v13)]) ⟨rfl, rfl, rfl, trivial⟩ ?_
  refine nx ?_
  refine wpC_seq ?_
  refine wpC_seq ?_
  refine wpC_region ?_
  refine st_val (ex_move rfl) (by decide) trivial ?_
  refine st_val (ex_lenR rfl h12 Try.underlying22) (by decide) trivial ?_
  refine st_val (ex_move rfl) (by decide) trivial ?_
  refine wpF_end (r := [(3, (.slice none 0 0)), (5, v13), (13, v10), (14, (.int .i64 (x8.1.length : Int))), (15, (.int .i64 0))]) ⟨rfl, rfl, rfl, rfl, rfl, trivial⟩ ?_
  refine nx ?_
  have h20 : Ow w.heap.size 3 13 o19 w9 (.slice none 0 0) ([] : List Int) := Ow.nil _ _ _ _ _
  obtain ⟨q27, hq27, hF⟩ := bind_some hF
  refine wpC_cutN (fun a w25 => ∃ (y21 : List Int) (v22 : Value) (o24 : Tg), q27 = .inl y21 ∧ Fr a 32 [(3, v22)] ∧ Bs oo o24 w w25 ∧ Ow w.heap.size 3 13 o24 w25 v22 y21) (fun _ _ => False) ?_ ?_ ?_
  · refine wpC_block ?_
    refine wpC_loop (fun (K : Nat) a w25 => ∃ (i26 : Int) (y21 : List Int) (v22 : Value) (o24 : Tg), forI (fI_WalkProblem_flexibleLabels_s1 x8) (x8.1.drop i26.toNat) i26 y21 = some q27 ∧ (x8.1.drop i26.toNat).length = K ∧ 0 ≤ i26 ∧ Fr a 32 [(3, v22), (5, v13), (13, v10), (14, (.int .i64 (x8.1.length : Int))), (15, (.int .i64 i26))] ∧ Bs oo o24 w w25 ∧ Ow w.heap.size 3 13 o24 w25 v22 y21 ∧ Ow w.heap.size 3 12 o24 w25 v13 (x8.2 : List Int) ∧ RdL o24 w25 v10 (x8.1 : List (List Int)) ∧ Dz 26 3 o24 w25 v10 (x8.1 : List (List Int))) _ (fun a ha => ⟨0, [], (.slice none 0 0), o19, hq27, rfl, Int.le_refl 0, ha.sub (r := [(3, (.slice none 0 0)), (5, v13), (13, v10), (14, (.int .i64 (x8.1.length : Int))), (15, (.int .i64 0))]) ⟨rfl, rfl, rfl, rfl, rfl, trivial⟩, hB, h20, h14, h12, h11⟩) ?_
    rintro K31 a w25 ⟨i26, y21, v22, o24, l28, m30, z29, ha, hB, h23, h14, h12, h11⟩
    by_cases t35 : i26 < (x8.1.length : Int)
    · obtain ⟨x36, q32, hx36, b33, n34⟩ := forI_cons z29 t35 l28
      have hle := h12.len_le
      dsimp only [fI_WalkProblem_flexibleLabels_s1] at b33
      refine wp_of ha ?_
      refine wpC_seq ?_
      refine wpC_region ?_
      refine st_val (ex_lss rfl rfl) (by decide) trivial ?_
      refine wpF_end (r := [(3, v22), (5, v13), (13, v10), (14, (.int .i64 (x8.1.length : Int))), (15, (.int .i64 i26)), (16, (.bool (decide (i26 < (x8.1.length : Int)))))]) ⟨rfl, rfl, rfl, rfl, rfl, rfl, trivial⟩ ?_
      refine nx ?_
      refine wpC_seq ?_
      refine wpC_true (congrArg (fun b => some (Value.bool b)) (decide_eq_true t35)) ?_
      refine wpC_skip ?_
      refine nx ?_
      refine wpC_seq ?_
      refine wpC_block ?_
      refine wpC_seq ?_
      refine wpC_region ?_
      refine st_val (ex_move rfl) (by decide) trivial ?_
      refine st_op (by decide) trivial ?_
      refine wf_atO h12 hx36 rfl rfl Try.underlying22 Try.sizeOf26 ?_
      intro b37 f38 c39 h40 h41
      obtain ⟨v42, rfl, h43⟩ := h41
      refine st_val (ex_load1 rfl Try.isAgg26 (cell_of_cells h40)) (by decide) trivial ?_
      refine st_val (ex_assign rfl) (by decide) trivial ?_
      refine st_val (ex_assign rfl) (by decide) trivial ?_
      refine wpF_end (r := [(3, v22), (5, v13), (6, (.int .i64 i26)), (7, v42), (13, v10), (14, (.int .i64 (x8.1.length : Int))), (15, (.int .i64 i26))]) ⟨rfl, rfl, rfl, rfl, rfl, rfl, rfl, trivial⟩ ?_
      refine nx ?_
      refine wpC_seq ?_
      refine wpC_region ?_
      refine st_val (ex_move rfl) (by decide) trivial ?_
      refine st_val (ex_move rfl) (by decide) trivial ?_
      obtain ⟨x44, hx44, b33⟩ := bind_some b33
      refine st_op (by decide) trivial ?_
      refine wf_atW h14 hx44 rfl rfl Try.underlying26 Try.sizeOf3 ?_
      intro b45 f46 c47 h48 h49
      cases h49
      refine st_val (ex_load1 rfl Try.isAgg3 (cell_of_cells h48)) (by decide) trivial ?_
      refine st_val (ex_eql rfl rfl) (by decide) trivial ?_
      refine wpF_end (r := [(3, v22), (5, v13), (7, v42), (13, v10), (14, (.int .i64 (x8.1.length : Int))), (15, (.int .i64 i26)), (24, (.bool (x44 == 1)))]) ⟨rfl, rfl, rfl, rfl, rfl, rfl, rfl, trivial⟩ ?_
      refine nx ?_
      refine wpC_cond rfl (fun t50 => ?_) (fun t50 => ?_)
      · rw [if_pos t50] at b33
        refine wpC_region ?_
        refine st_val (ex_move rfl) (by decide) trivial ?_
        refine st_val (ex_move rfl) (by decide) trivial ?_
        obtain ⟨x51, hx51, b33⟩ := bind_some b33
        refine st_op (by decide) trivial ?_
        refine wf_cat h23 h43 hx51 (by decide) hB.keeps.size rfl rfl Try.underlying26 info2_t_int_Wd rfl (by decide) ?_
        intro o52 w53 v54 h55 s56
        replace h14 := h14.stp s56 (by decide) (by decide)
        replace h43 := h43.stp s56 (by decide)
        replace h12 := h12.stp s56 (by decide)
        replace h11 := h11.stp s56 (by decide)
        replace hB := hB.stp s56 (by decide)
        refine st_val (ex_assign rfl) (by decide) trivial ?_
        refine wpF_end (r := [(3, v54), (5, v13), (13, v10), (14, (.int .i64 (x8.1.length : Int))), (15, (.int .i64 i26))]) ⟨rfl, rfl, rfl, rfl, rfl, trivial⟩ ?_
        refine nb_norm ?_
        refine nx ?_
        refine wpC_region ?_
        refine st_val (ex_add rfl rfl (ck_in (by omega) (by omega))) (by decide) trivial ?_
        refine st_val (ex_move rfl) (by decide) trivial ?_
        refine wpF_end (r := [(3, v54), (5, v13), (13, v10), (14, (.int .i64 (x8.1.length : Int))), (15, (.int .i64 (i26 + 1)))]) ⟨rfl, rfl, rfl, rfl, rfl, trivial⟩ ?_
        refine nt_norm ?_
        have e57 := Option.some.inj b33
        subst e57
        refine to_k (r := [(3, v54), (5, v13), (13, v10), (14, (.int .i64 (x8.1.length : Int))), (15, (.int .i64 (i26 + 1)))]) ⟨rfl, rfl, rfl, rfl, rfl, trivial⟩ ?_
        intro a ha
        exact ⟨_, (by rw [← m30]; simp only [List.length_drop]; omega), i26 + 1, x51, v54, o52, n34, rfl, (by omega), ha, hB, h55, h14, h12, h11⟩
      · rw [if_neg (by rw [t50]; decide)] at b33
        refine wpC_skip ?_
        refine nb_norm ?_
        refine nx ?_
        refine wpC_region ?_
        refine st_val (ex_add rfl rfl (ck_in (by omega) (by omega))) (by decide) trivial ?_
        refine st_val (ex_move rfl) (by decide) trivial ?_
        refine wpF_end (r := [(3, v22), (5, v13), (13, v10), (14, (.int .i64 (x8.1.length : Int))), (15, (.int .i64 (i26 + 1)))]) ⟨rfl, rfl, rfl, rfl, rfl, trivial⟩ ?_
        refine nt_norm ?_
        have e58 := Option.some.inj b33
        subst e58
        refine to_k (r := [(3, v22), (5, v13), (13, v10), (14, (.int .i64 (x8.1.length : Int))), (15, (.int .i64 (i26 + 1)))]) ⟨rfl, rfl, rfl, rfl, rfl, trivial⟩ ?_
        intro a ha
        exact ⟨_, (by rw [← m30]; simp only [List.length_drop]; omega), i26 + 1, y21, v22, o24, n34, rfl, (by omega), ha, hB, h23, h14, h12, h11⟩
    · have r59 := forI_done t35 l28
      refine wp_of ha ?_
      refine wpC_seq ?_
      refine wpC_region ?_
      refine st_val (ex_lss rfl rfl) (by decide) trivial ?_
      refine wpF_end (r := [(3, v22), (5, v13), (13, v10), (14, (.int .i64 (x8.1.length : Int))), (15, (.int .i64 i26)), (16, (.bool (decide (i26 < (x8.1.length : Int)))))]) ⟨rfl, rfl, rfl, rfl, rfl, rfl, trivial⟩ ?_
      refine nx ?_
      refine wpC_seq ?_
      refine wpC_false (congrArg (fun b => some (Value.bool b)) (decide_eq_false t35)) ?_
      refine wpC_exit ?_
      refine nt_exit ?_
      refine nt_exit ?_
      refine nb_hit ?_
      refine np_norm ?_
      refine to_k (r := [(3, v22)]) ⟨rfl, trivial⟩ ?_
      intro a ha
      exact ⟨y21, v22, o24, r59, ha, hB, h23⟩
  · rintro a w25 ⟨y21, v22, o24, rfl, ha, hB, h23⟩
    dsimp only at hF
    refine ap_k ha ?_
    refine nx ?_
    refine wpC_seq ?_
    refine wpC_region ?_
    refine st_val (ex_move rfl) (by decide) trivial ?_
    obtain ⟨x66, hx66, hF⟩ := bind_some hF
    refine st_op (by decide) trivial ?_
    refine wf_call (cX_Sort h23 hx66) Try.call100 ⟨rfl, trivial⟩ ?_
    rintro e61 w60 ⟨rfl, h67, s64⟩
    refine ⟨_, rfl, ?_⟩
    replace hB := hB.stp s64 (by decide)
    refine wpF_end (r := [(3, v22)]) ⟨rfl, trivial⟩ ?_
    refine nx ?_
    refine wpC_seq ?_
    refine wpC_region ?_
    refine st_val (ex_move rfl) (by decide) trivial ?_
    refine st_val (ex_assign rfl) (by decide) trivial ?_
    refine wpF_end (r := [(2, v22)]) ⟨rfl, trivial⟩ ?_
    refine nx ?_
    refine wpC_ret ?_
    have e68 := Option.some.inj hF
    subst e68
    refine ret_post (P := Try.prog) (vs := [v22]) Try.results65 ⟨rfl, trivial⟩ ?_
    exact ⟨_, rt oo o24 w.heap.size 13 t, rfl, h67.rt hB (by decide) t, hB.keeps, rt_old _ _ _ _ _⟩
  · exact fun _ _ h => h.elim

def fI_FlexibleLabels (fuel : Nat) (p0 : T_WalkProblem) : Option ((List Int) × Bool) :=
  (fI_IsWalkProblem p0) >>= fun x8 =>
  if !x8 then
    some ([], false)
  else
    (fI_WalkProblem_flexibleLabels fuel p0) >>= fun x16 =>
    some (x16, true)

def pI_FlexibleLabels (oo : Tg) (t : Nat) (w : World) (r : (List Int) × Bool) : Ending → World → Prop := fun e w' => ∃ (v0 : Value) (o' : Tg), e = .returned (.tuple #[v0, .bool r.2]) ∧ Ow w.heap.size 3 t o' w' v0 r.1 ∧ Keeps w w' ∧ ∀ b, b < w.heap.size → o' b = oo b
set_option maxRecDepth 100000 in
set_option maxHeartbeats 2000000 in
theorem cI_FlexibleLabels (fuel : Nat) (w : World) (oo : Tg) (t : Nat) (ht : 2 ≤ t) (u0 : List Value) (p0 : T_WalkProblem) (g0 : Rp.rd zt w u0 p0) (r : (List Int) × Bool) (hF : fI_FlexibleLabels fuel p0 = some r) :
    Calls Try.prog 33 #[.agg u0.toArray] w (pI_FlexibleLabels oo t w r) := by
  unfold fI_FlexibleLabels at hF
  obtain ⟨v1, rfl, h2⟩ := g0
  have hB : Bs oo (col oo) w w := Bs.start _ _
  refine calls_start (n := 9) (vs := [(.agg #[(.int .i64 p0.Labels), v1])]) Try.func33 rfl rfl ?_
  generalize col oo = o at *
  refine wpC_seq ?_
  refine wpC_region ?_
  refine st_op (by decide) trivial ?_
  refine wf_box (o := o) w.heap.size 11 hB.keeps.size (cs := [(.int .i64 p0.Labels), v1]) rfl rfl ?_
  intro o3 w4 b5 h6 s7
  replace hB := hB.stp s7 (by decide)
  refine st_val (ex_assign rfl) (by decide) trivial ?_
  refine st_val (ex_assign rfl) (by decide) trivial ?_
  refine wpF_end (r := [(1, (.pointer (some ⟨b5, 0, none⟩)))]) ⟨rfl, trivial⟩ ?_
  refine nx ?_
  refine wpC_seq ?_
  refine wpC_seq ?_
  refine wpC_region ?_
  refine st_val (ex_loadA rfl Try.isAgg29 Try.sizeOf29 rfl h6.cells) (by decide) trivial ?_
  obtain ⟨x8, hx8, hF⟩ := bind_some hF
  refine st_op (by decide) trivial ?_
  refine wf_call (cI_IsWalkProblem w4 _ p0 (⟨_, rfl, (h2.keep hB.keeps)⟩) x8 hx8) Try.call40 ⟨rfl, trivial⟩ ?_
  rintro e13 w9 ⟨rfl, k10⟩
  have s12 := k10.stp 999 o3
  refine ⟨_, rfl, ?_⟩
  replace h6 := h6.stp s12 (by decide)
  replace hB := hB.stp s12 (by decide)
  refine st_val (ex_not rfl) (by decide) trivial ?_
  refine wpF_end (r := [(1, (.pointer (some ⟨b5, 0, none⟩))), (6, (.bool (!x8)))]) ⟨rfl, rfl, trivial⟩ ?_
  refine nx ?_
  refine wpC_cond rfl (fun t14 => ?_) (fun t14 => ?_)
  · rw [if_pos t14] at hF
    refine wpC_seq ?_
    refine wpC_region ?_
    refine st_val (ex_assign rfl) (by decide) trivial ?_
    refine st_val (ex_assign rfl) (by decide) trivial ?_
    refine wpF_end (r := [(2, (.slice none 0 0)), (3, (.bool false))]) ⟨rfl, rfl, trivial⟩ ?_
    refine nx ?_
    refine wpC_ret ?_
    refine nt_ret ?_
    have e15 := Option.some.inj hF
    subst e15
    refine ret_post (P := Try.prog) (vs := [(.slice none 0 0), (.bool false)]) Try.results33 ⟨rfl, rfl, trivial⟩ ?_
    exact ⟨_, rt oo o3 w.heap.size 9 t, rfl, (Ow.nil _ _ _ _ _), hB.keeps, rt_old _ _ _ _ _⟩
  · rw [if_neg (by rw [t14]; decide)] at hF
    refine wpC_skip ?_
    refine nx ?_
    refine wpC_seq ?_
    refine wpC_region ?_
    refine st_val (ex_loadA rfl Try.isAgg29 Try.sizeOf29 rfl h6.cells) (by decide) trivial ?_
    obtain ⟨x16, hx16, hF⟩ := bind_some hF
    refine st_op (by decide) trivial ?_
    refine wf_call (cI_WalkProblem_flexibleLabels fuel w9 o3 13 (by decide) _ p0 (⟨_, rfl, (h2.keep hB.keeps)⟩) x16 hx16) Try.call65 ⟨rfl, trivial⟩ ?_
    rintro e23 w17 ⟨v18, o24, rfl, h19, k20, k21⟩
    have s22 := k20.stp' 13 k21
    replace h19 := h19.mono hB.keeps.size
    refine ⟨_, rfl, ?_⟩
    replace h6 := h6.stp s22 (by decide)
    replace hB := hB.stp s22 (by decide)
    refine st_val (ex_assign rfl) (by decide) trivial ?_
    refine st_val (ex_assign rfl) (by decide) trivial ?_
    refine wpF_end (r := [(2, v18), (3, (.bool true))]) ⟨rfl, rfl, trivial⟩ ?_
    refine nx ?_
    refine wpC_ret ?_
    have e25 := Option.some.inj hF
    subst e25
    refine ret_post (P := Try.prog) (vs := [v18, (.bool true)]) Try.results33 ⟨rfl, rfl, trivial⟩ ?_
    exact ⟨_, rt oo o24 w.heap.size 13 t, rfl, h19.rt hB (by decide) t, hB.keeps, rt_old _ _ _ _ _⟩

def fI_WalkProblem_flexibilityOf_s1 (p1 : Int) (x8 : List Int) : Int → Option (Lp Int Int Int) := fun (s : Int) =>
  (
    if decide (s > 0) then
      (ix x8 s) >>= fun x35 =>
      (shr x35 p1) >>= fun x41 =>
      some ((band x41 1) == 1)
    else
      some false) >>= fun q31 =>
  if q31 then
    (ck (s - 1)) >>= fun x46 =>
    some (.go x46)
  else
    some (.out s)
def fI_WalkProblem_flexibilityOf (fuel : Nat) (p0 : T_WalkProblem) (p1 : Int) : Option Int :=
  (fI_WalkProblem_reached fuel p0 p1 288) >>= fun x8 =>
  (ck ((x8.length : Int) - 1)) >>= fun x17 =>
  (loopF (fI_WalkProblem_flexibilityOf_s1 p1 x8) fuel x17) >>= fun q21 =>
  match q21 with
  | .inl y18 =>
    (ck (y18 + 1)) >>= fun x49 =>
    some x49
  | .inr _ => none

def pI_WalkProblem_flexibilityOf (w : World) (r : Int) : Ending → World → Prop := fun e w' => e = .returned (.int .i64 r) ∧ Keeps w w'
set_option maxRecDepth 100000 in
set_option maxHeartbeats 2000000 in
theorem cI_WalkProblem_flexibilityOf (fuel : Nat) (w : World) (u0 : List Value) (p0 : T_WalkProblem) (g0 : Rp.rd zt w u0 p0) (p1 : Int) (r : Int) (hF : fI_WalkProblem_flexibilityOf fuel p0 p1 = some r) :
    Calls Try.prog 66 #[.agg u0.toArray, .int .i64 p1] w (pI_WalkProblem_flexibilityOf w r) := by
  unfold fI_WalkProblem_flexibilityOf at hF
  obtain ⟨v1, rfl, h2⟩ := g0
  have hB : Bs (fun _ => 1) (col (fun _ => 1)) w w := Bs.start _ _
  refine calls_start (n := 29) (vs := [(.agg #[(.int .i64 p0.Labels), v1]), (.int .i64 p1)]) Try.func66 rfl rfl ?_
  refine wpC_seq ?_
  refine wpC_region ?_
  refine st_op (by decide) trivial ?_
  refine wf_box (o := (col (fun _ => 1))) w.heap.size 11 hB.keeps.size (cs := [(.int .i64 p0.Labels), v1]) rfl rfl ?_
  intro o3 w4 b5 h6 s7
  replace hB := hB.stp s7 (by decide)
  refine st_val (ex_assign rfl) (by decide) trivial ?_
  refine wpF_end (r := [(1, (.int .i64 p1)), (2, (.pointer (some ⟨b5, 0, none⟩)))]) ⟨rfl, rfl, trivial⟩ ?_
  refine nx ?_
  refine wpC_seq ?_
  refine wpC_region ?_
  refine st_val (ex_loadA rfl Try.isAgg29 Try.sizeOf29 rfl h6.cells) (by decide) trivial ?_
  refine st_val (ex_move rfl) (by decide) trivial ?_
  obtain ⟨x8, hx8, hF⟩ := bind_some hF
  refine st_op (by decide) trivial ?_
  refine wf_call (cI_WalkProblem_reached fuel w4 o3 12 (by decide) _ p0 (⟨_, rfl, (h2.keep hB.keeps)⟩) p1 288 x8 hx8) Try.call101 ⟨rfl, rfl, rfl, trivial⟩ ?_
  rintro e15 w9 ⟨v10, o16, rfl, h11, k12, k13⟩
  have s14 := k12.stp' 12 k13
  replace h11 := h11.mono hB.keeps.size
  refine ⟨_, rfl, ?_⟩
  replace h6 := h6.stp s14 (by decide)
  replace hB := hB.stp s14 (by decide)
  refine st_val (ex_assign rfl) (by decide) trivial ?_
  refine wpF_end (r := [(1, (.int .i64 p1)), (5, v10)]) ⟨rfl, rfl, trivial⟩ ?_
  refine nx ?_
  refine wpC_seq ?_
  refine wpC_region ?_
  refine st_val (ex_move rfl) (by decide) trivial ?_
  refine st_val (ex_lenO rfl h11 Try.underlying26) (by decide) trivial ?_
  obtain ⟨x17, hx17, hF⟩ := bind_some hF
  refine st_val (ex_sub rfl rfl hx17) (by decide) trivial ?_
  refine st_val (ex_assign rfl) (by decide) trivial ?_
  refine wpF_end (r := [(1, (.int .i64 p1)), (5, v10), (6, (.int .i64 x17))]) ⟨rfl, rfl, rfl, trivial⟩ ?_
  refine nx ?_
  obtain ⟨q21, hq21, hF⟩ := bind_some hF
  refine wpC_cutP (fun a w20 => ∃ (y18 : Int) (o19 : Tg), q21 = .inl y18 ∧ Fr a 29 [(6, (.int .i64 y18))] ∧ Bs (fun _ => 1) o19 w w20) (fun _ _ => False) ?_ ?_ ?_
  · refine wpC_block ?_
    refine wpC_loop (fun (K : Nat) a w20 => ∃ (y18 : Int) (o19 : Tg), loopF (fI_WalkProblem_flexibilityOf_s1 p1 x8) K y18 = some q21 ∧ Fr a 29 [(1, (.int .i64 p1)), (5, v10), (6, (.int .i64 y18))] ∧ Bs (fun _ => 1) o19 w w20 ∧ Ow w.heap.size 3 12 o19 w20 v10 x8) fuel (fun a ha => ⟨x17, o16, hq21, ha.sub (r := [(1, (.int .i64 p1)), (5, v10), (6, (.int .i64 x17))]) ⟨rfl, rfl, rfl, trivial⟩, hB, h11⟩) ?_
    rintro K25 a w20 ⟨y18, o19, l22, ha, hB, h11⟩
    obtain ⟨K29, q26, e30, b27, n28⟩ := loopF_cons l22
    dsimp only [fI_WalkProblem_flexibilityOf_s1] at b27
    refine wp_of ha ?_
    refine wpC_seq ?_
    refine wpC_seq ?_
    refine wpC_region ?_
    refine st_val (ex_move rfl) (by decide) trivial ?_
    refine st_val (ex_gtr rfl rfl) (by decide) trivial ?_
    refine st_val (ex_move rfl) (by decide) trivial ?_
    obtain ⟨q31, hq31, b27⟩ := bind_some b27
    refine wpF_cutAt 9 (fun a33 w32 => Fr a33 29 [(1, (.int .i64 p1)), (5, v10), (6, (.int .i64 y18)), (24, (.bool q31))] ∧ Keeps w20 w32) ?_ ?_
    all_goals simp only [List.take_succ_cons, List.take_zero, List.drop_succ_cons, List.drop_zero]
    · have kp : Keeps w20 w20 := Keeps.refl _
      rcases Bool.eq_false_or_eq_true (decide (y18 > 0)) with t34 | t34
      · rw [if_pos t34] at hq31
        refine st_val (ex_move rfl) (by decide) ⟨_, rfl, (congrArg (fun b => some (Value.bool b)) t34)⟩ ?_
        refine st_val (ex_move rfl) (by decide) ⟨_, rfl, (congrArg (fun b => some (Value.bool b)) t34)⟩ ?_
        obtain ⟨x35, hx35, hq31⟩ := bind_some hq31
        refine st_op (by decide) ⟨_, rfl, (congrArg (fun b => some (Value.bool b)) t34)⟩ ?_
        refine wf_atW h11 hx35 rfl rfl Try.underlying26 Try.sizeOf3 ?_
        intro b36 f37 c38 h39 h40
        cases h40
        refine st_val (ex_load1 rfl Try.isAgg3 (cell_of_cells h39)) (by decide) ⟨_, rfl, (congrArg (fun b => some (Value.bool b)) t34)⟩ ?_
        refine st_val (ex_move rfl) (by decide) ⟨_, rfl, (congrArg (fun b => some (Value.bool b)) t34)⟩ ?_
        obtain ⟨x41, hx41, hq31⟩ := bind_some hq31
        refine st_val (ex_shr rfl rfl hx41) (by decide) ⟨_, rfl, (congrArg (fun b => some (Value.bool b)) t34)⟩ ?_
        refine st_val (ex_and rfl rfl) (by decide) ⟨_, rfl, (congrArg (fun b => some (Value.bool b)) t34)⟩ ?_
        refine st_val (ex_eql rfl rfl) (by decide) ⟨_, rfl, (congrArg (fun b => some (Value.bool b)) t34)⟩ ?_
        refine st_val (ex_pick_t (congrArg (fun b => some (Value.bool b)) t34) rfl) (by decide) trivial ?_
        have hq312 := Option.some.inj hq31
        refine wpF_end (r := [(1, (.int .i64 p1)), (5, v10), (6, (.int .i64 y18)), (24, (.bool ((band x41 1) == 1)))]) ⟨rfl, rfl, rfl, rfl, trivial⟩ ?_
        subst hq312
        refine np_norm (fun a ha => ⟨ha, kp⟩)
      · rw [if_neg (by rw [t34]; decide)] at hq31
        refine st_no rfl rfl (by rw [t34]; rfl) (by decide) ?_
        refine st_no rfl rfl (by rw [t34]; rfl) (by decide) ?_
        refine st_no rfl rfl (by rw [t34]; rfl) (by decide) ?_
        refine st_no rfl rfl (by rw [t34]; rfl) (by decide) ?_
        refine st_no rfl rfl (by rw [t34]; rfl) (by decide) ?_
        refine st_no rfl rfl (by rw [t34]; rfl) (by decide) ?_
        refine st_no rfl rfl (by rw [t34]; rfl) (by decide) ?_
        refine st_no rfl rfl (by rw [t34]; rfl) (by decide) ?_
        refine st_val (ex_pick_f (congrArg (fun b => some (Value.bool b)) t34) rfl) (by decide) trivial ?_
        have hq312 := Option.some.inj hq31
        refine wpF_end (r := [(1, (.int .i64 p1)), (5, v10), (6, (.int .i64 y18)), (24, (.bool false))]) ⟨rfl, rfl, rfl, rfl, trivial⟩ ?_
        subst hq312
        refine np_norm (fun a ha => ⟨ha, kp⟩)
    rintro a44 w32 ⟨ha, k42⟩
    have s43 := k42.stp 999 o19
    replace h11 := h11.stp s43 (by decide) (by decide)
    replace hB := hB.stp s43 (by decide)
    refine wl_of ha ?_
    refine wpF_end (r := [(1, (.int .i64 p1)), (5, v10), (6, (.int .i64 y18)), (24, (.bool q31))]) ⟨rfl, rfl, rfl, rfl, trivial⟩ ?_
    refine nx ?_
    refine wpC_cond rfl (fun t45 => ?_) (fun t45 => ?_)
    · rw [if_pos t45] at b27
      refine wpC_skip ?_
      refine nx ?_
      refine wpC_block ?_
      refine wpC_region ?_
      refine st_val (ex_move rfl) (by decide) trivial ?_
      obtain ⟨x46, hx46, b27⟩ := bind_some b27
      refine st_val (ex_sub rfl rfl hx46) (by decide) trivial ?_
      refine st_val (ex_assign rfl) (by decide) trivial ?_
      refine wpF_end (r := [(1, (.int .i64 p1)), (5, v10), (6, (.int .i64 x46))]) ⟨rfl, rfl, rfl, trivial⟩ ?_
      refine nb_norm ?_
      refine nt_norm ?_
      have e47 := Option.some.inj b27
      subst e47
      refine to_k (r := [(1, (.int .i64 p1)), (5, v10), (6, (.int .i64 x46))]) ⟨rfl, rfl, rfl, trivial⟩ ?_
      intro a ha
      exact ⟨K29, by omega, x46, o19, n28, ha, hB, h11⟩
    · rw [if_neg (by rw [t45]; decide)] at b27
      refine wpC_exit ?_
      refine nt_exit ?_
      refine nt_exit ?_
      refine nb_hit ?_
      refine np_norm ?_
      have e48 := Option.some.inj b27
      subst e48
      refine to_k (r := [(6, (.int .i64 y18))]) ⟨rfl, trivial⟩ ?_
      intro a ha
      exact ⟨y18, o19, n28, ha, hB⟩
  · rintro a w20 ⟨y18, o19, rfl, ha, hB⟩
    dsimp only at hF
    refine wp_of ha ?_
    refine wpC_seq ?_
    refine wpC_region ?_
    refine st_val (ex_move rfl) (by decide) trivial ?_
    obtain ⟨x49, hx49, hF⟩ := bind_some hF
    refine st_val (ex_add rfl rfl hx49) (by decide) trivial ?_
    refine st_val (ex_assign rfl) (by decide) trivial ?_
    refine wpF_end (r := [(4, (.int .i64 x49))]) ⟨rfl, trivial⟩ ?_
    refine nx ?_
    refine wpC_ret ?_
    have e50 := Option.some.inj hF
    subst e50
    refine ret_post (P := Try.prog) (vs := [(.int .i64 x49)]) Try.results66 ⟨rfl, trivial⟩ ?_
    exact ⟨rfl, hB.keeps⟩
  · exact fun _ _ h => h.elim

def fI_FlexibilityOf (fuel : Nat) (p0 : T_WalkProblem) (p1 : Int) : Option (Int × Bool) :=
  (fI_IsWalkProblem p0) >>= fun x8 =>
  (
    if !x8 then
      some true
    else
      (fI_WalkProblem_flexibleLabels fuel p0) >>= fun x18 =>
      (fX_slices_Contains_int_int x18 p1) >>= fun x27 =>
      some (!x27)) >>= fun q14 =>
  if q14 then
    some (0, false)
  else
    (fI_WalkProblem_flexibilityOf fuel p0 p1) >>= fun x38 =>
    some (x38, true)

def pI_FlexibilityOf (w : World) (r : Int × Bool) : Ending → World → Prop := fun e w' => e = .returned (.tuple #[.int .i64 r.1, .bool r.2]) ∧ Keeps w w'
set_option maxRecDepth 100000 in
set_option maxHeartbeats 2000000 in
theorem cI_FlexibilityOf (fuel : Nat) (w : World) (u0 : List Value) (p0 : T_WalkProblem) (g0 : Rp.rd zt w u0 p0) (p1 : Int) (r : Int × Bool) (hF : fI_FlexibilityOf fuel p0 p1 = some r) :
    Calls Try.prog 31 #[.agg u0.toArray, .int .i64 p1] w (pI_FlexibilityOf w r) := by
  unfold fI_FlexibilityOf at hF
  obtain ⟨v1, rfl, h2⟩ := g0
  have hB : Bs (fun _ => 1) (col (fun _ => 1)) w w := Bs.start _ _
  refine calls_start (n := 19) (vs := [(.agg #[(.int .i64 p0.Labels), v1]), (.int .i64 p1)]) Try.func31 rfl rfl ?_
  refine wpC_seq ?_
  refine wpC_region ?_
  refine st_op (by decide) trivial ?_
  refine wf_box (o := (col (fun _ => 1))) w.heap.size 11 hB.keeps.size (cs := [(.int .i64 p0.Labels), v1]) rfl rfl ?_
  intro o3 w4 b5 h6 s7
  replace hB := hB.stp s7 (by decide)
  refine st_val (ex_assign rfl) (by decide) trivial ?_
  refine st_val (ex_assign rfl) (by decide) trivial ?_
  refine wpF_end (r := [(1, (.int .i64 p1)), (2, (.pointer (some ⟨b5, 0, none⟩)))]) ⟨rfl, rfl, trivial⟩ ?_
  refine nx ?_
  refine wpC_seq ?_
  refine wpC_seq ?_
  refine wpC_region ?_
  refine st_val (ex_loadA rfl Try.isAgg29 Try.sizeOf29 rfl h6.cells) (by decide) trivial ?_
  obtain ⟨x8, hx8, hF⟩ := bind_some hF
  refine st_op (by decide) trivial ?_
  refine wf_call (cI_IsWalkProblem w4 _ p0 (⟨_, rfl, (h2.keep hB.keeps)⟩) x8 hx8) Try.call40 ⟨rfl, trivial⟩ ?_
  rintro e13 w9 ⟨rfl, k10⟩
  have s12 := k10.stp 999 o3
  refine ⟨_, rfl, ?_⟩
  replace h6 := h6.stp s12 (by decide)
  replace hB := hB.stp s12 (by decide)
  refine st_val (ex_not rfl) (by decide) trivial ?_
  refine st_val (ex_move rfl) (by decide) trivial ?_
  obtain ⟨q14, hq14, hF⟩ := bind_some hF
  refine wpF_cutAt 6 (fun a16 w15 => Fr a16 19 [(1, (.int .i64 p1)), (2, (.pointer (some ⟨b5, 0, none⟩))), (15, (.bool q14))] ∧ Keeps w9 w15) ?_ ?_
  all_goals simp only [List.take_succ_cons, List.take_zero, List.drop_succ_cons, List.drop_zero]
  · have kp : Keeps w9 w9 := Keeps.refl _
    rcases Bool.eq_false_or_eq_true (!x8) with t17 | t17
    · rw [if_pos t17] at hq14
      refine st_no rfl rfl (by rw [t17]; rfl) (by decide) ?_
      refine st_no rfl rfl (by rw [t17]; rfl) (by decide) ?_
      refine st_no rfl rfl (by rw [t17]; rfl) (by decide) ?_
      refine st_no rfl rfl (by rw [t17]; rfl) (by decide) ?_
      refine st_no rfl rfl (by rw [t17]; rfl) (by decide) ?_
      refine st_val (ex_pick_t (congrArg (fun b => some (Value.bool b)) t17) rfl) (by decide) trivial ?_
      have hq142 := Option.some.inj hq14
      refine wpF_end (r := [(1, (.int .i64 p1)), (2, (.pointer (some ⟨b5, 0, none⟩))), (15, (.bool true))]) ⟨rfl, rfl, rfl, trivial⟩ ?_
      subst hq142
      refine np_norm (fun a ha => ⟨ha, kp⟩)
    · rw [if_neg (by rw [t17]; decide)] at hq14
      refine st_val (ex_loadA rfl Try.isAgg29 Try.sizeOf29 rfl h6.cells) (by decide) ⟨_, rfl, (congrArg (fun b => some (Value.bool b)) t17)⟩ ?_
      obtain ⟨x18, hx18, hq14⟩ := bind_some hq14
      refine st_op (by decide) ⟨_, rfl, (congrArg (fun b => some (Value.bool b)) t17)⟩ ?_
      refine wf_call (cI_WalkProblem_flexibleLabels fuel w9 o3 13 (by decide) _ p0 (⟨_, rfl, (h2.keep hB.keeps)⟩) x18 hx18) Try.call65 ⟨rfl, trivial⟩ ?_
      rintro e25 w19 ⟨v20, o26, rfl, h21, k22, k23⟩
      have s24 := k22.stp' 13 k23
      replace h21 := h21.mono hB.keeps.size
      refine ⟨_, rfl, ?_⟩
      replace h6 := h6.stp s24 (by decide)
      replace hB := hB.stp s24 (by decide)
      replace kp := Keeps.trans kp k22
      refine st_val (ex_move rfl) (by decide) ⟨_, rfl, (congrArg (fun b => some (Value.bool b)) t17)⟩ ?_
      obtain ⟨x27, hx27, hq14⟩ := bind_some hq14
      refine st_op (by decide) ⟨_, rfl, (congrArg (fun b => some (Value.bool b)) t17)⟩ ?_
      refine wf_call (cX_slices_Contains_int_int w19 _ x18 h21.z p1 x27 hx27) Try.call64 ⟨rfl, rfl, trivial⟩ ?_
      rintro e32 w28 ⟨rfl, k29⟩
      have s31 := k29.stp 999 o26
      refine ⟨_, rfl, ?_⟩
      replace h21 := h21.stp s31 (by decide) (by decide)
      replace h6 := h6.stp s31 (by decide)
      replace hB := hB.stp s31 (by decide)
      replace kp := Keeps.trans kp k29
      refine st_val (ex_not rfl) (by decide) ⟨_, rfl, (congrArg (fun b => some (Value.bool b)) t17)⟩ ?_
      refine st_val (ex_pick_f (congrArg (fun b => some (Value.bool b)) t17) rfl) (by decide) trivial ?_
      have hq142 := Option.some.inj hq14
      refine wpF_end (r := [(1, (.int .i64 p1)), (2, (.pointer (some ⟨b5, 0, none⟩))), (15, (.bool (!x27)))]) ⟨rfl, rfl, rfl, trivial⟩ ?_
      subst hq142
      refine np_norm (fun a ha => ⟨ha, kp⟩)
  rintro a35 w15 ⟨ha, k33⟩
  have s34 := k33.stp 999 o3
  replace h6 := h6.stp s34 (by decide)
  replace hB := hB.stp s34 (by decide)
  refine wl_of ha ?_
  refine wpF_end (r := [(1, (.int .i64 p1)), (2, (.pointer (some ⟨b5, 0, none⟩))), (15, (.bool q14))]) ⟨rfl, rfl, rfl, trivial⟩ ?_
  refine nx ?_
  refine wpC_cond rfl (fun t36 => ?_) (fun t36 => ?_)
  · rw [if_pos t36] at hF
    refine wpC_seq ?_
    refine wpC_region ?_
    refine st_val (ex_assign rfl) (by decide) trivial ?_
    refine st_val (ex_assign rfl) (by decide) trivial ?_
    refine wpF_end (r := [(4, (.int .i64 0)), (5, (.bool false))]) ⟨rfl, rfl, trivial⟩ ?_
    refine nx ?_
    refine wpC_ret ?_
    refine nt_ret ?_
    have e37 := Option.some.inj hF
    subst e37
    refine ret_post (P := Try.prog) (vs := [(.int .i64 0), (.bool false)]) Try.results31 ⟨rfl, rfl, trivial⟩ ?_
    exact ⟨rfl, hB.keeps⟩
  · rw [if_neg (by rw [t36]; decide)] at hF
    refine wpC_skip ?_
    refine nx ?_
    refine wpC_seq ?_
    refine wpC_region ?_
    refine st_val (ex_loadA rfl Try.isAgg29 Try.sizeOf29 rfl h6.cells) (by decide) trivial ?_
    refine st_val (ex_move rfl) (by decide) trivial ?_
    obtain ⟨x38, hx38, hF⟩ := bind_some hF
    refine st_op (by decide) trivial ?_
    refine wf_call (cI_WalkProblem_flexibilityOf fuel w15 _ p0 (⟨_, rfl, (h2.keep hB.keeps)⟩) p1 x38 hx38) Try.call66 ⟨rfl, rfl, trivial⟩ ?_
    rintro e43 w39 ⟨rfl, k40⟩
    have s42 := k40.stp 999 o3
    refine ⟨_, rfl, ?_⟩
    replace h6 := h6.stp s42 (by decide)
    replace hB := hB.stp s42 (by decide)
    refine st_val (ex_assign rfl) (by decide) trivial ?_
    refine st_val (ex_assign rfl) (by decide) trivial ?_
    refine wpF_end (r := [(4, (.int .i64 x38)), (5, (.bool true))]) ⟨rfl, rfl, trivial⟩ ?_
    refine nx ?_
    refine wpC_ret ?_
    have e44 := Option.some.inj hF
    subst e44
    refine ret_post (P := Try.prog) (vs := [(.int .i64 x38), (.bool true)]) Try.results31 ⟨rfl, rfl, trivial⟩ ?_
    exact ⟨rfl, hB.keeps⟩

def fI_WalkProblem_classOf (fuel : Nat) (p0 : T_WalkProblem) : Option Int :=
  (fI_WalkProblem_walkComponents fuel p0) >>= fun x8 =>
  (fI_WalkProblem_loopOf p0) >>= fun x20 =>
  if decide (x20 ≥ 0) then
    some 3
  else
    (fI_WalkProblem_flexibleLabels fuel p0) >>= fun x28 =>
    if decide ((x28.length : Int) > 0) then
      some 2
    else
      if decide ((x8.1.length : Int) > 0) then
        some 1
      else
        some 0

def pI_WalkProblem_classOf (w : World) (r : Int) : Ending → World → Prop := fun e w' => e = .returned (.int .i64 r) ∧ Keeps w w'
set_option maxRecDepth 100000 in
set_option maxHeartbeats 2000000 in
theorem cI_WalkProblem_classOf (fuel : Nat) (w : World) (u0 : List Value) (p0 : T_WalkProblem) (g0 : Rp.rd zt w u0 p0) (r : Int) (hF : fI_WalkProblem_classOf fuel p0 = some r) :
    Calls Try.prog 68 #[.agg u0.toArray] w (pI_WalkProblem_classOf w r) := by
  unfold fI_WalkProblem_classOf at hF
  obtain ⟨v1, rfl, h2⟩ := g0
  have hB : Bs (fun _ => 1) (col (fun _ => 1)) w w := Bs.start _ _
  refine calls_start (n := 23) (vs := [(.agg #[(.int .i64 p0.Labels), v1])]) Try.func68 rfl rfl ?_
  refine wpC_seq ?_
  refine wpC_region ?_
  refine st_op (by decide) trivial ?_
  refine wf_box (o := (col (fun _ => 1))) w.heap.size 11 hB.keeps.size (cs := [(.int .i64 p0.Labels), v1]) rfl rfl ?_
  intro o3 w4 b5 h6 s7
  replace hB := hB.stp s7 (by decide)
  refine st_val (ex_assign rfl) (by decide) trivial ?_
  refine wpF_end (r := [(1, (.pointer (some ⟨b5, 0, none⟩)))]) ⟨rfl, trivial⟩ ?_
  refine nx ?_
  refine wpC_seq ?_
  refine wpC_region ?_
  refine st_val (ex_loadA rfl Try.isAgg29 Try.sizeOf29 rfl h6.cells) (by decide) trivial ?_
  obtain ⟨x8, hx8, hF⟩ := bind_some hF
  refine st_op (by decide) trivial ?_
  refine wf_call (cI_WalkProblem_walkComponents fuel w4 o3 12 (by decide) _ p0 (⟨_, rfl, (h2.keep hB.keeps)⟩) x8 hx8) Try.call41 ⟨rfl, trivial⟩ ?_
  rintro e18 w9 ⟨v10, v13, o19, rfl, h11, h14, k15, k16⟩
  have s17 := k15.stp' 12 k16
  replace h14 := h14.mono hB.keeps.size
  have h12 := h11.rd
  refine ⟨_, rfl, ?_⟩
  replace h6 := h6.stp s17 (by decide)
  replace hB := hB.stp s17 (by decide)
  refine st_val (ex_move rfl) (by decide) trivial ?_
  refine st_val (ex_extract rfl rfl) (by decide) trivial ?_
  refine st_val (ex_extract rfl rfl) (by decide) trivial ?_
  refine st_val (ex_assign rfl) (by decide) trivial ?_
  refine st_val (ex_assign rfl) (by decide) trivial ?_
  refine wpF_end (r := [(1, (.pointer (some ⟨b5, 0, none⟩))), (3, v10)]) ⟨rfl, rfl, trivial⟩ ?_
  refine nx ?_
  refine wpC_seq ?_
  refine wpC_block ?_
  refine wpC_seq ?_
  refine wpC_region ?_
  refine st_val (ex_loadA rfl Try.isAgg29 Try.sizeOf29 rfl h6.cells) (by decide) trivial ?_
  obtain ⟨x20, hx20, hF⟩ := bind_some hF
  refine st_op (by decide) trivial ?_
  refine wf_call (cI_WalkProblem_loopOf w9 _ p0 (⟨_, rfl, (h2.keep hB.keeps)⟩) x20 hx20) Try.call103 ⟨rfl, trivial⟩ ?_
  rintro e25 w21 ⟨rfl, k22⟩
  have s24 := k22.stp 999 o19
  refine ⟨_, rfl, ?_⟩
  replace h12 := h12.stp s24 (by decide)
  replace h11 := h11.stp s24 (by decide)
  replace h6 := h6.stp s24 (by decide)
  replace hB := hB.stp s24 (by decide)
  refine st_val (ex_geq rfl rfl) (by decide) trivial ?_
  refine st_val (ex_assign rfl) (by decide) trivial ?_
  refine wpF_end (r := [(1, (.pointer (some ⟨b5, 0, none⟩))), (3, v10), (10, (.bool (decide (x20 ≥ 0))))]) ⟨rfl, rfl, rfl, trivial⟩ ?_
  refine nx ?_
  refine wpC_cond rfl (fun t26 => ?_) (fun t26 => ?_)
  · rw [if_pos t26] at hF
    refine wpC_seq ?_
    refine wpC_region ?_
    refine st_val (ex_assign rfl) (by decide) trivial ?_
    refine wpF_end (r := [(2, (.int .i64 3))]) ⟨rfl, trivial⟩ ?_
    refine nx ?_
    refine wpC_ret ?_
    refine nb_ret ?_
    refine nt_ret ?_
    have e27 := Option.some.inj hF
    subst e27
    refine ret_post (P := Try.prog) (vs := [(.int .i64 3)]) Try.results68 ⟨rfl, trivial⟩ ?_
    exact ⟨rfl, hB.keeps⟩
  · rw [if_neg (by rw [t26]; decide)] at hF
    refine wpC_seq ?_
    refine wpC_region ?_
    refine st_val (ex_loadA rfl Try.isAgg29 Try.sizeOf29 rfl h6.cells) (by decide) trivial ?_
    obtain ⟨x28, hx28, hF⟩ := bind_some hF
    refine st_op (by decide) trivial ?_
    refine wf_call (cI_WalkProblem_flexibleLabels fuel w21 o19 14 (by decide) _ p0 (⟨_, rfl, (h2.keep hB.keeps)⟩) x28 hx28) Try.call65 ⟨rfl, trivial⟩ ?_
    rintro e35 w29 ⟨v30, o36, rfl, h31, k32, k33⟩
    have s34 := k32.stp' 14 k33
    replace h31 := h31.mono hB.keeps.size
    refine ⟨_, rfl, ?_⟩
    replace h12 := h12.stp s34 (by decide)
    replace h11 := h11.stp s34 (by decide)
    replace h6 := h6.stp s34 (by decide)
    replace hB := hB.stp s34 (by decide)
    refine st_val (ex_lenO rfl h31 Try.underlying26) (by decide) trivial ?_
    refine st_val (ex_gtr rfl rfl) (by decide) trivial ?_
    refine st_val (ex_assign rfl) (by decide) trivial ?_
    refine wpF_end (r := [(3, v10), (14, (.bool (decide ((x28.length : Int) > 0))))]) ⟨rfl, rfl, trivial⟩ ?_
    refine nx ?_
    refine wpC_cond rfl (fun t37 => ?_) (fun t37 => ?_)
    · rw [if_pos t37] at hF
      refine wpC_seq ?_
      refine wpC_region ?_
      refine st_val (ex_assign rfl) (by decide) trivial ?_
      refine wpF_end (r := [(2, (.int .i64 2))]) ⟨rfl, trivial⟩ ?_
      refine nx ?_
      refine wpC_ret ?_
      refine nb_ret ?_
      refine nt_ret ?_
      have e38 := Option.some.inj hF
      subst e38
      refine ret_post (P := Try.prog) (vs := [(.int .i64 2)]) Try.results68 ⟨rfl, trivial⟩ ?_
      exact ⟨rfl, hB.keeps⟩
    · rw [if_neg (by rw [t37]; decide)] at hF
      refine wpC_seq ?_
      refine wpC_region ?_
      refine st_val (ex_move rfl) (by decide) trivial ?_
      refine st_val (ex_lenR rfl h12 Try.underlying22) (by decide) trivial ?_
      refine st_val (ex_gtr rfl rfl) (by decide) trivial ?_
      refine st_val (ex_assign rfl) (by decide) trivial ?_
      refine wpF_end (r := [(19, (.bool (decide ((x8.1.length : Int) > 0))))]) ⟨rfl, trivial⟩ ?_
      refine nx ?_
      refine wpC_cond rfl (fun t39 => ?_) (fun t39 => ?_)
      · rw [if_pos t39] at hF
        refine wpC_seq ?_
        refine wpC_region ?_
        refine st_val (ex_assign rfl) (by decide) trivial ?_
        refine wpF_end (r := [(2, (.int .i64 1))]) ⟨rfl, trivial⟩ ?_
        refine nx ?_
        refine wpC_ret ?_
        refine nb_ret ?_
        refine nt_ret ?_
        have e40 := Option.some.inj hF
        subst e40
        refine ret_post (P := Try.prog) (vs := [(.int .i64 1)]) Try.results68 ⟨rfl, trivial⟩ ?_
        exact ⟨rfl, hB.keeps⟩
      · rw [if_neg (by rw [t39]; decide)] at hF
        refine wpC_skip ?_
        refine nb_norm ?_
        refine nx ?_
        refine wpC_seq ?_
        refine wpC_region ?_
        refine st_val (ex_assign rfl) (by decide) trivial ?_
        refine wpF_end (r := [(2, (.int .i64 0))]) ⟨rfl, trivial⟩ ?_
        refine nx ?_
        refine wpC_ret ?_
        have e41 := Option.some.inj hF
        subst e41
        refine ret_post (P := Try.prog) (vs := [(.int .i64 0)]) Try.results68 ⟨rfl, trivial⟩ ?_
        exact ⟨rfl, hB.keeps⟩

def fI_ClassOfWalk (fuel : Nat) (p0 : T_WalkProblem) : Option (Int × Bool) :=
  (fI_IsWalkProblem p0) >>= fun x8 =>
  if !x8 then
    some (0, false)
  else
    (fI_WalkProblem_classOf fuel p0) >>= fun x16 =>
    some (x16, true)

def pI_ClassOfWalk (w : World) (r : Int × Bool) : Ending → World → Prop := fun e w' => e = .returned (.tuple #[.int .i64 r.1, .bool r.2]) ∧ Keeps w w'
set_option maxRecDepth 100000 in
set_option maxHeartbeats 2000000 in
theorem cI_ClassOfWalk (fuel : Nat) (w : World) (u0 : List Value) (p0 : T_WalkProblem) (g0 : Rp.rd zt w u0 p0) (r : Int × Bool) (hF : fI_ClassOfWalk fuel p0 = some r) :
    Calls Try.prog 35 #[.agg u0.toArray] w (pI_ClassOfWalk w r) := by
  unfold fI_ClassOfWalk at hF
  obtain ⟨v1, rfl, h2⟩ := g0
  have hB : Bs (fun _ => 1) (col (fun _ => 1)) w w := Bs.start _ _
  refine calls_start (n := 9) (vs := [(.agg #[(.int .i64 p0.Labels), v1])]) Try.func35 rfl rfl ?_
  refine wpC_seq ?_
  refine wpC_region ?_
  refine st_op (by decide) trivial ?_
  refine wf_box (o := (col (fun _ => 1))) w.heap.size 11 hB.keeps.size (cs := [(.int .i64 p0.Labels), v1]) rfl rfl ?_
  intro o3 w4 b5 h6 s7
  replace hB := hB.stp s7 (by decide)
  refine st_val (ex_assign rfl) (by decide) trivial ?_
  refine st_val (ex_assign rfl) (by decide) trivial ?_
  refine wpF_end (r := [(1, (.pointer (some ⟨b5, 0, none⟩)))]) ⟨rfl, trivial⟩ ?_
  refine nx ?_
  refine wpC_seq ?_
  refine wpC_seq ?_
  refine wpC_region ?_
  refine st_val (ex_loadA rfl Try.isAgg29 Try.sizeOf29 rfl h6.cells) (by decide) trivial ?_
  obtain ⟨x8, hx8, hF⟩ := bind_some hF
  refine st_op (by decide) trivial ?_
  refine wf_call (cI_IsWalkProblem w4 _ p0 (⟨_, rfl, (h2.keep hB.keeps)⟩) x8 hx8) Try.call40 ⟨rfl, trivial⟩ ?_
  rintro e13 w9 ⟨rfl, k10⟩
  have s12 := k10.stp 999 o3
  refine ⟨_, rfl, ?_⟩
  replace h6 := h6.stp s12 (by decide)
  replace hB := hB.stp s12 (by decide)
  refine st_val (ex_not rfl) (by decide) trivial ?_
  refine wpF_end (r := [(1, (.pointer (some ⟨b5, 0, none⟩))), (6, (.bool (!x8)))]) ⟨rfl, rfl, trivial⟩ ?_
  refine nx ?_
  refine wpC_cond rfl (fun t14 => ?_) (fun t14 => ?_)
  · rw [if_pos t14] at hF
    refine wpC_seq ?_
    refine wpC_region ?_
    refine st_val (ex_assign rfl) (by decide) trivial ?_
    refine st_val (ex_assign rfl) (by decide) trivial ?_
    refine wpF_end (r := [(2, (.int .i64 0)), (3, (.bool false))]) ⟨rfl, rfl, trivial⟩ ?_
    refine nx ?_
    refine wpC_ret ?_
    refine nt_ret ?_
    have e15 := Option.some.inj hF
    subst e15
    refine ret_post (P := Try.prog) (vs := [(.int .i64 0), (.bool false)]) Try.results35 ⟨rfl, rfl, trivial⟩ ?_
    exact ⟨rfl, hB.keeps⟩
  · rw [if_neg (by rw [t14]; decide)] at hF
    refine wpC_skip ?_
    refine nx ?_
    refine wpC_seq ?_
    refine wpC_region ?_
    refine st_val (ex_loadA rfl Try.isAgg29 Try.sizeOf29 rfl h6.cells) (by decide) trivial ?_
    obtain ⟨x16, hx16, hF⟩ := bind_some hF
    refine st_op (by decide) trivial ?_
    refine wf_call (cI_WalkProblem_classOf fuel w9 _ p0 (⟨_, rfl, (h2.keep hB.keeps)⟩) x16 hx16) Try.call68 ⟨rfl, trivial⟩ ?_
    rintro e21 w17 ⟨rfl, k18⟩
    have s20 := k18.stp 999 o3
    refine ⟨_, rfl, ?_⟩
    replace h6 := h6.stp s20 (by decide)
    replace hB := hB.stp s20 (by decide)
    refine st_val (ex_assign rfl) (by decide) trivial ?_
    refine st_val (ex_assign rfl) (by decide) trivial ?_
    refine wpF_end (r := [(2, (.int .i64 x16)), (3, (.bool true))]) ⟨rfl, rfl, trivial⟩ ?_
    refine nx ?_
    refine wpC_ret ?_
    have e22 := Option.some.inj hF
    subst e22
    refine ret_post (P := Try.prog) (vs := [(.int .i64 x16), (.bool true)]) Try.results35 ⟨rfl, rfl, trivial⟩ ?_
    exact ⟨rfl, hB.keeps⟩

def fI_WalkComponents (fuel : Nat) (p0 : T_WalkProblem) : Option ((List (List Int)) × (List Int) × Bool) :=
  (fI_IsWalkProblem p0) >>= fun x8 =>
  if !x8 then
    some ([], [], false)
  else
    (fI_WalkProblem_walkComponents fuel p0) >>= fun x16 =>
    some (x16.1, x16.2, true)

def pI_WalkComponents (oo : Tg) (t : Nat) (w : World) (r : (List (List Int)) × (List Int) × Bool) : Ending → World → Prop := fun e w' => ∃ (v0 : Value) (v1 : Value) (o' : Tg), e = .returned (.tuple #[v0, v1, .bool r.2.2]) ∧ Dz 26 3 o' w' v0 r.1 ∧ Ow w.heap.size 3 t o' w' v1 r.2.1 ∧ Keeps w w' ∧ ∀ b, b < w.heap.size → o' b = oo b
set_option maxRecDepth 100000 in
set_option maxHeartbeats 2000000 in
theorem cI_WalkComponents (fuel : Nat) (w : World) (oo : Tg) (t : Nat) (ht : 2 ≤ t) (u0 : List Value) (p0 : T_WalkProblem) (g0 : Rp.rd zt w u0 p0) (r : (List (List Int)) × (List Int) × Bool) (hF : fI_WalkComponents fuel p0 = some r) :
    Calls Try.prog 12 #[.agg u0.toArray] w (pI_WalkComponents oo t w r) := by
  unfold fI_WalkComponents at hF
  obtain ⟨v1, rfl, h2⟩ := g0
  have hB : Bs oo (col oo) w w := Bs.start _ _
  refine calls_start (n := 17) (vs := [(.agg #[(.int .i64 p0.Labels), v1])]) Try.func12 rfl rfl ?_
  generalize col oo = o at *
  refine wpC_seq ?_
  refine wpC_region ?_
  refine st_op (by decide) trivial ?_
  refine wf_box (o := o) w.heap.size 11 hB.keeps.size (cs := [(.int .i64 p0.Labels), v1]) rfl rfl ?_
  intro o3 w4 b5 h6 s7
  replace hB := hB.stp s7 (by decide)
  refine st_val (ex_assign rfl) (by decide) trivial ?_
  refine st_val (ex_assign rfl) (by decide) trivial ?_
  refine st_val (ex_assign rfl) (by decide) trivial ?_
  refine wpF_end (r := [(1, (.pointer (some ⟨b5, 0, none⟩)))]) ⟨rfl, trivial⟩ ?_
  refine nx ?_
  refine wpC_seq ?_
  refine wpC_seq ?_
  refine wpC_region ?_
  refine st_val (ex_loadA rfl Try.isAgg29 Try.sizeOf29 rfl h6.cells) (by decide) trivial ?_
  obtain ⟨x8, hx8, hF⟩ := bind_some hF
  refine st_op (by decide) trivial ?_
  refine wf_call (cI_IsWalkProblem w4 _ p0 (⟨_, rfl, (h2.keep hB.keeps)⟩) x8 hx8) Try.call40 ⟨rfl, trivial⟩ ?_
  rintro e13 w9 ⟨rfl, k10⟩
  have s12 := k10.stp 999 o3
  refine ⟨_, rfl, ?_⟩
  replace h6 := h6.stp s12 (by decide)
  replace hB := hB.stp s12 (by decide)
  refine st_val (ex_not rfl) (by decide) trivial ?_
  refine wpF_end (r := [(1, (.pointer (some ⟨b5, 0, none⟩))), (9, (.bool (!x8)))]) ⟨rfl, rfl, trivial⟩ ?_
  refine nx ?_
  refine wpC_cond rfl (fun t14 => ?_) (fun t14 => ?_)
  · rw [if_pos t14] at hF
    refine wpC_seq ?_
    refine wpC_region ?_
    refine st_val (ex_assign rfl) (by decide) trivial ?_
    refine st_val (ex_assign rfl) (by decide) trivial ?_
    refine st_val (ex_assign rfl) (by decide) trivial ?_
    refine wpF_end (r := [(2, (.slice none 0 0)), (3, (.slice none 0 0)), (4, (.bool false))]) ⟨rfl, rfl, rfl, trivial⟩ ?_
    refine nx ?_
    refine wpC_ret ?_
    refine nt_ret ?_
    have e15 := Option.some.inj hF
    subst e15
    refine ret_post (P := Try.prog) (vs := [(.slice none 0 0), (.slice none 0 0), (.bool false)]) Try.results12 ⟨rfl, rfl, rfl, trivial⟩ ?_
    exact ⟨_, _, rt oo o3 w.heap.size 9 t, rfl, (Dz.nil _ _ _ _), (Ow.nil _ _ _ _ _), hB.keeps, rt_old _ _ _ _ _⟩
  · rw [if_neg (by rw [t14]; decide)] at hF
    refine wpC_skip ?_
    refine nx ?_
    refine wpC_seq ?_
    refine wpC_region ?_
    refine st_val (ex_loadA rfl Try.isAgg29 Try.sizeOf29 rfl h6.cells) (by decide) trivial ?_
    obtain ⟨x16, hx16, hF⟩ := bind_some hF
    refine st_op (by decide) trivial ?_
    refine wf_call (cI_WalkProblem_walkComponents fuel w9 o3 13 (by decide) _ p0 (⟨_, rfl, (h2.keep hB.keeps)⟩) x16 hx16) Try.call41 ⟨rfl, trivial⟩ ?_
    rintro e26 w17 ⟨v18, v21, o27, rfl, h19, h22, k23, k24⟩
    have s25 := k23.stp' 13 k24
    replace h22 := h22.mono hB.keeps.size
    have h20 := h19.rd
    refine ⟨_, rfl, ?_⟩
    replace h6 := h6.stp s25 (by decide)
    replace hB := hB.stp s25 (by decide)
    refine st_val (ex_move rfl) (by decide) trivial ?_
    refine st_val (ex_extract rfl rfl) (by decide) trivial ?_
    refine st_val (ex_extract rfl rfl) (by decide) trivial ?_
    refine st_val (ex_assign rfl) (by decide) trivial ?_
    refine st_val (ex_assign rfl) (by decide) trivial ?_
    refine wpF_end (r := [(5, v18), (6, v21)]) ⟨rfl, rfl, trivial⟩ ?_
    refine nx ?_
    refine wpC_seq ?_
    refine wpC_region ?_
    refine st_val (ex_move rfl) (by decide) trivial ?_
    refine st_val (ex_move rfl) (by decide) trivial ?_
    refine st_val (ex_assign rfl) (by decide) trivial ?_
    refine st_val (ex_assign rfl) (by decide) trivial ?_
    refine st_val (ex_assign rfl) (by decide) trivial ?_
    refine wpF_end (r := [(2, v18), (3, v21), (4, (.bool true))]) ⟨rfl, rfl, rfl, trivial⟩ ?_
    refine nx ?_
    refine wpC_ret ?_
    have e28 := Option.some.inj hF
    subst e28
    refine ret_post (P := Try.prog) (vs := [v18, v21, (.bool true)]) Try.results12 ⟨rfl, rfl, rfl, trivial⟩ ?_
    exact ⟨_, _, rt oo o27 w.heap.size 13 t, rfl, h19.rt hB 13 t (by decide), h22.rt hB (by decide) t, hB.keeps, rt_old _ _ _ _ _⟩

end Go.Proofs.Ytffgdhbhlcifmaa
