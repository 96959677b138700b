/- spec.roAll, spec.roAbove, spec.roRoots, spec.LastingLabels, impl.onlyIn$1, impl.onlyIn, (impl.RootedProblem).rootsAbove, (impl.RootedProblem).rootsOfDepth, impl.LastingLabels: plain functions, and the walks that show that the program computes them (printed by gen.py). -/
import Derived.Test.YtabclfacjaeblaaGB
import Derived.Test.YtabclfacjaeblaaGA
namespace Go.Proofs.Ytabclfacjaeblaa
open Go.RowKit
set_option linter.unusedSimpArgs false
set_option linter.unusedVariables false

theorem info2_t_int_C : Inf Try.prog 3 (.int .i64 0) 1 8 := by unfold Inf; kernel_rfl

def fS_roAll_s1 (p0 : T_RootedProblem) : ((List Int) × Int) → Option (Lp ((List Int) × Int) ((List Int) × Int) (List Int)) := fun (s : (List Int) × Int) =>
  if decide (s.2 < p0.Labels) then
    (push s.1 s.2) >>= fun x32 =>
    (ck (s.2 + 1)) >>= fun x38 =>
    some (.go (x32, x38))
  else
    some (.out (s.1, s.2))
def fS_roAll (fuel : Nat) (p0 : T_RootedProblem) : Option (List Int) :=
  (loopF (fS_roAll_s1 p0) fuel ([], 0)) >>= fun q15 =>
  match q15 with
  | .inl (y9, y12) =>
    some y9
  | .inr _ => none

def pS_roAll (oo : Tg) (t : Nat) (w : World) (r : List Int) : Ending → World → Prop := fun e w' => ∃ (v0 : Value) (o' : Tg), e = .returned (v0) ∧ Ow w.heap.size 3 t o' w' v0 r ∧ Keeps w w' ∧ ∀ b, b < w.heap.size → o' b = oo b
set_option maxRecDepth 100000 in
set_option maxHeartbeats 2000000 in
theorem cS_roAll (fuel : Nat) (w : World) (oo : Tg) (t : Nat) (ht : 2 ≤ t) (u0 : List Value) (p0 : T_RootedProblem) (g0 : Rp.rd zt w u0 p0) (r : List Int) (hF : fS_roAll fuel p0 = some r) :
    Calls Try.prog 98 #[.agg u0.toArray] w (pS_roAll oo t w r) := by
  unfold fS_roAll at hF
  obtain ⟨v1, rfl, h2⟩ := g0
  have hB : Bs oo (col oo) w w := Bs.start _ _
  refine calls_start (n := 16) (vs := [(.agg #[(.int .i64 p0.Labels), (.int .i64 p0.Children), v1])]) Try.func98 rfl rfl ?_
  generalize col oo = o at *
  refine wpC_seq ?_
  refine wpC_region ?_
  refine st_op (by decide) trivial ?_
  refine wf_box (o := o) w.heap.size 11 hB.keeps.size (cs := [(.int .i64 p0.Labels), (.int .i64 p0.Children), v1]) rfl rfl ?_
  intro o3 w4 b5 h6 s7
  replace hB := hB.stp s7 (by decide)
  refine st_val (ex_assign rfl) (by decide) trivial ?_
  refine wpF_end (r := [(1, (.pointer (some ⟨b5, 0, none⟩)))]) ⟨rfl, trivial⟩ ?_
  refine nx ?_
  refine wpC_seq ?_
  refine wpC_region ?_
  refine st_val (ex_assign rfl) (by decide) trivial ?_
  refine wpF_end (r := [(1, (.pointer (some ⟨b5, 0, none⟩))), (3, (.slice none 0 0))]) ⟨rfl, rfl, trivial⟩ ?_
  refine nx ?_
  refine wpC_seq ?_
  refine wpC_seq ?_
  refine wpC_region ?_
  refine st_val (ex_assign rfl) (by decide) trivial ?_
  refine wpF_end (r := [(1, (.pointer (some ⟨b5, 0, none⟩))), (3, (.slice none 0 0)), (4, (.int .i64 0))]) ⟨rfl, rfl, rfl, trivial⟩ ?_
  refine nx ?_
  have h8 : Ow w.heap.size 3 12 o3 w4 (.slice none 0 0) ([] : List Int) := Ow.nil _ _ _ _ _
  obtain ⟨q15, hq15, hF⟩ := bind_some hF
  refine wpC_cutN (fun a w14 => ∃ (y9 : List Int) (y12 : Int) (v10 : Value) (o13 : Tg), q15 = .inl (y9, y12) ∧ Fr a 16 [(3, v10)] ∧ Bs oo o13 w w14 ∧ Ow w.heap.size 3 12 o13 w14 v10 y9) (fun _ _ => False) ?_ ?_ ?_
  · refine wpC_block ?_
    refine wpC_loop (fun (K : Nat) a w14 => ∃ (y9 : List Int) (y12 : Int) (v10 : Value) (o13 : Tg), loopF (fS_roAll_s1 p0) K (y9, y12) = some q15 ∧ Fr a 16 [(1, (.pointer (some ⟨b5, 0, none⟩))), (3, v10), (4, (.int .i64 y12))] ∧ Bs oo o13 w w14 ∧ Ow w.heap.size 3 12 o13 w14 v10 y9 ∧ Bx w.heap.size 11 o13 w14 b5 29 [(.int .i64 p0.Labels), (.int .i64 p0.Children), v1]) fuel (fun a ha => ⟨[], 0, (.slice none 0 0), o3, hq15, ha.sub (r := [(1, (.pointer (some ⟨b5, 0, none⟩))), (3, (.slice none 0 0)), (4, (.int .i64 0))]) ⟨rfl, rfl, rfl, trivial⟩, hB, h8, h6⟩) ?_
    rintro K19 a w14 ⟨y9, y12, v10, o13, l16, ha, hB, h11, h6⟩
    obtain ⟨K23, q20, e24, b21, n22⟩ := loopF_cons l16
    dsimp only [fS_roAll_s1] at b21
    refine wp_of ha ?_
    refine wpC_seq ?_
    refine wpC_seq ?_
    refine wpC_region ?_
    refine st_val (ex_move rfl) (by decide) trivial ?_
    refine st_val (ex_field rfl Try.underlying29 rfl Try.sizeOf3) (by decide) trivial ?_
    refine st_val (ex_load1 rfl Try.isAgg3 (h6.cell rfl)) (by decide) trivial ?_
    refine st_val (ex_lss rfl rfl) (by decide) trivial ?_
    refine wpF_end (r := [(1, (.pointer (some ⟨b5, 0, none⟩))), (3, v10), (4, (.int .i64 y12)), (8, (.bool (decide (y12 < p0.Labels))))]) ⟨rfl, rfl, rfl, rfl, trivial⟩ ?_
    refine nx ?_
    refine wpC_cond rfl (fun t25 => ?_) (fun t25 => ?_)
    · rw [if_pos t25] at b21
      refine wpC_skip ?_
      refine nx ?_
      refine wpC_seq ?_
      refine wpC_block ?_
      refine wpC_region ?_
      refine st_val (ex_move rfl) (by decide) trivial ?_
      refine st_val (ex_move rfl) (by decide) trivial ?_
      refine st_op (by decide) trivial ?_
      refine wf_litR (o := o13) (cs := [(.int .i64 y12)]) (xs := ([y12] : List Int)) (vs := [(0, (.int .i64 y12))]) ⟨_, _, rfl, rfl, rfl⟩ rfl ⟨rfl, rfl, trivial⟩ Try.underlying26 Try.sizeOf3 Try.zeroValue3 (by decide) (fill1 rfl) (by simp) ?_
      intro o26 w27 v28 h29 s30 k31
      replace h11 := h11.stp s30 (by decide) (by decide)
      replace h6 := h6.stp s30 (by decide)
      replace hB := hB.stp s30 (by decide)
      obtain ⟨x32, hx32, b21⟩ := bind_some b21
      refine st_op (by decide) trivial ?_
      refine wf_cat h11 h29 (push_cat hx32) (by decide) hB.keeps.size rfl rfl Try.underlying26 info2_t_int_C rfl (by decide) ?_
      intro o33 w34 v35 h36 s37
      replace h29 := h29.stp s37 (by decide)
      replace h6 := h6.stp s37 (by decide)
      replace hB := hB.stp s37 (by decide)
      refine st_val (ex_assign rfl) (by decide) trivial ?_
      refine wpF_end (r := [(1, (.pointer (some ⟨b5, 0, none⟩))), (3, v35), (4, (.int .i64 y12))]) ⟨rfl, rfl, rfl, trivial⟩ ?_
      refine nb_norm ?_
      refine nx ?_
      refine wpC_region ?_
      refine st_val (ex_move rfl) (by decide) trivial ?_
      obtain ⟨x38, hx38, b21⟩ := bind_some b21
      refine st_val (ex_add rfl rfl hx38) (by decide) trivial ?_
      refine st_val (ex_assign rfl) (by decide) trivial ?_
      refine wpF_end (r := [(1, (.pointer (some ⟨b5, 0, none⟩))), (3, v35), (4, (.int .i64 x38))]) ⟨rfl, rfl, rfl, trivial⟩ ?_
      refine nt_norm ?_
      have e39 := Option.some.inj b21
      subst e39
      refine to_k (r := [(1, (.pointer (some ⟨b5, 0, none⟩))), (3, v35), (4, (.int .i64 x38))]) ⟨rfl, rfl, rfl, trivial⟩ ?_
      intro a ha
      exact ⟨K23, by omega, x32, x38, v35, o33, n22, ha, hB, h36, h6⟩
    · rw [if_neg (by rw [t25]; decide)] at b21
      refine wpC_exit ?_
      refine nt_exit ?_
      refine nt_exit ?_
      refine nb_hit ?_
      refine np_norm ?_
      have e40 := Option.some.inj b21
      subst e40
      refine to_k (r := [(3, v10)]) ⟨rfl, trivial⟩ ?_
      intro a ha
      exact ⟨y9, y12, v10, o13, n22, ha, hB, h11⟩
  · rintro a w14 ⟨y9, y12, v10, o13, rfl, ha, hB, h11⟩
    dsimp only at hF
    refine ap_k ha ?_
    refine nx ?_
    refine wpC_seq ?_
    refine wpC_region ?_
    refine st_val (ex_move rfl) (by decide) trivial ?_
    refine st_val (ex_assign rfl) (by decide) trivial ?_
    refine wpF_end (r := [(2, v10)]) ⟨rfl, trivial⟩ ?_
    refine nx ?_
    refine wpC_ret ?_
    have e41 := Option.some.inj hF
    subst e41
    refine ret_post (P := Try.prog) (vs := [v10]) Try.results98 ⟨rfl, trivial⟩ ?_
    exact ⟨_, rt oo o13 w.heap.size 12 t, rfl, h11.rt hB (by decide) t, hB.keeps, rt_old _ _ _ _ _⟩
  · exact fun _ _ h => h.elim

def fS_roAbove_s1 (fuel : Nat) (p1 : List Int) : Int → (List Int) → (List Int) → Option (Lp (List Int) (List Int) (List Int)) := fun (i16 : Int) (x26 : List Int) (s : List Int) =>
  (cut x26 1 x26.length) >>= fun x34 =>
  (fS_prAll x34 p1) >>= fun x37 =>
  if x37 then
    (ix x26 0) >>= fun x44 =>
    (fS_l1Put fuel s x44) >>= fun x50 =>
    some (.go x50)
  else
    some (.go s)
def fS_roAbove (fuel : Nat) (p0 : T_RootedProblem) (p1 : List Int) : Option (List Int) :=
  (forI (fS_roAbove_s1 fuel p1) p0.Lines 0 []) >>= fun q17 =>
  match q17 with
  | .inl y10 =>
    some y10
  | .inr _ => none

def pS_roAbove (oo : Tg) (t : Nat) (w : World) (r : List Int) : Ending → World → Prop := fun e w' => ∃ (v0 : Value) (o' : Tg), e = .returned (v0) ∧ Of 3 o' w' v0 r ∧ Keeps w w' ∧ ∀ b, b < w.heap.size → o' b = oo b
set_option maxRecDepth 100000 in
set_option maxHeartbeats 2000000 in
theorem cS_roAbove (fuel : Nat) (w : World) (oo : Tg) (t : Nat) (ht : 2 ≤ t) (u0 : List Value) (p0 : T_RootedProblem) (g0 : Rp.rd zt w u0 p0) (u1 : Value) (p1 : List Int) (g1 : RdL zt w u1 p1) (r : List Int) (hF : fS_roAbove fuel p0 p1 = some r) :
    Calls Try.prog 99 #[.agg u0.toArray, u1] w (pS_roAbove oo t w r) := by
  unfold fS_roAbove at hF
  obtain ⟨v1, rfl, h2⟩ := g0
  have hB : Bs oo (col oo) w w := Bs.start _ _
  refine calls_start (n := 26) (vs := [(.agg #[(.int .i64 p0.Labels), (.int .i64 p0.Children), v1]), u1]) Try.func99 rfl rfl ?_
  generalize col oo = o at *
  refine wpC_seq ?_
  refine wpC_region ?_
  refine st_op (by decide) trivial ?_
  refine wf_box (o := o) w.heap.size 11 hB.keeps.size (cs := [(.int .i64 p0.Labels), (.int .i64 p0.Children), v1]) rfl rfl ?_
  intro o3 w4 b5 h6 s7
  replace hB := hB.stp s7 (by decide)
  refine st_val (ex_assign rfl) (by decide) trivial ?_
  refine wpF_end (r := [(1, u1), (2, (.pointer (some ⟨b5, 0, none⟩)))]) ⟨rfl, rfl, trivial⟩ ?_
  refine nx ?_
  refine wpC_seq ?_
  refine wpC_region ?_
  refine st_val (ex_assign rfl) (by decide) trivial ?_
  refine wpF_end (r := [(1, u1), (2, (.pointer (some ⟨b5, 0, none⟩))), (5, (.slice none 0 0))]) ⟨rfl, rfl, rfl, trivial⟩ ?_
  refine nx ?_
  refine wpC_seq ?_
  refine wpC_seq ?_
  refine wpC_region ?_
  refine st_val (ex_field rfl Try.underlying29 rfl Try.sizeOf22) (by decide) trivial ?_
  refine st_val (ex_load1 rfl Try.isAgg22 (h6.cell rfl)) (by decide) trivial ?_
  refine st_val (ex_lenR rfl h2 Try.underlying22) (by decide) trivial ?_
  refine st_val (ex_move rfl) (by decide) trivial ?_
  refine wpF_end (r := [(1, u1), (5, (.slice none 0 0)), (9, v1), (10, (.int .i64 (p0.Lines.length : Int))), (11, (.int .i64 0))]) ⟨rfl, rfl, rfl, rfl, rfl, trivial⟩ ?_
  refine nx ?_
  have h8 : RdL o3 w4 (.slice none 0 0) ([] : List Int) := RdL.nil _ _
  have h9 : Of 3 o3 w4 (.slice none 0 0) ([] : List Int) := Of.nil _ _ _
  obtain ⟨q17, hq17, hF⟩ := bind_some hF
  refine wpC_cutN (fun a w15 => ∃ (y10 : List Int) (v11 : Value) (o14 : Tg), q17 = .inl y10 ∧ Fr a 26 [(5, v11)] ∧ Bs oo o14 w w15 ∧ RdL o14 w15 v11 y10 ∧ Of 3 o14 w15 v11 y10) (fun _ _ => False) ?_ ?_ ?_
  · refine wpC_block ?_
    refine wpC_loop (fun (K : Nat) a w15 => ∃ (i16 : Int) (y10 : List Int) (v11 : Value) (o14 : Tg), forI (fS_roAbove_s1 fuel p1) (p0.Lines.drop i16.toNat) i16 y10 = some q17 ∧ (p0.Lines.drop i16.toNat).length = K ∧ 0 ≤ i16 ∧ Fr a 26 [(1, u1), (5, v11), (9, v1), (10, (.int .i64 (p0.Lines.length : Int))), (11, (.int .i64 i16))] ∧ Bs oo o14 w w15 ∧ RdL o14 w15 v11 y10 ∧ Of 3 o14 w15 v11 y10) _ (fun a ha => ⟨0, [], (.slice none 0 0), o3, hq17, rfl, Int.le_refl 0, ha.sub (r := [(1, u1), (5, (.slice none 0 0)), (9, v1), (10, (.int .i64 (p0.Lines.length : Int))), (11, (.int .i64 0))]) ⟨rfl, rfl, rfl, rfl, rfl, trivial⟩, hB, h8, h9⟩) ?_
    rintro K21 a w15 ⟨i16, y10, v11, o14, l18, m20, z19, ha, hB, h12, h13⟩
    by_cases t25 : i16 < (p0.Lines.length : Int)
    · obtain ⟨x26, q22, hx26, b23, n24⟩ := forI_cons z19 t25 l18
      have hle := h2.len_le
      dsimp only [fS_roAbove_s1] at b23
      refine wp_of ha ?_
      refine wpC_seq ?_
      refine wpC_region ?_
      refine st_val (ex_lss rfl rfl) (by decide) trivial ?_
      refine wpF_end (r := [(1, u1), (5, v11), (9, v1), (10, (.int .i64 (p0.Lines.length : Int))), (11, (.int .i64 i16)), (12, (.bool (decide (i16 < (p0.Lines.length : Int)))))]) ⟨rfl, rfl, rfl, rfl, rfl, rfl, trivial⟩ ?_
      refine nx ?_
      refine wpC_seq ?_
      refine wpC_true (congrArg (fun b => some (Value.bool b)) (decide_eq_true t25)) ?_
      refine wpC_skip ?_
      refine nx ?_
      refine wpC_seq ?_
      refine wpC_block ?_
      refine wpC_seq ?_
      refine wpC_region ?_
      refine st_op (by decide) trivial ?_
      refine wf_atZ h2 hx26 hB rfl rfl Try.underlying22 Try.sizeOf26 ?_
      intro b27 f28 c29 h30 h31
      obtain ⟨v32, rfl, h33⟩ := h31
      refine st_val (ex_load1 rfl Try.isAgg26 (cell_of_cells h30)) (by decide) trivial ?_
      refine st_val (ex_assign rfl) (by decide) trivial ?_
      refine wpF_end (r := [(1, u1), (5, v11), (7, v32), (9, v1), (10, (.int .i64 (p0.Lines.length : Int))), (11, (.int .i64 i16))]) ⟨rfl, rfl, rfl, rfl, rfl, rfl, trivial⟩ ?_
      refine nx ?_
      refine wpC_seq ?_
      refine wpC_region ?_
      refine st_val (ex_move rfl) (by decide) trivial ?_
      obtain ⟨x34, hx34, b23⟩ := bind_some b23
      refine st_op (by decide) trivial ?_
      refine wf_cutZ h33 hx34 rfl rfl rfl Try.underlying26 Try.sizeOf3 ?_
      intro v35 h36
      refine st_val (ex_move rfl) (by decide) trivial ?_
      obtain ⟨x37, hx37, b23⟩ := bind_some b23
      refine st_op (by decide) trivial ?_
      refine wf_call (cS_prAll w15 _ x34 (h36.keep hB.keeps) _ p1 (g1.keep hB.keeps) x37 hx37) Try.call73 ⟨rfl, rfl, trivial⟩ ?_
      rintro e42 w38 ⟨rfl, k39⟩
      have s41 := k39.stp 999 o14
      refine ⟨_, rfl, ?_⟩
      replace h12 := h12.stp s41 (by decide)
      replace h13 := h13.stp s41 (by decide)
      replace hB := hB.stp s41 (by decide)
      refine wpF_end (r := [(1, u1), (5, v11), (7, v32), (9, v1), (10, (.int .i64 (p0.Lines.length : Int))), (11, (.int .i64 i16)), (18, (.bool x37))]) ⟨rfl, rfl, rfl, rfl, rfl, rfl, rfl, trivial⟩ ?_
      refine nx ?_
      refine wpC_cond rfl (fun t43 => ?_) (fun t43 => ?_)
      · rw [if_pos t43] at b23
        refine wpC_region ?_
        refine st_val (ex_move rfl) (by decide) trivial ?_
        refine st_val (ex_move rfl) (by decide) trivial ?_
        obtain ⟨x44, hx44, b23⟩ := bind_some b23
        refine st_op (by decide) trivial ?_
        refine wf_atZ h33 hx44 hB rfl rfl Try.underlying26 Try.sizeOf3 ?_
        intro b45 f46 c47 h48 h49
        cases h49
        refine st_val (ex_load1 rfl Try.isAgg3 (cell_of_cells h48)) (by decide) trivial ?_
        obtain ⟨x50, hx50, b23⟩ := bind_some b23
        refine st_op (by decide) trivial ?_
        refine wf_call (cS_l1Put fuel w38 o14 13 (by decide) _ y10 h13 x44 x50 hx50) Try.call146 ⟨rfl, rfl, trivial⟩ ?_
        rintro e58 w51 ⟨v52, o59, rfl, h53, k55, k56⟩
        have s57 := k55.stp' 13 k56
        have h54 := h53.rd
        refine ⟨_, rfl, ?_⟩
        replace h12 := h12.stp s57 (by decide)
        replace h13 := h13.stp s57 (by decide)
        replace hB := hB.stp s57 (by decide)
        refine st_val (ex_assign rfl) (by decide) trivial ?_
        refine wpF_end (r := [(1, u1), (5, v52), (9, v1), (10, (.int .i64 (p0.Lines.length : Int))), (11, (.int .i64 i16))]) ⟨rfl, rfl, rfl, rfl, rfl, trivial⟩ ?_
        refine nb_norm ?_
        refine nx ?_
        refine wpC_region ?_
        refine st_val (ex_add rfl rfl (ck_in (by omega) (by omega))) (by decide) trivial ?_
        refine st_val (ex_move rfl) (by decide) trivial ?_
        refine wpF_end (r := [(1, u1), (5, v52), (9, v1), (10, (.int .i64 (p0.Lines.length : Int))), (11, (.int .i64 (i16 + 1)))]) ⟨rfl, rfl, rfl, rfl, rfl, trivial⟩ ?_
        refine nt_norm ?_
        have e60 := Option.some.inj b23
        subst e60
        refine to_k (r := [(1, u1), (5, v52), (9, v1), (10, (.int .i64 (p0.Lines.length : Int))), (11, (.int .i64 (i16 + 1)))]) ⟨rfl, rfl, rfl, rfl, rfl, trivial⟩ ?_
        intro a ha
        exact ⟨_, (by rw [← m20]; simp only [List.length_drop]; omega), i16 + 1, x50, v52, o59, n24, rfl, (by omega), ha, hB, h54, h53⟩
      · rw [if_neg (by rw [t43]; decide)] at b23
        refine wpC_skip ?_
        refine nb_norm ?_
        refine nx ?_
        refine wpC_region ?_
        refine st_val (ex_add rfl rfl (ck_in (by omega) (by omega))) (by decide) trivial ?_
        refine st_val (ex_move rfl) (by decide) trivial ?_
        refine wpF_end (r := [(1, u1), (5, v11), (9, v1), (10, (.int .i64 (p0.Lines.length : Int))), (11, (.int .i64 (i16 + 1)))]) ⟨rfl, rfl, rfl, rfl, rfl, trivial⟩ ?_
        refine nt_norm ?_
        have e61 := Option.some.inj b23
        subst e61
        refine to_k (r := [(1, u1), (5, v11), (9, v1), (10, (.int .i64 (p0.Lines.length : Int))), (11, (.int .i64 (i16 + 1)))]) ⟨rfl, rfl, rfl, rfl, rfl, trivial⟩ ?_
        intro a ha
        exact ⟨_, (by rw [← m20]; simp only [List.length_drop]; omega), i16 + 1, y10, v11, o14, n24, rfl, (by omega), ha, hB, h12, h13⟩
    · have r62 := forI_done t25 l18
      refine wp_of ha ?_
      refine wpC_seq ?_
      refine wpC_region ?_
      refine st_val (ex_lss rfl rfl) (by decide) trivial ?_
      refine wpF_end (r := [(1, u1), (5, v11), (9, v1), (10, (.int .i64 (p0.Lines.length : Int))), (11, (.int .i64 i16)), (12, (.bool (decide (i16 < (p0.Lines.length : Int)))))]) ⟨rfl, rfl, rfl, rfl, rfl, rfl, trivial⟩ ?_
      refine nx ?_
      refine wpC_seq ?_
      refine wpC_false (congrArg (fun b => some (Value.bool b)) (decide_eq_false t25)) ?_
      refine wpC_exit ?_
      refine nt_exit ?_
      refine nt_exit ?_
      refine nb_hit ?_
      refine np_norm ?_
      refine to_k (r := [(5, v11)]) ⟨rfl, trivial⟩ ?_
      intro a ha
      exact ⟨y10, v11, o14, r62, ha, hB, h12, h13⟩
  · rintro a w15 ⟨y10, v11, o14, rfl, ha, hB, h12, h13⟩
    dsimp only at hF
    refine ap_k ha ?_
    refine nx ?_
    refine wpC_seq ?_
    refine wpC_region ?_
    refine st_val (ex_move rfl) (by decide) trivial ?_
    refine st_val (ex_assign rfl) (by decide) trivial ?_
    refine wpF_end (r := [(4, v11)]) ⟨rfl, trivial⟩ ?_
    refine nx ?_
    refine wpC_ret ?_
    have e63 := Option.some.inj hF
    subst e63
    refine ret_post (P := Try.prog) (vs := [v11]) Try.results99 ⟨rfl, trivial⟩ ?_
    exact ⟨_, rt oo o14 w.heap.size 9 t, rfl, h13.rt hB 9 t (by decide), hB.keeps, rt_old _ _ _ _ _⟩
  · exact fun _ _ h => h.elim

def fS_roRoots_s1 (fuel : Nat) (p0 : T_RootedProblem) (p1 : Int) : ((List Int) × Int) → Option (Lp ((List Int) × Int) ((List Int) × Int) (List Int)) := fun (s : (List Int) × Int) =>
  if decide (s.2 < p1) then
    (fS_roAbove fuel p0 s.1) >>= fun x37 =>
    (fS_l1Same x37 s.1) >>= fun x47 =>
    if x47 then
      some (.ret s.1)
    else
      (ck (s.2 + 1)) >>= fun x55 =>
      some (.go (x37, x55))
  else
    some (.out (s.1, s.2))
def fS_roRoots (fuel : Nat) (p0 : T_RootedProblem) (p1 : Int) : Option (List Int) :=
  (fS_roAll fuel p0) >>= fun x8 =>
  (loopF (fS_roRoots_s1 fuel p0 p1) fuel (x8, 0)) >>= fun q26 =>
  match q26 with
  | .inl (y19, y23) =>
    some y19
  | .inr r' => some r'

def pS_roRoots (oo : Tg) (t : Nat) (w : World) (r : List Int) : Ending → World → Prop := fun e w' => ∃ (v0 : Value) (o' : Tg), e = .returned (v0) ∧ Of 3 o' w' v0 r ∧ Keeps w w' ∧ ∀ b, b < w.heap.size → o' b = oo b
set_option maxRecDepth 100000 in
set_option maxHeartbeats 2000000 in
theorem cS_roRoots (fuel : Nat) (w : World) (oo : Tg) (t : Nat) (ht : 2 ≤ t) (u0 : List Value) (p0 : T_RootedProblem) (g0 : Rp.rd zt w u0 p0) (p1 : Int) (r : List Int) (hF : fS_roRoots fuel p0 p1 = some r) :
    Calls Try.prog 54 #[.agg u0.toArray, .int .i64 p1] w (pS_roRoots oo t w r) := by
  unfold fS_roRoots at hF
  obtain ⟨v1, rfl, h2⟩ := g0
  have hB : Bs oo (col oo) w w := Bs.start _ _
  refine calls_start (n := 24) (vs := [(.agg #[(.int .i64 p0.Labels), (.int .i64 p0.Children), v1]), (.int .i64 p1)]) Try.func54 rfl rfl ?_
  generalize col oo = o at *
  refine wpC_seq ?_
  refine wpC_region ?_
  refine st_op (by decide) trivial ?_
  refine wf_box (o := o) w.heap.size 11 hB.keeps.size (cs := [(.int .i64 p0.Labels), (.int .i64 p0.Children), v1]) rfl rfl ?_
  intro o3 w4 b5 h6 s7
  replace hB := hB.stp s7 (by decide)
  refine st_val (ex_assign rfl) (by decide) trivial ?_
  refine wpF_end (r := [(1, (.int .i64 p1)), (2, (.pointer (some ⟨b5, 0, none⟩)))]) ⟨rfl, rfl, trivial⟩ ?_
  refine nx ?_
  refine wpC_seq ?_
  refine wpC_region ?_
  refine st_val (ex_loadA rfl Try.isAgg29 Try.sizeOf29 rfl h6.cells) (by decide) trivial ?_
  obtain ⟨x8, hx8, hF⟩ := bind_some hF
  refine st_op (by decide) trivial ?_
  refine wf_call (cS_roAll fuel w4 o3 12 (by decide) _ p0 (⟨_, rfl, (h2.keep hB.keeps)⟩) x8 hx8) Try.call98 ⟨rfl, trivial⟩ ?_
  rintro e15 w9 ⟨v10, o16, rfl, h11, k12, k13⟩
  have s14 := k12.stp' 12 k13
  replace h11 := h11.mono hB.keeps.size
  refine ⟨_, rfl, ?_⟩
  replace h6 := h6.stp s14 (by decide)
  replace hB := hB.stp s14 (by decide)
  refine st_val (ex_assign rfl) (by decide) trivial ?_
  refine wpF_end (r := [(1, (.int .i64 p1)), (2, (.pointer (some ⟨b5, 0, none⟩))), (5, v10)]) ⟨rfl, rfl, rfl, trivial⟩ ?_
  refine nx ?_
  refine wpC_seq ?_
  refine wpC_seq ?_
  refine wpC_region ?_
  refine st_val (ex_assign rfl) (by decide) trivial ?_
  refine wpF_end (r := [(1, (.int .i64 p1)), (2, (.pointer (some ⟨b5, 0, none⟩))), (5, v10), (6, (.int .i64 0))]) ⟨rfl, rfl, rfl, rfl, trivial⟩ ?_
  refine nx ?_
  have h17 := h11.frzF
  replace h11 := h11.frz
  replace h6 := h6.frz_ne (j := 12) (by decide)
  replace hB := hB.frz 12 (by decide)
  generalize (frz 12 o16) = o18 at *
  obtain ⟨q26, hq26, hF⟩ := bind_some hF
  refine wpC_cutN (fun a w25 => ∃ (y19 : List Int) (y23 : Int) (v20 : Value) (o24 : Tg), q26 = .inl (y19, y23) ∧ Fr a 24 [(5, v20)] ∧ Bs oo o24 w w25 ∧ RdL o24 w25 v20 y19 ∧ Of 3 o24 w25 v20 y19) (fun a w' => ∃ r', q26 = .inr r' ∧ bodyPost Try.prog Try.f54 (pS_roRoots oo t w r') .ret a w') ?_ ?_ ?_
  · refine wpC_block ?_
    refine wpC_loop (fun (K : Nat) a w25 => ∃ (y19 : List Int) (y23 : Int) (v20 : Value) (o24 : Tg), loopF (fS_roRoots_s1 fuel p0 p1) K (y19, y23) = some q26 ∧ Fr a 24 [(1, (.int .i64 p1)), (2, (.pointer (some ⟨b5, 0, none⟩))), (5, v20), (6, (.int .i64 y23))] ∧ Bs oo o24 w w25 ∧ RdL o24 w25 v20 y19 ∧ Of 3 o24 w25 v20 y19 ∧ Bx w.heap.size 11 o24 w25 b5 29 [(.int .i64 p0.Labels), (.int .i64 p0.Children), v1]) fuel (fun a ha => ⟨x8, 0, v10, o18, hq26, ha.sub (r := [(1, (.int .i64 p1)), (2, (.pointer (some ⟨b5, 0, none⟩))), (5, v10), (6, (.int .i64 0))]) ⟨rfl, rfl, rfl, rfl, trivial⟩, hB, h11, h17, h6⟩) ?_
    rintro K30 a w25 ⟨y19, y23, v20, o24, l27, ha, hB, h21, h22, h6⟩
    obtain ⟨K34, q31, e35, b32, n33⟩ := loopF_cons l27
    dsimp only [fS_roRoots_s1] at b32
    refine wp_of ha ?_
    refine wpC_seq ?_
    refine wpC_seq ?_
    refine wpC_region ?_
    refine st_val (ex_move rfl) (by decide) trivial ?_
    refine st_val (ex_move rfl) (by decide) trivial ?_
    refine st_val (ex_lss rfl rfl) (by decide) trivial ?_
    refine wpF_end (r := [(1, (.int .i64 p1)), (2, (.pointer (some ⟨b5, 0, none⟩))), (5, v20), (6, (.int .i64 y23)), (12, (.bool (decide (y23 < p1))))]) ⟨rfl, rfl, rfl, rfl, rfl, trivial⟩ ?_
    refine nx ?_
    refine wpC_cond rfl (fun t36 => ?_) (fun t36 => ?_)
    · rw [if_pos t36] at b32
      refine wpC_skip ?_
      refine nx ?_
      refine wpC_seq ?_
      refine wpC_block ?_
      refine wpC_seq ?_
      refine wpC_region ?_
      refine st_val (ex_loadA rfl Try.isAgg29 Try.sizeOf29 rfl h6.cells) (by decide) trivial ?_
      refine st_val (ex_move rfl) (by decide) trivial ?_
      obtain ⟨x37, hx37, b32⟩ := bind_some b32
      refine st_op (by decide) trivial ?_
      refine wf_call (cS_roAbove fuel w25 o24 13 (by decide) _ p0 (⟨_, rfl, (h2.keep hB.keeps)⟩) _ y19 h21.z x37 hx37) Try.call99 ⟨rfl, rfl, trivial⟩ ?_
      rintro e45 w38 ⟨v39, o46, rfl, h40, k42, k43⟩
      have s44 := k42.stp' 13 k43
      have h41 := h40.rd
      refine ⟨_, rfl, ?_⟩
      replace h21 := h21.stp s44 (by decide)
      replace h22 := h22.stp s44 (by decide)
      replace h6 := h6.stp s44 (by decide)
      replace hB := hB.stp s44 (by decide)
      refine st_val (ex_assign rfl) (by decide) trivial ?_
      refine wpF_end (r := [(1, (.int .i64 p1)), (2, (.pointer (some ⟨b5, 0, none⟩))), (5, v20), (6, (.int .i64 y23)), (7, v39)]) ⟨rfl, rfl, rfl, rfl, rfl, trivial⟩ ?_
      refine nx ?_
      refine wpC_seq ?_
      refine wpC_seq ?_
      refine wpC_region ?_
      refine st_val (ex_move rfl) (by decide) trivial ?_
      refine st_val (ex_move rfl) (by decide) trivial ?_
      obtain ⟨x47, hx47, b32⟩ := bind_some b32
      refine st_op (by decide) trivial ?_
      refine wf_call (cS_l1Same w38 _ x37 h41.z _ y19 h21.z x47 hx47) Try.call95 ⟨rfl, rfl, trivial⟩ ?_
      rintro e52 w48 ⟨rfl, k49⟩
      have s51 := k49.stp 999 o46
      refine ⟨_, rfl, ?_⟩
      replace h21 := h21.stp s51 (by decide)
      replace h22 := h22.stp s51 (by decide)
      replace h41 := h41.stp s51 (by decide)
      replace h40 := h40.stp s51 (by decide)
      replace h6 := h6.stp s51 (by decide)
      replace hB := hB.stp s51 (by decide)
      refine wpF_end (r := [(1, (.int .i64 p1)), (2, (.pointer (some ⟨b5, 0, none⟩))), (5, v20), (6, (.int .i64 y23)), (7, v39), (20, (.bool x47))]) ⟨rfl, rfl, rfl, rfl, rfl, rfl, trivial⟩ ?_
      refine nx ?_
      refine wpC_cond rfl (fun t53 => ?_) (fun t53 => ?_)
      · rw [if_pos t53] at b32
        refine wpC_seq ?_
        refine wpC_region ?_
        refine st_val (ex_move rfl) (by decide) trivial ?_
        refine st_val (ex_assign rfl) (by decide) trivial ?_
        refine wpF_end (r := [(4, v20)]) ⟨rfl, trivial⟩ ?_
        refine nx ?_
        refine wpC_ret ?_
        refine nt_ret ?_
        refine nb_ret ?_
        refine nt_ret ?_
        refine nt_ret ?_
        refine nb_ret ?_
        refine np_ret ?_
        have e54 := Option.some.inj b32
        subst e54
        refine fun a ha => ⟨_, n33, ?_⟩
        refine ret_post (P := Try.prog) (vs := [v20]) Try.results54 ⟨rfl, trivial⟩ ?_ a ha
        exact ⟨_, rt oo o46 w.heap.size 9 t, rfl, h22.rt hB 9 t (by decide), hB.keeps, rt_old _ _ _ _ _⟩
      · rw [if_neg (by rw [t53]; decide)] at b32
        refine wpC_skip ?_
        refine nx ?_
        refine wpC_region ?_
        refine st_val (ex_move rfl) (by decide) trivial ?_
        refine st_val (ex_assign rfl) (by decide) trivial ?_
        refine wpF_end (r := [(1, (.int .i64 p1)), (2, (.pointer (some ⟨b5, 0, none⟩))), (5, v39), (6, (.int .i64 y23))]) ⟨rfl, rfl, rfl, rfl, trivial⟩ ?_
        refine nb_norm ?_
        refine nx ?_
        refine wpC_region ?_
        refine st_val (ex_move rfl) (by decide) trivial ?_
        obtain ⟨x55, hx55, b32⟩ := bind_some b32
        refine st_val (ex_add rfl rfl hx55) (by decide) trivial ?_
        refine st_val (ex_assign rfl) (by decide) trivial ?_
        refine wpF_end (r := [(1, (.int .i64 p1)), (2, (.pointer (some ⟨b5, 0, none⟩))), (5, v39), (6, (.int .i64 x55))]) ⟨rfl, rfl, rfl, rfl, trivial⟩ ?_
        refine nt_norm ?_
        have e56 := Option.some.inj b32
        subst e56
        refine to_k (r := [(1, (.int .i64 p1)), (2, (.pointer (some ⟨b5, 0, none⟩))), (5, v39), (6, (.int .i64 x55))]) ⟨rfl, rfl, rfl, rfl, trivial⟩ ?_
        intro a ha
        exact ⟨K34, by omega, x37, x55, v39, o46, n33, ha, hB, h41, h40, h6⟩
    · rw [if_neg (by rw [t36]; decide)] at b32
      refine wpC_exit ?_
      refine nt_exit ?_
      refine nt_exit ?_
      refine nb_hit ?_
      refine np_norm ?_
      have e57 := Option.some.inj b32
      subst e57
      refine to_k (r := [(5, v20)]) ⟨rfl, trivial⟩ ?_
      intro a ha
      exact ⟨y19, y23, v20, o24, n33, ha, hB, h21, h22⟩
  · rintro a w25 ⟨y19, y23, v20, o24, rfl, ha, hB, h21, h22⟩
    dsimp only at hF
    refine ap_k ha ?_
    refine nx ?_
    refine wpC_seq ?_
    refine wpC_region ?_
    refine st_val (ex_move rfl) (by decide) trivial ?_
    refine st_val (ex_assign rfl) (by decide) trivial ?_
    refine wpF_end (r := [(4, v20)]) ⟨rfl, trivial⟩ ?_
    refine nx ?_
    refine wpC_ret ?_
    have e58 := Option.some.inj hF
    subst e58
    refine ret_post (P := Try.prog) (vs := [v20]) Try.results54 ⟨rfl, trivial⟩ ?_
    exact ⟨_, rt oo o24 w.heap.size 9 t, rfl, h22.rt hB 9 t (by decide), hB.keeps, rt_old _ _ _ _ _⟩
  · rintro a w25 ⟨r', rfl, b59⟩
    dsimp only at hF
    have e60 := Option.some.inj hF
    subst e60
    exact b59

def fS_LastingLabels (fuel : Nat) (p0 : T_RootedProblem) : Option ((List Int) × Bool) :=
  (fS_roGood fuel p0) >>= fun x8 =>
  if !x8 then
    some ([], false)
  else
    (ck (p0.Labels + 1)) >>= fun x16 =>
    (fS_roRoots fuel p0 x16) >>= fun x17 =>
    some (x17, true)

def fI_onlyIn_1 (p0 : Int) (p1 : Int) : Option Bool :=
  (shr p1 p0) >>= fun x1 =>
  some ((band x1 1) == 0)

def pI_onlyIn_1 (w : World) (r : Bool) : Ending → World → Prop := fun e w' => e = .returned (.bool r) ∧ Keeps w w'
set_option maxRecDepth 100000 in
set_option maxHeartbeats 2000000 in
theorem cI_onlyIn_1 (w : World) (p0 : Int) (b1 : Nat) (u1 : List Value) (p1 : Int) (k1 : Cells w b1 0 u1) (g1 : Rp.rd zt w u1 p1) (r : Bool) (hF : fI_onlyIn_1 p0 p1 = some r) :
    Calls Try.prog 125 #[.int .i64 p0, .pointer (some ⟨b1, 0, none⟩)] w (pI_onlyIn_1 w r) := by
  unfold fI_onlyIn_1 at hF
  have g1k := g1
  cases g1
  have hB : Bs (fun _ => 1) (col (fun _ => 1)) w w := Bs.start _ _
  refine calls_start (n := 9) (vs := [(.int .i64 p0), (.pointer (some ⟨b1, 0, none⟩))]) Try.func125 rfl rfl ?_
  refine wpC_seq ?_
  refine wpC_region ?_
  refine st_val (ex_assign rfl) (by decide) trivial ?_
  refine wpF_end (r := [(0, (.int .i64 p0)), (1, (.pointer (some ⟨b1, 0, none⟩)))]) ⟨rfl, rfl, trivial⟩ ?_
  refine nx ?_
  refine wpC_seq ?_
  refine wpC_region ?_
  refine st_val (ex_load1 rfl Try.isAgg3 (cell_of_cells (k1.keep hB.keeps))) (by decide) trivial ?_
  refine st_val (ex_move rfl) (by decide) trivial ?_
  obtain ⟨x1, hx1, hF⟩ := bind_some hF
  refine st_val (ex_shr rfl rfl hx1) (by decide) trivial ?_
  refine st_val (ex_and rfl rfl) (by decide) trivial ?_
  refine st_val (ex_eql rfl rfl) (by decide) trivial ?_
  refine st_val (ex_assign rfl) (by decide) trivial ?_
  refine wpF_end (r := [(3, (.bool ((band x1 1) == 0)))]) ⟨rfl, trivial⟩ ?_
  refine nx ?_
  refine wpC_ret ?_
  have e2 := Option.some.inj hF
  subst e2
  refine ret_post (P := Try.prog) (vs := [(.bool ((band x1 1) == 0))]) Try.results125 ⟨rfl, trivial⟩ ?_
  exact ⟨rfl, hB.keeps⟩

def fI_onlyIn (p0 : Int) (p1 : List Int) : Option Bool :=
  (fX_slices_ContainsFunc_int_int p1 (fun z6 => fI_onlyIn_1 z6 p0)) >>= fun x7 =>
  some (!x7)

def pI_onlyIn (w : World) (r : Bool) : Ending → World → Prop := fun e w' => e = .returned (.bool r) ∧ Keeps w w'
set_option maxRecDepth 100000 in
set_option maxHeartbeats 2000000 in
theorem cI_onlyIn (w : World) (p0 : Int) (u1 : Value) (p1 : List Int) (g1 : RdL zt w u1 p1) (r : Bool) (hF : fI_onlyIn p0 p1 = some r) :
    Calls Try.prog 78 #[.int .i64 p0, u1] w (pI_onlyIn w r) := by
  unfold fI_onlyIn at hF
  have hB : Bs (fun _ => 1) (col (fun _ => 1)) w w := Bs.start _ _
  refine calls_start (n := 9) (vs := [(.int .i64 p0), u1]) Try.func78 rfl rfl ?_
  refine wpC_seq ?_
  refine wpC_region ?_
  refine st_op (by decide) trivial ?_
  refine wf_box (o := (col (fun _ => 1))) w.heap.size 11 hB.keeps.size (cs := [(.int .i64 p0)]) rfl rfl ?_
  intro o1 w2 b3 h4 s5
  replace hB := hB.stp s5 (by decide)
  refine st_val (ex_assign rfl) (by decide) trivial ?_
  refine wpF_end (r := [(1, u1), (2, (.pointer (some ⟨b3, 0, none⟩)))]) ⟨rfl, rfl, trivial⟩ ?_
  refine nx ?_
  refine wpC_seq ?_
  refine wpC_region ?_
  refine st_val (ex_move rfl) (by decide) trivial ?_
  refine st_val (ex_func (vs := [(.pointer (some ⟨b3, 0, none⟩))]) ⟨rfl, trivial⟩) (by decide) trivial ?_
  obtain ⟨x7, hx7, hF⟩ := bind_some hF
  refine st_op (by decide) trivial ?_
  refine wf_call (cX_slices_ContainsFunc_int_int w2 _ p1 (g1.keep hB.keeps) _ (fun z6 => fI_onlyIn_1 z6 p0) (show FnV Try.prog w2 (.func (.func 125) #[] #[(.pointer (some ⟨b3, 0, none⟩))]) (fun z6 => fI_onlyIn_1 z6 p0) from ⟨_, _, rfl, Try.call125, fun ww vs xx rr kk hok hG => by (cases hok; exact cI_onlyIn_1 ww xx b3 _ p0 ((h4.cells).keep kk) (Rp.keep ((show Rp.rd zt w2 [(.int .i64 p0)] (p0 : Int) from rfl)) kk) rr hG)⟩) x7 hx7) Try.call124 ⟨rfl, rfl, trivial⟩ ?_
  rintro e12 w8 ⟨rfl, k9⟩
  have s11 := k9.stp 999 o1
  refine ⟨_, rfl, ?_⟩
  replace h4 := h4.stp s11 (by decide)
  replace hB := hB.stp s11 (by decide)
  refine st_val (ex_not rfl) (by decide) trivial ?_
  refine st_val (ex_assign rfl) (by decide) trivial ?_
  refine wpF_end (r := [(4, (.bool (!x7)))]) ⟨rfl, trivial⟩ ?_
  refine nx ?_
  refine wpC_ret ?_
  have e13 := Option.some.inj hF
  subst e13
  refine ret_post (P := Try.prog) (vs := [(.bool (!x7))]) Try.results78 ⟨rfl, trivial⟩ ?_
  exact ⟨rfl, hB.keeps⟩

def fI_RootedProblem_rootsAbove_s1 (p1 : Int) : Int → (List Int) → Int → Option (Lp Int Int Int) := fun (i11 : Int) (x21 : List Int) (s : Int) =>
  (cut x21 1 x21.length) >>= fun x29 =>
  (fI_onlyIn p1 x29) >>= fun x32 =>
  if x32 then
    (ix x21 0) >>= fun x39 =>
    (shl 1 x39) >>= fun x45 =>
    some (.go (bor s x45))
  else
    some (.go s)
def fI_RootedProblem_rootsAbove (p0 : T_RootedProblem) (p1 : Int) : Option Int :=
  (forI (fI_RootedProblem_rootsAbove_s1 p1) p0.Lines 0 0) >>= fun q12 =>
  match q12 with
  | .inl y8 =>
    some y8
  | .inr _ => none

def pI_RootedProblem_rootsAbove (w : World) (r : Int) : Ending → World → Prop := fun e w' => e = .returned (.int .i64 r) ∧ Keeps w w'
set_option maxRecDepth 100000 in
set_option maxHeartbeats 2000000 in
theorem cI_RootedProblem_rootsAbove (w : World) (u0 : List Value) (p0 : T_RootedProblem) (g0 : Rp.rd zt w u0 p0) (p1 : Int) (r : Int) (hF : fI_RootedProblem_rootsAbove p0 p1 = some r) :
    Calls Try.prog 103 #[.agg u0.toArray, .int .i64 p1] w (pI_RootedProblem_rootsAbove w r) := by
  unfold fI_RootedProblem_rootsAbove at hF
  obtain ⟨v1, rfl, h2⟩ := g0
  have hB : Bs (fun _ => 1) (col (fun _ => 1)) w w := Bs.start _ _
  refine calls_start (n := 27) (vs := [(.agg #[(.int .i64 p0.Labels), (.int .i64 p0.Children), v1]), (.int .i64 p1)]) Try.func103 rfl rfl ?_
  refine wpC_seq ?_
  refine wpC_region ?_
  refine st_op (by decide) trivial ?_
  refine wf_box (o := (col (fun _ => 1))) w.heap.size 11 hB.keeps.size (cs := [(.int .i64 p0.Labels), (.int .i64 p0.Children), v1]) rfl rfl ?_
  intro o3 w4 b5 h6 s7
  replace hB := hB.stp s7 (by decide)
  refine st_val (ex_assign rfl) (by decide) trivial ?_
  refine wpF_end (r := [(1, (.int .i64 p1)), (2, (.pointer (some ⟨b5, 0, none⟩)))]) ⟨rfl, rfl, trivial⟩ ?_
  refine nx ?_
  refine wpC_seq ?_
  refine wpC_region ?_
  refine st_val (ex_assign rfl) (by decide) trivial ?_
  refine wpF_end (r := [(1, (.int .i64 p1)), (2, (.pointer (some ⟨b5, 0, none⟩))), (5, (.int .i64 0))]) ⟨rfl, rfl, rfl, trivial⟩ ?_
  refine nx ?_
  refine wpC_seq ?_
  refine wpC_seq ?_
  refine wpC_region ?_
  refine st_val (ex_field rfl Try.underlying29 rfl Try.sizeOf22) (by decide) trivial ?_
  refine st_val (ex_load1 rfl Try.isAgg22 (h6.cell rfl)) (by decide) trivial ?_
  refine st_val (ex_lenR rfl h2 Try.underlying22) (by decide) trivial ?_
  refine st_val (ex_move rfl) (by decide) trivial ?_
  refine wpF_end (r := [(1, (.int .i64 p1)), (5, (.int .i64 0)), (9, v1), (10, (.int .i64 (p0.Lines.length : Int))), (11, (.int .i64 0))]) ⟨rfl, rfl, rfl, rfl, rfl, trivial⟩ ?_
  refine nx ?_
  obtain ⟨q12, hq12, hF⟩ := bind_some hF
  refine wpC_cutN (fun a w10 => ∃ (y8 : Int) (o9 : Tg), q12 = .inl y8 ∧ Fr a 27 [(5, (.int .i64 y8))] ∧ Bs (fun _ => 1) o9 w w10) (fun _ _ => False) ?_ ?_ ?_
  · refine wpC_block ?_
    refine wpC_loop (fun (K : Nat) a w10 => ∃ (i11 : Int) (y8 : Int) (o9 : Tg), forI (fI_RootedProblem_rootsAbove_s1 p1) (p0.Lines.drop i11.toNat) i11 y8 = some q12 ∧ (p0.Lines.drop i11.toNat).length = K ∧ 0 ≤ i11 ∧ Fr a 27 [(1, (.int .i64 p1)), (5, (.int .i64 y8)), (9, v1), (10, (.int .i64 (p0.Lines.length : Int))), (11, (.int .i64 i11))] ∧ Bs (fun _ => 1) o9 w w10) _ (fun a ha => ⟨0, 0, o3, hq12, rfl, Int.le_refl 0, ha.sub (r := [(1, (.int .i64 p1)), (5, (.int .i64 0)), (9, v1), (10, (.int .i64 (p0.Lines.length : Int))), (11, (.int .i64 0))]) ⟨rfl, rfl, rfl, rfl, rfl, trivial⟩, hB⟩) ?_
    rintro K16 a w10 ⟨i11, y8, o9, l13, m15, z14, ha, hB⟩
    by_cases t20 : i11 < (p0.Lines.length : Int)
    · obtain ⟨x21, q17, hx21, b18, n19⟩ := forI_cons z14 t20 l13
      have hle := h2.len_le
      dsimp only [fI_RootedProblem_rootsAbove_s1] at b18
      refine wp_of ha ?_
      refine wpC_seq ?_
      refine wpC_region ?_
      refine st_val (ex_lss rfl rfl) (by decide) trivial ?_
      refine wpF_end (r := [(1, (.int .i64 p1)), (5, (.int .i64 y8)), (9, v1), (10, (.int .i64 (p0.Lines.length : Int))), (11, (.int .i64 i11)), (12, (.bool (decide (i11 < (p0.Lines.length : Int)))))]) ⟨rfl, rfl, rfl, rfl, rfl, rfl, trivial⟩ ?_
      refine nx ?_
      refine wpC_seq ?_
      refine wpC_true (congrArg (fun b => some (Value.bool b)) (decide_eq_true t20)) ?_
      refine wpC_skip ?_
      refine nx ?_
      refine wpC_seq ?_
      refine wpC_block ?_
      refine wpC_seq ?_
      refine wpC_region ?_
      refine st_op (by decide) trivial ?_
      refine wf_atZ h2 hx21 hB rfl rfl Try.underlying22 Try.sizeOf26 ?_
      intro b22 f23 c24 h25 h26
      obtain ⟨v27, rfl, h28⟩ := h26
      refine st_val (ex_load1 rfl Try.isAgg26 (cell_of_cells h25)) (by decide) trivial ?_
      refine st_val (ex_assign rfl) (by decide) trivial ?_
      refine wpF_end (r := [(1, (.int .i64 p1)), (5, (.int .i64 y8)), (7, v27), (9, v1), (10, (.int .i64 (p0.Lines.length : Int))), (11, (.int .i64 i11))]) ⟨rfl, rfl, rfl, rfl, rfl, rfl, trivial⟩ ?_
      refine nx ?_
      refine wpC_seq ?_
      refine wpC_region ?_
      refine st_val (ex_move rfl) (by decide) trivial ?_
      refine st_val (ex_move rfl) (by decide) trivial ?_
      obtain ⟨x29, hx29, b18⟩ := bind_some b18
      refine st_op (by decide) trivial ?_
      refine wf_cutZ h28 hx29 rfl rfl rfl Try.underlying26 Try.sizeOf3 ?_
      intro v30 h31
      obtain ⟨x32, hx32, b18⟩ := bind_some b18
      refine st_op (by decide) trivial ?_
      refine wf_call (cI_onlyIn w10 p1 _ x29 (h31.keep hB.keeps) x32 hx32) Try.call78 ⟨rfl, rfl, trivial⟩ ?_
      rintro e37 w33 ⟨rfl, k34⟩
      have s36 := k34.stp 999 o9
      refine ⟨_, rfl, ?_⟩
      replace hB := hB.stp s36 (by decide)
      refine wpF_end (r := [(1, (.int .i64 p1)), (5, (.int .i64 y8)), (7, v27), (9, v1), (10, (.int .i64 (p0.Lines.length : Int))), (11, (.int .i64 i11)), (18, (.bool x32))]) ⟨rfl, rfl, rfl, rfl, rfl, rfl, rfl, trivial⟩ ?_
      refine nx ?_
      refine wpC_cond rfl (fun t38 => ?_) (fun t38 => ?_)
      · rw [if_pos t38] at b18
        refine wpC_region ?_
        refine st_val (ex_move rfl) (by decide) trivial ?_
        refine st_val (ex_move rfl) (by decide) trivial ?_
        obtain ⟨x39, hx39, b18⟩ := bind_some b18
        refine st_op (by decide) trivial ?_
        refine wf_atZ h28 hx39 hB rfl rfl Try.underlying26 Try.sizeOf3 ?_
        intro b40 f41 c42 h43 h44
        cases h44
        refine st_val (ex_load1 rfl Try.isAgg3 (cell_of_cells h43)) (by decide) trivial ?_
        obtain ⟨x45, hx45, b18⟩ := bind_some b18
        refine st_val (ex_shl rfl rfl hx45) (by decide) trivial ?_
        refine st_val (ex_or rfl rfl) (by decide) trivial ?_
        refine st_val (ex_assign rfl) (by decide) trivial ?_
        refine wpF_end (r := [(1, (.int .i64 p1)), (5, (.int .i64 (bor y8 x45))), (9, v1), (10, (.int .i64 (p0.Lines.length : Int))), (11, (.int .i64 i11))]) ⟨rfl, rfl, rfl, rfl, rfl, trivial⟩ ?_
        refine nb_norm ?_
        refine nx ?_
        refine wpC_region ?_
        refine st_val (ex_add rfl rfl (ck_in (by omega) (by omega))) (by decide) trivial ?_
        refine st_val (ex_move rfl) (by decide) trivial ?_
        refine wpF_end (r := [(1, (.int .i64 p1)), (5, (.int .i64 (bor y8 x45))), (9, v1), (10, (.int .i64 (p0.Lines.length : Int))), (11, (.int .i64 (i11 + 1)))]) ⟨rfl, rfl, rfl, rfl, rfl, trivial⟩ ?_
        refine nt_norm ?_
        have e46 := Option.some.inj b18
        subst e46
        refine to_k (r := [(1, (.int .i64 p1)), (5, (.int .i64 (bor y8 x45))), (9, v1), (10, (.int .i64 (p0.Lines.length : Int))), (11, (.int .i64 (i11 + 1)))]) ⟨rfl, rfl, rfl, rfl, rfl, trivial⟩ ?_
        intro a ha
        exact ⟨_, (by rw [← m15]; simp only [List.length_drop]; omega), i11 + 1, bor y8 x45, o9, n19, rfl, (by omega), ha, hB⟩
      · rw [if_neg (by rw [t38]; decide)] at b18
        refine wpC_skip ?_
        refine nb_norm ?_
        refine nx ?_
        refine wpC_region ?_
        refine st_val (ex_add rfl rfl (ck_in (by omega) (by omega))) (by decide) trivial ?_
        refine st_val (ex_move rfl) (by decide) trivial ?_
        refine wpF_end (r := [(1, (.int .i64 p1)), (5, (.int .i64 y8)), (9, v1), (10, (.int .i64 (p0.Lines.length : Int))), (11, (.int .i64 (i11 + 1)))]) ⟨rfl, rfl, rfl, rfl, rfl, trivial⟩ ?_
        refine nt_norm ?_
        have e47 := Option.some.inj b18
        subst e47
        refine to_k (r := [(1, (.int .i64 p1)), (5, (.int .i64 y8)), (9, v1), (10, (.int .i64 (p0.Lines.length : Int))), (11, (.int .i64 (i11 + 1)))]) ⟨rfl, rfl, rfl, rfl, rfl, trivial⟩ ?_
        intro a ha
        exact ⟨_, (by rw [← m15]; simp only [List.length_drop]; omega), i11 + 1, y8, o9, n19, rfl, (by omega), ha, hB⟩
    · have r48 := forI_done t20 l13
      refine wp_of ha ?_
      refine wpC_seq ?_
      refine wpC_region ?_
      refine st_val (ex_lss rfl rfl) (by decide) trivial ?_
      refine wpF_end (r := [(1, (.int .i64 p1)), (5, (.int .i64 y8)), (9, v1), (10, (.int .i64 (p0.Lines.length : Int))), (11, (.int .i64 i11)), (12, (.bool (decide (i11 < (p0.Lines.length : Int)))))]) ⟨rfl, rfl, rfl, rfl, rfl, rfl, trivial⟩ ?_
      refine nx ?_
      refine wpC_seq ?_
      refine wpC_false (congrArg (fun b => some (Value.bool b)) (decide_eq_false t20)) ?_
      refine wpC_exit ?_
      refine nt_exit ?_
      refine nt_exit ?_
      refine nb_hit ?_
      refine np_norm ?_
      refine to_k (r := [(5, (.int .i64 y8))]) ⟨rfl, trivial⟩ ?_
      intro a ha
      exact ⟨y8, o9, r48, ha, hB⟩
  · rintro a w10 ⟨y8, o9, rfl, ha, hB⟩
    dsimp only at hF
    refine ap_k ha ?_
    refine nx ?_
    refine wpC_seq ?_
    refine wpC_region ?_
    refine st_val (ex_move rfl) (by decide) trivial ?_
    refine st_val (ex_assign rfl) (by decide) trivial ?_
    refine wpF_end (r := [(4, (.int .i64 y8))]) ⟨rfl, trivial⟩ ?_
    refine nx ?_
    refine wpC_ret ?_
    have e49 := Option.some.inj hF
    subst e49
    refine ret_post (P := Try.prog) (vs := [(.int .i64 y8)]) Try.results103 ⟨rfl, trivial⟩ ?_
    exact ⟨rfl, hB.keeps⟩
  · exact fun _ _ h => h.elim

def fI_RootedProblem_rootsOfDepth_s1 (p0 : T_RootedProblem) : (Int × Int) → Option (Lp (Int × Int) (Int × Int) Int) := fun (s : Int × Int) =>
  if s.1 != 0 then
    (fI_RootedProblem_rootsAbove p0 s.2) >>= fun x25 =>
    if x25 == s.2 then
      some (.out (s.1, s.2))
    else
      (ck (s.1 - 1)) >>= fun x33 =>
      some (.go (x33, x25))
  else
    some (.out (s.1, s.2))
def fI_RootedProblem_rootsOfDepth (fuel : Nat) (p0 : T_RootedProblem) (p1 : Int) : Option Int :=
  (shl 1 p0.Labels) >>= fun x8 =>
  (ck (x8 - 1)) >>= fun x9 =>
  (loopF (fI_RootedProblem_rootsOfDepth_s1 p0) fuel (p1, x9)) >>= fun q14 =>
  match q14 with
  | .inl (y10, y11) =>
    some y11
  | .inr _ => none

def pI_RootedProblem_rootsOfDepth (w : World) (r : Int) : Ending → World → Prop := fun e w' => e = .returned (.int .i64 r) ∧ Keeps w w'
set_option maxRecDepth 100000 in
set_option maxHeartbeats 2000000 in
theorem cI_RootedProblem_rootsOfDepth (fuel : Nat) (w : World) (u0 : List Value) (p0 : T_RootedProblem) (g0 : Rp.rd zt w u0 p0) (p1 : Int) (r : Int) (hF : fI_RootedProblem_rootsOfDepth fuel p0 p1 = some r) :
    Calls Try.prog 59 #[.agg u0.toArray, .int .i64 p1] w (pI_RootedProblem_rootsOfDepth w r) := by
  unfold fI_RootedProblem_rootsOfDepth at hF
  obtain ⟨v1, rfl, h2⟩ := g0
  have hB : Bs (fun _ => 1) (col (fun _ => 1)) w w := Bs.start _ _
  refine calls_start (n := 23) (vs := [(.agg #[(.int .i64 p0.Labels), (.int .i64 p0.Children), v1]), (.int .i64 p1)]) Try.func59 rfl rfl ?_
  refine wpC_seq ?_
  refine wpC_region ?_
  refine st_op (by decide) trivial ?_
  refine wf_box (o := (col (fun _ => 1))) w.heap.size 11 hB.keeps.size (cs := [(.int .i64 p0.Labels), (.int .i64 p0.Children), v1]) rfl rfl ?_
  intro o3 w4 b5 h6 s7
  replace hB := hB.stp s7 (by decide)
  refine st_val (ex_assign rfl) (by decide) trivial ?_
  refine wpF_end (r := [(1, (.int .i64 p1)), (2, (.pointer (some ⟨b5, 0, none⟩)))]) ⟨rfl, rfl, trivial⟩ ?_
  refine nx ?_
  refine wpC_seq ?_
  refine wpC_region ?_
  refine st_val (ex_field rfl Try.underlying29 rfl Try.sizeOf3) (by decide) trivial ?_
  refine st_val (ex_load1 rfl Try.isAgg3 (h6.cell rfl)) (by decide) trivial ?_
  obtain ⟨x8, hx8, hF⟩ := bind_some hF
  refine st_val (ex_shl rfl rfl hx8) (by decide) trivial ?_
  obtain ⟨x9, hx9, hF⟩ := bind_some hF
  refine st_val (ex_sub rfl rfl hx9) (by decide) trivial ?_
  refine st_val (ex_assign rfl) (by decide) trivial ?_
  refine wpF_end (r := [(1, (.int .i64 p1)), (2, (.pointer (some ⟨b5, 0, none⟩))), (5, (.int .i64 x9))]) ⟨rfl, rfl, rfl, trivial⟩ ?_
  refine nx ?_
  obtain ⟨q14, hq14, hF⟩ := bind_some hF
  refine wpC_cutP (fun a w13 => ∃ (y10 : Int) (y11 : Int) (o12 : Tg), q14 = .inl (y10, y11) ∧ Fr a 23 [(5, (.int .i64 y11))] ∧ Bs (fun _ => 1) o12 w w13) (fun _ _ => False) ?_ ?_ ?_
  · refine wpC_block ?_
    refine wpC_loop (fun (K : Nat) a w13 => ∃ (y10 : Int) (y11 : Int) (o12 : Tg), loopF (fI_RootedProblem_rootsOfDepth_s1 p0) K (y10, y11) = some q14 ∧ Fr a 23 [(1, (.int .i64 y10)), (2, (.pointer (some ⟨b5, 0, none⟩))), (5, (.int .i64 y11))] ∧ Bs (fun _ => 1) o12 w w13 ∧ Bx w.heap.size 11 o12 w13 b5 29 [(.int .i64 p0.Labels), (.int .i64 p0.Children), v1]) fuel (fun a ha => ⟨p1, x9, o3, hq14, ha.sub (r := [(1, (.int .i64 p1)), (2, (.pointer (some ⟨b5, 0, none⟩))), (5, (.int .i64 x9))]) ⟨rfl, rfl, rfl, trivial⟩, hB, h6⟩) ?_
    rintro K18 a w13 ⟨y10, y11, o12, l15, ha, hB, h6⟩
    obtain ⟨K22, q19, e23, b20, n21⟩ := loopF_cons l15
    dsimp only [fI_RootedProblem_rootsOfDepth_s1] at b20
    refine wp_of ha ?_
    refine wpC_seq ?_
    refine wpC_seq ?_
    refine wpC_region ?_
    refine st_val (ex_move rfl) (by decide) trivial ?_
    refine st_val (ex_neq rfl rfl) (by decide) trivial ?_
    refine wpF_end (r := [(1, (.int .i64 y10)), (2, (.pointer (some ⟨b5, 0, none⟩))), (5, (.int .i64 y11)), (12, (.bool (y10 != 0)))]) ⟨rfl, rfl, rfl, rfl, trivial⟩ ?_
    refine nx ?_
    refine wpC_cond rfl (fun t24 => ?_) (fun t24 => ?_)
    · rw [if_pos t24] at b20
      refine wpC_skip ?_
      refine nx ?_
      refine wpC_seq ?_
      refine wpC_block ?_
      refine wpC_seq ?_
      refine wpC_region ?_
      refine st_val (ex_loadA rfl Try.isAgg29 Try.sizeOf29 rfl h6.cells) (by decide) trivial ?_
      refine st_val (ex_move rfl) (by decide) trivial ?_
      obtain ⟨x25, hx25, b20⟩ := bind_some b20
      refine st_op (by decide) trivial ?_
      refine wf_call (cI_RootedProblem_rootsAbove w13 _ p0 (⟨_, rfl, (h2.keep hB.keeps)⟩) y11 x25 hx25) Try.call103 ⟨rfl, rfl, trivial⟩ ?_
      rintro e30 w26 ⟨rfl, k27⟩
      have s29 := k27.stp 999 o12
      refine ⟨_, rfl, ?_⟩
      replace h6 := h6.stp s29 (by decide)
      replace hB := hB.stp s29 (by decide)
      refine st_val (ex_assign rfl) (by decide) trivial ?_
      refine wpF_end (r := [(1, (.int .i64 y10)), (2, (.pointer (some ⟨b5, 0, none⟩))), (5, (.int .i64 y11)), (6, (.int .i64 x25))]) ⟨rfl, rfl, rfl, rfl, trivial⟩ ?_
      refine nx ?_
      refine wpC_seq ?_
      refine wpC_seq ?_
      refine wpC_region ?_
      refine st_val (ex_move rfl) (by decide) trivial ?_
      refine st_val (ex_move rfl) (by decide) trivial ?_
      refine st_val (ex_eql rfl rfl) (by decide) trivial ?_
      refine wpF_end (r := [(1, (.int .i64 y10)), (2, (.pointer (some ⟨b5, 0, none⟩))), (5, (.int .i64 y11)), (6, (.int .i64 x25)), (20, (.bool (x25 == y11)))]) ⟨rfl, rfl, rfl, rfl, rfl, trivial⟩ ?_
      refine nx ?_
      refine wpC_cond rfl (fun t31 => ?_) (fun t31 => ?_)
      · rw [if_pos t31] at b20
        refine wpC_exit ?_
        refine nt_exit ?_
        refine nb_miss (by decide) ?_
        refine nt_exit ?_
        refine nt_exit ?_
        refine nb_hit ?_
        refine np_norm ?_
        have e32 := Option.some.inj b20
        subst e32
        refine to_k (r := [(5, (.int .i64 y11))]) ⟨rfl, trivial⟩ ?_
        intro a ha
        exact ⟨y10, y11, o12, n21, ha, hB⟩
      · rw [if_neg (by rw [t31]; decide)] at b20
        refine wpC_skip ?_
        refine nx ?_
        refine wpC_region ?_
        refine st_val (ex_move rfl) (by decide) trivial ?_
        refine st_val (ex_assign rfl) (by decide) trivial ?_
        refine wpF_end (r := [(1, (.int .i64 y10)), (2, (.pointer (some ⟨b5, 0, none⟩))), (5, (.int .i64 x25))]) ⟨rfl, rfl, rfl, trivial⟩ ?_
        refine nb_norm ?_
        refine nx ?_
        refine wpC_region ?_
        refine st_val (ex_move rfl) (by decide) trivial ?_
        obtain ⟨x33, hx33, b20⟩ := bind_some b20
        refine st_val (ex_sub rfl rfl hx33) (by decide) trivial ?_
        refine st_val (ex_assign rfl) (by decide) trivial ?_
        refine wpF_end (r := [(1, (.int .i64 x33)), (2, (.pointer (some ⟨b5, 0, none⟩))), (5, (.int .i64 x25))]) ⟨rfl, rfl, rfl, trivial⟩ ?_
        refine nt_norm ?_
        have e34 := Option.some.inj b20
        subst e34
        refine to_k (r := [(1, (.int .i64 x33)), (2, (.pointer (some ⟨b5, 0, none⟩))), (5, (.int .i64 x25))]) ⟨rfl, rfl, rfl, trivial⟩ ?_
        intro a ha
        exact ⟨K22, by omega, x33, x25, o12, n21, ha, hB, h6⟩
    · rw [if_neg (by rw [t24]; decide)] at b20
      refine wpC_exit ?_
      refine nt_exit ?_
      refine nt_exit ?_
      refine nb_hit ?_
      refine np_norm ?_
      have e35 := Option.some.inj b20
      subst e35
      refine to_k (r := [(5, (.int .i64 y11))]) ⟨rfl, trivial⟩ ?_
      intro a ha
      exact ⟨y10, y11, o12, n21, ha, hB⟩
  · rintro a w13 ⟨y10, y11, o12, rfl, ha, hB⟩
    dsimp only at hF
    refine wp_of ha ?_
    refine wpC_seq ?_
    refine wpC_region ?_
    refine st_val (ex_move rfl) (by decide) trivial ?_
    refine st_val (ex_assign rfl) (by decide) trivial ?_
    refine wpF_end (r := [(4, (.int .i64 y11))]) ⟨rfl, trivial⟩ ?_
    refine nx ?_
    refine wpC_ret ?_
    have e36 := Option.some.inj hF
    subst e36
    refine ret_post (P := Try.prog) (vs := [(.int .i64 y11)]) Try.results59 ⟨rfl, trivial⟩ ?_
    exact ⟨rfl, hB.keeps⟩
  · exact fun _ _ h => h.elim

def fI_LastingLabels (fuel : Nat) (p0 : T_RootedProblem) : Option ((List Int) × Bool) :=
  (fI_IsRootedProblem fuel p0) >>= fun x8 =>
  if !x8 then
    some ([], false)
  else
    (fI_RootedProblem_rootsOfDepth fuel p0 (-1)) >>= fun x16 =>
    (fI_labelsIn fuel x16) >>= fun x22 =>
    some (x22, true)

end Go.Proofs.Ytabclfacjaeblaa
