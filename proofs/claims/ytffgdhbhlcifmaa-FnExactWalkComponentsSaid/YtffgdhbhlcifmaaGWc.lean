/- spec.waFlexible, spec.FlexibleLabels, spec.waFlexibility, spec.FlexibilityOf, spec.waClass, spec.ClassOfWalk: plain functions, and the walks that show that the program computes them (printed by gen.py). -/
import Derived.Test.YtffgdhbhlcifmaaGWa
import Derived.Test.YtffgdhbhlcifmaaGLp
namespace Go.Proofs.Ytffgdhbhlcifmaa
open Go.RowKit
set_option linter.unusedSimpArgs false
set_option linter.unusedVariables false

theorem info1_t_spec_waPart_Wc : (Try.prog.info? 60).map (·.size) = some 3 := by kernel_rfl

def fS_waFlexible_s2 (fuel : Nat) (x35 : T_waPart) : Int → Int → (List Int) → Option (Lp (List Int) (List Int) (List Int)) := fun (i59 : Int) (x69 : Int) (s : List Int) =>
  if x35.period == 1 then
    (fS_l1Put fuel s x69) >>= fun x76 =>
    some (.go x76)
  else
    some (.go s)
def fS_waFlexible_s1 (fuel : Nat) : Int → T_waPart → (List Int) → Option (Lp (List Int) (List Int) (List Int)) := fun (i25 : Int) (x35 : T_waPart) (s : List Int) =>
  (forI (fS_waFlexible_s2 fuel x35) x35.labels 0 s) >>= fun q60 =>
  match q60 with
  | .inl y53 =>
    some (.go y53)
  | .inr _ => none
def fS_waFlexible (fuel : Nat) (p0 : T_WalkProblem) : Option (List Int) :=
  (fS_waParts fuel p0) >>= fun x8 =>
  (forI (fS_waFlexible_s1 fuel) x8 0 []) >>= fun q26 =>
  match q26 with
  | .inl y19 =>
    some y19
  | .inr _ => none

def pS_waFlexible (oo : Tg) (t : Nat) (w : World) (r : List Int) : Ending → World → Prop := fun e w' => ∃ (v0 : Value) (o' : Tg), e = .returned (v0) ∧ Of 3 o' w' v0 r ∧ Keeps w w' ∧ ∀ b, b < w.heap.size → o' b = oo b
set_option maxRecDepth 100000 in
set_option maxHeartbeats 2000000 in
theorem cS_waFlexible (fuel : Nat) (w : World) (oo : Tg) (t : Nat) (ht : 2 ≤ t) (u0 : List Value) (p0 : T_WalkProblem) (g0 : Rp.rd zt w u0 p0) (r : List Int) (hF : fS_waFlexible fuel p0 = some r) :
    Calls Try.prog 62 #[.agg u0.toArray] w (pS_waFlexible oo t w r) := by
  unfold fS_waFlexible at hF
  obtain ⟨v1, rfl, h2⟩ := g0
  have hB : Bs oo (col oo) w w := Bs.start _ _
  refine calls_start (n := 31) (vs := [(.agg #[(.int .i64 p0.Labels), v1])]) Try.func62 rfl rfl ?_
  generalize col oo = o at *
  refine wpC_seq ?_
  refine wpC_region ?_
  refine st_op (by decide) trivial ?_
  refine wf_box (o := o) w.heap.size 11 hB.keeps.size (cs := [(.int .i64 p0.Labels), v1]) rfl rfl ?_
  intro o3 w4 b5 h6 s7
  replace hB := hB.stp s7 (by decide)
  refine st_val (ex_assign rfl) (by decide) trivial ?_
  refine wpF_end (r := [(1, (.pointer (some ⟨b5, 0, none⟩)))]) ⟨rfl, trivial⟩ ?_
  refine nx ?_
  refine wpC_seq ?_
  refine wpC_region ?_
  refine st_val (ex_assign rfl) (by decide) trivial ?_
  refine wpF_end (r := [(1, (.pointer (some ⟨b5, 0, none⟩))), (3, (.slice none 0 0))]) ⟨rfl, rfl, trivial⟩ ?_
  refine nx ?_
  refine wpC_seq ?_
  refine wpC_seq ?_
  refine wpC_region ?_
  refine st_val (ex_loadA rfl Try.isAgg29 Try.sizeOf29 rfl h6.cells) (by decide) trivial ?_
  obtain ⟨x8, hx8, hF⟩ := bind_some hF
  refine st_op (by decide) trivial ?_
  refine wf_call (cS_waParts fuel w4 o3 12 (by decide) _ p0 (⟨_, rfl, (h2.keep hB.keeps)⟩) x8 hx8) Try.call38 ⟨rfl, trivial⟩ ?_
  rintro e15 w9 ⟨v10, o16, rfl, h11, k12, k13⟩
  have s14 := k12.stp' 12 k13
  replace h11 := h11.mono hB.keeps.size
  refine ⟨_, rfl, ?_⟩
  replace h6 := h6.stp s14 (by decide)
  replace hB := hB.stp s14 (by decide)
  refine st_val (ex_lenO rfl h11 Try.underlying57) (by decide) trivial ?_
  refine st_val (ex_move rfl) (by decide) trivial ?_
  refine wpF_end (r := [(3, (.slice none 0 0)), (9, v10), (10, (.int .i64 (x8.length : Int))), (11, (.int .i64 0))]) ⟨rfl, rfl, rfl, rfl, trivial⟩ ?_
  refine nx ?_
  have h17 : RdL o16 w9 (.slice none 0 0) ([] : List Int) := RdL.nil _ _
  have h18 : Of 3 o16 w9 (.slice none 0 0) ([] : List Int) := Of.nil _ _ _
  obtain ⟨q26, hq26, hF⟩ := bind_some hF
  refine wpC_cutN (fun a w24 => ∃ (y19 : List Int) (v20 : Value) (o23 : Tg), q26 = .inl y19 ∧ Fr a 31 [(3, v20)] ∧ Bs oo o23 w w24 ∧ RdL o23 w24 v20 y19 ∧ Of 3 o23 w24 v20 y19) (fun _ _ => False) ?_ ?_ ?_
  · refine wpC_block ?_
    refine wpC_loop (fun (K : Nat) a w24 => ∃ (i25 : Int) (y19 : List Int) (v20 : Value) (o23 : Tg), forI (fS_waFlexible_s1 fuel) (x8.drop i25.toNat) i25 y19 = some q26 ∧ (x8.drop i25.toNat).length = K ∧ 0 ≤ i25 ∧ Fr a 31 [(3, v20), (9, v10), (10, (.int .i64 (x8.length : Int))), (11, (.int .i64 i25))] ∧ Bs oo o23 w w24 ∧ RdL o23 w24 v20 y19 ∧ Of 3 o23 w24 v20 y19 ∧ Ow w.heap.size 60 12 o23 w24 v10 x8) _ (fun a ha => ⟨0, [], (.slice none 0 0), o16, hq26, rfl, Int.le_refl 0, ha.sub (r := [(3, (.slice none 0 0)), (9, v10), (10, (.int .i64 (x8.length : Int))), (11, (.int .i64 0))]) ⟨rfl, rfl, rfl, rfl, trivial⟩, hB, h17, h18, h11⟩) ?_
    rintro K30 a w24 ⟨i25, y19, v20, o23, l27, m29, z28, ha, hB, h21, h22, h11⟩
    by_cases t34 : i25 < (x8.length : Int)
    · obtain ⟨x35, q31, hx35, b32, n33⟩ := forI_cons z28 t34 l27
      have hle := h11.len_le
      dsimp only [fS_waFlexible_s1] at b32
      refine wp_of ha ?_
      refine wpC_seq ?_
      refine wpC_region ?_
      refine st_val (ex_lss rfl rfl) (by decide) trivial ?_
      refine wpF_end (r := [(3, v20), (9, v10), (10, (.int .i64 (x8.length : Int))), (11, (.int .i64 i25)), (12, (.bool (decide (i25 < (x8.length : Int)))))]) ⟨rfl, rfl, rfl, rfl, rfl, trivial⟩ ?_
      refine nx ?_
      refine wpC_seq ?_
      refine wpC_true (congrArg (fun b => some (Value.bool b)) (decide_eq_true t34)) ?_
      refine wpC_skip ?_
      refine nx ?_
      refine wpC_seq ?_
      refine wpC_block ?_
      refine wpC_seq ?_
      refine wpC_region ?_
      refine st_op (by decide) trivial ?_
      refine wf_atW h11 hx35 rfl rfl Try.underlying57 Try.sizeOf60 ?_
      intro b36 f37 c38 h39 h40
      obtain ⟨v41, v43, rfl, h42, h44⟩ := h40
      refine st_val (ex_loadA rfl Try.isAgg60 Try.sizeOf60 rfl h39) (by decide) trivial ?_
      refine st_op (by decide) trivial ?_
      refine wf_alloc (o := o23) w.heap.size 13 hB.keeps.size (cs := [(.slice none 0 0), (.int .i64 0), (.slice none 0 0)]) Try.zeroValue60 rfl ?_
      intro o45 w46 b47 h48 s49
      replace h21 := h21.stp s49 (by decide)
      replace h22 := h22.stp s49 (by decide)
      replace h11 := h11.stp s49 (by decide) (by decide)
      replace h42 := h42.stp s49 (by decide)
      replace h44 := h44.stp s49 (by decide)
      replace hB := hB.stp s49 (by decide)
      refine st_op0 trivial ?_
      refine wf_storeA h48 rfl rfl rfl info1_t_spec_waPart_Wc (by intro c hc; simp only [List.mem_cons, List.not_mem_nil, or_false] at hc; rcases hc with rfl | rfl | rfl <;> first | rfl | exact h42.one1 | exact h44.one1) ?_
      intro w50 h52 s51
      replace h21 := h21.stp s51 (by decide)
      replace h22 := h22.stp s51 (by decide)
      replace h11 := h11.stp s51 (by decide) (by decide)
      replace h42 := h42.stp s51 (by decide)
      replace h44 := h44.stp s51 (by decide)
      replace hB := hB.stp s51 (by decide)
      refine wpF_end (r := [(3, v20), (5, (.pointer (some ⟨b47, 0, none⟩))), (9, v10), (10, (.int .i64 (x8.length : Int))), (11, (.int .i64 i25))]) ⟨rfl, rfl, rfl, rfl, rfl, trivial⟩ ?_
      refine nx ?_
      refine wpC_seq ?_
      refine wpC_region ?_
      refine st_val (ex_field rfl Try.underlying60 rfl Try.sizeOf26) (by decide) trivial ?_
      refine st_val (ex_load1 rfl Try.isAgg26 (h52.cell rfl)) (by decide) trivial ?_
      refine st_val (ex_lenR rfl h42 Try.underlying26) (by decide) trivial ?_
      refine st_val (ex_move rfl) (by decide) trivial ?_
      refine wpF_end (r := [(3, v20), (5, (.pointer (some ⟨b47, 0, none⟩))), (9, v10), (10, (.int .i64 (x8.length : Int))), (11, (.int .i64 i25)), (16, v41), (17, (.int .i64 (x35.labels.length : Int))), (18, (.int .i64 0))]) ⟨rfl, rfl, rfl, rfl, rfl, rfl, rfl, rfl, trivial⟩ ?_
      refine nx ?_
      obtain ⟨q60, hq60, b32⟩ := bind_some b32
      refine wpC_cutN (fun a w58 => ∃ (y53 : List Int) (v54 : Value) (o57 : Tg), q60 = .inl y53 ∧ Fr a 31 [(3, v54), (9, v10), (10, (.int .i64 (x8.length : Int))), (11, (.int .i64 i25))] ∧ Bs oo o57 w w58 ∧ RdL o57 w58 v54 y53 ∧ Of 3 o57 w58 v54 y53 ∧ Ow w.heap.size 60 12 o57 w58 v10 x8) (fun _ _ => False) ?_ ?_ ?_
      · refine wpC_block ?_
        refine wpC_loop (fun (K : Nat) a w58 => ∃ (i59 : Int) (y53 : List Int) (v54 : Value) (o57 : Tg), forI (fS_waFlexible_s2 fuel x35) (x35.labels.drop i59.toNat) i59 y53 = some q60 ∧ (x35.labels.drop i59.toNat).length = K ∧ 0 ≤ i59 ∧ Fr a 31 [(3, v54), (5, (.pointer (some ⟨b47, 0, none⟩))), (9, v10), (10, (.int .i64 (x8.length : Int))), (11, (.int .i64 i25)), (16, v41), (17, (.int .i64 (x35.labels.length : Int))), (18, (.int .i64 i59))] ∧ Bs oo o57 w w58 ∧ RdL o57 w58 v54 y53 ∧ Of 3 o57 w58 v54 y53 ∧ Ow w.heap.size 60 12 o57 w58 v10 x8 ∧ RdL o57 w58 v41 (x35.labels : List Int) ∧ Bx w.heap.size 13 o57 w58 b47 60 [v41, (.int .i64 x35.period), v43] ∧ RdL o57 w58 v43 (x35.residue : List Int)) _ (fun a ha => ⟨0, y19, v20, o45, hq60, rfl, Int.le_refl 0, ha.sub (r := [(3, v20), (5, (.pointer (some ⟨b47, 0, none⟩))), (9, v10), (10, (.int .i64 (x8.length : Int))), (11, (.int .i64 i25)), (16, v41), (17, (.int .i64 (x35.labels.length : Int))), (18, (.int .i64 0))]) ⟨rfl, rfl, rfl, rfl, rfl, rfl, rfl, rfl, trivial⟩, hB, h21, h22, h11, h42, h52, h44⟩) ?_
        rintro K64 a w58 ⟨i59, y53, v54, o57, l61, m63, z62, ha, hB, h55, h56, h11, h42, h52, h44⟩
        by_cases t68 : i59 < (x35.labels.length : Int)
        · obtain ⟨x69, q65, hx69, b66, n67⟩ := forI_cons z62 t68 l61
          have hle := h42.len_le
          dsimp only [fS_waFlexible_s2] at b66
          refine wp_of ha ?_
          refine wpC_seq ?_
          refine wpC_region ?_
          refine st_val (ex_lss rfl rfl) (by decide) trivial ?_
          refine wpF_end (r := [(3, v54), (5, (.pointer (some ⟨b47, 0, none⟩))), (9, v10), (10, (.int .i64 (x8.length : Int))), (11, (.int .i64 i25)), (16, v41), (17, (.int .i64 (x35.labels.length : Int))), (18, (.int .i64 i59)), (19, (.bool (decide (i59 < (x35.labels.length : Int)))))]) ⟨rfl, rfl, rfl, rfl, rfl, rfl, rfl, rfl, rfl, trivial⟩ ?_
          refine nx ?_
          refine wpC_seq ?_
          refine wpC_true (congrArg (fun b => some (Value.bool b)) (decide_eq_true t68)) ?_
          refine wpC_skip ?_
          refine nx ?_
          refine wpC_seq ?_
          refine wpC_block ?_
          refine wpC_seq ?_
          refine wpC_region ?_
          refine st_op (by decide) trivial ?_
          refine wf_atO h42 hx69 rfl rfl Try.underlying26 Try.sizeOf3 ?_
          intro b70 f71 c72 h73 h74
          cases h74
          refine st_val (ex_load1 rfl Try.isAgg3 (cell_of_cells h73)) (by decide) trivial ?_
          refine st_val (ex_assign rfl) (by decide) trivial ?_
          refine wpF_end (r := [(3, v54), (5, (.pointer (some ⟨b47, 0, none⟩))), (7, (.int .i64 x69)), (9, v10), (10, (.int .i64 (x8.length : Int))), (11, (.int .i64 i25)), (16, v41), (17, (.int .i64 (x35.labels.length : Int))), (18, (.int .i64 i59))]) ⟨rfl, rfl, rfl, rfl, rfl, rfl, rfl, rfl, rfl, trivial⟩ ?_
          refine nx ?_
          refine wpC_seq ?_
          refine wpC_region ?_
          refine st_val (ex_field rfl Try.underlying60 rfl Try.sizeOf3) (by decide) trivial ?_
          refine st_val (ex_load1 rfl Try.isAgg3 (h52.cell rfl)) (by decide) trivial ?_
          refine st_val (ex_eql rfl rfl) (by decide) trivial ?_
          refine wpF_end (r := [(3, v54), (5, (.pointer (some ⟨b47, 0, none⟩))), (7, (.int .i64 x69)), (9, v10), (10, (.int .i64 (x8.length : Int))), (11, (.int .i64 i25)), (16, v41), (17, (.int .i64 (x35.labels.length : Int))), (18, (.int .i64 i59)), (24, (.bool (x35.period == 1)))]) ⟨rfl, rfl, rfl, rfl, rfl, rfl, rfl, rfl, rfl, rfl, trivial⟩ ?_
          refine nx ?_
          refine wpC_cond rfl (fun t75 => ?_) (fun t75 => ?_)
          · rw [if_pos t75] at b66
            refine wpC_region ?_
            refine st_val (ex_move rfl) (by decide) trivial ?_
            refine st_val (ex_move rfl) (by decide) trivial ?_
            obtain ⟨x76, hx76, b66⟩ := bind_some b66
            refine st_op (by decide) trivial ?_
            refine wf_call (cS_l1Put fuel w58 o57 14 (by decide) _ y53 h56 x69 x76 hx76) Try.call97 ⟨rfl, rfl, trivial⟩ ?_
            rintro e84 w77 ⟨v78, o85, rfl, h79, k81, k82⟩
            have s83 := k81.stp' 14 k82
            have h80 := h79.rd
            refine ⟨_, rfl, ?_⟩
            replace h55 := h55.stp s83 (by decide)
            replace h56 := h56.stp s83 (by decide)
            replace h11 := h11.stp s83 (by decide) (by decide)
            replace h42 := h42.stp s83 (by decide)
            replace h52 := h52.stp s83 (by decide)
            replace h44 := h44.stp s83 (by decide)
            replace hB := hB.stp s83 (by decide)
            refine st_val (ex_assign rfl) (by decide) trivial ?_
            refine wpF_end (r := [(3, v78), (5, (.pointer (some ⟨b47, 0, none⟩))), (9, v10), (10, (.int .i64 (x8.length : Int))), (11, (.int .i64 i25)), (16, v41), (17, (.int .i64 (x35.labels.length : Int))), (18, (.int .i64 i59))]) ⟨rfl, rfl, rfl, rfl, rfl, rfl, rfl, rfl, trivial⟩ ?_
            refine nb_norm ?_
            refine nx ?_
            refine wpC_region ?_
            refine st_val (ex_add rfl rfl (ck_in (by omega) (by omega))) (by decide) trivial ?_
            refine st_val (ex_move rfl) (by decide) trivial ?_
            refine wpF_end (r := [(3, v78), (5, (.pointer (some ⟨b47, 0, none⟩))), (9, v10), (10, (.int .i64 (x8.length : Int))), (11, (.int .i64 i25)), (16, v41), (17, (.int .i64 (x35.labels.length : Int))), (18, (.int .i64 (i59 + 1)))]) ⟨rfl, rfl, rfl, rfl, rfl, rfl, rfl, rfl, trivial⟩ ?_
            refine nt_norm ?_
            have e86 := Option.some.inj b66
            subst e86
            refine to_k (r := [(3, v78), (5, (.pointer (some ⟨b47, 0, none⟩))), (9, v10), (10, (.int .i64 (x8.length : Int))), (11, (.int .i64 i25)), (16, v41), (17, (.int .i64 (x35.labels.length : Int))), (18, (.int .i64 (i59 + 1)))]) ⟨rfl, rfl, rfl, rfl, rfl, rfl, rfl, rfl, trivial⟩ ?_
            intro a ha
            exact ⟨_, (by rw [← m63]; simp only [List.length_drop]; omega), i59 + 1, x76, v78, o85, n67, rfl, (by omega), ha, hB, h80, h79, h11, h42, h52, h44⟩
          · rw [if_neg (by rw [t75]; decide)] at b66
            refine wpC_skip ?_
            refine nb_norm ?_
            refine nx ?_
            refine wpC_region ?_
            refine st_val (ex_add rfl rfl (ck_in (by omega) (by omega))) (by decide) trivial ?_
            refine st_val (ex_move rfl) (by decide) trivial ?_
            refine wpF_end (r := [(3, v54), (5, (.pointer (some ⟨b47, 0, none⟩))), (9, v10), (10, (.int .i64 (x8.length : Int))), (11, (.int .i64 i25)), (16, v41), (17, (.int .i64 (x35.labels.length : Int))), (18, (.int .i64 (i59 + 1)))]) ⟨rfl, rfl, rfl, rfl, rfl, rfl, rfl, rfl, trivial⟩ ?_
            refine nt_norm ?_
            have e87 := Option.some.inj b66
            subst e87
            refine to_k (r := [(3, v54), (5, (.pointer (some ⟨b47, 0, none⟩))), (9, v10), (10, (.int .i64 (x8.length : Int))), (11, (.int .i64 i25)), (16, v41), (17, (.int .i64 (x35.labels.length : Int))), (18, (.int .i64 (i59 + 1)))]) ⟨rfl, rfl, rfl, rfl, rfl, rfl, rfl, rfl, trivial⟩ ?_
            intro a ha
            exact ⟨_, (by rw [← m63]; simp only [List.length_drop]; omega), i59 + 1, y53, v54, o57, n67, rfl, (by omega), ha, hB, h55, h56, h11, h42, h52, h44⟩
        · have r88 := forI_done t68 l61
          refine wp_of ha ?_
          refine wpC_seq ?_
          refine wpC_region ?_
          refine st_val (ex_lss rfl rfl) (by decide) trivial ?_
          refine wpF_end (r := [(3, v54), (5, (.pointer (some ⟨b47, 0, none⟩))), (9, v10), (10, (.int .i64 (x8.length : Int))), (11, (.int .i64 i25)), (16, v41), (17, (.int .i64 (x35.labels.length : Int))), (18, (.int .i64 i59)), (19, (.bool (decide (i59 < (x35.labels.length : Int)))))]) ⟨rfl, rfl, rfl, rfl, rfl, rfl, rfl, rfl, rfl, trivial⟩ ?_
          refine nx ?_
          refine wpC_seq ?_
          refine wpC_false (congrArg (fun b => some (Value.bool b)) (decide_eq_false t68)) ?_
          refine wpC_exit ?_
          refine nt_exit ?_
          refine nt_exit ?_
          refine nb_hit ?_
          refine np_norm ?_
          refine to_k (r := [(3, v54), (9, v10), (10, (.int .i64 (x8.length : Int))), (11, (.int .i64 i25))]) ⟨rfl, rfl, rfl, rfl, trivial⟩ ?_
          intro a ha
          exact ⟨y53, v54, o57, r88, ha, hB, h55, h56, h11⟩
      · rintro a w58 ⟨y53, v54, o57, rfl, ha, hB, h55, h56, h11⟩
        dsimp only at b32
        refine ap_k ha ?_
        refine nb_norm ?_
        refine nx ?_
        refine wpC_region ?_
        refine st_val (ex_add rfl rfl (ck_in (by omega) (by omega))) (by decide) trivial ?_
        refine st_val (ex_move rfl) (by decide) trivial ?_
        refine wpF_end (r := [(3, v54), (9, v10), (10, (.int .i64 (x8.length : Int))), (11, (.int .i64 (i25 + 1)))]) ⟨rfl, rfl, rfl, rfl, trivial⟩ ?_
        refine nt_norm ?_
        have e89 := Option.some.inj b32
        subst e89
        refine to_k (r := [(3, v54), (9, v10), (10, (.int .i64 (x8.length : Int))), (11, (.int .i64 (i25 + 1)))]) ⟨rfl, rfl, rfl, rfl, trivial⟩ ?_
        intro a ha
        exact ⟨_, (by rw [← m29]; simp only [List.length_drop]; omega), i25 + 1, y53, v54, o57, n33, rfl, (by omega), ha, hB, h55, h56, h11⟩
      · exact fun _ _ h => h.elim
    · have r90 := forI_done t34 l27
      refine wp_of ha ?_
      refine wpC_seq ?_
      refine wpC_region ?_
      refine st_val (ex_lss rfl rfl) (by decide) trivial ?_
      refine wpF_end (r := [(3, v20), (9, v10), (10, (.int .i64 (x8.length : Int))), (11, (.int .i64 i25)), (12, (.bool (decide (i25 < (x8.length : Int)))))]) ⟨rfl, rfl, rfl, rfl, rfl, trivial⟩ ?_
      refine nx ?_
      refine wpC_seq ?_
      refine wpC_false (congrArg (fun b => some (Value.bool b)) (decide_eq_false t34)) ?_
      refine wpC_exit ?_
      refine nt_exit ?_
      refine nt_exit ?_
      refine nb_hit ?_
      refine np_norm ?_
      refine to_k (r := [(3, v20)]) ⟨rfl, trivial⟩ ?_
      intro a ha
      exact ⟨y19, v20, o23, r90, ha, hB, h21, h22⟩
  · rintro a w24 ⟨y19, v20, o23, rfl, ha, hB, h21, h22⟩
    dsimp only at hF
    refine ap_k ha ?_
    refine nx ?_
    refine wpC_seq ?_
    refine wpC_region ?_
    refine st_val (ex_move rfl) (by decide) trivial ?_
    refine st_val (ex_assign rfl) (by decide) trivial ?_
    refine wpF_end (r := [(2, v20)]) ⟨rfl, trivial⟩ ?_
    refine nx ?_
    refine wpC_ret ?_
    have e91 := Option.some.inj hF
    subst e91
    refine ret_post (P := Try.prog) (vs := [v20]) Try.results62 ⟨rfl, trivial⟩ ?_
    exact ⟨_, rt oo o23 w.heap.size 9 t, rfl, h22.rt hB 9 t (by decide), hB.keeps, rt_old _ _ _ _ _⟩
  · exact fun _ _ h => h.elim

def fS_FlexibleLabels (fuel : Nat) (p0 : T_WalkProblem) : Option ((List Int) × Bool) :=
  (fS_waGood p0) >>= fun x8 =>
  if !x8 then
    some ([], false)
  else
    (fS_waFlexible fuel p0) >>= fun x16 =>
    some (x16, true)

def pS_FlexibleLabels (oo : Tg) (t : Nat) (w : World) (r : (List Int) × Bool) : Ending → World → Prop := fun e w' => ∃ (v0 : Value) (o' : Tg), e = .returned (.tuple #[v0, .bool r.2]) ∧ Of 3 o' w' v0 r.1 ∧ Keeps w w' ∧ ∀ b, b < w.heap.size → o' b = oo b
set_option maxRecDepth 100000 in
set_option maxHeartbeats 2000000 in
theorem cS_FlexibleLabels (fuel : Nat) (w : World) (oo : Tg) (t : Nat) (ht : 2 ≤ t) (u0 : List Value) (p0 : T_WalkProblem) (g0 : Rp.rd zt w u0 p0) (r : (List Int) × Bool) (hF : fS_FlexibleLabels fuel p0 = some r) :
    Calls Try.prog 32 #[.agg u0.toArray] w (pS_FlexibleLabels oo t w r) := by
  unfold fS_FlexibleLabels at hF
  obtain ⟨v1, rfl, h2⟩ := g0
  have hB : Bs oo (col oo) w w := Bs.start _ _
  refine calls_start (n := 9) (vs := [(.agg #[(.int .i64 p0.Labels), v1])]) Try.func32 rfl rfl ?_
  generalize col oo = o at *
  refine wpC_seq ?_
  refine wpC_region ?_
  refine st_op (by decide) trivial ?_
  refine wf_box (o := o) w.heap.size 11 hB.keeps.size (cs := [(.int .i64 p0.Labels), v1]) rfl rfl ?_
  intro o3 w4 b5 h6 s7
  replace hB := hB.stp s7 (by decide)
  refine st_val (ex_assign rfl) (by decide) trivial ?_
  refine st_val (ex_assign rfl) (by decide) trivial ?_
  refine wpF_end (r := [(1, (.pointer (some ⟨b5, 0, none⟩)))]) ⟨rfl, trivial⟩ ?_
  refine nx ?_
  refine wpC_seq ?_
  refine wpC_seq ?_
  refine wpC_region ?_
  refine st_val (ex_loadA rfl Try.isAgg29 Try.sizeOf29 rfl h6.cells) (by decide) trivial ?_
  obtain ⟨x8, hx8, hF⟩ := bind_some hF
  refine st_op (by decide) trivial ?_
  refine wf_call (cS_waGood w4 _ p0 (⟨_, rfl, (h2.keep hB.keeps)⟩) x8 hx8) Try.call37 ⟨rfl, trivial⟩ ?_
  rintro e13 w9 ⟨rfl, k10⟩
  have s12 := k10.stp 999 o3
  refine ⟨_, rfl, ?_⟩
  replace h6 := h6.stp s12 (by decide)
  replace hB := hB.stp s12 (by decide)
  refine st_val (ex_not rfl) (by decide) trivial ?_
  refine wpF_end (r := [(1, (.pointer (some ⟨b5, 0, none⟩))), (6, (.bool (!x8)))]) ⟨rfl, rfl, trivial⟩ ?_
  refine nx ?_
  refine wpC_cond rfl (fun t14 => ?_) (fun t14 => ?_)
  · rw [if_pos t14] at hF
    refine wpC_seq ?_
    refine wpC_region ?_
    refine st_val (ex_assign rfl) (by decide) trivial ?_
    refine st_val (ex_assign rfl) (by decide) trivial ?_
    refine wpF_end (r := [(2, (.slice none 0 0)), (3, (.bool false))]) ⟨rfl, rfl, trivial⟩ ?_
    refine nx ?_
    refine wpC_ret ?_
    refine nt_ret ?_
    have e15 := Option.some.inj hF
    subst e15
    refine ret_post (P := Try.prog) (vs := [(.slice none 0 0), (.bool false)]) Try.results32 ⟨rfl, rfl, trivial⟩ ?_
    exact ⟨_, rt oo o3 w.heap.size 9 t, rfl, (Of.nil _ _ _), hB.keeps, rt_old _ _ _ _ _⟩
  · rw [if_neg (by rw [t14]; decide)] at hF
    refine wpC_skip ?_
    refine nx ?_
    refine wpC_seq ?_
    refine wpC_region ?_
    refine st_val (ex_loadA rfl Try.isAgg29 Try.sizeOf29 rfl h6.cells) (by decide) trivial ?_
    obtain ⟨x16, hx16, hF⟩ := bind_some hF
    refine st_op (by decide) trivial ?_
    refine wf_call (cS_waFlexible fuel w9 o3 13 (by decide) _ p0 (⟨_, rfl, (h2.keep hB.keeps)⟩) x16 hx16) Try.call62 ⟨rfl, trivial⟩ ?_
    rintro e24 w17 ⟨v18, o25, rfl, h19, k21, k22⟩
    have s23 := k21.stp' 13 k22
    have h20 := h19.rd
    refine ⟨_, rfl, ?_⟩
    replace h6 := h6.stp s23 (by decide)
    replace hB := hB.stp s23 (by decide)
    refine st_val (ex_assign rfl) (by decide) trivial ?_
    refine st_val (ex_assign rfl) (by decide) trivial ?_
    refine wpF_end (r := [(2, v18), (3, (.bool true))]) ⟨rfl, rfl, trivial⟩ ?_
    refine nx ?_
    refine wpC_ret ?_
    have e26 := Option.some.inj hF
    subst e26
    refine ret_post (P := Try.prog) (vs := [v18, (.bool true)]) Try.results32 ⟨rfl, rfl, trivial⟩ ?_
    exact ⟨_, rt oo o25 w.heap.size 9 t, rfl, h19.rt hB 9 t (by decide), hB.keeps, rt_old _ _ _ _ _⟩

def fS_waFlexibility_s1 (p1 : Int) (x10 : List (List (List Bool))) : Int → Option (Lp Int Int Int) := fun (s : Int) =>
  (
    if decide (s > 0) then
      (ix x10 s) >>= fun x37 =>
      (ix x37 p1) >>= fun x45 =>
      (ix x45 p1) >>= fun x53 =>
      some x53
    else
      some false) >>= fun q33 =>
  if q33 then
    (ck (s - 1)) >>= fun x63 =>
    some (.go x63)
  else
    some (.out s)
def fS_waFlexibility (fuel : Nat) (p0 : T_WalkProblem) (p1 : Int) : Option Int :=
  (ck (p0.Labels * p0.Labels)) >>= fun x8 =>
  (ck (x8 + 1)) >>= fun x9 =>
  (fS_waPowers fuel p0 x9) >>= fun x10 =>
  (ck ((x10.length : Int) - 1)) >>= fun x19 =>
  (loopF (fS_waFlexibility_s1 p1 x10) fuel x19) >>= fun q23 =>
  match q23 with
  | .inl y20 =>
    (ck (y20 + 1)) >>= fun x66 =>
    some x66
  | .inr _ => none

def pS_waFlexibility (w : World) (r : Int) : Ending → World → Prop := fun e w' => e = .returned (.int .i64 r) ∧ Keeps w w'
set_option maxRecDepth 100000 in
set_option maxHeartbeats 2000000 in
theorem cS_waFlexibility (fuel : Nat) (w : World) (u0 : List Value) (p0 : T_WalkProblem) (g0 : Rp.rd zt w u0 p0) (p1 : Int) (r : Int) (hF : fS_waFlexibility fuel p0 p1 = some r) :
    Calls Try.prog 63 #[.agg u0.toArray, .int .i64 p1] w (pS_waFlexibility w r) := by
  unfold fS_waFlexibility at hF
  obtain ⟨v1, rfl, h2⟩ := g0
  have hB : Bs (fun _ => 1) (col (fun _ => 1)) w w := Bs.start _ _
  refine calls_start (n := 36) (vs := [(.agg #[(.int .i64 p0.Labels), v1]), (.int .i64 p1)]) Try.func63 rfl rfl ?_
  refine wpC_seq ?_
  refine wpC_region ?_
  refine st_op (by decide) trivial ?_
  refine wf_box (o := (col (fun _ => 1))) w.heap.size 11 hB.keeps.size (cs := [(.int .i64 p0.Labels), v1]) rfl rfl ?_
  intro o3 w4 b5 h6 s7
  replace hB := hB.stp s7 (by decide)
  refine st_val (ex_assign rfl) (by decide) trivial ?_
  refine wpF_end (r := [(1, (.int .i64 p1)), (2, (.pointer (some ⟨b5, 0, none⟩)))]) ⟨rfl, rfl, trivial⟩ ?_
  refine nx ?_
  refine wpC_seq ?_
  refine wpC_region ?_
  refine st_val (ex_loadA rfl Try.isAgg29 Try.sizeOf29 rfl h6.cells) (by decide) trivial ?_
  refine st_val (ex_field rfl Try.underlying29 rfl Try.sizeOf3) (by decide) trivial ?_
  refine st_val (ex_load1 rfl Try.isAgg3 (h6.cell rfl)) (by decide) trivial ?_
  refine st_val (ex_field rfl Try.underlying29 rfl Try.sizeOf3) (by decide) trivial ?_
  refine st_val (ex_load1 rfl Try.isAgg3 (h6.cell rfl)) (by decide) trivial ?_
  obtain ⟨x8, hx8, hF⟩ := bind_some hF
  refine st_val (ex_mul rfl rfl hx8) (by decide) trivial ?_
  obtain ⟨x9, hx9, hF⟩ := bind_some hF
  refine st_val (ex_add rfl rfl hx9) (by decide) trivial ?_
  obtain ⟨x10, hx10, hF⟩ := bind_some hF
  refine st_op (by decide) trivial ?_
  refine wf_call (cS_waPowers fuel w4 o3 12 (by decide) _ p0 (⟨_, rfl, (h2.keep hB.keeps)⟩) x9 x10 hx10) Try.call98 ⟨rfl, rfl, trivial⟩ ?_
  rintro e17 w11 ⟨v12, o18, rfl, h13, k14, k15⟩
  have s16 := k14.stp' 12 k15
  replace h13 := h13.mono hB.keeps.size
  refine ⟨_, rfl, ?_⟩
  replace h6 := h6.stp s16 (by decide)
  replace hB := hB.stp s16 (by decide)
  refine st_val (ex_assign rfl) (by decide) trivial ?_
  refine wpF_end (r := [(1, (.int .i64 p1)), (5, v12)]) ⟨rfl, rfl, trivial⟩ ?_
  refine nx ?_
  refine wpC_seq ?_
  refine wpC_region ?_
  refine st_val (ex_move rfl) (by decide) trivial ?_
  refine st_val (ex_lenO rfl h13 Try.underlying107) (by decide) trivial ?_
  obtain ⟨x19, hx19, hF⟩ := bind_some hF
  refine st_val (ex_sub rfl rfl hx19) (by decide) trivial ?_
  refine st_val (ex_assign rfl) (by decide) trivial ?_
  refine wpF_end (r := [(1, (.int .i64 p1)), (5, v12), (6, (.int .i64 x19))]) ⟨rfl, rfl, rfl, trivial⟩ ?_
  refine nx ?_
  obtain ⟨q23, hq23, hF⟩ := bind_some hF
  refine wpC_cutP (fun a w22 => ∃ (y20 : Int) (o21 : Tg), q23 = .inl y20 ∧ Fr a 36 [(6, (.int .i64 y20))] ∧ Bs (fun _ => 1) o21 w w22) (fun _ _ => False) ?_ ?_ ?_
  · refine wpC_block ?_
    refine wpC_loop (fun (K : Nat) a w22 => ∃ (y20 : Int) (o21 : Tg), loopF (fS_waFlexibility_s1 p1 x10) K y20 = some q23 ∧ Fr a 36 [(1, (.int .i64 p1)), (5, v12), (6, (.int .i64 y20))] ∧ Bs (fun _ => 1) o21 w w22 ∧ Ow w.heap.size 85 12 o21 w22 v12 x10) fuel (fun a ha => ⟨x19, o18, hq23, ha.sub (r := [(1, (.int .i64 p1)), (5, v12), (6, (.int .i64 x19))]) ⟨rfl, rfl, rfl, trivial⟩, hB, h13⟩) ?_
    rintro K27 a w22 ⟨y20, o21, l24, ha, hB, h13⟩
    obtain ⟨K31, q28, e32, b29, n30⟩ := loopF_cons l24
    dsimp only [fS_waFlexibility_s1] at b29
    refine wp_of ha ?_
    refine wpC_seq ?_
    refine wpC_seq ?_
    refine wpC_region ?_
    refine st_val (ex_move rfl) (by decide) trivial ?_
    refine st_val (ex_gtr rfl rfl) (by decide) trivial ?_
    refine st_val (ex_move rfl) (by decide) trivial ?_
    obtain ⟨q33, hq33, b29⟩ := bind_some b29
    refine wpF_cutAt 11 (fun a35 w34 => Fr a35 36 [(1, (.int .i64 p1)), (5, v12), (6, (.int .i64 y20)), (31, (.bool q33))] ∧ Keeps w22 w34) ?_ ?_
    all_goals simp only [List.take_succ_cons, List.take_zero, List.drop_succ_cons, List.drop_zero]
    · have kp : Keeps w22 w22 := Keeps.refl _
      rcases Bool.eq_false_or_eq_true (decide (y20 > 0)) with t36 | t36
      · rw [if_pos t36] at hq33
        refine st_val (ex_move rfl) (by decide) ⟨_, rfl, (congrArg (fun b => some (Value.bool b)) t36)⟩ ?_
        refine st_val (ex_move rfl) (by decide) ⟨_, rfl, (congrArg (fun b => some (Value.bool b)) t36)⟩ ?_
        obtain ⟨x37, hx37, hq33⟩ := bind_some hq33
        refine st_op (by decide) ⟨_, rfl, (congrArg (fun b => some (Value.bool b)) t36)⟩ ?_
        refine wf_atW h13 hx37 rfl rfl Try.underlying107 Try.sizeOf85 ?_
        intro b38 f39 c40 h41 h42
        obtain ⟨v43, rfl, h44⟩ := h42
        refine st_val (ex_load1 rfl Try.isAgg85 (cell_of_cells h41)) (by decide) ⟨_, rfl, (congrArg (fun b => some (Value.bool b)) t36)⟩ ?_
        refine st_val (ex_move rfl) (by decide) ⟨_, rfl, (congrArg (fun b => some (Value.bool b)) t36)⟩ ?_
        obtain ⟨x45, hx45, hq33⟩ := bind_some hq33
        refine st_op (by decide) ⟨_, rfl, (congrArg (fun b => some (Value.bool b)) t36)⟩ ?_
        refine wf_atO h44 hx45 rfl rfl Try.underlying85 Try.sizeOf87 ?_
        intro b46 f47 c48 h49 h50
        obtain ⟨v51, rfl, h52⟩ := h50
        refine st_val (ex_load1 rfl Try.isAgg87 (cell_of_cells h49)) (by decide) ⟨_, rfl, (congrArg (fun b => some (Value.bool b)) t36)⟩ ?_
        refine st_val (ex_move rfl) (by decide) ⟨_, rfl, (congrArg (fun b => some (Value.bool b)) t36)⟩ ?_
        obtain ⟨x53, hx53, hq33⟩ := bind_some hq33
        refine st_op (by decide) ⟨_, rfl, (congrArg (fun b => some (Value.bool b)) t36)⟩ ?_
        refine wf_atO h52 hx53 rfl rfl Try.underlying87 Try.sizeOf4 ?_
        intro b54 f55 c56 h57 h58
        cases h58
        refine st_val (ex_load1 rfl Try.isAgg4 (cell_of_cells h57)) (by decide) ⟨_, rfl, (congrArg (fun b => some (Value.bool b)) t36)⟩ ?_
        refine st_val (ex_pick_t (congrArg (fun b => some (Value.bool b)) t36) rfl) (by decide) trivial ?_
        have hq332 := Option.some.inj hq33
        refine wpF_end (r := [(1, (.int .i64 p1)), (5, v12), (6, (.int .i64 y20)), (31, (.bool x53))]) ⟨rfl, rfl, rfl, rfl, trivial⟩ ?_
        subst hq332
        refine np_norm (fun a ha => ⟨ha, kp⟩)
      · rw [if_neg (by rw [t36]; decide)] at hq33
        refine st_no rfl rfl (by rw [t36]; rfl) (by decide) ?_
        refine st_no rfl rfl (by rw [t36]; rfl) (by decide) ?_
        refine st_no rfl rfl (by rw [t36]; rfl) (by decide) ?_
        refine st_no rfl rfl (by rw [t36]; rfl) (by decide) ?_
        refine st_no rfl rfl (by rw [t36]; rfl) (by decide) ?_
        refine st_no rfl rfl (by rw [t36]; rfl) (by decide) ?_
        refine st_no rfl rfl (by rw [t36]; rfl) (by decide) ?_
        refine st_no rfl rfl (by rw [t36]; rfl) (by decide) ?_
        refine st_no rfl rfl (by rw [t36]; rfl) (by decide) ?_
        refine st_no rfl rfl (by rw [t36]; rfl) (by decide) ?_
        refine st_val (ex_pick_f (congrArg (fun b => some (Value.bool b)) t36) rfl) (by decide) trivial ?_
        have hq332 := Option.some.inj hq33
        refine wpF_end (r := [(1, (.int .i64 p1)), (5, v12), (6, (.int .i64 y20)), (31, (.bool false))]) ⟨rfl, rfl, rfl, rfl, trivial⟩ ?_
        subst hq332
        refine np_norm (fun a ha => ⟨ha, kp⟩)
    rintro a61 w34 ⟨ha, k59⟩
    have s60 := k59.stp 999 o21
    replace h13 := h13.stp s60 (by decide) (by decide)
    replace hB := hB.stp s60 (by decide)
    refine wl_of ha ?_
    refine wpF_end (r := [(1, (.int .i64 p1)), (5, v12), (6, (.int .i64 y20)), (31, (.bool q33))]) ⟨rfl, rfl, rfl, rfl, trivial⟩ ?_
    refine nx ?_
    refine wpC_cond rfl (fun t62 => ?_) (fun t62 => ?_)
    · rw [if_pos t62] at b29
      refine wpC_skip ?_
      refine nx ?_
      refine wpC_block ?_
      refine wpC_region ?_
      refine st_val (ex_move rfl) (by decide) trivial ?_
      obtain ⟨x63, hx63, b29⟩ := bind_some b29
      refine st_val (ex_sub rfl rfl hx63) (by decide) trivial ?_
      refine st_val (ex_assign rfl) (by decide) trivial ?_
      refine wpF_end (r := [(1, (.int .i64 p1)), (5, v12), (6, (.int .i64 x63))]) ⟨rfl, rfl, rfl, trivial⟩ ?_
      refine nb_norm ?_
      refine nt_norm ?_
      have e64 := Option.some.inj b29
      subst e64
      refine to_k (r := [(1, (.int .i64 p1)), (5, v12), (6, (.int .i64 x63))]) ⟨rfl, rfl, rfl, trivial⟩ ?_
      intro a ha
      exact ⟨K31, by omega, x63, o21, n30, ha, hB, h13⟩
    · rw [if_neg (by rw [t62]; decide)] at b29
      refine wpC_exit ?_
      refine nt_exit ?_
      refine nt_exit ?_
      refine nb_hit ?_
      refine np_norm ?_
      have e65 := Option.some.inj b29
      subst e65
      refine to_k (r := [(6, (.int .i64 y20))]) ⟨rfl, trivial⟩ ?_
      intro a ha
      exact ⟨y20, o21, n30, ha, hB⟩
  · rintro a w22 ⟨y20, o21, rfl, ha, hB⟩
    dsimp only at hF
    refine wp_of ha ?_
    refine wpC_seq ?_
    refine wpC_region ?_
    refine st_val (ex_move rfl) (by decide) trivial ?_
    obtain ⟨x66, hx66, hF⟩ := bind_some hF
    refine st_val (ex_add rfl rfl hx66) (by decide) trivial ?_
    refine st_val (ex_assign rfl) (by decide) trivial ?_
    refine wpF_end (r := [(4, (.int .i64 x66))]) ⟨rfl, trivial⟩ ?_
    refine nx ?_
    refine wpC_ret ?_
    have e67 := Option.some.inj hF
    subst e67
    refine ret_post (P := Try.prog) (vs := [(.int .i64 x66)]) Try.results63 ⟨rfl, trivial⟩ ?_
    exact ⟨rfl, hB.keeps⟩
  · exact fun _ _ h => h.elim

def fS_FlexibilityOf (fuel : Nat) (p0 : T_WalkProblem) (p1 : Int) : Option (Int × Bool) :=
  (fS_waGood p0) >>= fun x8 =>
  (
    if !x8 then
      some true
    else
      (fS_waFlexible fuel p0) >>= fun x18 =>
      (fS_l1Has x18 p1) >>= fun x28 =>
      some (!x28)) >>= fun q14 =>
  if q14 then
    some (0, false)
  else
    (fS_waFlexibility fuel p0 p1) >>= fun x39 =>
    some (x39, true)

def pS_FlexibilityOf (w : World) (r : Int × Bool) : Ending → World → Prop := fun e w' => e = .returned (.tuple #[.int .i64 r.1, .bool r.2]) ∧ Keeps w w'
set_option maxRecDepth 100000 in
set_option maxHeartbeats 2000000 in
theorem cS_FlexibilityOf (fuel : Nat) (w : World) (u0 : List Value) (p0 : T_WalkProblem) (g0 : Rp.rd zt w u0 p0) (p1 : Int) (r : Int × Bool) (hF : fS_FlexibilityOf fuel p0 p1 = some r) :
    Calls Try.prog 30 #[.agg u0.toArray, .int .i64 p1] w (pS_FlexibilityOf w r) := by
  unfold fS_FlexibilityOf at hF
  obtain ⟨v1, rfl, h2⟩ := g0
  have hB : Bs (fun _ => 1) (col (fun _ => 1)) w w := Bs.start _ _
  refine calls_start (n := 19) (vs := [(.agg #[(.int .i64 p0.Labels), v1]), (.int .i64 p1)]) Try.func30 rfl rfl ?_
  refine wpC_seq ?_
  refine wpC_region ?_
  refine st_op (by decide) trivial ?_
  refine wf_box (o := (col (fun _ => 1))) w.heap.size 11 hB.keeps.size (cs := [(.int .i64 p0.Labels), v1]) rfl rfl ?_
  intro o3 w4 b5 h6 s7
  replace hB := hB.stp s7 (by decide)
  refine st_val (ex_assign rfl) (by decide) trivial ?_
  refine st_val (ex_assign rfl) (by decide) trivial ?_
  refine wpF_end (r := [(1, (.int .i64 p1)), (2, (.pointer (some ⟨b5, 0, none⟩)))]) ⟨rfl, rfl, trivial⟩ ?_
  refine nx ?_
  refine wpC_seq ?_
  refine wpC_seq ?_
  refine wpC_region ?_
  refine st_val (ex_loadA rfl Try.isAgg29 Try.sizeOf29 rfl h6.cells) (by decide) trivial ?_
  obtain ⟨x8, hx8, hF⟩ := bind_some hF
  refine st_op (by decide) trivial ?_
  refine wf_call (cS_waGood w4 _ p0 (⟨_, rfl, (h2.keep hB.keeps)⟩) x8 hx8) Try.call37 ⟨rfl, trivial⟩ ?_
  rintro e13 w9 ⟨rfl, k10⟩
  have s12 := k10.stp 999 o3
  refine ⟨_, rfl, ?_⟩
  replace h6 := h6.stp s12 (by decide)
  replace hB := hB.stp s12 (by decide)
  refine st_val (ex_not rfl) (by decide) trivial ?_
  refine st_val (ex_move rfl) (by decide) trivial ?_
  obtain ⟨q14, hq14, hF⟩ := bind_some hF
  refine wpF_cutAt 6 (fun a16 w15 => Fr a16 19 [(1, (.int .i64 p1)), (2, (.pointer (some ⟨b5, 0, none⟩))), (15, (.bool q14))] ∧ Keeps w9 w15) ?_ ?_
  all_goals simp only [List.take_succ_cons, List.take_zero, List.drop_succ_cons, List.drop_zero]
  · have kp : Keeps w9 w9 := Keeps.refl _
    rcases Bool.eq_false_or_eq_true (!x8) with t17 | t17
    · rw [if_pos t17] at hq14
      refine st_no rfl rfl (by rw [t17]; rfl) (by decide) ?_
      refine st_no rfl rfl (by rw [t17]; rfl) (by decide) ?_
      refine st_no rfl rfl (by rw [t17]; rfl) (by decide) ?_
      refine st_no rfl rfl (by rw [t17]; rfl) (by decide) ?_
      refine st_no rfl rfl (by rw [t17]; rfl) (by decide) ?_
      refine st_val (ex_pick_t (congrArg (fun b => some (Value.bool b)) t17) rfl) (by decide) trivial ?_
      have hq142 := Option.some.inj hq14
      refine wpF_end (r := [(1, (.int .i64 p1)), (2, (.pointer (some ⟨b5, 0, none⟩))), (15, (.bool true))]) ⟨rfl, rfl, rfl, trivial⟩ ?_
      subst hq142
      refine np_norm (fun a ha => ⟨ha, kp⟩)
    · rw [if_neg (by rw [t17]; decide)] at hq14
      refine st_val (ex_loadA rfl Try.isAgg29 Try.sizeOf29 rfl h6.cells) (by decide) ⟨_, rfl, (congrArg (fun b => some (Value.bool b)) t17)⟩ ?_
      obtain ⟨x18, hx18, hq14⟩ := bind_some hq14
      refine st_op (by decide) ⟨_, rfl, (congrArg (fun b => some (Value.bool b)) t17)⟩ ?_
      refine wf_call (cS_waFlexible fuel w9 o3 13 (by decide) _ p0 (⟨_, rfl, (h2.keep hB.keeps)⟩) x18 hx18) Try.call62 ⟨rfl, trivial⟩ ?_
      rintro e26 w19 ⟨v20, o27, rfl, h21, k23, k24⟩
      have s25 := k23.stp' 13 k24
      have h22 := h21.rd
      refine ⟨_, rfl, ?_⟩
      replace h6 := h6.stp s25 (by decide)
      replace hB := hB.stp s25 (by decide)
      replace kp := Keeps.trans kp k23
      refine st_val (ex_move rfl) (by decide) ⟨_, rfl, (congrArg (fun b => some (Value.bool b)) t17)⟩ ?_
      obtain ⟨x28, hx28, hq14⟩ := bind_some hq14
      refine st_op (by decide) ⟨_, rfl, (congrArg (fun b => some (Value.bool b)) t17)⟩ ?_
      refine wf_call (cS_l1Has w19 _ x18 h22.z p1 x28 hx28) Try.call61 ⟨rfl, rfl, trivial⟩ ?_
      rintro e33 w29 ⟨rfl, k30⟩
      have s32 := k30.stp 999 o27
      refine ⟨_, rfl, ?_⟩
      replace h22 := h22.stp s32 (by decide)
      replace h21 := h21.stp s32 (by decide)
      replace h6 := h6.stp s32 (by decide)
      replace hB := hB.stp s32 (by decide)
      replace kp := Keeps.trans kp k30
      refine st_val (ex_not rfl) (by decide) ⟨_, rfl, (congrArg (fun b => some (Value.bool b)) t17)⟩ ?_
      refine st_val (ex_pick_f (congrArg (fun b => some (Value.bool b)) t17) rfl) (by decide) trivial ?_
      have hq142 := Option.some.inj hq14
      refine wpF_end (r := [(1, (.int .i64 p1)), (2, (.pointer (some ⟨b5, 0, none⟩))), (15, (.bool (!x28)))]) ⟨rfl, rfl, rfl, trivial⟩ ?_
      subst hq142
      refine np_norm (fun a ha => ⟨ha, kp⟩)
  rintro a36 w15 ⟨ha, k34⟩
  have s35 := k34.stp 999 o3
  replace h6 := h6.stp s35 (by decide)
  replace hB := hB.stp s35 (by decide)
  refine wl_of ha ?_
  refine wpF_end (r := [(1, (.int .i64 p1)), (2, (.pointer (some ⟨b5, 0, none⟩))), (15, (.bool q14))]) ⟨rfl, rfl, rfl, trivial⟩ ?_
  refine nx ?_
  refine wpC_cond rfl (fun t37 => ?_) (fun t37 => ?_)
  · rw [if_pos t37] at hF
    refine wpC_seq ?_
    refine wpC_region ?_
    refine st_val (ex_assign rfl) (by decide) trivial ?_
    refine st_val (ex_assign rfl) (by decide) trivial ?_
    refine wpF_end (r := [(4, (.int .i64 0)), (5, (.bool false))]) ⟨rfl, rfl, trivial⟩ ?_
    refine nx ?_
    refine wpC_ret ?_
    refine nt_ret ?_
    have e38 := Option.some.inj hF
    subst e38
    refine ret_post (P := Try.prog) (vs := [(.int .i64 0), (.bool false)]) Try.results30 ⟨rfl, rfl, trivial⟩ ?_
    exact ⟨rfl, hB.keeps⟩
  · rw [if_neg (by rw [t37]; decide)] at hF
    refine wpC_skip ?_
    refine nx ?_
    refine wpC_seq ?_
    refine wpC_region ?_
    refine st_val (ex_loadA rfl Try.isAgg29 Try.sizeOf29 rfl h6.cells) (by decide) trivial ?_
    refine st_val (ex_move rfl) (by decide) trivial ?_
    obtain ⟨x39, hx39, hF⟩ := bind_some hF
    refine st_op (by decide) trivial ?_
    refine wf_call (cS_waFlexibility fuel w15 _ p0 (⟨_, rfl, (h2.keep hB.keeps)⟩) p1 x39 hx39) Try.call63 ⟨rfl, rfl, trivial⟩ ?_
    rintro e44 w40 ⟨rfl, k41⟩
    have s43 := k41.stp 999 o3
    refine ⟨_, rfl, ?_⟩
    replace h6 := h6.stp s43 (by decide)
    replace hB := hB.stp s43 (by decide)
    refine st_val (ex_assign rfl) (by decide) trivial ?_
    refine st_val (ex_assign rfl) (by decide) trivial ?_
    refine wpF_end (r := [(4, (.int .i64 x39)), (5, (.bool true))]) ⟨rfl, rfl, trivial⟩ ?_
    refine nx ?_
    refine wpC_ret ?_
    have e45 := Option.some.inj hF
    subst e45
    refine ret_post (P := Try.prog) (vs := [(.int .i64 x39), (.bool true)]) Try.results30 ⟨rfl, rfl, trivial⟩ ?_
    exact ⟨rfl, hB.keeps⟩

def fS_waClass (fuel : Nat) (p0 : T_WalkProblem) : Option Int :=
  (fS_waLoop p0) >>= fun x8 =>
  if decide (x8 ≥ 0) then
    some 3
  else
    (fS_waFlexible fuel p0) >>= fun x16 =>
    if decide ((x16.length : Int) > 0) then
      some 2
    else
      (fS_waParts fuel p0) >>= fun x28 =>
      if decide ((x28.length : Int) > 0) then
        some 1
      else
        some 0

def pS_waClass (w : World) (r : Int) : Ending → World → Prop := fun e w' => e = .returned (.int .i64 r) ∧ Keeps w w'
set_option maxRecDepth 100000 in
set_option maxHeartbeats 2000000 in
theorem cS_waClass (fuel : Nat) (w : World) (u0 : List Value) (p0 : T_WalkProblem) (g0 : Rp.rd zt w u0 p0) (r : Int) (hF : fS_waClass fuel p0 = some r) :
    Calls Try.prog 67 #[.agg u0.toArray] w (pS_waClass w r) := by
  unfold fS_waClass at hF
  obtain ⟨v1, rfl, h2⟩ := g0
  have hB : Bs (fun _ => 1) (col (fun _ => 1)) w w := Bs.start _ _
  refine calls_start (n := 17) (vs := [(.agg #[(.int .i64 p0.Labels), v1])]) Try.func67 rfl rfl ?_
  refine wpC_seq ?_
  refine wpC_region ?_
  refine st_op (by decide) trivial ?_
  refine wf_box (o := (col (fun _ => 1))) w.heap.size 11 hB.keeps.size (cs := [(.int .i64 p0.Labels), v1]) rfl rfl ?_
  intro o3 w4 b5 h6 s7
  replace hB := hB.stp s7 (by decide)
  refine st_val (ex_assign rfl) (by decide) trivial ?_
  refine wpF_end (r := [(1, (.pointer (some ⟨b5, 0, none⟩)))]) ⟨rfl, trivial⟩ ?_
  refine nx ?_
  refine wpC_seq ?_
  refine wpC_block ?_
  refine wpC_seq ?_
  refine wpC_region ?_
  refine st_val (ex_loadA rfl Try.isAgg29 Try.sizeOf29 rfl h6.cells) (by decide) trivial ?_
  obtain ⟨x8, hx8, hF⟩ := bind_some hF
  refine st_op (by decide) trivial ?_
  refine wf_call (cS_waLoop w4 _ p0 (⟨_, rfl, (h2.keep hB.keeps)⟩) x8 hx8) Try.call102 ⟨rfl, trivial⟩ ?_
  rintro e13 w9 ⟨rfl, k10⟩
  have s12 := k10.stp 999 o3
  refine ⟨_, rfl, ?_⟩
  replace h6 := h6.stp s12 (by decide)
  replace hB := hB.stp s12 (by decide)
  refine st_val (ex_geq rfl rfl) (by decide) trivial ?_
  refine st_val (ex_assign rfl) (by decide) trivial ?_
  refine wpF_end (r := [(1, (.pointer (some ⟨b5, 0, none⟩))), (3, (.bool (decide (x8 ≥ 0))))]) ⟨rfl, rfl, trivial⟩ ?_
  refine nx ?_
  refine wpC_cond rfl (fun t14 => ?_) (fun t14 => ?_)
  · rw [if_pos t14] at hF
    refine wpC_seq ?_
    refine wpC_region ?_
    refine st_val (ex_assign rfl) (by decide) trivial ?_
    refine wpF_end (r := [(2, (.int .i64 3))]) ⟨rfl, trivial⟩ ?_
    refine nx ?_
    refine wpC_ret ?_
    refine nb_ret ?_
    refine nt_ret ?_
    have e15 := Option.some.inj hF
    subst e15
    refine ret_post (P := Try.prog) (vs := [(.int .i64 3)]) Try.results67 ⟨rfl, trivial⟩ ?_
    exact ⟨rfl, hB.keeps⟩
  · rw [if_neg (by rw [t14]; decide)] at hF
    refine wpC_seq ?_
    refine wpC_region ?_
    refine st_val (ex_loadA rfl Try.isAgg29 Try.sizeOf29 rfl h6.cells) (by decide) trivial ?_
    obtain ⟨x16, hx16, hF⟩ := bind_some hF
    refine st_op (by decide) trivial ?_
    refine wf_call (cS_waFlexible fuel w9 o3 13 (by decide) _ p0 (⟨_, rfl, (h2.keep hB.keeps)⟩) x16 hx16) Try.call62 ⟨rfl, trivial⟩ ?_
    rintro e24 w17 ⟨v18, o25, rfl, h19, k21, k22⟩
    have s23 := k21.stp' 13 k22
    have h20 := h19.rd
    refine ⟨_, rfl, ?_⟩
    replace h6 := h6.stp s23 (by decide)
    replace hB := hB.stp s23 (by decide)
    refine st_val (ex_lenR rfl h20 Try.underlying26) (by decide) trivial ?_
    refine st_val (ex_gtr rfl rfl) (by decide) trivial ?_
    refine st_val (ex_assign rfl) (by decide) trivial ?_
    refine wpF_end (r := [(1, (.pointer (some ⟨b5, 0, none⟩))), (7, (.bool (decide ((x16.length : Int) > 0))))]) ⟨rfl, rfl, trivial⟩ ?_
    refine nx ?_
    refine wpC_cond rfl (fun t26 => ?_) (fun t26 => ?_)
    · rw [if_pos t26] at hF
      refine wpC_seq ?_
      refine wpC_region ?_
      refine st_val (ex_assign rfl) (by decide) trivial ?_
      refine wpF_end (r := [(2, (.int .i64 2))]) ⟨rfl, trivial⟩ ?_
      refine nx ?_
      refine wpC_ret ?_
      refine nb_ret ?_
      refine nt_ret ?_
      have e27 := Option.some.inj hF
      subst e27
      refine ret_post (P := Try.prog) (vs := [(.int .i64 2)]) Try.results67 ⟨rfl, trivial⟩ ?_
      exact ⟨rfl, hB.keeps⟩
    · rw [if_neg (by rw [t26]; decide)] at hF
      refine wpC_seq ?_
      refine wpC_region ?_
      refine st_val (ex_loadA rfl Try.isAgg29 Try.sizeOf29 rfl h6.cells) (by decide) trivial ?_
      obtain ⟨x28, hx28, hF⟩ := bind_some hF
      refine st_op (by decide) trivial ?_
      refine wf_call (cS_waParts fuel w17 o25 14 (by decide) _ p0 (⟨_, rfl, (h2.keep hB.keeps)⟩) x28 hx28) Try.call38 ⟨rfl, trivial⟩ ?_
      rintro e35 w29 ⟨v30, o36, rfl, h31, k32, k33⟩
      have s34 := k32.stp' 14 k33
      replace h31 := h31.mono hB.keeps.size
      refine ⟨_, rfl, ?_⟩
      replace h6 := h6.stp s34 (by decide)
      replace hB := hB.stp s34 (by decide)
      refine st_val (ex_lenO rfl h31 Try.underlying57) (by decide) trivial ?_
      refine st_val (ex_gtr rfl rfl) (by decide) trivial ?_
      refine st_val (ex_assign rfl) (by decide) trivial ?_
      refine wpF_end (r := [(12, (.bool (decide ((x28.length : Int) > 0))))]) ⟨rfl, trivial⟩ ?_
      refine nx ?_
      refine wpC_cond rfl (fun t37 => ?_) (fun t37 => ?_)
      · rw [if_pos t37] at hF
        refine wpC_seq ?_
        refine wpC_region ?_
        refine st_val (ex_assign rfl) (by decide) trivial ?_
        refine wpF_end (r := [(2, (.int .i64 1))]) ⟨rfl, trivial⟩ ?_
        refine nx ?_
        refine wpC_ret ?_
        refine nb_ret ?_
        refine nt_ret ?_
        have e38 := Option.some.inj hF
        subst e38
        refine ret_post (P := Try.prog) (vs := [(.int .i64 1)]) Try.results67 ⟨rfl, trivial⟩ ?_
        exact ⟨rfl, hB.keeps⟩
      · rw [if_neg (by rw [t37]; decide)] at hF
        refine wpC_skip ?_
        refine nb_norm ?_
        refine nx ?_
        refine wpC_seq ?_
        refine wpC_region ?_
        refine st_val (ex_assign rfl) (by decide) trivial ?_
        refine wpF_end (r := [(2, (.int .i64 0))]) ⟨rfl, trivial⟩ ?_
        refine nx ?_
        refine wpC_ret ?_
        have e39 := Option.some.inj hF
        subst e39
        refine ret_post (P := Try.prog) (vs := [(.int .i64 0)]) Try.results67 ⟨rfl, trivial⟩ ?_
        exact ⟨rfl, hB.keeps⟩

def fS_ClassOfWalk (fuel : Nat) (p0 : T_WalkProblem) : Option (Int × Bool) :=
  (fS_waGood p0) >>= fun x8 =>
  if !x8 then
    some (0, false)
  else
    (fS_waClass fuel p0) >>= fun x16 =>
    some (x16, true)

def pS_ClassOfWalk (w : World) (r : Int × Bool) : Ending → World → Prop := fun e w' => e = .returned (.tuple #[.int .i64 r.1, .bool r.2]) ∧ Keeps w w'
set_option maxRecDepth 100000 in
set_option maxHeartbeats 2000000 in
theorem cS_ClassOfWalk (fuel : Nat) (w : World) (u0 : List Value) (p0 : T_WalkProblem) (g0 : Rp.rd zt w u0 p0) (r : Int × Bool) (hF : fS_ClassOfWalk fuel p0 = some r) :
    Calls Try.prog 34 #[.agg u0.toArray] w (pS_ClassOfWalk w r) := by
  unfold fS_ClassOfWalk at hF
  obtain ⟨v1, rfl, h2⟩ := g0
  have hB : Bs (fun _ => 1) (col (fun _ => 1)) w w := Bs.start _ _
  refine calls_start (n := 9) (vs := [(.agg #[(.int .i64 p0.Labels), v1])]) Try.func34 rfl rfl ?_
  refine wpC_seq ?_
  refine wpC_region ?_
  refine st_op (by decide) trivial ?_
  refine wf_box (o := (col (fun _ => 1))) w.heap.size 11 hB.keeps.size (cs := [(.int .i64 p0.Labels), v1]) rfl rfl ?_
  intro o3 w4 b5 h6 s7
  replace hB := hB.stp s7 (by decide)
  refine st_val (ex_assign rfl) (by decide) trivial ?_
  refine st_val (ex_assign rfl) (by decide) trivial ?_
  refine wpF_end (r := [(1, (.pointer (some ⟨b5, 0, none⟩)))]) ⟨rfl, trivial⟩ ?_
  refine nx ?_
  refine wpC_seq ?_
  refine wpC_seq ?_
  refine wpC_region ?_
  refine st_val (ex_loadA rfl Try.isAgg29 Try.sizeOf29 rfl h6.cells) (by decide) trivial ?_
  obtain ⟨x8, hx8, hF⟩ := bind_some hF
  refine st_op (by decide) trivial ?_
  refine wf_call (cS_waGood w4 _ p0 (⟨_, rfl, (h2.keep hB.keeps)⟩) x8 hx8) Try.call37 ⟨rfl, trivial⟩ ?_
  rintro e13 w9 ⟨rfl, k10⟩
  have s12 := k10.stp 999 o3
  refine ⟨_, rfl, ?_⟩
  replace h6 := h6.stp s12 (by decide)
  replace hB := hB.stp s12 (by decide)
  refine st_val (ex_not rfl) (by decide) trivial ?_
  refine wpF_end (r := [(1, (.pointer (some ⟨b5, 0, none⟩))), (6, (.bool (!x8)))]) ⟨rfl, rfl, trivial⟩ ?_
  refine nx ?_
  refine wpC_cond rfl (fun t14 => ?_) (fun t14 => ?_)
  · rw [if_pos t14] at hF
    refine wpC_seq ?_
    refine wpC_region ?_
    refine st_val (ex_assign rfl) (by decide) trivial ?_
    refine st_val (ex_assign rfl) (by decide) trivial ?_
    refine wpF_end (r := [(2, (.int .i64 0)), (3, (.bool false))]) ⟨rfl, rfl, trivial⟩ ?_
    refine nx ?_
    refine wpC_ret ?_
    refine nt_ret ?_
    have e15 := Option.some.inj hF
    subst e15
    refine ret_post (P := Try.prog) (vs := [(.int .i64 0), (.bool false)]) Try.results34 ⟨rfl, rfl, trivial⟩ ?_
    exact ⟨rfl, hB.keeps⟩
  · rw [if_neg (by rw [t14]; decide)] at hF
    refine wpC_skip ?_
    refine nx ?_
    refine wpC_seq ?_
    refine wpC_region ?_
    refine st_val (ex_loadA rfl Try.isAgg29 Try.sizeOf29 rfl h6.cells) (by decide) trivial ?_
    obtain ⟨x16, hx16, hF⟩ := bind_some hF
    refine st_op (by decide) trivial ?_
    refine wf_call (cS_waClass fuel w9 _ p0 (⟨_, rfl, (h2.keep hB.keeps)⟩) x16 hx16) Try.call67 ⟨rfl, trivial⟩ ?_
    rintro e21 w17 ⟨rfl, k18⟩
    have s20 := k18.stp 999 o3
    refine ⟨_, rfl, ?_⟩
    replace h6 := h6.stp s20 (by decide)
    replace hB := hB.stp s20 (by decide)
    refine st_val (ex_assign rfl) (by decide) trivial ?_
    refine st_val (ex_assign rfl) (by decide) trivial ?_
    refine wpF_end (r := [(2, (.int .i64 x16)), (3, (.bool true))]) ⟨rfl, rfl, trivial⟩ ?_
    refine nx ?_
    refine wpC_ret ?_
    have e22 := Option.some.inj hF
    subst e22
    refine ret_post (P := Try.prog) (vs := [(.int .i64 x16), (.bool true)]) Try.results34 ⟨rfl, rfl, trivial⟩ ?_
    exact ⟨rfl, hB.keeps⟩

end Go.Proofs.Ytffgdhbhlcifmaa
