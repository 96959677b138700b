/- spec.maLine, spec.roText, spec.RootedText, impl.wordsLine, impl.rootedText, impl.RootedText: plain functions, and the walks that show that the program computes them (printed by gen.py). -/
import Derived.Test.YthhpcledhflapaaDoorGB
import Derived.Test.YthhpcledhflapaaDoorTxk
namespace Go.Proofs.YthhpcledhflapaaDoor
open Go.RowKit
set_option linter.unusedSimpArgs false
set_option linter.unusedVariables false

theorem info2_t_string_Sa : Inf Tryd.prog 9 (.string ⟨#[]⟩) 1 16 := by unfold Inf; kernel_rfl

def fS_maLine_s1 : Int → Int → Str → Option (Lp Str Str Str) := fun (i4 : Int) (x14 : Int) (s : Str) =>
  if decide (x14 < 0) then
    (sadd s (⟨[32, 42]⟩ : Str)) >>= fun x21 =>
    some (.go x21)
  else
    (fS_l1Num x14) >>= fun x23 =>
    (sadd (⟨[32]⟩ : Str) x23) >>= fun x29 =>
    (sadd s x29) >>= fun x30 =>
    some (.go x30)
def fS_maLine (p0 : Str) (p1 : List Int) : Option Str :=
  (forI (fS_maLine_s1) p1 0 p0) >>= fun q5 =>
  match q5 with
  | .inl y1 =>
    some y1
  | .inr _ => none

def pS_maLine (w : World) (r : Str) : Ending → World → Prop := fun e w' => e = .returned (.string ⟨r.b.toArray⟩) ∧ Keeps w w'
set_option maxRecDepth 100000 in
set_option maxHeartbeats 2000000 in
theorem cS_maLine (w : World) (p0 : Str) (u1 : Value) (p1 : List Int) (g1 : RdL zt w u1 p1) (r : Str) (hF : fS_maLine p0 p1 = some r) :
    Calls Tryd.prog 63 #[.string ⟨p0.b.toArray⟩, u1] w (pS_maLine w r) := by
  unfold fS_maLine at hF
  have hB : Bs (fun _ => 1) (col (fun _ => 1)) w w := Bs.start _ _
  refine calls_start (n := 24) (vs := [(.string ⟨p0.b.toArray⟩), u1]) Tryd.func63 rfl rfl ?_
  refine wpC_seq ?_
  refine wpC_region ?_
  refine st_val (ex_assign rfl) (by decide) trivial ?_
  refine wpF_end (r := [(0, (.string ⟨p0.b.toArray⟩)), (1, u1)]) ⟨rfl, rfl, trivial⟩ ?_
  refine nx ?_
  refine wpC_seq ?_
  refine wpC_seq ?_
  refine wpC_region ?_
  refine st_val (ex_move rfl) (by decide) trivial ?_
  refine st_val (ex_lenR rfl g1 Tryd.underlying22) (by decide) trivial ?_
  refine st_val (ex_move rfl) (by decide) trivial ?_
  refine wpF_end (r := [(0, (.string ⟨p0.b.toArray⟩)), (7, u1), (8, (.int .i64 (p1.length : Int))), (9, (.int .i64 0))]) ⟨rfl, rfl, rfl, rfl, trivial⟩ ?_
  refine nx ?_
  obtain ⟨q5, hq5, hF⟩ := bind_some hF
  refine wpC_cutN (fun a w3 => ∃ (y1 : Str) (o2 : Tg), q5 = .inl y1 ∧ Fr a 24 [(0, (.string ⟨y1.b.toArray⟩))] ∧ Bs (fun _ => 1) o2 w w3) (fun _ _ => False) ?_ ?_ ?_
  · refine wpC_block ?_
    refine wpC_loop (fun (K : Nat) a w3 => ∃ (i4 : Int) (y1 : Str) (o2 : Tg), forI (fS_maLine_s1) (p1.drop i4.toNat) i4 y1 = some q5 ∧ (p1.drop i4.toNat).length = K ∧ 0 ≤ i4 ∧ Fr a 24 [(0, (.string ⟨y1.b.toArray⟩)), (7, u1), (8, (.int .i64 (p1.length : Int))), (9, (.int .i64 i4))] ∧ Bs (fun _ => 1) o2 w w3) _ (fun a ha => ⟨0, p0, (col (fun _ => 1)), hq5, rfl, Int.le_refl 0, ha.sub (r := [(0, (.string ⟨p0.b.toArray⟩)), (7, u1), (8, (.int .i64 (p1.length : Int))), (9, (.int .i64 0))]) ⟨rfl, rfl, rfl, rfl, trivial⟩, hB⟩) ?_
    rintro K9 a w3 ⟨i4, y1, o2, l6, m8, z7, ha, hB⟩
    by_cases t13 : i4 < (p1.length : Int)
    · obtain ⟨x14, q10, hx14, b11, n12⟩ := forI_cons z7 t13 l6
      have hle := g1.len_le
      dsimp only [fS_maLine_s1] at b11
      refine wp_of ha ?_
      refine wpC_seq ?_
      refine wpC_region ?_
      refine st_val (ex_lss rfl rfl) (by decide) trivial ?_
      refine wpF_end (r := [(0, (.string ⟨y1.b.toArray⟩)), (7, u1), (8, (.int .i64 (p1.length : Int))), (9, (.int .i64 i4)), (10, (.bool (decide (i4 < (p1.length : Int)))))]) ⟨rfl, rfl, rfl, rfl, rfl, trivial⟩ ?_
      refine nx ?_
      refine wpC_seq ?_
      refine wpC_true (congrArg (fun b => some (Value.bool b)) (decide_eq_true t13)) ?_
      refine wpC_skip ?_
      refine nx ?_
      refine wpC_seq ?_
      refine wpC_block ?_
      refine wpC_seq ?_
      refine wpC_region ?_
      refine st_op (by decide) trivial ?_
      refine wf_atZ g1 hx14 hB rfl rfl Tryd.underlying22 Tryd.sizeOf3 ?_
      intro b15 f16 c17 h18 h19
      cases h19
      refine st_val (ex_load1 rfl Tryd.isAgg3 (cell_of_cells h18)) (by decide) trivial ?_
      refine st_val (ex_assign rfl) (by decide) trivial ?_
      refine wpF_end (r := [(0, (.string ⟨y1.b.toArray⟩)), (6, (.int .i64 x14)), (7, u1), (8, (.int .i64 (p1.length : Int))), (9, (.int .i64 i4))]) ⟨rfl, rfl, rfl, rfl, rfl, trivial⟩ ?_
      refine nx ?_
      refine wpC_seq ?_
      refine wpC_region ?_
      refine st_val (ex_move rfl) (by decide) trivial ?_
      refine st_val (ex_lss rfl rfl) (by decide) trivial ?_
      refine wpF_end (r := [(0, (.string ⟨y1.b.toArray⟩)), (6, (.int .i64 x14)), (7, u1), (8, (.int .i64 (p1.length : Int))), (9, (.int .i64 i4)), (14, (.bool (decide (x14 < 0))))]) ⟨rfl, rfl, rfl, rfl, rfl, rfl, trivial⟩ ?_
      refine nx ?_
      refine wpC_cond rfl (fun t20 => ?_) (fun t20 => ?_)
      · rw [if_pos t20] at b11
        refine wpC_region ?_
        refine st_val (ex_move rfl) (by decide) trivial ?_
        obtain ⟨x21, hx21, b11⟩ := bind_some b11
        refine st_val (ex_sadd (a := y1) (b := (⟨[32, 42]⟩ : Str)) rfl rfl hx21) (by decide) trivial ?_
        refine st_val (ex_assign rfl) (by decide) trivial ?_
        refine wpF_end (r := [(0, (.string ⟨x21.b.toArray⟩)), (7, u1), (8, (.int .i64 (p1.length : Int))), (9, (.int .i64 i4))]) ⟨rfl, rfl, rfl, rfl, trivial⟩ ?_
        refine nb_norm ?_
        refine nx ?_
        refine wpC_region ?_
        refine st_val (ex_add rfl rfl (ck_in (by omega) (by omega))) (by decide) trivial ?_
        refine st_val (ex_move rfl) (by decide) trivial ?_
        refine wpF_end (r := [(0, (.string ⟨x21.b.toArray⟩)), (7, u1), (8, (.int .i64 (p1.length : Int))), (9, (.int .i64 (i4 + 1)))]) ⟨rfl, rfl, rfl, rfl, trivial⟩ ?_
        refine nt_norm ?_
        have e22 := Option.some.inj b11
        subst e22
        refine to_k (r := [(0, (.string ⟨x21.b.toArray⟩)), (7, u1), (8, (.int .i64 (p1.length : Int))), (9, (.int .i64 (i4 + 1)))]) ⟨rfl, rfl, rfl, rfl, trivial⟩ ?_
        intro a ha
        exact ⟨_, (by rw [← m8]; simp only [List.length_drop]; omega), i4 + 1, x21, o2, n12, rfl, (by omega), ha, hB⟩
      · rw [if_neg (by rw [t20]; decide)] at b11
        refine wpC_region ?_
        refine st_val (ex_move rfl) (by decide) trivial ?_
        refine st_val (ex_move rfl) (by decide) trivial ?_
        obtain ⟨x23, hx23, b11⟩ := bind_some b11
        refine st_op (by decide) trivial ?_
        refine wf_call (cS_l1Num w3 x14 x23 hx23) Tryd.call74 ⟨rfl, trivial⟩ ?_
        rintro e28 w24 ⟨rfl, k25⟩
        have s27 := k25.stp 999 o2
        refine ⟨_, rfl, ?_⟩
        replace hB := hB.stp s27 (by decide)
        obtain ⟨x29, hx29, b11⟩ := bind_some b11
        refine st_val (ex_sadd (a := (⟨[32]⟩ : Str)) (b := x23) rfl rfl hx29) (by decide) trivial ?_
        obtain ⟨x30, hx30, b11⟩ := bind_some b11
        refine st_val (ex_sadd (a := y1) (b := x29) rfl rfl hx30) (by decide) trivial ?_
        refine st_val (ex_assign rfl) (by decide) trivial ?_
        refine wpF_end (r := [(0, (.string ⟨x30.b.toArray⟩)), (7, u1), (8, (.int .i64 (p1.length : Int))), (9, (.int .i64 i4))]) ⟨rfl, rfl, rfl, rfl, trivial⟩ ?_
        refine nb_norm ?_
        refine nx ?_
        refine wpC_region ?_
        refine st_val (ex_add rfl rfl (ck_in (by omega) (by omega))) (by decide) trivial ?_
        refine st_val (ex_move rfl) (by decide) trivial ?_
        refine wpF_end (r := [(0, (.string ⟨x30.b.toArray⟩)), (7, u1), (8, (.int .i64 (p1.length : Int))), (9, (.int .i64 (i4 + 1)))]) ⟨rfl, rfl, rfl, rfl, trivial⟩ ?_
        refine nt_norm ?_
        have e31 := Option.some.inj b11
        subst e31
        refine to_k (r := [(0, (.string ⟨x30.b.toArray⟩)), (7, u1), (8, (.int .i64 (p1.length : Int))), (9, (.int .i64 (i4 + 1)))]) ⟨rfl, rfl, rfl, rfl, trivial⟩ ?_
        intro a ha
        exact ⟨_, (by rw [← m8]; simp only [List.length_drop]; omega), i4 + 1, x30, o2, n12, rfl, (by omega), ha, hB⟩
    · have r32 := forI_done t13 l6
      refine wp_of ha ?_
      refine wpC_seq ?_
      refine wpC_region ?_
      refine st_val (ex_lss rfl rfl) (by decide) trivial ?_
      refine wpF_end (r := [(0, (.string ⟨y1.b.toArray⟩)), (7, u1), (8, (.int .i64 (p1.length : Int))), (9, (.int .i64 i4)), (10, (.bool (decide (i4 < (p1.length : Int)))))]) ⟨rfl, rfl, rfl, rfl, rfl, trivial⟩ ?_
      refine nx ?_
      refine wpC_seq ?_
      refine wpC_false (congrArg (fun b => some (Value.bool b)) (decide_eq_false t13)) ?_
      refine wpC_exit ?_
      refine nt_exit ?_
      refine nt_exit ?_
      refine nb_hit ?_
      refine np_norm ?_
      refine to_k (r := [(0, (.string ⟨y1.b.toArray⟩))]) ⟨rfl, trivial⟩ ?_
      intro a ha
      exact ⟨y1, o2, r32, ha, hB⟩
  · rintro a w3 ⟨y1, o2, rfl, ha, hB⟩
    dsimp only at hF
    refine ap_k ha ?_
    refine nx ?_
    refine wpC_seq ?_
    refine wpC_region ?_
    refine st_val (ex_move rfl) (by decide) trivial ?_
    refine st_val (ex_assign rfl) (by decide) trivial ?_
    refine wpF_end (r := [(4, (.string ⟨y1.b.toArray⟩))]) ⟨rfl, trivial⟩ ?_
    refine nx ?_
    refine wpC_ret ?_
    have e33 := Option.some.inj hF
    subst e33
    refine ret_post (P := Tryd.prog) (vs := [(.string ⟨y1.b.toArray⟩)]) Tryd.results63 ⟨rfl, trivial⟩ ?_
    exact ⟨rfl, hB.keeps⟩
  · exact fun _ _ h => h.elim

def fS_roText_s1 : Int → (List Int) → Str → Option (Lp Str Str Str) := fun (i24 : Int) (x34 : List Int) (s : Str) =>
  (fS_maLine (⟨[108, 105, 110, 101]⟩ : Str) x34) >>= fun x42 =>
  (sadd x42 (⟨[10]⟩ : Str)) >>= fun x48 =>
  (sadd s x48) >>= fun x49 =>
  some (.go x49)
def fS_roText (p0 : T_RootedProblem) : Option Str :=
  (fS_maLine (⟨[114, 111, 111, 116, 101, 100]⟩ : Str) ([p0.Labels, p0.Children] : List Int)) >>= fun x14 =>
  (sadd x14 (⟨[10]⟩ : Str)) >>= fun x20 =>
  (forI (fS_roText_s1) p0.Lines 0 x20) >>= fun q25 =>
  match q25 with
  | .inl y21 =>
    some y21
  | .inr _ => none

def pS_roText (w : World) (r : Str) : Ending → World → Prop := fun e w' => e = .returned (.string ⟨r.b.toArray⟩) ∧ Keeps w w'
set_option maxRecDepth 100000 in
set_option maxHeartbeats 2000000 in
theorem cS_roText (w : World) (u0 : List Value) (p0 : T_RootedProblem) (g0 : Rp.rd zt w u0 p0) (r : Str) (hF : fS_roText p0 = some r) :
    Calls Tryd.prog 36 #[.agg u0.toArray] w (pS_roText w r) := by
  unfold fS_roText at hF
  obtain ⟨v1, rfl, h2⟩ := g0
  have hB : Bs (fun _ => 1) (col (fun _ => 1)) w w := Bs.start _ _
  refine calls_start (n := 27) (vs := [(.agg #[(.int .i64 p0.Labels), (.int .i64 p0.Children), v1])]) Tryd.func36 rfl rfl ?_
  refine wpC_seq ?_
  refine wpC_region ?_
  refine st_op (by decide) trivial ?_
  refine wf_box (o := (col (fun _ => 1))) w.heap.size 11 hB.keeps.size (cs := [(.int .i64 p0.Labels), (.int .i64 p0.Children), v1]) rfl rfl ?_
  intro o3 w4 b5 h6 s7
  replace hB := hB.stp s7 (by decide)
  refine st_val (ex_assign rfl) (by decide) trivial ?_
  refine wpF_end (r := [(1, (.pointer (some ⟨b5, 0, none⟩)))]) ⟨rfl, trivial⟩ ?_
  refine nx ?_
  refine wpC_seq ?_
  refine wpC_region ?_
  refine st_val (ex_field rfl Tryd.underlying39 rfl Tryd.sizeOf3) (by decide) trivial ?_
  refine st_val (ex_load1 rfl Tryd.isAgg3 (h6.cell rfl)) (by decide) trivial ?_
  refine st_val (ex_field rfl Tryd.underlying39 rfl Tryd.sizeOf3) (by decide) trivial ?_
  refine st_val (ex_load1 rfl Tryd.isAgg3 (h6.cell rfl)) (by decide) trivial ?_
  refine st_op (by decide) trivial ?_
  refine wf_litR (o := o3) (cs := [(.int .i64 p0.Labels), (.int .i64 p0.Children)]) (xs := ([p0.Labels, p0.Children] : List Int)) (vs := [(0, (.int .i64 p0.Labels)), (1, (.int .i64 p0.Children))]) ⟨_, _, rfl, rfl, ⟨_, _, rfl, rfl, rfl⟩⟩ rfl ⟨rfl, rfl, rfl, rfl, trivial⟩ Tryd.underlying22 Tryd.sizeOf3 Tryd.zeroValue3 (by decide) (fill2 rfl rfl) (by simp) ?_
  intro o8 w9 v10 h11 s12 k13
  replace h6 := h6.stp s12 (by decide)
  replace hB := hB.stp s12 (by decide)
  obtain ⟨x14, hx14, hF⟩ := bind_some hF
  refine st_op (by decide) trivial ?_
  refine wf_call (cS_maLine w9 (⟨[114, 111, 111, 116, 101, 100]⟩ : Str) _ ([p0.Labels, p0.Children] : List Int) h11.z x14 hx14) Tryd.call63 ⟨rfl, rfl, trivial⟩ ?_
  rintro e19 w15 ⟨rfl, k16⟩
  have s18 := k16.stp 999 o8
  refine ⟨_, rfl, ?_⟩
  replace h11 := h11.stp s18 (by decide)
  replace h6 := h6.stp s18 (by decide)
  replace hB := hB.stp s18 (by decide)
  obtain ⟨x20, hx20, hF⟩ := bind_some hF
  refine st_val (ex_sadd (a := x14) (b := (⟨[10]⟩ : Str)) rfl rfl hx20) (by decide) trivial ?_
  refine st_val (ex_assign rfl) (by decide) trivial ?_
  refine wpF_end (r := [(1, (.pointer (some ⟨b5, 0, none⟩))), (3, (.string ⟨x20.b.toArray⟩))]) ⟨rfl, rfl, trivial⟩ ?_
  refine nx ?_
  refine wpC_seq ?_
  refine wpC_seq ?_
  refine wpC_region ?_
  refine st_val (ex_field rfl Tryd.underlying39 rfl Tryd.sizeOf33) (by decide) trivial ?_
  refine st_val (ex_load1 rfl Tryd.isAgg33 (h6.cell rfl)) (by decide) trivial ?_
  refine st_val (ex_lenR rfl h2 Tryd.underlying33) (by decide) trivial ?_
  refine st_val (ex_move rfl) (by decide) trivial ?_
  refine wpF_end (r := [(3, (.string ⟨x20.b.toArray⟩)), (14, v1), (15, (.int .i64 (p0.Lines.length : Int))), (16, (.int .i64 0))]) ⟨rfl, rfl, rfl, rfl, trivial⟩ ?_
  refine nx ?_
  obtain ⟨q25, hq25, hF⟩ := bind_some hF
  refine wpC_cutN (fun a w23 => ∃ (y21 : Str) (o22 : Tg), q25 = .inl y21 ∧ Fr a 27 [(3, (.string ⟨y21.b.toArray⟩))] ∧ Bs (fun _ => 1) o22 w w23) (fun _ _ => False) ?_ ?_ ?_
  · refine wpC_block ?_
    refine wpC_loop (fun (K : Nat) a w23 => ∃ (i24 : Int) (y21 : Str) (o22 : Tg), forI (fS_roText_s1) (p0.Lines.drop i24.toNat) i24 y21 = some q25 ∧ (p0.Lines.drop i24.toNat).length = K ∧ 0 ≤ i24 ∧ Fr a 27 [(3, (.string ⟨y21.b.toArray⟩)), (14, v1), (15, (.int .i64 (p0.Lines.length : Int))), (16, (.int .i64 i24))] ∧ Bs (fun _ => 1) o22 w w23) _ (fun a ha => ⟨0, x20, o8, hq25, rfl, Int.le_refl 0, ha.sub (r := [(3, (.string ⟨x20.b.toArray⟩)), (14, v1), (15, (.int .i64 (p0.Lines.length : Int))), (16, (.int .i64 0))]) ⟨rfl, rfl, rfl, rfl, trivial⟩, hB⟩) ?_
    rintro K29 a w23 ⟨i24, y21, o22, l26, m28, z27, ha, hB⟩
    by_cases t33 : i24 < (p0.Lines.length : Int)
    · obtain ⟨x34, q30, hx34, b31, n32⟩ := forI_cons z27 t33 l26
      have hle := h2.len_le
      dsimp only [fS_roText_s1] at b31
      refine wp_of ha ?_
      refine wpC_seq ?_
      refine wpC_region ?_
      refine st_val (ex_lss rfl rfl) (by decide) trivial ?_
      refine wpF_end (r := [(3, (.string ⟨y21.b.toArray⟩)), (14, v1), (15, (.int .i64 (p0.Lines.length : Int))), (16, (.int .i64 i24)), (17, (.bool (decide (i24 < (p0.Lines.length : Int)))))]) ⟨rfl, rfl, rfl, rfl, rfl, trivial⟩ ?_
      refine nx ?_
      refine wpC_seq ?_
      refine wpC_true (congrArg (fun b => some (Value.bool b)) (decide_eq_true t33)) ?_
      refine wpC_skip ?_
      refine nx ?_
      refine wpC_seq ?_
      refine wpC_block ?_
      refine wpC_seq ?_
      refine wpC_region ?_
      refine st_op (by decide) trivial ?_
      refine wf_atZ h2 hx34 hB rfl rfl Tryd.underlying33 Tryd.sizeOf22 ?_
      intro b35 f36 c37 h38 h39
      obtain ⟨v40, rfl, h41⟩ := h39
      refine st_val (ex_load1 rfl Tryd.isAgg22 (cell_of_cells h38)) (by decide) trivial ?_
      refine st_val (ex_assign rfl) (by decide) trivial ?_
      refine wpF_end (r := [(3, (.string ⟨y21.b.toArray⟩)), (5, v40), (14, v1), (15, (.int .i64 (p0.Lines.length : Int))), (16, (.int .i64 i24))]) ⟨rfl, rfl, rfl, rfl, rfl, trivial⟩ ?_
      refine nx ?_
      refine wpC_region ?_
      refine st_val (ex_move rfl) (by decide) trivial ?_
      refine st_val (ex_move rfl) (by decide) trivial ?_
      obtain ⟨x42, hx42, b31⟩ := bind_some b31
      refine st_op (by decide) trivial ?_
      refine wf_call (cS_maLine w23 (⟨[108, 105, 110, 101]⟩ : Str) _ x34 (h41.keep hB.keeps) x42 hx42) Tryd.call63 ⟨rfl, rfl, trivial⟩ ?_
      rintro e47 w43 ⟨rfl, k44⟩
      have s46 := k44.stp 999 o22
      refine ⟨_, rfl, ?_⟩
      replace hB := hB.stp s46 (by decide)
      obtain ⟨x48, hx48, b31⟩ := bind_some b31
      refine st_val (ex_sadd (a := x42) (b := (⟨[10]⟩ : Str)) rfl rfl hx48) (by decide) trivial ?_
      obtain ⟨x49, hx49, b31⟩ := bind_some b31
      refine st_val (ex_sadd (a := y21) (b := x48) rfl rfl hx49) (by decide) trivial ?_
      refine st_val (ex_assign rfl) (by decide) trivial ?_
      refine wpF_end (r := [(3, (.string ⟨x49.b.toArray⟩)), (14, v1), (15, (.int .i64 (p0.Lines.length : Int))), (16, (.int .i64 i24))]) ⟨rfl, rfl, rfl, rfl, trivial⟩ ?_
      refine nb_norm ?_
      refine nx ?_
      refine wpC_region ?_
      refine st_val (ex_add rfl rfl (ck_in (by omega) (by omega))) (by decide) trivial ?_
      refine st_val (ex_move rfl) (by decide) trivial ?_
      refine wpF_end (r := [(3, (.string ⟨x49.b.toArray⟩)), (14, v1), (15, (.int .i64 (p0.Lines.length : Int))), (16, (.int .i64 (i24 + 1)))]) ⟨rfl, rfl, rfl, rfl, trivial⟩ ?_
      refine nt_norm ?_
      have e50 := Option.some.inj b31
      subst e50
      refine to_k (r := [(3, (.string ⟨x49.b.toArray⟩)), (14, v1), (15, (.int .i64 (p0.Lines.length : Int))), (16, (.int .i64 (i24 + 1)))]) ⟨rfl, rfl, rfl, rfl, trivial⟩ ?_
      intro a ha
      exact ⟨_, (by rw [← m28]; simp only [List.length_drop]; omega), i24 + 1, x49, o22, n32, rfl, (by omega), ha, hB⟩
    · have r51 := forI_done t33 l26
      refine wp_of ha ?_
      refine wpC_seq ?_
      refine wpC_region ?_
      refine st_val (ex_lss rfl rfl) (by decide) trivial ?_
      refine wpF_end (r := [(3, (.string ⟨y21.b.toArray⟩)), (14, v1), (15, (.int .i64 (p0.Lines.length : Int))), (16, (.int .i64 i24)), (17, (.bool (decide (i24 < (p0.Lines.length : Int)))))]) ⟨rfl, rfl, rfl, rfl, rfl, trivial⟩ ?_
      refine nx ?_
      refine wpC_seq ?_
      refine wpC_false (congrArg (fun b => some (Value.bool b)) (decide_eq_false t33)) ?_
      refine wpC_exit ?_
      refine nt_exit ?_
      refine nt_exit ?_
      refine nb_hit ?_
      refine np_norm ?_
      refine to_k (r := [(3, (.string ⟨y21.b.toArray⟩))]) ⟨rfl, trivial⟩ ?_
      intro a ha
      exact ⟨y21, o22, r51, ha, hB⟩
  · rintro a w23 ⟨y21, o22, rfl, ha, hB⟩
    dsimp only at hF
    refine ap_k ha ?_
    refine nx ?_
    refine wpC_seq ?_
    refine wpC_region ?_
    refine st_val (ex_move rfl) (by decide) trivial ?_
    refine st_val (ex_assign rfl) (by decide) trivial ?_
    refine wpF_end (r := [(2, (.string ⟨y21.b.toArray⟩))]) ⟨rfl, trivial⟩ ?_
    refine nx ?_
    refine wpC_ret ?_
    have e52 := Option.some.inj hF
    subst e52
    refine ret_post (P := Tryd.prog) (vs := [(.string ⟨y21.b.toArray⟩)]) Tryd.results36 ⟨rfl, trivial⟩ ?_
    exact ⟨rfl, hB.keeps⟩
  · exact fun _ _ h => h.elim

def fS_RootedText (fuel : Nat) (p0 : T_RootedProblem) : Option (Str × Bool) :=
  (fS_roGood fuel p0) >>= fun x8 =>
  if !x8 then
    some ((⟨[]⟩ : Str), false)
  else
    (fS_roText p0) >>= fun x16 =>
    some (x16, true)

def pS_RootedText (w : World) (r : Str × Bool) : Ending → World → Prop := fun e w' => e = .returned (.tuple #[.string ⟨r.1.b.toArray⟩, .bool r.2]) ∧ Keeps w w'
set_option maxRecDepth 100000 in
set_option maxHeartbeats 2000000 in
theorem cS_RootedText (fuel : Nat) (w : World) (u0 : List Value) (p0 : T_RootedProblem) (g0 : Rp.rd zt w u0 p0) (r : Str × Bool) (hF : fS_RootedText fuel p0 = some r) :
    Calls Tryd.prog 18 #[.agg u0.toArray] w (pS_RootedText w r) := by
  unfold fS_RootedText at hF
  obtain ⟨v1, rfl, h2⟩ := g0
  have hB : Bs (fun _ => 1) (col (fun _ => 1)) w w := Bs.start _ _
  refine calls_start (n := 9) (vs := [(.agg #[(.int .i64 p0.Labels), (.int .i64 p0.Children), v1])]) Tryd.func18 rfl rfl ?_
  refine wpC_seq ?_
  refine wpC_region ?_
  refine st_op (by decide) trivial ?_
  refine wf_box (o := (col (fun _ => 1))) w.heap.size 11 hB.keeps.size (cs := [(.int .i64 p0.Labels), (.int .i64 p0.Children), v1]) rfl rfl ?_
  intro o3 w4 b5 h6 s7
  replace hB := hB.stp s7 (by decide)
  refine st_val (ex_assign rfl) (by decide) trivial ?_
  refine st_val (ex_assign rfl) (by decide) trivial ?_
  refine wpF_end (r := [(1, (.pointer (some ⟨b5, 0, none⟩)))]) ⟨rfl, trivial⟩ ?_
  refine nx ?_
  refine wpC_seq ?_
  refine wpC_seq ?_
  refine wpC_region ?_
  refine st_val (ex_loadA rfl Tryd.isAgg39 Tryd.sizeOf39 rfl h6.cells) (by decide) trivial ?_
  obtain ⟨x8, hx8, hF⟩ := bind_some hF
  refine st_op (by decide) trivial ?_
  refine wf_call (cS_roGood fuel w4 _ p0 (⟨_, rfl, (h2.keep hB.keeps)⟩) x8 hx8) Tryd.call35 ⟨rfl, trivial⟩ ?_
  rintro e13 w9 ⟨rfl, k10⟩
  have s12 := k10.stp 999 o3
  refine ⟨_, rfl, ?_⟩
  replace h6 := h6.stp s12 (by decide)
  replace hB := hB.stp s12 (by decide)
  refine st_val (ex_not rfl) (by decide) trivial ?_
  refine wpF_end (r := [(1, (.pointer (some ⟨b5, 0, none⟩))), (6, (.bool (!x8)))]) ⟨rfl, rfl, trivial⟩ ?_
  refine nx ?_
  refine wpC_cond rfl (fun t14 => ?_) (fun t14 => ?_)
  · rw [if_pos t14] at hF
    refine wpC_seq ?_
    refine wpC_region ?_
    refine st_val (ex_assign rfl) (by decide) trivial ?_
    refine st_val (ex_assign rfl) (by decide) trivial ?_
    refine wpF_end (r := [(2, (.string ⟨(⟨[]⟩ : Str).b.toArray⟩)), (3, (.bool false))]) ⟨rfl, rfl, trivial⟩ ?_
    refine nx ?_
    refine wpC_ret ?_
    refine nt_ret ?_
    have e15 := Option.some.inj hF
    subst e15
    refine ret_post (P := Tryd.prog) (vs := [(.string ⟨(⟨[]⟩ : Str).b.toArray⟩), (.bool false)]) Tryd.results18 ⟨rfl, rfl, trivial⟩ ?_
    exact ⟨rfl, hB.keeps⟩
  · rw [if_neg (by rw [t14]; decide)] at hF
    refine wpC_skip ?_
    refine nx ?_
    refine wpC_seq ?_
    refine wpC_region ?_
    refine st_val (ex_loadA rfl Tryd.isAgg39 Tryd.sizeOf39 rfl h6.cells) (by decide) trivial ?_
    obtain ⟨x16, hx16, hF⟩ := bind_some hF
    refine st_op (by decide) trivial ?_
    refine wf_call (cS_roText w9 _ p0 (⟨_, rfl, (h2.keep hB.keeps)⟩) x16 hx16) Tryd.call36 ⟨rfl, trivial⟩ ?_
    rintro e21 w17 ⟨rfl, k18⟩
    have s20 := k18.stp 999 o3
    refine ⟨_, rfl, ?_⟩
    replace h6 := h6.stp s20 (by decide)
    replace hB := hB.stp s20 (by decide)
    refine st_val (ex_assign rfl) (by decide) trivial ?_
    refine st_val (ex_assign rfl) (by decide) trivial ?_
    refine wpF_end (r := [(2, (.string ⟨x16.b.toArray⟩)), (3, (.bool true))]) ⟨rfl, rfl, trivial⟩ ?_
    refine nx ?_
    refine wpC_ret ?_
    have e22 := Option.some.inj hF
    subst e22
    refine ret_post (P := Tryd.prog) (vs := [(.string ⟨x16.b.toArray⟩), (.bool true)]) Tryd.results18 ⟨rfl, rfl, trivial⟩ ?_
    exact ⟨rfl, hB.keeps⟩

def fI_wordsLine_s1 : Int → Int → Str → Option (Lp Str Str Str) := fun (i4 : Int) (x14 : Int) (s : Str) =>
  if x14 == (-1) then
    (sadd s (⟨[32, 42]⟩ : Str)) >>= fun x21 =>
    some (.go x21)
  else
    (fX_strconv_Itoa x14) >>= fun x23 =>
    (sadd (⟨[32]⟩ : Str) x23) >>= fun x29 =>
    (sadd s x29) >>= fun x30 =>
    some (.go x30)
def fI_wordsLine (p0 : Str) (p1 : List Int) : Option Str :=
  (forI (fI_wordsLine_s1) p1 0 p0) >>= fun q5 =>
  match q5 with
  | .inl y1 =>
    some y1
  | .inr _ => none

def pI_wordsLine (w : World) (r : Str) : Ending → World → Prop := fun e w' => e = .returned (.string ⟨r.b.toArray⟩) ∧ Keeps w w'
set_option maxRecDepth 100000 in
set_option maxHeartbeats 2000000 in
theorem cI_wordsLine (w : World) (p0 : Str) (u1 : Value) (p1 : List Int) (g1 : RdL zt w u1 p1) (r : Str) (hF : fI_wordsLine p0 p1 = some r) :
    Calls Tryd.prog 67 #[.string ⟨p0.b.toArray⟩, u1] w (pI_wordsLine w r) := by
  unfold fI_wordsLine at hF
  have hB : Bs (fun _ => 1) (col (fun _ => 1)) w w := Bs.start _ _
  refine calls_start (n := 24) (vs := [(.string ⟨p0.b.toArray⟩), u1]) Tryd.func67 rfl rfl ?_
  refine wpC_seq ?_
  refine wpC_region ?_
  refine st_val (ex_assign rfl) (by decide) trivial ?_
  refine wpF_end (r := [(0, (.string ⟨p0.b.toArray⟩)), (1, u1)]) ⟨rfl, rfl, trivial⟩ ?_
  refine nx ?_
  refine wpC_seq ?_
  refine wpC_seq ?_
  refine wpC_region ?_
  refine st_val (ex_move rfl) (by decide) trivial ?_
  refine st_val (ex_lenR rfl g1 Tryd.underlying22) (by decide) trivial ?_
  refine st_val (ex_move rfl) (by decide) trivial ?_
  refine wpF_end (r := [(0, (.string ⟨p0.b.toArray⟩)), (7, u1), (8, (.int .i64 (p1.length : Int))), (9, (.int .i64 0))]) ⟨rfl, rfl, rfl, rfl, trivial⟩ ?_
  refine nx ?_
  obtain ⟨q5, hq5, hF⟩ := bind_some hF
  refine wpC_cutN (fun a w3 => ∃ (y1 : Str) (o2 : Tg), q5 = .inl y1 ∧ Fr a 24 [(0, (.string ⟨y1.b.toArray⟩))] ∧ Bs (fun _ => 1) o2 w w3) (fun _ _ => False) ?_ ?_ ?_
  · refine wpC_block ?_
    refine wpC_loop (fun (K : Nat) a w3 => ∃ (i4 : Int) (y1 : Str) (o2 : Tg), forI (fI_wordsLine_s1) (p1.drop i4.toNat) i4 y1 = some q5 ∧ (p1.drop i4.toNat).length = K ∧ 0 ≤ i4 ∧ Fr a 24 [(0, (.string ⟨y1.b.toArray⟩)), (7, u1), (8, (.int .i64 (p1.length : Int))), (9, (.int .i64 i4))] ∧ Bs (fun _ => 1) o2 w w3) _ (fun a ha => ⟨0, p0, (col (fun _ => 1)), hq5, rfl, Int.le_refl 0, ha.sub (r := [(0, (.string ⟨p0.b.toArray⟩)), (7, u1), (8, (.int .i64 (p1.length : Int))), (9, (.int .i64 0))]) ⟨rfl, rfl, rfl, rfl, trivial⟩, hB⟩) ?_
    rintro K9 a w3 ⟨i4, y1, o2, l6, m8, z7, ha, hB⟩
    by_cases t13 : i4 < (p1.length : Int)
    · obtain ⟨x14, q10, hx14, b11, n12⟩ := forI_cons z7 t13 l6
      have hle := g1.len_le
      dsimp only [fI_wordsLine_s1] at b11
      refine wp_of ha ?_
      refine wpC_seq ?_
      refine wpC_region ?_
      refine st_val (ex_lss rfl rfl) (by decide) trivial ?_
      refine wpF_end (r := [(0, (.string ⟨y1.b.toArray⟩)), (7, u1), (8, (.int .i64 (p1.length : Int))), (9, (.int .i64 i4)), (10, (.bool (decide (i4 < (p1.length : Int)))))]) ⟨rfl, rfl, rfl, rfl, rfl, trivial⟩ ?_
      refine nx ?_
      refine wpC_seq ?_
      refine wpC_true (congrArg (fun b => some (Value.bool b)) (decide_eq_true t13)) ?_
      refine wpC_skip ?_
      refine nx ?_
      refine wpC_seq ?_
      refine wpC_block ?_
      refine wpC_seq ?_
      refine wpC_region ?_
      refine st_op (by decide) trivial ?_
      refine wf_atZ g1 hx14 hB rfl rfl Tryd.underlying22 Tryd.sizeOf3 ?_
      intro b15 f16 c17 h18 h19
      cases h19
      refine st_val (ex_load1 rfl Tryd.isAgg3 (cell_of_cells h18)) (by decide) trivial ?_
      refine st_val (ex_assign rfl) (by decide) trivial ?_
      refine wpF_end (r := [(0, (.string ⟨y1.b.toArray⟩)), (6, (.int .i64 x14)), (7, u1), (8, (.int .i64 (p1.length : Int))), (9, (.int .i64 i4))]) ⟨rfl, rfl, rfl, rfl, rfl, trivial⟩ ?_
      refine nx ?_
      refine wpC_seq ?_
      refine wpC_region ?_
      refine st_val (ex_move rfl) (by decide) trivial ?_
      refine st_val (ex_eql rfl rfl) (by decide) trivial ?_
      refine wpF_end (r := [(0, (.string ⟨y1.b.toArray⟩)), (6, (.int .i64 x14)), (7, u1), (8, (.int .i64 (p1.length : Int))), (9, (.int .i64 i4)), (14, (.bool (x14 == (-1))))]) ⟨rfl, rfl, rfl, rfl, rfl, rfl, trivial⟩ ?_
      refine nx ?_
      refine wpC_cond rfl (fun t20 => ?_) (fun t20 => ?_)
      · rw [if_pos t20] at b11
        refine wpC_region ?_
        refine st_val (ex_move rfl) (by decide) trivial ?_
        obtain ⟨x21, hx21, b11⟩ := bind_some b11
        refine st_val (ex_sadd (a := y1) (b := (⟨[32, 42]⟩ : Str)) rfl rfl hx21) (by decide) trivial ?_
        refine st_val (ex_assign rfl) (by decide) trivial ?_
        refine wpF_end (r := [(0, (.string ⟨x21.b.toArray⟩)), (7, u1), (8, (.int .i64 (p1.length : Int))), (9, (.int .i64 i4))]) ⟨rfl, rfl, rfl, rfl, trivial⟩ ?_
        refine nb_norm ?_
        refine nx ?_
        refine wpC_region ?_
        refine st_val (ex_add rfl rfl (ck_in (by omega) (by omega))) (by decide) trivial ?_
        refine st_val (ex_move rfl) (by decide) trivial ?_
        refine wpF_end (r := [(0, (.string ⟨x21.b.toArray⟩)), (7, u1), (8, (.int .i64 (p1.length : Int))), (9, (.int .i64 (i4 + 1)))]) ⟨rfl, rfl, rfl, rfl, trivial⟩ ?_
        refine nt_norm ?_
        have e22 := Option.some.inj b11
        subst e22
        refine to_k (r := [(0, (.string ⟨x21.b.toArray⟩)), (7, u1), (8, (.int .i64 (p1.length : Int))), (9, (.int .i64 (i4 + 1)))]) ⟨rfl, rfl, rfl, rfl, trivial⟩ ?_
        intro a ha
        exact ⟨_, (by rw [← m8]; simp only [List.length_drop]; omega), i4 + 1, x21, o2, n12, rfl, (by omega), ha, hB⟩
      · rw [if_neg (by rw [t20]; decide)] at b11
        refine wpC_region ?_
        refine st_val (ex_move rfl) (by decide) trivial ?_
        refine st_val (ex_move rfl) (by decide) trivial ?_
        obtain ⟨x23, hx23, b11⟩ := bind_some b11
        refine st_op (by decide) trivial ?_
        refine wf_call (cX_strconv_Itoa w3 x14 x23 hx23) Tryd.call77 ⟨rfl, trivial⟩ ?_
        rintro e28 w24 ⟨rfl, k25⟩
        have s27 := k25.stp 999 o2
        refine ⟨_, rfl, ?_⟩
        replace hB := hB.stp s27 (by decide)
        obtain ⟨x29, hx29, b11⟩ := bind_some b11
        refine st_val (ex_sadd (a := (⟨[32]⟩ : Str)) (b := x23) rfl rfl hx29) (by decide) trivial ?_
        obtain ⟨x30, hx30, b11⟩ := bind_some b11
        refine st_val (ex_sadd (a := y1) (b := x29) rfl rfl hx30) (by decide) trivial ?_
        refine st_val (ex_assign rfl) (by decide) trivial ?_
        refine wpF_end (r := [(0, (.string ⟨x30.b.toArray⟩)), (7, u1), (8, (.int .i64 (p1.length : Int))), (9, (.int .i64 i4))]) ⟨rfl, rfl, rfl, rfl, trivial⟩ ?_
        refine nb_norm ?_
        refine nx ?_
        refine wpC_region ?_
        refine st_val (ex_add rfl rfl (ck_in (by omega) (by omega))) (by decide) trivial ?_
        refine st_val (ex_move rfl) (by decide) trivial ?_
        refine wpF_end (r := [(0, (.string ⟨x30.b.toArray⟩)), (7, u1), (8, (.int .i64 (p1.length : Int))), (9, (.int .i64 (i4 + 1)))]) ⟨rfl, rfl, rfl, rfl, trivial⟩ ?_
        refine nt_norm ?_
        have e31 := Option.some.inj b11
        subst e31
        refine to_k (r := [(0, (.string ⟨x30.b.toArray⟩)), (7, u1), (8, (.int .i64 (p1.length : Int))), (9, (.int .i64 (i4 + 1)))]) ⟨rfl, rfl, rfl, rfl, trivial⟩ ?_
        intro a ha
        exact ⟨_, (by rw [← m8]; simp only [List.length_drop]; omega), i4 + 1, x30, o2, n12, rfl, (by omega), ha, hB⟩
    · have r32 := forI_done t13 l6
      refine wp_of ha ?_
      refine wpC_seq ?_
      refine wpC_region ?_
      refine st_val (ex_lss rfl rfl) (by decide) trivial ?_
      refine wpF_end (r := [(0, (.string ⟨y1.b.toArray⟩)), (7, u1), (8, (.int .i64 (p1.length : Int))), (9, (.int .i64 i4)), (10, (.bool (decide (i4 < (p1.length : Int)))))]) ⟨rfl, rfl, rfl, rfl, rfl, trivial⟩ ?_
      refine nx ?_
      refine wpC_seq ?_
      refine wpC_false (congrArg (fun b => some (Value.bool b)) (decide_eq_false t13)) ?_
      refine wpC_exit ?_
      refine nt_exit ?_
      refine nt_exit ?_
      refine nb_hit ?_
      refine np_norm ?_
      refine to_k (r := [(0, (.string ⟨y1.b.toArray⟩))]) ⟨rfl, trivial⟩ ?_
      intro a ha
      exact ⟨y1, o2, r32, ha, hB⟩
  · rintro a w3 ⟨y1, o2, rfl, ha, hB⟩
    dsimp only at hF
    refine ap_k ha ?_
    refine nx ?_
    refine wpC_seq ?_
    refine wpC_region ?_
    refine st_val (ex_move rfl) (by decide) trivial ?_
    refine st_val (ex_assign rfl) (by decide) trivial ?_
    refine wpF_end (r := [(4, (.string ⟨y1.b.toArray⟩))]) ⟨rfl, trivial⟩ ?_
    refine nx ?_
    refine wpC_ret ?_
    have e33 := Option.some.inj hF
    subst e33
    refine ret_post (P := Tryd.prog) (vs := [(.string ⟨y1.b.toArray⟩)]) Tryd.results67 ⟨rfl, trivial⟩ ?_
    exact ⟨rfl, hB.keeps⟩
  · exact fun _ _ h => h.elim

def fI_rootedText_s1 : Int → (List Int) → (List Str) → Option (Lp (List Str) (List Str) Str) := fun (i30 : Int) (x40 : List Int) (s : List Str) =>
  (fI_wordsLine (⟨[108, 105, 110, 101]⟩ : Str) x40) >>= fun x48 =>
  (push s x48) >>= fun x60 =>
  some (.go x60)
def fI_rootedText (p0 : T_RootedProblem) : Option Str :=
  (fI_wordsLine (⟨[114, 111, 111, 116, 101, 100]⟩ : Str) ([p0.Labels, p0.Children] : List Int)) >>= fun x14 =>
  (forI (fI_rootedText_s1) p0.Lines 0 ([x14] : List Str)) >>= fun q31 =>
  match q31 with
  | .inl y25 =>
    (joinO y25 (⟨[10]⟩ : Str)) >>= fun x72 =>
    (sadd x72 (⟨[10]⟩ : Str)) >>= fun x73 =>
    some x73
  | .inr _ => none

def pI_rootedText (w : World) (r : Str) : Ending → World → Prop := fun e w' => e = .returned (.string ⟨r.b.toArray⟩) ∧ Keeps w w'
set_option maxRecDepth 100000 in
set_option maxHeartbeats 2000000 in
theorem cI_rootedText (w : World) (u0 : List Value) (p0 : T_RootedProblem) (g0 : Rp.rd zt w u0 p0) (r : Str) (hF : fI_rootedText p0 = some r) :
    Calls Tryd.prog 39 #[.agg u0.toArray] w (pI_rootedText w r) := by
  unfold fI_rootedText at hF
  obtain ⟨v1, rfl, h2⟩ := g0
  have hB : Bs (fun _ => 1) (col (fun _ => 1)) w w := Bs.start _ _
  refine calls_start (n := 29) (vs := [(.agg #[(.int .i64 p0.Labels), (.int .i64 p0.Children), v1])]) Tryd.func39 rfl rfl ?_
  refine wpC_seq ?_
  refine wpC_region ?_
  refine st_op (by decide) trivial ?_
  refine wf_box (o := (col (fun _ => 1))) w.heap.size 11 hB.keeps.size (cs := [(.int .i64 p0.Labels), (.int .i64 p0.Children), v1]) rfl rfl ?_
  intro o3 w4 b5 h6 s7
  replace hB := hB.stp s7 (by decide)
  refine st_val (ex_assign rfl) (by decide) trivial ?_
  refine wpF_end (r := [(1, (.pointer (some ⟨b5, 0, none⟩)))]) ⟨rfl, trivial⟩ ?_
  refine nx ?_
  refine wpC_seq ?_
  refine wpC_region ?_
  refine st_val (ex_field rfl Tryd.underlying39 rfl Tryd.sizeOf3) (by decide) trivial ?_
  refine st_val (ex_load1 rfl Tryd.isAgg3 (h6.cell rfl)) (by decide) trivial ?_
  refine st_val (ex_field rfl Tryd.underlying39 rfl Tryd.sizeOf3) (by decide) trivial ?_
  refine st_val (ex_load1 rfl Tryd.isAgg3 (h6.cell rfl)) (by decide) trivial ?_
  refine st_op (by decide) trivial ?_
  refine wf_litR (o := o3) (cs := [(.int .i64 p0.Labels), (.int .i64 p0.Children)]) (xs := ([p0.Labels, p0.Children] : List Int)) (vs := [(0, (.int .i64 p0.Labels)), (1, (.int .i64 p0.Children))]) ⟨_, _, rfl, rfl, ⟨_, _, rfl, rfl, rfl⟩⟩ rfl ⟨rfl, rfl, rfl, rfl, trivial⟩ Tryd.underlying22 Tryd.sizeOf3 Tryd.zeroValue3 (by decide) (fill2 rfl rfl) (by simp) ?_
  intro o8 w9 v10 h11 s12 k13
  replace h6 := h6.stp s12 (by decide)
  replace hB := hB.stp s12 (by decide)
  obtain ⟨x14, hx14, hF⟩ := bind_some hF
  refine st_op (by decide) trivial ?_
  refine wf_call (cI_wordsLine w9 (⟨[114, 111, 111, 116, 101, 100]⟩ : Str) _ ([p0.Labels, p0.Children] : List Int) h11.z x14 hx14) Tryd.call67 ⟨rfl, rfl, trivial⟩ ?_
  rintro e19 w15 ⟨rfl, k16⟩
  have s18 := k16.stp 999 o8
  refine ⟨_, rfl, ?_⟩
  replace h11 := h11.stp s18 (by decide)
  replace h6 := h6.stp s18 (by decide)
  replace hB := hB.stp s18 (by decide)
  refine st_op (by decide) trivial ?_
  refine wf_litW w.heap.size 13 hB.keeps.size (o := o8) (cs := [(.string ⟨x14.b.toArray⟩)]) (xs := ([x14] : List Str)) (vs := [(0, (.string ⟨x14.b.toArray⟩))]) ⟨_, _, rfl, rfl, rfl⟩ rfl ⟨rfl, rfl, trivial⟩ Tryd.underlying63 Tryd.sizeOf9 Tryd.zeroValue9 (by decide) (fill1 rfl) (by simp) ?_
  intro o20 w21 v22 h23 s24
  replace h11 := h11.stp s24 (by decide)
  replace h6 := h6.stp s24 (by decide)
  replace hB := hB.stp s24 (by decide)
  refine st_val (ex_assign rfl) (by decide) trivial ?_
  refine wpF_end (r := [(1, (.pointer (some ⟨b5, 0, none⟩))), (3, v22)]) ⟨rfl, rfl, trivial⟩ ?_
  refine nx ?_
  refine wpC_seq ?_
  refine wpC_seq ?_
  refine wpC_region ?_
  refine st_val (ex_field rfl Tryd.underlying39 rfl Tryd.sizeOf33) (by decide) trivial ?_
  refine st_val (ex_load1 rfl Tryd.isAgg33 (h6.cell rfl)) (by decide) trivial ?_
  refine st_val (ex_lenR rfl h2 Tryd.underlying33) (by decide) trivial ?_
  refine st_val (ex_move rfl) (by decide) trivial ?_
  refine wpF_end (r := [(3, v22), (14, v1), (15, (.int .i64 (p0.Lines.length : Int))), (16, (.int .i64 0))]) ⟨rfl, rfl, rfl, rfl, trivial⟩ ?_
  refine nx ?_
  obtain ⟨q31, hq31, hF⟩ := bind_some hF
  refine wpC_cutN (fun a w29 => ∃ (y25 : List Str) (v26 : Value) (o28 : Tg), q31 = .inl y25 ∧ Fr a 29 [(3, v26)] ∧ Bs (fun _ => 1) o28 w w29 ∧ Ow w.heap.size 9 13 o28 w29 v26 y25) (fun _ _ => False) ?_ ?_ ?_
  · refine wpC_block ?_
    refine wpC_loop (fun (K : Nat) a w29 => ∃ (i30 : Int) (y25 : List Str) (v26 : Value) (o28 : Tg), forI (fI_rootedText_s1) (p0.Lines.drop i30.toNat) i30 y25 = some q31 ∧ (p0.Lines.drop i30.toNat).length = K ∧ 0 ≤ i30 ∧ Fr a 29 [(3, v26), (14, v1), (15, (.int .i64 (p0.Lines.length : Int))), (16, (.int .i64 i30))] ∧ Bs (fun _ => 1) o28 w w29 ∧ Ow w.heap.size 9 13 o28 w29 v26 y25) _ (fun a ha => ⟨0, ([x14] : List Str), v22, o20, hq31, rfl, Int.le_refl 0, ha.sub (r := [(3, v22), (14, v1), (15, (.int .i64 (p0.Lines.length : Int))), (16, (.int .i64 0))]) ⟨rfl, rfl, rfl, rfl, trivial⟩, hB, h23⟩) ?_
    rintro K35 a w29 ⟨i30, y25, v26, o28, l32, m34, z33, ha, hB, h27⟩
    by_cases t39 : i30 < (p0.Lines.length : Int)
    · obtain ⟨x40, q36, hx40, b37, n38⟩ := forI_cons z33 t39 l32
      have hle := h2.len_le
      dsimp only [fI_rootedText_s1] at b37
      refine wp_of ha ?_
      refine wpC_seq ?_
      refine wpC_region ?_
      refine st_val (ex_lss rfl rfl) (by decide) trivial ?_
      refine wpF_end (r := [(3, v26), (14, v1), (15, (.int .i64 (p0.Lines.length : Int))), (16, (.int .i64 i30)), (17, (.bool (decide (i30 < (p0.Lines.length : Int)))))]) ⟨rfl, rfl, rfl, rfl, rfl, trivial⟩ ?_
      refine nx ?_
      refine wpC_seq ?_
      refine wpC_true (congrArg (fun b => some (Value.bool b)) (decide_eq_true t39)) ?_
      refine wpC_skip ?_
      refine nx ?_
      refine wpC_seq ?_
      refine wpC_block ?_
      refine wpC_seq ?_
      refine wpC_region ?_
      refine st_op (by decide) trivial ?_
      refine wf_atZ h2 hx40 hB rfl rfl Tryd.underlying33 Tryd.sizeOf22 ?_
      intro b41 f42 c43 h44 h45
      obtain ⟨v46, rfl, h47⟩ := h45
      refine st_val (ex_load1 rfl Tryd.isAgg22 (cell_of_cells h44)) (by decide) trivial ?_
      refine st_val (ex_assign rfl) (by decide) trivial ?_
      refine wpF_end (r := [(3, v26), (5, v46), (14, v1), (15, (.int .i64 (p0.Lines.length : Int))), (16, (.int .i64 i30))]) ⟨rfl, rfl, rfl, rfl, rfl, trivial⟩ ?_
      refine nx ?_
      refine wpC_region ?_
      refine st_val (ex_move rfl) (by decide) trivial ?_
      refine st_val (ex_move rfl) (by decide) trivial ?_
      obtain ⟨x48, hx48, b37⟩ := bind_some b37
      refine st_op (by decide) trivial ?_
      refine wf_call (cI_wordsLine w29 (⟨[108, 105, 110, 101]⟩ : Str) _ x40 (h47.keep hB.keeps) x48 hx48) Tryd.call67 ⟨rfl, rfl, trivial⟩ ?_
      rintro e53 w49 ⟨rfl, k50⟩
      have s52 := k50.stp 999 o28
      refine ⟨_, rfl, ?_⟩
      replace h27 := h27.stp s52 (by decide) (by decide)
      replace hB := hB.stp s52 (by decide)
      refine st_op (by decide) trivial ?_
      refine wf_litR (o := o28) (cs := [(.string ⟨x48.b.toArray⟩)]) (xs := ([x48] : List Str)) (vs := [(0, (.string ⟨x48.b.toArray⟩))]) ⟨_, _, rfl, rfl, rfl⟩ rfl ⟨rfl, rfl, trivial⟩ Tryd.underlying63 Tryd.sizeOf9 Tryd.zeroValue9 (by decide) (fill1 rfl) (by simp) ?_
      intro o54 w55 v56 h57 s58 k59
      replace h27 := h27.stp s58 (by decide) (by decide)
      replace hB := hB.stp s58 (by decide)
      obtain ⟨x60, hx60, b37⟩ := bind_some b37
      refine st_op (by decide) trivial ?_
      refine wf_cat h27 h57 (push_cat hx60) (by decide) hB.keeps.size rfl rfl Tryd.underlying63 info2_t_string_Sa rfl (by decide) ?_
      intro o61 w62 v63 h64 s65
      replace h57 := h57.stp s65 (by decide)
      replace hB := hB.stp s65 (by decide)
      refine st_val (ex_assign rfl) (by decide) trivial ?_
      refine wpF_end (r := [(3, v63), (14, v1), (15, (.int .i64 (p0.Lines.length : Int))), (16, (.int .i64 i30))]) ⟨rfl, rfl, rfl, rfl, trivial⟩ ?_
      refine nb_norm ?_
      refine nx ?_
      refine wpC_region ?_
      refine st_val (ex_add rfl rfl (ck_in (by omega) (by omega))) (by decide) trivial ?_
      refine st_val (ex_move rfl) (by decide) trivial ?_
      refine wpF_end (r := [(3, v63), (14, v1), (15, (.int .i64 (p0.Lines.length : Int))), (16, (.int .i64 (i30 + 1)))]) ⟨rfl, rfl, rfl, rfl, trivial⟩ ?_
      refine nt_norm ?_
      have e66 := Option.some.inj b37
      subst e66
      refine to_k (r := [(3, v63), (14, v1), (15, (.int .i64 (p0.Lines.length : Int))), (16, (.int .i64 (i30 + 1)))]) ⟨rfl, rfl, rfl, rfl, trivial⟩ ?_
      intro a ha
      exact ⟨_, (by rw [← m34]; simp only [List.length_drop]; omega), i30 + 1, x60, v63, o61, n38, rfl, (by omega), ha, hB, h64⟩
    · have r67 := forI_done t39 l32
      refine wp_of ha ?_
      refine wpC_seq ?_
      refine wpC_region ?_
      refine st_val (ex_lss rfl rfl) (by decide) trivial ?_
      refine wpF_end (r := [(3, v26), (14, v1), (15, (.int .i64 (p0.Lines.length : Int))), (16, (.int .i64 i30)), (17, (.bool (decide (i30 < (p0.Lines.length : Int)))))]) ⟨rfl, rfl, rfl, rfl, rfl, trivial⟩ ?_
      refine nx ?_
      refine wpC_seq ?_
      refine wpC_false (congrArg (fun b => some (Value.bool b)) (decide_eq_false t39)) ?_
      refine wpC_exit ?_
      refine nt_exit ?_
      refine nt_exit ?_
      refine nb_hit ?_
      refine np_norm ?_
      refine to_k (r := [(3, v26)]) ⟨rfl, trivial⟩ ?_
      intro a ha
      exact ⟨y25, v26, o28, r67, ha, hB, h27⟩
  · rintro a w29 ⟨y25, v26, o28, rfl, ha, hB, h27⟩
    dsimp only at hF
    refine ap_k ha ?_
    refine nx ?_
    refine wpC_seq ?_
    refine wpC_region ?_
    refine st_val (ex_move rfl) (by decide) trivial ?_
    obtain ⟨x72, hx72, hF⟩ := bind_some hF
    refine st_op (by decide) trivial ?_
    refine wf_call (cX_Join w29 v26 y25 h27.z (⟨[10]⟩ : Str) x72 hx72) Tryd.call68 ⟨rfl, rfl, trivial⟩ ?_
    rintro e69 w68 ⟨rfl, k70⟩
    have s71 := k70.stp 999 o28
    refine ⟨_, rfl, ?_⟩
    replace h27 := h27.stp s71 (by decide) (by decide)
    replace hB := hB.stp s71 (by decide)
    obtain ⟨x73, hx73, hF⟩ := bind_some hF
    refine st_val (ex_sadd (a := x72) (b := (⟨[10]⟩ : Str)) rfl rfl hx73) (by decide) trivial ?_
    refine st_val (ex_assign rfl) (by decide) trivial ?_
    refine wpF_end (r := [(2, (.string ⟨x73.b.toArray⟩))]) ⟨rfl, trivial⟩ ?_
    refine nx ?_
    refine wpC_ret ?_
    have e74 := Option.some.inj hF
    subst e74
    refine ret_post (P := Tryd.prog) (vs := [(.string ⟨x73.b.toArray⟩)]) Tryd.results39 ⟨rfl, trivial⟩ ?_
    exact ⟨rfl, hB.keeps⟩
  · exact fun _ _ h => h.elim

def fI_RootedText (fuel : Nat) (p0 : T_RootedProblem) : Option (Str × Bool) :=
  (fI_IsRootedProblem fuel p0) >>= fun x8 =>
  if !x8 then
    some ((⟨[]⟩ : Str), false)
  else
    (fI_rootedText p0) >>= fun x16 =>
    some (x16, true)

def pI_RootedText (w : World) (r : Str × Bool) : Ending → World → Prop := fun e w' => e = .returned (.tuple #[.string ⟨r.1.b.toArray⟩, .bool r.2]) ∧ Keeps w w'
set_option maxRecDepth 100000 in
set_option maxHeartbeats 2000000 in
theorem cI_RootedText (fuel : Nat) (w : World) (u0 : List Value) (p0 : T_RootedProblem) (g0 : Rp.rd zt w u0 p0) (r : Str × Bool) (hF : fI_RootedText fuel p0 = some r) :
    Calls Tryd.prog 20 #[.agg u0.toArray] w (pI_RootedText w r) := by
  unfold fI_RootedText at hF
  obtain ⟨v1, rfl, h2⟩ := g0
  have hB : Bs (fun _ => 1) (col (fun _ => 1)) w w := Bs.start _ _
  refine calls_start (n := 9) (vs := [(.agg #[(.int .i64 p0.Labels), (.int .i64 p0.Children), v1])]) Tryd.func20 rfl rfl ?_
  refine wpC_seq ?_
  refine wpC_region ?_
  refine st_op (by decide) trivial ?_
  refine wf_box (o := (col (fun _ => 1))) w.heap.size 11 hB.keeps.size (cs := [(.int .i64 p0.Labels), (.int .i64 p0.Children), v1]) rfl rfl ?_
  intro o3 w4 b5 h6 s7
  replace hB := hB.stp s7 (by decide)
  refine st_val (ex_assign rfl) (by decide) trivial ?_
  refine st_val (ex_assign rfl) (by decide) trivial ?_
  refine wpF_end (r := [(1, (.pointer (some ⟨b5, 0, none⟩)))]) ⟨rfl, trivial⟩ ?_
  refine nx ?_
  refine wpC_seq ?_
  refine wpC_seq ?_
  refine wpC_region ?_
  refine st_val (ex_loadA rfl Tryd.isAgg39 Tryd.sizeOf39 rfl h6.cells) (by decide) trivial ?_
  obtain ⟨x8, hx8, hF⟩ := bind_some hF
  refine st_op (by decide) trivial ?_
  refine wf_call (cI_IsRootedProblem fuel w4 _ p0 (⟨_, rfl, (h2.keep hB.keeps)⟩) x8 hx8) Tryd.call38 ⟨rfl, trivial⟩ ?_
  rintro e13 w9 ⟨rfl, k10⟩
  have s12 := k10.stp 999 o3
  refine ⟨_, rfl, ?_⟩
  replace h6 := h6.stp s12 (by decide)
  replace hB := hB.stp s12 (by decide)
  refine st_val (ex_not rfl) (by decide) trivial ?_
  refine wpF_end (r := [(1, (.pointer (some ⟨b5, 0, none⟩))), (6, (.bool (!x8)))]) ⟨rfl, rfl, trivial⟩ ?_
  refine nx ?_
  refine wpC_cond rfl (fun t14 => ?_) (fun t14 => ?_)
  · rw [if_pos t14] at hF
    refine wpC_seq ?_
    refine wpC_region ?_
    refine st_val (ex_assign rfl) (by decide) trivial ?_
    refine st_val (ex_assign rfl) (by decide) trivial ?_
    refine wpF_end (r := [(2, (.string ⟨(⟨[]⟩ : Str).b.toArray⟩)), (3, (.bool false))]) ⟨rfl, rfl, trivial⟩ ?_
    refine nx ?_
    refine wpC_ret ?_
    refine nt_ret ?_
    have e15 := Option.some.inj hF
    subst e15
    refine ret_post (P := Tryd.prog) (vs := [(.string ⟨(⟨[]⟩ : Str).b.toArray⟩), (.bool false)]) Tryd.results20 ⟨rfl, rfl, trivial⟩ ?_
    exact ⟨rfl, hB.keeps⟩
  · rw [if_neg (by rw [t14]; decide)] at hF
    refine wpC_skip ?_
    refine nx ?_
    refine wpC_seq ?_
    refine wpC_region ?_
    refine st_val (ex_loadA rfl Tryd.isAgg39 Tryd.sizeOf39 rfl h6.cells) (by decide) trivial ?_
    obtain ⟨x16, hx16, hF⟩ := bind_some hF
    refine st_op (by decide) trivial ?_
    refine wf_call (cI_rootedText w9 _ p0 (⟨_, rfl, (h2.keep hB.keeps)⟩) x16 hx16) Tryd.call39 ⟨rfl, trivial⟩ ?_
    rintro e21 w17 ⟨rfl, k18⟩
    have s20 := k18.stp 999 o3
    refine ⟨_, rfl, ?_⟩
    replace h6 := h6.stp s20 (by decide)
    replace hB := hB.stp s20 (by decide)
    refine st_val (ex_assign rfl) (by decide) trivial ?_
    refine st_val (ex_assign rfl) (by decide) trivial ?_
    refine wpF_end (r := [(2, (.string ⟨x16.b.toArray⟩)), (3, (.bool true))]) ⟨rfl, rfl, trivial⟩ ?_
    refine nx ?_
    refine wpC_ret ?_
    have e22 := Option.some.inj hF
    subst e22
    refine ret_post (P := Tryd.prog) (vs := [(.string ⟨x16.b.toArray⟩), (.bool true)]) Tryd.results20 ⟨rfl, rfl, trivial⟩ ?_
    exact ⟨rfl, hB.keeps⟩

end Go.Proofs.YthhpcledhflapaaDoor
