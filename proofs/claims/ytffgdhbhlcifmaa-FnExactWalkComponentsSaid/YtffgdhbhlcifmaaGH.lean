/- spec.waMay, spec.waTimes, spec.waPowers: plain functions, and the walks that show that the program computes them (printed by gen.py). -/
import Derived.Test.YtffgdhbhlcifmaaGA
import Derived.Test.YtffgdhbhlcifmaaKg
namespace Go.Proofs.Ytffgdhbhlcifmaa
open Go.RowKit
set_option linter.unusedSimpArgs false
set_option linter.unusedVariables false

theorem info2_t_bool_H : Inf Try.prog 4 (.bool false) 1 1 := by unfold Inf; kernel_rfl

theorem info2_t_LLbool_H : Inf Try.prog 85 (.slice none 0 0) 1 24 := by unfold Inf; kernel_rfl

theorem info2_t_Lbool_H : Inf Try.prog 87 (.slice none 0 0) 1 24 := by unfold Inf; kernel_rfl

def fS_waMay_s1 (p0 : T_WalkProblem) : ((List (List Bool)) × Int) → Option (Lp ((List (List Bool)) × Int) ((List (List Bool)) × Int) (List (List Bool))) := fun (s : (List (List Bool)) × Int) =>
  if decide (s.2 < p0.Labels) then
    (mk (Rz.z : Bool) p0.Labels) >>= fun x29 =>
    (push s.1 x29) >>= fun x41 =>
    (ck (s.2 + 1)) >>= fun x52 =>
    some (.go (x41, x52))
  else
    some (.out (s.1, s.2))
def fS_waMay_s2 : Int → (List Int) → (List (List Bool)) → Option (Lp (List (List Bool)) (List (List Bool)) (List (List Bool))) := fun (i61 : Int) (x71 : List Int) (s : List (List Bool)) =>
  (ix x71 0) >>= fun x79 =>
  (ix s x79) >>= fun x82 =>
  (ix x71 1) >>= fun x90 =>
  (ix x82 x90) >>= fun x145 =>
  (st x82 x90 true) >>= fun x154 =>
  some (.go (s.set x79.toNat x154))
def fS_waMay (fuel : Nat) (p0 : T_WalkProblem) : Option (List (List Bool)) :=
  (loopF (fS_waMay_s1 p0) fuel ([], 0)) >>= fun q18 =>
  match q18 with
  | .inl (y10, y15) =>
    (forI (fS_waMay_s2) p0.Arcs 0 y10) >>= fun q62 =>
    match q62 with
    | .inl y55 =>
      some y55
    | .inr _ => none
  | .inr _ => none

def pS_waMay (oo : Tg) (t : Nat) (w : World) (r : List (List Bool)) : Ending → World → Prop := fun e w' => ∃ (v0 : Value) (g0 : List Hv) (o' : Tg), e = .returned (v0) ∧ Ow w.heap.size 87 t o' w' v0 g0 ∧ Rws w.heap.size 4 (t + 1) o' w' g0 r ∧ Keeps w w' ∧ ∀ b, b < w.heap.size → o' b = oo b
set_option maxRecDepth 100000 in
set_option maxHeartbeats 2000000 in
theorem cS_waMay (fuel : Nat) (w : World) (oo : Tg) (t : Nat) (ht : 2 ≤ t) (u0 : List Value) (p0 : T_WalkProblem) (g0 : Rp.rd zt w u0 p0) (r : List (List Bool)) (hF : fS_waMay fuel p0 = some r) :
    Calls Try.prog 105 #[.agg u0.toArray] w (pS_waMay oo t w r) := by
  unfold fS_waMay at hF
  obtain ⟨v1, rfl, h2⟩ := g0
  have hB : Bs oo (col oo) w w := Bs.start _ _
  refine calls_start (n := 38) (vs := [(.agg #[(.int .i64 p0.Labels), v1])]) Try.func105 rfl rfl ?_
  generalize col oo = o at *
  refine wpC_seq ?_
  refine wpC_region ?_
  refine st_op (by decide) trivial ?_
  refine wf_box (o := o) w.heap.size 11 hB.keeps.size (cs := [(.int .i64 p0.Labels), v1]) rfl rfl ?_
  intro o3 w4 b5 h6 s7
  replace hB := hB.stp s7 (by decide)
  refine st_val (ex_assign rfl) (by decide) trivial ?_
  refine wpF_end (r := [(1, (.pointer (some ⟨b5, 0, none⟩)))]) ⟨rfl, trivial⟩ ?_
  refine nx ?_
  refine wpC_seq ?_
  refine wpC_region ?_
  refine st_val (ex_assign rfl) (by decide) trivial ?_
  refine wpF_end (r := [(1, (.pointer (some ⟨b5, 0, none⟩))), (3, (.slice none 0 0))]) ⟨rfl, rfl, trivial⟩ ?_
  refine nx ?_
  refine wpC_seq ?_
  refine wpC_seq ?_
  refine wpC_region ?_
  refine st_val (ex_assign rfl) (by decide) trivial ?_
  refine wpF_end (r := [(1, (.pointer (some ⟨b5, 0, none⟩))), (3, (.slice none 0 0)), (4, (.int .i64 0))]) ⟨rfl, rfl, rfl, trivial⟩ ?_
  refine nx ?_
  have h8 : Ow w.heap.size 87 12 o3 w4 (.slice none 0 0) ([] : List Hv) := Ow.nil _ _ _ _ _
  have h9 : Rws w.heap.size 4 13 o3 w4 [] ([] : List (List Bool)) := Rws.nil _ _ _ _ _
  obtain ⟨q18, hq18, hF⟩ := bind_some hF
  refine wpC_cutN (fun a w17 => ∃ (y10 : List (List Bool)) (y15 : Int) (v11 : Value) (g14 : List Hv) (o16 : Tg), q18 = .inl (y10, y15) ∧ Fr a 38 [(1, (.pointer (some ⟨b5, 0, none⟩))), (3, v11)] ∧ Bs oo o16 w w17 ∧ Ow w.heap.size 87 12 o16 w17 v11 g14 ∧ Rws w.heap.size 4 13 o16 w17 g14 y10 ∧ Bx w.heap.size 11 o16 w17 b5 29 [(.int .i64 p0.Labels), v1]) (fun _ _ => False) ?_ ?_ ?_
  · refine wpC_block ?_
    refine wpC_loop (fun (K : Nat) a w17 => ∃ (y10 : List (List Bool)) (y15 : Int) (v11 : Value) (g14 : List Hv) (o16 : Tg), loopF (fS_waMay_s1 p0) K (y10, y15) = some q18 ∧ Fr a 38 [(1, (.pointer (some ⟨b5, 0, none⟩))), (3, v11), (4, (.int .i64 y15))] ∧ Bs oo o16 w w17 ∧ Ow w.heap.size 87 12 o16 w17 v11 g14 ∧ Rws w.heap.size 4 13 o16 w17 g14 y10 ∧ Bx w.heap.size 11 o16 w17 b5 29 [(.int .i64 p0.Labels), v1]) fuel (fun a ha => ⟨[], 0, (.slice none 0 0), [], o3, hq18, ha.sub (r := [(1, (.pointer (some ⟨b5, 0, none⟩))), (3, (.slice none 0 0)), (4, (.int .i64 0))]) ⟨rfl, rfl, rfl, trivial⟩, hB, h8, h9, h6⟩) ?_
    rintro K22 a w17 ⟨y10, y15, v11, g14, o16, l19, ha, hB, h12, h13, h6⟩
    obtain ⟨K26, q23, e27, b24, n25⟩ := loopF_cons l19
    dsimp only [fS_waMay_s1] at b24
    refine wp_of ha ?_
    refine wpC_seq ?_
    refine wpC_seq ?_
    refine wpC_region ?_
    refine st_val (ex_move rfl) (by decide) trivial ?_
    refine st_val (ex_field rfl Try.underlying29 rfl Try.sizeOf3) (by decide) trivial ?_
    refine st_val (ex_load1 rfl Try.isAgg3 (h6.cell rfl)) (by decide) trivial ?_
    refine st_val (ex_lss rfl rfl) (by decide) trivial ?_
    refine wpF_end (r := [(1, (.pointer (some ⟨b5, 0, none⟩))), (3, v11), (4, (.int .i64 y15)), (10, (.bool (decide (y15 < p0.Labels))))]) ⟨rfl, rfl, rfl, rfl, trivial⟩ ?_
    refine nx ?_
    refine wpC_cond rfl (fun t28 => ?_) (fun t28 => ?_)
    · rw [if_pos t28] at b24
      refine wpC_skip ?_
      refine nx ?_
      refine wpC_seq ?_
      refine wpC_block ?_
      refine wpC_region ?_
      refine st_val (ex_move rfl) (by decide) trivial ?_
      refine st_val (ex_field rfl Try.underlying29 rfl Try.sizeOf3) (by decide) trivial ?_
      refine st_val (ex_load1 rfl Try.isAgg3 (h6.cell rfl)) (by decide) trivial ?_
      obtain ⟨x29, hx29, b24⟩ := bind_some b24
      refine st_op (by decide) trivial ?_
      refine wf_make (o := o16) w.heap.size 14 hB.keeps.size hx29 rfl rfl Try.underlying87 info2_t_bool_H rfl (by decide) ?_
      intro o30 w31 v32 h33 s34
      replace h12 := h12.stp s34 (by decide) (by decide)
      replace h13 := h13.stp s34 (by decide) (by decide)
      replace h6 := h6.stp s34 (by decide)
      replace hB := hB.stp s34 (by decide)
      refine st_op (by decide) trivial ?_
      refine wf_litR (o := o30) (cs := [v32]) (xs := ([⟨v32⟩] : List Hv)) (vs := [(0, v32)]) ⟨_, _, rfl, rd_hv h33, rfl⟩ rfl ⟨rfl, rfl, trivial⟩ Try.underlying85 Try.sizeOf87 Try.zeroValue87 (by decide) (fill1 h33.cells1) (by simp) ?_
      intro o35 w36 v37 h38 s39 k40
      replace h12 := h12.stp s39 (by decide) (by decide)
      replace h13 := h13.stp s39 (by decide) (by decide)
      replace h33 := h33.stp s39 (by decide) (by decide)
      replace h6 := h6.stp s39 (by decide)
      replace hB := hB.stp s39 (by decide)
      obtain ⟨x41, hx41, b24⟩ := bind_some b24
      obtain ⟨h42, h43⟩ := h13.pushV hx41 v32
      refine st_op (by decide) trivial ?_
      refine wf_cat h12 h38 (push_cat h42) (by decide) hB.keeps.size rfl rfl Try.underlying85 info2_t_Lbool_H rfl (by decide) ?_
      intro o44 w45 v46 h47 s48
      replace h13 := h13.stp s48 (by decide) (by decide)
      replace h33 := h33.stp s48 (by decide) (by decide)
      replace h6 := h6.stp s48 (by decide)
      replace hB := hB.stp s48 (by decide)
      have h49 := h13.push h33 (by decide) (by decide)
      rw [← h43] at h49
      clear h13 h33
      have r50 := mrg_rc 14 13 o44
      replace h47 := h47.rc r50 (by decide) (by decide)
      replace h6 := h6.rc r50 (by decide)
      replace hB := hB.rc r50 (by decide)
      generalize mrg 14 13 o44 = o51 at *
      refine st_val (ex_assign rfl) (by decide) trivial ?_
      refine wpF_end (r := [(1, (.pointer (some ⟨b5, 0, none⟩))), (3, v46), (4, (.int .i64 y15))]) ⟨rfl, rfl, rfl, trivial⟩ ?_
      refine nb_norm ?_
      refine nx ?_
      refine wpC_region ?_
      refine st_val (ex_move rfl) (by decide) trivial ?_
      obtain ⟨x52, hx52, b24⟩ := bind_some b24
      refine st_val (ex_add rfl rfl hx52) (by decide) trivial ?_
      refine st_val (ex_assign rfl) (by decide) trivial ?_
      refine wpF_end (r := [(1, (.pointer (some ⟨b5, 0, none⟩))), (3, v46), (4, (.int .i64 x52))]) ⟨rfl, rfl, rfl, trivial⟩ ?_
      refine nt_norm ?_
      have e53 := Option.some.inj b24
      subst e53
      refine to_k (r := [(1, (.pointer (some ⟨b5, 0, none⟩))), (3, v46), (4, (.int .i64 x52))]) ⟨rfl, rfl, rfl, trivial⟩ ?_
      intro a ha
      exact ⟨K26, by omega, x41, x52, v46, (g14 ++ [⟨v32⟩]), o51, n25, ha, hB, h47, h49, h6⟩
    · rw [if_neg (by rw [t28]; decide)] at b24
      refine wpC_exit ?_
      refine nt_exit ?_
      refine nt_exit ?_
      refine nb_hit ?_
      refine np_norm ?_
      have e54 := Option.some.inj b24
      subst e54
      refine to_k (r := [(1, (.pointer (some ⟨b5, 0, none⟩))), (3, v11)]) ⟨rfl, rfl, trivial⟩ ?_
      intro a ha
      exact ⟨y10, y15, v11, g14, o16, n25, ha, hB, h12, h13, h6⟩
  · rintro a w17 ⟨y10, y15, v11, g14, o16, rfl, ha, hB, h12, h13, h6⟩
    dsimp only at hF
    refine ap_k ha ?_
    refine nx ?_
    refine wpC_seq ?_
    refine wpC_seq ?_
    refine wpC_region ?_
    refine st_val (ex_field rfl Try.underlying29 rfl Try.sizeOf22) (by decide) trivial ?_
    refine st_val (ex_load1 rfl Try.isAgg22 (h6.cell rfl)) (by decide) trivial ?_
    refine st_val (ex_lenR rfl h2 Try.underlying22) (by decide) trivial ?_
    refine st_val (ex_move rfl) (by decide) trivial ?_
    refine wpF_end (r := [(3, v11), (20, v1), (21, (.int .i64 (p0.Arcs.length : Int))), (22, (.int .i64 0))]) ⟨rfl, rfl, rfl, rfl, trivial⟩ ?_
    refine nx ?_
    obtain ⟨q62, hq62, hF⟩ := bind_some hF
    refine wpC_cutN (fun a w60 => ∃ (y55 : List (List Bool)) (g58 : List Hv) (o59 : Tg), q62 = .inl y55 ∧ Fr a 38 [(3, v11)] ∧ Bs oo o59 w w60 ∧ Ow w.heap.size 87 12 o59 w60 v11 g58 ∧ Rws w.heap.size 4 13 o59 w60 g58 y55) (fun _ _ => False) ?_ ?_ ?_
    · refine wpC_block ?_
      refine wpC_loop (fun (K : Nat) a w60 => ∃ (i61 : Int) (y55 : List (List Bool)) (g58 : List Hv) (o59 : Tg), forI (fS_waMay_s2) (p0.Arcs.drop i61.toNat) i61 y55 = some q62 ∧ (p0.Arcs.drop i61.toNat).length = K ∧ 0 ≤ i61 ∧ Fr a 38 [(3, v11), (20, v1), (21, (.int .i64 (p0.Arcs.length : Int))), (22, (.int .i64 i61))] ∧ Bs oo o59 w w60 ∧ Ow w.heap.size 87 12 o59 w60 v11 g58 ∧ Rws w.heap.size 4 13 o59 w60 g58 y55) _ (fun a ha => ⟨0, y10, g14, o16, hq62, rfl, Int.le_refl 0, ha.sub (r := [(3, v11), (20, v1), (21, (.int .i64 (p0.Arcs.length : Int))), (22, (.int .i64 0))]) ⟨rfl, rfl, rfl, rfl, trivial⟩, hB, h12, h13⟩) ?_
      rintro K66 a w60 ⟨i61, y55, g58, o59, l63, m65, z64, ha, hB, h56, h57⟩
      by_cases t70 : i61 < (p0.Arcs.length : Int)
      · obtain ⟨x71, q67, hx71, b68, n69⟩ := forI_cons z64 t70 l63
        have hle := h2.len_le
        dsimp only [fS_waMay_s2] at b68
        refine wp_of ha ?_
        refine wpC_seq ?_
        refine wpC_region ?_
        refine st_val (ex_lss rfl rfl) (by decide) trivial ?_
        refine wpF_end (r := [(3, v11), (20, v1), (21, (.int .i64 (p0.Arcs.length : Int))), (22, (.int .i64 i61)), (23, (.bool (decide (i61 < (p0.Arcs.length : Int)))))]) ⟨rfl, rfl, rfl, rfl, rfl, trivial⟩ ?_
        refine nx ?_
        refine wpC_seq ?_
        refine wpC_true (congrArg (fun b => some (Value.bool b)) (decide_eq_true t70)) ?_
        refine wpC_skip ?_
        refine nx ?_
        refine wpC_seq ?_
        refine wpC_block ?_
        refine wpC_seq ?_
        refine wpC_region ?_
        refine st_op (by decide) trivial ?_
        refine wf_atZ h2 hx71 hB rfl rfl Try.underlying22 Try.sizeOf26 ?_
        intro b72 f73 c74 h75 h76
        obtain ⟨v77, rfl, h78⟩ := h76
        refine st_val (ex_load1 rfl Try.isAgg26 (cell_of_cells h75)) (by decide) trivial ?_
        refine st_val (ex_assign rfl) (by decide) trivial ?_
        refine wpF_end (r := [(3, v11), (6, v77), (20, v1), (21, (.int .i64 (p0.Arcs.length : Int))), (22, (.int .i64 i61))]) ⟨rfl, rfl, rfl, rfl, rfl, trivial⟩ ?_
        refine nx ?_
        obtain ⟨x79, hx79, b68⟩ := bind_some b68
        obtain ⟨x82, hx82, b68⟩ := bind_some b68
        obtain ⟨v83, h84, h85, h86⟩ := h57.ix hx82
        obtain ⟨x90, hx90, b68⟩ := bind_some b68
        refine wpC_drawn (o := o59) [(3, v11), (6, v77), (20, v1), (21, (.int .i64 (p0.Arcs.length : Int))), (22, (.int .i64 i61))] [3, 6, 20, 21, 22] [26, 27, 28, 29, 30, 31, 32, 33, 34] [[], [], [1], [2], [0, 3], [4], [], [6], [7]] [none, none, none, none, none, none, none, none, none] [999, 999, 999, 999, 999, 999, 999, 999, 999] [0, 0, 0, 0, 0, 0, 0, 0, 0] [999] [fun v _ _ => v = v11, fun v _ _ => v = v77, fun v o w9 => ∃ vl, v = adr vl ((0 : Int).toNat * Rp.sz Int) ∧ RdL zt w vl x71, fun v _ _ => v = (.int .i64 x79), fun v _ _ => v = adr v11 (x79.toNat * Rp.sz Hv), fun v _ _ => v = v83, fun v _ _ => v = v77, fun v o w9 => ∃ vl, v = adr vl ((1 : Int).toNat * Rp.sz Int) ∧ RdL zt w vl x71, fun v _ _ => v = (.int .i64 x90)] (fun o8 w8 => Bs oo o8 w w8 ∧ Ow w.heap.size 87 12 o8 w8 v11 g58 ∧ Rws w.heap.size 4 13 o8 w8 g58 y55) follows_mixed (by kernel_rfl) rfl ⟨rfl, rfl, rfl, rfl, rfl, trivial⟩ ⟨hB, h56, h57⟩ ?_ ⟨st_eq _, st_eq _, fun _ _ _ _ _ _ h0 hb ⟨vl, e, h⟩ hs => ⟨vl, e, h⟩, st_eq _, st_eq _, st_eq _, st_eq _, fun _ _ _ _ _ _ h0 hb ⟨vl, e, h⟩ hs => ⟨vl, e, h⟩, st_eq _, trivial⟩ ?_ ?_
        · rintro t9 o1 w1 o2 w2 ht9 ⟨hB, h56, h57⟩ hs9
          have ht9 : t9 = 999 := by simpa using ht9
          subst ht9
          all_goals exact ⟨hB.stp hs9 (by decide), h56.stp hs9 (by decide) (by decide), h57.stp hs9 (by decide) (by decide)⟩
        · refine ⟨?_, ?_, ?_, ?_, ?_, ?_, ?_, ?_, ?_, trivial⟩
          · rintro o93 w94 a95 ha ⟨hB, h56, h57⟩ -
            refine opS_of ha (trivial) ?_
            refine op1_val (ex_move rfl) ?_
            exact ⟨_, Stp.refl _ _ _, rfl⟩
          · rintro o96 w97 a98 ha ⟨hB, h56, h57⟩ -
            refine opS_of ha (trivial) ?_
            refine op1_val (ex_move rfl) ?_
            exact ⟨_, Stp.refl _ _ _, rfl⟩
          · rintro o99 w100 a101 ha ⟨hB, h56, h57⟩ ⟨r102, -⟩
            have ha := Fr.cons (d := 27) ha r102
            refine opS_of ha (trivial) ?_
            refine wd_indexR h78 hx79 rfl rfl Try.underlying26 Try.sizeOf3 ?_
            exact ⟨_, Stp.refl _ _ _, ⟨_, rfl, h78⟩⟩
          · rintro o103 w104 a105 ha ⟨hB, h56, h57⟩ ⟨r106, -⟩
            obtain ⟨v107, e108, h109⟩ := r106
            have ha := Fr.cons (d := 28) ha e108
            refine opS_of ha (trivial) ?_
            refine wd_load1Z h109 hx79 hB rfl rfl Try.isAgg3 ?_
            intro c110 h111
            cases h111
            exact ⟨_, Stp.refl _ _ _, rfl⟩
          · rintro o112 w113 a114 ha ⟨hB, h56, h57⟩ ⟨r115, r116, -⟩
            have ha := Fr.cons (d := 26) ha r115
            have ha := Fr.cons (d := 29) ha r116
            refine opS_of ha (trivial) ?_
            refine wd_indexW h56 h84 rfl rfl Try.underlying85 Try.sizeOf87 ?_
            exact ⟨_, Stp.refl _ _ _, rfl⟩
          · rintro o117 w118 a119 ha ⟨hB, h56, h57⟩ ⟨r120, -⟩
            have ha := Fr.cons (d := 30) ha r120
            refine opS_of ha (trivial) ?_
            refine wd_load1W h56 h84 rfl rfl Try.isAgg87 ?_
            intro c121 h122
            obtain ⟨e123, -⟩ := h122
            cases e123
            exact ⟨_, Stp.refl _ _ _, rfl⟩
          · rintro o124 w125 a126 ha ⟨hB, h56, h57⟩ -
            refine opS_of ha (trivial) ?_
            refine op1_val (ex_move rfl) ?_
            exact ⟨_, Stp.refl _ _ _, rfl⟩
          · rintro o127 w128 a129 ha ⟨hB, h56, h57⟩ ⟨r130, -⟩
            have ha := Fr.cons (d := 32) ha r130
            refine opS_of ha (trivial) ?_
            refine wd_indexR h78 hx90 rfl rfl Try.underlying26 Try.sizeOf3 ?_
            exact ⟨_, Stp.refl _ _ _, ⟨_, rfl, h78⟩⟩
          · rintro o131 w132 a133 ha ⟨hB, h56, h57⟩ ⟨r134, -⟩
            obtain ⟨v135, e136, h137⟩ := r134
            have ha := Fr.cons (d := 33) ha e136
            refine opS_of ha (trivial) ?_
            refine wd_load1Z h137 hx90 hB rfl rfl Try.isAgg3 ?_
            intro c138 h139
            cases h139
            exact ⟨_, Stp.refl _ _ _, rfl⟩
        rintro o140 w141 a142 ha ⟨hB, h56, h57⟩ ⟨-, -, -, -, -, r143, -, -, r144, -⟩
        have ha := Fr.cons (d := 31) ha r143
        have ha := Fr.cons (d := 34) ha r144
        refine wl_of ha ?_
        simp only [List.length_cons, List.length_nil, Nat.zero_add, Nat.reduceAdd, List.drop_succ_cons, List.drop_zero]
        obtain ⟨x145, hx145, b68⟩ := bind_some b68
        refine st_op (by decide) trivial ?_
        refine wf_atP (h57.at h85 h86) hx145 rfl rfl Try.underlying87 Try.sizeOf4 ?_
        intro b146 c148 h151 h149 h150
        cases h150
        obtain ⟨x154, hx154, b68⟩ := bind_some b68
        obtain ⟨h155, h156, r157⟩ := h57.take h85 h86 (by decide) 15
        replace h56 := h56.rc r157 (by decide) (by decide)
        replace hB := hB.rc r157 (by decide)
        generalize one v83 15 o140 = o158 at *
        refine st_op0 trivial ?_
        refine wf_storeW h155 h151 hx154 rfl (by decide) rfl rfl rfl Try.sizeOf4 rfl ?_
        intro w152 h159 s153
        replace h156 := h156.stp s153 (by decide) (by decide)
        replace h56 := h56.stp s153 (by decide) (by decide)
        replace hB := hB.stp s153 (by decide)
        have h160 := h156.back h85 h159 (by decide) (by decide)
        have r161 := mrg_rc 15 13 o158
        clear h57 h156 h159
        replace h56 := h56.rc r161 (by decide) (by decide)
        replace hB := hB.rc r161 (by decide)
        generalize mrg 15 13 o158 = o162 at *
        refine wpF_end (r := [(3, v11), (20, v1), (21, (.int .i64 (p0.Arcs.length : Int))), (22, (.int .i64 i61))]) ⟨rfl, rfl, rfl, rfl, trivial⟩ ?_
        refine nb_norm ?_
        refine nx ?_
        refine wpC_region ?_
        refine st_val (ex_add rfl rfl (ck_in (by omega) (by omega))) (by decide) trivial ?_
        refine st_val (ex_move rfl) (by decide) trivial ?_
        refine wpF_end (r := [(3, v11), (20, v1), (21, (.int .i64 (p0.Arcs.length : Int))), (22, (.int .i64 (i61 + 1)))]) ⟨rfl, rfl, rfl, rfl, trivial⟩ ?_
        refine nt_norm ?_
        have e163 := Option.some.inj b68
        subst e163
        refine to_k (r := [(3, v11), (20, v1), (21, (.int .i64 (p0.Arcs.length : Int))), (22, (.int .i64 (i61 + 1)))]) ⟨rfl, rfl, rfl, rfl, trivial⟩ ?_
        intro a ha
        exact ⟨_, (by rw [← m65]; simp only [List.length_drop]; omega), i61 + 1, (y55.set x79.toNat x154), g58, o162, n69, rfl, (by omega), ha, hB, h56, h160⟩
      · have r164 := forI_done t70 l63
        refine wp_of ha ?_
        refine wpC_seq ?_
        refine wpC_region ?_
        refine st_val (ex_lss rfl rfl) (by decide) trivial ?_
        refine wpF_end (r := [(3, v11), (20, v1), (21, (.int .i64 (p0.Arcs.length : Int))), (22, (.int .i64 i61)), (23, (.bool (decide (i61 < (p0.Arcs.length : Int)))))]) ⟨rfl, rfl, rfl, rfl, rfl, trivial⟩ ?_
        refine nx ?_
        refine wpC_seq ?_
        refine wpC_false (congrArg (fun b => some (Value.bool b)) (decide_eq_false t70)) ?_
        refine wpC_exit ?_
        refine nt_exit ?_
        refine nt_exit ?_
        refine nb_hit ?_
        refine np_norm ?_
        refine to_k (r := [(3, v11)]) ⟨rfl, trivial⟩ ?_
        intro a ha
        exact ⟨y55, g58, o59, r164, ha, hB, h56, h57⟩
    · rintro a w60 ⟨y55, g58, o59, rfl, ha, hB, h56, h57⟩
      dsimp only at hF
      refine ap_k ha ?_
      refine nx ?_
      refine wpC_seq ?_
      refine wpC_region ?_
      refine st_val (ex_move rfl) (by decide) trivial ?_
      refine st_val (ex_assign rfl) (by decide) trivial ?_
      refine wpF_end (r := [(2, v11)]) ⟨rfl, trivial⟩ ?_
      refine nx ?_
      refine wpC_ret ?_
      have e165 := Option.some.inj hF
      subst e165
      refine ret_post (P := Try.prog) (vs := [v11]) Try.results105 ⟨rfl, trivial⟩ ?_
      exact ⟨_, g58, rt2 oo o59 w.heap.size 12 13 t, rfl, h56.rt2 hB (by decide) (by decide) t, h57.rt2 hB (by decide) (by decide) (by decide) t, hB.keeps, rt2_old _ _ _ _ _ _⟩
    · exact fun _ _ h => h.elim
  · exact fun _ _ h => h.elim

def fS_waTimes_s3 (p1 : List (List Bool)) (i38 : Int) (x48 : Bool) : Int → (List Bool) → Option (Lp (List Bool) (List Bool) (List (List Bool))) := fun (i58 : Int) (s : List Bool) =>
  (ix s i58) >>= fun x70 =>
  (
    if x70 then
      some true
    else
      if x48 then
        (ix p1 i38) >>= fun x81 =>
        (ix x81 i58) >>= fun x89 =>
        some x89
      else
        some false) >>= fun q76 =>
  (ix s i58) >>= fun x98 =>
  (st s i58 q76) >>= fun x107 =>
  some (.go x107)
def fS_waTimes_s2 (p1 : List (List Bool)) : Int → Bool → (List Bool) → Option (Lp (List Bool) (List Bool) (List (List Bool))) := fun (i38 : Int) (x48 : Bool) (s : List Bool) =>
  ck (s.length : Int) >>= fun _ =>
  (forN (fS_waTimes_s3 p1 i38 x48) ((s.length : Int)).toNat 0 s) >>= fun q59 =>
  match q59 with
  | .inl y54 =>
    some (.go y54)
  | .inr _ => none
def fS_waTimes_s1 (p1 : List (List Bool)) : Int → (List Bool) → (List (List Bool)) → Option (Lp (List (List Bool)) (List (List Bool)) (List (List Bool))) := fun (i10 : Int) (x20 : List Bool) (s : List (List Bool)) =>
  (mk (Rz.z : Bool) (x20.length : Int)) >>= fun x28 =>
  (forI (fS_waTimes_s2 p1) x20 0 x28) >>= fun q39 =>
  match q39 with
  | .inl y34 =>
    (push s y34) >>= fun x119 =>
    some (.go x119)
  | .inr _ => none
def fS_waTimes (p0 : List (List Bool)) (p1 : List (List Bool)) : Option (List (List Bool)) :=
  (forI (fS_waTimes_s1 p1) p0 0 []) >>= fun q11 =>
  match q11 with
  | .inl y3 =>
    some y3
  | .inr _ => none

def pS_waTimes (oo : Tg) (t : Nat) (w : World) (r : List (List Bool)) : Ending → World → Prop := fun e w' => ∃ (v0 : Value) (g0 : List Hv) (o' : Tg), e = .returned (v0) ∧ Ow w.heap.size 87 t o' w' v0 g0 ∧ Rws w.heap.size 4 (t + 1) o' w' g0 r ∧ Keeps w w' ∧ ∀ b, b < w.heap.size → o' b = oo b
set_option maxRecDepth 100000 in
set_option maxHeartbeats 2000000 in
theorem cS_waTimes (w : World) (oo : Tg) (t : Nat) (ht : 2 ≤ t) (u0 : Value) (p0 : List (List Bool)) (g0 : RdL zt w u0 p0) (u1 : Value) (p1 : List (List Bool)) (g1 : RdL zt w u1 p1) (r : List (List Bool)) (hF : fS_waTimes p0 p1 = some r) :
    Calls Try.prog 123 #[u0, u1] w (pS_waTimes oo t w r) := by
  unfold fS_waTimes at hF
  have hB : Bs oo (col oo) w w := Bs.start _ _
  refine calls_start (n := 60) (vs := [u0, u1]) Try.func123 rfl rfl ?_
  generalize col oo = o at *
  refine wpC_seq ?_
  refine wpC_region ?_
  refine st_val (ex_assign rfl) (by decide) trivial ?_
  refine wpF_end (r := [(0, u0), (1, u1)]) ⟨rfl, rfl, trivial⟩ ?_
  refine nx ?_
  refine wpC_seq ?_
  refine wpC_region ?_
  refine st_val (ex_assign rfl) (by decide) trivial ?_
  refine wpF_end (r := [(0, u0), (1, u1), (5, (.slice none 0 0))]) ⟨rfl, rfl, rfl, trivial⟩ ?_
  refine nx ?_
  refine wpC_seq ?_
  refine wpC_seq ?_
  refine wpC_region ?_
  refine st_val (ex_move rfl) (by decide) trivial ?_
  refine st_val (ex_lenR rfl g0 Try.underlying85) (by decide) trivial ?_
  refine st_val (ex_move rfl) (by decide) trivial ?_
  refine wpF_end (r := [(1, u1), (5, (.slice none 0 0)), (12, u0), (13, (.int .i64 (p0.length : Int))), (14, (.int .i64 0))]) ⟨rfl, rfl, rfl, rfl, rfl, trivial⟩ ?_
  refine nx ?_
  have h1 : Ow w.heap.size 87 11 o w (.slice none 0 0) ([] : List Hv) := Ow.nil _ _ _ _ _
  have h2 : Rws w.heap.size 4 12 o w [] ([] : List (List Bool)) := Rws.nil _ _ _ _ _
  obtain ⟨q11, hq11, hF⟩ := bind_some hF
  refine wpC_cutN (fun a w9 => ∃ (y3 : List (List Bool)) (v4 : Value) (g7 : List Hv) (o8 : Tg), q11 = .inl y3 ∧ Fr a 60 [(5, v4)] ∧ Bs oo o8 w w9 ∧ Ow w.heap.size 87 11 o8 w9 v4 g7 ∧ Rws w.heap.size 4 12 o8 w9 g7 y3) (fun _ _ => False) ?_ ?_ ?_
  · refine wpC_block ?_
    refine wpC_loop (fun (K : Nat) a w9 => ∃ (i10 : Int) (y3 : List (List Bool)) (v4 : Value) (g7 : List Hv) (o8 : Tg), forI (fS_waTimes_s1 p1) (p0.drop i10.toNat) i10 y3 = some q11 ∧ (p0.drop i10.toNat).length = K ∧ 0 ≤ i10 ∧ Fr a 60 [(1, u1), (5, v4), (12, u0), (13, (.int .i64 (p0.length : Int))), (14, (.int .i64 i10))] ∧ Bs oo o8 w w9 ∧ Ow w.heap.size 87 11 o8 w9 v4 g7 ∧ Rws w.heap.size 4 12 o8 w9 g7 y3) _ (fun a ha => ⟨0, [], (.slice none 0 0), [], o, hq11, rfl, Int.le_refl 0, ha.sub (r := [(1, u1), (5, (.slice none 0 0)), (12, u0), (13, (.int .i64 (p0.length : Int))), (14, (.int .i64 0))]) ⟨rfl, rfl, rfl, rfl, rfl, trivial⟩, hB, h1, h2⟩) ?_
    rintro K15 a w9 ⟨i10, y3, v4, g7, o8, l12, m14, z13, ha, hB, h5, h6⟩
    by_cases t19 : i10 < (p0.length : Int)
    · obtain ⟨x20, q16, hx20, b17, n18⟩ := forI_cons z13 t19 l12
      have hle := g0.len_le
      dsimp only [fS_waTimes_s1] at b17
      refine wp_of ha ?_
      refine wpC_seq ?_
      refine wpC_region ?_
      refine st_val (ex_lss rfl rfl) (by decide) trivial ?_
      refine wpF_end (r := [(1, u1), (5, v4), (12, u0), (13, (.int .i64 (p0.length : Int))), (14, (.int .i64 i10)), (15, (.bool (decide (i10 < (p0.length : Int)))))]) ⟨rfl, rfl, rfl, rfl, rfl, rfl, trivial⟩ ?_
      refine nx ?_
      refine wpC_seq ?_
      refine wpC_true (congrArg (fun b => some (Value.bool b)) (decide_eq_true t19)) ?_
      refine wpC_skip ?_
      refine nx ?_
      refine wpC_seq ?_
      refine wpC_block ?_
      refine wpC_seq ?_
      refine wpC_region ?_
      refine st_op (by decide) trivial ?_
      refine wf_atZ g0 hx20 hB rfl rfl Try.underlying85 Try.sizeOf87 ?_
      intro b21 f22 c23 h24 h25
      obtain ⟨v26, rfl, h27⟩ := h25
      refine st_val (ex_load1 rfl Try.isAgg87 (cell_of_cells h24)) (by decide) trivial ?_
      refine st_val (ex_assign rfl) (by decide) trivial ?_
      refine wpF_end (r := [(1, u1), (5, v4), (7, v26), (12, u0), (13, (.int .i64 (p0.length : Int))), (14, (.int .i64 i10))]) ⟨rfl, rfl, rfl, rfl, rfl, rfl, trivial⟩ ?_
      refine nx ?_
      refine wpC_seq ?_
      refine wpC_region ?_
      refine st_val (ex_move rfl) (by decide) trivial ?_
      refine st_val (ex_lenR rfl h27 Try.underlying87) (by decide) trivial ?_
      obtain ⟨x28, hx28, b17⟩ := bind_some b17
      refine st_op (by decide) trivial ?_
      refine wf_make (o := o8) w.heap.size 13 hB.keeps.size hx28 rfl rfl Try.underlying87 info2_t_bool_H rfl (by decide) ?_
      intro o29 w30 v31 h32 s33
      replace h5 := h5.stp s33 (by decide) (by decide)
      replace h6 := h6.stp s33 (by decide) (by decide)
      replace hB := hB.stp s33 (by decide)
      refine st_val (ex_assign rfl) (by decide) trivial ?_
      refine wpF_end (r := [(1, u1), (5, v4), (7, v26), (8, v31), (12, u0), (13, (.int .i64 (p0.length : Int))), (14, (.int .i64 i10))]) ⟨rfl, rfl, rfl, rfl, rfl, rfl, rfl, trivial⟩ ?_
      refine nx ?_
      refine wpC_seq ?_
      refine wpC_seq ?_
      refine wpC_region ?_
      refine st_val (ex_move rfl) (by decide) trivial ?_
      refine st_val (ex_lenR rfl h27 Try.underlying87) (by decide) trivial ?_
      refine st_val (ex_move rfl) (by decide) trivial ?_
      refine wpF_end (r := [(1, u1), (5, v4), (8, v31), (12, u0), (13, (.int .i64 (p0.length : Int))), (14, (.int .i64 i10)), (21, v26), (22, (.int .i64 (x20.length : Int))), (23, (.int .i64 0))]) ⟨rfl, rfl, rfl, rfl, rfl, rfl, rfl, rfl, rfl, trivial⟩ ?_
      refine nx ?_
      obtain ⟨q39, hq39, b17⟩ := bind_some b17
      refine wpC_cutN (fun a w37 => ∃ (y34 : List Bool) (o36 : Tg), q39 = .inl y34 ∧ Fr a 60 [(1, u1), (5, v4), (8, v31), (12, u0), (13, (.int .i64 (p0.length : Int))), (14, (.int .i64 i10))] ∧ Bs oo o36 w w37 ∧ Ow w.heap.size 87 11 o36 w37 v4 g7 ∧ Rws w.heap.size 4 12 o36 w37 g7 y3 ∧ Ow w.heap.size 4 13 o36 w37 v31 y34) (fun _ _ => False) ?_ ?_ ?_
      · refine wpC_block ?_
        refine wpC_loop (fun (K : Nat) a w37 => ∃ (i38 : Int) (y34 : List Bool) (o36 : Tg), forI (fS_waTimes_s2 p1) (x20.drop i38.toNat) i38 y34 = some q39 ∧ (x20.drop i38.toNat).length = K ∧ 0 ≤ i38 ∧ Fr a 60 [(1, u1), (5, v4), (8, v31), (12, u0), (13, (.int .i64 (p0.length : Int))), (14, (.int .i64 i10)), (21, v26), (22, (.int .i64 (x20.length : Int))), (23, (.int .i64 i38))] ∧ Bs oo o36 w w37 ∧ Ow w.heap.size 87 11 o36 w37 v4 g7 ∧ Rws w.heap.size 4 12 o36 w37 g7 y3 ∧ Ow w.heap.size 4 13 o36 w37 v31 y34) _ (fun a ha => ⟨0, x28, o29, hq39, rfl, Int.le_refl 0, ha.sub (r := [(1, u1), (5, v4), (8, v31), (12, u0), (13, (.int .i64 (p0.length : Int))), (14, (.int .i64 i10)), (21, v26), (22, (.int .i64 (x20.length : Int))), (23, (.int .i64 0))]) ⟨rfl, rfl, rfl, rfl, rfl, rfl, rfl, rfl, rfl, trivial⟩, hB, h5, h6, h32⟩) ?_
        rintro K43 a w37 ⟨i38, y34, o36, l40, m42, z41, ha, hB, h5, h6, h35⟩
        by_cases t47 : i38 < (x20.length : Int)
        · obtain ⟨x48, q44, hx48, b45, n46⟩ := forI_cons z41 t47 l40
          have hle := h27.len_le
          dsimp only [fS_waTimes_s2] at b45
          refine wp_of ha ?_
          refine wpC_seq ?_
          refine wpC_region ?_
          refine st_val (ex_lss rfl rfl) (by decide) trivial ?_
          refine wpF_end (r := [(1, u1), (5, v4), (8, v31), (12, u0), (13, (.int .i64 (p0.length : Int))), (14, (.int .i64 i10)), (21, v26), (22, (.int .i64 (x20.length : Int))), (23, (.int .i64 i38)), (24, (.bool (decide (i38 < (x20.length : Int)))))]) ⟨rfl, rfl, rfl, rfl, rfl, rfl, rfl, rfl, rfl, rfl, trivial⟩ ?_
          refine nx ?_
          refine wpC_seq ?_
          refine wpC_true (congrArg (fun b => some (Value.bool b)) (decide_eq_true t47)) ?_
          refine wpC_skip ?_
          refine nx ?_
          refine wpC_seq ?_
          refine wpC_block ?_
          refine wpC_seq ?_
          refine wpC_region ?_
          refine st_val (ex_move rfl) (by decide) trivial ?_
          refine st_op (by decide) trivial ?_
          refine wf_atZ h27 hx48 hB rfl rfl Try.underlying87 Try.sizeOf4 ?_
          intro b49 f50 c51 h52 h53
          cases h53
          refine st_val (ex_load1 rfl Try.isAgg4 (cell_of_cells h52)) (by decide) trivial ?_
          refine st_val (ex_assign rfl) (by decide) trivial ?_
          refine st_val (ex_assign rfl) (by decide) trivial ?_
          refine wpF_end (r := [(1, u1), (5, v4), (8, v31), (9, (.int .i64 i38)), (10, (.bool x48)), (12, u0), (13, (.int .i64 (p0.length : Int))), (14, (.int .i64 i10)), (21, v26), (22, (.int .i64 (x20.length : Int))), (23, (.int .i64 i38))]) ⟨rfl, rfl, rfl, rfl, rfl, rfl, rfl, rfl, rfl, rfl, rfl, trivial⟩ ?_
          refine nx ?_
          refine wpC_seq ?_
          refine wpC_region ?_
          refine st_val (ex_move rfl) (by decide) trivial ?_
          refine st_val (ex_lenO rfl h35 Try.underlying87) (by decide) trivial ?_
          refine st_val (ex_move rfl) (by decide) trivial ?_
          refine wpF_end (r := [(1, u1), (5, v4), (8, v31), (9, (.int .i64 i38)), (10, (.bool x48)), (12, u0), (13, (.int .i64 (p0.length : Int))), (14, (.int .i64 i10)), (21, v26), (22, (.int .i64 (x20.length : Int))), (23, (.int .i64 i38)), (29, (.int .i64 (y34.length : Int))), (30, (.int .i64 0))]) ⟨rfl, rfl, rfl, rfl, rfl, rfl, rfl, rfl, rfl, rfl, rfl, rfl, rfl, trivial⟩ ?_
          refine nx ?_
          obtain ⟨u61, h60, b45⟩ := bind_some b45
          obtain ⟨-, h60a, h60b⟩ := ck_some h60
          obtain ⟨q59, hq59, b45⟩ := bind_some b45
          refine wpC_cutN (fun a w57 => ∃ (y54 : List Bool) (o56 : Tg), q59 = .inl y54 ∧ Fr a 60 [(1, u1), (5, v4), (8, v31), (12, u0), (13, (.int .i64 (p0.length : Int))), (14, (.int .i64 i10)), (21, v26), (22, (.int .i64 (x20.length : Int))), (23, (.int .i64 i38))] ∧ Bs oo o56 w w57 ∧ Ow w.heap.size 87 11 o56 w57 v4 g7 ∧ Rws w.heap.size 4 12 o56 w57 g7 y3 ∧ Ow w.heap.size 4 13 o56 w57 v31 y54) (fun _ _ => False) ?_ ?_ ?_
          · refine wpC_block ?_
            refine wpC_loop (fun (K : Nat) a w57 => ∃ (i58 : Int) (y54 : List Bool) (o56 : Tg), forN (fS_waTimes_s3 p1 i38 x48) ((y34.length : Int) - i58).toNat i58 y54 = some q59 ∧ ((y34.length : Int) - i58).toNat = K ∧ 0 ≤ i58 ∧ Fr a 60 [(1, u1), (5, v4), (8, v31), (9, (.int .i64 i38)), (10, (.bool x48)), (12, u0), (13, (.int .i64 (p0.length : Int))), (14, (.int .i64 i10)), (21, v26), (22, (.int .i64 (x20.length : Int))), (23, (.int .i64 i38)), (29, (.int .i64 (y34.length : Int))), (30, (.int .i64 i58))] ∧ Bs oo o56 w w57 ∧ Ow w.heap.size 87 11 o56 w57 v4 g7 ∧ Rws w.heap.size 4 12 o56 w57 g7 y3 ∧ Ow w.heap.size 4 13 o56 w57 v31 y54) _ (fun a ha => ⟨0, y34, o36, (by rw [Int.sub_zero]; exact hq59), rfl, Int.le_refl 0, ha.sub (r := [(1, u1), (5, v4), (8, v31), (9, (.int .i64 i38)), (10, (.bool x48)), (12, u0), (13, (.int .i64 (p0.length : Int))), (14, (.int .i64 i10)), (21, v26), (22, (.int .i64 (x20.length : Int))), (23, (.int .i64 i38)), (29, (.int .i64 (y34.length : Int))), (30, (.int .i64 0))]) ⟨rfl, rfl, rfl, rfl, rfl, rfl, rfl, rfl, rfl, rfl, rfl, rfl, rfl, trivial⟩, hB, h5, h6, h35⟩) ?_
            rintro K65 a w57 ⟨i58, y54, o56, l62, m64, z63, ha, hB, h5, h6, h55⟩
            by_cases t69 : i58 < (y34.length : Int)
            · obtain ⟨q66, b67, n68⟩ := forN_cons t69 l62
              dsimp only [fS_waTimes_s3] at b67
              refine wp_of ha ?_
              refine wpC_seq ?_
              refine wpC_region ?_
              refine st_val (ex_lss rfl rfl) (by decide) trivial ?_
              refine wpF_end (r := [(1, u1), (5, v4), (8, v31), (9, (.int .i64 i38)), (10, (.bool x48)), (12, u0), (13, (.int .i64 (p0.length : Int))), (14, (.int .i64 i10)), (21, v26), (22, (.int .i64 (x20.length : Int))), (23, (.int .i64 i38)), (29, (.int .i64 (y34.length : Int))), (30, (.int .i64 i58)), (31, (.bool (decide (i58 < (y34.length : Int)))))]) ⟨rfl, rfl, rfl, rfl, rfl, rfl, rfl, rfl, rfl, rfl, rfl, rfl, rfl, rfl, trivial⟩ ?_
              refine nx ?_
              refine wpC_seq ?_
              refine wpC_true (congrArg (fun b => some (Value.bool b)) (decide_eq_true t69)) ?_
              refine wpC_skip ?_
              refine nx ?_
              refine wpC_seq ?_
              refine wpC_block ?_
              refine wpC_seq ?_
              refine wpC_region ?_
              refine st_val (ex_move rfl) (by decide) trivial ?_
              refine st_val (ex_assign rfl) (by decide) trivial ?_
              refine wpF_end (r := [(1, u1), (5, v4), (8, v31), (9, (.int .i64 i38)), (10, (.bool x48)), (11, (.int .i64 i58)), (12, u0), (13, (.int .i64 (p0.length : Int))), (14, (.int .i64 i10)), (21, v26), (22, (.int .i64 (x20.length : Int))), (23, (.int .i64 i38)), (29, (.int .i64 (y34.length : Int))), (30, (.int .i64 i58))]) ⟨rfl, rfl, rfl, rfl, rfl, rfl, rfl, rfl, rfl, rfl, rfl, rfl, rfl, rfl, trivial⟩ ?_
              refine nx ?_
              refine wpC_region ?_
              refine st_val (ex_move rfl) (by decide) trivial ?_
              refine st_val (ex_move rfl) (by decide) trivial ?_
              refine st_val (ex_move rfl) (by decide) trivial ?_
              refine st_val (ex_move rfl) (by decide) trivial ?_
              obtain ⟨x70, hx70, b67⟩ := bind_some b67
              refine st_op (by decide) trivial ?_
              refine wf_atW h55 hx70 rfl rfl Try.underlying87 Try.sizeOf4 ?_
              intro b71 f72 c73 h74 h75
              cases h75
              refine st_val (ex_load1 rfl Try.isAgg4 (cell_of_cells h74)) (by decide) trivial ?_
              refine st_val (ex_move rfl) (by decide) trivial ?_
              obtain ⟨q76, hq76, b67⟩ := bind_some b67
              refine wpF_cutAt 11 (fun a78 w77 => Fr a78 60 [(1, u1), (5, v4), (8, v31), (9, (.int .i64 i38)), (10, (.bool x48)), (12, u0), (13, (.int .i64 (p0.length : Int))), (14, (.int .i64 i10)), (21, v26), (22, (.int .i64 (x20.length : Int))), (23, (.int .i64 i38)), (29, (.int .i64 (y34.length : Int))), (30, (.int .i64 i58)), (33, v31), (34, (.int .i64 i58)), (50, (.bool q76))] ∧ Keeps w57 w77) ?_ ?_
              all_goals simp only [List.take_succ_cons, List.take_zero, List.drop_succ_cons, List.drop_zero]
              · have kp : Keeps w57 w57 := Keeps.refl _
                rcases Bool.eq_false_or_eq_true (x70) with t79 | t79
                · rw [if_pos t79] at hq76
                  refine st_no rfl rfl (by rw [t79]; rfl) (by decide) ?_
                  refine st_no rfl rfl (by rw [t79]; rfl) (by decide) ?_
                  refine st_no2 rfl rfl (by decide) ?_
                  refine st_no2 rfl rfl (by decide) ?_
                  refine st_no2 rfl rfl (by decide) ?_
                  refine st_no2 rfl rfl (by decide) ?_
                  refine st_no2 rfl rfl (by decide) ?_
                  refine st_no2 rfl rfl (by decide) ?_
                  refine st_no2 rfl rfl (by decide) ?_
                  refine st_no rfl rfl (by rw [t79]; rfl) (by decide) ?_
                  refine st_val (ex_pick_t (congrArg (fun b => some (Value.bool b)) t79) rfl) (by decide) trivial ?_
                  have hq762 := Option.some.inj hq76
                  refine wpF_end (r := [(1, u1), (5, v4), (8, v31), (9, (.int .i64 i38)), (10, (.bool x48)), (12, u0), (13, (.int .i64 (p0.length : Int))), (14, (.int .i64 i10)), (21, v26), (22, (.int .i64 (x20.length : Int))), (23, (.int .i64 i38)), (29, (.int .i64 (y34.length : Int))), (30, (.int .i64 i58)), (33, v31), (34, (.int .i64 i58)), (50, (.bool true))]) ⟨rfl, rfl, rfl, rfl, rfl, rfl, rfl, rfl, rfl, rfl, rfl, rfl, rfl, rfl, rfl, rfl, trivial⟩ ?_
                  subst hq762
                  refine np_norm (fun a ha => ⟨ha, kp⟩)
                · rw [if_neg (by rw [t79]; decide)] at hq76
                  refine st_val (ex_move rfl) (by decide) ⟨_, rfl, (congrArg (fun b => some (Value.bool b)) t79)⟩ ?_
                  refine st_val (ex_move rfl) (by decide) ⟨_, rfl, (congrArg (fun b => some (Value.bool b)) t79)⟩ ?_
                  rcases Bool.eq_false_or_eq_true (x48) with t80 | t80
                  · rw [if_pos t80] at hq76
                    refine st_val (ex_move rfl) (by decide) ⟨_, rfl, (congrArg (fun b => some (Value.bool b)) t80)⟩ ?_
                    refine st_val (ex_move rfl) (by decide) ⟨_, rfl, (congrArg (fun b => some (Value.bool b)) t80)⟩ ?_
                    obtain ⟨x81, hx81, hq76⟩ := bind_some hq76
                    refine st_op (by decide) ⟨_, rfl, (congrArg (fun b => some (Value.bool b)) t80)⟩ ?_
                    refine wf_atZ g1 hx81 hB rfl rfl Try.underlying85 Try.sizeOf87 ?_
                    intro b82 f83 c84 h85 h86
                    obtain ⟨v87, rfl, h88⟩ := h86
                    refine st_val (ex_load1 rfl Try.isAgg87 (cell_of_cells h85)) (by decide) ⟨_, rfl, (congrArg (fun b => some (Value.bool b)) t80)⟩ ?_
                    refine st_val (ex_move rfl) (by decide) ⟨_, rfl, (congrArg (fun b => some (Value.bool b)) t80)⟩ ?_
                    obtain ⟨x89, hx89, hq76⟩ := bind_some hq76
                    refine st_op (by decide) ⟨_, rfl, (congrArg (fun b => some (Value.bool b)) t80)⟩ ?_
                    refine wf_atZ h88 hx89 hB rfl rfl Try.underlying87 Try.sizeOf4 ?_
                    intro b90 f91 c92 h93 h94
                    cases h94
                    refine st_val (ex_load1 rfl Try.isAgg4 (cell_of_cells h93)) (by decide) ⟨_, rfl, (congrArg (fun b => some (Value.bool b)) t80)⟩ ?_
                    refine st_val (ex_pick_t (congrArg (fun b => some (Value.bool b)) t80) rfl) (by decide) ⟨_, rfl, (congrArg (fun b => some (Value.bool b)) t79)⟩ ?_
                    refine st_val (ex_pick_f (congrArg (fun b => some (Value.bool b)) t79) rfl) (by decide) trivial ?_
                    have hq762 := Option.some.inj hq76
                    refine wpF_end (r := [(1, u1), (5, v4), (8, v31), (9, (.int .i64 i38)), (10, (.bool x48)), (12, u0), (13, (.int .i64 (p0.length : Int))), (14, (.int .i64 i10)), (21, v26), (22, (.int .i64 (x20.length : Int))), (23, (.int .i64 i38)), (29, (.int .i64 (y34.length : Int))), (30, (.int .i64 i58)), (33, v31), (34, (.int .i64 i58)), (50, (.bool x89))]) ⟨rfl, rfl, rfl, rfl, rfl, rfl, rfl, rfl, rfl, rfl, rfl, rfl, rfl, rfl, rfl, rfl, trivial⟩ ?_
                    subst hq762
                    refine np_norm (fun a ha => ⟨ha, kp⟩)
                  · rw [if_neg (by rw [t80]; decide)] at hq76
                    refine st_no rfl rfl (by rw [t80]; rfl) (by decide) ?_
                    refine st_no rfl rfl (by rw [t80]; rfl) (by decide) ?_
                    refine st_no rfl rfl (by rw [t80]; rfl) (by decide) ?_
                    refine st_no rfl rfl (by rw [t80]; rfl) (by decide) ?_
                    refine st_no rfl rfl (by rw [t80]; rfl) (by decide) ?_
                    refine st_no rfl rfl (by rw [t80]; rfl) (by decide) ?_
                    refine st_no rfl rfl (by rw [t80]; rfl) (by decide) ?_
                    refine st_val (ex_pick_f (congrArg (fun b => some (Value.bool b)) t80) rfl) (by decide) ⟨_, rfl, (congrArg (fun b => some (Value.bool b)) t79)⟩ ?_
                    refine st_val (ex_pick_f (congrArg (fun b => some (Value.bool b)) t79) rfl) (by decide) trivial ?_
                    have hq762 := Option.some.inj hq76
                    refine wpF_end (r := [(1, u1), (5, v4), (8, v31), (9, (.int .i64 i38)), (10, (.bool x48)), (12, u0), (13, (.int .i64 (p0.length : Int))), (14, (.int .i64 i10)), (21, v26), (22, (.int .i64 (x20.length : Int))), (23, (.int .i64 i38)), (29, (.int .i64 (y34.length : Int))), (30, (.int .i64 i58)), (33, v31), (34, (.int .i64 i58)), (50, (.bool false))]) ⟨rfl, rfl, rfl, rfl, rfl, rfl, rfl, rfl, rfl, rfl, rfl, rfl, rfl, rfl, rfl, rfl, trivial⟩ ?_
                    subst hq762
                    refine np_norm (fun a ha => ⟨ha, kp⟩)
              rintro a97 w77 ⟨ha, k95⟩
              have s96 := k95.stp 999 o56
              replace h5 := h5.stp s96 (by decide) (by decide)
              replace h6 := h6.stp s96 (by decide) (by decide)
              replace h55 := h55.stp s96 (by decide) (by decide)
              replace hB := hB.stp s96 (by decide)
              refine wl_of ha ?_
              obtain ⟨x98, hx98, b67⟩ := bind_some b67
              refine st_op (by decide) trivial ?_
              refine wf_atP h55 hx98 rfl rfl Try.underlying87 Try.sizeOf4 ?_
              intro b99 c101 h104 h102 h103
              cases h103
              obtain ⟨x107, hx107, b67⟩ := bind_some b67
              refine st_op0 trivial ?_
              refine wf_storeW h55 h104 hx107 rfl (by decide) rfl rfl rfl Try.sizeOf4 rfl ?_
              intro w105 h108 s106
              replace h5 := h5.stp s106 (by decide) (by decide)
              replace h6 := h6.stp s106 (by decide) (by decide)
              replace hB := hB.stp s106 (by decide)
              refine wpF_end (r := [(1, u1), (5, v4), (8, v31), (9, (.int .i64 i38)), (10, (.bool x48)), (12, u0), (13, (.int .i64 (p0.length : Int))), (14, (.int .i64 i10)), (21, v26), (22, (.int .i64 (x20.length : Int))), (23, (.int .i64 i38)), (29, (.int .i64 (y34.length : Int))), (30, (.int .i64 i58))]) ⟨rfl, rfl, rfl, rfl, rfl, rfl, rfl, rfl, rfl, rfl, rfl, rfl, rfl, trivial⟩ ?_
              refine nb_norm ?_
              refine nx ?_
              refine wpC_region ?_
              refine st_val (ex_add rfl rfl (ck_in (by omega) (by omega))) (by decide) trivial ?_
              refine st_val (ex_move rfl) (by decide) trivial ?_
              refine wpF_end (r := [(1, u1), (5, v4), (8, v31), (9, (.int .i64 i38)), (10, (.bool x48)), (12, u0), (13, (.int .i64 (p0.length : Int))), (14, (.int .i64 i10)), (21, v26), (22, (.int .i64 (x20.length : Int))), (23, (.int .i64 i38)), (29, (.int .i64 (y34.length : Int))), (30, (.int .i64 (i58 + 1)))]) ⟨rfl, rfl, rfl, rfl, rfl, rfl, rfl, rfl, rfl, rfl, rfl, rfl, rfl, trivial⟩ ?_
              refine nt_norm ?_
              have e109 := Option.some.inj b67
              subst e109
              refine to_k (r := [(1, u1), (5, v4), (8, v31), (9, (.int .i64 i38)), (10, (.bool x48)), (12, u0), (13, (.int .i64 (p0.length : Int))), (14, (.int .i64 i10)), (21, v26), (22, (.int .i64 (x20.length : Int))), (23, (.int .i64 i38)), (29, (.int .i64 (y34.length : Int))), (30, (.int .i64 (i58 + 1)))]) ⟨rfl, rfl, rfl, rfl, rfl, rfl, rfl, rfl, rfl, rfl, rfl, rfl, rfl, trivial⟩ ?_
              intro a ha
              exact ⟨_, (by rw [← m64]; omega), i58 + 1, x107, o56, n68, rfl, (by omega), ha, hB, h5, h6, h108⟩
            · have r110 := forN_done t69 l62
              refine wp_of ha ?_
              refine wpC_seq ?_
              refine wpC_region ?_
              refine st_val (ex_lss rfl rfl) (by decide) trivial ?_
              refine wpF_end (r := [(1, u1), (5, v4), (8, v31), (9, (.int .i64 i38)), (10, (.bool x48)), (12, u0), (13, (.int .i64 (p0.length : Int))), (14, (.int .i64 i10)), (21, v26), (22, (.int .i64 (x20.length : Int))), (23, (.int .i64 i38)), (29, (.int .i64 (y34.length : Int))), (30, (.int .i64 i58)), (31, (.bool (decide (i58 < (y34.length : Int)))))]) ⟨rfl, rfl, rfl, rfl, rfl, rfl, rfl, rfl, rfl, rfl, rfl, rfl, rfl, rfl, trivial⟩ ?_
              refine nx ?_
              refine wpC_seq ?_
              refine wpC_false (congrArg (fun b => some (Value.bool b)) (decide_eq_false t69)) ?_
              refine wpC_exit ?_
              refine nt_exit ?_
              refine nt_exit ?_
              refine nb_hit ?_
              refine np_norm ?_
              refine to_k (r := [(1, u1), (5, v4), (8, v31), (12, u0), (13, (.int .i64 (p0.length : Int))), (14, (.int .i64 i10)), (21, v26), (22, (.int .i64 (x20.length : Int))), (23, (.int .i64 i38))]) ⟨rfl, rfl, rfl, rfl, rfl, rfl, rfl, rfl, rfl, trivial⟩ ?_
              intro a ha
              exact ⟨y54, o56, r110, ha, hB, h5, h6, h55⟩
          · rintro a w57 ⟨y54, o56, rfl, ha, hB, h5, h6, h55⟩
            dsimp only at b45
            refine ap_k ha ?_
            refine nb_norm ?_
            refine nx ?_
            refine wpC_region ?_
            refine st_val (ex_add rfl rfl (ck_in (by omega) (by omega))) (by decide) trivial ?_
            refine st_val (ex_move rfl) (by decide) trivial ?_
            refine wpF_end (r := [(1, u1), (5, v4), (8, v31), (12, u0), (13, (.int .i64 (p0.length : Int))), (14, (.int .i64 i10)), (21, v26), (22, (.int .i64 (x20.length : Int))), (23, (.int .i64 (i38 + 1)))]) ⟨rfl, rfl, rfl, rfl, rfl, rfl, rfl, rfl, rfl, trivial⟩ ?_
            refine nt_norm ?_
            have e111 := Option.some.inj b45
            subst e111
            refine to_k (r := [(1, u1), (5, v4), (8, v31), (12, u0), (13, (.int .i64 (p0.length : Int))), (14, (.int .i64 i10)), (21, v26), (22, (.int .i64 (x20.length : Int))), (23, (.int .i64 (i38 + 1)))]) ⟨rfl, rfl, rfl, rfl, rfl, rfl, rfl, rfl, rfl, trivial⟩ ?_
            intro a ha
            exact ⟨_, (by rw [← m42]; simp only [List.length_drop]; omega), i38 + 1, y54, o56, n46, rfl, (by omega), ha, hB, h5, h6, h55⟩
          · exact fun _ _ h => h.elim
        · have r112 := forI_done t47 l40
          refine wp_of ha ?_
          refine wpC_seq ?_
          refine wpC_region ?_
          refine st_val (ex_lss rfl rfl) (by decide) trivial ?_
          refine wpF_end (r := [(1, u1), (5, v4), (8, v31), (12, u0), (13, (.int .i64 (p0.length : Int))), (14, (.int .i64 i10)), (21, v26), (22, (.int .i64 (x20.length : Int))), (23, (.int .i64 i38)), (24, (.bool (decide (i38 < (x20.length : Int)))))]) ⟨rfl, rfl, rfl, rfl, rfl, rfl, rfl, rfl, rfl, rfl, trivial⟩ ?_
          refine nx ?_
          refine wpC_seq ?_
          refine wpC_false (congrArg (fun b => some (Value.bool b)) (decide_eq_false t47)) ?_
          refine wpC_exit ?_
          refine nt_exit ?_
          refine nt_exit ?_
          refine nb_hit ?_
          refine np_norm ?_
          refine to_k (r := [(1, u1), (5, v4), (8, v31), (12, u0), (13, (.int .i64 (p0.length : Int))), (14, (.int .i64 i10))]) ⟨rfl, rfl, rfl, rfl, rfl, rfl, trivial⟩ ?_
          intro a ha
          exact ⟨y34, o36, r112, ha, hB, h5, h6, h35⟩
      · rintro a w37 ⟨y34, o36, rfl, ha, hB, h5, h6, h35⟩
        dsimp only at b17
        refine ap_k ha ?_
        refine nx ?_
        refine wpC_region ?_
        refine st_val (ex_move rfl) (by decide) trivial ?_
        refine st_val (ex_move rfl) (by decide) trivial ?_
        refine st_op (by decide) trivial ?_
        refine wf_litR (o := o36) (cs := [v31]) (xs := ([⟨v31⟩] : List Hv)) (vs := [(0, v31)]) ⟨_, _, rfl, rd_hv h35, rfl⟩ rfl ⟨rfl, rfl, trivial⟩ Try.underlying85 Try.sizeOf87 Try.zeroValue87 (by decide) (fill1 h35.cells1) (by simp) ?_
        intro o113 w114 v115 h116 s117 k118
        replace h5 := h5.stp s117 (by decide) (by decide)
        replace h6 := h6.stp s117 (by decide) (by decide)
        replace h35 := h35.stp s117 (by decide) (by decide)
        replace hB := hB.stp s117 (by decide)
        obtain ⟨x119, hx119, b17⟩ := bind_some b17
        obtain ⟨h120, h121⟩ := h6.pushV hx119 v31
        refine st_op (by decide) trivial ?_
        refine wf_cat h5 h116 (push_cat h120) (by decide) hB.keeps.size rfl rfl Try.underlying85 info2_t_Lbool_H rfl (by decide) ?_
        intro o122 w123 v124 h125 s126
        replace h6 := h6.stp s126 (by decide) (by decide)
        replace h35 := h35.stp s126 (by decide) (by decide)
        replace hB := hB.stp s126 (by decide)
        have h127 := h6.push h35 (by decide) (by decide)
        rw [← h121] at h127
        clear h6 h35
        have r128 := mrg_rc 13 12 o122
        replace h125 := h125.rc r128 (by decide) (by decide)
        replace hB := hB.rc r128 (by decide)
        generalize mrg 13 12 o122 = o129 at *
        refine st_val (ex_assign rfl) (by decide) trivial ?_
        refine wpF_end (r := [(1, u1), (5, v124), (12, u0), (13, (.int .i64 (p0.length : Int))), (14, (.int .i64 i10))]) ⟨rfl, rfl, rfl, rfl, rfl, trivial⟩ ?_
        refine nb_norm ?_
        refine nx ?_
        refine wpC_region ?_
        refine st_val (ex_add rfl rfl (ck_in (by omega) (by omega))) (by decide) trivial ?_
        refine st_val (ex_move rfl) (by decide) trivial ?_
        refine wpF_end (r := [(1, u1), (5, v124), (12, u0), (13, (.int .i64 (p0.length : Int))), (14, (.int .i64 (i10 + 1)))]) ⟨rfl, rfl, rfl, rfl, rfl, trivial⟩ ?_
        refine nt_norm ?_
        have e130 := Option.some.inj b17
        subst e130
        refine to_k (r := [(1, u1), (5, v124), (12, u0), (13, (.int .i64 (p0.length : Int))), (14, (.int .i64 (i10 + 1)))]) ⟨rfl, rfl, rfl, rfl, rfl, trivial⟩ ?_
        intro a ha
        exact ⟨_, (by rw [← m14]; simp only [List.length_drop]; omega), i10 + 1, x119, v124, (g7 ++ [⟨v31⟩]), o129, n18, rfl, (by omega), ha, hB, h125, h127⟩
      · exact fun _ _ h => h.elim
    · have r131 := forI_done t19 l12
      refine wp_of ha ?_
      refine wpC_seq ?_
      refine wpC_region ?_
      refine st_val (ex_lss rfl rfl) (by decide) trivial ?_
      refine wpF_end (r := [(1, u1), (5, v4), (12, u0), (13, (.int .i64 (p0.length : Int))), (14, (.int .i64 i10)), (15, (.bool (decide (i10 < (p0.length : Int)))))]) ⟨rfl, rfl, rfl, rfl, rfl, rfl, trivial⟩ ?_
      refine nx ?_
      refine wpC_seq ?_
      refine wpC_false (congrArg (fun b => some (Value.bool b)) (decide_eq_false t19)) ?_
      refine wpC_exit ?_
      refine nt_exit ?_
      refine nt_exit ?_
      refine nb_hit ?_
      refine np_norm ?_
      refine to_k (r := [(5, v4)]) ⟨rfl, trivial⟩ ?_
      intro a ha
      exact ⟨y3, v4, g7, o8, r131, ha, hB, h5, h6⟩
  · rintro a w9 ⟨y3, v4, g7, o8, rfl, ha, hB, h5, h6⟩
    dsimp only at hF
    refine ap_k ha ?_
    refine nx ?_
    refine wpC_seq ?_
    refine wpC_region ?_
    refine st_val (ex_move rfl) (by decide) trivial ?_
    refine st_val (ex_assign rfl) (by decide) trivial ?_
    refine wpF_end (r := [(4, v4)]) ⟨rfl, trivial⟩ ?_
    refine nx ?_
    refine wpC_ret ?_
    have e132 := Option.some.inj hF
    subst e132
    refine ret_post (P := Try.prog) (vs := [v4]) Try.results123 ⟨rfl, trivial⟩ ?_
    exact ⟨_, g7, rt2 oo o8 w.heap.size 11 12 t, rfl, h5.rt2 hB (by decide) (by decide) t, h6.rt2 hB (by decide) (by decide) (by decide) t, hB.keeps, rt2_old _ _ _ _ _ _⟩
  · exact fun _ _ h => h.elim

def fS_waPowers_s1 : Int → (List (List Bool)) → Option (Lp (List (List Bool)) (List (List Bool)) (List (List (List Bool)))) := fun (i25 : Int) (s : List (List Bool)) =>
  (ix s i25) >>= fun x37 =>
  (ix x37 i25) >>= fun x47 =>
  (st x37 i25 true) >>= fun x56 =>
  some (.go (s.set i25.toNat x56))
def fS_waPowers_s2 (p1 : Int) (x77 : List (List Bool)) : (List (List (List Bool))) → Option (Lp (List (List (List Bool))) (List (List (List Bool))) (List (List (List Bool)))) := fun (s : List (List (List Bool))) =>
  if decide ((s.length : Int) ≤ p1) then
    (ck ((s.length : Int) - 1)) >>= fun x104 =>
    (ix s x104) >>= fun x105 =>
    (fS_waTimes x105 x77) >>= fun x113 =>
    (push s x113) >>= fun x135 =>
    some (.go x135)
  else
    some (.out s)
def fS_waPowers (fuel : Nat) (p0 : T_WalkProblem) (p1 : Int) : Option (List (List (List Bool))) :=
  (fS_waMay fuel (⟨p0.Labels, []⟩ : T_WalkProblem)) >>= fun x8 =>
  ck (x8.length : Int) >>= fun _ =>
  (forN (fS_waPowers_s1) ((x8.length : Int)).toNat 0 x8) >>= fun q26 =>
  match q26 with
  | .inl y19 =>
    (fS_waMay fuel p0) >>= fun x77 =>
    (loopF (fS_waPowers_s2 p1 x77) fuel ([y19] : List (List (List Bool)))) >>= fun q93 =>
    match q93 with
    | .inl y88 =>
      some y88
    | .inr _ => none
  | .inr _ => none

def pS_waPowers (oo : Tg) (t : Nat) (w : World) (r : List (List (List Bool))) : Ending → World → Prop := fun e w' => ∃ (v0 : Value) (o' : Tg), e = .returned (v0) ∧ Ow w.heap.size 85 t o' w' v0 r ∧ Keeps w w' ∧ ∀ b, b < w.heap.size → o' b = oo b
set_option maxRecDepth 100000 in
set_option maxHeartbeats 2000000 in
theorem cS_waPowers (fuel : Nat) (w : World) (oo : Tg) (t : Nat) (ht : 2 ≤ t) (u0 : List Value) (p0 : T_WalkProblem) (g0 : Rp.rd zt w u0 p0) (p1 : Int) (r : List (List (List Bool))) (hF : fS_waPowers fuel p0 p1 = some r) :
    Calls Try.prog 98 #[.agg u0.toArray, .int .i64 p1] w (pS_waPowers oo t w r) := by
  unfold fS_waPowers at hF
  obtain ⟨v1, rfl, h2⟩ := g0
  have hB : Bs oo (col oo) w w := Bs.start _ _
  refine calls_start (n := 45) (vs := [(.agg #[(.int .i64 p0.Labels), v1]), (.int .i64 p1)]) Try.func98 rfl rfl ?_
  generalize col oo = o at *
  refine wpC_seq ?_
  refine wpC_region ?_
  refine st_op (by decide) trivial ?_
  refine wf_box (o := o) w.heap.size 11 hB.keeps.size (cs := [(.int .i64 p0.Labels), v1]) rfl rfl ?_
  intro o3 w4 b5 h6 s7
  replace hB := hB.stp s7 (by decide)
  refine st_val (ex_assign rfl) (by decide) trivial ?_
  refine wpF_end (r := [(1, (.int .i64 p1)), (2, (.pointer (some ⟨b5, 0, none⟩)))]) ⟨rfl, rfl, trivial⟩ ?_
  refine nx ?_
  refine wpC_seq ?_
  refine wpC_region ?_
  refine st_val (ex_field rfl Try.underlying29 rfl Try.sizeOf3) (by decide) trivial ?_
  refine st_val (ex_load1 rfl Try.isAgg3 (h6.cell rfl)) (by decide) trivial ?_
  refine st_val (ex_build (vs := [(0, (.int .i64 p0.Labels))]) (cs := [(.int .i64 p0.Labels), (.slice none 0 0)]) ⟨rfl, rfl, trivial⟩ (by kernel_rfl)) (by decide) trivial ?_
  obtain ⟨x8, hx8, hF⟩ := bind_some hF
  refine st_op (by decide) trivial ?_
  refine wf_call (cS_waMay fuel w4 o3 12 (by decide) _ (⟨p0.Labels, []⟩ : T_WalkProblem) (⟨_, rfl, RdL.nil _ _⟩) x8 hx8) Try.call105 ⟨rfl, trivial⟩ ?_
  rintro e17 w9 ⟨v10, g12, o18, rfl, h11, h13, k14, k15⟩
  have s16 := k14.stp' 12 k15
  replace h11 := h11.mono hB.keeps.size
  replace h13 := h13.mono hB.keeps.size
  refine ⟨_, rfl, ?_⟩
  replace h6 := h6.stp s16 (by decide)
  replace hB := hB.stp s16 (by decide)
  refine st_val (ex_assign rfl) (by decide) trivial ?_
  refine wpF_end (r := [(1, (.int .i64 p1)), (2, (.pointer (some ⟨b5, 0, none⟩))), (5, v10)]) ⟨rfl, rfl, rfl, trivial⟩ ?_
  refine nx ?_
  refine wpC_seq ?_
  refine wpC_seq ?_
  refine wpC_region ?_
  refine st_val (ex_move rfl) (by decide) trivial ?_
  refine st_val (ex_lenR rfl (h13.z h11) Try.underlying85) (by decide) trivial ?_
  refine st_val (ex_move rfl) (by decide) trivial ?_
  refine wpF_end (r := [(1, (.int .i64 p1)), (2, (.pointer (some ⟨b5, 0, none⟩))), (5, v10), (14, (.int .i64 (x8.length : Int))), (15, (.int .i64 0))]) ⟨rfl, rfl, rfl, rfl, rfl, trivial⟩ ?_
  refine nx ?_
  obtain ⟨u28, h27, hF⟩ := bind_some hF
  obtain ⟨-, h27a, h27b⟩ := ck_some h27
  obtain ⟨q26, hq26, hF⟩ := bind_some hF
  refine wpC_cutN (fun a w24 => ∃ (y19 : List (List Bool)) (g22 : List Hv) (o23 : Tg), q26 = .inl y19 ∧ Fr a 45 [(1, (.int .i64 p1)), (2, (.pointer (some ⟨b5, 0, none⟩))), (5, v10)] ∧ Bs oo o23 w w24 ∧ Ow w.heap.size 87 12 o23 w24 v10 g22 ∧ Rws w.heap.size 4 13 o23 w24 g22 y19 ∧ Bx w.heap.size 11 o23 w24 b5 29 [(.int .i64 p0.Labels), v1]) (fun _ _ => False) ?_ ?_ ?_
  · refine wpC_block ?_
    refine wpC_loop (fun (K : Nat) a w24 => ∃ (i25 : Int) (y19 : List (List Bool)) (g22 : List Hv) (o23 : Tg), forN (fS_waPowers_s1) ((x8.length : Int) - i25).toNat i25 y19 = some q26 ∧ ((x8.length : Int) - i25).toNat = K ∧ 0 ≤ i25 ∧ Fr a 45 [(1, (.int .i64 p1)), (2, (.pointer (some ⟨b5, 0, none⟩))), (5, v10), (14, (.int .i64 (x8.length : Int))), (15, (.int .i64 i25))] ∧ Bs oo o23 w w24 ∧ Ow w.heap.size 87 12 o23 w24 v10 g22 ∧ Rws w.heap.size 4 13 o23 w24 g22 y19 ∧ Bx w.heap.size 11 o23 w24 b5 29 [(.int .i64 p0.Labels), v1]) _ (fun a ha => ⟨0, x8, g12, o18, (by rw [Int.sub_zero]; exact hq26), rfl, Int.le_refl 0, ha.sub (r := [(1, (.int .i64 p1)), (2, (.pointer (some ⟨b5, 0, none⟩))), (5, v10), (14, (.int .i64 (x8.length : Int))), (15, (.int .i64 0))]) ⟨rfl, rfl, rfl, rfl, rfl, trivial⟩, hB, h11, h13, h6⟩) ?_
    rintro K32 a w24 ⟨i25, y19, g22, o23, l29, m31, z30, ha, hB, h20, h21, h6⟩
    by_cases t36 : i25 < (x8.length : Int)
    · obtain ⟨q33, b34, n35⟩ := forN_cons t36 l29
      dsimp only [fS_waPowers_s1] at b34
      refine wp_of ha ?_
      refine wpC_seq ?_
      refine wpC_region ?_
      refine st_val (ex_lss rfl rfl) (by decide) trivial ?_
      refine wpF_end (r := [(1, (.int .i64 p1)), (2, (.pointer (some ⟨b5, 0, none⟩))), (5, v10), (14, (.int .i64 (x8.length : Int))), (15, (.int .i64 i25)), (16, (.bool (decide (i25 < (x8.length : Int)))))]) ⟨rfl, rfl, rfl, rfl, rfl, rfl, trivial⟩ ?_
      refine nx ?_
      refine wpC_seq ?_
      refine wpC_true (congrArg (fun b => some (Value.bool b)) (decide_eq_true t36)) ?_
      refine wpC_skip ?_
      refine nx ?_
      refine wpC_seq ?_
      refine wpC_block ?_
      refine wpC_seq ?_
      refine wpC_region ?_
      refine st_val (ex_move rfl) (by decide) trivial ?_
      refine st_val (ex_assign rfl) (by decide) trivial ?_
      refine wpF_end (r := [(1, (.int .i64 p1)), (2, (.pointer (some ⟨b5, 0, none⟩))), (5, v10), (6, (.int .i64 i25)), (14, (.int .i64 (x8.length : Int))), (15, (.int .i64 i25))]) ⟨rfl, rfl, rfl, rfl, rfl, rfl, trivial⟩ ?_
      refine nx ?_
      refine wpC_region ?_
      refine st_val (ex_move rfl) (by decide) trivial ?_
      refine st_val (ex_move rfl) (by decide) trivial ?_
      obtain ⟨x37, hx37, b34⟩ := bind_some b34
      obtain ⟨v38, h39, h40, h41⟩ := h21.ix hx37
      refine st_op (by decide) trivial ?_
      refine wf_atW h20 h39 rfl rfl Try.underlying85 Try.sizeOf87 ?_
      intro b42 f43 c44 h45 h46
      obtain ⟨rfl, -⟩ := h46
      refine st_val (ex_load1 rfl Try.isAgg87 (cell_of_cells h45)) (by decide) trivial ?_
      refine st_val (ex_move rfl) (by decide) trivial ?_
      obtain ⟨x47, hx47, b34⟩ := bind_some b34
      refine st_op (by decide) trivial ?_
      refine wf_atP (h21.at h40 h41) hx47 rfl rfl Try.underlying87 Try.sizeOf4 ?_
      intro b48 c50 h53 h51 h52
      cases h52
      obtain ⟨x56, hx56, b34⟩ := bind_some b34
      obtain ⟨h57, h58, r59⟩ := h21.take h40 h41 (by decide) 14
      replace h20 := h20.rc r59 (by decide) (by decide)
      replace h6 := h6.rc r59 (by decide)
      replace hB := hB.rc r59 (by decide)
      generalize one v38 14 o23 = o60 at *
      refine st_op0 trivial ?_
      refine wf_storeW h57 h53 hx56 rfl (by decide) rfl rfl rfl Try.sizeOf4 rfl ?_
      intro w54 h61 s55
      replace h58 := h58.stp s55 (by decide) (by decide)
      replace h20 := h20.stp s55 (by decide) (by decide)
      replace h6 := h6.stp s55 (by decide)
      replace hB := hB.stp s55 (by decide)
      have h62 := h58.back h40 h61 (by decide) (by decide)
      have r63 := mrg_rc 14 13 o60
      clear h21 h58 h61
      replace h20 := h20.rc r63 (by decide) (by decide)
      replace h6 := h6.rc r63 (by decide)
      replace hB := hB.rc r63 (by decide)
      generalize mrg 14 13 o60 = o64 at *
      refine wpF_end (r := [(1, (.int .i64 p1)), (2, (.pointer (some ⟨b5, 0, none⟩))), (5, v10), (14, (.int .i64 (x8.length : Int))), (15, (.int .i64 i25))]) ⟨rfl, rfl, rfl, rfl, rfl, trivial⟩ ?_
      refine nb_norm ?_
      refine nx ?_
      refine wpC_region ?_
      refine st_val (ex_add rfl rfl (ck_in (by omega) (by omega))) (by decide) trivial ?_
      refine st_val (ex_move rfl) (by decide) trivial ?_
      refine wpF_end (r := [(1, (.int .i64 p1)), (2, (.pointer (some ⟨b5, 0, none⟩))), (5, v10), (14, (.int .i64 (x8.length : Int))), (15, (.int .i64 (i25 + 1)))]) ⟨rfl, rfl, rfl, rfl, rfl, trivial⟩ ?_
      refine nt_norm ?_
      have e65 := Option.some.inj b34
      subst e65
      refine to_k (r := [(1, (.int .i64 p1)), (2, (.pointer (some ⟨b5, 0, none⟩))), (5, v10), (14, (.int .i64 (x8.length : Int))), (15, (.int .i64 (i25 + 1)))]) ⟨rfl, rfl, rfl, rfl, rfl, trivial⟩ ?_
      intro a ha
      exact ⟨_, (by rw [← m31]; omega), i25 + 1, (y19.set i25.toNat x56), g22, o64, n35, rfl, (by omega), ha, hB, h20, h62, h6⟩
    · have r66 := forN_done t36 l29
      refine wp_of ha ?_
      refine wpC_seq ?_
      refine wpC_region ?_
      refine st_val (ex_lss rfl rfl) (by decide) trivial ?_
      refine wpF_end (r := [(1, (.int .i64 p1)), (2, (.pointer (some ⟨b5, 0, none⟩))), (5, v10), (14, (.int .i64 (x8.length : Int))), (15, (.int .i64 i25)), (16, (.bool (decide (i25 < (x8.length : Int)))))]) ⟨rfl, rfl, rfl, rfl, rfl, rfl, trivial⟩ ?_
      refine nx ?_
      refine wpC_seq ?_
      refine wpC_false (congrArg (fun b => some (Value.bool b)) (decide_eq_false t36)) ?_
      refine wpC_exit ?_
      refine nt_exit ?_
      refine nt_exit ?_
      refine nb_hit ?_
      refine np_norm ?_
      refine to_k (r := [(1, (.int .i64 p1)), (2, (.pointer (some ⟨b5, 0, none⟩))), (5, v10)]) ⟨rfl, rfl, rfl, trivial⟩ ?_
      intro a ha
      exact ⟨y19, g22, o23, r66, ha, hB, h20, h21, h6⟩
  · rintro a w24 ⟨y19, g22, o23, rfl, ha, hB, h20, h21, h6⟩
    dsimp only at hF
    refine ap_k ha ?_
    refine nx ?_
    refine wpC_seq ?_
    refine wpC_region ?_
    refine st_val (ex_move rfl) (by decide) trivial ?_
    have h67 := Dz.of h20 h21 (by decide) (by decide) (by decide)
    have r68 := frz_rc 12 o23
    have r69 := frz_rc 13 (frz 12 o23)
    replace h6 := (h6.rc r68 (by decide)).rc r69 (by decide)
    replace hB := (hB.rc r68 (by decide)).rc r69 (by decide)
    clear r68 r69
    generalize frz 13 (frz 12 o23) = o71 at *
    have h70 := h67.rd
    refine st_op (by decide) trivial ?_
    refine wf_litW w.heap.size 15 hB.keeps.size (o := o71) (cs := [v10]) (xs := ([y19] : List (List (List Bool)))) (vs := [(0, v10)]) ⟨_, _, rfl, (rd_list h70), rfl⟩ rfl ⟨rfl, rfl, trivial⟩ Try.underlying107 Try.sizeOf85 Try.zeroValue85 (by decide) (fill1 h70.cells1) (by simp) ?_
    intro o72 w73 v74 h75 s76
    replace h70 := h70.stp s76 (by decide)
    replace h67 := h67.stp s76 (by decide)
    replace h6 := h6.stp s76 (by decide)
    replace hB := hB.stp s76 (by decide)
    refine st_val (ex_assign rfl) (by decide) trivial ?_
    refine wpF_end (r := [(1, (.int .i64 p1)), (2, (.pointer (some ⟨b5, 0, none⟩))), (7, v74)]) ⟨rfl, rfl, rfl, trivial⟩ ?_
    refine nx ?_
    refine wpC_seq ?_
    refine wpC_region ?_
    refine st_val (ex_loadA rfl Try.isAgg29 Try.sizeOf29 rfl h6.cells) (by decide) trivial ?_
    obtain ⟨x77, hx77, hF⟩ := bind_some hF
    refine st_op (by decide) trivial ?_
    refine wf_call (cS_waMay fuel w73 o72 16 (by decide) _ p0 (⟨_, rfl, (h2.keep hB.keeps)⟩) x77 hx77) Try.call105 ⟨rfl, trivial⟩ ?_
    rintro e86 w78 ⟨v79, g81, o87, rfl, h80, h82, k83, k84⟩
    have s85 := k83.stp' 16 k84
    replace h80 := h80.mono hB.keeps.size
    replace h82 := h82.mono hB.keeps.size
    refine ⟨_, rfl, ?_⟩
    replace h75 := h75.stp s85 (by decide) (by decide)
    replace h6 := h6.stp s85 (by decide)
    replace hB := hB.stp s85 (by decide)
    refine st_val (ex_assign rfl) (by decide) trivial ?_
    refine wpF_end (r := [(1, (.int .i64 p1)), (7, v74), (8, v79)]) ⟨rfl, rfl, rfl, trivial⟩ ?_
    refine nx ?_
    obtain ⟨q93, hq93, hF⟩ := bind_some hF
    refine wpC_cutP (fun a w92 => ∃ (y88 : List (List (List Bool))) (v89 : Value) (o91 : Tg), q93 = .inl y88 ∧ Fr a 45 [(7, v89)] ∧ Bs oo o91 w w92 ∧ Ow w.heap.size 85 15 o91 w92 v89 y88) (fun _ _ => False) ?_ ?_ ?_
    · refine wpC_block ?_
      refine wpC_loop (fun (K : Nat) a w92 => ∃ (y88 : List (List (List Bool))) (v89 : Value) (o91 : Tg), loopF (fS_waPowers_s2 p1 x77) K y88 = some q93 ∧ Fr a 45 [(1, (.int .i64 p1)), (7, v89), (8, v79)] ∧ Bs oo o91 w w92 ∧ Ow w.heap.size 85 15 o91 w92 v89 y88 ∧ Ow w.heap.size 87 16 o91 w92 v79 g81 ∧ Rws w.heap.size 4 17 o91 w92 g81 x77) fuel (fun a ha => ⟨([y19] : List (List (List Bool))), v74, o87, hq93, ha.sub (r := [(1, (.int .i64 p1)), (7, v74), (8, v79)]) ⟨rfl, rfl, rfl, trivial⟩, hB, h75, h80, h82⟩) ?_
      rintro K97 a w92 ⟨y88, v89, o91, l94, ha, hB, h90, h80, h82⟩
      obtain ⟨K101, q98, e102, b99, n100⟩ := loopF_cons l94
      dsimp only [fS_waPowers_s2] at b99
      refine wp_of ha ?_
      refine wpC_seq ?_
      refine wpC_seq ?_
      refine wpC_region ?_
      refine st_val (ex_move rfl) (by decide) trivial ?_
      refine st_val (ex_lenO rfl h90 Try.underlying107) (by decide) trivial ?_
      refine st_val (ex_move rfl) (by decide) trivial ?_
      refine st_val (ex_leq rfl rfl) (by decide) trivial ?_
      refine wpF_end (r := [(1, (.int .i64 p1)), (7, v89), (8, v79), (32, (.bool (decide ((y88.length : Int) ≤ p1))))]) ⟨rfl, rfl, rfl, rfl, trivial⟩ ?_
      refine nx ?_
      refine wpC_cond rfl (fun t103 => ?_) (fun t103 => ?_)
      · rw [if_pos t103] at b99
        refine wpC_skip ?_
        refine nx ?_
        refine wpC_block ?_
        refine wpC_region ?_
        refine st_val (ex_move rfl) (by decide) trivial ?_
        refine st_val (ex_move rfl) (by decide) trivial ?_
        refine st_val (ex_move rfl) (by decide) trivial ?_
        refine st_val (ex_lenO rfl h90 Try.underlying107) (by decide) trivial ?_
        obtain ⟨x104, hx104, b99⟩ := bind_some b99
        refine st_val (ex_sub rfl rfl hx104) (by decide) trivial ?_
        obtain ⟨x105, hx105, b99⟩ := bind_some b99
        refine st_op (by decide) trivial ?_
        refine wf_atW h90 hx105 rfl rfl Try.underlying107 Try.sizeOf85 ?_
        intro b106 f107 c108 h109 h110
        obtain ⟨v111, rfl, h112⟩ := h110
        refine st_val (ex_load1 rfl Try.isAgg85 (cell_of_cells h109)) (by decide) trivial ?_
        refine st_val (ex_move rfl) (by decide) trivial ?_
        obtain ⟨x113, hx113, b99⟩ := bind_some b99
        refine st_op (by decide) trivial ?_
        refine wf_call (cS_waTimes w92 o91 18 (by decide) _ x105 h112.z _ x77 (h82.z h80) x113 hx113) Try.call123 ⟨rfl, rfl, trivial⟩ ?_
        rintro e122 w114 ⟨v115, g117, o123, rfl, h116, h118, k119, k120⟩
        have s121 := k119.stp' 18 k120
        replace h116 := h116.mono hB.keeps.size
        replace h118 := h118.mono hB.keeps.size
        refine ⟨_, rfl, ?_⟩
        replace h90 := h90.stp s121 (by decide) (by decide)
        replace h80 := h80.stp s121 (by decide) (by decide)
        replace h82 := h82.stp s121 (by decide) (by decide)
        replace h112 := h112.stp s121 (by decide)
        replace hB := hB.stp s121 (by decide)
        have h124 := Dz.of h116 h118 (by decide) (by decide) (by decide)
        have r125 := frz_rc 18 o123
        have r126 := frz_rc 19 (frz 18 o123)
        replace h90 := (h90.rc r125 (by decide) (by decide)).rc r126 (by decide) (by decide)
        replace h80 := (h80.rc r125 (by decide) (by decide)).rc r126 (by decide) (by decide)
        replace h82 := (h82.rc r125 (by decide) (by decide)).rc r126 (by decide) (by decide)
        replace h112 := (h112.rc r125 (by decide)).rc r126 (by decide)
        replace hB := (hB.rc r125 (by decide)).rc r126 (by decide)
        clear r125 r126
        generalize frz 19 (frz 18 o123) = o128 at *
        have h127 := h124.rd
        refine st_op (by decide) trivial ?_
        refine wf_litR (o := o128) (cs := [v115]) (xs := ([x113] : List (List (List Bool)))) (vs := [(0, v115)]) ⟨_, _, rfl, (rd_list h127), rfl⟩ rfl ⟨rfl, rfl, trivial⟩ Try.underlying107 Try.sizeOf85 Try.zeroValue85 (by decide) (fill1 h127.cells1) (by simp) ?_
        intro o129 w130 v131 h132 s133 k134
        replace h90 := h90.stp s133 (by decide) (by decide)
        replace h80 := h80.stp s133 (by decide) (by decide)
        replace h82 := h82.stp s133 (by decide) (by decide)
        replace h112 := h112.stp s133 (by decide)
        replace h127 := h127.stp s133 (by decide)
        replace h124 := h124.stp s133 (by decide)
        replace hB := hB.stp s133 (by decide)
        obtain ⟨x135, hx135, b99⟩ := bind_some b99
        refine st_op (by decide) trivial ?_
        refine wf_cat h90 h132 (push_cat hx135) (by decide) hB.keeps.size rfl rfl Try.underlying107 info2_t_LLbool_H rfl (by decide) ?_
        intro o136 w137 v138 h139 s140
        replace h80 := h80.stp s140 (by decide) (by decide)
        replace h82 := h82.stp s140 (by decide) (by decide)
        replace h112 := h112.stp s140 (by decide)
        replace h127 := h127.stp s140 (by decide)
        replace h124 := h124.stp s140 (by decide)
        replace h132 := h132.stp s140 (by decide)
        replace hB := hB.stp s140 (by decide)
        refine st_val (ex_assign rfl) (by decide) trivial ?_
        refine wpF_end (r := [(1, (.int .i64 p1)), (7, v138), (8, v79)]) ⟨rfl, rfl, rfl, trivial⟩ ?_
        refine nb_norm ?_
        refine nt_norm ?_
        have e141 := Option.some.inj b99
        subst e141
        refine to_k (r := [(1, (.int .i64 p1)), (7, v138), (8, v79)]) ⟨rfl, rfl, rfl, trivial⟩ ?_
        intro a ha
        exact ⟨K101, by omega, x135, v138, o136, n100, ha, hB, h139, h80, h82⟩
      · rw [if_neg (by rw [t103]; decide)] at b99
        refine wpC_exit ?_
        refine nt_exit ?_
        refine nt_exit ?_
        refine nb_hit ?_
        refine np_norm ?_
        have e142 := Option.some.inj b99
        subst e142
        refine to_k (r := [(7, v89)]) ⟨rfl, trivial⟩ ?_
        intro a ha
        exact ⟨y88, v89, o91, n100, ha, hB, h90⟩
    · rintro a w92 ⟨y88, v89, o91, rfl, ha, hB, h90⟩
      dsimp only at hF
      refine wp_of ha ?_
      refine wpC_seq ?_
      refine wpC_region ?_
      refine st_val (ex_move rfl) (by decide) trivial ?_
      refine st_val (ex_assign rfl) (by decide) trivial ?_
      refine wpF_end (r := [(4, v89)]) ⟨rfl, trivial⟩ ?_
      refine nx ?_
      refine wpC_ret ?_
      have e143 := Option.some.inj hF
      subst e143
      refine ret_post (P := Try.prog) (vs := [v89]) Try.results98 ⟨rfl, trivial⟩ ?_
      exact ⟨_, rt oo o91 w.heap.size 15 t, rfl, h90.rt hB (by decide) t, hB.keeps, rt_old _ _ _ _ _⟩
    · exact fun _ _ h => h.elim
  · exact fun _ _ h => h.elim

end Go.Proofs.Ytffgdhbhlcifmaa
