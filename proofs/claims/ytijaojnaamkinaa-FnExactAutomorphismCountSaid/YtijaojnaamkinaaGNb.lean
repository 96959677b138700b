/- spec.neNear, spec.isWalk, spec.isCode, spec.isFrom, impl.codeFrom: plain functions, and the walks that show that the program computes them (printed by gen.py). -/
import Derived.Test.YtijaojnaamkinaaGNa
import Derived.Test.YtijaojnaamkinaaKmp
namespace Go.Proofs.Ytijaojnaamkinaa
open Go.RowKit
set_option linter.unusedSimpArgs false
set_option linter.unusedVariables false

theorem info2_t_int_Nb : Inf Try.prog 3 (.int .i64 0) 1 8 := by unfold Inf; kernel_rfl

theorem info1_t_impl_End_Nb : (Try.prog.info? 115).map (·.size) = some 2 := by kernel_rfl

def fS_neNear_s1 : Int → T_End → (List Int) → Option (Lp (List Int) (List Int) (List Int)) := fun (i26 : Int) (x36 : T_End) (s : List Int) =>
  (push s x36.Node) >>= fun x56 =>
  some (.go x56)
def fS_neNear (p0 : T_Network) (p1 : Int) : Option (List Int) :=
  (ix p0.Ends p1) >>= fun x12 =>
  (forI (fS_neNear_s1) x12 0 []) >>= fun q27 =>
  match q27 with
  | .inl y21 =>
    some y21
  | .inr _ => none

def pS_neNear (oo : Tg) (t : Nat) (w : World) (r : List Int) : Ending → World → Prop := fun e w' => ∃ (v0 : Value) (o' : Tg), e = .returned (v0) ∧ Ow w.heap.size 3 t o' w' v0 r ∧ Keeps w w' ∧ ∀ b, b < w.heap.size → o' b = oo b
set_option maxRecDepth 100000 in
set_option maxHeartbeats 2000000 in
theorem cS_neNear (w : World) (oo : Tg) (t : Nat) (ht : 2 ≤ t) (u0 : List Value) (p0 : T_Network) (g0 : Rp.rd zt w u0 p0) (p1 : Int) (r : List Int) (hF : fS_neNear p0 p1 = some r) :
    Calls Try.prog 93 #[.agg u0.toArray, .int .i64 p1] w (pS_neNear oo t w r) := by
  unfold fS_neNear at hF
  obtain ⟨v1, v3, v5, rfl, h2, h4, h6⟩ := g0
  have hB : Bs oo (col oo) w w := Bs.start _ _
  refine calls_start (n := 25) (vs := [(.agg #[v1, v3, v5]), (.int .i64 p1)]) Try.func93 rfl rfl ?_
  generalize col oo = o at *
  refine wpC_seq ?_
  refine wpC_region ?_
  refine st_op (by decide) trivial ?_
  refine wf_box (o := o) w.heap.size 11 hB.keeps.size (cs := [v1, v3, v5]) rfl rfl ?_
  intro o7 w8 b9 h10 s11
  replace hB := hB.stp s11 (by decide)
  refine st_val (ex_assign rfl) (by decide) trivial ?_
  refine wpF_end (r := [(1, (.int .i64 p1)), (2, (.pointer (some ⟨b9, 0, none⟩)))]) ⟨rfl, rfl, trivial⟩ ?_
  refine nx ?_
  refine wpC_seq ?_
  refine wpC_region ?_
  refine st_val (ex_assign rfl) (by decide) trivial ?_
  refine wpF_end (r := [(1, (.int .i64 p1)), (2, (.pointer (some ⟨b9, 0, none⟩))), (5, (.slice none 0 0))]) ⟨rfl, rfl, rfl, trivial⟩ ?_
  refine nx ?_
  refine wpC_seq ?_
  refine wpC_seq ?_
  refine wpC_region ?_
  refine st_val (ex_field rfl Try.underlying31 rfl Try.sizeOf29) (by decide) trivial ?_
  refine st_val (ex_load1 rfl Try.isAgg29 (h10.cell rfl)) (by decide) trivial ?_
  refine st_val (ex_move rfl) (by decide) trivial ?_
  obtain ⟨x12, hx12, hF⟩ := bind_some hF
  refine st_op (by decide) trivial ?_
  refine wf_atZ h2 hx12 hB rfl rfl Try.underlying29 Try.sizeOf110 ?_
  intro b13 f14 c15 h16 h17
  obtain ⟨v18, rfl, h19⟩ := h17
  refine st_val (ex_load1 rfl Try.isAgg110 (cell_of_cells h16)) (by decide) trivial ?_
  refine st_val (ex_lenR rfl h19 Try.underlying110) (by decide) trivial ?_
  refine st_val (ex_move rfl) (by decide) trivial ?_
  refine wpF_end (r := [(5, (.slice none 0 0)), (12, v18), (13, (.int .i64 (x12.length : Int))), (14, (.int .i64 0))]) ⟨rfl, rfl, rfl, rfl, trivial⟩ ?_
  refine nx ?_
  have h20 : Ow w.heap.size 3 12 o7 w8 (.slice none 0 0) ([] : List Int) := Ow.nil _ _ _ _ _
  obtain ⟨q27, hq27, hF⟩ := bind_some hF
  refine wpC_cutN (fun a w25 => ∃ (y21 : List Int) (v22 : Value) (o24 : Tg), q27 = .inl y21 ∧ Fr a 25 [(5, v22)] ∧ Bs oo o24 w w25 ∧ Ow w.heap.size 3 12 o24 w25 v22 y21) (fun _ _ => False) ?_ ?_ ?_
  · refine wpC_block ?_
    refine wpC_loop (fun (K : Nat) a w25 => ∃ (i26 : Int) (y21 : List Int) (v22 : Value) (o24 : Tg), forI (fS_neNear_s1) (x12.drop i26.toNat) i26 y21 = some q27 ∧ (x12.drop i26.toNat).length = K ∧ 0 ≤ i26 ∧ Fr a 25 [(5, v22), (12, v18), (13, (.int .i64 (x12.length : Int))), (14, (.int .i64 i26))] ∧ Bs oo o24 w w25 ∧ Ow w.heap.size 3 12 o24 w25 v22 y21) _ (fun a ha => ⟨0, [], (.slice none 0 0), o7, hq27, rfl, Int.le_refl 0, ha.sub (r := [(5, (.slice none 0 0)), (12, v18), (13, (.int .i64 (x12.length : Int))), (14, (.int .i64 0))]) ⟨rfl, rfl, rfl, rfl, trivial⟩, hB, h20⟩) ?_
    rintro K31 a w25 ⟨i26, y21, v22, o24, l28, m30, z29, ha, hB, h23⟩
    by_cases t35 : i26 < (x12.length : Int)
    · obtain ⟨x36, q32, hx36, b33, n34⟩ := forI_cons z29 t35 l28
      have hle := h19.len_le
      dsimp only [fS_neNear_s1] at b33
      refine wp_of ha ?_
      refine wpC_seq ?_
      refine wpC_region ?_
      refine st_val (ex_lss rfl rfl) (by decide) trivial ?_
      refine wpF_end (r := [(5, v22), (12, v18), (13, (.int .i64 (x12.length : Int))), (14, (.int .i64 i26)), (15, (.bool (decide (i26 < (x12.length : Int)))))]) ⟨rfl, rfl, rfl, rfl, rfl, trivial⟩ ?_
      refine nx ?_
      refine wpC_seq ?_
      refine wpC_true (congrArg (fun b => some (Value.bool b)) (decide_eq_true t35)) ?_
      refine wpC_skip ?_
      refine nx ?_
      refine wpC_seq ?_
      refine wpC_block ?_
      refine wpC_seq ?_
      refine wpC_region ?_
      refine st_op (by decide) trivial ?_
      refine wf_atZ h19 hx36 hB rfl rfl Try.underlying110 Try.sizeOf115 ?_
      intro b37 f38 c39 h40 h41
      cases h41
      refine st_val (ex_loadA rfl Try.isAgg115 Try.sizeOf115 rfl h40) (by decide) trivial ?_
      refine st_op (by decide) trivial ?_
      refine wf_alloc (o := o24) w.heap.size 13 hB.keeps.size (cs := [(.int .i64 0), (.int .i64 0)]) Try.zeroValue115 rfl ?_
      intro o42 w43 b44 h45 s46
      replace h23 := h23.stp s46 (by decide) (by decide)
      replace hB := hB.stp s46 (by decide)
      refine st_op0 trivial ?_
      refine wf_storeA h45 rfl rfl rfl info1_t_impl_End_Nb (by intro c hc; simp only [List.mem_cons, List.not_mem_nil, or_false] at hc; rcases hc with rfl | rfl <;> first | rfl) ?_
      intro w47 h49 s48
      replace h23 := h23.stp s48 (by decide) (by decide)
      replace hB := hB.stp s48 (by decide)
      refine wpF_end (r := [(5, v22), (7, (.pointer (some ⟨b44, 0, none⟩))), (12, v18), (13, (.int .i64 (x12.length : Int))), (14, (.int .i64 i26))]) ⟨rfl, rfl, rfl, rfl, rfl, trivial⟩ ?_
      refine nx ?_
      refine wpC_region ?_
      refine st_val (ex_move rfl) (by decide) trivial ?_
      refine st_val (ex_field rfl Try.underlying115 rfl Try.sizeOf3) (by decide) trivial ?_
      refine st_val (ex_load1 rfl Try.isAgg3 (h49.cell rfl)) (by decide) trivial ?_
      refine st_op (by decide) trivial ?_
      refine wf_litR (o := o42) (cs := [(.int .i64 x36.Node)]) (xs := ([x36.Node] : List Int)) (vs := [(0, (.int .i64 x36.Node))]) ⟨_, _, rfl, rfl, rfl⟩ rfl ⟨rfl, rfl, trivial⟩ Try.underlying23 Try.sizeOf3 Try.zeroValue3 (by decide) (fill1 rfl) (by simp) ?_
      intro o50 w51 v52 h53 s54 k55
      replace h23 := h23.stp s54 (by decide) (by decide)
      replace h49 := h49.stp s54 (by decide)
      replace hB := hB.stp s54 (by decide)
      obtain ⟨x56, hx56, b33⟩ := bind_some b33
      refine st_op (by decide) trivial ?_
      refine wf_cat h23 h53 (push_cat hx56) (by decide) hB.keeps.size rfl rfl Try.underlying23 info2_t_int_Nb rfl (by decide) ?_
      intro o57 w58 v59 h60 s61
      replace h53 := h53.stp s61 (by decide)
      replace h49 := h49.stp s61 (by decide)
      replace hB := hB.stp s61 (by decide)
      refine st_val (ex_assign rfl) (by decide) trivial ?_
      refine wpF_end (r := [(5, v59), (12, v18), (13, (.int .i64 (x12.length : Int))), (14, (.int .i64 i26))]) ⟨rfl, rfl, rfl, rfl, trivial⟩ ?_
      refine nb_norm ?_
      refine nx ?_
      refine wpC_region ?_
      refine st_val (ex_add rfl rfl (ck_in (by omega) (by omega))) (by decide) trivial ?_
      refine st_val (ex_move rfl) (by decide) trivial ?_
      refine wpF_end (r := [(5, v59), (12, v18), (13, (.int .i64 (x12.length : Int))), (14, (.int .i64 (i26 + 1)))]) ⟨rfl, rfl, rfl, rfl, trivial⟩ ?_
      refine nt_norm ?_
      have e62 := Option.some.inj b33
      subst e62
      refine to_k (r := [(5, v59), (12, v18), (13, (.int .i64 (x12.length : Int))), (14, (.int .i64 (i26 + 1)))]) ⟨rfl, rfl, rfl, rfl, trivial⟩ ?_
      intro a ha
      exact ⟨_, (by rw [← m30]; simp only [List.length_drop]; omega), i26 + 1, x56, v59, o57, n34, rfl, (by omega), ha, hB, h60⟩
    · have r63 := forI_done t35 l28
      refine wp_of ha ?_
      refine wpC_seq ?_
      refine wpC_region ?_
      refine st_val (ex_lss rfl rfl) (by decide) trivial ?_
      refine wpF_end (r := [(5, v22), (12, v18), (13, (.int .i64 (x12.length : Int))), (14, (.int .i64 i26)), (15, (.bool (decide (i26 < (x12.length : Int)))))]) ⟨rfl, rfl, rfl, rfl, rfl, trivial⟩ ?_
      refine nx ?_
      refine wpC_seq ?_
      refine wpC_false (congrArg (fun b => some (Value.bool b)) (decide_eq_false t35)) ?_
      refine wpC_exit ?_
      refine nt_exit ?_
      refine nt_exit ?_
      refine nb_hit ?_
      refine np_norm ?_
      refine to_k (r := [(5, v22)]) ⟨rfl, trivial⟩ ?_
      intro a ha
      exact ⟨y21, v22, o24, r63, ha, hB, h23⟩
  · rintro a w25 ⟨y21, v22, o24, rfl, ha, hB, h23⟩
    dsimp only at hF
    refine ap_k ha ?_
    refine nx ?_
    refine wpC_seq ?_
    refine wpC_region ?_
    refine st_val (ex_move rfl) (by decide) trivial ?_
    refine st_val (ex_assign rfl) (by decide) trivial ?_
    refine wpF_end (r := [(4, v22)]) ⟨rfl, trivial⟩ ?_
    refine nx ?_
    refine wpC_ret ?_
    have e64 := Option.some.inj hF
    subst e64
    refine ret_post (P := Try.prog) (vs := [v22]) Try.results93 ⟨rfl, trivial⟩ ?_
    exact ⟨_, rt oo o24 w.heap.size 12 t, rfl, h23.rt hB (by decide) t, hB.keeps, rt_old _ _ _ _ _⟩
  · exact fun _ _ h => h.elim

def fS_isWalk_s2 : Int → Int → (List Int) → Option (Lp (List Int) (List Int) (List Int)) := fun (i104 : Int) (x114 : Int) (s : List Int) =>
  (fS_l1Has s x114) >>= fun x120 =>
  if !x120 then
    (push s x114) >>= fun x133 =>
    some (.go x133)
  else
    some (.go s)
def fS_isWalk_s1 (p0 : T_Network) : ((List Int) × Int) → Option (Lp ((List Int) × Int) ((List Int) × Int) (List Int)) := fun (s : (List Int) × Int) =>
  if decide (s.2 < (s.1.length : Int)) then
    (ix s.1 s.2) >>= fun x34 =>
    (fS_neNear p0 x34) >>= fun x37 =>
    (forI (fS_isWalk_s2) x37 0 s.1) >>= fun q105 =>
    match q105 with
    | .inl y99 =>
      (ck (s.2 + 1)) >>= fun x142 =>
      some (.go (y99, x142))
    | .inr _ => none
  else
    some (.out (s.1, s.2))
def fS_isWalk (fuel : Nat) (p0 : T_Network) (p1 : Int) : Option (List Int) :=
  (loopF (fS_isWalk_s1 p0) fuel (([p1] : List Int), 0)) >>= fun q23 =>
  match q23 with
  | .inl (y17, y20) =>
    some y17
  | .inr _ => none

def pS_isWalk (oo : Tg) (t : Nat) (w : World) (r : List Int) : Ending → World → Prop := fun e w' => ∃ (v0 : Value) (o' : Tg), e = .returned (v0) ∧ Ow w.heap.size 3 t o' w' v0 r ∧ Keeps w w' ∧ ∀ b, b < w.heap.size → o' b = oo b
set_option maxRecDepth 100000 in
set_option maxHeartbeats 2000000 in
theorem cS_isWalk (fuel : Nat) (w : World) (oo : Tg) (t : Nat) (ht : 2 ≤ t) (u0 : List Value) (p0 : T_Network) (g0 : Rp.rd zt w u0 p0) (p1 : Int) (r : List Int) (hF : fS_isWalk fuel p0 p1 = some r) :
    Calls Try.prog 63 #[.agg u0.toArray, .int .i64 p1] w (pS_isWalk oo t w r) := by
  unfold fS_isWalk at hF
  obtain ⟨v1, v3, v5, rfl, h2, h4, h6⟩ := g0
  have hB : Bs oo (col oo) w w := Bs.start _ _
  refine calls_start (n := 38) (vs := [(.agg #[v1, v3, v5]), (.int .i64 p1)]) Try.func63 rfl rfl ?_
  generalize col oo = o at *
  refine wpC_seq ?_
  refine wpC_region ?_
  refine st_op (by decide) trivial ?_
  refine wf_box (o := o) w.heap.size 11 hB.keeps.size (cs := [v1, v3, v5]) rfl rfl ?_
  intro o7 w8 b9 h10 s11
  replace hB := hB.stp s11 (by decide)
  refine st_val (ex_assign rfl) (by decide) trivial ?_
  refine wpF_end (r := [(1, (.int .i64 p1)), (2, (.pointer (some ⟨b9, 0, none⟩)))]) ⟨rfl, rfl, trivial⟩ ?_
  refine nx ?_
  refine wpC_seq ?_
  refine wpC_region ?_
  refine st_val (ex_move rfl) (by decide) trivial ?_
  refine st_op (by decide) trivial ?_
  refine wf_litW w.heap.size 12 hB.keeps.size (o := o7) (cs := [(.int .i64 p1)]) (xs := ([p1] : List Int)) (vs := [(0, (.int .i64 p1))]) ⟨_, _, rfl, rfl, rfl⟩ rfl ⟨rfl, rfl, trivial⟩ Try.underlying23 Try.sizeOf3 Try.zeroValue3 (by decide) (fill1 rfl) (by simp) ?_
  intro o12 w13 v14 h15 s16
  replace h10 := h10.stp s16 (by decide)
  replace hB := hB.stp s16 (by decide)
  refine st_val (ex_assign rfl) (by decide) trivial ?_
  refine wpF_end (r := [(2, (.pointer (some ⟨b9, 0, none⟩))), (5, v14)]) ⟨rfl, rfl, trivial⟩ ?_
  refine nx ?_
  refine wpC_seq ?_
  refine wpC_seq ?_
  refine wpC_region ?_
  refine st_val (ex_assign rfl) (by decide) trivial ?_
  refine wpF_end (r := [(2, (.pointer (some ⟨b9, 0, none⟩))), (5, v14), (6, (.int .i64 0))]) ⟨rfl, rfl, rfl, trivial⟩ ?_
  refine nx ?_
  obtain ⟨q23, hq23, hF⟩ := bind_some hF
  refine wpC_cutN (fun a w22 => ∃ (y17 : List Int) (y20 : Int) (v18 : Value) (o21 : Tg), q23 = .inl (y17, y20) ∧ Fr a 38 [(5, v18)] ∧ Bs oo o21 w w22 ∧ Ow w.heap.size 3 12 o21 w22 v18 y17) (fun _ _ => False) ?_ ?_ ?_
  · refine wpC_block ?_
    refine wpC_loop (fun (K : Nat) a w22 => ∃ (y17 : List Int) (y20 : Int) (v18 : Value) (o21 : Tg), loopF (fS_isWalk_s1 p0) K (y17, y20) = some q23 ∧ Fr a 38 [(2, (.pointer (some ⟨b9, 0, none⟩))), (5, v18), (6, (.int .i64 y20))] ∧ Bs oo o21 w w22 ∧ Ow w.heap.size 3 12 o21 w22 v18 y17 ∧ Bx w.heap.size 11 o21 w22 b9 31 [v1, v3, v5]) fuel (fun a ha => ⟨([p1] : List Int), 0, v14, o12, hq23, ha.sub (r := [(2, (.pointer (some ⟨b9, 0, none⟩))), (5, v14), (6, (.int .i64 0))]) ⟨rfl, rfl, rfl, trivial⟩, hB, h15, h10⟩) ?_
    rintro K27 a w22 ⟨y17, y20, v18, o21, l24, ha, hB, h19, h10⟩
    obtain ⟨K31, q28, e32, b29, n30⟩ := loopF_cons l24
    dsimp only [fS_isWalk_s1] at b29
    refine wp_of ha ?_
    refine wpC_seq ?_
    refine wpC_seq ?_
    refine wpC_region ?_
    refine st_val (ex_move rfl) (by decide) trivial ?_
    refine st_val (ex_move rfl) (by decide) trivial ?_
    refine st_val (ex_lenO rfl h19 Try.underlying23) (by decide) trivial ?_
    refine st_val (ex_lss rfl rfl) (by decide) trivial ?_
    refine wpF_end (r := [(2, (.pointer (some ⟨b9, 0, none⟩))), (5, v18), (6, (.int .i64 y20)), (14, (.bool (decide (y20 < (y17.length : Int)))))]) ⟨rfl, rfl, rfl, rfl, trivial⟩ ?_
    refine nx ?_
    refine wpC_cond rfl (fun t33 => ?_) (fun t33 => ?_)
    · rw [if_pos t33] at b29
      refine wpC_skip ?_
      refine nx ?_
      refine wpC_seq ?_
      refine wpC_block ?_
      refine wpC_seq ?_
      obtain ⟨x34, hx34, b29⟩ := bind_some b29
      obtain ⟨x37, hx37, b29⟩ := bind_some b29
      refine wpC_drawn (o := o21) [(2, (.pointer (some ⟨b9, 0, none⟩))), (5, v18), (6, (.int .i64 y20))] [2, 5, 6] [17, 18, 19, 20, 21, 22, 23, 24] [[], [], [], [1, 2], [3], [0, 4], [5], []] [none, none, none, none, none, none, none, none] [999, 999, 999, 999, 999, 999, 999, 999] [0, 0, 0, 12, 0, 13, 0, 0] [999] [fun v _ _ => v = (.agg #[v1, v3, v5]), fun v _ _ => v = v18, fun v _ _ => v = (.int .i64 y20), fun v o w9 => ∃ vl, v = adr vl (y20.toNat * Rp.sz Int) ∧ Ow w.heap.size 3 12 o w9 vl y17, fun v _ _ => v = (.int .i64 x34), fun v o w9 => Ow w.heap.size 3 13 o w9 v x37, fun v _ _ => v = (.int .i64 (x37.length : Int)), fun v _ _ => v = (.int .i64 0)] (fun o8 w8 => Bs oo o8 w w8 ∧ Ow w.heap.size 3 12 o8 w8 v18 y17 ∧ Bx w.heap.size 11 o8 w8 b9 31 [v1, v3, v5]) follows_mixed (by kernel_rfl) rfl ⟨rfl, rfl, rfl, trivial⟩ ⟨hB, h19, h10⟩ ?_ ⟨st_eq _, st_eq _, st_eq _, fun _ _ _ _ _ _ h0 hb ⟨vl, e, h⟩ hs => ⟨vl, e, h.stp hs h0.1 (Ne.symm hb)⟩, st_eq _, fun _ _ _ _ _ _ h0 hb h hs => h.stp hs h0.1 (Ne.symm hb), st_eq _, st_eq _, trivial⟩ ?_ ?_
      · rintro t9 o1 w1 o2 w2 ht9 ⟨hB, h19, h10⟩ hs9
        have ht9 : t9 = 999 := by simpa using ht9
        subst ht9
        all_goals exact ⟨hB.stp hs9 (by decide), h19.stp hs9 (by decide) (by decide), h10.stp hs9 (by decide)⟩
      · refine ⟨?_, ?_, ?_, ?_, ?_, ?_, ?_, ?_, trivial⟩
        · rintro o46 w47 a48 ha ⟨hB, h19, h10⟩ -
          refine opS_of ha (trivial) ?_
          refine op1_val (ex_loadA rfl Try.isAgg31 Try.sizeOf31 rfl h10.cells) ?_
          exact ⟨_, Stp.refl _ _ _, rfl⟩
        · rintro o49 w50 a51 ha ⟨hB, h19, h10⟩ -
          refine opS_of ha (trivial) ?_
          refine op1_val (ex_move rfl) ?_
          exact ⟨_, Stp.refl _ _ _, rfl⟩
        · rintro o52 w53 a54 ha ⟨hB, h19, h10⟩ -
          refine opS_of ha (trivial) ?_
          refine op1_val (ex_move rfl) ?_
          exact ⟨_, Stp.refl _ _ _, rfl⟩
        · rintro o55 w56 a57 ha ⟨hB, h19, h10⟩ ⟨r58, r59, -⟩
          have ha := Fr.cons (d := 18) ha r58
          have ha := Fr.cons (d := 19) ha r59
          refine opS_of ha (trivial) ?_
          refine wd_indexW h19 hx34 rfl rfl Try.underlying23 Try.sizeOf3 ?_
          exact ⟨_, Stp.refl _ _ _, ⟨_, rfl, h19⟩⟩
        · rintro o60 w61 a62 ha ⟨hB, h19, h10⟩ ⟨r63, -⟩
          obtain ⟨v64, e65, h66⟩ := r63
          have ha := Fr.cons (d := 20) ha e65
          refine opS_of ha (trivial) ?_
          refine wd_load1W h66 hx34 rfl rfl Try.isAgg3 ?_
          intro c67 h68
          cases h68
          exact ⟨_, Stp.refl _ _ _, rfl⟩
        · rintro o69 w70 a71 ha ⟨hB, h19, h10⟩ ⟨r72, r73, -⟩
          have ha := Fr.cons (d := 17) ha r72
          have ha := Fr.cons (d := 21) ha r73
          refine opS_of ha (trivial) ?_
          refine wf_call (cS_neNear w70 o69 13 (by decide) _ p0 (⟨_, _, _, rfl, (h2.keep hB.keeps), (h4.keep hB.keeps), (h6.keep hB.keeps)⟩) x34 x37 hx37) Try.call93 ⟨rfl, rfl, trivial⟩ ?_
          rintro e80 w74 ⟨v75, o81, rfl, h76, k77, k78⟩
          have s79 := k77.stp' 999 k78
          replace h76 := h76.mono hB.keeps.size
          refine ⟨_, rfl, ?_⟩
          replace h19 := h19.stp s79 (by decide) (by decide)
          replace h10 := h10.stp s79 (by decide)
          replace hB := hB.stp s79 (by decide)
          exact ⟨_, s79, h76⟩
        · rintro o82 w83 a84 ha ⟨hB, h19, h10⟩ ⟨r85, -⟩
          replace r85 : Ow w.heap.size 3 13 o82 w83 (a84.tmps.getD 22 undef) x37 := r85
          generalize e87 : a84.tmps.getD 22 undef = v86 at r85
          have ha := Fr.cons (d := 22) ha e87
          refine opS_of ha (trivial) ?_
          refine op1_val (ex_lenO rfl r85 Try.underlying23) ?_
          exact ⟨_, Stp.refl _ _ _, rfl⟩
        · rintro o88 w89 a90 ha ⟨hB, h19, h10⟩ -
          refine opS_of ha (trivial) ?_
          refine op1_val (ex_move rfl) ?_
          exact ⟨_, Stp.refl _ _ _, rfl⟩
      rintro o91 w92 a93 ha ⟨hB, h19, h10⟩ ⟨-, -, -, -, -, r94, r95, r96, -⟩
      replace r94 : Ow w.heap.size 3 13 o91 w92 (a93.tmps.getD 22 undef) x37 := r94
      generalize e98 : a93.tmps.getD 22 undef = v97 at r94
      have ha := Fr.cons (d := 22) ha e98
      have ha := Fr.cons (d := 23) ha r95
      have ha := Fr.cons (d := 24) ha r96
      refine wl_of ha ?_
      simp only [List.length_cons, List.length_nil, Nat.zero_add, Nat.reduceAdd, List.drop_succ_cons, List.drop_zero]
      refine wpF_end (r := [(2, (.pointer (some ⟨b9, 0, none⟩))), (5, v18), (6, (.int .i64 y20)), (22, v97), (23, (.int .i64 (x37.length : Int))), (24, (.int .i64 0))]) ⟨rfl, rfl, rfl, rfl, rfl, rfl, trivial⟩ ?_
      refine nx ?_
      obtain ⟨q105, hq105, b29⟩ := bind_some b29
      refine wpC_cutN (fun a w103 => ∃ (y99 : List Int) (v100 : Value) (o102 : Tg), q105 = .inl y99 ∧ Fr a 38 [(2, (.pointer (some ⟨b9, 0, none⟩))), (5, v100), (6, (.int .i64 y20))] ∧ Bs oo o102 w w103 ∧ Ow w.heap.size 3 12 o102 w103 v100 y99 ∧ Bx w.heap.size 11 o102 w103 b9 31 [v1, v3, v5]) (fun _ _ => False) ?_ ?_ ?_
      · refine wpC_block ?_
        refine wpC_loop (fun (K : Nat) a w103 => ∃ (i104 : Int) (y99 : List Int) (v100 : Value) (o102 : Tg), forI (fS_isWalk_s2) (x37.drop i104.toNat) i104 y99 = some q105 ∧ (x37.drop i104.toNat).length = K ∧ 0 ≤ i104 ∧ Fr a 38 [(2, (.pointer (some ⟨b9, 0, none⟩))), (5, v100), (6, (.int .i64 y20)), (22, v97), (23, (.int .i64 (x37.length : Int))), (24, (.int .i64 i104))] ∧ Bs oo o102 w w103 ∧ Ow w.heap.size 3 12 o102 w103 v100 y99 ∧ Ow w.heap.size 3 13 o102 w103 v97 x37 ∧ Bx w.heap.size 11 o102 w103 b9 31 [v1, v3, v5]) _ (fun a ha => ⟨0, y17, v18, o91, hq105, rfl, Int.le_refl 0, ha.sub (r := [(2, (.pointer (some ⟨b9, 0, none⟩))), (5, v18), (6, (.int .i64 y20)), (22, v97), (23, (.int .i64 (x37.length : Int))), (24, (.int .i64 0))]) ⟨rfl, rfl, rfl, rfl, rfl, rfl, trivial⟩, hB, h19, r94, h10⟩) ?_
        rintro K109 a w103 ⟨i104, y99, v100, o102, l106, m108, z107, ha, hB, h101, r94, h10⟩
        by_cases t113 : i104 < (x37.length : Int)
        · obtain ⟨x114, q110, hx114, b111, n112⟩ := forI_cons z107 t113 l106
          have hle := r94.len_le
          dsimp only [fS_isWalk_s2] at b111
          refine wp_of ha ?_
          refine wpC_seq ?_
          refine wpC_region ?_
          refine st_val (ex_lss rfl rfl) (by decide) trivial ?_
          refine wpF_end (r := [(2, (.pointer (some ⟨b9, 0, none⟩))), (5, v100), (6, (.int .i64 y20)), (22, v97), (23, (.int .i64 (x37.length : Int))), (24, (.int .i64 i104)), (25, (.bool (decide (i104 < (x37.length : Int)))))]) ⟨rfl, rfl, rfl, rfl, rfl, rfl, rfl, trivial⟩ ?_
          refine nx ?_
          refine wpC_seq ?_
          refine wpC_true (congrArg (fun b => some (Value.bool b)) (decide_eq_true t113)) ?_
          refine wpC_skip ?_
          refine nx ?_
          refine wpC_seq ?_
          refine wpC_block ?_
          refine wpC_seq ?_
          refine wpC_region ?_
          refine st_op (by decide) trivial ?_
          refine wf_atW r94 hx114 rfl rfl Try.underlying23 Try.sizeOf3 ?_
          intro b115 f116 c117 h118 h119
          cases h119
          refine st_val (ex_load1 rfl Try.isAgg3 (cell_of_cells h118)) (by decide) trivial ?_
          refine st_val (ex_assign rfl) (by decide) trivial ?_
          refine wpF_end (r := [(2, (.pointer (some ⟨b9, 0, none⟩))), (5, v100), (6, (.int .i64 y20)), (8, (.int .i64 x114)), (22, v97), (23, (.int .i64 (x37.length : Int))), (24, (.int .i64 i104))]) ⟨rfl, rfl, rfl, rfl, rfl, rfl, rfl, trivial⟩ ?_
          refine nx ?_
          refine wpC_seq ?_
          refine wpC_region ?_
          refine st_val (ex_move rfl) (by decide) trivial ?_
          refine st_val (ex_move rfl) (by decide) trivial ?_
          obtain ⟨x120, hx120, b111⟩ := bind_some b111
          refine st_op (by decide) trivial ?_
          refine wf_call (cS_l1Has w103 _ y99 h101.z x114 x120 hx120) Try.call94 ⟨rfl, rfl, trivial⟩ ?_
          rintro e125 w121 ⟨rfl, k122⟩
          have s124 := k122.stp 999 o102
          refine ⟨_, rfl, ?_⟩
          replace h101 := h101.stp s124 (by decide) (by decide)
          replace r94 := r94.stp s124 (by decide) (by decide)
          replace h10 := h10.stp s124 (by decide)
          replace hB := hB.stp s124 (by decide)
          refine st_val (ex_not rfl) (by decide) trivial ?_
          refine wpF_end (r := [(2, (.pointer (some ⟨b9, 0, none⟩))), (5, v100), (6, (.int .i64 y20)), (8, (.int .i64 x114)), (22, v97), (23, (.int .i64 (x37.length : Int))), (24, (.int .i64 i104)), (31, (.bool (!x120)))]) ⟨rfl, rfl, rfl, rfl, rfl, rfl, rfl, rfl, trivial⟩ ?_
          refine nx ?_
          refine wpC_cond rfl (fun t126 => ?_) (fun t126 => ?_)
          · rw [if_pos t126] at b111
            refine wpC_region ?_
            refine st_val (ex_move rfl) (by decide) trivial ?_
            refine st_val (ex_move rfl) (by decide) trivial ?_
            refine st_op (by decide) trivial ?_
            refine wf_litR (o := o102) (cs := [(.int .i64 x114)]) (xs := ([x114] : List Int)) (vs := [(0, (.int .i64 x114))]) ⟨_, _, rfl, rfl, rfl⟩ rfl ⟨rfl, rfl, trivial⟩ Try.underlying23 Try.sizeOf3 Try.zeroValue3 (by decide) (fill1 rfl) (by simp) ?_
            intro o127 w128 v129 h130 s131 k132
            replace h101 := h101.stp s131 (by decide) (by decide)
            replace r94 := r94.stp s131 (by decide) (by decide)
            replace h10 := h10.stp s131 (by decide)
            replace hB := hB.stp s131 (by decide)
            obtain ⟨x133, hx133, b111⟩ := bind_some b111
            refine st_op (by decide) trivial ?_
            refine wf_cat h101 h130 (push_cat hx133) (by decide) hB.keeps.size rfl rfl Try.underlying23 info2_t_int_Nb rfl (by decide) ?_
            intro o134 w135 v136 h137 s138
            replace r94 := r94.stp s138 (by decide) (by decide)
            replace h130 := h130.stp s138 (by decide)
            replace h10 := h10.stp s138 (by decide)
            replace hB := hB.stp s138 (by decide)
            refine st_val (ex_assign rfl) (by decide) trivial ?_
            refine wpF_end (r := [(2, (.pointer (some ⟨b9, 0, none⟩))), (5, v136), (6, (.int .i64 y20)), (22, v97), (23, (.int .i64 (x37.length : Int))), (24, (.int .i64 i104))]) ⟨rfl, rfl, rfl, rfl, rfl, rfl, trivial⟩ ?_
            refine nb_norm ?_
            refine nx ?_
            refine wpC_region ?_
            refine st_val (ex_add rfl rfl (ck_in (by omega) (by omega))) (by decide) trivial ?_
            refine st_val (ex_move rfl) (by decide) trivial ?_
            refine wpF_end (r := [(2, (.pointer (some ⟨b9, 0, none⟩))), (5, v136), (6, (.int .i64 y20)), (22, v97), (23, (.int .i64 (x37.length : Int))), (24, (.int .i64 (i104 + 1)))]) ⟨rfl, rfl, rfl, rfl, rfl, rfl, trivial⟩ ?_
            refine nt_norm ?_
            have e139 := Option.some.inj b111
            subst e139
            refine to_k (r := [(2, (.pointer (some ⟨b9, 0, none⟩))), (5, v136), (6, (.int .i64 y20)), (22, v97), (23, (.int .i64 (x37.length : Int))), (24, (.int .i64 (i104 + 1)))]) ⟨rfl, rfl, rfl, rfl, rfl, rfl, trivial⟩ ?_
            intro a ha
            exact ⟨_, (by rw [← m108]; simp only [List.length_drop]; omega), i104 + 1, x133, v136, o134, n112, rfl, (by omega), ha, hB, h137, r94, h10⟩
          · rw [if_neg (by rw [t126]; decide)] at b111
            refine wpC_skip ?_
            refine nb_norm ?_
            refine nx ?_
            refine wpC_region ?_
            refine st_val (ex_add rfl rfl (ck_in (by omega) (by omega))) (by decide) trivial ?_
            refine st_val (ex_move rfl) (by decide) trivial ?_
            refine wpF_end (r := [(2, (.pointer (some ⟨b9, 0, none⟩))), (5, v100), (6, (.int .i64 y20)), (22, v97), (23, (.int .i64 (x37.length : Int))), (24, (.int .i64 (i104 + 1)))]) ⟨rfl, rfl, rfl, rfl, rfl, rfl, trivial⟩ ?_
            refine nt_norm ?_
            have e140 := Option.some.inj b111
            subst e140
            refine to_k (r := [(2, (.pointer (some ⟨b9, 0, none⟩))), (5, v100), (6, (.int .i64 y20)), (22, v97), (23, (.int .i64 (x37.length : Int))), (24, (.int .i64 (i104 + 1)))]) ⟨rfl, rfl, rfl, rfl, rfl, rfl, trivial⟩ ?_
            intro a ha
            exact ⟨_, (by rw [← m108]; simp only [List.length_drop]; omega), i104 + 1, y99, v100, o102, n112, rfl, (by omega), ha, hB, h101, r94, h10⟩
        · have r141 := forI_done t113 l106
          refine wp_of ha ?_
          refine wpC_seq ?_
          refine wpC_region ?_
          refine st_val (ex_lss rfl rfl) (by decide) trivial ?_
          refine wpF_end (r := [(2, (.pointer (some ⟨b9, 0, none⟩))), (5, v100), (6, (.int .i64 y20)), (22, v97), (23, (.int .i64 (x37.length : Int))), (24, (.int .i64 i104)), (25, (.bool (decide (i104 < (x37.length : Int)))))]) ⟨rfl, rfl, rfl, rfl, rfl, rfl, rfl, trivial⟩ ?_
          refine nx ?_
          refine wpC_seq ?_
          refine wpC_false (congrArg (fun b => some (Value.bool b)) (decide_eq_false t113)) ?_
          refine wpC_exit ?_
          refine nt_exit ?_
          refine nt_exit ?_
          refine nb_hit ?_
          refine np_norm ?_
          refine to_k (r := [(2, (.pointer (some ⟨b9, 0, none⟩))), (5, v100), (6, (.int .i64 y20))]) ⟨rfl, rfl, rfl, trivial⟩ ?_
          intro a ha
          exact ⟨y99, v100, o102, r141, ha, hB, h101, h10⟩
      · rintro a w103 ⟨y99, v100, o102, rfl, ha, hB, h101, h10⟩
        dsimp only at b29
        refine ap_k ha ?_
        refine nb_norm ?_
        refine nx ?_
        refine wpC_region ?_
        refine st_val (ex_move rfl) (by decide) trivial ?_
        obtain ⟨x142, hx142, b29⟩ := bind_some b29
        refine st_val (ex_add rfl rfl hx142) (by decide) trivial ?_
        refine st_val (ex_assign rfl) (by decide) trivial ?_
        refine wpF_end (r := [(2, (.pointer (some ⟨b9, 0, none⟩))), (5, v100), (6, (.int .i64 x142))]) ⟨rfl, rfl, rfl, trivial⟩ ?_
        refine nt_norm ?_
        have e143 := Option.some.inj b29
        subst e143
        refine to_k (r := [(2, (.pointer (some ⟨b9, 0, none⟩))), (5, v100), (6, (.int .i64 x142))]) ⟨rfl, rfl, rfl, trivial⟩ ?_
        intro a ha
        exact ⟨K31, by omega, y99, x142, v100, o102, n30, ha, hB, h101, h10⟩
      · exact fun _ _ h => h.elim
    · rw [if_neg (by rw [t33]; decide)] at b29
      refine wpC_exit ?_
      refine nt_exit ?_
      refine nt_exit ?_
      refine nb_hit ?_
      refine np_norm ?_
      have e144 := Option.some.inj b29
      subst e144
      refine to_k (r := [(5, v18)]) ⟨rfl, trivial⟩ ?_
      intro a ha
      exact ⟨y17, y20, v18, o21, n30, ha, hB, h19⟩
  · rintro a w22 ⟨y17, y20, v18, o21, rfl, ha, hB, h19⟩
    dsimp only at hF
    refine ap_k ha ?_
    refine nx ?_
    refine wpC_seq ?_
    refine wpC_region ?_
    refine st_val (ex_move rfl) (by decide) trivial ?_
    refine st_val (ex_assign rfl) (by decide) trivial ?_
    refine wpF_end (r := [(4, v18)]) ⟨rfl, trivial⟩ ?_
    refine nx ?_
    refine wpC_ret ?_
    have e145 := Option.some.inj hF
    subst e145
    refine ret_post (P := Try.prog) (vs := [v18]) Try.results63 ⟨rfl, trivial⟩ ?_
    exact ⟨_, rt oo o21 w.heap.size 12 t, rfl, h19.rt hB (by decide) t, hB.keeps, rt_old _ _ _ _ _⟩
  · exact fun _ _ h => h.elim

def fS_isCode_s1 : Int → Int → (List Int) → Option (Lp (List Int) (List Int) (List Int)) := fun (i22 : Int) (x32 : Int) (s : List Int) =>
  (ix s x32) >>= fun x38 =>
  (st s x32 i22) >>= fun x47 =>
  some (.go x47)
def fS_isCode_s3 (y18 : List Int) : Int → T_End → (List Int) → Option (Lp (List Int) (List Int) (List Int)) := fun (i196 : Int) (x206 : T_End) (s : List Int) =>
  (ix y18 x206.Node) >>= fun x220 =>
  (cat s ([x220, x206.Port] : List Int)) >>= fun x281 =>
  some (.go x281)
def fS_isCode_s4 (y18 : List Int) : Int → T_End → (List Int) → Option (Lp (List Int) (List Int) (List Int)) := fun (i406 : Int) (x416 : T_End) (s : List Int) =>
  (ix y18 x416.Node) >>= fun x430 =>
  (cat s ([x430, x416.Port] : List Int)) >>= fun x491 =>
  some (.go x491)
def fS_isCode_s2 (p0 : T_Network) (y18 : List Int) : Int → Int → (List Int) → Option (Lp (List Int) (List Int) (List Int)) := fun (i57 : Int) (x67 : Int) (s : List Int) =>
  if decide ((p0.Ids.length : Int) > 0) then
    (ix p0.Ids x67) >>= fun x74 =>
    (ix p0.Ends x67) >>= fun x80 =>
    (ix p0.Inputs x67) >>= fun x86 =>
    (cat s ([(x80.length : Int), x86, x74] : List Int)) >>= fun x177 =>
    (ix p0.Ends x67) >>= fun x183 =>
    (forI (fS_isCode_s3 y18) x183 0 x177) >>= fun q197 =>
    match q197 with
    | .inl y191 =>
      some (.go y191)
    | .inr _ => none
  else
    (ix p0.Ends x67) >>= fun x290 =>
    (ix p0.Inputs x67) >>= fun x296 =>
    (cat s ([(x290.length : Int), x296, 0] : List Int)) >>= fun x387 =>
    (ix p0.Ends x67) >>= fun x393 =>
    (forI (fS_isCode_s4 y18) x393 0 x387) >>= fun q407 =>
    match q407 with
    | .inl y401 =>
      some (.go y401)
    | .inr _ => none
def fS_isCode (p0 : T_Network) (p1 : List Int) : Option (List Int) :=
  (mk (Rz.z : Int) (p0.Ends.length : Int)) >>= fun x12 =>
  (forI (fS_isCode_s1) p1 0 x12) >>= fun q23 =>
  match q23 with
  | .inl y18 =>
    (forI (fS_isCode_s2 p0 y18) p1 0 []) >>= fun q58 =>
    match q58 with
    | .inl y52 =>
      some y52
    | .inr _ => none
  | .inr _ => none

def pS_isCode (oo : Tg) (t : Nat) (w : World) (r : List Int) : Ending → World → Prop := fun e w' => ∃ (v0 : Value) (o' : Tg), e = .returned (v0) ∧ Ow w.heap.size 3 t o' w' v0 r ∧ Keeps w w' ∧ ∀ b, b < w.heap.size → o' b = oo b
set_option maxRecDepth 100000 in
set_option maxHeartbeats 2000000 in
theorem cS_isCode (w : World) (oo : Tg) (t : Nat) (ht : 2 ≤ t) (u0 : List Value) (p0 : T_Network) (g0 : Rp.rd zt w u0 p0) (u1 : Value) (p1 : List Int) (g1 : RdL zt w u1 p1) (r : List Int) (hF : fS_isCode p0 p1 = some r) :
    Calls Try.prog 64 #[.agg u0.toArray, u1] w (pS_isCode oo t w r) := by
  unfold fS_isCode at hF
  obtain ⟨v1, v3, v5, rfl, h2, h4, h6⟩ := g0
  have hB : Bs oo (col oo) w w := Bs.start _ _
  refine calls_start (n := 83) (vs := [(.agg #[v1, v3, v5]), u1]) Try.func64 rfl rfl ?_
  generalize col oo = o at *
  refine wpC_seq ?_
  refine wpC_region ?_
  refine st_op (by decide) trivial ?_
  refine wf_box (o := o) w.heap.size 11 hB.keeps.size (cs := [v1, v3, v5]) rfl rfl ?_
  intro o7 w8 b9 h10 s11
  replace hB := hB.stp s11 (by decide)
  refine st_val (ex_assign rfl) (by decide) trivial ?_
  refine wpF_end (r := [(1, u1), (2, (.pointer (some ⟨b9, 0, none⟩)))]) ⟨rfl, rfl, trivial⟩ ?_
  refine nx ?_
  refine wpC_seq ?_
  refine wpC_region ?_
  refine st_val (ex_field rfl Try.underlying31 rfl Try.sizeOf29) (by decide) trivial ?_
  refine st_val (ex_load1 rfl Try.isAgg29 (h10.cell rfl)) (by decide) trivial ?_
  refine st_val (ex_lenR rfl h2 Try.underlying29) (by decide) trivial ?_
  obtain ⟨x12, hx12, hF⟩ := bind_some hF
  refine st_op (by decide) trivial ?_
  refine wf_make (o := o7) w.heap.size 12 hB.keeps.size hx12 rfl rfl Try.underlying23 info2_t_int_Nb rfl (by decide) ?_
  intro o13 w14 v15 h16 s17
  replace h10 := h10.stp s17 (by decide)
  replace hB := hB.stp s17 (by decide)
  refine st_val (ex_assign rfl) (by decide) trivial ?_
  refine wpF_end (r := [(1, u1), (2, (.pointer (some ⟨b9, 0, none⟩))), (5, v15)]) ⟨rfl, rfl, rfl, trivial⟩ ?_
  refine nx ?_
  refine wpC_seq ?_
  refine wpC_seq ?_
  refine wpC_region ?_
  refine st_val (ex_move rfl) (by decide) trivial ?_
  refine st_val (ex_lenR rfl g1 Try.underlying23) (by decide) trivial ?_
  refine st_val (ex_move rfl) (by decide) trivial ?_
  refine wpF_end (r := [(1, u1), (2, (.pointer (some ⟨b9, 0, none⟩))), (5, v15), (18, u1), (19, (.int .i64 (p1.length : Int))), (20, (.int .i64 0))]) ⟨rfl, rfl, rfl, rfl, rfl, rfl, trivial⟩ ?_
  refine nx ?_
  obtain ⟨q23, hq23, hF⟩ := bind_some hF
  refine wpC_cutN (fun a w21 => ∃ (y18 : List Int) (o20 : Tg), q23 = .inl y18 ∧ Fr a 83 [(1, u1), (2, (.pointer (some ⟨b9, 0, none⟩))), (5, v15)] ∧ Bs oo o20 w w21 ∧ Ow w.heap.size 3 12 o20 w21 v15 y18 ∧ Bx w.heap.size 11 o20 w21 b9 31 [v1, v3, v5]) (fun _ _ => False) ?_ ?_ ?_
  · refine wpC_block ?_
    refine wpC_loop (fun (K : Nat) a w21 => ∃ (i22 : Int) (y18 : List Int) (o20 : Tg), forI (fS_isCode_s1) (p1.drop i22.toNat) i22 y18 = some q23 ∧ (p1.drop i22.toNat).length = K ∧ 0 ≤ i22 ∧ Fr a 83 [(1, u1), (2, (.pointer (some ⟨b9, 0, none⟩))), (5, v15), (18, u1), (19, (.int .i64 (p1.length : Int))), (20, (.int .i64 i22))] ∧ Bs oo o20 w w21 ∧ Ow w.heap.size 3 12 o20 w21 v15 y18 ∧ Bx w.heap.size 11 o20 w21 b9 31 [v1, v3, v5]) _ (fun a ha => ⟨0, x12, o13, hq23, rfl, Int.le_refl 0, ha.sub (r := [(1, u1), (2, (.pointer (some ⟨b9, 0, none⟩))), (5, v15), (18, u1), (19, (.int .i64 (p1.length : Int))), (20, (.int .i64 0))]) ⟨rfl, rfl, rfl, rfl, rfl, rfl, trivial⟩, hB, h16, h10⟩) ?_
    rintro K27 a w21 ⟨i22, y18, o20, l24, m26, z25, ha, hB, h19, h10⟩
    by_cases t31 : i22 < (p1.length : Int)
    · obtain ⟨x32, q28, hx32, b29, n30⟩ := forI_cons z25 t31 l24
      have hle := g1.len_le
      dsimp only [fS_isCode_s1] at b29
      refine wp_of ha ?_
      refine wpC_seq ?_
      refine wpC_region ?_
      refine st_val (ex_lss rfl rfl) (by decide) trivial ?_
      refine wpF_end (r := [(1, u1), (2, (.pointer (some ⟨b9, 0, none⟩))), (5, v15), (18, u1), (19, (.int .i64 (p1.length : Int))), (20, (.int .i64 i22)), (21, (.bool (decide (i22 < (p1.length : Int)))))]) ⟨rfl, rfl, rfl, rfl, rfl, rfl, rfl, trivial⟩ ?_
      refine nx ?_
      refine wpC_seq ?_
      refine wpC_true (congrArg (fun b => some (Value.bool b)) (decide_eq_true t31)) ?_
      refine wpC_skip ?_
      refine nx ?_
      refine wpC_seq ?_
      refine wpC_block ?_
      refine wpC_seq ?_
      refine wpC_region ?_
      refine st_val (ex_move rfl) (by decide) trivial ?_
      refine st_op (by decide) trivial ?_
      refine wf_atZ g1 hx32 hB rfl rfl Try.underlying23 Try.sizeOf3 ?_
      intro b33 f34 c35 h36 h37
      cases h37
      refine st_val (ex_load1 rfl Try.isAgg3 (cell_of_cells h36)) (by decide) trivial ?_
      refine st_val (ex_assign rfl) (by decide) trivial ?_
      refine st_val (ex_assign rfl) (by decide) trivial ?_
      refine wpF_end (r := [(1, u1), (2, (.pointer (some ⟨b9, 0, none⟩))), (5, v15), (6, (.int .i64 i22)), (7, (.int .i64 x32)), (18, u1), (19, (.int .i64 (p1.length : Int))), (20, (.int .i64 i22))]) ⟨rfl, rfl, rfl, rfl, rfl, rfl, rfl, rfl, trivial⟩ ?_
      refine nx ?_
      refine wpC_region ?_
      refine st_val (ex_move rfl) (by decide) trivial ?_
      refine st_val (ex_move rfl) (by decide) trivial ?_
      refine st_val (ex_move rfl) (by decide) trivial ?_
      obtain ⟨x38, hx38, b29⟩ := bind_some b29
      refine st_op (by decide) trivial ?_
      refine wf_atP h19 hx38 rfl rfl Try.underlying23 Try.sizeOf3 ?_
      intro b39 c41 h44 h42 h43
      cases h43
      obtain ⟨x47, hx47, b29⟩ := bind_some b29
      refine st_op0 trivial ?_
      refine wf_storeW h19 h44 hx47 rfl (by decide) rfl rfl rfl Try.sizeOf3 rfl ?_
      intro w45 h48 s46
      replace h10 := h10.stp s46 (by decide)
      replace hB := hB.stp s46 (by decide)
      refine wpF_end (r := [(1, u1), (2, (.pointer (some ⟨b9, 0, none⟩))), (5, v15), (18, u1), (19, (.int .i64 (p1.length : Int))), (20, (.int .i64 i22))]) ⟨rfl, rfl, rfl, rfl, rfl, rfl, trivial⟩ ?_
      refine nb_norm ?_
      refine nx ?_
      refine wpC_region ?_
      refine st_val (ex_add rfl rfl (ck_in (by omega) (by omega))) (by decide) trivial ?_
      refine st_val (ex_move rfl) (by decide) trivial ?_
      refine wpF_end (r := [(1, u1), (2, (.pointer (some ⟨b9, 0, none⟩))), (5, v15), (18, u1), (19, (.int .i64 (p1.length : Int))), (20, (.int .i64 (i22 + 1)))]) ⟨rfl, rfl, rfl, rfl, rfl, rfl, trivial⟩ ?_
      refine nt_norm ?_
      have e49 := Option.some.inj b29
      subst e49
      refine to_k (r := [(1, u1), (2, (.pointer (some ⟨b9, 0, none⟩))), (5, v15), (18, u1), (19, (.int .i64 (p1.length : Int))), (20, (.int .i64 (i22 + 1)))]) ⟨rfl, rfl, rfl, rfl, rfl, rfl, trivial⟩ ?_
      intro a ha
      exact ⟨_, (by rw [← m26]; simp only [List.length_drop]; omega), i22 + 1, x47, o20, n30, rfl, (by omega), ha, hB, h48, h10⟩
    · have r50 := forI_done t31 l24
      refine wp_of ha ?_
      refine wpC_seq ?_
      refine wpC_region ?_
      refine st_val (ex_lss rfl rfl) (by decide) trivial ?_
      refine wpF_end (r := [(1, u1), (2, (.pointer (some ⟨b9, 0, none⟩))), (5, v15), (18, u1), (19, (.int .i64 (p1.length : Int))), (20, (.int .i64 i22)), (21, (.bool (decide (i22 < (p1.length : Int)))))]) ⟨rfl, rfl, rfl, rfl, rfl, rfl, rfl, trivial⟩ ?_
      refine nx ?_
      refine wpC_seq ?_
      refine wpC_false (congrArg (fun b => some (Value.bool b)) (decide_eq_false t31)) ?_
      refine wpC_exit ?_
      refine nt_exit ?_
      refine nt_exit ?_
      refine nb_hit ?_
      refine np_norm ?_
      refine to_k (r := [(1, u1), (2, (.pointer (some ⟨b9, 0, none⟩))), (5, v15)]) ⟨rfl, rfl, rfl, trivial⟩ ?_
      intro a ha
      exact ⟨y18, o20, r50, ha, hB, h19, h10⟩
  · rintro a w21 ⟨y18, o20, rfl, ha, hB, h19, h10⟩
    dsimp only at hF
    refine ap_k ha ?_
    refine nx ?_
    refine wpC_seq ?_
    refine wpC_region ?_
    refine st_val (ex_assign rfl) (by decide) trivial ?_
    refine wpF_end (r := [(1, u1), (2, (.pointer (some ⟨b9, 0, none⟩))), (5, v15), (8, (.slice none 0 0))]) ⟨rfl, rfl, rfl, rfl, trivial⟩ ?_
    refine nx ?_
    refine wpC_seq ?_
    refine wpC_seq ?_
    refine wpC_region ?_
    refine st_val (ex_move rfl) (by decide) trivial ?_
    refine st_val (ex_lenR rfl g1 Try.underlying23) (by decide) trivial ?_
    refine st_val (ex_move rfl) (by decide) trivial ?_
    refine wpF_end (r := [(2, (.pointer (some ⟨b9, 0, none⟩))), (5, v15), (8, (.slice none 0 0)), (30, u1), (31, (.int .i64 (p1.length : Int))), (32, (.int .i64 0))]) ⟨rfl, rfl, rfl, rfl, rfl, rfl, trivial⟩ ?_
    refine nx ?_
    have h51 : Ow w.heap.size 3 13 o20 w21 (.slice none 0 0) ([] : List Int) := Ow.nil _ _ _ _ _
    obtain ⟨q58, hq58, hF⟩ := bind_some hF
    refine wpC_cutN (fun a w56 => ∃ (y52 : List Int) (v53 : Value) (o55 : Tg), q58 = .inl y52 ∧ Fr a 83 [(8, v53)] ∧ Bs oo o55 w w56 ∧ Ow w.heap.size 3 13 o55 w56 v53 y52) (fun _ _ => False) ?_ ?_ ?_
    · refine wpC_block ?_
      refine wpC_loop (fun (K : Nat) a w56 => ∃ (i57 : Int) (y52 : List Int) (v53 : Value) (o55 : Tg), forI (fS_isCode_s2 p0 y18) (p1.drop i57.toNat) i57 y52 = some q58 ∧ (p1.drop i57.toNat).length = K ∧ 0 ≤ i57 ∧ Fr a 83 [(2, (.pointer (some ⟨b9, 0, none⟩))), (5, v15), (8, v53), (30, u1), (31, (.int .i64 (p1.length : Int))), (32, (.int .i64 i57))] ∧ Bs oo o55 w w56 ∧ Ow w.heap.size 3 12 o55 w56 v15 y18 ∧ Ow w.heap.size 3 13 o55 w56 v53 y52 ∧ Bx w.heap.size 11 o55 w56 b9 31 [v1, v3, v5]) _ (fun a ha => ⟨0, [], (.slice none 0 0), o20, hq58, rfl, Int.le_refl 0, ha.sub (r := [(2, (.pointer (some ⟨b9, 0, none⟩))), (5, v15), (8, (.slice none 0 0)), (30, u1), (31, (.int .i64 (p1.length : Int))), (32, (.int .i64 0))]) ⟨rfl, rfl, rfl, rfl, rfl, rfl, trivial⟩, hB, h19, h51, h10⟩) ?_
      rintro K62 a w56 ⟨i57, y52, v53, o55, l59, m61, z60, ha, hB, h19, h54, h10⟩
      by_cases t66 : i57 < (p1.length : Int)
      · obtain ⟨x67, q63, hx67, b64, n65⟩ := forI_cons z60 t66 l59
        have hle := g1.len_le
        dsimp only [fS_isCode_s2] at b64
        refine wp_of ha ?_
        refine wpC_seq ?_
        refine wpC_region ?_
        refine st_val (ex_lss rfl rfl) (by decide) trivial ?_
        refine wpF_end (r := [(2, (.pointer (some ⟨b9, 0, none⟩))), (5, v15), (8, v53), (30, u1), (31, (.int .i64 (p1.length : Int))), (32, (.int .i64 i57)), (33, (.bool (decide (i57 < (p1.length : Int)))))]) ⟨rfl, rfl, rfl, rfl, rfl, rfl, rfl, trivial⟩ ?_
        refine nx ?_
        refine wpC_seq ?_
        refine wpC_true (congrArg (fun b => some (Value.bool b)) (decide_eq_true t66)) ?_
        refine wpC_skip ?_
        refine nx ?_
        refine wpC_seq ?_
        refine wpC_block ?_
        refine wpC_seq ?_
        refine wpC_region ?_
        refine st_op (by decide) trivial ?_
        refine wf_atZ g1 hx67 hB rfl rfl Try.underlying23 Try.sizeOf3 ?_
        intro b68 f69 c70 h71 h72
        cases h72
        refine st_val (ex_load1 rfl Try.isAgg3 (cell_of_cells h71)) (by decide) trivial ?_
        refine st_val (ex_assign rfl) (by decide) trivial ?_
        refine wpF_end (r := [(2, (.pointer (some ⟨b9, 0, none⟩))), (5, v15), (8, v53), (10, (.int .i64 x67)), (30, u1), (31, (.int .i64 (p1.length : Int))), (32, (.int .i64 i57))]) ⟨rfl, rfl, rfl, rfl, rfl, rfl, rfl, trivial⟩ ?_
        refine nx ?_
        refine wpC_seq ?_
        refine wpC_region ?_
        refine st_val (ex_assign rfl) (by decide) trivial ?_
        refine wpF_end (r := [(2, (.pointer (some ⟨b9, 0, none⟩))), (5, v15), (8, v53), (10, (.int .i64 x67)), (11, (.int .i64 0)), (30, u1), (31, (.int .i64 (p1.length : Int))), (32, (.int .i64 i57))]) ⟨rfl, rfl, rfl, rfl, rfl, rfl, rfl, rfl, trivial⟩ ?_
        refine nx ?_
        refine wpC_seq ?_
        refine wpC_seq ?_
        refine wpC_region ?_
        refine st_val (ex_field rfl Try.underlying31 rfl Try.sizeOf23) (by decide) trivial ?_
        refine st_val (ex_load1 rfl Try.isAgg23 (h10.cell rfl)) (by decide) trivial ?_
        refine st_val (ex_lenR rfl h4 Try.underlying23) (by decide) trivial ?_
        refine st_val (ex_gtr rfl rfl) (by decide) trivial ?_
        refine wpF_end (r := [(2, (.pointer (some ⟨b9, 0, none⟩))), (5, v15), (8, v53), (10, (.int .i64 x67)), (11, (.int .i64 0)), (30, u1), (31, (.int .i64 (p1.length : Int))), (32, (.int .i64 i57)), (39, (.bool (decide ((p0.Ids.length : Int) > 0))))]) ⟨rfl, rfl, rfl, rfl, rfl, rfl, rfl, rfl, rfl, trivial⟩ ?_
        refine nx ?_
        refine wpC_cond rfl (fun t73 => ?_) (fun t73 => ?_)
        · rw [if_pos t73] at b64
          refine wpC_region ?_
          refine st_val (ex_field rfl Try.underlying31 rfl Try.sizeOf23) (by decide) trivial ?_
          refine st_val (ex_load1 rfl Try.isAgg23 (h10.cell rfl)) (by decide) trivial ?_
          refine st_val (ex_move rfl) (by decide) trivial ?_
          obtain ⟨x74, hx74, b64⟩ := bind_some b64
          refine st_op (by decide) trivial ?_
          refine wf_atZ h4 hx74 hB rfl rfl Try.underlying23 Try.sizeOf3 ?_
          intro b75 f76 c77 h78 h79
          cases h79
          refine st_val (ex_load1 rfl Try.isAgg3 (cell_of_cells h78)) (by decide) trivial ?_
          refine st_val (ex_assign rfl) (by decide) trivial ?_
          refine wpF_end (r := [(2, (.pointer (some ⟨b9, 0, none⟩))), (5, v15), (8, v53), (10, (.int .i64 x67)), (11, (.int .i64 x74)), (30, u1), (31, (.int .i64 (p1.length : Int))), (32, (.int .i64 i57))]) ⟨rfl, rfl, rfl, rfl, rfl, rfl, rfl, rfl, trivial⟩ ?_
          refine nx ?_
          refine wpC_seq ?_
          obtain ⟨x80, hx80, b64⟩ := bind_some b64
          obtain ⟨x86, hx86, b64⟩ := bind_some b64
          refine wpC_drawn (o := o55) [(2, (.pointer (some ⟨b9, 0, none⟩))), (5, v15), (8, v53), (10, (.int .i64 x67)), (11, (.int .i64 x74)), (30, u1), (31, (.int .i64 (p1.length : Int))), (32, (.int .i64 i57))] [2, 5, 8, 10, 11, 30, 31, 32] [45, 46, 47, 48, 49, 50, 51, 52, 53, 54, 55, 56, 57, 58] [[], [], [1], [], [2, 3], [4], [5], [], [7], [], [8, 9], [10], [], [6, 11, 12]] [none, none, none, none, none, none, none, none, none, none, none, none, none, none] [999, 999, 999, 999, 999, 999, 999, 999, 999, 999, 999, 999, 999, 999] [0, 0, 0, 0, 0, 0, 0, 0, 0, 0, 0, 0, 0, 0] [999] [fun v _ _ => v = v53, fun v _ _ => v = (.pointer (some ⟨b9, 0 + 0, none⟩)), fun v _ _ => v = v1, fun v _ _ => v = (.int .i64 x67), fun v o w9 => ∃ vl, v = adr vl (x67.toNat * Rp.sz (List T_End)) ∧ RdL zt w vl (p0.Ends : List (List T_End)), fun v o w9 => RdL zt w v x80, fun v _ _ => v = (.int .i64 (x80.length : Int)), fun v _ _ => v = (.pointer (some ⟨b9, 0 + 2, none⟩)), fun v _ _ => v = v5, fun v _ _ => v = (.int .i64 x67), fun v o w9 => ∃ vl, v = adr vl (x67.toNat * Rp.sz Int) ∧ RdL zt w vl (p0.Inputs : List Int), fun v _ _ => v = (.int .i64 x86), fun v _ _ => v = (.int .i64 x74), fun v o w9 => RdL o w9 v (([(x80.length : Int), x86, x74] : List Int) : List Int)] (fun o8 w8 => Bs oo o8 w w8 ∧ Ow w.heap.size 3 12 o8 w8 v15 y18 ∧ Ow w.heap.size 3 13 o8 w8 v53 y52 ∧ Bx w.heap.size 11 o8 w8 b9 31 [v1, v3, v5]) follows_mixed (by kernel_rfl) rfl ⟨rfl, rfl, rfl, rfl, rfl, rfl, rfl, rfl, trivial⟩ ⟨hB, h19, h54, h10⟩ ?_ ⟨st_eq _, st_eq _, st_eq _, st_eq _, fun _ _ _ _ _ _ h0 hb ⟨vl, e, h⟩ hs => ⟨vl, e, h⟩, fun _ _ _ _ _ _ h0 hb h hs => h, st_eq _, st_eq _, st_eq _, st_eq _, fun _ _ _ _ _ _ h0 hb ⟨vl, e, h⟩ hs => ⟨vl, e, h⟩, st_eq _, st_eq _, fun _ _ _ _ _ _ h0 hb h hs => h.stp hs h0.1, trivial⟩ ?_ ?_
          · rintro t9 o1 w1 o2 w2 ht9 ⟨hB, h19, h54, h10⟩ hs9
            have ht9 : t9 = 999 := by simpa using ht9
            subst ht9
            all_goals exact ⟨hB.stp hs9 (by decide), h19.stp hs9 (by decide) (by decide), h54.stp hs9 (by decide) (by decide), h10.stp hs9 (by decide)⟩
          · refine ⟨?_, ?_, ?_, ?_, ?_, ?_, ?_, ?_, ?_, ?_, ?_, ?_, ?_, ?_, trivial⟩
            · rintro o95 w96 a97 ha ⟨hB, h19, h54, h10⟩ -
              refine opS_of ha (trivial) ?_
              refine op1_val (ex_move rfl) ?_
              exact ⟨_, Stp.refl _ _ _, rfl⟩
            · rintro o98 w99 a100 ha ⟨hB, h19, h54, h10⟩ -
              refine opS_of ha (trivial) ?_
              refine op1_val (ex_field rfl Try.underlying31 rfl Try.sizeOf29) ?_
              exact ⟨_, Stp.refl _ _ _, rfl⟩
            · rintro o101 w102 a103 ha ⟨hB, h19, h54, h10⟩ ⟨r104, -⟩
              have ha := Fr.cons (d := 46) ha r104
              refine opS_of ha (trivial) ?_
              refine op1_val (ex_load1 rfl Try.isAgg29 (h10.cell rfl)) ?_
              exact ⟨_, Stp.refl _ _ _, rfl⟩
            · rintro o105 w106 a107 ha ⟨hB, h19, h54, h10⟩ -
              refine opS_of ha (trivial) ?_
              refine op1_val (ex_move rfl) ?_
              exact ⟨_, Stp.refl _ _ _, rfl⟩
            · rintro o108 w109 a110 ha ⟨hB, h19, h54, h10⟩ ⟨r111, r112, -⟩
              have ha := Fr.cons (d := 47) ha r111
              have ha := Fr.cons (d := 48) ha r112
              refine opS_of ha (trivial) ?_
              refine wd_indexR h2 hx80 rfl rfl Try.underlying29 Try.sizeOf110 ?_
              exact ⟨_, Stp.refl _ _ _, ⟨_, rfl, h2⟩⟩
            · rintro o113 w114 a115 ha ⟨hB, h19, h54, h10⟩ ⟨r116, -⟩
              obtain ⟨v117, e118, h119⟩ := r116
              have ha := Fr.cons (d := 49) ha e118
              refine opS_of ha (trivial) ?_
              refine wd_load1Z h119 hx80 hB rfl rfl Try.isAgg110 ?_
              intro c120 h121
              obtain ⟨v122, e124, h123⟩ := h121
              cases e124
              exact ⟨_, Stp.refl _ _ _, h123⟩
            · rintro o125 w126 a127 ha ⟨hB, h19, h54, h10⟩ ⟨r128, -⟩
              replace r128 : RdL zt w (a127.tmps.getD 50 undef) x80 := r128
              generalize e130 : a127.tmps.getD 50 undef = v129 at r128
              have ha := Fr.cons (d := 50) ha e130
              refine opS_of ha (trivial) ?_
              refine op1_val (ex_lenR rfl r128 Try.underlying110) ?_
              exact ⟨_, Stp.refl _ _ _, rfl⟩
            · rintro o131 w132 a133 ha ⟨hB, h19, h54, h10⟩ -
              refine opS_of ha (trivial) ?_
              refine op1_val (ex_field rfl Try.underlying31 rfl Try.sizeOf23) ?_
              exact ⟨_, Stp.refl _ _ _, rfl⟩
            · rintro o134 w135 a136 ha ⟨hB, h19, h54, h10⟩ ⟨r137, -⟩
              have ha := Fr.cons (d := 52) ha r137
              refine opS_of ha (trivial) ?_
              refine op1_val (ex_load1 rfl Try.isAgg23 (h10.cell rfl)) ?_
              exact ⟨_, Stp.refl _ _ _, rfl⟩
            · rintro o138 w139 a140 ha ⟨hB, h19, h54, h10⟩ -
              refine opS_of ha (trivial) ?_
              refine op1_val (ex_move rfl) ?_
              exact ⟨_, Stp.refl _ _ _, rfl⟩
            · rintro o141 w142 a143 ha ⟨hB, h19, h54, h10⟩ ⟨r144, r145, -⟩
              have ha := Fr.cons (d := 53) ha r144
              have ha := Fr.cons (d := 54) ha r145
              refine opS_of ha (trivial) ?_
              refine wd_indexR h6 hx86 rfl rfl Try.underlying23 Try.sizeOf3 ?_
              exact ⟨_, Stp.refl _ _ _, ⟨_, rfl, h6⟩⟩
            · rintro o146 w147 a148 ha ⟨hB, h19, h54, h10⟩ ⟨r149, -⟩
              obtain ⟨v150, e151, h152⟩ := r149
              have ha := Fr.cons (d := 55) ha e151
              refine opS_of ha (trivial) ?_
              refine wd_load1Z h152 hx86 hB rfl rfl Try.isAgg3 ?_
              intro c153 h154
              cases h154
              exact ⟨_, Stp.refl _ _ _, rfl⟩
            · rintro o155 w156 a157 ha ⟨hB, h19, h54, h10⟩ -
              refine opS_of ha (trivial) ?_
              refine op1_val (ex_move rfl) ?_
              exact ⟨_, Stp.refl _ _ _, rfl⟩
            · rintro o158 w159 a160 ha ⟨hB, h19, h54, h10⟩ ⟨r161, r162, r163, -⟩
              have ha := Fr.cons (d := 51) ha r161
              have ha := Fr.cons (d := 56) ha r162
              have ha := Fr.cons (d := 57) ha r163
              refine opS_of ha (trivial) ?_
              refine wf_litR (o := o158) (cs := [(.int .i64 (x80.length : Int)), (.int .i64 x86), (.int .i64 x74)]) (xs := ([(x80.length : Int), x86, x74] : List Int)) (vs := [(0, (.int .i64 (x80.length : Int))), (1, (.int .i64 x86)), (2, (.int .i64 x74))]) ⟨_, _, rfl, rfl, ⟨_, _, rfl, rfl, ⟨_, _, rfl, rfl, rfl⟩⟩⟩ rfl ⟨rfl, rfl, rfl, rfl, rfl, rfl, trivial⟩ Try.underlying23 Try.sizeOf3 Try.zeroValue3 (by decide) (fill3 rfl rfl rfl) (by simp) ?_
              intro o164 w165 v166 h167 s168 k169
              replace h19 := h19.stp s168 (by decide) (by decide)
              replace h54 := h54.stp s168 (by decide) (by decide)
              replace h10 := h10.stp s168 (by decide)
              replace hB := hB.stp s168 (by decide)
              exact ⟨_, s168, h167⟩
          rintro o170 w171 a172 ha ⟨hB, h19, h54, h10⟩ ⟨r173, -, -, -, -, -, -, -, -, -, -, -, -, r174, -⟩
          have ha := Fr.cons (d := 45) ha r173
          replace r174 : RdL o170 w171 (a172.tmps.getD 58 undef) (([(x80.length : Int), x86, x74] : List Int) : List Int) := r174
          generalize e176 : a172.tmps.getD 58 undef = v175 at r174
          have ha := Fr.cons (d := 58) ha e176
          refine wl_of ha ?_
          simp only [List.length_cons, List.length_nil, Nat.zero_add, Nat.reduceAdd, List.drop_succ_cons, List.drop_zero]
          obtain ⟨x177, hx177, b64⟩ := bind_some b64
          refine st_op (by decide) trivial ?_
          refine wf_cat h54 r174 hx177 (by decide) hB.keeps.size rfl rfl Try.underlying23 info2_t_int_Nb rfl (by decide) ?_
          intro o178 w179 v180 h181 s182
          replace h19 := h19.stp s182 (by decide) (by decide)
          replace r174 := r174.stp s182 (by decide)
          replace h10 := h10.stp s182 (by decide)
          replace hB := hB.stp s182 (by decide)
          refine st_val (ex_assign rfl) (by decide) trivial ?_
          refine wpF_end (r := [(2, (.pointer (some ⟨b9, 0, none⟩))), (5, v15), (8, v180), (10, (.int .i64 x67)), (30, u1), (31, (.int .i64 (p1.length : Int))), (32, (.int .i64 i57))]) ⟨rfl, rfl, rfl, rfl, rfl, rfl, rfl, trivial⟩ ?_
          refine nx ?_
          refine wpC_seq ?_
          refine wpC_region ?_
          refine st_val (ex_field rfl Try.underlying31 rfl Try.sizeOf29) (by decide) trivial ?_
          refine st_val (ex_load1 rfl Try.isAgg29 (h10.cell rfl)) (by decide) trivial ?_
          refine st_val (ex_move rfl) (by decide) trivial ?_
          obtain ⟨x183, hx183, b64⟩ := bind_some b64
          refine st_op (by decide) trivial ?_
          refine wf_atZ h2 hx183 hB rfl rfl Try.underlying29 Try.sizeOf110 ?_
          intro b184 f185 c186 h187 h188
          obtain ⟨v189, rfl, h190⟩ := h188
          refine st_val (ex_load1 rfl Try.isAgg110 (cell_of_cells h187)) (by decide) trivial ?_
          refine st_val (ex_lenR rfl h190 Try.underlying110) (by decide) trivial ?_
          refine st_val (ex_move rfl) (by decide) trivial ?_
          refine wpF_end (r := [(2, (.pointer (some ⟨b9, 0, none⟩))), (5, v15), (8, v180), (30, u1), (31, (.int .i64 (p1.length : Int))), (32, (.int .i64 i57)), (64, v189), (65, (.int .i64 (x183.length : Int))), (66, (.int .i64 0))]) ⟨rfl, rfl, rfl, rfl, rfl, rfl, rfl, rfl, rfl, trivial⟩ ?_
          refine nx ?_
          obtain ⟨q197, hq197, b64⟩ := bind_some b64
          refine wpC_cutN (fun a w195 => ∃ (y191 : List Int) (v192 : Value) (o194 : Tg), q197 = .inl y191 ∧ Fr a 83 [(2, (.pointer (some ⟨b9, 0, none⟩))), (5, v15), (8, v192), (30, u1), (31, (.int .i64 (p1.length : Int))), (32, (.int .i64 i57))] ∧ Bs oo o194 w w195 ∧ Ow w.heap.size 3 12 o194 w195 v15 y18 ∧ Ow w.heap.size 3 13 o194 w195 v192 y191 ∧ Bx w.heap.size 11 o194 w195 b9 31 [v1, v3, v5]) (fun _ _ => False) ?_ ?_ ?_
          · refine wpC_block ?_
            refine wpC_loop (fun (K : Nat) a w195 => ∃ (i196 : Int) (y191 : List Int) (v192 : Value) (o194 : Tg), forI (fS_isCode_s3 y18) (x183.drop i196.toNat) i196 y191 = some q197 ∧ (x183.drop i196.toNat).length = K ∧ 0 ≤ i196 ∧ Fr a 83 [(2, (.pointer (some ⟨b9, 0, none⟩))), (5, v15), (8, v192), (30, u1), (31, (.int .i64 (p1.length : Int))), (32, (.int .i64 i57)), (64, v189), (65, (.int .i64 (x183.length : Int))), (66, (.int .i64 i196))] ∧ Bs oo o194 w w195 ∧ Ow w.heap.size 3 12 o194 w195 v15 y18 ∧ Ow w.heap.size 3 13 o194 w195 v192 y191 ∧ Bx w.heap.size 11 o194 w195 b9 31 [v1, v3, v5]) _ (fun a ha => ⟨0, x177, v180, o178, hq197, rfl, Int.le_refl 0, ha.sub (r := [(2, (.pointer (some ⟨b9, 0, none⟩))), (5, v15), (8, v180), (30, u1), (31, (.int .i64 (p1.length : Int))), (32, (.int .i64 i57)), (64, v189), (65, (.int .i64 (x183.length : Int))), (66, (.int .i64 0))]) ⟨rfl, rfl, rfl, rfl, rfl, rfl, rfl, rfl, rfl, trivial⟩, hB, h19, h181, h10⟩) ?_
            rintro K201 a w195 ⟨i196, y191, v192, o194, l198, m200, z199, ha, hB, h19, h193, h10⟩
            by_cases t205 : i196 < (x183.length : Int)
            · obtain ⟨x206, q202, hx206, b203, n204⟩ := forI_cons z199 t205 l198
              have hle := h190.len_le
              dsimp only [fS_isCode_s3] at b203
              refine wp_of ha ?_
              refine wpC_seq ?_
              refine wpC_region ?_
              refine st_val (ex_lss rfl rfl) (by decide) trivial ?_
              refine wpF_end (r := [(2, (.pointer (some ⟨b9, 0, none⟩))), (5, v15), (8, v192), (30, u1), (31, (.int .i64 (p1.length : Int))), (32, (.int .i64 i57)), (64, v189), (65, (.int .i64 (x183.length : Int))), (66, (.int .i64 i196)), (67, (.bool (decide (i196 < (x183.length : Int)))))]) ⟨rfl, rfl, rfl, rfl, rfl, rfl, rfl, rfl, rfl, rfl, trivial⟩ ?_
              refine nx ?_
              refine wpC_seq ?_
              refine wpC_true (congrArg (fun b => some (Value.bool b)) (decide_eq_true t205)) ?_
              refine wpC_skip ?_
              refine nx ?_
              refine wpC_seq ?_
              refine wpC_block ?_
              refine wpC_seq ?_
              refine wpC_region ?_
              refine st_op (by decide) trivial ?_
              refine wf_atZ h190 hx206 hB rfl rfl Try.underlying110 Try.sizeOf115 ?_
              intro b207 f208 c209 h210 h211
              cases h211
              refine st_val (ex_loadA rfl Try.isAgg115 Try.sizeOf115 rfl h210) (by decide) trivial ?_
              refine st_op (by decide) trivial ?_
              refine wf_alloc (o := o194) w.heap.size 14 hB.keeps.size (cs := [(.int .i64 0), (.int .i64 0)]) Try.zeroValue115 rfl ?_
              intro o212 w213 b214 h215 s216
              replace h19 := h19.stp s216 (by decide) (by decide)
              replace h193 := h193.stp s216 (by decide) (by decide)
              replace h10 := h10.stp s216 (by decide)
              replace hB := hB.stp s216 (by decide)
              refine st_op0 trivial ?_
              refine wf_storeA h215 rfl rfl rfl info1_t_impl_End_Nb (by intro c hc; simp only [List.mem_cons, List.not_mem_nil, or_false] at hc; rcases hc with rfl | rfl <;> first | rfl) ?_
              intro w217 h219 s218
              replace h19 := h19.stp s218 (by decide) (by decide)
              replace h193 := h193.stp s218 (by decide) (by decide)
              replace h10 := h10.stp s218 (by decide)
              replace hB := hB.stp s218 (by decide)
              refine wpF_end (r := [(2, (.pointer (some ⟨b9, 0, none⟩))), (5, v15), (8, v192), (13, (.pointer (some ⟨b214, 0, none⟩))), (30, u1), (31, (.int .i64 (p1.length : Int))), (32, (.int .i64 i57)), (64, v189), (65, (.int .i64 (x183.length : Int))), (66, (.int .i64 i196))]) ⟨rfl, rfl, rfl, rfl, rfl, rfl, rfl, rfl, rfl, rfl, trivial⟩ ?_
              refine nx ?_
              obtain ⟨x220, hx220, b203⟩ := bind_some b203
              refine wpC_drawn (o := o212) [(2, (.pointer (some ⟨b9, 0, none⟩))), (5, v15), (8, v192), (13, (.pointer (some ⟨b214, 0, none⟩))), (30, u1), (31, (.int .i64 (p1.length : Int))), (32, (.int .i64 i57)), (64, v189), (65, (.int .i64 (x183.length : Int))), (66, (.int .i64 i196))] [2, 5, 8, 13, 30, 31, 32, 64, 65, 66] [70, 71, 72, 73, 74, 75, 76, 77, 78] [[], [], [], [2], [1, 3], [4], [], [6], [5, 7]] [none, none, none, none, none, none, none, none, none] [999, 999, 999, 999, 999, 999, 999, 999, 999] [0, 0, 0, 0, 12, 0, 0, 0, 0] [999] [fun v _ _ => v = v192, fun v _ _ => v = v15, fun v _ _ => v = (.pointer (some ⟨b214, 0 + 0, none⟩)), fun v _ _ => v = (.int .i64 x206.Node), fun v o w9 => ∃ vl, v = adr vl (x206.Node.toNat * Rp.sz Int) ∧ Ow w.heap.size 3 12 o w9 vl y18, fun v _ _ => v = (.int .i64 x220), fun v _ _ => v = (.pointer (some ⟨b214, 0 + 1, none⟩)), fun v _ _ => v = (.int .i64 x206.Port), fun v o w9 => RdL o w9 v (([x220, x206.Port] : List Int) : List Int)] (fun o8 w8 => Bs oo o8 w w8 ∧ Ow w.heap.size 3 12 o8 w8 v15 y18 ∧ Ow w.heap.size 3 13 o8 w8 v192 y191 ∧ Bx w.heap.size 11 o8 w8 b9 31 [v1, v3, v5] ∧ Bx w.heap.size 14 o8 w8 b214 115 [(.int .i64 x206.Node), (.int .i64 x206.Port)]) follows_mixed (by kernel_rfl) rfl ⟨rfl, rfl, rfl, rfl, rfl, rfl, rfl, rfl, rfl, rfl, trivial⟩ ⟨hB, h19, h193, h10, h219⟩ ?_ ⟨st_eq _, st_eq _, st_eq _, st_eq _, fun _ _ _ _ _ _ h0 hb ⟨vl, e, h⟩ hs => ⟨vl, e, h.stp hs h0.1 (Ne.symm hb)⟩, st_eq _, st_eq _, st_eq _, fun _ _ _ _ _ _ h0 hb h hs => h.stp hs h0.1, trivial⟩ ?_ ?_
              · rintro t9 o1 w1 o2 w2 ht9 ⟨hB, h19, h193, h10, h219⟩ hs9
                have ht9 : t9 = 999 := by simpa using ht9
                subst ht9
                all_goals exact ⟨hB.stp hs9 (by decide), h19.stp hs9 (by decide) (by decide), h193.stp hs9 (by decide) (by decide), h10.stp hs9 (by decide), h219.stp hs9 (by decide)⟩
              · refine ⟨?_, ?_, ?_, ?_, ?_, ?_, ?_, ?_, ?_, trivial⟩
                · rintro o229 w230 a231 ha ⟨hB, h19, h193, h10, h219⟩ -
                  refine opS_of ha (trivial) ?_
                  refine op1_val (ex_move rfl) ?_
                  exact ⟨_, Stp.refl _ _ _, rfl⟩
                · rintro o232 w233 a234 ha ⟨hB, h19, h193, h10, h219⟩ -
                  refine opS_of ha (trivial) ?_
                  refine op1_val (ex_move rfl) ?_
                  exact ⟨_, Stp.refl _ _ _, rfl⟩
                · rintro o235 w236 a237 ha ⟨hB, h19, h193, h10, h219⟩ -
                  refine opS_of ha (trivial) ?_
                  refine op1_val (ex_field rfl Try.underlying115 rfl Try.sizeOf3) ?_
                  exact ⟨_, Stp.refl _ _ _, rfl⟩
                · rintro o238 w239 a240 ha ⟨hB, h19, h193, h10, h219⟩ ⟨r241, -⟩
                  have ha := Fr.cons (d := 72) ha r241
                  refine opS_of ha (trivial) ?_
                  refine op1_val (ex_load1 rfl Try.isAgg3 (h219.cell rfl)) ?_
                  exact ⟨_, Stp.refl _ _ _, rfl⟩
                · rintro o242 w243 a244 ha ⟨hB, h19, h193, h10, h219⟩ ⟨r245, r246, -⟩
                  have ha := Fr.cons (d := 71) ha r245
                  have ha := Fr.cons (d := 73) ha r246
                  refine opS_of ha (trivial) ?_
                  refine wd_indexW h19 hx220 rfl rfl Try.underlying23 Try.sizeOf3 ?_
                  exact ⟨_, Stp.refl _ _ _, ⟨_, rfl, h19⟩⟩
                · rintro o247 w248 a249 ha ⟨hB, h19, h193, h10, h219⟩ ⟨r250, -⟩
                  obtain ⟨v251, e252, h253⟩ := r250
                  have ha := Fr.cons (d := 74) ha e252
                  refine opS_of ha (trivial) ?_
                  refine wd_load1W h253 hx220 rfl rfl Try.isAgg3 ?_
                  intro c254 h255
                  cases h255
                  exact ⟨_, Stp.refl _ _ _, rfl⟩
                · rintro o256 w257 a258 ha ⟨hB, h19, h193, h10, h219⟩ -
                  refine opS_of ha (trivial) ?_
                  refine op1_val (ex_field rfl Try.underlying115 rfl Try.sizeOf3) ?_
                  exact ⟨_, Stp.refl _ _ _, rfl⟩
                · rintro o259 w260 a261 ha ⟨hB, h19, h193, h10, h219⟩ ⟨r262, -⟩
                  have ha := Fr.cons (d := 76) ha r262
                  refine opS_of ha (trivial) ?_
                  refine op1_val (ex_load1 rfl Try.isAgg3 (h219.cell rfl)) ?_
                  exact ⟨_, Stp.refl _ _ _, rfl⟩
                · rintro o263 w264 a265 ha ⟨hB, h19, h193, h10, h219⟩ ⟨r266, r267, -⟩
                  have ha := Fr.cons (d := 75) ha r266
                  have ha := Fr.cons (d := 77) ha r267
                  refine opS_of ha (trivial) ?_
                  refine wf_litR (o := o263) (cs := [(.int .i64 x220), (.int .i64 x206.Port)]) (xs := ([x220, x206.Port] : List Int)) (vs := [(0, (.int .i64 x220)), (1, (.int .i64 x206.Port))]) ⟨_, _, rfl, rfl, ⟨_, _, rfl, rfl, rfl⟩⟩ rfl ⟨rfl, rfl, rfl, rfl, trivial⟩ Try.underlying23 Try.sizeOf3 Try.zeroValue3 (by decide) (fill2 rfl rfl) (by simp) ?_
                  intro o268 w269 v270 h271 s272 k273
                  replace h19 := h19.stp s272 (by decide) (by decide)
                  replace h193 := h193.stp s272 (by decide) (by decide)
                  replace h10 := h10.stp s272 (by decide)
                  replace h219 := h219.stp s272 (by decide)
                  replace hB := hB.stp s272 (by decide)
                  exact ⟨_, s272, h271⟩
              rintro o274 w275 a276 ha ⟨hB, h19, h193, h10, h219⟩ ⟨r277, -, -, -, -, -, -, -, r278, -⟩
              have ha := Fr.cons (d := 70) ha r277
              replace r278 : RdL o274 w275 (a276.tmps.getD 78 undef) (([x220, x206.Port] : List Int) : List Int) := r278
              generalize e280 : a276.tmps.getD 78 undef = v279 at r278
              have ha := Fr.cons (d := 78) ha e280
              refine wl_of ha ?_
              simp only [List.length_cons, List.length_nil, Nat.zero_add, Nat.reduceAdd, List.drop_succ_cons, List.drop_zero]
              obtain ⟨x281, hx281, b203⟩ := bind_some b203
              refine st_op (by decide) trivial ?_
              refine wf_cat h193 r278 hx281 (by decide) hB.keeps.size rfl rfl Try.underlying23 info2_t_int_Nb rfl (by decide) ?_
              intro o282 w283 v284 h285 s286
              replace h19 := h19.stp s286 (by decide) (by decide)
              replace r278 := r278.stp s286 (by decide)
              replace h10 := h10.stp s286 (by decide)
              replace h219 := h219.stp s286 (by decide)
              replace hB := hB.stp s286 (by decide)
              refine st_val (ex_assign rfl) (by decide) trivial ?_
              refine wpF_end (r := [(2, (.pointer (some ⟨b9, 0, none⟩))), (5, v15), (8, v284), (30, u1), (31, (.int .i64 (p1.length : Int))), (32, (.int .i64 i57)), (64, v189), (65, (.int .i64 (x183.length : Int))), (66, (.int .i64 i196))]) ⟨rfl, rfl, rfl, rfl, rfl, rfl, rfl, rfl, rfl, trivial⟩ ?_
              refine nb_norm ?_
              refine nx ?_
              refine wpC_region ?_
              refine st_val (ex_add rfl rfl (ck_in (by omega) (by omega))) (by decide) trivial ?_
              refine st_val (ex_move rfl) (by decide) trivial ?_
              refine wpF_end (r := [(2, (.pointer (some ⟨b9, 0, none⟩))), (5, v15), (8, v284), (30, u1), (31, (.int .i64 (p1.length : Int))), (32, (.int .i64 i57)), (64, v189), (65, (.int .i64 (x183.length : Int))), (66, (.int .i64 (i196 + 1)))]) ⟨rfl, rfl, rfl, rfl, rfl, rfl, rfl, rfl, rfl, trivial⟩ ?_
              refine nt_norm ?_
              have e287 := Option.some.inj b203
              subst e287
              refine to_k (r := [(2, (.pointer (some ⟨b9, 0, none⟩))), (5, v15), (8, v284), (30, u1), (31, (.int .i64 (p1.length : Int))), (32, (.int .i64 i57)), (64, v189), (65, (.int .i64 (x183.length : Int))), (66, (.int .i64 (i196 + 1)))]) ⟨rfl, rfl, rfl, rfl, rfl, rfl, rfl, rfl, rfl, trivial⟩ ?_
              intro a ha
              exact ⟨_, (by rw [← m200]; simp only [List.length_drop]; omega), i196 + 1, x281, v284, o282, n204, rfl, (by omega), ha, hB, h19, h285, h10⟩
            · have r288 := forI_done t205 l198
              refine wp_of ha ?_
              refine wpC_seq ?_
              refine wpC_region ?_
              refine st_val (ex_lss rfl rfl) (by decide) trivial ?_
              refine wpF_end (r := [(2, (.pointer (some ⟨b9, 0, none⟩))), (5, v15), (8, v192), (30, u1), (31, (.int .i64 (p1.length : Int))), (32, (.int .i64 i57)), (64, v189), (65, (.int .i64 (x183.length : Int))), (66, (.int .i64 i196)), (67, (.bool (decide (i196 < (x183.length : Int)))))]) ⟨rfl, rfl, rfl, rfl, rfl, rfl, rfl, rfl, rfl, rfl, trivial⟩ ?_
              refine nx ?_
              refine wpC_seq ?_
              refine wpC_false (congrArg (fun b => some (Value.bool b)) (decide_eq_false t205)) ?_
              refine wpC_exit ?_
              refine nt_exit ?_
              refine nt_exit ?_
              refine nb_hit ?_
              refine np_norm ?_
              refine to_k (r := [(2, (.pointer (some ⟨b9, 0, none⟩))), (5, v15), (8, v192), (30, u1), (31, (.int .i64 (p1.length : Int))), (32, (.int .i64 i57))]) ⟨rfl, rfl, rfl, rfl, rfl, rfl, trivial⟩ ?_
              intro a ha
              exact ⟨y191, v192, o194, r288, ha, hB, h19, h193, h10⟩
          · rintro a w195 ⟨y191, v192, o194, rfl, ha, hB, h19, h193, h10⟩
            dsimp only at b64
            refine ap_k ha ?_
            refine nb_norm ?_
            refine nx ?_
            refine wpC_region ?_
            refine st_val (ex_add rfl rfl (ck_in (by omega) (by omega))) (by decide) trivial ?_
            refine st_val (ex_move rfl) (by decide) trivial ?_
            refine wpF_end (r := [(2, (.pointer (some ⟨b9, 0, none⟩))), (5, v15), (8, v192), (30, u1), (31, (.int .i64 (p1.length : Int))), (32, (.int .i64 (i57 + 1)))]) ⟨rfl, rfl, rfl, rfl, rfl, rfl, trivial⟩ ?_
            refine nt_norm ?_
            have e289 := Option.some.inj b64
            subst e289
            refine to_k (r := [(2, (.pointer (some ⟨b9, 0, none⟩))), (5, v15), (8, v192), (30, u1), (31, (.int .i64 (p1.length : Int))), (32, (.int .i64 (i57 + 1)))]) ⟨rfl, rfl, rfl, rfl, rfl, rfl, trivial⟩ ?_
            intro a ha
            exact ⟨_, (by rw [← m61]; simp only [List.length_drop]; omega), i57 + 1, y191, v192, o194, n65, rfl, (by omega), ha, hB, h19, h193, h10⟩
          · exact fun _ _ h => h.elim
        · rw [if_neg (by rw [t73]; decide)] at b64
          refine wpC_skip ?_
          refine nx ?_
          refine wpC_seq ?_
          obtain ⟨x290, hx290, b64⟩ := bind_some b64
          obtain ⟨x296, hx296, b64⟩ := bind_some b64
          refine wpC_drawn (o := o55) [(2, (.pointer (some ⟨b9, 0, none⟩))), (5, v15), (8, v53), (10, (.int .i64 x67)), (11, (.int .i64 0)), (30, u1), (31, (.int .i64 (p1.length : Int))), (32, (.int .i64 i57))] [2, 5, 8, 10, 11, 30, 31, 32] [45, 46, 47, 48, 49, 50, 51, 52, 53, 54, 55, 56, 57, 58] [[], [], [1], [], [2, 3], [4], [5], [], [7], [], [8, 9], [10], [], [6, 11, 12]] [none, none, none, none, none, none, none, none, none, none, none, none, none, none] [999, 999, 999, 999, 999, 999, 999, 999, 999, 999, 999, 999, 999, 999] [0, 0, 0, 0, 0, 0, 0, 0, 0, 0, 0, 0, 0, 0] [999] [fun v _ _ => v = v53, fun v _ _ => v = (.pointer (some ⟨b9, 0 + 0, none⟩)), fun v _ _ => v = v1, fun v _ _ => v = (.int .i64 x67), fun v o w9 => ∃ vl, v = adr vl (x67.toNat * Rp.sz (List T_End)) ∧ RdL zt w vl (p0.Ends : List (List T_End)), fun v o w9 => RdL zt w v x290, fun v _ _ => v = (.int .i64 (x290.length : Int)), fun v _ _ => v = (.pointer (some ⟨b9, 0 + 2, none⟩)), fun v _ _ => v = v5, fun v _ _ => v = (.int .i64 x67), fun v o w9 => ∃ vl, v = adr vl (x67.toNat * Rp.sz Int) ∧ RdL zt w vl (p0.Inputs : List Int), fun v _ _ => v = (.int .i64 x296), fun v _ _ => v = (.int .i64 0), fun v o w9 => RdL o w9 v (([(x290.length : Int), x296, 0] : List Int) : List Int)] (fun o8 w8 => Bs oo o8 w w8 ∧ Ow w.heap.size 3 12 o8 w8 v15 y18 ∧ Ow w.heap.size 3 13 o8 w8 v53 y52 ∧ Bx w.heap.size 11 o8 w8 b9 31 [v1, v3, v5]) follows_mixed (by kernel_rfl) rfl ⟨rfl, rfl, rfl, rfl, rfl, rfl, rfl, rfl, trivial⟩ ⟨hB, h19, h54, h10⟩ ?_ ⟨st_eq _, st_eq _, st_eq _, st_eq _, fun _ _ _ _ _ _ h0 hb ⟨vl, e, h⟩ hs => ⟨vl, e, h⟩, fun _ _ _ _ _ _ h0 hb h hs => h, st_eq _, st_eq _, st_eq _, st_eq _, fun _ _ _ _ _ _ h0 hb ⟨vl, e, h⟩ hs => ⟨vl, e, h⟩, st_eq _, st_eq _, fun _ _ _ _ _ _ h0 hb h hs => h.stp hs h0.1, trivial⟩ ?_ ?_
          · rintro t9 o1 w1 o2 w2 ht9 ⟨hB, h19, h54, h10⟩ hs9
            have ht9 : t9 = 999 := by simpa using ht9
            subst ht9
            all_goals exact ⟨hB.stp hs9 (by decide), h19.stp hs9 (by decide) (by decide), h54.stp hs9 (by decide) (by decide), h10.stp hs9 (by decide)⟩
          · refine ⟨?_, ?_, ?_, ?_, ?_, ?_, ?_, ?_, ?_, ?_, ?_, ?_, ?_, ?_, trivial⟩
            · rintro o305 w306 a307 ha ⟨hB, h19, h54, h10⟩ -
              refine opS_of ha (trivial) ?_
              refine op1_val (ex_move rfl) ?_
              exact ⟨_, Stp.refl _ _ _, rfl⟩
            · rintro o308 w309 a310 ha ⟨hB, h19, h54, h10⟩ -
              refine opS_of ha (trivial) ?_
              refine op1_val (ex_field rfl Try.underlying31 rfl Try.sizeOf29) ?_
              exact ⟨_, Stp.refl _ _ _, rfl⟩
            · rintro o311 w312 a313 ha ⟨hB, h19, h54, h10⟩ ⟨r314, -⟩
              have ha := Fr.cons (d := 46) ha r314
              refine opS_of ha (trivial) ?_
              refine op1_val (ex_load1 rfl Try.isAgg29 (h10.cell rfl)) ?_
              exact ⟨_, Stp.refl _ _ _, rfl⟩
            · rintro o315 w316 a317 ha ⟨hB, h19, h54, h10⟩ -
              refine opS_of ha (trivial) ?_
              refine op1_val (ex_move rfl) ?_
              exact ⟨_, Stp.refl _ _ _, rfl⟩
            · rintro o318 w319 a320 ha ⟨hB, h19, h54, h10⟩ ⟨r321, r322, -⟩
              have ha := Fr.cons (d := 47) ha r321
              have ha := Fr.cons (d := 48) ha r322
              refine opS_of ha (trivial) ?_
              refine wd_indexR h2 hx290 rfl rfl Try.underlying29 Try.sizeOf110 ?_
              exact ⟨_, Stp.refl _ _ _, ⟨_, rfl, h2⟩⟩
            · rintro o323 w324 a325 ha ⟨hB, h19, h54, h10⟩ ⟨r326, -⟩
              obtain ⟨v327, e328, h329⟩ := r326
              have ha := Fr.cons (d := 49) ha e328
              refine opS_of ha (trivial) ?_
              refine wd_load1Z h329 hx290 hB rfl rfl Try.isAgg110 ?_
              intro c330 h331
              obtain ⟨v332, e334, h333⟩ := h331
              cases e334
              exact ⟨_, Stp.refl _ _ _, h333⟩
            · rintro o335 w336 a337 ha ⟨hB, h19, h54, h10⟩ ⟨r338, -⟩
              replace r338 : RdL zt w (a337.tmps.getD 50 undef) x290 := r338
              generalize e340 : a337.tmps.getD 50 undef = v339 at r338
              have ha := Fr.cons (d := 50) ha e340
              refine opS_of ha (trivial) ?_
              refine op1_val (ex_lenR rfl r338 Try.underlying110) ?_
              exact ⟨_, Stp.refl _ _ _, rfl⟩
            · rintro o341 w342 a343 ha ⟨hB, h19, h54, h10⟩ -
              refine opS_of ha (trivial) ?_
              refine op1_val (ex_field rfl Try.underlying31 rfl Try.sizeOf23) ?_
              exact ⟨_, Stp.refl _ _ _, rfl⟩
            · rintro o344 w345 a346 ha ⟨hB, h19, h54, h10⟩ ⟨r347, -⟩
              have ha := Fr.cons (d := 52) ha r347
              refine opS_of ha (trivial) ?_
              refine op1_val (ex_load1 rfl Try.isAgg23 (h10.cell rfl)) ?_
              exact ⟨_, Stp.refl _ _ _, rfl⟩
            · rintro o348 w349 a350 ha ⟨hB, h19, h54, h10⟩ -
              refine opS_of ha (trivial) ?_
              refine op1_val (ex_move rfl) ?_
              exact ⟨_, Stp.refl _ _ _, rfl⟩
            · rintro o351 w352 a353 ha ⟨hB, h19, h54, h10⟩ ⟨r354, r355, -⟩
              have ha := Fr.cons (d := 53) ha r354
              have ha := Fr.cons (d := 54) ha r355
              refine opS_of ha (trivial) ?_
              refine wd_indexR h6 hx296 rfl rfl Try.underlying23 Try.sizeOf3 ?_
              exact ⟨_, Stp.refl _ _ _, ⟨_, rfl, h6⟩⟩
            · rintro o356 w357 a358 ha ⟨hB, h19, h54, h10⟩ ⟨r359, -⟩
              obtain ⟨v360, e361, h362⟩ := r359
              have ha := Fr.cons (d := 55) ha e361
              refine opS_of ha (trivial) ?_
              refine wd_load1Z h362 hx296 hB rfl rfl Try.isAgg3 ?_
              intro c363 h364
              cases h364
              exact ⟨_, Stp.refl _ _ _, rfl⟩
            · rintro o365 w366 a367 ha ⟨hB, h19, h54, h10⟩ -
              refine opS_of ha (trivial) ?_
              refine op1_val (ex_move rfl) ?_
              exact ⟨_, Stp.refl _ _ _, rfl⟩
            · rintro o368 w369 a370 ha ⟨hB, h19, h54, h10⟩ ⟨r371, r372, r373, -⟩
              have ha := Fr.cons (d := 51) ha r371
              have ha := Fr.cons (d := 56) ha r372
              have ha := Fr.cons (d := 57) ha r373
              refine opS_of ha (trivial) ?_
              refine wf_litR (o := o368) (cs := [(.int .i64 (x290.length : Int)), (.int .i64 x296), (.int .i64 0)]) (xs := ([(x290.length : Int), x296, 0] : List Int)) (vs := [(0, (.int .i64 (x290.length : Int))), (1, (.int .i64 x296)), (2, (.int .i64 0))]) ⟨_, _, rfl, rfl, ⟨_, _, rfl, rfl, ⟨_, _, rfl, rfl, rfl⟩⟩⟩ rfl ⟨rfl, rfl, rfl, rfl, rfl, rfl, trivial⟩ Try.underlying23 Try.sizeOf3 Try.zeroValue3 (by decide) (fill3 rfl rfl rfl) (by simp) ?_
              intro o374 w375 v376 h377 s378 k379
              replace h19 := h19.stp s378 (by decide) (by decide)
              replace h54 := h54.stp s378 (by decide) (by decide)
              replace h10 := h10.stp s378 (by decide)
              replace hB := hB.stp s378 (by decide)
              exact ⟨_, s378, h377⟩
          rintro o380 w381 a382 ha ⟨hB, h19, h54, h10⟩ ⟨r383, -, -, -, -, -, -, -, -, -, -, -, -, r384, -⟩
          have ha := Fr.cons (d := 45) ha r383
          replace r384 : RdL o380 w381 (a382.tmps.getD 58 undef) (([(x290.length : Int), x296, 0] : List Int) : List Int) := r384
          generalize e386 : a382.tmps.getD 58 undef = v385 at r384
          have ha := Fr.cons (d := 58) ha e386
          refine wl_of ha ?_
          simp only [List.length_cons, List.length_nil, Nat.zero_add, Nat.reduceAdd, List.drop_succ_cons, List.drop_zero]
          obtain ⟨x387, hx387, b64⟩ := bind_some b64
          refine st_op (by decide) trivial ?_
          refine wf_cat h54 r384 hx387 (by decide) hB.keeps.size rfl rfl Try.underlying23 info2_t_int_Nb rfl (by decide) ?_
          intro o388 w389 v390 h391 s392
          replace h19 := h19.stp s392 (by decide) (by decide)
          replace r384 := r384.stp s392 (by decide)
          replace h10 := h10.stp s392 (by decide)
          replace hB := hB.stp s392 (by decide)
          refine st_val (ex_assign rfl) (by decide) trivial ?_
          refine wpF_end (r := [(2, (.pointer (some ⟨b9, 0, none⟩))), (5, v15), (8, v390), (10, (.int .i64 x67)), (30, u1), (31, (.int .i64 (p1.length : Int))), (32, (.int .i64 i57))]) ⟨rfl, rfl, rfl, rfl, rfl, rfl, rfl, trivial⟩ ?_
          refine nx ?_
          refine wpC_seq ?_
          refine wpC_region ?_
          refine st_val (ex_field rfl Try.underlying31 rfl Try.sizeOf29) (by decide) trivial ?_
          refine st_val (ex_load1 rfl Try.isAgg29 (h10.cell rfl)) (by decide) trivial ?_
          refine st_val (ex_move rfl) (by decide) trivial ?_
          obtain ⟨x393, hx393, b64⟩ := bind_some b64
          refine st_op (by decide) trivial ?_
          refine wf_atZ h2 hx393 hB rfl rfl Try.underlying29 Try.sizeOf110 ?_
          intro b394 f395 c396 h397 h398
          obtain ⟨v399, rfl, h400⟩ := h398
          refine st_val (ex_load1 rfl Try.isAgg110 (cell_of_cells h397)) (by decide) trivial ?_
          refine st_val (ex_lenR rfl h400 Try.underlying110) (by decide) trivial ?_
          refine st_val (ex_move rfl) (by decide) trivial ?_
          refine wpF_end (r := [(2, (.pointer (some ⟨b9, 0, none⟩))), (5, v15), (8, v390), (30, u1), (31, (.int .i64 (p1.length : Int))), (32, (.int .i64 i57)), (64, v399), (65, (.int .i64 (x393.length : Int))), (66, (.int .i64 0))]) ⟨rfl, rfl, rfl, rfl, rfl, rfl, rfl, rfl, rfl, trivial⟩ ?_
          refine nx ?_
          obtain ⟨q407, hq407, b64⟩ := bind_some b64
          refine wpC_cutN (fun a w405 => ∃ (y401 : List Int) (v402 : Value) (o404 : Tg), q407 = .inl y401 ∧ Fr a 83 [(2, (.pointer (some ⟨b9, 0, none⟩))), (5, v15), (8, v402), (30, u1), (31, (.int .i64 (p1.length : Int))), (32, (.int .i64 i57))] ∧ Bs oo o404 w w405 ∧ Ow w.heap.size 3 12 o404 w405 v15 y18 ∧ Ow w.heap.size 3 13 o404 w405 v402 y401 ∧ Bx w.heap.size 11 o404 w405 b9 31 [v1, v3, v5]) (fun _ _ => False) ?_ ?_ ?_
          · refine wpC_block ?_
            refine wpC_loop (fun (K : Nat) a w405 => ∃ (i406 : Int) (y401 : List Int) (v402 : Value) (o404 : Tg), forI (fS_isCode_s4 y18) (x393.drop i406.toNat) i406 y401 = some q407 ∧ (x393.drop i406.toNat).length = K ∧ 0 ≤ i406 ∧ Fr a 83 [(2, (.pointer (some ⟨b9, 0, none⟩))), (5, v15), (8, v402), (30, u1), (31, (.int .i64 (p1.length : Int))), (32, (.int .i64 i57)), (64, v399), (65, (.int .i64 (x393.length : Int))), (66, (.int .i64 i406))] ∧ Bs oo o404 w w405 ∧ Ow w.heap.size 3 12 o404 w405 v15 y18 ∧ Ow w.heap.size 3 13 o404 w405 v402 y401 ∧ Bx w.heap.size 11 o404 w405 b9 31 [v1, v3, v5]) _ (fun a ha => ⟨0, x387, v390, o388, hq407, rfl, Int.le_refl 0, ha.sub (r := [(2, (.pointer (some ⟨b9, 0, none⟩))), (5, v15), (8, v390), (30, u1), (31, (.int .i64 (p1.length : Int))), (32, (.int .i64 i57)), (64, v399), (65, (.int .i64 (x393.length : Int))), (66, (.int .i64 0))]) ⟨rfl, rfl, rfl, rfl, rfl, rfl, rfl, rfl, rfl, trivial⟩, hB, h19, h391, h10⟩) ?_
            rintro K411 a w405 ⟨i406, y401, v402, o404, l408, m410, z409, ha, hB, h19, h403, h10⟩
            by_cases t415 : i406 < (x393.length : Int)
            · obtain ⟨x416, q412, hx416, b413, n414⟩ := forI_cons z409 t415 l408
              have hle := h400.len_le
              dsimp only [fS_isCode_s4] at b413
              refine wp_of ha ?_
              refine wpC_seq ?_
              refine wpC_region ?_
              refine st_val (ex_lss rfl rfl) (by decide) trivial ?_
              refine wpF_end (r := [(2, (.pointer (some ⟨b9, 0, none⟩))), (5, v15), (8, v402), (30, u1), (31, (.int .i64 (p1.length : Int))), (32, (.int .i64 i57)), (64, v399), (65, (.int .i64 (x393.length : Int))), (66, (.int .i64 i406)), (67, (.bool (decide (i406 < (x393.length : Int)))))]) ⟨rfl, rfl, rfl, rfl, rfl, rfl, rfl, rfl, rfl, rfl, trivial⟩ ?_
              refine nx ?_
              refine wpC_seq ?_
              refine wpC_true (congrArg (fun b => some (Value.bool b)) (decide_eq_true t415)) ?_
              refine wpC_skip ?_
              refine nx ?_
              refine wpC_seq ?_
              refine wpC_block ?_
              refine wpC_seq ?_
              refine wpC_region ?_
              refine st_op (by decide) trivial ?_
              refine wf_atZ h400 hx416 hB rfl rfl Try.underlying110 Try.sizeOf115 ?_
              intro b417 f418 c419 h420 h421
              cases h421
              refine st_val (ex_loadA rfl Try.isAgg115 Try.sizeOf115 rfl h420) (by decide) trivial ?_
              refine st_op (by decide) trivial ?_
              refine wf_alloc (o := o404) w.heap.size 15 hB.keeps.size (cs := [(.int .i64 0), (.int .i64 0)]) Try.zeroValue115 rfl ?_
              intro o422 w423 b424 h425 s426
              replace h19 := h19.stp s426 (by decide) (by decide)
              replace h403 := h403.stp s426 (by decide) (by decide)
              replace h10 := h10.stp s426 (by decide)
              replace hB := hB.stp s426 (by decide)
              refine st_op0 trivial ?_
              refine wf_storeA h425 rfl rfl rfl info1_t_impl_End_Nb (by intro c hc; simp only [List.mem_cons, List.not_mem_nil, or_false] at hc; rcases hc with rfl | rfl <;> first | rfl) ?_
              intro w427 h429 s428
              replace h19 := h19.stp s428 (by decide) (by decide)
              replace h403 := h403.stp s428 (by decide) (by decide)
              replace h10 := h10.stp s428 (by decide)
              replace hB := hB.stp s428 (by decide)
              refine wpF_end (r := [(2, (.pointer (some ⟨b9, 0, none⟩))), (5, v15), (8, v402), (13, (.pointer (some ⟨b424, 0, none⟩))), (30, u1), (31, (.int .i64 (p1.length : Int))), (32, (.int .i64 i57)), (64, v399), (65, (.int .i64 (x393.length : Int))), (66, (.int .i64 i406))]) ⟨rfl, rfl, rfl, rfl, rfl, rfl, rfl, rfl, rfl, rfl, trivial⟩ ?_
              refine nx ?_
              obtain ⟨x430, hx430, b413⟩ := bind_some b413
              refine wpC_drawn (o := o422) [(2, (.pointer (some ⟨b9, 0, none⟩))), (5, v15), (8, v402), (13, (.pointer (some ⟨b424, 0, none⟩))), (30, u1), (31, (.int .i64 (p1.length : Int))), (32, (.int .i64 i57)), (64, v399), (65, (.int .i64 (x393.length : Int))), (66, (.int .i64 i406))] [2, 5, 8, 13, 30, 31, 32, 64, 65, 66] [70, 71, 72, 73, 74, 75, 76, 77, 78] [[], [], [], [2], [1, 3], [4], [], [6], [5, 7]] [none, none, none, none, none, none, none, none, none] [999, 999, 999, 999, 999, 999, 999, 999, 999] [0, 0, 0, 0, 12, 0, 0, 0, 0] [999] [fun v _ _ => v = v402, fun v _ _ => v = v15, fun v _ _ => v = (.pointer (some ⟨b424, 0 + 0, none⟩)), fun v _ _ => v = (.int .i64 x416.Node), fun v o w9 => ∃ vl, v = adr vl (x416.Node.toNat * Rp.sz Int) ∧ Ow w.heap.size 3 12 o w9 vl y18, fun v _ _ => v = (.int .i64 x430), fun v _ _ => v = (.pointer (some ⟨b424, 0 + 1, none⟩)), fun v _ _ => v = (.int .i64 x416.Port), fun v o w9 => RdL o w9 v (([x430, x416.Port] : List Int) : List Int)] (fun o8 w8 => Bs oo o8 w w8 ∧ Ow w.heap.size 3 12 o8 w8 v15 y18 ∧ Ow w.heap.size 3 13 o8 w8 v402 y401 ∧ Bx w.heap.size 11 o8 w8 b9 31 [v1, v3, v5] ∧ Bx w.heap.size 15 o8 w8 b424 115 [(.int .i64 x416.Node), (.int .i64 x416.Port)]) follows_mixed (by kernel_rfl) rfl ⟨rfl, rfl, rfl, rfl, rfl, rfl, rfl, rfl, rfl, rfl, trivial⟩ ⟨hB, h19, h403, h10, h429⟩ ?_ ⟨st_eq _, st_eq _, st_eq _, st_eq _, fun _ _ _ _ _ _ h0 hb ⟨vl, e, h⟩ hs => ⟨vl, e, h.stp hs h0.1 (Ne.symm hb)⟩, st_eq _, st_eq _, st_eq _, fun _ _ _ _ _ _ h0 hb h hs => h.stp hs h0.1, trivial⟩ ?_ ?_
              · rintro t9 o1 w1 o2 w2 ht9 ⟨hB, h19, h403, h10, h429⟩ hs9
                have ht9 : t9 = 999 := by simpa using ht9
                subst ht9
                all_goals exact ⟨hB.stp hs9 (by decide), h19.stp hs9 (by decide) (by decide), h403.stp hs9 (by decide) (by decide), h10.stp hs9 (by decide), h429.stp hs9 (by decide)⟩
              · refine ⟨?_, ?_, ?_, ?_, ?_, ?_, ?_, ?_, ?_, trivial⟩
                · rintro o439 w440 a441 ha ⟨hB, h19, h403, h10, h429⟩ -
                  refine opS_of ha (trivial) ?_
                  refine op1_val (ex_move rfl) ?_
                  exact ⟨_, Stp.refl _ _ _, rfl⟩
                · rintro o442 w443 a444 ha ⟨hB, h19, h403, h10, h429⟩ -
                  refine opS_of ha (trivial) ?_
                  refine op1_val (ex_move rfl) ?_
                  exact ⟨_, Stp.refl _ _ _, rfl⟩
                · rintro o445 w446 a447 ha ⟨hB, h19, h403, h10, h429⟩ -
                  refine opS_of ha (trivial) ?_
                  refine op1_val (ex_field rfl Try.underlying115 rfl Try.sizeOf3) ?_
                  exact ⟨_, Stp.refl _ _ _, rfl⟩
                · rintro o448 w449 a450 ha ⟨hB, h19, h403, h10, h429⟩ ⟨r451, -⟩
                  have ha := Fr.cons (d := 72) ha r451
                  refine opS_of ha (trivial) ?_
                  refine op1_val (ex_load1 rfl Try.isAgg3 (h429.cell rfl)) ?_
                  exact ⟨_, Stp.refl _ _ _, rfl⟩
                · rintro o452 w453 a454 ha ⟨hB, h19, h403, h10, h429⟩ ⟨r455, r456, -⟩
                  have ha := Fr.cons (d := 71) ha r455
                  have ha := Fr.cons (d := 73) ha r456
                  refine opS_of ha (trivial) ?_
                  refine wd_indexW h19 hx430 rfl rfl Try.underlying23 Try.sizeOf3 ?_
                  exact ⟨_, Stp.refl _ _ _, ⟨_, rfl, h19⟩⟩
                · rintro o457 w458 a459 ha ⟨hB, h19, h403, h10, h429⟩ ⟨r460, -⟩
                  obtain ⟨v461, e462, h463⟩ := r460
                  have ha := Fr.cons (d := 74) ha e462
                  refine opS_of ha (trivial) ?_
                  refine wd_load1W h463 hx430 rfl rfl Try.isAgg3 ?_
                  intro c464 h465
                  cases h465
                  exact ⟨_, Stp.refl _ _ _, rfl⟩
                · rintro o466 w467 a468 ha ⟨hB, h19, h403, h10, h429⟩ -
                  refine opS_of ha (trivial) ?_
                  refine op1_val (ex_field rfl Try.underlying115 rfl Try.sizeOf3) ?_
                  exact ⟨_, Stp.refl _ _ _, rfl⟩
                · rintro o469 w470 a471 ha ⟨hB, h19, h403, h10, h429⟩ ⟨r472, -⟩
                  have ha := Fr.cons (d := 76) ha r472
                  refine opS_of ha (trivial) ?_
                  refine op1_val (ex_load1 rfl Try.isAgg3 (h429.cell rfl)) ?_
                  exact ⟨_, Stp.refl _ _ _, rfl⟩
                · rintro o473 w474 a475 ha ⟨hB, h19, h403, h10, h429⟩ ⟨r476, r477, -⟩
                  have ha := Fr.cons (d := 75) ha r476
                  have ha := Fr.cons (d := 77) ha r477
                  refine opS_of ha (trivial) ?_
                  refine wf_litR (o := o473) (cs := [(.int .i64 x430), (.int .i64 x416.Port)]) (xs := ([x430, x416.Port] : List Int)) (vs := [(0, (.int .i64 x430)), (1, (.int .i64 x416.Port))]) ⟨_, _, rfl, rfl, ⟨_, _, rfl, rfl, rfl⟩⟩ rfl ⟨rfl, rfl, rfl, rfl, trivial⟩ Try.underlying23 Try.sizeOf3 Try.zeroValue3 (by decide) (fill2 rfl rfl) (by simp) ?_
                  intro o478 w479 v480 h481 s482 k483
                  replace h19 := h19.stp s482 (by decide) (by decide)
                  replace h403 := h403.stp s482 (by decide) (by decide)
                  replace h10 := h10.stp s482 (by decide)
                  replace h429 := h429.stp s482 (by decide)
                  replace hB := hB.stp s482 (by decide)
                  exact ⟨_, s482, h481⟩
              rintro o484 w485 a486 ha ⟨hB, h19, h403, h10, h429⟩ ⟨r487, -, -, -, -, -, -, -, r488, -⟩
              have ha := Fr.cons (d := 70) ha r487
              replace r488 : RdL o484 w485 (a486.tmps.getD 78 undef) (([x430, x416.Port] : List Int) : List Int) := r488
              generalize e490 : a486.tmps.getD 78 undef = v489 at r488
              have ha := Fr.cons (d := 78) ha e490
              refine wl_of ha ?_
              simp only [List.length_cons, List.length_nil, Nat.zero_add, Nat.reduceAdd, List.drop_succ_cons, List.drop_zero]
              obtain ⟨x491, hx491, b413⟩ := bind_some b413
              refine st_op (by decide) trivial ?_
              refine wf_cat h403 r488 hx491 (by decide) hB.keeps.size rfl rfl Try.underlying23 info2_t_int_Nb rfl (by decide) ?_
              intro o492 w493 v494 h495 s496
              replace h19 := h19.stp s496 (by decide) (by decide)
              replace r488 := r488.stp s496 (by decide)
              replace h10 := h10.stp s496 (by decide)
              replace h429 := h429.stp s496 (by decide)
              replace hB := hB.stp s496 (by decide)
              refine st_val (ex_assign rfl) (by decide) trivial ?_
              refine wpF_end (r := [(2, (.pointer (some ⟨b9, 0, none⟩))), (5, v15), (8, v494), (30, u1), (31, (.int .i64 (p1.length : Int))), (32, (.int .i64 i57)), (64, v399), (65, (.int .i64 (x393.length : Int))), (66, (.int .i64 i406))]) ⟨rfl, rfl, rfl, rfl, rfl, rfl, rfl, rfl, rfl, trivial⟩ ?_
              refine nb_norm ?_
              refine nx ?_
              refine wpC_region ?_
              refine st_val (ex_add rfl rfl (ck_in (by omega) (by omega))) (by decide) trivial ?_
              refine st_val (ex_move rfl) (by decide) trivial ?_
              refine wpF_end (r := [(2, (.pointer (some ⟨b9, 0, none⟩))), (5, v15), (8, v494), (30, u1), (31, (.int .i64 (p1.length : Int))), (32, (.int .i64 i57)), (64, v399), (65, (.int .i64 (x393.length : Int))), (66, (.int .i64 (i406 + 1)))]) ⟨rfl, rfl, rfl, rfl, rfl, rfl, rfl, rfl, rfl, trivial⟩ ?_
              refine nt_norm ?_
              have e497 := Option.some.inj b413
              subst e497
              refine to_k (r := [(2, (.pointer (some ⟨b9, 0, none⟩))), (5, v15), (8, v494), (30, u1), (31, (.int .i64 (p1.length : Int))), (32, (.int .i64 i57)), (64, v399), (65, (.int .i64 (x393.length : Int))), (66, (.int .i64 (i406 + 1)))]) ⟨rfl, rfl, rfl, rfl, rfl, rfl, rfl, rfl, rfl, trivial⟩ ?_
              intro a ha
              exact ⟨_, (by rw [← m410]; simp only [List.length_drop]; omega), i406 + 1, x491, v494, o492, n414, rfl, (by omega), ha, hB, h19, h495, h10⟩
            · have r498 := forI_done t415 l408
              refine wp_of ha ?_
              refine wpC_seq ?_
              refine wpC_region ?_
              refine st_val (ex_lss rfl rfl) (by decide) trivial ?_
              refine wpF_end (r := [(2, (.pointer (some ⟨b9, 0, none⟩))), (5, v15), (8, v402), (30, u1), (31, (.int .i64 (p1.length : Int))), (32, (.int .i64 i57)), (64, v399), (65, (.int .i64 (x393.length : Int))), (66, (.int .i64 i406)), (67, (.bool (decide (i406 < (x393.length : Int)))))]) ⟨rfl, rfl, rfl, rfl, rfl, rfl, rfl, rfl, rfl, rfl, trivial⟩ ?_
              refine nx ?_
              refine wpC_seq ?_
              refine wpC_false (congrArg (fun b => some (Value.bool b)) (decide_eq_false t415)) ?_
              refine wpC_exit ?_
              refine nt_exit ?_
              refine nt_exit ?_
              refine nb_hit ?_
              refine np_norm ?_
              refine to_k (r := [(2, (.pointer (some ⟨b9, 0, none⟩))), (5, v15), (8, v402), (30, u1), (31, (.int .i64 (p1.length : Int))), (32, (.int .i64 i57))]) ⟨rfl, rfl, rfl, rfl, rfl, rfl, trivial⟩ ?_
              intro a ha
              exact ⟨y401, v402, o404, r498, ha, hB, h19, h403, h10⟩
          · rintro a w405 ⟨y401, v402, o404, rfl, ha, hB, h19, h403, h10⟩
            dsimp only at b64
            refine ap_k ha ?_
            refine nb_norm ?_
            refine nx ?_
            refine wpC_region ?_
            refine st_val (ex_add rfl rfl (ck_in (by omega) (by omega))) (by decide) trivial ?_
            refine st_val (ex_move rfl) (by decide) trivial ?_
            refine wpF_end (r := [(2, (.pointer (some ⟨b9, 0, none⟩))), (5, v15), (8, v402), (30, u1), (31, (.int .i64 (p1.length : Int))), (32, (.int .i64 (i57 + 1)))]) ⟨rfl, rfl, rfl, rfl, rfl, rfl, trivial⟩ ?_
            refine nt_norm ?_
            have e499 := Option.some.inj b64
            subst e499
            refine to_k (r := [(2, (.pointer (some ⟨b9, 0, none⟩))), (5, v15), (8, v402), (30, u1), (31, (.int .i64 (p1.length : Int))), (32, (.int .i64 (i57 + 1)))]) ⟨rfl, rfl, rfl, rfl, rfl, rfl, trivial⟩ ?_
            intro a ha
            exact ⟨_, (by rw [← m61]; simp only [List.length_drop]; omega), i57 + 1, y401, v402, o404, n65, rfl, (by omega), ha, hB, h19, h403, h10⟩
          · exact fun _ _ h => h.elim
      · have r500 := forI_done t66 l59
        refine wp_of ha ?_
        refine wpC_seq ?_
        refine wpC_region ?_
        refine st_val (ex_lss rfl rfl) (by decide) trivial ?_
        refine wpF_end (r := [(2, (.pointer (some ⟨b9, 0, none⟩))), (5, v15), (8, v53), (30, u1), (31, (.int .i64 (p1.length : Int))), (32, (.int .i64 i57)), (33, (.bool (decide (i57 < (p1.length : Int)))))]) ⟨rfl, rfl, rfl, rfl, rfl, rfl, rfl, trivial⟩ ?_
        refine nx ?_
        refine wpC_seq ?_
        refine wpC_false (congrArg (fun b => some (Value.bool b)) (decide_eq_false t66)) ?_
        refine wpC_exit ?_
        refine nt_exit ?_
        refine nt_exit ?_
        refine nb_hit ?_
        refine np_norm ?_
        refine to_k (r := [(8, v53)]) ⟨rfl, trivial⟩ ?_
        intro a ha
        exact ⟨y52, v53, o55, r500, ha, hB, h54⟩
    · rintro a w56 ⟨y52, v53, o55, rfl, ha, hB, h54⟩
      dsimp only at hF
      refine ap_k ha ?_
      refine nx ?_
      refine wpC_seq ?_
      refine wpC_region ?_
      refine st_val (ex_move rfl) (by decide) trivial ?_
      refine st_val (ex_assign rfl) (by decide) trivial ?_
      refine wpF_end (r := [(4, v53)]) ⟨rfl, trivial⟩ ?_
      refine nx ?_
      refine wpC_ret ?_
      have e501 := Option.some.inj hF
      subst e501
      refine ret_post (P := Try.prog) (vs := [v53]) Try.results64 ⟨rfl, trivial⟩ ?_
      exact ⟨_, rt oo o55 w.heap.size 13 t, rfl, h54.rt hB (by decide) t, hB.keeps, rt_old _ _ _ _ _⟩
    · exact fun _ _ h => h.elim
  · exact fun _ _ h => h.elim

def fS_isFrom (fuel : Nat) (p0 : T_Network) (p1 : Int) : Option (List Int) :=
  (fS_isWalk fuel p0 p1) >>= fun x12 =>
  (fS_isCode p0 x12) >>= fun x50 =>
  some x50

def fI_codeFrom_s2 : Int → T_End → ((List Int) × (List (Int × Int))) → Option (Lp ((List Int) × (List (Int × Int))) ((List Int) × (List (Int × Int))) ((List Int) × (List Int))) := fun (i122 : Int) (x132 : T_End) (s : (List Int) × (List (Int × Int))) =>
  (mgo s.2 x132.Node) >>= fun x146 =>
  if !x146.2 then
    (mput s.2 x132.Node (s.1.length : Int)) >>= fun x148 =>
    (push s.1 x132.Node) >>= fun x158 =>
    some (.go (x158, x148))
  else
    some (.go (s.1, s.2))
def fI_codeFrom_s1 (p0 : T_Network) : ((List Int) × (List (Int × Int)) × Int) → Option (Lp ((List Int) × (List (Int × Int)) × Int) ((List Int) × (List (Int × Int)) × Int) ((List Int) × (List Int))) := fun (s : (List Int) × (List (Int × Int)) × Int) =>
  if decide (s.2.2 < (s.1.length : Int)) then
    (ix s.1 s.2.2) >>= fun x45 =>
    (ix p0.Ends x45) >>= fun x48 =>
    (forI (fI_codeFrom_s2) x48 0 (s.1, s.2.1)) >>= fun q123 =>
    match q123 with
    | .inl (y115, y118) =>
      (ck (s.2.2 + 1)) >>= fun x167 =>
      some (.go (y115, y118, x167))
    | .inr _ => none
  else
    some (.out (s.1, s.2.1, s.2.2))
def fI_codeFrom_s4 (y29 : List (Int × Int)) : Int → T_End → (List Int) → Option (Lp (List Int) (List Int) ((List Int) × (List Int))) := fun (i315 : Int) (x325 : T_End) (s : List Int) =>
  (mgo y29 x325.Node) >>= fun x339 =>
  (cat s ([x339.1, x325.Port] : List Int)) >>= fun x346 =>
  some (.go x346)
def fI_codeFrom_s5 (y29 : List (Int × Int)) : Int → T_End → (List Int) → Option (Lp (List Int) (List Int) ((List Int) × (List Int))) := fun (i471 : Int) (x481 : T_End) (s : List Int) =>
  (mgo y29 x481.Node) >>= fun x495 =>
  (cat s ([x495.1, x481.Port] : List Int)) >>= fun x502 =>
  some (.go x502)
def fI_codeFrom_s3 (p0 : T_Network) (y29 : List (Int × Int)) : Int → Int → (List Int) → Option (Lp (List Int) (List Int) ((List Int) × (List Int))) := fun (i176 : Int) (x186 : Int) (s : List Int) =>
  if decide ((p0.Ids.length : Int) > 0) then
    (ix p0.Ids x186) >>= fun x193 =>
    (ix p0.Ends x186) >>= fun x199 =>
    (ix p0.Inputs x186) >>= fun x205 =>
    (cat s ([(x199.length : Int), x205, x193] : List Int)) >>= fun x296 =>
    (ix p0.Ends x186) >>= fun x302 =>
    (forI (fI_codeFrom_s4 y29) x302 0 x296) >>= fun q316 =>
    match q316 with
    | .inl y310 =>
      some (.go y310)
    | .inr _ => none
  else
    (ix p0.Ends x186) >>= fun x355 =>
    (ix p0.Inputs x186) >>= fun x361 =>
    (cat s ([(x355.length : Int), x361, 0] : List Int)) >>= fun x452 =>
    (ix p0.Ends x186) >>= fun x458 =>
    (forI (fI_codeFrom_s5 y29) x458 0 x452) >>= fun q472 =>
    match q472 with
    | .inl y466 =>
      some (.go y466)
    | .inr _ => none
def fI_codeFrom (fuel : Nat) (p0 : T_Network) (p1 : Int) : Option ((List Int) × (List Int)) :=
  (mput ([] : List (Int × Int)) p1 0) >>= fun x22 =>
  (loopF (fI_codeFrom_s1 p0) fuel (([p1] : List Int), x22, 0)) >>= fun q34 =>
  match q34 with
  | .inl (y26, y29, y31) =>
    (forI (fI_codeFrom_s3 p0 y29) y26 0 []) >>= fun q177 =>
    match q177 with
    | .inl y171 =>
      some (y171, y26)
    | .inr _ => none
  | .inr _ => none

end Go.Proofs.Ytijaojnaamkinaa
