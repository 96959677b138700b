/- spec.roBelow, impl.childrenOf: plain functions, and the walks that show that the program computes them (printed by gen.py). -/
import Derived.Test.YtjmhjobfiemmnaaGA
import Derived.Test.YtjmhjobfiemmnaaKg
namespace Go.Proofs.Ytjmhjobfiemmnaa
open Go.RowKit
set_option linter.unusedSimpArgs false
set_option linter.unusedVariables false

theorem info2_t_int_L : Inf Try.prog 3 (.int .i64 0) 1 8 := by unfold Inf; kernel_rfl

theorem info2_t_Lint_L : Inf Try.prog 25 (.slice none 0 0) 1 24 := by unfold Inf; kernel_rfl

def fS_roBelow_s1 : Int → Int → (List (List Int)) → Option (Lp (List (List Int)) (List (List Int)) (List (List Int))) := fun (i15 : Int) (x25 : Int) (s : List (List Int)) =>
  if decide (x25 ≥ 0) then
    (ix s x25) >>= fun x32 =>
    (push x32 i15) >>= fun x52 =>
    (ix s x25) >>= fun x58 =>
    (st s x25 x52) >>= fun x68 =>
    some (.go x68)
  else
    some (.go s)
def fS_roBelow (p0 : List Int) : Option (List (List Int)) :=
  (mk ([] : List Int) (p0.length : Int)) >>= fun x1 =>
  (forI (fS_roBelow_s1) p0 0 x1) >>= fun q16 =>
  match q16 with
  | .inl y9 =>
    some y9
  | .inr _ => none

def pS_roBelow (oo : Tg) (t : Nat) (w : World) (r : List (List Int)) : Ending → World → Prop := fun e w' => ∃ (v0 : Value) (g0 : List Hv) (o' : Tg), e = .returned (v0) ∧ Ow w.heap.size 25 t o' w' v0 g0 ∧ Rws w.heap.size 3 (t + 1) o' w' g0 r ∧ Keeps w w' ∧ ∀ b, b < w.heap.size → o' b = oo b
set_option maxRecDepth 100000 in
set_option maxHeartbeats 2000000 in
theorem cS_roBelow (w : World) (oo : Tg) (t : Nat) (ht : 2 ≤ t) (u0 : Value) (p0 : List Int) (g0 : RdL zt w u0 p0) (r : List (List Int)) (hF : fS_roBelow p0 = some r) :
    Calls Try.prog 33 #[u0] w (pS_roBelow oo t w r) := by
  unfold fS_roBelow at hF
  have hB : Bs oo (col oo) w w := Bs.start _ _
  refine calls_start (n := 30) (vs := [u0]) Try.func33 rfl rfl ?_
  generalize col oo = o at *
  refine wpC_seq ?_
  refine wpC_region ?_
  refine st_val (ex_assign rfl) (by decide) trivial ?_
  refine wpF_end (r := [(0, u0)]) ⟨rfl, trivial⟩ ?_
  refine nx ?_
  refine wpC_seq ?_
  refine wpC_region ?_
  refine st_val (ex_move rfl) (by decide) trivial ?_
  refine st_val (ex_lenR rfl g0 Try.underlying25) (by decide) trivial ?_
  obtain ⟨x1, hx1, hF⟩ := bind_some hF
  obtain ⟨h8, h7⟩ := mk_hv hx1 w.heap.size 3 12 o w
  refine st_op (by decide) trivial ?_
  refine wf_make (o := o) w.heap.size 11 hB.keeps.size h8 rfl rfl Try.underlying22 info2_t_Lint_L rfl (by decide) ?_
  intro o2 w3 v4 h5 s6
  replace h7 := h7.stp s6 (by decide) (by decide)
  replace hB := hB.stp s6 (by decide)
  refine st_val (ex_assign rfl) (by decide) trivial ?_
  refine wpF_end (r := [(0, u0), (3, v4)]) ⟨rfl, rfl, trivial⟩ ?_
  refine nx ?_
  refine wpC_seq ?_
  refine wpC_seq ?_
  refine wpC_region ?_
  refine st_val (ex_move rfl) (by decide) trivial ?_
  refine st_val (ex_lenR rfl g0 Try.underlying25) (by decide) trivial ?_
  refine st_val (ex_move rfl) (by decide) trivial ?_
  refine wpF_end (r := [(3, v4), (9, u0), (10, (.int .i64 (p0.length : Int))), (11, (.int .i64 0))]) ⟨rfl, rfl, rfl, rfl, trivial⟩ ?_
  refine nx ?_
  obtain ⟨q16, hq16, hF⟩ := bind_some hF
  refine wpC_cutN (fun a w14 => ∃ (y9 : List (List Int)) (g12 : List Hv) (o13 : Tg), q16 = .inl y9 ∧ Fr a 30 [(3, v4)] ∧ Bs oo o13 w w14 ∧ Ow w.heap.size 25 11 o13 w14 v4 g12 ∧ Rws w.heap.size 3 12 o13 w14 g12 y9) (fun _ _ => False) ?_ ?_ ?_
  · refine wpC_block ?_
    refine wpC_loop (fun (K : Nat) a w14 => ∃ (i15 : Int) (y9 : List (List Int)) (g12 : List Hv) (o13 : Tg), forI (fS_roBelow_s1) (p0.drop i15.toNat) i15 y9 = some q16 ∧ (p0.drop i15.toNat).length = K ∧ 0 ≤ i15 ∧ Fr a 30 [(3, v4), (9, u0), (10, (.int .i64 (p0.length : Int))), (11, (.int .i64 i15))] ∧ Bs oo o13 w w14 ∧ Ow w.heap.size 25 11 o13 w14 v4 g12 ∧ Rws w.heap.size 3 12 o13 w14 g12 y9) _ (fun a ha => ⟨0, x1, (List.replicate (p0.length : Int).toNat ⟨.slice none 0 0⟩), o2, hq16, rfl, Int.le_refl 0, ha.sub (r := [(3, v4), (9, u0), (10, (.int .i64 (p0.length : Int))), (11, (.int .i64 0))]) ⟨rfl, rfl, rfl, rfl, trivial⟩, hB, h5, h7⟩) ?_
    rintro K20 a w14 ⟨i15, y9, g12, o13, l17, m19, z18, ha, hB, h10, h11⟩
    by_cases t24 : i15 < (p0.length : Int)
    · obtain ⟨x25, q21, hx25, b22, n23⟩ := forI_cons z18 t24 l17
      have hle := g0.len_le
      dsimp only [fS_roBelow_s1] at b22
      refine wp_of ha ?_
      refine wpC_seq ?_
      refine wpC_region ?_
      refine st_val (ex_lss rfl rfl) (by decide) trivial ?_
      refine wpF_end (r := [(3, v4), (9, u0), (10, (.int .i64 (p0.length : Int))), (11, (.int .i64 i15)), (12, (.bool (decide (i15 < (p0.length : Int)))))]) ⟨rfl, rfl, rfl, rfl, rfl, trivial⟩ ?_
      refine nx ?_
      refine wpC_seq ?_
      refine wpC_true (congrArg (fun b => some (Value.bool b)) (decide_eq_true t24)) ?_
      refine wpC_skip ?_
      refine nx ?_
      refine wpC_seq ?_
      refine wpC_block ?_
      refine wpC_seq ?_
      refine wpC_region ?_
      refine st_val (ex_move rfl) (by decide) trivial ?_
      refine st_op (by decide) trivial ?_
      refine wf_atZ g0 hx25 hB rfl rfl Try.underlying25 Try.sizeOf3 ?_
      intro b26 f27 c28 h29 h30
      cases h30
      refine st_val (ex_load1 rfl Try.isAgg3 (cell_of_cells h29)) (by decide) trivial ?_
      refine st_val (ex_assign rfl) (by decide) trivial ?_
      refine st_val (ex_assign rfl) (by decide) trivial ?_
      refine wpF_end (r := [(3, v4), (4, (.int .i64 i15)), (5, (.int .i64 x25)), (9, u0), (10, (.int .i64 (p0.length : Int))), (11, (.int .i64 i15))]) ⟨rfl, rfl, rfl, rfl, rfl, rfl, trivial⟩ ?_
      refine nx ?_
      refine wpC_seq ?_
      refine wpC_region ?_
      refine st_val (ex_move rfl) (by decide) trivial ?_
      refine st_val (ex_geq rfl rfl) (by decide) trivial ?_
      refine wpF_end (r := [(3, v4), (4, (.int .i64 i15)), (5, (.int .i64 x25)), (9, u0), (10, (.int .i64 (p0.length : Int))), (11, (.int .i64 i15)), (17, (.bool (decide (x25 ≥ 0))))]) ⟨rfl, rfl, rfl, rfl, rfl, rfl, rfl, trivial⟩ ?_
      refine nx ?_
      refine wpC_cond rfl (fun t31 => ?_) (fun t31 => ?_)
      · rw [if_pos t31] at b22
        refine wpC_region ?_
        refine st_val (ex_move rfl) (by decide) trivial ?_
        refine st_val (ex_move rfl) (by decide) trivial ?_
        refine st_val (ex_move rfl) (by decide) trivial ?_
        refine st_val (ex_move rfl) (by decide) trivial ?_
        obtain ⟨x32, hx32, b22⟩ := bind_some b22
        obtain ⟨v33, h34, h35, h36⟩ := h11.ix hx32
        refine st_op (by decide) trivial ?_
        refine wf_atW h10 h34 rfl rfl Try.underlying22 Try.sizeOf25 ?_
        intro b37 f38 c39 h40 h41
        obtain ⟨rfl, -⟩ := h41
        refine st_val (ex_load1 rfl Try.isAgg25 (cell_of_cells h40)) (by decide) trivial ?_
        refine st_val (ex_move rfl) (by decide) trivial ?_
        refine st_op (by decide) trivial ?_
        refine wf_litR (o := o13) (cs := [(.int .i64 i15)]) (xs := ([i15] : List Int)) (vs := [(0, (.int .i64 i15))]) ⟨_, _, rfl, rfl, rfl⟩ rfl ⟨rfl, rfl, trivial⟩ Try.underlying25 Try.sizeOf3 Try.zeroValue3 (by decide) (fill1 rfl) (by simp) ?_
        intro o42 w43 v44 h45 s46 k47
        replace h10 := h10.stp s46 (by decide) (by decide)
        replace h11 := h11.stp s46 (by decide) (by decide)
        replace hB := hB.stp s46 (by decide)
        obtain ⟨h48, h49, r50⟩ := h11.take h35 h36 (by decide) 13
        replace h10 := h10.rc r50 (by decide) (by decide)
        replace h45 := h45.rc r50 (by decide)
        replace hB := hB.rc r50 (by decide)
        generalize one v33 13 o42 = o51 at *
        clear h11
        obtain ⟨x52, hx52, b22⟩ := bind_some b22
        refine st_op (by decide) trivial ?_
        refine wf_cat h48 h45 (push_cat hx52) (by decide) hB.keeps.size rfl rfl Try.underlying25 info2_t_int_L rfl (by decide) ?_
        intro o53 w54 v55 h56 s57
        replace h10 := h10.stp s57 (by decide) (by decide)
        replace h49 := h49.stp s57 (by decide) (by decide)
        replace h45 := h45.stp s57 (by decide)
        replace hB := hB.stp s57 (by decide)
        obtain ⟨x58, hx58, b22⟩ := bind_some b22
        obtain ⟨v64, h65⟩ := h49.ix hx58
        refine st_op (by decide) trivial ?_
        refine wf_atP h10 h65 rfl rfl Try.underlying22 Try.sizeOf25 ?_
        intro b59 c60 h61 h62 h63
        obtain ⟨x68, hx68, b22⟩ := bind_some b22
        obtain ⟨h69, h70⟩ := h49.stV hx68 v55
        refine st_op0 trivial ?_
        refine wf_storeW h10 h61 h69 (rd_hv h56) (by decide) rfl rfl rfl Try.sizeOf25 h56.cells1 ?_
        intro w66 h71 s67
        replace h49 := h49.stp s67 (by decide) (by decide)
        replace h45 := h45.stp s67 (by decide)
        replace h56 := h56.stp s67 (by decide) (by decide)
        replace hB := hB.stp s67 (by decide)
        have h72 := RwH.put (i := x25.toNat) h49 h56 (by decide) (by decide)
        rw [← h70] at h72
        have r73 := mrg_rc 13 12 o53
        clear h49 h56
        replace h71 := h71.rc r73 (by decide) (by decide)
        replace h45 := h45.rc r73 (by decide)
        replace hB := hB.rc r73 (by decide)
        generalize mrg 13 12 o53 = o75 at *
        refine wpF_end (r := [(3, v4), (9, u0), (10, (.int .i64 (p0.length : Int))), (11, (.int .i64 i15))]) ⟨rfl, rfl, rfl, rfl, trivial⟩ ?_
        refine nb_norm ?_
        refine nx ?_
        refine wpC_region ?_
        refine st_val (ex_add rfl rfl (ck_in (by omega) (by omega))) (by decide) trivial ?_
        refine st_val (ex_move rfl) (by decide) trivial ?_
        refine wpF_end (r := [(3, v4), (9, u0), (10, (.int .i64 (p0.length : Int))), (11, (.int .i64 (i15 + 1)))]) ⟨rfl, rfl, rfl, rfl, trivial⟩ ?_
        refine nt_norm ?_
        have e76 := Option.some.inj b22
        subst e76
        refine to_k (r := [(3, v4), (9, u0), (10, (.int .i64 (p0.length : Int))), (11, (.int .i64 (i15 + 1)))]) ⟨rfl, rfl, rfl, rfl, trivial⟩ ?_
        intro a ha
        exact ⟨_, (by rw [← m19]; simp only [List.length_drop]; omega), i15 + 1, x68, (g12.set x25.toNat ⟨v55⟩), o75, n23, rfl, (by omega), ha, hB, h71, h72⟩
      · rw [if_neg (by rw [t31]; decide)] at b22
        refine wpC_skip ?_
        refine nb_norm ?_
        refine nx ?_
        refine wpC_region ?_
        refine st_val (ex_add rfl rfl (ck_in (by omega) (by omega))) (by decide) trivial ?_
        refine st_val (ex_move rfl) (by decide) trivial ?_
        refine wpF_end (r := [(3, v4), (9, u0), (10, (.int .i64 (p0.length : Int))), (11, (.int .i64 (i15 + 1)))]) ⟨rfl, rfl, rfl, rfl, trivial⟩ ?_
        refine nt_norm ?_
        have e77 := Option.some.inj b22
        subst e77
        refine to_k (r := [(3, v4), (9, u0), (10, (.int .i64 (p0.length : Int))), (11, (.int .i64 (i15 + 1)))]) ⟨rfl, rfl, rfl, rfl, trivial⟩ ?_
        intro a ha
        exact ⟨_, (by rw [← m19]; simp only [List.length_drop]; omega), i15 + 1, y9, g12, o13, n23, rfl, (by omega), ha, hB, h10, h11⟩
    · have r78 := forI_done t24 l17
      refine wp_of ha ?_
      refine wpC_seq ?_
      refine wpC_region ?_
      refine st_val (ex_lss rfl rfl) (by decide) trivial ?_
      refine wpF_end (r := [(3, v4), (9, u0), (10, (.int .i64 (p0.length : Int))), (11, (.int .i64 i15)), (12, (.bool (decide (i15 < (p0.length : Int)))))]) ⟨rfl, rfl, rfl, rfl, rfl, trivial⟩ ?_
      refine nx ?_
      refine wpC_seq ?_
      refine wpC_false (congrArg (fun b => some (Value.bool b)) (decide_eq_false t24)) ?_
      refine wpC_exit ?_
      refine nt_exit ?_
      refine nt_exit ?_
      refine nb_hit ?_
      refine np_norm ?_
      refine to_k (r := [(3, v4)]) ⟨rfl, trivial⟩ ?_
      intro a ha
      exact ⟨y9, g12, o13, r78, ha, hB, h10, h11⟩
  · rintro a w14 ⟨y9, g12, o13, rfl, ha, hB, h10, h11⟩
    dsimp only at hF
    refine ap_k ha ?_
    refine nx ?_
    refine wpC_seq ?_
    refine wpC_region ?_
    refine st_val (ex_move rfl) (by decide) trivial ?_
    refine st_val (ex_assign rfl) (by decide) trivial ?_
    refine wpF_end (r := [(2, v4)]) ⟨rfl, trivial⟩ ?_
    refine nx ?_
    refine wpC_ret ?_
    have e79 := Option.some.inj hF
    subst e79
    refine ret_post (P := Try.prog) (vs := [v4]) Try.results33 ⟨rfl, trivial⟩ ?_
    exact ⟨_, g12, rt2 oo o13 w.heap.size 11 12 t, rfl, h10.rt2 hB (by decide) (by decide) t, h11.rt2 hB (by decide) (by decide) (by decide) t, hB.keeps, rt2_old _ _ _ _ _ _⟩
  · exact fun _ _ h => h.elim

def fI_childrenOf_s1 : Int → Int → (List (List Int)) → Option (Lp (List (List Int)) (List (List Int)) (List (List Int))) := fun (i15 : Int) (x25 : Int) (s : List (List Int)) =>
  if decide (x25 ≥ 0) then
    (ix s x25) >>= fun x32 =>
    (push x32 i15) >>= fun x52 =>
    (ix s x25) >>= fun x58 =>
    (st s x25 x52) >>= fun x68 =>
    some (.go x68)
  else
    some (.go s)
def fI_childrenOf (p0 : List Int) : Option (List (List Int)) :=
  (mk ([] : List Int) (p0.length : Int)) >>= fun x1 =>
  (forI (fI_childrenOf_s1) p0 0 x1) >>= fun q16 =>
  match q16 with
  | .inl y9 =>
    some y9
  | .inr _ => none

def pI_childrenOf (oo : Tg) (t : Nat) (w : World) (r : List (List Int)) : Ending → World → Prop := fun e w' => ∃ (v0 : Value) (g0 : List Hv) (o' : Tg), e = .returned (v0) ∧ Ow w.heap.size 25 t o' w' v0 g0 ∧ Rws w.heap.size 3 (t + 1) o' w' g0 r ∧ Keeps w w' ∧ ∀ b, b < w.heap.size → o' b = oo b
set_option maxRecDepth 100000 in
set_option maxHeartbeats 2000000 in
theorem cI_childrenOf (w : World) (oo : Tg) (t : Nat) (ht : 2 ≤ t) (u0 : Value) (p0 : List Int) (g0 : RdL zt w u0 p0) (r : List (List Int)) (hF : fI_childrenOf p0 = some r) :
    Calls Try.prog 24 #[u0] w (pI_childrenOf oo t w r) := by
  unfold fI_childrenOf at hF
  have hB : Bs oo (col oo) w w := Bs.start _ _
  refine calls_start (n := 30) (vs := [u0]) Try.func24 rfl rfl ?_
  generalize col oo = o at *
  refine wpC_seq ?_
  refine wpC_region ?_
  refine st_val (ex_assign rfl) (by decide) trivial ?_
  refine wpF_end (r := [(0, u0)]) ⟨rfl, trivial⟩ ?_
  refine nx ?_
  refine wpC_seq ?_
  refine wpC_region ?_
  refine st_val (ex_move rfl) (by decide) trivial ?_
  refine st_val (ex_lenR rfl g0 Try.underlying25) (by decide) trivial ?_
  obtain ⟨x1, hx1, hF⟩ := bind_some hF
  obtain ⟨h8, h7⟩ := mk_hv hx1 w.heap.size 3 12 o w
  refine st_op (by decide) trivial ?_
  refine wf_make (o := o) w.heap.size 11 hB.keeps.size h8 rfl rfl Try.underlying22 info2_t_Lint_L rfl (by decide) ?_
  intro o2 w3 v4 h5 s6
  replace h7 := h7.stp s6 (by decide) (by decide)
  replace hB := hB.stp s6 (by decide)
  refine st_val (ex_assign rfl) (by decide) trivial ?_
  refine wpF_end (r := [(0, u0), (3, v4)]) ⟨rfl, rfl, trivial⟩ ?_
  refine nx ?_
  refine wpC_seq ?_
  refine wpC_seq ?_
  refine wpC_region ?_
  refine st_val (ex_move rfl) (by decide) trivial ?_
  refine st_val (ex_lenR rfl g0 Try.underlying25) (by decide) trivial ?_
  refine st_val (ex_move rfl) (by decide) trivial ?_
  refine wpF_end (r := [(3, v4), (9, u0), (10, (.int .i64 (p0.length : Int))), (11, (.int .i64 0))]) ⟨rfl, rfl, rfl, rfl, trivial⟩ ?_
  refine nx ?_
  obtain ⟨q16, hq16, hF⟩ := bind_some hF
  refine wpC_cutN (fun a w14 => ∃ (y9 : List (List Int)) (g12 : List Hv) (o13 : Tg), q16 = .inl y9 ∧ Fr a 30 [(3, v4)] ∧ Bs oo o13 w w14 ∧ Ow w.heap.size 25 11 o13 w14 v4 g12 ∧ Rws w.heap.size 3 12 o13 w14 g12 y9) (fun _ _ => False) ?_ ?_ ?_
  · refine wpC_block ?_
    refine wpC_loop (fun (K : Nat) a w14 => ∃ (i15 : Int) (y9 : List (List Int)) (g12 : List Hv) (o13 : Tg), forI (fI_childrenOf_s1) (p0.drop i15.toNat) i15 y9 = some q16 ∧ (p0.drop i15.toNat).length = K ∧ 0 ≤ i15 ∧ Fr a 30 [(3, v4), (9, u0), (10, (.int .i64 (p0.length : Int))), (11, (.int .i64 i15))] ∧ Bs oo o13 w w14 ∧ Ow w.heap.size 25 11 o13 w14 v4 g12 ∧ Rws w.heap.size 3 12 o13 w14 g12 y9) _ (fun a ha => ⟨0, x1, (List.replicate (p0.length : Int).toNat ⟨.slice none 0 0⟩), o2, hq16, rfl, Int.le_refl 0, ha.sub (r := [(3, v4), (9, u0), (10, (.int .i64 (p0.length : Int))), (11, (.int .i64 0))]) ⟨rfl, rfl, rfl, rfl, trivial⟩, hB, h5, h7⟩) ?_
    rintro K20 a w14 ⟨i15, y9, g12, o13, l17, m19, z18, ha, hB, h10, h11⟩
    by_cases t24 : i15 < (p0.length : Int)
    · obtain ⟨x25, q21, hx25, b22, n23⟩ := forI_cons z18 t24 l17
      have hle := g0.len_le
      dsimp only [fI_childrenOf_s1] at b22
      refine wp_of ha ?_
      refine wpC_seq ?_
      refine wpC_region ?_
      refine st_val (ex_lss rfl rfl) (by decide) trivial ?_
      refine wpF_end (r := [(3, v4), (9, u0), (10, (.int .i64 (p0.length : Int))), (11, (.int .i64 i15)), (12, (.bool (decide (i15 < (p0.length : Int)))))]) ⟨rfl, rfl, rfl, rfl, rfl, trivial⟩ ?_
      refine nx ?_
      refine wpC_seq ?_
      refine wpC_true (congrArg (fun b => some (Value.bool b)) (decide_eq_true t24)) ?_
      refine wpC_skip ?_
      refine nx ?_
      refine wpC_seq ?_
      refine wpC_block ?_
      refine wpC_seq ?_
      refine wpC_region ?_
      refine st_val (ex_move rfl) (by decide) trivial ?_
      refine st_op (by decide) trivial ?_
      refine wf_atZ g0 hx25 hB rfl rfl Try.underlying25 Try.sizeOf3 ?_
      intro b26 f27 c28 h29 h30
      cases h30
      refine st_val (ex_load1 rfl Try.isAgg3 (cell_of_cells h29)) (by decide) trivial ?_
      refine st_val (ex_assign rfl) (by decide) trivial ?_
      refine st_val (ex_assign rfl) (by decide) trivial ?_
      refine wpF_end (r := [(3, v4), (4, (.int .i64 i15)), (5, (.int .i64 x25)), (9, u0), (10, (.int .i64 (p0.length : Int))), (11, (.int .i64 i15))]) ⟨rfl, rfl, rfl, rfl, rfl, rfl, trivial⟩ ?_
      refine nx ?_
      refine wpC_seq ?_
      refine wpC_region ?_
      refine st_val (ex_move rfl) (by decide) trivial ?_
      refine st_val (ex_geq rfl rfl) (by decide) trivial ?_
      refine wpF_end (r := [(3, v4), (4, (.int .i64 i15)), (5, (.int .i64 x25)), (9, u0), (10, (.int .i64 (p0.length : Int))), (11, (.int .i64 i15)), (17, (.bool (decide (x25 ≥ 0))))]) ⟨rfl, rfl, rfl, rfl, rfl, rfl, rfl, trivial⟩ ?_
      refine nx ?_
      refine wpC_cond rfl (fun t31 => ?_) (fun t31 => ?_)
      · rw [if_pos t31] at b22
        refine wpC_region ?_
        refine st_val (ex_move rfl) (by decide) trivial ?_
        refine st_val (ex_move rfl) (by decide) trivial ?_
        refine st_val (ex_move rfl) (by decide) trivial ?_
        refine st_val (ex_move rfl) (by decide) trivial ?_
        obtain ⟨x32, hx32, b22⟩ := bind_some b22
        obtain ⟨v33, h34, h35, h36⟩ := h11.ix hx32
        refine st_op (by decide) trivial ?_
        refine wf_atW h10 h34 rfl rfl Try.underlying22 Try.sizeOf25 ?_
        intro b37 f38 c39 h40 h41
        obtain ⟨rfl, -⟩ := h41
        refine st_val (ex_load1 rfl Try.isAgg25 (cell_of_cells h40)) (by decide) trivial ?_
        refine st_val (ex_move rfl) (by decide) trivial ?_
        refine st_op (by decide) trivial ?_
        refine wf_litR (o := o13) (cs := [(.int .i64 i15)]) (xs := ([i15] : List Int)) (vs := [(0, (.int .i64 i15))]) ⟨_, _, rfl, rfl, rfl⟩ rfl ⟨rfl, rfl, trivial⟩ Try.underlying25 Try.sizeOf3 Try.zeroValue3 (by decide) (fill1 rfl) (by simp) ?_
        intro o42 w43 v44 h45 s46 k47
        replace h10 := h10.stp s46 (by decide) (by decide)
        replace h11 := h11.stp s46 (by decide) (by decide)
        replace hB := hB.stp s46 (by decide)
        obtain ⟨h48, h49, r50⟩ := h11.take h35 h36 (by decide) 13
        replace h10 := h10.rc r50 (by decide) (by decide)
        replace h45 := h45.rc r50 (by decide)
        replace hB := hB.rc r50 (by decide)
        generalize one v33 13 o42 = o51 at *
        clear h11
        obtain ⟨x52, hx52, b22⟩ := bind_some b22
        refine st_op (by decide) trivial ?_
        refine wf_cat h48 h45 (push_cat hx52) (by decide) hB.keeps.size rfl rfl Try.underlying25 info2_t_int_L rfl (by decide) ?_
        intro o53 w54 v55 h56 s57
        replace h10 := h10.stp s57 (by decide) (by decide)
        replace h49 := h49.stp s57 (by decide) (by decide)
        replace h45 := h45.stp s57 (by decide)
        replace hB := hB.stp s57 (by decide)
        obtain ⟨x58, hx58, b22⟩ := bind_some b22
        obtain ⟨v64, h65⟩ := h49.ix hx58
        refine st_op (by decide) trivial ?_
        refine wf_atP h10 h65 rfl rfl Try.underlying22 Try.sizeOf25 ?_
        intro b59 c60 h61 h62 h63
        obtain ⟨x68, hx68, b22⟩ := bind_some b22
        obtain ⟨h69, h70⟩ := h49.stV hx68 v55
        refine st_op0 trivial ?_
        refine wf_storeW h10 h61 h69 (rd_hv h56) (by decide) rfl rfl rfl Try.sizeOf25 h56.cells1 ?_
        intro w66 h71 s67
        replace h49 := h49.stp s67 (by decide) (by decide)
        replace h45 := h45.stp s67 (by decide)
        replace h56 := h56.stp s67 (by decide) (by decide)
        replace hB := hB.stp s67 (by decide)
        have h72 := RwH.put (i := x25.toNat) h49 h56 (by decide) (by decide)
        rw [← h70] at h72
        have r73 := mrg_rc 13 12 o53
        clear h49 h56
        replace h71 := h71.rc r73 (by decide) (by decide)
        replace h45 := h45.rc r73 (by decide)
        replace hB := hB.rc r73 (by decide)
        generalize mrg 13 12 o53 = o75 at *
        refine wpF_end (r := [(3, v4), (9, u0), (10, (.int .i64 (p0.length : Int))), (11, (.int .i64 i15))]) ⟨rfl, rfl, rfl, rfl, trivial⟩ ?_
        refine nb_norm ?_
        refine nx ?_
        refine wpC_region ?_
        refine st_val (ex_add rfl rfl (ck_in (by omega) (by omega))) (by decide) trivial ?_
        refine st_val (ex_move rfl) (by decide) trivial ?_
        refine wpF_end (r := [(3, v4), (9, u0), (10, (.int .i64 (p0.length : Int))), (11, (.int .i64 (i15 + 1)))]) ⟨rfl, rfl, rfl, rfl, trivial⟩ ?_
        refine nt_norm ?_
        have e76 := Option.some.inj b22
        subst e76
        refine to_k (r := [(3, v4), (9, u0), (10, (.int .i64 (p0.length : Int))), (11, (.int .i64 (i15 + 1)))]) ⟨rfl, rfl, rfl, rfl, trivial⟩ ?_
        intro a ha
        exact ⟨_, (by rw [← m19]; simp only [List.length_drop]; omega), i15 + 1, x68, (g12.set x25.toNat ⟨v55⟩), o75, n23, rfl, (by omega), ha, hB, h71, h72⟩
      · rw [if_neg (by rw [t31]; decide)] at b22
        refine wpC_skip ?_
        refine nb_norm ?_
        refine nx ?_
        refine wpC_region ?_
        refine st_val (ex_add rfl rfl (ck_in (by omega) (by omega))) (by decide) trivial ?_
        refine st_val (ex_move rfl) (by decide) trivial ?_
        refine wpF_end (r := [(3, v4), (9, u0), (10, (.int .i64 (p0.length : Int))), (11, (.int .i64 (i15 + 1)))]) ⟨rfl, rfl, rfl, rfl, trivial⟩ ?_
        refine nt_norm ?_
        have e77 := Option.some.inj b22
        subst e77
        refine to_k (r := [(3, v4), (9, u0), (10, (.int .i64 (p0.length : Int))), (11, (.int .i64 (i15 + 1)))]) ⟨rfl, rfl, rfl, rfl, trivial⟩ ?_
        intro a ha
        exact ⟨_, (by rw [← m19]; simp only [List.length_drop]; omega), i15 + 1, y9, g12, o13, n23, rfl, (by omega), ha, hB, h10, h11⟩
    · have r78 := forI_done t24 l17
      refine wp_of ha ?_
      refine wpC_seq ?_
      refine wpC_region ?_
      refine st_val (ex_lss rfl rfl) (by decide) trivial ?_
      refine wpF_end (r := [(3, v4), (9, u0), (10, (.int .i64 (p0.length : Int))), (11, (.int .i64 i15)), (12, (.bool (decide (i15 < (p0.length : Int)))))]) ⟨rfl, rfl, rfl, rfl, rfl, trivial⟩ ?_
      refine nx ?_
      refine wpC_seq ?_
      refine wpC_false (congrArg (fun b => some (Value.bool b)) (decide_eq_false t24)) ?_
      refine wpC_exit ?_
      refine nt_exit ?_
      refine nt_exit ?_
      refine nb_hit ?_
      refine np_norm ?_
      refine to_k (r := [(3, v4)]) ⟨rfl, trivial⟩ ?_
      intro a ha
      exact ⟨y9, g12, o13, r78, ha, hB, h10, h11⟩
  · rintro a w14 ⟨y9, g12, o13, rfl, ha, hB, h10, h11⟩
    dsimp only at hF
    refine ap_k ha ?_
    refine nx ?_
    refine wpC_seq ?_
    refine wpC_region ?_
    refine st_val (ex_move rfl) (by decide) trivial ?_
    refine st_val (ex_assign rfl) (by decide) trivial ?_
    refine wpF_end (r := [(2, v4)]) ⟨rfl, trivial⟩ ?_
    refine nx ?_
    refine wpC_ret ?_
    have e79 := Option.some.inj hF
    subst e79
    refine ret_post (P := Try.prog) (vs := [v4]) Try.results24 ⟨rfl, trivial⟩ ?_
    exact ⟨_, g12, rt2 oo o13 w.heap.size 11 12 t, rfl, h10.rt2 hB (by decide) (by decide) t, h11.rt2 hB (by decide) (by decide) (by decide) t, hB.keeps, rt2_old _ _ _ _ _ _⟩
  · exact fun _ _ h => h.elim

end Go.Proofs.Ytjmhjobfiemmnaa
