/- laws.szIntSS, laws.toIntSS, laws.eqIntSS, laws.szProblem, laws.toProblem, laws.eqProblem, laws.FnExactIsLabeling: plain functions, and the walks that show that the program computes them (printed by gen.py). -/
import Derived.Test.YtijaojnaamkinaaGLb
import Derived.Test.YtijaojnaamkinaaGNz
namespace Go.Proofs.Ytijaojnaamkinaa
open Go.RowKit
set_option linter.unusedSimpArgs false
set_option linter.unusedVariables false

theorem info2_t_Lint_LLb : Inf Try.prog 23 (.slice none 0 0) 1 24 := by unfold Inf; kernel_rfl

theorem info1_t_impl_Network_LLb : (Try.prog.info? 31).map (·.size) = some 3 := by kernel_rfl

theorem info1_t_impl_Problem_LLb : (Try.prog.info? 64).map (·.size) = some 4 := by kernel_rfl

def fL_szIntSS_s1 (p0 : List (List Int)) : (Int × Int) → Option (Lp (Int × Int) (Int × Int) Int) := fun (s : Int × Int) =>
  if decide (s.2 < (p0.length : Int)) then
    (ix p0 s.2) >>= fun x19 =>
    (fL_szIntS x19 s.1) >>= fun x27 =>
    if decide (x27 < 0) then
      some (.ret (-1))
    else
      (ck (s.2 + 1)) >>= fun x35 =>
      some (.go (x27, x35))
  else
    some (.out (s.1, s.2))
def fL_szIntSS (fuel : Nat) (p0 : List (List Int)) (p1 : Int) : Option Int :=
  (ck (p1 - (p0.length : Int))) >>= fun x1 =>
  if decide (x1 < 0) then
    some (-1)
  else
    (loopF (fL_szIntSS_s1 p0) fuel (x1, 0)) >>= fun q8 =>
    match q8 with
    | .inl (y4, y5) =>
      some y4
    | .inr r' => some r'

def pL_szIntSS (w : World) (r : Int) : Ending → World → Prop := fun e w' => e = .returned (.int .i64 r) ∧ Keeps w w'
set_option maxRecDepth 100000 in
set_option maxHeartbeats 2000000 in
theorem cL_szIntSS (fuel : Nat) (w : World) (u0 : Value) (p0 : List (List Int)) (g0 : RdL zt w u0 p0) (p1 : Int) (r : Int) (hF : fL_szIntSS fuel p0 p1 = some r) :
    Calls Try.prog 38 #[u0, .int .i64 p1] w (pL_szIntSS w r) := by
  unfold fL_szIntSS at hF
  have hB : Bs (fun _ => 1) (col (fun _ => 1)) w w := Bs.start _ _
  refine calls_start (n := 27) (vs := [u0, (.int .i64 p1)]) Try.func38 rfl rfl ?_
  refine wpC_seq ?_
  refine wpC_region ?_
  refine st_val (ex_assign rfl) (by decide) trivial ?_
  refine wpF_end (r := [(0, u0), (1, (.int .i64 p1))]) ⟨rfl, rfl, trivial⟩ ?_
  refine nx ?_
  refine wpC_seq ?_
  refine wpC_region ?_
  refine st_val (ex_move rfl) (by decide) trivial ?_
  refine st_val (ex_move rfl) (by decide) trivial ?_
  refine st_val (ex_lenR rfl g0 Try.underlying41) (by decide) trivial ?_
  obtain ⟨x1, hx1, hF⟩ := bind_some hF
  refine st_val (ex_sub rfl rfl hx1) (by decide) trivial ?_
  refine st_val (ex_assign rfl) (by decide) trivial ?_
  refine wpF_end (r := [(0, u0), (1, (.int .i64 x1))]) ⟨rfl, rfl, trivial⟩ ?_
  refine nx ?_
  refine wpC_seq ?_
  refine wpC_seq ?_
  refine wpC_region ?_
  refine st_val (ex_move rfl) (by decide) trivial ?_
  refine st_val (ex_lss rfl rfl) (by decide) trivial ?_
  refine wpF_end (r := [(0, u0), (1, (.int .i64 x1)), (11, (.bool (decide (x1 < 0))))]) ⟨rfl, rfl, rfl, trivial⟩ ?_
  refine nx ?_
  refine wpC_cond rfl (fun t2 => ?_) (fun t2 => ?_)
  · rw [if_pos t2] at hF
    refine wpC_seq ?_
    refine wpC_region ?_
    refine st_val (ex_assign rfl) (by decide) trivial ?_
    refine wpF_end (r := [(4, (.int .i64 (-1)))]) ⟨rfl, trivial⟩ ?_
    refine nx ?_
    refine wpC_ret ?_
    refine nt_ret ?_
    have e3 := Option.some.inj hF
    subst e3
    refine ret_post (P := Try.prog) (vs := [(.int .i64 (-1))]) Try.results38 ⟨rfl, trivial⟩ ?_
    exact ⟨rfl, hB.keeps⟩
  · rw [if_neg (by rw [t2]; decide)] at hF
    refine wpC_skip ?_
    refine nx ?_
    refine wpC_seq ?_
    refine wpC_seq ?_
    refine wpC_region ?_
    refine st_val (ex_assign rfl) (by decide) trivial ?_
    refine wpF_end (r := [(0, u0), (1, (.int .i64 x1)), (5, (.int .i64 0))]) ⟨rfl, rfl, rfl, trivial⟩ ?_
    refine nx ?_
    obtain ⟨q8, hq8, hF⟩ := bind_some hF
    refine wpC_cutN (fun a w7 => ∃ (y4 : Int) (y5 : Int) (o6 : Tg), q8 = .inl (y4, y5) ∧ Fr a 27 [(1, (.int .i64 y4))] ∧ Bs (fun _ => 1) o6 w w7) (fun a w' => ∃ r', q8 = .inr r' ∧ bodyPost Try.prog Try.f38 (pL_szIntSS w r') .ret a w') ?_ ?_ ?_
    · refine wpC_block ?_
      refine wpC_loop (fun (K : Nat) a w7 => ∃ (y4 : Int) (y5 : Int) (o6 : Tg), loopF (fL_szIntSS_s1 p0) K (y4, y5) = some q8 ∧ Fr a 27 [(0, u0), (1, (.int .i64 y4)), (5, (.int .i64 y5))] ∧ Bs (fun _ => 1) o6 w w7) fuel (fun a ha => ⟨x1, 0, (col (fun _ => 1)), hq8, ha.sub (r := [(0, u0), (1, (.int .i64 x1)), (5, (.int .i64 0))]) ⟨rfl, rfl, rfl, trivial⟩, hB⟩) ?_
      rintro K12 a w7 ⟨y4, y5, o6, l9, ha, hB⟩
      obtain ⟨K16, q13, e17, b14, n15⟩ := loopF_cons l9
      dsimp only [fL_szIntSS_s1] at b14
      refine wp_of ha ?_
      refine wpC_seq ?_
      refine wpC_seq ?_
      refine wpC_region ?_
      refine st_val (ex_move rfl) (by decide) trivial ?_
      refine st_val (ex_move rfl) (by decide) trivial ?_
      refine st_val (ex_lenR rfl g0 Try.underlying41) (by decide) trivial ?_
      refine st_val (ex_lss rfl rfl) (by decide) trivial ?_
      refine wpF_end (r := [(0, u0), (1, (.int .i64 y4)), (5, (.int .i64 y5)), (15, (.bool (decide (y5 < (p0.length : Int)))))]) ⟨rfl, rfl, rfl, rfl, trivial⟩ ?_
      refine nx ?_
      refine wpC_cond rfl (fun t18 => ?_) (fun t18 => ?_)
      · rw [if_pos t18] at b14
        refine wpC_skip ?_
        refine nx ?_
        refine wpC_seq ?_
        refine wpC_block ?_
        refine wpC_seq ?_
        refine wpC_region ?_
        refine st_val (ex_move rfl) (by decide) trivial ?_
        refine st_val (ex_move rfl) (by decide) trivial ?_
        obtain ⟨x19, hx19, b14⟩ := bind_some b14
        refine st_op (by decide) trivial ?_
        refine wf_atZ g0 hx19 hB rfl rfl Try.underlying41 Try.sizeOf23 ?_
        intro b20 f21 c22 h23 h24
        obtain ⟨v25, rfl, h26⟩ := h24
        refine st_val (ex_load1 rfl Try.isAgg23 (cell_of_cells h23)) (by decide) trivial ?_
        refine st_val (ex_move rfl) (by decide) trivial ?_
        obtain ⟨x27, hx27, b14⟩ := bind_some b14
        refine st_op (by decide) trivial ?_
        refine wf_call (cL_szIntS w7 _ x19 (h26.keep hB.keeps) y4 x27 hx27) Try.call54 ⟨rfl, rfl, trivial⟩ ?_
        rintro e32 w28 ⟨rfl, k29⟩
        have s31 := k29.stp 999 o6
        refine ⟨_, rfl, ?_⟩
        replace hB := hB.stp s31 (by decide)
        refine st_val (ex_assign rfl) (by decide) trivial ?_
        refine wpF_end (r := [(0, u0), (1, (.int .i64 x27)), (5, (.int .i64 y5))]) ⟨rfl, rfl, rfl, trivial⟩ ?_
        refine nx ?_
        refine wpC_seq ?_
        refine wpC_region ?_
        refine st_val (ex_move rfl) (by decide) trivial ?_
        refine st_val (ex_lss rfl rfl) (by decide) trivial ?_
        refine wpF_end (r := [(0, u0), (1, (.int .i64 x27)), (5, (.int .i64 y5)), (25, (.bool (decide (x27 < 0))))]) ⟨rfl, rfl, rfl, rfl, trivial⟩ ?_
        refine nx ?_
        refine wpC_cond rfl (fun t33 => ?_) (fun t33 => ?_)
        · rw [if_pos t33] at b14
          refine wpC_seq ?_
          refine wpC_region ?_
          refine st_val (ex_assign rfl) (by decide) trivial ?_
          refine wpF_end (r := [(4, (.int .i64 (-1)))]) ⟨rfl, trivial⟩ ?_
          refine nx ?_
          refine wpC_ret ?_
          refine nb_ret ?_
          refine nt_ret ?_
          refine nt_ret ?_
          refine nb_ret ?_
          refine np_ret ?_
          have e34 := Option.some.inj b14
          subst e34
          refine fun a ha => ⟨_, n15, ?_⟩
          refine ret_post (P := Try.prog) (vs := [(.int .i64 (-1))]) Try.results38 ⟨rfl, trivial⟩ ?_ a ha
          exact ⟨rfl, hB.keeps⟩
        · rw [if_neg (by rw [t33]; decide)] at b14
          refine wpC_skip ?_
          refine nb_norm ?_
          refine nx ?_
          refine wpC_region ?_
          refine st_val (ex_move rfl) (by decide) trivial ?_
          obtain ⟨x35, hx35, b14⟩ := bind_some b14
          refine st_val (ex_add rfl rfl hx35) (by decide) trivial ?_
          refine st_val (ex_assign rfl) (by decide) trivial ?_
          refine wpF_end (r := [(0, u0), (1, (.int .i64 x27)), (5, (.int .i64 x35))]) ⟨rfl, rfl, rfl, trivial⟩ ?_
          refine nt_norm ?_
          have e36 := Option.some.inj b14
          subst e36
          refine to_k (r := [(0, u0), (1, (.int .i64 x27)), (5, (.int .i64 x35))]) ⟨rfl, rfl, rfl, trivial⟩ ?_
          intro a ha
          exact ⟨K16, by omega, x27, x35, o6, n15, ha, hB⟩
      · rw [if_neg (by rw [t18]; decide)] at b14
        refine wpC_exit ?_
        refine nt_exit ?_
        refine nt_exit ?_
        refine nb_hit ?_
        refine np_norm ?_
        have e37 := Option.some.inj b14
        subst e37
        refine to_k (r := [(1, (.int .i64 y4))]) ⟨rfl, trivial⟩ ?_
        intro a ha
        exact ⟨y4, y5, o6, n15, ha, hB⟩
    · rintro a w7 ⟨y4, y5, o6, rfl, ha, hB⟩
      dsimp only at hF
      refine ap_k ha ?_
      refine nx ?_
      refine wpC_seq ?_
      refine wpC_region ?_
      refine st_val (ex_move rfl) (by decide) trivial ?_
      refine st_val (ex_assign rfl) (by decide) trivial ?_
      refine wpF_end (r := [(4, (.int .i64 y4))]) ⟨rfl, trivial⟩ ?_
      refine nx ?_
      refine wpC_ret ?_
      have e38 := Option.some.inj hF
      subst e38
      refine ret_post (P := Try.prog) (vs := [(.int .i64 y4)]) Try.results38 ⟨rfl, trivial⟩ ?_
      exact ⟨rfl, hB.keeps⟩
    · rintro a w7 ⟨r', rfl, b39⟩
      dsimp only at hF
      have e40 := Option.some.inj hF
      subst e40
      exact b39

def fL_toIntSS_s1 (fuel : Nat) (p0 : List (List Int)) : ((List (List Int)) × Int) → Option (Lp ((List (List Int)) × Int) ((List (List Int)) × Int) (List (List Int))) := fun (s : (List (List Int)) × Int) =>
  if decide (s.2 < (p0.length : Int)) then
    (ix p0 s.2) >>= fun x27 =>
    (fL_toIntS fuel x27) >>= fun x35 =>
    (ix s.1 s.2) >>= fun x44 =>
    (st s.1 s.2 x35) >>= fun x57 =>
    (ck (s.2 + 1)) >>= fun x65 =>
    some (.go (x57, x65))
  else
    some (.out (s.1, s.2))
def fL_toIntSS (fuel : Nat) (p0 : List (List Int)) : Option (List (List Int)) :=
  (mk ([] : List Int) (p0.length : Int)) >>= fun x1 =>
  (loopF (fL_toIntSS_s1 fuel p0) fuel (x1, 0)) >>= fun q16 =>
  match q16 with
  | .inl (y9, y13) =>
    some y9
  | .inr _ => none

def pL_toIntSS (oo : Tg) (t : Nat) (w : World) (r : List (List Int)) : Ending → World → Prop := fun e w' => ∃ (v0 : Value) (g0 : List Hv) (o' : Tg), e = .returned (v0) ∧ Ow w.heap.size 23 t o' w' v0 g0 ∧ Rws w.heap.size 3 (t + 1) o' w' g0 r ∧ Keeps w w' ∧ ∀ b, b < w.heap.size → o' b = oo b
set_option maxRecDepth 100000 in
set_option maxHeartbeats 2000000 in
theorem cL_toIntSS (fuel : Nat) (w : World) (oo : Tg) (t : Nat) (ht : 2 ≤ t) (u0 : Value) (p0 : List (List Int)) (g0 : RdL zt w u0 p0) (r : List (List Int)) (hF : fL_toIntSS fuel p0 = some r) :
    Calls Try.prog 41 #[u0] w (pL_toIntSS oo t w r) := by
  unfold fL_toIntSS at hF
  have hB : Bs oo (col oo) w w := Bs.start _ _
  refine calls_start (n := 23) (vs := [u0]) Try.func41 rfl rfl ?_
  generalize col oo = o at *
  refine wpC_seq ?_
  refine wpC_region ?_
  refine st_val (ex_assign rfl) (by decide) trivial ?_
  refine wpF_end (r := [(0, u0)]) ⟨rfl, trivial⟩ ?_
  refine nx ?_
  refine wpC_seq ?_
  refine wpC_region ?_
  refine st_val (ex_move rfl) (by decide) trivial ?_
  refine st_val (ex_lenR rfl g0 Try.underlying41) (by decide) trivial ?_
  obtain ⟨x1, hx1, hF⟩ := bind_some hF
  obtain ⟨h8, h7⟩ := mk_hv hx1 w.heap.size 3 12 o w
  refine st_op (by decide) trivial ?_
  refine wf_make (o := o) w.heap.size 11 hB.keeps.size h8 rfl rfl Try.underlying41 info2_t_Lint_LLb rfl (by decide) ?_
  intro o2 w3 v4 h5 s6
  replace h7 := h7.stp s6 (by decide) (by decide)
  replace hB := hB.stp s6 (by decide)
  refine st_val (ex_assign rfl) (by decide) trivial ?_
  refine wpF_end (r := [(0, u0), (3, v4)]) ⟨rfl, rfl, trivial⟩ ?_
  refine nx ?_
  refine wpC_seq ?_
  refine wpC_seq ?_
  refine wpC_region ?_
  refine st_val (ex_assign rfl) (by decide) trivial ?_
  refine wpF_end (r := [(0, u0), (3, v4), (4, (.int .i64 0))]) ⟨rfl, rfl, rfl, trivial⟩ ?_
  refine nx ?_
  obtain ⟨q16, hq16, hF⟩ := bind_some hF
  refine wpC_cutN (fun a w15 => ∃ (y9 : List (List Int)) (y13 : Int) (g12 : List Hv) (o14 : Tg), q16 = .inl (y9, y13) ∧ Fr a 23 [(3, v4)] ∧ Bs oo o14 w w15 ∧ Ow w.heap.size 23 11 o14 w15 v4 g12 ∧ Rws w.heap.size 3 12 o14 w15 g12 y9) (fun _ _ => False) ?_ ?_ ?_
  · refine wpC_block ?_
    refine wpC_loop (fun (K : Nat) a w15 => ∃ (y9 : List (List Int)) (y13 : Int) (g12 : List Hv) (o14 : Tg), loopF (fL_toIntSS_s1 fuel p0) K (y9, y13) = some q16 ∧ Fr a 23 [(0, u0), (3, v4), (4, (.int .i64 y13))] ∧ Bs oo o14 w w15 ∧ Ow w.heap.size 23 11 o14 w15 v4 g12 ∧ Rws w.heap.size 3 12 o14 w15 g12 y9) fuel (fun a ha => ⟨x1, 0, (List.replicate (p0.length : Int).toNat ⟨.slice none 0 0⟩), o2, hq16, ha.sub (r := [(0, u0), (3, v4), (4, (.int .i64 0))]) ⟨rfl, rfl, rfl, trivial⟩, hB, h5, h7⟩) ?_
    rintro K20 a w15 ⟨y9, y13, g12, o14, l17, ha, hB, h10, h11⟩
    obtain ⟨K24, q21, e25, b22, n23⟩ := loopF_cons l17
    dsimp only [fL_toIntSS_s1] at b22
    refine wp_of ha ?_
    refine wpC_seq ?_
    refine wpC_seq ?_
    refine wpC_region ?_
    refine st_val (ex_move rfl) (by decide) trivial ?_
    refine st_val (ex_move rfl) (by decide) trivial ?_
    refine st_val (ex_lenR rfl g0 Try.underlying41) (by decide) trivial ?_
    refine st_val (ex_lss rfl rfl) (by decide) trivial ?_
    refine wpF_end (r := [(0, u0), (3, v4), (4, (.int .i64 y13)), (11, (.bool (decide (y13 < (p0.length : Int)))))]) ⟨rfl, rfl, rfl, rfl, trivial⟩ ?_
    refine nx ?_
    refine wpC_cond rfl (fun t26 => ?_) (fun t26 => ?_)
    · rw [if_pos t26] at b22
      refine wpC_skip ?_
      refine nx ?_
      refine wpC_seq ?_
      refine wpC_block ?_
      refine wpC_region ?_
      refine st_val (ex_move rfl) (by decide) trivial ?_
      refine st_val (ex_move rfl) (by decide) trivial ?_
      refine st_val (ex_move rfl) (by decide) trivial ?_
      refine st_val (ex_move rfl) (by decide) trivial ?_
      obtain ⟨x27, hx27, b22⟩ := bind_some b22
      refine st_op (by decide) trivial ?_
      refine wf_atZ g0 hx27 hB rfl rfl Try.underlying41 Try.sizeOf23 ?_
      intro b28 f29 c30 h31 h32
      obtain ⟨v33, rfl, h34⟩ := h32
      refine st_val (ex_load1 rfl Try.isAgg23 (cell_of_cells h31)) (by decide) trivial ?_
      obtain ⟨x35, hx35, b22⟩ := bind_some b22
      refine st_op (by decide) trivial ?_
      refine wf_call (cL_toIntS fuel w15 o14 13 (by decide) _ x27 (h34.keep hB.keeps) x35 hx35) Try.call59 ⟨rfl, trivial⟩ ?_
      rintro e42 w36 ⟨v37, o43, rfl, h38, k39, k40⟩
      have s41 := k39.stp' 13 k40
      replace h38 := h38.mono hB.keeps.size
      refine ⟨_, rfl, ?_⟩
      replace h10 := h10.stp s41 (by decide) (by decide)
      replace h11 := h11.stp s41 (by decide) (by decide)
      replace hB := hB.stp s41 (by decide)
      obtain ⟨x44, hx44, b22⟩ := bind_some b22
      obtain ⟨v45, h46, h47, h48⟩ := h11.ix hx44
      refine st_op (by decide) trivial ?_
      refine wf_atP h10 h46 rfl rfl Try.underlying41 Try.sizeOf23 ?_
      intro b49 c51 h54 h52 h53
      obtain ⟨rfl, -⟩ := h53
      obtain ⟨x57, hx57, b22⟩ := bind_some b22
      obtain ⟨h58, h59⟩ := h11.stV hx57 v37
      refine st_op0 trivial ?_
      refine wf_storeW h10 h54 h58 (rd_hv h38) (by decide) rfl rfl rfl Try.sizeOf23 h38.cells1 ?_
      intro w55 h60 s56
      replace h11 := h11.stp s56 (by decide) (by decide)
      replace h38 := h38.stp s56 (by decide) (by decide)
      replace hB := hB.stp s56 (by decide)
      have h61 := RwH.put (i := y13.toNat) (h11.hole y13.toNat) h38 (by decide) (by decide)
      rw [← h59] at h61
      have r62 := mrg_rc 13 12 o43
      clear h11 h38
      replace h60 := h60.rc r62 (by decide) (by decide)
      replace hB := hB.rc r62 (by decide)
      generalize mrg 13 12 o43 = o64 at *
      refine wpF_end (r := [(0, u0), (3, v4), (4, (.int .i64 y13))]) ⟨rfl, rfl, rfl, trivial⟩ ?_
      refine nb_norm ?_
      refine nx ?_
      refine wpC_region ?_
      refine st_val (ex_move rfl) (by decide) trivial ?_
      obtain ⟨x65, hx65, b22⟩ := bind_some b22
      refine st_val (ex_add rfl rfl hx65) (by decide) trivial ?_
      refine st_val (ex_assign rfl) (by decide) trivial ?_
      refine wpF_end (r := [(0, u0), (3, v4), (4, (.int .i64 x65))]) ⟨rfl, rfl, rfl, trivial⟩ ?_
      refine nt_norm ?_
      have e66 := Option.some.inj b22
      subst e66
      refine to_k (r := [(0, u0), (3, v4), (4, (.int .i64 x65))]) ⟨rfl, rfl, rfl, trivial⟩ ?_
      intro a ha
      exact ⟨K24, by omega, x57, x65, (g12.set y13.toNat ⟨v37⟩), o64, n23, ha, hB, h60, h61⟩
    · rw [if_neg (by rw [t26]; decide)] at b22
      refine wpC_exit ?_
      refine nt_exit ?_
      refine nt_exit ?_
      refine nb_hit ?_
      refine np_norm ?_
      have e67 := Option.some.inj b22
      subst e67
      refine to_k (r := [(3, v4)]) ⟨rfl, trivial⟩ ?_
      intro a ha
      exact ⟨y9, y13, g12, o14, n23, ha, hB, h10, h11⟩
  · rintro a w15 ⟨y9, y13, g12, o14, rfl, ha, hB, h10, h11⟩
    dsimp only at hF
    refine ap_k ha ?_
    refine nx ?_
    refine wpC_seq ?_
    refine wpC_region ?_
    refine st_val (ex_move rfl) (by decide) trivial ?_
    refine st_val (ex_assign rfl) (by decide) trivial ?_
    refine wpF_end (r := [(2, v4)]) ⟨rfl, trivial⟩ ?_
    refine nx ?_
    refine wpC_ret ?_
    have e68 := Option.some.inj hF
    subst e68
    refine ret_post (P := Try.prog) (vs := [v4]) Try.results41 ⟨rfl, trivial⟩ ?_
    exact ⟨_, g12, rt2 oo o14 w.heap.size 11 12 t, rfl, h10.rt2 hB (by decide) (by decide) t, h11.rt2 hB (by decide) (by decide) (by decide) t, hB.keeps, rt2_old _ _ _ _ _ _⟩
  · exact fun _ _ h => h.elim

def fL_eqIntSS_s1 (fuel : Nat) (p0 : List (List Int)) (p1 : List (List Int)) : Int → Option (Lp Int Int Bool) := fun (s : Int) =>
  if decide (s < (p0.length : Int)) then
    (ix p0 s) >>= fun x17 =>
    (ix p1 s) >>= fun x23 =>
    (fL_eqIntS fuel x17 x23) >>= fun x84 =>
    if !x84 then
      some (.ret false)
    else
      (ck (s + 1)) >>= fun x92 =>
      some (.go x92)
  else
    some (.out s)
def fL_eqIntSS (fuel : Nat) (p0 : List (List Int)) (p1 : List (List Int)) : Option Bool :=
  if (p0.length : Int) != (p1.length : Int) then
    some false
  else
    (loopF (fL_eqIntSS_s1 fuel p0 p1) fuel 0) >>= fun q6 =>
    match q6 with
    | .inl y3 =>
      some true
    | .inr r' => some r'

def pL_eqIntSS (w : World) (r : Bool) : Ending → World → Prop := fun e w' => e = .returned (.bool r) ∧ Keeps w w'
set_option maxRecDepth 100000 in
set_option maxHeartbeats 2000000 in
theorem cL_eqIntSS (fuel : Nat) (w : World) (u0 : Value) (p0 : List (List Int)) (g0 : RdL zt w u0 p0) (u1 : Value) (p1 : List (List Int)) (g1 : RdL zt w u1 p1) (r : Bool) (hF : fL_eqIntSS fuel p0 p1 = some r) :
    Calls Try.prog 44 #[u0, u1] w (pL_eqIntSS w r) := by
  unfold fL_eqIntSS at hF
  have hB : Bs (fun _ => 1) (col (fun _ => 1)) w w := Bs.start _ _
  refine calls_start (n := 27) (vs := [u0, u1]) Try.func44 rfl rfl ?_
  refine wpC_seq ?_
  refine wpC_region ?_
  refine st_val (ex_assign rfl) (by decide) trivial ?_
  refine wpF_end (r := [(0, u0), (1, u1)]) ⟨rfl, rfl, trivial⟩ ?_
  refine nx ?_
  refine wpC_seq ?_
  refine wpC_seq ?_
  refine wpC_region ?_
  refine st_val (ex_move rfl) (by decide) trivial ?_
  refine st_val (ex_lenR rfl g0 Try.underlying41) (by decide) trivial ?_
  refine st_val (ex_move rfl) (by decide) trivial ?_
  refine st_val (ex_lenR rfl g1 Try.underlying41) (by decide) trivial ?_
  refine st_val (ex_neq rfl rfl) (by decide) trivial ?_
  refine wpF_end (r := [(0, u0), (1, u1), (10, (.bool ((p0.length : Int) != (p1.length : Int))))]) ⟨rfl, rfl, rfl, trivial⟩ ?_
  refine nx ?_
  refine wpC_cond rfl (fun t1 => ?_) (fun t1 => ?_)
  · rw [if_pos t1] at hF
    refine wpC_seq ?_
    refine wpC_region ?_
    refine st_val (ex_assign rfl) (by decide) trivial ?_
    refine wpF_end (r := [(4, (.bool false))]) ⟨rfl, trivial⟩ ?_
    refine nx ?_
    refine wpC_ret ?_
    refine nt_ret ?_
    have e2 := Option.some.inj hF
    subst e2
    refine ret_post (P := Try.prog) (vs := [(.bool false)]) Try.results44 ⟨rfl, trivial⟩ ?_
    exact ⟨rfl, hB.keeps⟩
  · rw [if_neg (by rw [t1]; decide)] at hF
    refine wpC_skip ?_
    refine nx ?_
    refine wpC_seq ?_
    refine wpC_seq ?_
    refine wpC_region ?_
    refine st_val (ex_assign rfl) (by decide) trivial ?_
    refine wpF_end (r := [(0, u0), (1, u1), (5, (.int .i64 0))]) ⟨rfl, rfl, rfl, trivial⟩ ?_
    refine nx ?_
    obtain ⟨q6, hq6, hF⟩ := bind_some hF
    refine wpC_cutN (fun a w5 => ∃ (y3 : Int) (o4 : Tg), q6 = .inl y3 ∧ Fr a 27 [] ∧ Bs (fun _ => 1) o4 w w5) (fun a w' => ∃ r', q6 = .inr r' ∧ bodyPost Try.prog Try.f44 (pL_eqIntSS w r') .ret a w') ?_ ?_ ?_
    · refine wpC_block ?_
      refine wpC_loop (fun (K : Nat) a w5 => ∃ (y3 : Int) (o4 : Tg), loopF (fL_eqIntSS_s1 fuel p0 p1) K y3 = some q6 ∧ Fr a 27 [(0, u0), (1, u1), (5, (.int .i64 y3))] ∧ Bs (fun _ => 1) o4 w w5) fuel (fun a ha => ⟨0, (col (fun _ => 1)), hq6, ha.sub (r := [(0, u0), (1, u1), (5, (.int .i64 0))]) ⟨rfl, rfl, rfl, trivial⟩, hB⟩) ?_
      rintro K10 a w5 ⟨y3, o4, l7, ha, hB⟩
      obtain ⟨K14, q11, e15, b12, n13⟩ := loopF_cons l7
      dsimp only [fL_eqIntSS_s1] at b12
      refine wp_of ha ?_
      refine wpC_seq ?_
      refine wpC_seq ?_
      refine wpC_region ?_
      refine st_val (ex_move rfl) (by decide) trivial ?_
      refine st_val (ex_move rfl) (by decide) trivial ?_
      refine st_val (ex_lenR rfl g0 Try.underlying41) (by decide) trivial ?_
      refine st_val (ex_lss rfl rfl) (by decide) trivial ?_
      refine wpF_end (r := [(0, u0), (1, u1), (5, (.int .i64 y3)), (14, (.bool (decide (y3 < (p0.length : Int)))))]) ⟨rfl, rfl, rfl, rfl, trivial⟩ ?_
      refine nx ?_
      refine wpC_cond rfl (fun t16 => ?_) (fun t16 => ?_)
      · rw [if_pos t16] at b12
        refine wpC_skip ?_
        refine nx ?_
        refine wpC_seq ?_
        refine wpC_block ?_
        refine wpC_seq ?_
        obtain ⟨x17, hx17, b12⟩ := bind_some b12
        obtain ⟨x23, hx23, b12⟩ := bind_some b12
        refine wpC_drawn (o := o4) [(0, u0), (1, u1), (5, (.int .i64 y3))] [0, 1, 5] [17, 18, 19, 20, 21, 22, 23, 24] [[], [], [0, 1], [2], [], [], [4, 5], [6]] [none, none, none, none, none, none, none, none] [999, 999, 999, 999, 999, 999, 999, 999] [0, 0, 0, 0, 0, 0, 0, 0] [999] [fun v _ _ => v = u0, fun v _ _ => v = (.int .i64 y3), fun v o w9 => ∃ vl, v = adr vl (y3.toNat * Rp.sz (List Int)) ∧ RdL zt w vl p0, fun v o w9 => RdL zt w v x17, fun v _ _ => v = u1, fun v _ _ => v = (.int .i64 y3), fun v o w9 => ∃ vl, v = adr vl (y3.toNat * Rp.sz (List Int)) ∧ RdL zt w vl p1, fun v o w9 => RdL zt w v x23] (fun o8 w8 => Bs (fun _ => 1) o8 w w8) follows_mixed (by kernel_rfl) rfl ⟨rfl, rfl, rfl, trivial⟩ hB ?_ ⟨st_eq _, st_eq _, fun _ _ _ _ _ _ h0 hb ⟨vl, e, h⟩ hs => ⟨vl, e, h⟩, fun _ _ _ _ _ _ h0 hb h hs => h, st_eq _, st_eq _, fun _ _ _ _ _ _ h0 hb ⟨vl, e, h⟩ hs => ⟨vl, e, h⟩, fun _ _ _ _ _ _ h0 hb h hs => h, trivial⟩ ?_ ?_
        · rintro t9 o1 w1 o2 w2 ht9 hB hs9
          have ht9 : t9 = 999 := by simpa using ht9
          subst ht9
          all_goals exact hB.stp hs9 (by decide)
        · refine ⟨?_, ?_, ?_, ?_, ?_, ?_, ?_, ?_, trivial⟩
          · rintro o29 w30 a31 ha hB -
            refine opS_of ha (trivial) ?_
            refine op1_val (ex_move rfl) ?_
            exact ⟨_, Stp.refl _ _ _, rfl⟩
          · rintro o32 w33 a34 ha hB -
            refine opS_of ha (trivial) ?_
            refine op1_val (ex_move rfl) ?_
            exact ⟨_, Stp.refl _ _ _, rfl⟩
          · rintro o35 w36 a37 ha hB ⟨r38, r39, -⟩
            have ha := Fr.cons (d := 17) ha r38
            have ha := Fr.cons (d := 18) ha r39
            refine opS_of ha (trivial) ?_
            refine wd_indexR g0 hx17 rfl rfl Try.underlying41 Try.sizeOf23 ?_
            exact ⟨_, Stp.refl _ _ _, ⟨_, rfl, g0⟩⟩
          · rintro o40 w41 a42 ha hB ⟨r43, -⟩
            obtain ⟨v44, e45, h46⟩ := r43
            have ha := Fr.cons (d := 19) ha e45
            refine opS_of ha (trivial) ?_
            refine wd_load1Z h46 hx17 hB rfl rfl Try.isAgg23 ?_
            intro c47 h48
            obtain ⟨v49, e51, h50⟩ := h48
            cases e51
            exact ⟨_, Stp.refl _ _ _, h50⟩
          · rintro o52 w53 a54 ha hB -
            refine opS_of ha (trivial) ?_
            refine op1_val (ex_move rfl) ?_
            exact ⟨_, Stp.refl _ _ _, rfl⟩
          · rintro o55 w56 a57 ha hB -
            refine opS_of ha (trivial) ?_
            refine op1_val (ex_move rfl) ?_
            exact ⟨_, Stp.refl _ _ _, rfl⟩
          · rintro o58 w59 a60 ha hB ⟨r61, r62, -⟩
            have ha := Fr.cons (d := 21) ha r61
            have ha := Fr.cons (d := 22) ha r62
            refine opS_of ha (trivial) ?_
            refine wd_indexR g1 hx23 rfl rfl Try.underlying41 Try.sizeOf23 ?_
            exact ⟨_, Stp.refl _ _ _, ⟨_, rfl, g1⟩⟩
          · rintro o63 w64 a65 ha hB ⟨r66, -⟩
            obtain ⟨v67, e68, h69⟩ := r66
            have ha := Fr.cons (d := 23) ha e68
            refine opS_of ha (trivial) ?_
            refine wd_load1Z h69 hx23 hB rfl rfl Try.isAgg23 ?_
            intro c70 h71
            obtain ⟨v72, e74, h73⟩ := h71
            cases e74
            exact ⟨_, Stp.refl _ _ _, h73⟩
        rintro o75 w76 a77 ha hB ⟨-, -, -, r78, -, -, -, r79, -⟩
        replace r78 : RdL zt w (a77.tmps.getD 20 undef) x17 := r78
        generalize e81 : a77.tmps.getD 20 undef = v80 at r78
        have ha := Fr.cons (d := 20) ha e81
        replace r79 : RdL zt w (a77.tmps.getD 24 undef) x23 := r79
        generalize e83 : a77.tmps.getD 24 undef = v82 at r79
        have ha := Fr.cons (d := 24) ha e83
        refine wl_of ha ?_
        simp only [List.length_cons, List.length_nil, Nat.zero_add, Nat.reduceAdd, List.drop_succ_cons, List.drop_zero]
        obtain ⟨x84, hx84, b12⟩ := bind_some b12
        refine st_op (by decide) trivial ?_
        refine wf_call (cL_eqIntS fuel w76 _ x17 (r78.keep hB.keeps) _ x23 (r79.keep hB.keeps) x84 hx84) Try.call20 ⟨rfl, rfl, trivial⟩ ?_
        rintro e89 w85 ⟨rfl, k86⟩
        have s88 := k86.stp 999 o75
        refine ⟨_, rfl, ?_⟩
        replace hB := hB.stp s88 (by decide)
        refine st_val (ex_not rfl) (by decide) trivial ?_
        refine wpF_end (r := [(0, u0), (1, u1), (5, (.int .i64 y3)), (26, (.bool (!x84)))]) ⟨rfl, rfl, rfl, rfl, trivial⟩ ?_
        refine nx ?_
        refine wpC_cond rfl (fun t90 => ?_) (fun t90 => ?_)
        · rw [if_pos t90] at b12
          refine wpC_seq ?_
          refine wpC_region ?_
          refine st_val (ex_assign rfl) (by decide) trivial ?_
          refine wpF_end (r := [(4, (.bool false))]) ⟨rfl, trivial⟩ ?_
          refine nx ?_
          refine wpC_ret ?_
          refine nb_ret ?_
          refine nt_ret ?_
          refine nt_ret ?_
          refine nb_ret ?_
          refine np_ret ?_
          have e91 := Option.some.inj b12
          subst e91
          refine fun a ha => ⟨_, n13, ?_⟩
          refine ret_post (P := Try.prog) (vs := [(.bool false)]) Try.results44 ⟨rfl, trivial⟩ ?_ a ha
          exact ⟨rfl, hB.keeps⟩
        · rw [if_neg (by rw [t90]; decide)] at b12
          refine wpC_skip ?_
          refine nb_norm ?_
          refine nx ?_
          refine wpC_region ?_
          refine st_val (ex_move rfl) (by decide) trivial ?_
          obtain ⟨x92, hx92, b12⟩ := bind_some b12
          refine st_val (ex_add rfl rfl hx92) (by decide) trivial ?_
          refine st_val (ex_assign rfl) (by decide) trivial ?_
          refine wpF_end (r := [(0, u0), (1, u1), (5, (.int .i64 x92))]) ⟨rfl, rfl, rfl, trivial⟩ ?_
          refine nt_norm ?_
          have e93 := Option.some.inj b12
          subst e93
          refine to_k (r := [(0, u0), (1, u1), (5, (.int .i64 x92))]) ⟨rfl, rfl, rfl, trivial⟩ ?_
          intro a ha
          exact ⟨K14, by omega, x92, o75, n13, ha, hB⟩
      · rw [if_neg (by rw [t16]; decide)] at b12
        refine wpC_exit ?_
        refine nt_exit ?_
        refine nt_exit ?_
        refine nb_hit ?_
        refine np_norm ?_
        have e94 := Option.some.inj b12
        subst e94
        refine to_k (r := []) trivial ?_
        intro a ha
        exact ⟨y3, o4, n13, ha, hB⟩
    · rintro a w5 ⟨y3, o4, rfl, ha, hB⟩
      dsimp only at hF
      refine ap_k ha ?_
      refine nx ?_
      refine wpC_seq ?_
      refine wpC_region ?_
      refine st_val (ex_assign rfl) (by decide) trivial ?_
      refine wpF_end (r := [(4, (.bool true))]) ⟨rfl, trivial⟩ ?_
      refine nx ?_
      refine wpC_ret ?_
      have e95 := Option.some.inj hF
      subst e95
      refine ret_post (P := Try.prog) (vs := [(.bool true)]) Try.results44 ⟨rfl, trivial⟩ ?_
      exact ⟨rfl, hB.keeps⟩
    · rintro a w5 ⟨r', rfl, b96⟩
      dsimp only at hF
      have e97 := Option.some.inj hF
      subst e97
      exact b96

def fL_szProblem (fuel : Nat) (p0 : T_Problem) (p1 : Int) : Option Int :=
  (fL_szIntSS fuel p0.Nodes p1) >>= fun x10 =>
  if decide (x10 < 0) then
    some (-1)
  else
    (fL_szIntSS fuel p0.Edges x10) >>= fun x18 =>
    if decide (x18 < 0) then
      some (-1)
    else
      some x18

def pL_szProblem (w : World) (r : Int) : Ending → World → Prop := fun e w' => e = .returned (.int .i64 r) ∧ Keeps w w'
set_option maxRecDepth 100000 in
set_option maxHeartbeats 2000000 in
theorem cL_szProblem (fuel : Nat) (w : World) (u0 : List Value) (p0 : T_Problem) (g0 : Rp.rd zt w u0 p0) (p1 : Int) (r : Int) (hF : fL_szProblem fuel p0 p1 = some r) :
    Calls Try.prog 37 #[.agg u0.toArray, .int .i64 p1] w (pL_szProblem w r) := by
  unfold fL_szProblem at hF
  obtain ⟨v1, v3, rfl, h2, h4⟩ := g0
  have hB : Bs (fun _ => 1) (col (fun _ => 1)) w w := Bs.start _ _
  refine calls_start (n := 18) (vs := [(.agg #[(.int .i64 p0.Labels), (.int .i64 p0.Degree), v1, v3]), (.int .i64 p1)]) Try.func37 rfl rfl ?_
  refine wpC_seq ?_
  refine wpC_region ?_
  refine st_op (by decide) trivial ?_
  refine wf_box (o := (col (fun _ => 1))) w.heap.size 11 hB.keeps.size (cs := [(.int .i64 p0.Labels), (.int .i64 p0.Degree), v1, v3]) rfl rfl ?_
  intro o5 w6 b7 h8 s9
  replace hB := hB.stp s9 (by decide)
  refine st_val (ex_assign rfl) (by decide) trivial ?_
  refine wpF_end (r := [(1, (.int .i64 p1)), (2, (.pointer (some ⟨b7, 0, none⟩)))]) ⟨rfl, rfl, trivial⟩ ?_
  refine nx ?_
  refine wpC_seq ?_
  refine wpC_region ?_
  refine st_val (ex_field rfl Try.underlying60 rfl Try.sizeOf41) (by decide) trivial ?_
  refine st_val (ex_load1 rfl Try.isAgg41 (h8.cell rfl)) (by decide) trivial ?_
  refine st_val (ex_move rfl) (by decide) trivial ?_
  obtain ⟨x10, hx10, hF⟩ := bind_some hF
  refine st_op (by decide) trivial ?_
  refine wf_call (cL_szIntSS fuel w6 _ p0.Nodes (h2.keep hB.keeps) p1 x10 hx10) Try.call38 ⟨rfl, rfl, trivial⟩ ?_
  rintro e15 w11 ⟨rfl, k12⟩
  have s14 := k12.stp 999 o5
  refine ⟨_, rfl, ?_⟩
  replace h8 := h8.stp s14 (by decide)
  replace hB := hB.stp s14 (by decide)
  refine st_val (ex_assign rfl) (by decide) trivial ?_
  refine wpF_end (r := [(1, (.int .i64 x10)), (2, (.pointer (some ⟨b7, 0, none⟩)))]) ⟨rfl, rfl, trivial⟩ ?_
  refine nx ?_
  refine wpC_seq ?_
  refine wpC_seq ?_
  refine wpC_region ?_
  refine st_val (ex_move rfl) (by decide) trivial ?_
  refine st_val (ex_lss rfl rfl) (by decide) trivial ?_
  refine wpF_end (r := [(1, (.int .i64 x10)), (2, (.pointer (some ⟨b7, 0, none⟩))), (10, (.bool (decide (x10 < 0))))]) ⟨rfl, rfl, rfl, trivial⟩ ?_
  refine nx ?_
  refine wpC_cond rfl (fun t16 => ?_) (fun t16 => ?_)
  · rw [if_pos t16] at hF
    refine wpC_seq ?_
    refine wpC_region ?_
    refine st_val (ex_assign rfl) (by decide) trivial ?_
    refine wpF_end (r := [(4, (.int .i64 (-1)))]) ⟨rfl, trivial⟩ ?_
    refine nx ?_
    refine wpC_ret ?_
    refine nt_ret ?_
    have e17 := Option.some.inj hF
    subst e17
    refine ret_post (P := Try.prog) (vs := [(.int .i64 (-1))]) Try.results37 ⟨rfl, trivial⟩ ?_
    exact ⟨rfl, hB.keeps⟩
  · rw [if_neg (by rw [t16]; decide)] at hF
    refine wpC_skip ?_
    refine nx ?_
    refine wpC_seq ?_
    refine wpC_region ?_
    refine st_val (ex_field rfl Try.underlying60 rfl Try.sizeOf41) (by decide) trivial ?_
    refine st_val (ex_load1 rfl Try.isAgg41 (h8.cell rfl)) (by decide) trivial ?_
    refine st_val (ex_move rfl) (by decide) trivial ?_
    obtain ⟨x18, hx18, hF⟩ := bind_some hF
    refine st_op (by decide) trivial ?_
    refine wf_call (cL_szIntSS fuel w11 _ p0.Edges (h4.keep hB.keeps) x10 x18 hx18) Try.call38 ⟨rfl, rfl, trivial⟩ ?_
    rintro e23 w19 ⟨rfl, k20⟩
    have s22 := k20.stp 999 o5
    refine ⟨_, rfl, ?_⟩
    replace h8 := h8.stp s22 (by decide)
    replace hB := hB.stp s22 (by decide)
    refine st_val (ex_assign rfl) (by decide) trivial ?_
    refine wpF_end (r := [(1, (.int .i64 x18))]) ⟨rfl, trivial⟩ ?_
    refine nx ?_
    refine wpC_seq ?_
    refine wpC_seq ?_
    refine wpC_region ?_
    refine st_val (ex_move rfl) (by decide) trivial ?_
    refine st_val (ex_lss rfl rfl) (by decide) trivial ?_
    refine wpF_end (r := [(1, (.int .i64 x18)), (16, (.bool (decide (x18 < 0))))]) ⟨rfl, rfl, trivial⟩ ?_
    refine nx ?_
    refine wpC_cond rfl (fun t24 => ?_) (fun t24 => ?_)
    · rw [if_pos t24] at hF
      refine wpC_seq ?_
      refine wpC_region ?_
      refine st_val (ex_assign rfl) (by decide) trivial ?_
      refine wpF_end (r := [(4, (.int .i64 (-1)))]) ⟨rfl, trivial⟩ ?_
      refine nx ?_
      refine wpC_ret ?_
      refine nt_ret ?_
      have e25 := Option.some.inj hF
      subst e25
      refine ret_post (P := Try.prog) (vs := [(.int .i64 (-1))]) Try.results37 ⟨rfl, trivial⟩ ?_
      exact ⟨rfl, hB.keeps⟩
    · rw [if_neg (by rw [t24]; decide)] at hF
      refine wpC_skip ?_
      refine nx ?_
      refine wpC_seq ?_
      refine wpC_region ?_
      refine st_val (ex_move rfl) (by decide) trivial ?_
      refine st_val (ex_assign rfl) (by decide) trivial ?_
      refine wpF_end (r := [(4, (.int .i64 x18))]) ⟨rfl, trivial⟩ ?_
      refine nx ?_
      refine wpC_ret ?_
      have e26 := Option.some.inj hF
      subst e26
      refine ret_post (P := Try.prog) (vs := [(.int .i64 x18)]) Try.results37 ⟨rfl, trivial⟩ ?_
      exact ⟨rfl, hB.keeps⟩

def fL_toProblem (fuel : Nat) (p0 : T_Problem) : Option T_Problem :=
  (fL_toIntSS fuel p0.Nodes) >>= fun x26 =>
  (fL_toIntSS fuel p0.Edges) >>= fun x40 =>
  some (⟨p0.Labels, p0.Degree, x26, x40⟩ : T_Problem)

def pL_toProblem (oo : Tg) (t : Nat) (w : World) (r : T_Problem) : Ending → World → Prop := fun e w' => ∃ (v0 : List Value) (o' : Tg), e = .returned (.agg v0.toArray) ∧ Rp.rd o' w' v0 r ∧ Dz 23 3 o' w' (v0.getD 2 undef) r.Nodes ∧ Dz 23 3 o' w' (v0.getD 3 undef) r.Edges ∧ Keeps w w' ∧ ∀ b, b < w.heap.size → o' b = oo b
set_option maxRecDepth 100000 in
set_option maxHeartbeats 2000000 in
theorem cL_toProblem (fuel : Nat) (w : World) (oo : Tg) (t : Nat) (ht : 2 ≤ t) (u0 : List Value) (p0 : T_Problem) (g0 : Rp.rd zt w u0 p0) (r : T_Problem) (hF : fL_toProblem fuel p0 = some r) :
    Calls Try.prog 40 #[.agg u0.toArray] w (pL_toProblem oo t w r) := by
  unfold fL_toProblem at hF
  obtain ⟨v1, v3, rfl, h2, h4⟩ := g0
  have hB : Bs oo (col oo) w w := Bs.start _ _
  refine calls_start (n := 19) (vs := [(.agg #[(.int .i64 p0.Labels), (.int .i64 p0.Degree), v1, v3])]) Try.func40 rfl rfl ?_
  generalize col oo = o at *
  refine wpC_seq ?_
  refine wpC_region ?_
  refine st_op (by decide) trivial ?_
  refine wf_box (o := o) w.heap.size 11 hB.keeps.size (cs := [(.int .i64 p0.Labels), (.int .i64 p0.Degree), v1, v3]) rfl rfl ?_
  intro o5 w6 b7 h8 s9
  replace hB := hB.stp s9 (by decide)
  refine st_op (by decide) trivial ?_
  refine wf_alloc (o := o5) w.heap.size 12 hB.keeps.size (cs := [(.int .i64 0), (.int .i64 0), (.slice none 0 0), (.slice none 0 0)]) Try.zeroValue64 rfl ?_
  intro o10 w11 b12 h13 s14
  replace h8 := h8.stp s14 (by decide)
  replace hB := hB.stp s14 (by decide)
  refine wpF_end (r := [(1, (.pointer (some ⟨b7, 0, none⟩))), (2, (.pointer (some ⟨b12, 0, none⟩)))]) ⟨rfl, rfl, trivial⟩ ?_
  refine nx ?_
  refine wpC_seq ?_
  refine wpC_region ?_
  refine st_op (by decide) trivial ?_
  refine wf_alloc (o := o10) w.heap.size 13 hB.keeps.size (cs := [(.int .i64 0), (.int .i64 0), (.slice none 0 0), (.slice none 0 0)]) Try.zeroValue64 rfl ?_
  intro o15 w16 b17 h18 s19
  replace h8 := h8.stp s19 (by decide)
  replace h13 := h13.stp s19 (by decide)
  replace hB := hB.stp s19 (by decide)
  refine wpF_end (r := [(1, (.pointer (some ⟨b7, 0, none⟩))), (2, (.pointer (some ⟨b12, 0, none⟩))), (3, (.pointer (some ⟨b17, 0, none⟩)))]) ⟨rfl, rfl, rfl, trivial⟩ ?_
  refine nx ?_
  refine wpC_seq ?_
  refine wpC_region ?_
  refine st_val (ex_field rfl Try.underlying60 rfl Try.sizeOf3) (by decide) trivial ?_
  refine st_val (ex_load1 rfl Try.isAgg3 (h8.cell rfl)) (by decide) trivial ?_
  refine st_val (ex_field rfl Try.underlying64 rfl Try.sizeOf3) (by decide) trivial ?_
  refine st_op0 trivial ?_
  refine wf_storeB h18 rfl rfl (of_decide_eq_true rfl) Try.sizeOf3 rfl rfl ?_
  intro w20 h22 s21
  replace h8 := h8.stp s21 (by decide)
  replace h13 := h13.stp s21 (by decide)
  replace hB := hB.stp s21 (by decide)
  replace h22 : Bx w.heap.size 13 o15 w20 b17 64 [(.int .i64 p0.Labels), (.int .i64 0), (.slice none 0 0), (.slice none 0 0)] := h22
  refine wpF_end (r := [(1, (.pointer (some ⟨b7, 0, none⟩))), (2, (.pointer (some ⟨b12, 0, none⟩))), (3, (.pointer (some ⟨b17, 0, none⟩)))]) ⟨rfl, rfl, rfl, trivial⟩ ?_
  refine nx ?_
  refine wpC_seq ?_
  refine wpC_region ?_
  refine st_val (ex_field rfl Try.underlying60 rfl Try.sizeOf3) (by decide) trivial ?_
  refine st_val (ex_load1 rfl Try.isAgg3 (h8.cell rfl)) (by decide) trivial ?_
  refine st_val (ex_field rfl Try.underlying64 rfl Try.sizeOf3) (by decide) trivial ?_
  refine st_op0 trivial ?_
  refine wf_storeB h22 rfl rfl (of_decide_eq_true rfl) Try.sizeOf3 rfl rfl ?_
  intro w23 h25 s24
  replace h8 := h8.stp s24 (by decide)
  replace h13 := h13.stp s24 (by decide)
  replace hB := hB.stp s24 (by decide)
  replace h25 : Bx w.heap.size 13 o15 w23 b17 64 [(.int .i64 p0.Labels), (.int .i64 p0.Degree), (.slice none 0 0), (.slice none 0 0)] := h25
  refine wpF_end (r := [(1, (.pointer (some ⟨b7, 0, none⟩))), (2, (.pointer (some ⟨b12, 0, none⟩))), (3, (.pointer (some ⟨b17, 0, none⟩)))]) ⟨rfl, rfl, rfl, trivial⟩ ?_
  refine nx ?_
  refine wpC_seq ?_
  refine wpC_region ?_
  refine st_val (ex_field rfl Try.underlying60 rfl Try.sizeOf41) (by decide) trivial ?_
  refine st_val (ex_load1 rfl Try.isAgg41 (h8.cell rfl)) (by decide) trivial ?_
  obtain ⟨x26, hx26, hF⟩ := bind_some hF
  refine st_op (by decide) trivial ?_
  refine wf_call (cL_toIntSS fuel w23 o15 14 (by decide) _ p0.Nodes (h2.keep hB.keeps) x26 hx26) Try.call41 ⟨rfl, trivial⟩ ?_
  rintro e35 w27 ⟨v28, g30, o36, rfl, h29, h31, k32, k33⟩
  have s34 := k32.stp' 14 k33
  replace h29 := h29.mono hB.keeps.size
  replace h31 := h31.mono hB.keeps.size
  refine ⟨_, rfl, ?_⟩
  replace h8 := h8.stp s34 (by decide)
  replace h13 := h13.stp s34 (by decide)
  replace h25 := h25.stp s34 (by decide)
  replace hB := hB.stp s34 (by decide)
  refine st_val (ex_field rfl Try.underlying64 rfl Try.sizeOf41) (by decide) trivial ?_
  refine st_op0 trivial ?_
  refine wf_storeB h25 rfl rfl (of_decide_eq_true rfl) Try.sizeOf41 h29.cells1 h29.one1 ?_
  intro w37 h39 s38
  replace h29 := h29.stp s38 (by decide) (by decide)
  replace h31 := h31.stp s38 (by decide) (by decide)
  replace h8 := h8.stp s38 (by decide)
  replace h13 := h13.stp s38 (by decide)
  replace hB := hB.stp s38 (by decide)
  replace h39 : Bx w.heap.size 13 o36 w37 b17 64 [(.int .i64 p0.Labels), (.int .i64 p0.Degree), v28, (.slice none 0 0)] := h39
  refine wpF_end (r := [(1, (.pointer (some ⟨b7, 0, none⟩))), (2, (.pointer (some ⟨b12, 0, none⟩))), (3, (.pointer (some ⟨b17, 0, none⟩)))]) ⟨rfl, rfl, rfl, trivial⟩ ?_
  refine nx ?_
  refine wpC_seq ?_
  refine wpC_region ?_
  refine st_val (ex_field rfl Try.underlying60 rfl Try.sizeOf41) (by decide) trivial ?_
  refine st_val (ex_load1 rfl Try.isAgg41 (h8.cell rfl)) (by decide) trivial ?_
  obtain ⟨x40, hx40, hF⟩ := bind_some hF
  refine st_op (by decide) trivial ?_
  refine wf_call (cL_toIntSS fuel w37 o36 16 (by decide) _ p0.Edges (h4.keep hB.keeps) x40 hx40) Try.call41 ⟨rfl, trivial⟩ ?_
  rintro e49 w41 ⟨v42, g44, o50, rfl, h43, h45, k46, k47⟩
  have s48 := k46.stp' 16 k47
  replace h43 := h43.mono hB.keeps.size
  replace h45 := h45.mono hB.keeps.size
  refine ⟨_, rfl, ?_⟩
  replace h8 := h8.stp s48 (by decide)
  replace h13 := h13.stp s48 (by decide)
  replace h39 := h39.stp s48 (by decide)
  replace h29 := h29.stp s48 (by decide) (by decide)
  replace h31 := h31.stp s48 (by decide) (by decide)
  replace hB := hB.stp s48 (by decide)
  refine st_val (ex_field rfl Try.underlying64 rfl Try.sizeOf41) (by decide) trivial ?_
  refine st_op0 trivial ?_
  refine wf_storeB h39 rfl rfl (of_decide_eq_true rfl) Try.sizeOf41 h43.cells1 h43.one1 ?_
  intro w51 h53 s52
  replace h43 := h43.stp s52 (by decide) (by decide)
  replace h45 := h45.stp s52 (by decide) (by decide)
  replace h8 := h8.stp s52 (by decide)
  replace h13 := h13.stp s52 (by decide)
  replace h29 := h29.stp s52 (by decide) (by decide)
  replace h31 := h31.stp s52 (by decide) (by decide)
  replace hB := hB.stp s52 (by decide)
  replace h53 : Bx w.heap.size 13 o50 w51 b17 64 [(.int .i64 p0.Labels), (.int .i64 p0.Degree), v28, v42] := h53
  refine wpF_end (r := [(2, (.pointer (some ⟨b12, 0, none⟩))), (3, (.pointer (some ⟨b17, 0, none⟩)))]) ⟨rfl, rfl, trivial⟩ ?_
  refine nx ?_
  refine wpC_seq ?_
  refine wpC_region ?_
  refine st_val (ex_loadA rfl Try.isAgg64 Try.sizeOf64 rfl h53.cells) (by decide) trivial ?_
  refine st_op0 trivial ?_
  refine wf_storeA h13 rfl rfl rfl info1_t_impl_Problem_LLb (by intro c hc; simp only [List.mem_cons, List.not_mem_nil, or_false] at hc; rcases hc with rfl | rfl | rfl | rfl <;> first | rfl | exact h29.one1 | exact h43.one1) ?_
  intro w54 h56 s55
  replace h29 := h29.stp s55 (by decide) (by decide)
  replace h31 := h31.stp s55 (by decide) (by decide)
  replace h43 := h43.stp s55 (by decide) (by decide)
  replace h45 := h45.stp s55 (by decide) (by decide)
  replace h8 := h8.stp s55 (by decide)
  replace h53 := h53.stp s55 (by decide)
  replace hB := hB.stp s55 (by decide)
  refine wpF_end (r := [(2, (.pointer (some ⟨b12, 0, none⟩)))]) ⟨rfl, trivial⟩ ?_
  refine nx ?_
  refine wpC_ret ?_
  have h57 := Dz.of h29 h31 (by decide) (by decide) (by decide)
  have r58 := frz_rc 14 o50
  have r59 := frz_rc 15 (frz 14 o50)
  replace h8 := (h8.rc r58 (by decide)).rc r59 (by decide)
  replace h56 := (h56.rc r58 (by decide)).rc r59 (by decide)
  replace h43 := (h43.rc r58 (by decide) (by decide)).rc r59 (by decide) (by decide)
  replace h45 := (h45.rc r58 (by decide) (by decide)).rc r59 (by decide) (by decide)
  replace h53 := (h53.rc r58 (by decide)).rc r59 (by decide)
  replace hB := (hB.rc r58 (by decide)).rc r59 (by decide)
  clear r58 r59
  generalize frz 15 (frz 14 o50) = o61 at *
  have h60 := h57.rd
  have h62 := Dz.of h43 h45 (by decide) (by decide) (by decide)
  have r63 := frz_rc 16 o61
  have r64 := frz_rc 17 (frz 16 o61)
  replace h8 := (h8.rc r63 (by decide)).rc r64 (by decide)
  replace h56 := (h56.rc r63 (by decide)).rc r64 (by decide)
  replace h60 := (h60.rc r63 (by decide)).rc r64 (by decide)
  replace h57 := (h57.rc r63 (by decide)).rc r64 (by decide)
  replace h53 := (h53.rc r63 (by decide)).rc r64 (by decide)
  replace hB := (hB.rc r63 (by decide)).rc r64 (by decide)
  clear r63 r64
  generalize frz 17 (frz 16 o61) = o66 at *
  have h65 := h62.rd
  have e67 := Option.some.inj hF
  subst e67
  refine ret_post (P := Try.prog) (vs := [(.agg #[(.int .i64 p0.Labels), (.int .i64 p0.Degree), v28, v42])]) Try.results40 ⟨⟨_, rfl, run_loadA Try.isAgg64 Try.sizeOf64 rfl h56.cells⟩, trivial⟩ ?_
  exact ⟨[(.int .i64 p0.Labels), (.int .i64 p0.Degree), v28, v42], rt oo o66 w.heap.size 9 t, rfl, ⟨_, _, rfl, h60.rt hB 9 t (by decide), h65.rt hB 9 t (by decide)⟩, h57.rt hB 9 t (by decide), h62.rt hB 9 t (by decide), hB.keeps, rt_old _ _ _ _ _⟩

def fL_eqProblem (fuel : Nat) (p0 : T_Problem) (p1 : T_Problem) : Option Bool :=
  if p0.Labels != p1.Labels then
    some false
  else
    if p0.Degree != p1.Degree then
      some false
    else
      (fL_eqIntSS fuel p0.Nodes p1.Nodes) >>= fun x23 =>
      if !x23 then
        some false
      else
        (fL_eqIntSS fuel p0.Edges p1.Edges) >>= fun x31 =>
        if !x31 then
          some false
        else
          some true

def pL_eqProblem (w : World) (r : Bool) : Ending → World → Prop := fun e w' => e = .returned (.bool r) ∧ Keeps w w'
set_option maxRecDepth 100000 in
set_option maxHeartbeats 2000000 in
theorem cL_eqProblem (fuel : Nat) (w : World) (u0 : List Value) (p0 : T_Problem) (g0 : Rp.rd zt w u0 p0) (u1 : List Value) (p1 : T_Problem) (g1 : Rp.rd zt w u1 p1) (r : Bool) (hF : fL_eqProblem fuel p0 p1 = some r) :
    Calls Try.prog 43 #[.agg u0.toArray, .agg u1.toArray] w (pL_eqProblem w r) := by
  unfold fL_eqProblem at hF
  obtain ⟨v1, v3, rfl, h2, h4⟩ := g0
  obtain ⟨v5, v7, rfl, h6, h8⟩ := g1
  have hB : Bs (fun _ => 1) (col (fun _ => 1)) w w := Bs.start _ _
  refine calls_start (n := 27) (vs := [(.agg #[(.int .i64 p0.Labels), (.int .i64 p0.Degree), v1, v3]), (.agg #[(.int .i64 p1.Labels), (.int .i64 p1.Degree), v5, v7])]) Try.func43 rfl rfl ?_
  refine wpC_seq ?_
  refine wpC_region ?_
  refine st_op (by decide) trivial ?_
  refine wf_box (o := (col (fun _ => 1))) w.heap.size 11 hB.keeps.size (cs := [(.int .i64 p0.Labels), (.int .i64 p0.Degree), v1, v3]) rfl rfl ?_
  intro o9 w10 b11 h12 s13
  replace hB := hB.stp s13 (by decide)
  refine st_op (by decide) trivial ?_
  refine wf_box (o := o9) w.heap.size 12 hB.keeps.size (cs := [(.int .i64 p1.Labels), (.int .i64 p1.Degree), v5, v7]) rfl rfl ?_
  intro o14 w15 b16 h17 s18
  replace h12 := h12.stp s18 (by decide)
  replace hB := hB.stp s18 (by decide)
  refine st_val (ex_assign rfl) (by decide) trivial ?_
  refine wpF_end (r := [(2, (.pointer (some ⟨b11, 0, none⟩))), (3, (.pointer (some ⟨b16, 0, none⟩)))]) ⟨rfl, rfl, trivial⟩ ?_
  refine nx ?_
  refine wpC_seq ?_
  refine wpC_seq ?_
  refine wpC_region ?_
  refine st_val (ex_field rfl Try.underlying64 rfl Try.sizeOf3) (by decide) trivial ?_
  refine st_val (ex_load1 rfl Try.isAgg3 (h12.cell rfl)) (by decide) trivial ?_
  refine st_val (ex_field rfl Try.underlying64 rfl Try.sizeOf3) (by decide) trivial ?_
  refine st_val (ex_load1 rfl Try.isAgg3 (h17.cell rfl)) (by decide) trivial ?_
  refine st_val (ex_neq rfl rfl) (by decide) trivial ?_
  refine wpF_end (r := [(2, (.pointer (some ⟨b11, 0, none⟩))), (3, (.pointer (some ⟨b16, 0, none⟩))), (9, (.bool (p0.Labels != p1.Labels)))]) ⟨rfl, rfl, rfl, trivial⟩ ?_
  refine nx ?_
  refine wpC_cond rfl (fun t19 => ?_) (fun t19 => ?_)
  · rw [if_pos t19] at hF
    refine wpC_seq ?_
    refine wpC_region ?_
    refine st_val (ex_assign rfl) (by decide) trivial ?_
    refine wpF_end (r := [(4, (.bool false))]) ⟨rfl, trivial⟩ ?_
    refine nx ?_
    refine wpC_ret ?_
    refine nt_ret ?_
    have e20 := Option.some.inj hF
    subst e20
    refine ret_post (P := Try.prog) (vs := [(.bool false)]) Try.results43 ⟨rfl, trivial⟩ ?_
    exact ⟨rfl, hB.keeps⟩
  · rw [if_neg (by rw [t19]; decide)] at hF
    refine wpC_skip ?_
    refine nx ?_
    refine wpC_seq ?_
    refine wpC_seq ?_
    refine wpC_region ?_
    refine st_val (ex_field rfl Try.underlying64 rfl Try.sizeOf3) (by decide) trivial ?_
    refine st_val (ex_load1 rfl Try.isAgg3 (h12.cell rfl)) (by decide) trivial ?_
    refine st_val (ex_field rfl Try.underlying64 rfl Try.sizeOf3) (by decide) trivial ?_
    refine st_val (ex_load1 rfl Try.isAgg3 (h17.cell rfl)) (by decide) trivial ?_
    refine st_val (ex_neq rfl rfl) (by decide) trivial ?_
    refine wpF_end (r := [(2, (.pointer (some ⟨b11, 0, none⟩))), (3, (.pointer (some ⟨b16, 0, none⟩))), (14, (.bool (p0.Degree != p1.Degree)))]) ⟨rfl, rfl, rfl, trivial⟩ ?_
    refine nx ?_
    refine wpC_cond rfl (fun t21 => ?_) (fun t21 => ?_)
    · rw [if_pos t21] at hF
      refine wpC_seq ?_
      refine wpC_region ?_
      refine st_val (ex_assign rfl) (by decide) trivial ?_
      refine wpF_end (r := [(4, (.bool false))]) ⟨rfl, trivial⟩ ?_
      refine nx ?_
      refine wpC_ret ?_
      refine nt_ret ?_
      have e22 := Option.some.inj hF
      subst e22
      refine ret_post (P := Try.prog) (vs := [(.bool false)]) Try.results43 ⟨rfl, trivial⟩ ?_
      exact ⟨rfl, hB.keeps⟩
    · rw [if_neg (by rw [t21]; decide)] at hF
      refine wpC_skip ?_
      refine nx ?_
      refine wpC_seq ?_
      refine wpC_seq ?_
      refine wpC_region ?_
      refine st_val (ex_field rfl Try.underlying64 rfl Try.sizeOf41) (by decide) trivial ?_
      refine st_val (ex_load1 rfl Try.isAgg41 (h12.cell rfl)) (by decide) trivial ?_
      refine st_val (ex_field rfl Try.underlying64 rfl Try.sizeOf41) (by decide) trivial ?_
      refine st_val (ex_load1 rfl Try.isAgg41 (h17.cell rfl)) (by decide) trivial ?_
      obtain ⟨x23, hx23, hF⟩ := bind_some hF
      refine st_op (by decide) trivial ?_
      refine wf_call (cL_eqIntSS fuel w15 _ p0.Nodes (h2.keep hB.keeps) _ p1.Nodes (h6.keep hB.keeps) x23 hx23) Try.call44 ⟨rfl, rfl, trivial⟩ ?_
      rintro e28 w24 ⟨rfl, k25⟩
      have s27 := k25.stp 999 o14
      refine ⟨_, rfl, ?_⟩
      replace h12 := h12.stp s27 (by decide)
      replace h17 := h17.stp s27 (by decide)
      replace hB := hB.stp s27 (by decide)
      refine st_val (ex_not rfl) (by decide) trivial ?_
      refine wpF_end (r := [(2, (.pointer (some ⟨b11, 0, none⟩))), (3, (.pointer (some ⟨b16, 0, none⟩))), (20, (.bool (!x23)))]) ⟨rfl, rfl, rfl, trivial⟩ ?_
      refine nx ?_
      refine wpC_cond rfl (fun t29 => ?_) (fun t29 => ?_)
      · rw [if_pos t29] at hF
        refine wpC_seq ?_
        refine wpC_region ?_
        refine st_val (ex_assign rfl) (by decide) trivial ?_
        refine wpF_end (r := [(4, (.bool false))]) ⟨rfl, trivial⟩ ?_
        refine nx ?_
        refine wpC_ret ?_
        refine nt_ret ?_
        have e30 := Option.some.inj hF
        subst e30
        refine ret_post (P := Try.prog) (vs := [(.bool false)]) Try.results43 ⟨rfl, trivial⟩ ?_
        exact ⟨rfl, hB.keeps⟩
      · rw [if_neg (by rw [t29]; decide)] at hF
        refine wpC_skip ?_
        refine nx ?_
        refine wpC_seq ?_
        refine wpC_seq ?_
        refine wpC_region ?_
        refine st_val (ex_field rfl Try.underlying64 rfl Try.sizeOf41) (by decide) trivial ?_
        refine st_val (ex_load1 rfl Try.isAgg41 (h12.cell rfl)) (by decide) trivial ?_
        refine st_val (ex_field rfl Try.underlying64 rfl Try.sizeOf41) (by decide) trivial ?_
        refine st_val (ex_load1 rfl Try.isAgg41 (h17.cell rfl)) (by decide) trivial ?_
        obtain ⟨x31, hx31, hF⟩ := bind_some hF
        refine st_op (by decide) trivial ?_
        refine wf_call (cL_eqIntSS fuel w24 _ p0.Edges (h4.keep hB.keeps) _ p1.Edges (h8.keep hB.keeps) x31 hx31) Try.call44 ⟨rfl, rfl, trivial⟩ ?_
        rintro e36 w32 ⟨rfl, k33⟩
        have s35 := k33.stp 999 o14
        refine ⟨_, rfl, ?_⟩
        replace h12 := h12.stp s35 (by decide)
        replace h17 := h17.stp s35 (by decide)
        replace hB := hB.stp s35 (by decide)
        refine st_val (ex_not rfl) (by decide) trivial ?_
        refine wpF_end (r := [(26, (.bool (!x31)))]) ⟨rfl, trivial⟩ ?_
        refine nx ?_
        refine wpC_cond rfl (fun t37 => ?_) (fun t37 => ?_)
        · rw [if_pos t37] at hF
          refine wpC_seq ?_
          refine wpC_region ?_
          refine st_val (ex_assign rfl) (by decide) trivial ?_
          refine wpF_end (r := [(4, (.bool false))]) ⟨rfl, trivial⟩ ?_
          refine nx ?_
          refine wpC_ret ?_
          refine nt_ret ?_
          have e38 := Option.some.inj hF
          subst e38
          refine ret_post (P := Try.prog) (vs := [(.bool false)]) Try.results43 ⟨rfl, trivial⟩ ?_
          exact ⟨rfl, hB.keeps⟩
        · rw [if_neg (by rw [t37]; decide)] at hF
          refine wpC_skip ?_
          refine nx ?_
          refine wpC_seq ?_
          refine wpC_region ?_
          refine st_val (ex_assign rfl) (by decide) trivial ?_
          refine wpF_end (r := [(4, (.bool true))]) ⟨rfl, trivial⟩ ?_
          refine nx ?_
          refine wpC_ret ?_
          have e39 := Option.some.inj hF
          subst e39
          refine ret_post (P := Try.prog) (vs := [(.bool true)]) Try.results43 ⟨rfl, trivial⟩ ?_
          exact ⟨rfl, hB.keeps⟩

def fL_FnExactIsLabeling (fuel : Nat) (p0 : T_Problem) (p1 : T_Network) (p2 : List (List Int)) : Option Bool :=
  (fL_szProblem fuel p0 1048576) >>= fun x21 =>
  if decide (x21 < 0) then
    some true
  else
    (fL_szNetwork fuel p1 x21) >>= fun x29 =>
    if decide (x29 < 0) then
      some true
    else
      (fL_szIntSS fuel p2 x29) >>= fun x37 =>
      if decide (x37 < 0) then
        some true
      else
        (fL_toProblem fuel p0) >>= fun x45 =>
        (fL_toNetwork fuel p1) >>= fun x60 =>
        (fL_toIntSS fuel p2) >>= fun x78 =>
        (fS_IsLabeling fuel x45 x60 x78) >>= fun x89 =>
        (fL_toProblem fuel p0) >>= fun x210 =>
        (fL_toNetwork fuel p1) >>= fun x233 =>
        (fL_toIntSS fuel p2) >>= fun x259 =>
        (fI_IsLabeling fuel x210 x233 x259) >>= fun x270 =>
        (
          if x270.1 != x89.1 then
            some true
          else
            some (x270.2 != x89.2)) >>= fun q276 =>
        if q276 then
          some false
        else
          (fL_toProblem fuel p0) >>= fun x285 =>
          (fL_eqProblem fuel x210 x285) >>= fun x336 =>
          if !x336 then
            some false
          else
            (fL_toNetwork fuel p1) >>= fun x344 =>
            (fL_eqNetwork fuel x233 x344) >>= fun x403 =>
            if !x403 then
              some false
            else
              (fL_toIntSS fuel p2) >>= fun x411 =>
              (fL_eqIntSS fuel x259 x411) >>= fun x422 =>
              if !x422 then
                some false
              else
                some true

def pL_FnExactIsLabeling (w : World) (r : Bool) : Ending → World → Prop := fun e w' => e = .returned (.bool r) ∧ Keeps w w'
set_option maxRecDepth 100000 in
set_option maxHeartbeats 2000000 in
theorem cL_FnExactIsLabeling (fuel : Nat) (w : World) (u0 : List Value) (p0 : T_Problem) (g0 : Rp.rd zt w u0 p0) (u1 : List Value) (p1 : T_Network) (g1 : Rp.rd zt w u1 p1) (u2 : Value) (p2 : List (List Int)) (g2 : RdL zt w u2 p2) (r : Bool) (hF : fL_FnExactIsLabeling fuel p0 p1 p2 = some r) :
    Calls Try.prog 8 #[.agg u0.toArray, .agg u1.toArray, u2] w (pL_FnExactIsLabeling w r) := by
  unfold fL_FnExactIsLabeling at hF
  obtain ⟨v1, v3, rfl, h2, h4⟩ := g0
  obtain ⟨v5, v7, v9, rfl, h6, h8, h10⟩ := g1
  have hB : Bs (fun _ => 1) (col (fun _ => 1)) w w := Bs.start _ _
  refine calls_start (n := 76) (vs := [(.agg #[(.int .i64 p0.Labels), (.int .i64 p0.Degree), v1, v3]), (.agg #[v5, v7, v9]), u2]) Try.func8 rfl rfl ?_
  refine wpC_seq ?_
  refine wpC_region ?_
  refine st_op (by decide) trivial ?_
  refine wf_box (o := (col (fun _ => 1))) w.heap.size 11 hB.keeps.size (cs := [(.int .i64 p0.Labels), (.int .i64 p0.Degree), v1, v3]) rfl rfl ?_
  intro o11 w12 b13 h14 s15
  replace hB := hB.stp s15 (by decide)
  refine st_op (by decide) trivial ?_
  refine wf_box (o := o11) w.heap.size 12 hB.keeps.size (cs := [v5, v7, v9]) rfl rfl ?_
  intro o16 w17 b18 h19 s20
  replace h14 := h14.stp s20 (by decide)
  replace hB := hB.stp s20 (by decide)
  refine st_val (ex_assign rfl) (by decide) trivial ?_
  refine wpF_end (r := [(2, u2), (3, (.pointer (some ⟨b13, 0, none⟩))), (4, (.pointer (some ⟨b18, 0, none⟩)))]) ⟨rfl, rfl, rfl, trivial⟩ ?_
  refine nx ?_
  refine wpC_seq ?_
  refine wpC_region ?_
  refine st_val (ex_assign rfl) (by decide) trivial ?_
  refine wpF_end (r := [(2, u2), (3, (.pointer (some ⟨b13, 0, none⟩))), (4, (.pointer (some ⟨b18, 0, none⟩))), (7, (.int .i64 1048576))]) ⟨rfl, rfl, rfl, rfl, trivial⟩ ?_
  refine nx ?_
  refine wpC_seq ?_
  refine wpC_region ?_
  refine st_val (ex_loadA rfl Try.isAgg60 Try.sizeOf60 rfl h14.cells) (by decide) trivial ?_
  refine st_val (ex_move rfl) (by decide) trivial ?_
  obtain ⟨x21, hx21, hF⟩ := bind_some hF
  refine st_op (by decide) trivial ?_
  refine wf_call (cL_szProblem fuel w17 _ p0 (⟨_, _, rfl, (h2.keep hB.keeps), (h4.keep hB.keeps)⟩) 1048576 x21 hx21) Try.call37 ⟨rfl, rfl, trivial⟩ ?_
  rintro e26 w22 ⟨rfl, k23⟩
  have s25 := k23.stp 999 o16
  refine ⟨_, rfl, ?_⟩
  replace h14 := h14.stp s25 (by decide)
  replace h19 := h19.stp s25 (by decide)
  replace hB := hB.stp s25 (by decide)
  refine st_val (ex_assign rfl) (by decide) trivial ?_
  refine wpF_end (r := [(2, u2), (3, (.pointer (some ⟨b13, 0, none⟩))), (4, (.pointer (some ⟨b18, 0, none⟩))), (7, (.int .i64 x21))]) ⟨rfl, rfl, rfl, rfl, trivial⟩ ?_
  refine nx ?_
  refine wpC_seq ?_
  refine wpC_seq ?_
  refine wpC_region ?_
  refine st_val (ex_move rfl) (by decide) trivial ?_
  refine st_val (ex_lss rfl rfl) (by decide) trivial ?_
  refine wpF_end (r := [(2, u2), (3, (.pointer (some ⟨b13, 0, none⟩))), (4, (.pointer (some ⟨b18, 0, none⟩))), (7, (.int .i64 x21)), (19, (.bool (decide (x21 < 0))))]) ⟨rfl, rfl, rfl, rfl, rfl, trivial⟩ ?_
  refine nx ?_
  refine wpC_cond rfl (fun t27 => ?_) (fun t27 => ?_)
  · rw [if_pos t27] at hF
    refine wpC_seq ?_
    refine wpC_region ?_
    refine st_val (ex_assign rfl) (by decide) trivial ?_
    refine wpF_end (r := [(6, (.bool true))]) ⟨rfl, trivial⟩ ?_
    refine nx ?_
    refine wpC_ret ?_
    refine nt_ret ?_
    have e28 := Option.some.inj hF
    subst e28
    refine ret_post (P := Try.prog) (vs := [(.bool true)]) Try.results8 ⟨rfl, trivial⟩ ?_
    exact ⟨rfl, hB.keeps⟩
  · rw [if_neg (by rw [t27]; decide)] at hF
    refine wpC_skip ?_
    refine nx ?_
    refine wpC_seq ?_
    refine wpC_region ?_
    refine st_val (ex_loadA rfl Try.isAgg25 Try.sizeOf25 rfl h19.cells) (by decide) trivial ?_
    refine st_val (ex_move rfl) (by decide) trivial ?_
    obtain ⟨x29, hx29, hF⟩ := bind_some hF
    refine st_op (by decide) trivial ?_
    refine wf_call (cL_szNetwork fuel w22 _ p1 (⟨_, _, _, rfl, (h6.keep hB.keeps), (h8.keep hB.keeps), (h10.keep hB.keeps)⟩) x21 x29 hx29) Try.call13 ⟨rfl, rfl, trivial⟩ ?_
    rintro e34 w30 ⟨rfl, k31⟩
    have s33 := k31.stp 999 o16
    refine ⟨_, rfl, ?_⟩
    replace h14 := h14.stp s33 (by decide)
    replace h19 := h19.stp s33 (by decide)
    replace hB := hB.stp s33 (by decide)
    refine st_val (ex_assign rfl) (by decide) trivial ?_
    refine wpF_end (r := [(2, u2), (3, (.pointer (some ⟨b13, 0, none⟩))), (4, (.pointer (some ⟨b18, 0, none⟩))), (7, (.int .i64 x29))]) ⟨rfl, rfl, rfl, rfl, trivial⟩ ?_
    refine nx ?_
    refine wpC_seq ?_
    refine wpC_seq ?_
    refine wpC_region ?_
    refine st_val (ex_move rfl) (by decide) trivial ?_
    refine st_val (ex_lss rfl rfl) (by decide) trivial ?_
    refine wpF_end (r := [(2, u2), (3, (.pointer (some ⟨b13, 0, none⟩))), (4, (.pointer (some ⟨b18, 0, none⟩))), (7, (.int .i64 x29)), (24, (.bool (decide (x29 < 0))))]) ⟨rfl, rfl, rfl, rfl, rfl, trivial⟩ ?_
    refine nx ?_
    refine wpC_cond rfl (fun t35 => ?_) (fun t35 => ?_)
    · rw [if_pos t35] at hF
      refine wpC_seq ?_
      refine wpC_region ?_
      refine st_val (ex_assign rfl) (by decide) trivial ?_
      refine wpF_end (r := [(6, (.bool true))]) ⟨rfl, trivial⟩ ?_
      refine nx ?_
      refine wpC_ret ?_
      refine nt_ret ?_
      have e36 := Option.some.inj hF
      subst e36
      refine ret_post (P := Try.prog) (vs := [(.bool true)]) Try.results8 ⟨rfl, trivial⟩ ?_
      exact ⟨rfl, hB.keeps⟩
    · rw [if_neg (by rw [t35]; decide)] at hF
      refine wpC_skip ?_
      refine nx ?_
      refine wpC_seq ?_
      refine wpC_region ?_
      refine st_val (ex_move rfl) (by decide) trivial ?_
      refine st_val (ex_move rfl) (by decide) trivial ?_
      obtain ⟨x37, hx37, hF⟩ := bind_some hF
      refine st_op (by decide) trivial ?_
      refine wf_call (cL_szIntSS fuel w30 _ p2 (g2.keep hB.keeps) x29 x37 hx37) Try.call38 ⟨rfl, rfl, trivial⟩ ?_
      rintro e42 w38 ⟨rfl, k39⟩
      have s41 := k39.stp 999 o16
      refine ⟨_, rfl, ?_⟩
      replace h14 := h14.stp s41 (by decide)
      replace h19 := h19.stp s41 (by decide)
      replace hB := hB.stp s41 (by decide)
      refine st_val (ex_assign rfl) (by decide) trivial ?_
      refine wpF_end (r := [(2, u2), (3, (.pointer (some ⟨b13, 0, none⟩))), (4, (.pointer (some ⟨b18, 0, none⟩))), (7, (.int .i64 x37))]) ⟨rfl, rfl, rfl, rfl, trivial⟩ ?_
      refine nx ?_
      refine wpC_seq ?_
      refine wpC_seq ?_
      refine wpC_region ?_
      refine st_val (ex_move rfl) (by decide) trivial ?_
      refine st_val (ex_lss rfl rfl) (by decide) trivial ?_
      refine wpF_end (r := [(2, u2), (3, (.pointer (some ⟨b13, 0, none⟩))), (4, (.pointer (some ⟨b18, 0, none⟩))), (29, (.bool (decide (x37 < 0))))]) ⟨rfl, rfl, rfl, rfl, trivial⟩ ?_
      refine nx ?_
      refine wpC_cond rfl (fun t43 => ?_) (fun t43 => ?_)
      · rw [if_pos t43] at hF
        refine wpC_seq ?_
        refine wpC_region ?_
        refine st_val (ex_assign rfl) (by decide) trivial ?_
        refine wpF_end (r := [(6, (.bool true))]) ⟨rfl, trivial⟩ ?_
        refine nx ?_
        refine wpC_ret ?_
        refine nt_ret ?_
        have e44 := Option.some.inj hF
        subst e44
        refine ret_post (P := Try.prog) (vs := [(.bool true)]) Try.results8 ⟨rfl, trivial⟩ ?_
        exact ⟨rfl, hB.keeps⟩
      · rw [if_neg (by rw [t43]; decide)] at hF
        refine wpC_skip ?_
        refine nx ?_
        refine wpC_seq ?_
        obtain ⟨x45, hx45, hF⟩ := bind_some hF
        obtain ⟨x60, hx60, hF⟩ := bind_some hF
        obtain ⟨x78, hx78, hF⟩ := bind_some hF
        obtain ⟨x89, hx89, hF⟩ := bind_some hF
        refine wpC_drawn (o := o16) [(2, u2), (3, (.pointer (some ⟨b13, 0, none⟩))), (4, (.pointer (some ⟨b18, 0, none⟩)))] [2, 3, 4] [31, 32, 33, 34, 35, 36, 37, 30, 38, 39, 8] [[], [0], [], [2], [], [4], [1, 3, 5], [6], [7], [7], [8]] [none, none, none, none, none, none, none, none, none, none, none] [999, 999, 999, 999, 999, 999, 999, 999, 999, 999, 999] [0, 0, 0, 0, 0, 0, 0, 0, 0, 0, 0] [999] [fun v _ _ => v = (.agg #[(.int .i64 p0.Labels), (.int .i64 p0.Degree), v1, v3]), fun v o w9 => ∃ (c : List Value), v = .agg c.toArray ∧ Rp.rd o w9 c x45, fun v _ _ => v = (.agg #[v5, v7, v9]), fun v o w9 => ∃ (c : List Value), v = .agg c.toArray ∧ Rp.rd o w9 c x60, fun v _ _ => v = u2, fun v o w9 => ∃ g : List Hv, Ow w.heap.size 23 2036 o w9 v g ∧ Rws w.heap.size 3 2037 o w9 g x78, fun v _ _ => v = (.tuple #[(.bool x89.1), (.bool x89.2)]), fun v _ _ => v = (.tuple #[(.bool x89.1), (.bool x89.2)]), fun v _ _ => v = (.bool x89.1), fun v _ _ => v = (.bool x89.2), fun v _ _ => v = (.bool x89.1)] (fun o8 w8 => Bs (fun _ => 1) o8 w w8 ∧ Bx w.heap.size 11 o8 w8 b13 60 [(.int .i64 p0.Labels), (.int .i64 p0.Degree), v1, v3] ∧ Bx w.heap.size 12 o8 w8 b18 25 [v5, v7, v9]) follows_mixed (by kernel_rfl) rfl ⟨rfl, rfl, rfl, trivial⟩ ⟨hB, h14, h19⟩ ?_ ⟨st_eq _, fun _ _ _ _ _ _ h0 hb ⟨c, e, h⟩ hs => ⟨c, e, Rp.stp h hs h0.1⟩, st_eq _, fun _ _ _ _ _ _ h0 hb ⟨c, e, h⟩ hs => ⟨c, e, Rp.stp h hs h0.1⟩, st_eq _, fun _ _ _ _ _ _ h0 hb ⟨g, h, h2⟩ hs => ⟨g, h.stp hs h0.1 (Nat.ne_of_gt (Nat.lt_of_le_of_lt h0.2 (by decide))), h2.stp hs h0.1 (Nat.ne_of_gt (Nat.lt_of_le_of_lt h0.2 (by decide)))⟩, st_eq _, st_eq _, st_eq _, st_eq _, st_eq _, trivial⟩ ?_ ?_
        · rintro t9 o1 w1 o2 w2 ht9 ⟨hB, h14, h19⟩ hs9
          have ht9 : t9 = 999 := by simpa using ht9
          subst ht9
          all_goals exact ⟨hB.stp hs9 (by decide), h14.stp hs9 (by decide), h19.stp hs9 (by decide)⟩
        · refine ⟨?_, ?_, ?_, ?_, ?_, ?_, ?_, ?_, ?_, ?_, ?_, trivial⟩
          · rintro o95 w96 a97 ha ⟨hB, h14, h19⟩ -
            refine opS_of ha (trivial) ?_
            refine op1_val (ex_loadA rfl Try.isAgg60 Try.sizeOf60 rfl h14.cells) ?_
            exact ⟨_, Stp.refl _ _ _, rfl⟩
          · rintro o98 w99 a100 ha ⟨hB, h14, h19⟩ ⟨r101, -⟩
            have ha := Fr.cons (d := 31) ha r101
            refine opS_of ha (trivial) ?_
            refine wf_call (cL_toProblem fuel w99 o98 21 (by decide) _ p0 (⟨_, _, rfl, (h2.keep hB.keeps), (h4.keep hB.keeps)⟩) x45 hx45) Try.call40 ⟨rfl, trivial⟩ ?_
            rintro e110 w102 ⟨c103, o111, rfl, h104, h105, h106, k107, k108⟩
            have s109 := k107.stp' 999 k108
            refine ⟨_, rfl, ?_⟩
            obtain ⟨v112, v114, rfl, h113, h115⟩ := h104
            replace h105 : Dz 23 3 o111 w102 v112 x45.Nodes := h105
            replace h106 : Dz 23 3 o111 w102 v114 x45.Edges := h106
            replace h14 := h14.stp s109 (by decide)
            replace h19 := h19.stp s109 (by decide)
            replace hB := hB.stp s109 (by decide)
            exact ⟨_, s109, ⟨_, rfl, ⟨_, _, rfl, h113, h115⟩⟩⟩
          · rintro o116 w117 a118 ha ⟨hB, h14, h19⟩ -
            refine opS_of ha (trivial) ?_
            refine op1_val (ex_loadA rfl Try.isAgg25 Try.sizeOf25 rfl h19.cells) ?_
            exact ⟨_, Stp.refl _ _ _, rfl⟩
          · rintro o119 w120 a121 ha ⟨hB, h14, h19⟩ ⟨r122, -⟩
            have ha := Fr.cons (d := 33) ha r122
            refine opS_of ha (trivial) ?_
            refine wf_call (cL_toNetwork fuel w120 o119 22 (by decide) _ p1 (⟨_, _, _, rfl, (h6.keep hB.keeps), (h8.keep hB.keeps), (h10.keep hB.keeps)⟩) x60 hx60) Try.call15 ⟨rfl, trivial⟩ ?_
            rintro e132 w123 ⟨c124, o133, rfl, h125, h126, h127, h128, k129, k130⟩
            have s131 := k129.stp' 999 k130
            refine ⟨_, rfl, ?_⟩
            obtain ⟨v134, v136, v138, rfl, h135, h137, h139⟩ := h125
            replace h126 : Dz 110 115 o133 w123 v134 x60.Ends := h126
            replace h127 : Of 3 o133 w123 v136 x60.Ids := h127
            replace h128 : Of 3 o133 w123 v138 x60.Inputs := h128
            replace h14 := h14.stp s131 (by decide)
            replace h19 := h19.stp s131 (by decide)
            replace hB := hB.stp s131 (by decide)
            exact ⟨_, s131, ⟨_, rfl, ⟨_, _, _, rfl, h135, h137, h139⟩⟩⟩
          · rintro o140 w141 a142 ha ⟨hB, h14, h19⟩ -
            refine opS_of ha (trivial) ?_
            refine op1_val (ex_move rfl) ?_
            exact ⟨_, Stp.refl _ _ _, rfl⟩
          · rintro o143 w144 a145 ha ⟨hB, h14, h19⟩ ⟨r146, -⟩
            have ha := Fr.cons (d := 35) ha r146
            refine opS_of ha (trivial) ?_
            refine wf_call (cL_toIntSS fuel w144 o143 2036 (by decide) _ p2 (g2.keep hB.keeps) x78 hx78) Try.call41 ⟨rfl, trivial⟩ ?_
            rintro e155 w147 ⟨v148, g150, o156, rfl, h149, h151, k152, k153⟩
            have s154 := k152.stp' 999 k153
            replace h149 := h149.mono hB.keeps.size
            replace h151 := h151.mono hB.keeps.size
            refine ⟨_, rfl, ?_⟩
            replace h14 := h14.stp s154 (by decide)
            replace h19 := h19.stp s154 (by decide)
            replace hB := hB.stp s154 (by decide)
            exact ⟨_, s154, ⟨_, h149, h151⟩⟩
          · rintro o157 w158 a159 ha ⟨hB, h14, h19⟩ ⟨r160, r161, r162, -⟩
            obtain ⟨c163, e164, h165⟩ := r160
            obtain ⟨v166, v168, rfl, h167, h169⟩ := h165
            have ha := Fr.cons (d := 32) ha e164
            obtain ⟨c170, e171, h172⟩ := r161
            obtain ⟨v173, v175, v177, rfl, h174, h176, h178⟩ := h172
            have ha := Fr.cons (d := 34) ha e171
            replace r162 : ∃ g : List Hv, Ow w.heap.size 23 2036 o157 w158 (a159.tmps.getD 36 undef) g ∧ Rws w.heap.size 3 2037 o157 w158 g x78 := r162
            generalize e180 : a159.tmps.getD 36 undef = v179 at r162
            obtain ⟨g181, h182, h183⟩ := r162
            have ha := Fr.cons (d := 36) ha e180
            refine opS_of ha (trivial) ?_
            refine wf_call (cS_IsLabeling fuel w158 _ x45 (⟨_, _, rfl, h167.z, h169.z⟩) _ x60 (⟨_, _, _, rfl, h174.z, h176.z, h178.z⟩) _ x78 (h183.z h182) x89 hx89) Try.call39 ⟨rfl, rfl, rfl, trivial⟩ ?_
            rintro e188 w184 ⟨rfl, k185⟩
            have s187 := k185.stp 999 o157
            refine ⟨_, rfl, ?_⟩
            replace h167 := h167.stp s187 (by decide)
            replace h169 := h169.stp s187 (by decide)
            replace h174 := h174.stp s187 (by decide)
            replace h176 := h176.stp s187 (by decide)
            replace h178 := h178.stp s187 (by decide)
            replace h182 := h182.stp s187 (by decide) (by decide)
            replace h183 := h183.stp s187 (by decide) (by decide)
            replace h14 := h14.stp s187 (by decide)
            replace h19 := h19.stp s187 (by decide)
            replace hB := hB.stp s187 (by decide)
            exact ⟨_, s187, rfl⟩
          · rintro o189 w190 a191 ha ⟨hB, h14, h19⟩ ⟨r192, -⟩
            have ha := Fr.cons (d := 37) ha r192
            refine opS_of ha (trivial) ?_
            refine op1_val (ex_move rfl) ?_
            exact ⟨_, Stp.refl _ _ _, rfl⟩
          · rintro o193 w194 a195 ha ⟨hB, h14, h19⟩ ⟨r196, -⟩
            have ha := Fr.cons (d := 30) ha r196
            refine opS_of ha (trivial) ?_
            refine op1_val (ex_extract rfl rfl) ?_
            exact ⟨_, Stp.refl _ _ _, rfl⟩
          · rintro o197 w198 a199 ha ⟨hB, h14, h19⟩ ⟨r200, -⟩
            have ha := Fr.cons (d := 30) ha r200
            refine opS_of ha (trivial) ?_
            refine op1_val (ex_extract rfl rfl) ?_
            exact ⟨_, Stp.refl _ _ _, rfl⟩
          · rintro o201 w202 a203 ha ⟨hB, h14, h19⟩ ⟨r204, -⟩
            have ha := Fr.cons (d := 38) ha r204
            refine opS_of ha (trivial) ?_
            refine op1_val (ex_assign rfl) ?_
            exact ⟨_, Stp.refl _ _ _, rfl⟩
        rintro o205 w206 a207 ha ⟨hB, h14, h19⟩ ⟨-, -, -, -, -, -, -, -, -, r208, r209, -⟩
        have ha := Fr.cons (d := 39) ha r208
        have ha := Fr.cons (d := 8) ha r209
        refine wl_of ha ?_
        simp only [List.length_cons, List.length_nil, Nat.zero_add, Nat.reduceAdd, List.drop_succ_cons, List.drop_zero]
        refine st_val (ex_assign rfl) (by decide) trivial ?_
        refine wpF_end (r := [(2, u2), (3, (.pointer (some ⟨b13, 0, none⟩))), (4, (.pointer (some ⟨b18, 0, none⟩))), (8, (.bool x89.1)), (9, (.bool x89.2))]) ⟨rfl, rfl, rfl, rfl, rfl, trivial⟩ ?_
        refine nx ?_
        refine wpC_seq ?_
        refine wpC_region ?_
        refine st_val (ex_loadA rfl Try.isAgg60 Try.sizeOf60 rfl h14.cells) (by decide) trivial ?_
        obtain ⟨x210, hx210, hF⟩ := bind_some hF
        refine st_op (by decide) trivial ?_
        refine wf_call (cL_toProblem fuel w206 o205 24 (by decide) _ p0 (⟨_, _, rfl, (h2.keep hB.keeps), (h4.keep hB.keeps)⟩) x210 hx210) Try.call40 ⟨rfl, trivial⟩ ?_
        rintro e219 w211 ⟨c212, o220, rfl, h213, h214, h215, k216, k217⟩
        have s218 := k216.stp' 24 k217
        refine ⟨_, rfl, ?_⟩
        obtain ⟨v221, v223, rfl, h222, h224⟩ := h213
        replace h214 : Dz 23 3 o220 w211 v221 x210.Nodes := h214
        replace h215 : Dz 23 3 o220 w211 v223 x210.Edges := h215
        replace h14 := h14.stp s218 (by decide)
        replace h19 := h19.stp s218 (by decide)
        replace hB := hB.stp s218 (by decide)
        refine st_op (by decide) trivial ?_
        refine wf_alloc (o := o220) w.heap.size 25 hB.keeps.size (cs := [(.int .i64 0), (.int .i64 0), (.slice none 0 0), (.slice none 0 0)]) Try.zeroValue64 rfl ?_
        intro o225 w226 b227 h228 s229
        replace h222 := h222.stp s229 (by decide)
        replace h214 := h214.stp s229 (by decide)
        replace h224 := h224.stp s229 (by decide)
        replace h215 := h215.stp s229 (by decide)
        replace h14 := h14.stp s229 (by decide)
        replace h19 := h19.stp s229 (by decide)
        replace hB := hB.stp s229 (by decide)
        refine st_op0 trivial ?_
        refine wf_storeA h228 rfl rfl rfl info1_t_impl_Problem_LLb (by intro c hc; simp only [List.mem_cons, List.not_mem_nil, or_false] at hc; rcases hc with rfl | rfl | rfl | rfl <;> first | rfl | exact h222.one1 | exact h224.one1) ?_
        intro w230 h232 s231
        replace h222 := h222.stp s231 (by decide)
        replace h214 := h214.stp s231 (by decide)
        replace h224 := h224.stp s231 (by decide)
        replace h215 := h215.stp s231 (by decide)
        replace h14 := h14.stp s231 (by decide)
        replace h19 := h19.stp s231 (by decide)
        replace hB := hB.stp s231 (by decide)
        refine wpF_end (r := [(2, u2), (3, (.pointer (some ⟨b13, 0, none⟩))), (4, (.pointer (some ⟨b18, 0, none⟩))), (8, (.bool x89.1)), (9, (.bool x89.2)), (10, (.pointer (some ⟨b227, 0, none⟩)))]) ⟨rfl, rfl, rfl, rfl, rfl, rfl, trivial⟩ ?_
        refine nx ?_
        refine wpC_seq ?_
        refine wpC_region ?_
        refine st_val (ex_loadA rfl Try.isAgg25 Try.sizeOf25 rfl h19.cells) (by decide) trivial ?_
        obtain ⟨x233, hx233, hF⟩ := bind_some hF
        refine st_op (by decide) trivial ?_
        refine wf_call (cL_toNetwork fuel w230 o225 26 (by decide) _ p1 (⟨_, _, _, rfl, (h6.keep hB.keeps), (h8.keep hB.keeps), (h10.keep hB.keeps)⟩) x233 hx233) Try.call15 ⟨rfl, trivial⟩ ?_
        rintro e243 w234 ⟨c235, o244, rfl, h236, h237, h238, h239, k240, k241⟩
        have s242 := k240.stp' 26 k241
        refine ⟨_, rfl, ?_⟩
        obtain ⟨v245, v247, v249, rfl, h246, h248, h250⟩ := h236
        replace h237 : Dz 110 115 o244 w234 v245 x233.Ends := h237
        replace h238 : Of 3 o244 w234 v247 x233.Ids := h238
        replace h239 : Of 3 o244 w234 v249 x233.Inputs := h239
        replace h14 := h14.stp s242 (by decide)
        replace h19 := h19.stp s242 (by decide)
        replace h232 := h232.stp s242 (by decide)
        replace h222 := h222.stp s242 (by decide)
        replace h214 := h214.stp s242 (by decide)
        replace h224 := h224.stp s242 (by decide)
        replace h215 := h215.stp s242 (by decide)
        replace hB := hB.stp s242 (by decide)
        refine st_op (by decide) trivial ?_
        refine wf_alloc (o := o244) w.heap.size 27 hB.keeps.size (cs := [(.slice none 0 0), (.slice none 0 0), (.slice none 0 0)]) Try.zeroValue31 rfl ?_
        intro o251 w252 b253 h254 s255
        replace h246 := h246.stp s255 (by decide)
        replace h237 := h237.stp s255 (by decide)
        replace h248 := h248.stp s255 (by decide)
        replace h238 := h238.stp s255 (by decide)
        replace h250 := h250.stp s255 (by decide)
        replace h239 := h239.stp s255 (by decide)
        replace h14 := h14.stp s255 (by decide)
        replace h19 := h19.stp s255 (by decide)
        replace h232 := h232.stp s255 (by decide)
        replace h222 := h222.stp s255 (by decide)
        replace h214 := h214.stp s255 (by decide)
        replace h224 := h224.stp s255 (by decide)
        replace h215 := h215.stp s255 (by decide)
        replace hB := hB.stp s255 (by decide)
        refine st_op0 trivial ?_
        refine wf_storeA h254 rfl rfl rfl info1_t_impl_Network_LLb (by intro c hc; simp only [List.mem_cons, List.not_mem_nil, or_false] at hc; rcases hc with rfl | rfl | rfl <;> first | rfl | exact h246.one1 | exact h248.one1 | exact h250.one1) ?_
        intro w256 h258 s257
        replace h246 := h246.stp s257 (by decide)
        replace h237 := h237.stp s257 (by decide)
        replace h248 := h248.stp s257 (by decide)
        replace h238 := h238.stp s257 (by decide)
        replace h250 := h250.stp s257 (by decide)
        replace h239 := h239.stp s257 (by decide)
        replace h14 := h14.stp s257 (by decide)
        replace h19 := h19.stp s257 (by decide)
        replace h232 := h232.stp s257 (by decide)
        replace h222 := h222.stp s257 (by decide)
        replace h214 := h214.stp s257 (by decide)
        replace h224 := h224.stp s257 (by decide)
        replace h215 := h215.stp s257 (by decide)
        replace hB := hB.stp s257 (by decide)
        refine wpF_end (r := [(2, u2), (3, (.pointer (some ⟨b13, 0, none⟩))), (4, (.pointer (some ⟨b18, 0, none⟩))), (8, (.bool x89.1)), (9, (.bool x89.2)), (10, (.pointer (some ⟨b227, 0, none⟩))), (11, (.pointer (some ⟨b253, 0, none⟩)))]) ⟨rfl, rfl, rfl, rfl, rfl, rfl, rfl, trivial⟩ ?_
        refine nx ?_
        refine wpC_seq ?_
        refine wpC_region ?_
        refine st_val (ex_move rfl) (by decide) trivial ?_
        obtain ⟨x259, hx259, hF⟩ := bind_some hF
        refine st_op (by decide) trivial ?_
        refine wf_call (cL_toIntSS fuel w256 o251 28 (by decide) _ p2 (g2.keep hB.keeps) x259 hx259) Try.call41 ⟨rfl, trivial⟩ ?_
        rintro e268 w260 ⟨v261, g263, o269, rfl, h262, h264, k265, k266⟩
        have s267 := k265.stp' 28 k266
        replace h262 := h262.mono hB.keeps.size
        replace h264 := h264.mono hB.keeps.size
        refine ⟨_, rfl, ?_⟩
        replace h14 := h14.stp s267 (by decide)
        replace h19 := h19.stp s267 (by decide)
        replace h232 := h232.stp s267 (by decide)
        replace h222 := h222.stp s267 (by decide)
        replace h214 := h214.stp s267 (by decide)
        replace h224 := h224.stp s267 (by decide)
        replace h215 := h215.stp s267 (by decide)
        replace h258 := h258.stp s267 (by decide)
        replace h246 := h246.stp s267 (by decide)
        replace h237 := h237.stp s267 (by decide)
        replace h248 := h248.stp s267 (by decide)
        replace h238 := h238.stp s267 (by decide)
        replace h250 := h250.stp s267 (by decide)
        replace h239 := h239.stp s267 (by decide)
        replace hB := hB.stp s267 (by decide)
        refine st_val (ex_assign rfl) (by decide) trivial ?_
        refine wpF_end (r := [(2, u2), (3, (.pointer (some ⟨b13, 0, none⟩))), (4, (.pointer (some ⟨b18, 0, none⟩))), (8, (.bool x89.1)), (9, (.bool x89.2)), (10, (.pointer (some ⟨b227, 0, none⟩))), (11, (.pointer (some ⟨b253, 0, none⟩))), (12, v261)]) ⟨rfl, rfl, rfl, rfl, rfl, rfl, rfl, rfl, trivial⟩ ?_
        refine nx ?_
        refine wpC_seq ?_
        refine wpC_region ?_
        refine st_val (ex_loadA rfl Try.isAgg64 Try.sizeOf64 rfl h232.cells) (by decide) trivial ?_
        refine st_val (ex_loadA rfl Try.isAgg31 Try.sizeOf31 rfl h258.cells) (by decide) trivial ?_
        refine st_val (ex_move rfl) (by decide) trivial ?_
        obtain ⟨x270, hx270, hF⟩ := bind_some hF
        refine st_op (by decide) trivial ?_
        refine wf_call (cI_IsLabeling fuel w260 _ x210 (⟨_, _, rfl, h222.z, h224.z⟩) _ x233 (⟨_, _, _, rfl, h246.z, h248.z, h250.z⟩) _ x259 (h264.z h262) x270 hx270) Try.call42 ⟨rfl, rfl, rfl, trivial⟩ ?_
        rintro e275 w271 ⟨rfl, k272⟩
        have s274 := k272.stp 999 o269
        refine ⟨_, rfl, ?_⟩
        replace h262 := h262.stp s274 (by decide) (by decide)
        replace h264 := h264.stp s274 (by decide) (by decide)
        replace h222 := h222.stp s274 (by decide)
        replace h214 := h214.stp s274 (by decide)
        replace h224 := h224.stp s274 (by decide)
        replace h215 := h215.stp s274 (by decide)
        replace h246 := h246.stp s274 (by decide)
        replace h237 := h237.stp s274 (by decide)
        replace h248 := h248.stp s274 (by decide)
        replace h238 := h238.stp s274 (by decide)
        replace h250 := h250.stp s274 (by decide)
        replace h239 := h239.stp s274 (by decide)
        replace h14 := h14.stp s274 (by decide)
        replace h19 := h19.stp s274 (by decide)
        replace h232 := h232.stp s274 (by decide)
        replace h258 := h258.stp s274 (by decide)
        replace hB := hB.stp s274 (by decide)
        refine st_val (ex_move rfl) (by decide) trivial ?_
        refine st_val (ex_extract rfl rfl) (by decide) trivial ?_
        refine st_val (ex_extract rfl rfl) (by decide) trivial ?_
        refine st_val (ex_assign rfl) (by decide) trivial ?_
        refine st_val (ex_assign rfl) (by decide) trivial ?_
        refine wpF_end (r := [(2, u2), (3, (.pointer (some ⟨b13, 0, none⟩))), (4, (.pointer (some ⟨b18, 0, none⟩))), (8, (.bool x89.1)), (9, (.bool x89.2)), (10, (.pointer (some ⟨b227, 0, none⟩))), (11, (.pointer (some ⟨b253, 0, none⟩))), (12, v261), (13, (.bool x270.1)), (14, (.bool x270.2))]) ⟨rfl, rfl, rfl, rfl, rfl, rfl, rfl, rfl, rfl, rfl, trivial⟩ ?_
        refine nx ?_
        refine wpC_seq ?_
        refine wpC_seq ?_
        refine wpC_region ?_
        refine st_val (ex_move rfl) (by decide) trivial ?_
        refine st_val (ex_move rfl) (by decide) trivial ?_
        refine st_val (ex_bneq rfl rfl Try.underlying4) (by decide) trivial ?_
        refine st_val (ex_move rfl) (by decide) trivial ?_
        obtain ⟨q276, hq276, hF⟩ := bind_some hF
        refine wpF_cutAt 4 (fun a278 w277 => Fr a278 76 [(2, u2), (3, (.pointer (some ⟨b13, 0, none⟩))), (4, (.pointer (some ⟨b18, 0, none⟩))), (10, (.pointer (some ⟨b227, 0, none⟩))), (11, (.pointer (some ⟨b253, 0, none⟩))), (12, v261), (60, (.bool q276))] ∧ Keeps w271 w277) ?_ ?_
        all_goals simp only [List.take_succ_cons, List.take_zero, List.drop_succ_cons, List.drop_zero]
        · have kp : Keeps w271 w271 := Keeps.refl _
          rcases Bool.eq_false_or_eq_true (x270.1 != x89.1) with t279 | t279
          · rw [if_pos t279] at hq276
            refine st_no rfl rfl (by rw [t279]; rfl) (by decide) ?_
            refine st_no rfl rfl (by rw [t279]; rfl) (by decide) ?_
            refine st_no rfl rfl (by rw [t279]; rfl) (by decide) ?_
            refine st_val (ex_pick_t (congrArg (fun b => some (Value.bool b)) t279) rfl) (by decide) trivial ?_
            have hq2762 := Option.some.inj hq276
            refine wpF_end (r := [(2, u2), (3, (.pointer (some ⟨b13, 0, none⟩))), (4, (.pointer (some ⟨b18, 0, none⟩))), (10, (.pointer (some ⟨b227, 0, none⟩))), (11, (.pointer (some ⟨b253, 0, none⟩))), (12, v261), (60, (.bool true))]) ⟨rfl, rfl, rfl, rfl, rfl, rfl, rfl, trivial⟩ ?_
            subst hq2762
            refine np_norm (fun a ha => ⟨ha, kp⟩)
          · rw [if_neg (by rw [t279]; decide)] at hq276
            refine st_val (ex_move rfl) (by decide) ⟨_, rfl, (congrArg (fun b => some (Value.bool b)) t279)⟩ ?_
            refine st_val (ex_move rfl) (by decide) ⟨_, rfl, (congrArg (fun b => some (Value.bool b)) t279)⟩ ?_
            refine st_val (ex_bneq rfl rfl Try.underlying4) (by decide) ⟨_, rfl, (congrArg (fun b => some (Value.bool b)) t279)⟩ ?_
            refine st_val (ex_pick_f (congrArg (fun b => some (Value.bool b)) t279) rfl) (by decide) trivial ?_
            have hq2762 := Option.some.inj hq276
            refine wpF_end (r := [(2, u2), (3, (.pointer (some ⟨b13, 0, none⟩))), (4, (.pointer (some ⟨b18, 0, none⟩))), (10, (.pointer (some ⟨b227, 0, none⟩))), (11, (.pointer (some ⟨b253, 0, none⟩))), (12, v261), (60, (.bool (x270.2 != x89.2)))]) ⟨rfl, rfl, rfl, rfl, rfl, rfl, rfl, trivial⟩ ?_
            subst hq2762
            refine np_norm (fun a ha => ⟨ha, kp⟩)
        rintro a282 w277 ⟨ha, k280⟩
        have s281 := k280.stp 999 o269
        replace h262 := h262.stp s281 (by decide) (by decide)
        replace h264 := h264.stp s281 (by decide) (by decide)
        replace h14 := h14.stp s281 (by decide)
        replace h19 := h19.stp s281 (by decide)
        replace h232 := h232.stp s281 (by decide)
        replace h222 := h222.stp s281 (by decide)
        replace h214 := h214.stp s281 (by decide)
        replace h224 := h224.stp s281 (by decide)
        replace h215 := h215.stp s281 (by decide)
        replace h258 := h258.stp s281 (by decide)
        replace h246 := h246.stp s281 (by decide)
        replace h237 := h237.stp s281 (by decide)
        replace h248 := h248.stp s281 (by decide)
        replace h238 := h238.stp s281 (by decide)
        replace h250 := h250.stp s281 (by decide)
        replace h239 := h239.stp s281 (by decide)
        replace hB := hB.stp s281 (by decide)
        refine wl_of ha ?_
        refine wpF_end (r := [(2, u2), (3, (.pointer (some ⟨b13, 0, none⟩))), (4, (.pointer (some ⟨b18, 0, none⟩))), (10, (.pointer (some ⟨b227, 0, none⟩))), (11, (.pointer (some ⟨b253, 0, none⟩))), (12, v261), (60, (.bool q276))]) ⟨rfl, rfl, rfl, rfl, rfl, rfl, rfl, trivial⟩ ?_
        refine nx ?_
        refine wpC_cond rfl (fun t283 => ?_) (fun t283 => ?_)
        · rw [if_pos t283] at hF
          refine wpC_seq ?_
          refine wpC_region ?_
          refine st_val (ex_assign rfl) (by decide) trivial ?_
          refine wpF_end (r := [(6, (.bool false))]) ⟨rfl, trivial⟩ ?_
          refine nx ?_
          refine wpC_ret ?_
          refine nt_ret ?_
          have e284 := Option.some.inj hF
          subst e284
          refine ret_post (P := Try.prog) (vs := [(.bool false)]) Try.results8 ⟨rfl, trivial⟩ ?_
          exact ⟨rfl, hB.keeps⟩
        · rw [if_neg (by rw [t283]; decide)] at hF
          refine wpC_skip ?_
          refine nx ?_
          refine wpC_seq ?_
          refine wpC_seq ?_
          obtain ⟨x285, hx285, hF⟩ := bind_some hF
          refine wpC_drawn (o := o269) [(2, u2), (3, (.pointer (some ⟨b13, 0, none⟩))), (4, (.pointer (some ⟨b18, 0, none⟩))), (10, (.pointer (some ⟨b227, 0, none⟩))), (11, (.pointer (some ⟨b253, 0, none⟩))), (12, v261)] [2, 3, 4, 10, 11, 12] [61, 62, 63] [[], [], [1]] [none, none, none] [999, 999, 999] [0, 0, 0] [999] [fun v _ _ => v = (.agg #[(.int .i64 x210.Labels), (.int .i64 x210.Degree), v221, v223]), fun v _ _ => v = (.agg #[(.int .i64 p0.Labels), (.int .i64 p0.Degree), v1, v3]), fun v o w9 => ∃ (c : List Value), v = .agg c.toArray ∧ Rp.rd o w9 c x285] (fun o8 w8 => Bs (fun _ => 1) o8 w w8 ∧ Ow w.heap.size 23 28 o8 w8 v261 g263 ∧ Rws w.heap.size 3 29 o8 w8 g263 x259 ∧ Bx w.heap.size 11 o8 w8 b13 60 [(.int .i64 p0.Labels), (.int .i64 p0.Degree), v1, v3] ∧ Bx w.heap.size 12 o8 w8 b18 25 [v5, v7, v9] ∧ Bx w.heap.size 25 o8 w8 b227 64 [(.int .i64 x210.Labels), (.int .i64 x210.Degree), v221, v223] ∧ RdL o8 w8 v221 (x210.Nodes : List (List Int)) ∧ Dz 23 3 o8 w8 v221 (x210.Nodes : List (List Int)) ∧ RdL o8 w8 v223 (x210.Edges : List (List Int)) ∧ Dz 23 3 o8 w8 v223 (x210.Edges : List (List Int)) ∧ Bx w.heap.size 27 o8 w8 b253 31 [v245, v247, v249] ∧ RdL o8 w8 v245 (x233.Ends : List (List T_End)) ∧ Dz 110 115 o8 w8 v245 (x233.Ends : List (List T_End)) ∧ RdL o8 w8 v247 (x233.Ids : List Int) ∧ Of 3 o8 w8 v247 (x233.Ids : List Int) ∧ RdL o8 w8 v249 (x233.Inputs : List Int) ∧ Of 3 o8 w8 v249 (x233.Inputs : List Int)) follows_mixed (by kernel_rfl) rfl ⟨rfl, rfl, rfl, rfl, rfl, rfl, trivial⟩ ⟨hB, h262, h264, h14, h19, h232, h222, h214, h224, h215, h258, h246, h237, h248, h238, h250, h239⟩ ?_ ⟨st_eq _, st_eq _, fun _ _ _ _ _ _ h0 hb ⟨c, e, h⟩ hs => ⟨c, e, Rp.stp h hs h0.1⟩, trivial⟩ ?_ ?_
          · rintro t9 o1 w1 o2 w2 ht9 ⟨hB, h262, h264, h14, h19, h232, h222, h214, h224, h215, h258, h246, h237, h248, h238, h250, h239⟩ hs9
            have ht9 : t9 = 999 := by simpa using ht9
            subst ht9
            all_goals exact ⟨hB.stp hs9 (by decide), h262.stp hs9 (by decide) (by decide), h264.stp hs9 (by decide) (by decide), h14.stp hs9 (by decide), h19.stp hs9 (by decide), h232.stp hs9 (by decide), h222.stp hs9 (by decide), h214.stp hs9 (by decide), h224.stp hs9 (by decide), h215.stp hs9 (by decide), h258.stp hs9 (by decide), h246.stp hs9 (by decide), h237.stp hs9 (by decide), h248.stp hs9 (by decide), h238.stp hs9 (by decide), h250.stp hs9 (by decide), h239.stp hs9 (by decide)⟩
          · refine ⟨?_, ?_, ?_, trivial⟩
            · rintro o300 w301 a302 ha ⟨hB, h262, h264, h14, h19, h232, h222, h214, h224, h215, h258, h246, h237, h248, h238, h250, h239⟩ -
              refine opS_of ha (trivial) ?_
              refine op1_val (ex_loadA rfl Try.isAgg64 Try.sizeOf64 rfl h232.cells) ?_
              exact ⟨_, Stp.refl _ _ _, rfl⟩
            · rintro o303 w304 a305 ha ⟨hB, h262, h264, h14, h19, h232, h222, h214, h224, h215, h258, h246, h237, h248, h238, h250, h239⟩ -
              refine opS_of ha (trivial) ?_
              refine op1_val (ex_loadA rfl Try.isAgg60 Try.sizeOf60 rfl h14.cells) ?_
              exact ⟨_, Stp.refl _ _ _, rfl⟩
            · rintro o306 w307 a308 ha ⟨hB, h262, h264, h14, h19, h232, h222, h214, h224, h215, h258, h246, h237, h248, h238, h250, h239⟩ ⟨r309, -⟩
              have ha := Fr.cons (d := 62) ha r309
              refine opS_of ha (trivial) ?_
              refine wf_call (cL_toProblem fuel w307 o306 32 (by decide) _ p0 (⟨_, _, rfl, (h2.keep hB.keeps), (h4.keep hB.keeps)⟩) x285 hx285) Try.call40 ⟨rfl, trivial⟩ ?_
              rintro e318 w310 ⟨c311, o319, rfl, h312, h313, h314, k315, k316⟩
              have s317 := k315.stp' 999 k316
              refine ⟨_, rfl, ?_⟩
              obtain ⟨v320, v322, rfl, h321, h323⟩ := h312
              replace h313 : Dz 23 3 o319 w310 v320 x285.Nodes := h313
              replace h314 : Dz 23 3 o319 w310 v322 x285.Edges := h314
              replace h262 := h262.stp s317 (by decide) (by decide)
              replace h264 := h264.stp s317 (by decide) (by decide)
              replace h14 := h14.stp s317 (by decide)
              replace h19 := h19.stp s317 (by decide)
              replace h232 := h232.stp s317 (by decide)
              replace h222 := h222.stp s317 (by decide)
              replace h214 := h214.stp s317 (by decide)
              replace h224 := h224.stp s317 (by decide)
              replace h215 := h215.stp s317 (by decide)
              replace h258 := h258.stp s317 (by decide)
              replace h246 := h246.stp s317 (by decide)
              replace h237 := h237.stp s317 (by decide)
              replace h248 := h248.stp s317 (by decide)
              replace h238 := h238.stp s317 (by decide)
              replace h250 := h250.stp s317 (by decide)
              replace h239 := h239.stp s317 (by decide)
              replace hB := hB.stp s317 (by decide)
              exact ⟨_, s317, ⟨_, rfl, ⟨_, _, rfl, h321, h323⟩⟩⟩
          rintro o324 w325 a326 ha ⟨hB, h262, h264, h14, h19, h232, h222, h214, h224, h215, h258, h246, h237, h248, h238, h250, h239⟩ ⟨r327, -, r328, -⟩
          have ha := Fr.cons (d := 61) ha r327
          obtain ⟨c329, e330, h331⟩ := r328
          obtain ⟨v332, v334, rfl, h333, h335⟩ := h331
          have ha := Fr.cons (d := 63) ha e330
          refine wl_of ha ?_
          simp only [List.length_cons, List.length_nil, Nat.zero_add, Nat.reduceAdd, List.drop_succ_cons, List.drop_zero]
          obtain ⟨x336, hx336, hF⟩ := bind_some hF
          refine st_op (by decide) trivial ?_
          refine wf_call (cL_eqProblem fuel w325 _ x210 (⟨_, _, rfl, h222.z, h224.z⟩) _ x285 (⟨_, _, rfl, h333.z, h335.z⟩) x336 hx336) Try.call43 ⟨rfl, rfl, trivial⟩ ?_
          rintro e341 w337 ⟨rfl, k338⟩
          have s340 := k338.stp 999 o324
          refine ⟨_, rfl, ?_⟩
          replace h262 := h262.stp s340 (by decide) (by decide)
          replace h264 := h264.stp s340 (by decide) (by decide)
          replace h222 := h222.stp s340 (by decide)
          replace h214 := h214.stp s340 (by decide)
          replace h224 := h224.stp s340 (by decide)
          replace h215 := h215.stp s340 (by decide)
          replace h333 := h333.stp s340 (by decide)
          replace h335 := h335.stp s340 (by decide)
          replace h14 := h14.stp s340 (by decide)
          replace h19 := h19.stp s340 (by decide)
          replace h232 := h232.stp s340 (by decide)
          replace h258 := h258.stp s340 (by decide)
          replace h246 := h246.stp s340 (by decide)
          replace h237 := h237.stp s340 (by decide)
          replace h248 := h248.stp s340 (by decide)
          replace h238 := h238.stp s340 (by decide)
          replace h250 := h250.stp s340 (by decide)
          replace h239 := h239.stp s340 (by decide)
          replace hB := hB.stp s340 (by decide)
          refine st_val (ex_not rfl) (by decide) trivial ?_
          refine wpF_end (r := [(2, u2), (4, (.pointer (some ⟨b18, 0, none⟩))), (11, (.pointer (some ⟨b253, 0, none⟩))), (12, v261), (65, (.bool (!x336)))]) ⟨rfl, rfl, rfl, rfl, rfl, trivial⟩ ?_
          refine nx ?_
          refine wpC_cond rfl (fun t342 => ?_) (fun t342 => ?_)
          · rw [if_pos t342] at hF
            refine wpC_seq ?_
            refine wpC_region ?_
            refine st_val (ex_assign rfl) (by decide) trivial ?_
            refine wpF_end (r := [(6, (.bool false))]) ⟨rfl, trivial⟩ ?_
            refine nx ?_
            refine wpC_ret ?_
            refine nt_ret ?_
            have e343 := Option.some.inj hF
            subst e343
            refine ret_post (P := Try.prog) (vs := [(.bool false)]) Try.results8 ⟨rfl, trivial⟩ ?_
            exact ⟨rfl, hB.keeps⟩
          · rw [if_neg (by rw [t342]; decide)] at hF
            refine wpC_skip ?_
            refine nx ?_
            refine wpC_seq ?_
            refine wpC_seq ?_
            obtain ⟨x344, hx344, hF⟩ := bind_some hF
            refine wpC_drawn (o := o324) [(2, u2), (4, (.pointer (some ⟨b18, 0, none⟩))), (11, (.pointer (some ⟨b253, 0, none⟩))), (12, v261)] [2, 4, 11, 12] [66, 67, 68] [[], [], [1]] [none, none, none] [999, 999, 999] [0, 0, 0] [999] [fun v _ _ => v = (.agg #[v245, v247, v249]), fun v _ _ => v = (.agg #[v5, v7, v9]), fun v o w9 => ∃ (c : List Value), v = .agg c.toArray ∧ Rp.rd o w9 c x344] (fun o8 w8 => Bs (fun _ => 1) o8 w w8 ∧ Ow w.heap.size 23 28 o8 w8 v261 g263 ∧ Rws w.heap.size 3 29 o8 w8 g263 x259 ∧ Bx w.heap.size 12 o8 w8 b18 25 [v5, v7, v9] ∧ Bx w.heap.size 27 o8 w8 b253 31 [v245, v247, v249] ∧ RdL o8 w8 v245 (x233.Ends : List (List T_End)) ∧ Dz 110 115 o8 w8 v245 (x233.Ends : List (List T_End)) ∧ RdL o8 w8 v247 (x233.Ids : List Int) ∧ Of 3 o8 w8 v247 (x233.Ids : List Int) ∧ RdL o8 w8 v249 (x233.Inputs : List Int) ∧ Of 3 o8 w8 v249 (x233.Inputs : List Int)) follows_mixed (by kernel_rfl) rfl ⟨rfl, rfl, rfl, rfl, trivial⟩ ⟨hB, h262, h264, h19, h258, h246, h237, h248, h238, h250, h239⟩ ?_ ⟨st_eq _, st_eq _, fun _ _ _ _ _ _ h0 hb ⟨c, e, h⟩ hs => ⟨c, e, Rp.stp h hs h0.1⟩, trivial⟩ ?_ ?_
            · rintro t9 o1 w1 o2 w2 ht9 ⟨hB, h262, h264, h19, h258, h246, h237, h248, h238, h250, h239⟩ hs9
              have ht9 : t9 = 999 := by simpa using ht9
              subst ht9
              all_goals exact ⟨hB.stp hs9 (by decide), h262.stp hs9 (by decide) (by decide), h264.stp hs9 (by decide) (by decide), h19.stp hs9 (by decide), h258.stp hs9 (by decide), h246.stp hs9 (by decide), h237.stp hs9 (by decide), h248.stp hs9 (by decide), h238.stp hs9 (by decide), h250.stp hs9 (by decide), h239.stp hs9 (by decide)⟩
            · refine ⟨?_, ?_, ?_, trivial⟩
              · rintro o362 w363 a364 ha ⟨hB, h262, h264, h19, h258, h246, h237, h248, h238, h250, h239⟩ -
                refine opS_of ha (trivial) ?_
                refine op1_val (ex_loadA rfl Try.isAgg31 Try.sizeOf31 rfl h258.cells) ?_
                exact ⟨_, Stp.refl _ _ _, rfl⟩
              · rintro o365 w366 a367 ha ⟨hB, h262, h264, h19, h258, h246, h237, h248, h238, h250, h239⟩ -
                refine opS_of ha (trivial) ?_
                refine op1_val (ex_loadA rfl Try.isAgg25 Try.sizeOf25 rfl h19.cells) ?_
                exact ⟨_, Stp.refl _ _ _, rfl⟩
              · rintro o368 w369 a370 ha ⟨hB, h262, h264, h19, h258, h246, h237, h248, h238, h250, h239⟩ ⟨r371, -⟩
                have ha := Fr.cons (d := 67) ha r371
                refine opS_of ha (trivial) ?_
                refine wf_call (cL_toNetwork fuel w369 o368 35 (by decide) _ p1 (⟨_, _, _, rfl, (h6.keep hB.keeps), (h8.keep hB.keeps), (h10.keep hB.keeps)⟩) x344 hx344) Try.call15 ⟨rfl, trivial⟩ ?_
                rintro e381 w372 ⟨c373, o382, rfl, h374, h375, h376, h377, k378, k379⟩
                have s380 := k378.stp' 999 k379
                refine ⟨_, rfl, ?_⟩
                obtain ⟨v383, v385, v387, rfl, h384, h386, h388⟩ := h374
                replace h375 : Dz 110 115 o382 w372 v383 x344.Ends := h375
                replace h376 : Of 3 o382 w372 v385 x344.Ids := h376
                replace h377 : Of 3 o382 w372 v387 x344.Inputs := h377
                replace h262 := h262.stp s380 (by decide) (by decide)
                replace h264 := h264.stp s380 (by decide) (by decide)
                replace h19 := h19.stp s380 (by decide)
                replace h258 := h258.stp s380 (by decide)
                replace h246 := h246.stp s380 (by decide)
                replace h237 := h237.stp s380 (by decide)
                replace h248 := h248.stp s380 (by decide)
                replace h238 := h238.stp s380 (by decide)
                replace h250 := h250.stp s380 (by decide)
                replace h239 := h239.stp s380 (by decide)
                replace hB := hB.stp s380 (by decide)
                exact ⟨_, s380, ⟨_, rfl, ⟨_, _, _, rfl, h384, h386, h388⟩⟩⟩
            rintro o389 w390 a391 ha ⟨hB, h262, h264, h19, h258, h246, h237, h248, h238, h250, h239⟩ ⟨r392, -, r393, -⟩
            have ha := Fr.cons (d := 66) ha r392
            obtain ⟨c394, e395, h396⟩ := r393
            obtain ⟨v397, v399, v401, rfl, h398, h400, h402⟩ := h396
            have ha := Fr.cons (d := 68) ha e395
            refine wl_of ha ?_
            simp only [List.length_cons, List.length_nil, Nat.zero_add, Nat.reduceAdd, List.drop_succ_cons, List.drop_zero]
            obtain ⟨x403, hx403, hF⟩ := bind_some hF
            refine st_op (by decide) trivial ?_
            refine wf_call (cL_eqNetwork fuel w390 _ x233 (⟨_, _, _, rfl, h246.z, h248.z, h250.z⟩) _ x344 (⟨_, _, _, rfl, h398.z, h400.z, h402.z⟩) x403 hx403) Try.call17 ⟨rfl, rfl, trivial⟩ ?_
            rintro e408 w404 ⟨rfl, k405⟩
            have s407 := k405.stp 999 o389
            refine ⟨_, rfl, ?_⟩
            replace h262 := h262.stp s407 (by decide) (by decide)
            replace h264 := h264.stp s407 (by decide) (by decide)
            replace h246 := h246.stp s407 (by decide)
            replace h237 := h237.stp s407 (by decide)
            replace h248 := h248.stp s407 (by decide)
            replace h238 := h238.stp s407 (by decide)
            replace h250 := h250.stp s407 (by decide)
            replace h239 := h239.stp s407 (by decide)
            replace h398 := h398.stp s407 (by decide)
            replace h400 := h400.stp s407 (by decide)
            replace h402 := h402.stp s407 (by decide)
            replace h19 := h19.stp s407 (by decide)
            replace h258 := h258.stp s407 (by decide)
            replace hB := hB.stp s407 (by decide)
            refine st_val (ex_not rfl) (by decide) trivial ?_
            refine wpF_end (r := [(2, u2), (12, v261), (70, (.bool (!x403)))]) ⟨rfl, rfl, rfl, trivial⟩ ?_
            refine nx ?_
            refine wpC_cond rfl (fun t409 => ?_) (fun t409 => ?_)
            · rw [if_pos t409] at hF
              refine wpC_seq ?_
              refine wpC_region ?_
              refine st_val (ex_assign rfl) (by decide) trivial ?_
              refine wpF_end (r := [(6, (.bool false))]) ⟨rfl, trivial⟩ ?_
              refine nx ?_
              refine wpC_ret ?_
              refine nt_ret ?_
              have e410 := Option.some.inj hF
              subst e410
              refine ret_post (P := Try.prog) (vs := [(.bool false)]) Try.results8 ⟨rfl, trivial⟩ ?_
              exact ⟨rfl, hB.keeps⟩
            · rw [if_neg (by rw [t409]; decide)] at hF
              refine wpC_skip ?_
              refine nx ?_
              refine wpC_seq ?_
              refine wpC_seq ?_
              refine wpC_region ?_
              refine st_val (ex_move rfl) (by decide) trivial ?_
              refine st_val (ex_move rfl) (by decide) trivial ?_
              obtain ⟨x411, hx411, hF⟩ := bind_some hF
              refine st_op (by decide) trivial ?_
              refine wf_call (cL_toIntSS fuel w404 o389 37 (by decide) _ p2 (g2.keep hB.keeps) x411 hx411) Try.call41 ⟨rfl, trivial⟩ ?_
              rintro e420 w412 ⟨v413, g415, o421, rfl, h414, h416, k417, k418⟩
              have s419 := k417.stp' 37 k418
              replace h414 := h414.mono hB.keeps.size
              replace h416 := h416.mono hB.keeps.size
              refine ⟨_, rfl, ?_⟩
              replace h262 := h262.stp s419 (by decide) (by decide)
              replace h264 := h264.stp s419 (by decide) (by decide)
              replace h19 := h19.stp s419 (by decide)
              replace h258 := h258.stp s419 (by decide)
              replace h246 := h246.stp s419 (by decide)
              replace h237 := h237.stp s419 (by decide)
              replace h248 := h248.stp s419 (by decide)
              replace h238 := h238.stp s419 (by decide)
              replace h250 := h250.stp s419 (by decide)
              replace h239 := h239.stp s419 (by decide)
              replace hB := hB.stp s419 (by decide)
              obtain ⟨x422, hx422, hF⟩ := bind_some hF
              refine st_op (by decide) trivial ?_
              refine wf_call (cL_eqIntSS fuel w412 _ x259 (h264.z h262) _ x411 (h416.z h414) x422 hx422) Try.call44 ⟨rfl, rfl, trivial⟩ ?_
              rintro e427 w423 ⟨rfl, k424⟩
              have s426 := k424.stp 999 o421
              refine ⟨_, rfl, ?_⟩
              replace h262 := h262.stp s426 (by decide) (by decide)
              replace h264 := h264.stp s426 (by decide) (by decide)
              replace h414 := h414.stp s426 (by decide) (by decide)
              replace h416 := h416.stp s426 (by decide) (by decide)
              replace h19 := h19.stp s426 (by decide)
              replace h258 := h258.stp s426 (by decide)
              replace h246 := h246.stp s426 (by decide)
              replace h237 := h237.stp s426 (by decide)
              replace h248 := h248.stp s426 (by decide)
              replace h238 := h238.stp s426 (by decide)
              replace h250 := h250.stp s426 (by decide)
              replace h239 := h239.stp s426 (by decide)
              replace hB := hB.stp s426 (by decide)
              refine st_val (ex_not rfl) (by decide) trivial ?_
              refine wpF_end (r := [(75, (.bool (!x422)))]) ⟨rfl, trivial⟩ ?_
              refine nx ?_
              refine wpC_cond rfl (fun t428 => ?_) (fun t428 => ?_)
              · rw [if_pos t428] at hF
                refine wpC_seq ?_
                refine wpC_region ?_
                refine st_val (ex_assign rfl) (by decide) trivial ?_
                refine wpF_end (r := [(6, (.bool false))]) ⟨rfl, trivial⟩ ?_
                refine nx ?_
                refine wpC_ret ?_
                refine nt_ret ?_
                have e429 := Option.some.inj hF
                subst e429
                refine ret_post (P := Try.prog) (vs := [(.bool false)]) Try.results8 ⟨rfl, trivial⟩ ?_
                exact ⟨rfl, hB.keeps⟩
              · rw [if_neg (by rw [t428]; decide)] at hF
                refine wpC_skip ?_
                refine nx ?_
                refine wpC_seq ?_
                refine wpC_region ?_
                refine st_val (ex_assign rfl) (by decide) trivial ?_
                refine wpF_end (r := [(6, (.bool true))]) ⟨rfl, trivial⟩ ?_
                refine nx ?_
                refine wpC_ret ?_
                have e430 := Option.some.inj hF
                subst e430
                refine ret_post (P := Try.prog) (vs := [(.bool true)]) Try.results8 ⟨rfl, trivial⟩ ?_
                exact ⟨rfl, hB.keeps⟩

end Go.Proofs.Ytijaojnaamkinaa
