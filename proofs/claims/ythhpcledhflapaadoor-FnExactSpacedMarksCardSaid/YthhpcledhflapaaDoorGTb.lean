/- spec.cyFree, spec.cyThree, spec.ThreeColours, slices.Max[[]int,int], impl.threeColours, impl.ThreeColours: plain functions, and the walks that show that the program computes them (printed by gen.py). -/
import Derived.Test.YthhpcledhflapaaDoorGTa
namespace Go.Proofs.YthhpcledhflapaaDoor
open Go.RowKit
set_option linter.unusedSimpArgs false
set_option linter.unusedVariables false

def fS_cyFree_s1 (p0 : Int) (p1 : Int) : Int → Option (Lp Int Int Int) := fun (s : Int) =>
  if decide (s < 2) then
    (
      if s != p0 then
        some (s != p1)
      else
        some false) >>= fun q15 =>
    if q15 then
      some (.ret s)
    else
      (ck (s + 1)) >>= fun x24 =>
      some (.go x24)
  else
    some (.out s)
def fS_cyFree (fuel : Nat) (p0 : Int) (p1 : Int) : Option Int :=
  (loopF (fS_cyFree_s1 p0 p1) fuel 0) >>= fun q4 =>
  match q4 with
  | .inl y1 =>
    some 2
  | .inr r' => some r'

def pS_cyFree (w : World) (r : Int) : Ending → World → Prop := fun e w' => e = .returned (.int .i64 r) ∧ Keeps w w'
set_option maxRecDepth 100000 in
set_option maxHeartbeats 2000000 in
theorem cS_cyFree (fuel : Nat) (w : World) (p0 : Int) (p1 : Int) (r : Int) (hF : fS_cyFree fuel p0 p1 = some r) :
    Calls Tryd.prog 50 #[.int .i64 p0, .int .i64 p1] w (pS_cyFree w r) := by
  unfold fS_cyFree at hF
  have hB : Bs (fun _ => 1) (col (fun _ => 1)) w w := Bs.start _ _
  refine calls_start (n := 19) (vs := [(.int .i64 p0), (.int .i64 p1)]) Tryd.func50 rfl rfl ?_
  refine wpC_seq ?_
  refine wpC_region ?_
  refine st_val (ex_assign rfl) (by decide) trivial ?_
  refine wpF_end (r := [(0, (.int .i64 p0)), (1, (.int .i64 p1))]) ⟨rfl, rfl, trivial⟩ ?_
  refine nx ?_
  refine wpC_seq ?_
  refine wpC_seq ?_
  refine wpC_region ?_
  refine st_val (ex_assign rfl) (by decide) trivial ?_
  refine wpF_end (r := [(0, (.int .i64 p0)), (1, (.int .i64 p1)), (5, (.int .i64 0))]) ⟨rfl, rfl, rfl, trivial⟩ ?_
  refine nx ?_
  obtain ⟨q4, hq4, hF⟩ := bind_some hF
  refine wpC_cutN (fun a w3 => ∃ (y1 : Int) (o2 : Tg), q4 = .inl y1 ∧ Fr a 19 [] ∧ Bs (fun _ => 1) o2 w w3) (fun a w' => ∃ r', q4 = .inr r' ∧ bodyPost Tryd.prog Tryd.f50 (pS_cyFree w r') .ret a w') ?_ ?_ ?_
  · refine wpC_block ?_
    refine wpC_loop (fun (K : Nat) a w3 => ∃ (y1 : Int) (o2 : Tg), loopF (fS_cyFree_s1 p0 p1) K y1 = some q4 ∧ Fr a 19 [(0, (.int .i64 p0)), (1, (.int .i64 p1)), (5, (.int .i64 y1))] ∧ Bs (fun _ => 1) o2 w w3) fuel (fun a ha => ⟨0, (col (fun _ => 1)), hq4, ha.sub (r := [(0, (.int .i64 p0)), (1, (.int .i64 p1)), (5, (.int .i64 0))]) ⟨rfl, rfl, rfl, trivial⟩, hB⟩) ?_
    rintro K8 a w3 ⟨y1, o2, l5, ha, hB⟩
    obtain ⟨K12, q9, e13, b10, n11⟩ := loopF_cons l5
    dsimp only [fS_cyFree_s1] at b10
    refine wp_of ha ?_
    refine wpC_seq ?_
    refine wpC_seq ?_
    refine wpC_region ?_
    refine st_val (ex_move rfl) (by decide) trivial ?_
    refine st_val (ex_lss rfl rfl) (by decide) trivial ?_
    refine wpF_end (r := [(0, (.int .i64 p0)), (1, (.int .i64 p1)), (5, (.int .i64 y1)), (7, (.bool (decide (y1 < 2))))]) ⟨rfl, rfl, rfl, rfl, trivial⟩ ?_
    refine nx ?_
    refine wpC_cond rfl (fun t14 => ?_) (fun t14 => ?_)
    · rw [if_pos t14] at b10
      refine wpC_skip ?_
      refine nx ?_
      refine wpC_seq ?_
      refine wpC_block ?_
      refine wpC_seq ?_
      refine wpC_region ?_
      refine st_val (ex_move rfl) (by decide) trivial ?_
      refine st_val (ex_move rfl) (by decide) trivial ?_
      refine st_val (ex_neq rfl rfl) (by decide) trivial ?_
      refine st_val (ex_move rfl) (by decide) trivial ?_
      obtain ⟨q15, hq15, b10⟩ := bind_some b10
      refine wpF_cutAt 4 (fun a17 w16 => Fr a17 19 [(0, (.int .i64 p0)), (1, (.int .i64 p1)), (5, (.int .i64 y1)), (17, (.bool q15))] ∧ Keeps w3 w16) ?_ ?_
      all_goals simp only [List.take_succ_cons, List.take_zero, List.drop_succ_cons, List.drop_zero]
      · have kp : Keeps w3 w3 := Keeps.refl _
        rcases Bool.eq_false_or_eq_true (y1 != p0) with t18 | t18
        · rw [if_pos t18] at hq15
          refine st_val (ex_move rfl) (by decide) ⟨_, rfl, (congrArg (fun b => some (Value.bool b)) t18)⟩ ?_
          refine st_val (ex_move rfl) (by decide) ⟨_, rfl, (congrArg (fun b => some (Value.bool b)) t18)⟩ ?_
          refine st_val (ex_neq rfl rfl) (by decide) ⟨_, rfl, (congrArg (fun b => some (Value.bool b)) t18)⟩ ?_
          refine st_val (ex_pick_t (congrArg (fun b => some (Value.bool b)) t18) rfl) (by decide) trivial ?_
          have hq152 := Option.some.inj hq15
          refine wpF_end (r := [(0, (.int .i64 p0)), (1, (.int .i64 p1)), (5, (.int .i64 y1)), (17, (.bool (y1 != p1)))]) ⟨rfl, rfl, rfl, rfl, trivial⟩ ?_
          subst hq152
          refine np_norm (fun a ha => ⟨ha, kp⟩)
        · rw [if_neg (by rw [t18]; decide)] at hq15
          refine st_no rfl rfl (by rw [t18]; rfl) (by decide) ?_
          refine st_no rfl rfl (by rw [t18]; rfl) (by decide) ?_
          refine st_no rfl rfl (by rw [t18]; rfl) (by decide) ?_
          refine st_val (ex_pick_f (congrArg (fun b => some (Value.bool b)) t18) rfl) (by decide) trivial ?_
          have hq152 := Option.some.inj hq15
          refine wpF_end (r := [(0, (.int .i64 p0)), (1, (.int .i64 p1)), (5, (.int .i64 y1)), (17, (.bool false))]) ⟨rfl, rfl, rfl, rfl, trivial⟩ ?_
          subst hq152
          refine np_norm (fun a ha => ⟨ha, kp⟩)
      rintro a21 w16 ⟨ha, k19⟩
      have s20 := k19.stp 999 o2
      replace hB := hB.stp s20 (by decide)
      refine wl_of ha ?_
      refine wpF_end (r := [(0, (.int .i64 p0)), (1, (.int .i64 p1)), (5, (.int .i64 y1)), (17, (.bool q15))]) ⟨rfl, rfl, rfl, rfl, trivial⟩ ?_
      refine nx ?_
      refine wpC_cond rfl (fun t22 => ?_) (fun t22 => ?_)
      · rw [if_pos t22] at b10
        refine wpC_seq ?_
        refine wpC_region ?_
        refine st_val (ex_move rfl) (by decide) trivial ?_
        refine st_val (ex_assign rfl) (by decide) trivial ?_
        refine wpF_end (r := [(4, (.int .i64 y1))]) ⟨rfl, trivial⟩ ?_
        refine nx ?_
        refine wpC_ret ?_
        refine nb_ret ?_
        refine nt_ret ?_
        refine nt_ret ?_
        refine nb_ret ?_
        refine np_ret ?_
        have e23 := Option.some.inj b10
        subst e23
        refine fun a ha => ⟨_, n11, ?_⟩
        refine ret_post (P := Tryd.prog) (vs := [(.int .i64 y1)]) Tryd.results50 ⟨rfl, trivial⟩ ?_ a ha
        exact ⟨rfl, hB.keeps⟩
      · rw [if_neg (by rw [t22]; decide)] at b10
        refine wpC_skip ?_
        refine nb_norm ?_
        refine nx ?_
        refine wpC_region ?_
        refine st_val (ex_move rfl) (by decide) trivial ?_
        obtain ⟨x24, hx24, b10⟩ := bind_some b10
        refine st_val (ex_add rfl rfl hx24) (by decide) trivial ?_
        refine st_val (ex_assign rfl) (by decide) trivial ?_
        refine wpF_end (r := [(0, (.int .i64 p0)), (1, (.int .i64 p1)), (5, (.int .i64 x24))]) ⟨rfl, rfl, rfl, trivial⟩ ?_
        refine nt_norm ?_
        have e25 := Option.some.inj b10
        subst e25
        refine to_k (r := [(0, (.int .i64 p0)), (1, (.int .i64 p1)), (5, (.int .i64 x24))]) ⟨rfl, rfl, rfl, trivial⟩ ?_
        intro a ha
        exact ⟨K12, by omega, x24, o2, n11, ha, hB⟩
    · rw [if_neg (by rw [t14]; decide)] at b10
      refine wpC_exit ?_
      refine nt_exit ?_
      refine nt_exit ?_
      refine nb_hit ?_
      refine np_norm ?_
      have e26 := Option.some.inj b10
      subst e26
      refine to_k (r := []) trivial ?_
      intro a ha
      exact ⟨y1, o2, n11, ha, hB⟩
  · rintro a w3 ⟨y1, o2, rfl, ha, hB⟩
    dsimp only at hF
    refine ap_k ha ?_
    refine nx ?_
    refine wpC_seq ?_
    refine wpC_region ?_
    refine st_val (ex_assign rfl) (by decide) trivial ?_
    refine wpF_end (r := [(4, (.int .i64 2))]) ⟨rfl, trivial⟩ ?_
    refine nx ?_
    refine wpC_ret ?_
    have e27 := Option.some.inj hF
    subst e27
    refine ret_post (P := Tryd.prog) (vs := [(.int .i64 2)]) Tryd.results50 ⟨rfl, trivial⟩ ?_
    exact ⟨rfl, hB.keeps⟩
  · rintro a w3 ⟨r', rfl, b28⟩
    dsimp only at hF
    have e29 := Option.some.inj hF
    subst e29
    exact b28

def fS_cyThree_s1 (fuel : Nat) : ((List Int) × Int) → Option (Lp ((List Int) × Int) ((List Int) × Int) ((List Int) × Int)) := fun (s : (List Int) × Int) =>
  (fS_l1All s.1 0 5) >>= fun x26 =>
  if !x26 then
    (fS_cyBit fuel s.1) >>= fun x33 =>
    (ck (s.2 + 1)) >>= fun x42 =>
    some (.go (x33, x42))
  else
    some (.out (s.1, s.2))
def fS_cyThree_s3 (fuel : Nat) (y46 : List Int) (y50 : Int) : Int → Int → (List Int) → Option (Lp (List Int) (List Int) ((List Int) × Int)) := fun (i77 : Int) (x87 : Int) (s : List Int) =>
  if x87 == y50 then
    (ck (i77 + (y46.length : Int))) >>= fun x94 =>
    (ck (x94 - 1)) >>= fun x95 =>
    (rem x95 (y46.length : Int)) >>= fun x96 =>
    (ix y46 x96) >>= fun x97 =>
    (ck (i77 + 1)) >>= fun x100 =>
    (rem x100 (y46.length : Int)) >>= fun x101 =>
    (ix y46 x101) >>= fun x102 =>
    (fS_cyFree fuel x97 x102) >>= fun x105 =>
    (ix s i77) >>= fun x217 =>
    (st s i77 x105) >>= fun x226 =>
    some (.go x226)
  else
    some (.go s)
def fS_cyThree_s2 (fuel : Nat) : ((List Int) × Int × Int) → Option (Lp ((List Int) × Int × Int) ((List Int) × Int × Int) ((List Int) × Int)) := fun (s : (List Int) × Int × Int) =>
  if decide (s.2.2 ≥ 3) then
    (fS_l1Own s.1) >>= fun x64 =>
    (forI (fS_cyThree_s3 fuel s.1 s.2.2) s.1 0 x64) >>= fun q78 =>
    match q78 with
    | .inl y73 =>
      (ck (s.2.1 + 1)) >>= fun x231 =>
      (ck (s.2.2 - 1)) >>= fun x232 =>
      some (.go (y73, x231, x232))
    | .inr _ => none
  else
    some (.out (s.1, s.2.1, s.2.2))
def fS_cyThree (fuel : Nat) (p0 : List Int) : Option ((List Int) × Int) :=
  (fS_l1Own p0) >>= fun x1 =>
  (loopF (fS_cyThree_s1 fuel) fuel (x1, 0)) >>= fun q16 =>
  match q16 with
  | .inl (y10, y13) =>
    (loopF (fS_cyThree_s2 fuel) fuel (y10, y13, 5)) >>= fun q53 =>
    match q53 with
    | .inl (y46, y49, y50) =>
      some (y46, y49)
    | .inr _ => none
  | .inr _ => none

def pS_cyThree (oo : Tg) (t : Nat) (w : World) (r : (List Int) × Int) : Ending → World → Prop := fun e w' => ∃ (v0 : Value) (o' : Tg), e = .returned (.tuple #[v0, .int .i64 r.2]) ∧ Ow w.heap.size 3 t o' w' v0 r.1 ∧ Keeps w w' ∧ ∀ b, b < w.heap.size → o' b = oo b
set_option maxRecDepth 100000 in
set_option maxHeartbeats 2000000 in
theorem cS_cyThree (fuel : Nat) (w : World) (oo : Tg) (t : Nat) (ht : 2 ≤ t) (u0 : Value) (p0 : List Int) (g0 : RdL zt w u0 p0) (r : (List Int) × Int) (hF : fS_cyThree fuel p0 = some r) :
    Calls Tryd.prog 27 #[u0] w (pS_cyThree oo t w r) := by
  unfold fS_cyThree at hF
  have hB : Bs oo (col oo) w w := Bs.start _ _
  refine calls_start (n := 64) (vs := [u0]) Tryd.func27 rfl rfl ?_
  generalize col oo = o at *
  refine wpC_seq ?_
  refine wpC_region ?_
  refine st_val (ex_assign rfl) (by decide) trivial ?_
  refine st_val (ex_assign rfl) (by decide) trivial ?_
  refine wpF_end (r := [(0, u0)]) ⟨rfl, trivial⟩ ?_
  refine nx ?_
  refine wpC_seq ?_
  refine wpC_region ?_
  refine st_val (ex_move rfl) (by decide) trivial ?_
  obtain ⟨x1, hx1, hF⟩ := bind_some hF
  refine st_op (by decide) trivial ?_
  refine wf_call (cS_l1Own w o 11 (by decide) _ p0 (g0.keep hB.keeps) x1 hx1) Tryd.call49 ⟨rfl, trivial⟩ ?_
  rintro e8 w2 ⟨v3, o9, rfl, h4, k5, k6⟩
  have s7 := k5.stp' 11 k6
  replace h4 := h4.mono hB.keeps.size
  refine ⟨_, rfl, ?_⟩
  replace hB := hB.stp s7 (by decide)
  refine st_val (ex_assign rfl) (by decide) trivial ?_
  refine st_val (ex_assign rfl) (by decide) trivial ?_
  refine wpF_end (r := [(4, v3), (5, (.int .i64 0))]) ⟨rfl, rfl, trivial⟩ ?_
  refine nx ?_
  obtain ⟨q16, hq16, hF⟩ := bind_some hF
  refine wpC_cutP (fun a w15 => ∃ (y10 : List Int) (y13 : Int) (v11 : Value) (o14 : Tg), q16 = .inl (y10, y13) ∧ Fr a 64 [(4, v11), (5, (.int .i64 y13))] ∧ Bs oo o14 w w15 ∧ Ow w.heap.size 3 11 o14 w15 v11 y10) (fun _ _ => False) ?_ ?_ ?_
  · refine wpC_block ?_
    refine wpC_loop (fun (K : Nat) a w15 => ∃ (y10 : List Int) (y13 : Int) (v11 : Value) (o14 : Tg), loopF (fS_cyThree_s1 fuel) K (y10, y13) = some q16 ∧ Fr a 64 [(4, v11), (5, (.int .i64 y13))] ∧ Bs oo o14 w w15 ∧ Ow w.heap.size 3 11 o14 w15 v11 y10) fuel (fun a ha => ⟨x1, 0, v3, o9, hq16, ha.sub (r := [(4, v3), (5, (.int .i64 0))]) ⟨rfl, rfl, trivial⟩, hB, h4⟩) ?_
    rintro K20 a w15 ⟨y10, y13, v11, o14, l17, ha, hB, h12⟩
    obtain ⟨K24, q21, e25, b22, n23⟩ := loopF_cons l17
    dsimp only [fS_cyThree_s1] at b22
    refine wp_of ha ?_
    refine wpC_seq ?_
    refine wpC_seq ?_
    refine wpC_region ?_
    refine st_val (ex_move rfl) (by decide) trivial ?_
    obtain ⟨x26, hx26, b22⟩ := bind_some b22
    refine st_op (by decide) trivial ?_
    refine wf_call (cS_l1All w15 _ y10 h12.z 0 5 x26 hx26) Tryd.call42 ⟨rfl, rfl, rfl, trivial⟩ ?_
    rintro e31 w27 ⟨rfl, k28⟩
    have s30 := k28.stp 999 o14
    refine ⟨_, rfl, ?_⟩
    replace h12 := h12.stp s30 (by decide) (by decide)
    replace hB := hB.stp s30 (by decide)
    refine st_val (ex_not rfl) (by decide) trivial ?_
    refine wpF_end (r := [(4, v11), (5, (.int .i64 y13)), (14, (.bool (!x26)))]) ⟨rfl, rfl, rfl, trivial⟩ ?_
    refine nx ?_
    refine wpC_cond rfl (fun t32 => ?_) (fun t32 => ?_)
    · rw [if_pos t32] at b22
      refine wpC_skip ?_
      refine nx ?_
      refine wpC_seq ?_
      refine wpC_block ?_
      refine wpC_region ?_
      refine st_val (ex_move rfl) (by decide) trivial ?_
      obtain ⟨x33, hx33, b22⟩ := bind_some b22
      refine st_op (by decide) trivial ?_
      refine wf_call (cS_cyBit fuel w27 o14 13 (by decide) _ y10 h12.z x33 hx33) Tryd.call23 ⟨rfl, trivial⟩ ?_
      rintro e40 w34 ⟨v35, o41, rfl, h36, k37, k38⟩
      have s39 := k37.stp' 13 k38
      replace h36 := h36.mono hB.keeps.size
      refine ⟨_, rfl, ?_⟩
      replace h12 := h12.stp s39 (by decide) (by decide)
      replace hB := hB.stp s39 (by decide)
      refine st_val (ex_assign rfl) (by decide) trivial ?_
      refine wpF_end (r := [(4, v35), (5, (.int .i64 y13))]) ⟨rfl, rfl, trivial⟩ ?_
      refine nb_norm ?_
      refine nx ?_
      refine wpC_region ?_
      refine st_val (ex_move rfl) (by decide) trivial ?_
      obtain ⟨x42, hx42, b22⟩ := bind_some b22
      refine st_val (ex_add rfl rfl hx42) (by decide) trivial ?_
      refine st_val (ex_assign rfl) (by decide) trivial ?_
      refine wpF_end (r := [(4, v35), (5, (.int .i64 x42))]) ⟨rfl, rfl, trivial⟩ ?_
      refine nt_norm ?_
      have e43 := Option.some.inj b22
      subst e43
      replace h36 := h36.rtg 11 (by decide)
      replace hB := hB.rtg 13 11 (by decide) (by decide)
      generalize (rtg 13 11 o41) = o44 at *
      refine to_k (r := [(4, v35), (5, (.int .i64 x42))]) ⟨rfl, rfl, trivial⟩ ?_
      intro a ha
      exact ⟨K24, by omega, x33, x42, v35, o44, n23, ha, hB, h36⟩
    · rw [if_neg (by rw [t32]; decide)] at b22
      refine wpC_exit ?_
      refine nt_exit ?_
      refine nt_exit ?_
      refine nb_hit ?_
      refine np_norm ?_
      have e45 := Option.some.inj b22
      subst e45
      refine to_k (r := [(4, v11), (5, (.int .i64 y13))]) ⟨rfl, rfl, trivial⟩ ?_
      intro a ha
      exact ⟨y10, y13, v11, o14, n23, ha, hB, h12⟩
  · rintro a w15 ⟨y10, y13, v11, o14, rfl, ha, hB, h12⟩
    dsimp only at hF
    refine wp_of ha ?_
    refine wpC_seq ?_
    refine wpC_seq ?_
    refine wpC_region ?_
    refine st_val (ex_assign rfl) (by decide) trivial ?_
    refine wpF_end (r := [(4, v11), (5, (.int .i64 y13)), (6, (.int .i64 5))]) ⟨rfl, rfl, rfl, trivial⟩ ?_
    refine nx ?_
    obtain ⟨q53, hq53, hF⟩ := bind_some hF
    refine wpC_cutN (fun a w52 => ∃ (y46 : List Int) (y49 : Int) (y50 : Int) (v47 : Value) (o51 : Tg), q53 = .inl (y46, y49, y50) ∧ Fr a 64 [(4, v47), (5, (.int .i64 y49))] ∧ Bs oo o51 w w52 ∧ Ow w.heap.size 3 11 o51 w52 v47 y46) (fun _ _ => False) ?_ ?_ ?_
    · refine wpC_block ?_
      refine wpC_loop (fun (K : Nat) a w52 => ∃ (y46 : List Int) (y49 : Int) (y50 : Int) (v47 : Value) (o51 : Tg), loopF (fS_cyThree_s2 fuel) K (y46, y49, y50) = some q53 ∧ Fr a 64 [(4, v47), (5, (.int .i64 y49)), (6, (.int .i64 y50))] ∧ Bs oo o51 w w52 ∧ Ow w.heap.size 3 11 o51 w52 v47 y46) fuel (fun a ha => ⟨y10, y13, 5, v11, o14, hq53, ha.sub (r := [(4, v11), (5, (.int .i64 y13)), (6, (.int .i64 5))]) ⟨rfl, rfl, rfl, trivial⟩, hB, h12⟩) ?_
      rintro K57 a w52 ⟨y46, y49, y50, v47, o51, l54, ha, hB, h48⟩
      obtain ⟨K61, q58, e62, b59, n60⟩ := loopF_cons l54
      dsimp only [fS_cyThree_s2] at b59
      refine wp_of ha ?_
      refine wpC_seq ?_
      refine wpC_seq ?_
      refine wpC_region ?_
      refine st_val (ex_move rfl) (by decide) trivial ?_
      refine st_val (ex_geq rfl rfl) (by decide) trivial ?_
      refine wpF_end (r := [(4, v47), (5, (.int .i64 y49)), (6, (.int .i64 y50)), (20, (.bool (decide (y50 ≥ 3))))]) ⟨rfl, rfl, rfl, rfl, trivial⟩ ?_
      refine nx ?_
      refine wpC_cond rfl (fun t63 => ?_) (fun t63 => ?_)
      · rw [if_pos t63] at b59
        refine wpC_skip ?_
        refine nx ?_
        refine wpC_seq ?_
        refine wpC_block ?_
        refine wpC_seq ?_
        refine wpC_region ?_
        refine st_val (ex_move rfl) (by decide) trivial ?_
        obtain ⟨x64, hx64, b59⟩ := bind_some b59
        refine st_op (by decide) trivial ?_
        refine wf_call (cS_l1Own w52 o51 14 (by decide) _ y46 h48.z x64 hx64) Tryd.call49 ⟨rfl, trivial⟩ ?_
        rintro e71 w65 ⟨v66, o72, rfl, h67, k68, k69⟩
        have s70 := k68.stp' 14 k69
        replace h67 := h67.mono hB.keeps.size
        refine ⟨_, rfl, ?_⟩
        replace h48 := h48.stp s70 (by decide) (by decide)
        replace hB := hB.stp s70 (by decide)
        refine st_val (ex_assign rfl) (by decide) trivial ?_
        refine wpF_end (r := [(4, v47), (5, (.int .i64 y49)), (6, (.int .i64 y50)), (7, v66)]) ⟨rfl, rfl, rfl, rfl, trivial⟩ ?_
        refine nx ?_
        refine wpC_seq ?_
        refine wpC_seq ?_
        refine wpC_region ?_
        refine st_val (ex_move rfl) (by decide) trivial ?_
        refine st_val (ex_lenO rfl h48 Tryd.underlying22) (by decide) trivial ?_
        refine st_val (ex_move rfl) (by decide) trivial ?_
        refine wpF_end (r := [(4, v47), (5, (.int .i64 y49)), (6, (.int .i64 y50)), (7, v66), (25, v47), (26, (.int .i64 (y46.length : Int))), (27, (.int .i64 0))]) ⟨rfl, rfl, rfl, rfl, rfl, rfl, rfl, trivial⟩ ?_
        refine nx ?_
        obtain ⟨q78, hq78, b59⟩ := bind_some b59
        refine wpC_cutN (fun a w76 => ∃ (y73 : List Int) (o75 : Tg), q78 = .inl y73 ∧ Fr a 64 [(5, (.int .i64 y49)), (6, (.int .i64 y50)), (7, v66)] ∧ Bs oo o75 w w76 ∧ Ow w.heap.size 3 14 o75 w76 v66 y73) (fun _ _ => False) ?_ ?_ ?_
        · refine wpC_block ?_
          refine wpC_loop (fun (K : Nat) a w76 => ∃ (i77 : Int) (y73 : List Int) (o75 : Tg), forI (fS_cyThree_s3 fuel y46 y50) (y46.drop i77.toNat) i77 y73 = some q78 ∧ (y46.drop i77.toNat).length = K ∧ 0 ≤ i77 ∧ Fr a 64 [(4, v47), (5, (.int .i64 y49)), (6, (.int .i64 y50)), (7, v66), (25, v47), (26, (.int .i64 (y46.length : Int))), (27, (.int .i64 i77))] ∧ Bs oo o75 w w76 ∧ Ow w.heap.size 3 11 o75 w76 v47 y46 ∧ Ow w.heap.size 3 14 o75 w76 v66 y73) _ (fun a ha => ⟨0, x64, o72, hq78, rfl, Int.le_refl 0, ha.sub (r := [(4, v47), (5, (.int .i64 y49)), (6, (.int .i64 y50)), (7, v66), (25, v47), (26, (.int .i64 (y46.length : Int))), (27, (.int .i64 0))]) ⟨rfl, rfl, rfl, rfl, rfl, rfl, rfl, trivial⟩, hB, h48, h67⟩) ?_
          rintro K82 a w76 ⟨i77, y73, o75, l79, m81, z80, ha, hB, h48, h74⟩
          by_cases t86 : i77 < (y46.length : Int)
          · obtain ⟨x87, q83, hx87, b84, n85⟩ := forI_cons z80 t86 l79
            have hle := h48.len_le
            dsimp only [fS_cyThree_s3] at b84
            refine wp_of ha ?_
            refine wpC_seq ?_
            refine wpC_region ?_
            refine st_val (ex_lss rfl rfl) (by decide) trivial ?_
            refine wpF_end (r := [(4, v47), (5, (.int .i64 y49)), (6, (.int .i64 y50)), (7, v66), (25, v47), (26, (.int .i64 (y46.length : Int))), (27, (.int .i64 i77)), (28, (.bool (decide (i77 < (y46.length : Int)))))]) ⟨rfl, rfl, rfl, rfl, rfl, rfl, rfl, rfl, trivial⟩ ?_
            refine nx ?_
            refine wpC_seq ?_
            refine wpC_true (congrArg (fun b => some (Value.bool b)) (decide_eq_true t86)) ?_
            refine wpC_skip ?_
            refine nx ?_
            refine wpC_seq ?_
            refine wpC_block ?_
            refine wpC_seq ?_
            refine wpC_region ?_
            refine st_val (ex_move rfl) (by decide) trivial ?_
            refine st_op (by decide) trivial ?_
            refine wf_atW h48 hx87 rfl rfl Tryd.underlying22 Tryd.sizeOf3 ?_
            intro b88 f89 c90 h91 h92
            cases h92
            refine st_val (ex_load1 rfl Tryd.isAgg3 (cell_of_cells h91)) (by decide) trivial ?_
            refine st_val (ex_assign rfl) (by decide) trivial ?_
            refine st_val (ex_assign rfl) (by decide) trivial ?_
            refine wpF_end (r := [(4, v47), (5, (.int .i64 y49)), (6, (.int .i64 y50)), (7, v66), (8, (.int .i64 i77)), (9, (.int .i64 x87)), (25, v47), (26, (.int .i64 (y46.length : Int))), (27, (.int .i64 i77))]) ⟨rfl, rfl, rfl, rfl, rfl, rfl, rfl, rfl, rfl, trivial⟩ ?_
            refine nx ?_
            refine wpC_seq ?_
            refine wpC_region ?_
            refine st_val (ex_move rfl) (by decide) trivial ?_
            refine st_val (ex_move rfl) (by decide) trivial ?_
            refine st_val (ex_eql rfl rfl) (by decide) trivial ?_
            refine wpF_end (r := [(4, v47), (5, (.int .i64 y49)), (6, (.int .i64 y50)), (7, v66), (8, (.int .i64 i77)), (25, v47), (26, (.int .i64 (y46.length : Int))), (27, (.int .i64 i77)), (34, (.bool (x87 == y50)))]) ⟨rfl, rfl, rfl, rfl, rfl, rfl, rfl, rfl, rfl, trivial⟩ ?_
            refine nx ?_
            refine wpC_cond rfl (fun t93 => ?_) (fun t93 => ?_)
            · rw [if_pos t93] at b84
              obtain ⟨x94, hx94, b84⟩ := bind_some b84
              obtain ⟨x95, hx95, b84⟩ := bind_some b84
              obtain ⟨x96, hx96, b84⟩ := bind_some b84
              obtain ⟨x97, hx97, b84⟩ := bind_some b84
              obtain ⟨x100, hx100, b84⟩ := bind_some b84
              obtain ⟨x101, hx101, b84⟩ := bind_some b84
              obtain ⟨x102, hx102, b84⟩ := bind_some b84
              obtain ⟨x105, hx105, b84⟩ := bind_some b84
              refine wpC_drawn (o := o75) [(4, v47), (5, (.int .i64 y49)), (6, (.int .i64 y50)), (7, v66), (8, (.int .i64 i77)), (25, v47), (26, (.int .i64 (y46.length : Int))), (27, (.int .i64 i77))] [4, 5, 6, 7, 8, 25, 26, 27] [35, 36, 37, 38, 39, 40, 41, 42, 43, 44, 45, 46, 47, 48, 49, 50, 51, 52, 53, 54, 55, 56] [[], [], [], [], [], [4], [3, 5], [6], [], [8], [7, 9], [2, 10], [11], [], [], [14], [], [16], [15, 17], [13, 18], [19], [12, 20]] [none, none, none, none, none, none, none, none, none, none, none, none, none, none, none, none, none, none, none, none, none, none] [999, 999, 999, 999, 999, 999, 999, 999, 999, 999, 999, 999, 999, 999, 999, 999, 999, 999, 999, 999, 999, 999] [0, 0, 0, 0, 0, 0, 0, 0, 0, 0, 0, 11, 0, 0, 0, 0, 0, 0, 0, 11, 0, 0] [999] [fun v _ _ => v = v66, fun v _ _ => v = (.int .i64 i77), fun v _ _ => v = v47, fun v _ _ => v = (.int .i64 i77), fun v _ _ => v = v47, fun v _ _ => v = (.int .i64 (y46.length : Int)), fun v _ _ => v = (.int .i64 x94), fun v _ _ => v = (.int .i64 x95), fun v _ _ => v = v47, fun v _ _ => v = (.int .i64 (y46.length : Int)), fun v _ _ => v = (.int .i64 x96), fun v o w9 => ∃ vl, v = adr vl (x96.toNat * Rp.sz Int) ∧ Ow w.heap.size 3 11 o w9 vl y46, fun v _ _ => v = (.int .i64 x97), fun v _ _ => v = v47, fun v _ _ => v = (.int .i64 i77), fun v _ _ => v = (.int .i64 x100), fun v _ _ => v = v47, fun v _ _ => v = (.int .i64 (y46.length : Int)), fun v _ _ => v = (.int .i64 x101), fun v o w9 => ∃ vl, v = adr vl (x101.toNat * Rp.sz Int) ∧ Ow w.heap.size 3 11 o w9 vl y46, fun v _ _ => v = (.int .i64 x102), fun v _ _ => v = (.int .i64 x105)] (fun o8 w8 => Bs oo o8 w w8 ∧ Ow w.heap.size 3 11 o8 w8 v47 y46 ∧ Ow w.heap.size 3 14 o8 w8 v66 y73) follows_mixed (by kernel_rfl) rfl ⟨rfl, rfl, rfl, rfl, rfl, rfl, rfl, rfl, trivial⟩ ⟨hB, h48, h74⟩ ?_ ⟨st_eq _, st_eq _, st_eq _, st_eq _, st_eq _, st_eq _, st_eq _, st_eq _, st_eq _, st_eq _, st_eq _, fun _ _ _ _ _ _ h0 hb ⟨vl, e, h⟩ hs => ⟨vl, e, h.stp hs h0.1 (Ne.symm hb)⟩, st_eq _, st_eq _, st_eq _, st_eq _, st_eq _, st_eq _, st_eq _, fun _ _ _ _ _ _ h0 hb ⟨vl, e, h⟩ hs => ⟨vl, e, h.stp hs h0.1 (Ne.symm hb)⟩, st_eq _, st_eq _, trivial⟩ ?_ ?_
              · rintro t9 o1 w1 o2 w2 ht9 ⟨hB, h48, h74⟩ hs9
                have ht9 : t9 = 999 := by simpa using ht9
                subst ht9
                all_goals exact ⟨hB.stp hs9 (by decide), h48.stp hs9 (by decide) (by decide), h74.stp hs9 (by decide) (by decide)⟩
              · refine ⟨?_, ?_, ?_, ?_, ?_, ?_, ?_, ?_, ?_, ?_, ?_, ?_, ?_, ?_, ?_, ?_, ?_, ?_, ?_, ?_, ?_, ?_, trivial⟩
                · rintro o111 w112 a113 ha ⟨hB, h48, h74⟩ -
                  refine opS_of ha (trivial) ?_
                  refine op1_val (ex_move rfl) ?_
                  exact ⟨_, Stp.refl _ _ _, rfl⟩
                · rintro o114 w115 a116 ha ⟨hB, h48, h74⟩ -
                  refine opS_of ha (trivial) ?_
                  refine op1_val (ex_move rfl) ?_
                  exact ⟨_, Stp.refl _ _ _, rfl⟩
                · rintro o117 w118 a119 ha ⟨hB, h48, h74⟩ -
                  refine opS_of ha (trivial) ?_
                  refine op1_val (ex_move rfl) ?_
                  exact ⟨_, Stp.refl _ _ _, rfl⟩
                · rintro o120 w121 a122 ha ⟨hB, h48, h74⟩ -
                  refine opS_of ha (trivial) ?_
                  refine op1_val (ex_move rfl) ?_
                  exact ⟨_, Stp.refl _ _ _, rfl⟩
                · rintro o123 w124 a125 ha ⟨hB, h48, h74⟩ -
                  refine opS_of ha (trivial) ?_
                  refine op1_val (ex_move rfl) ?_
                  exact ⟨_, Stp.refl _ _ _, rfl⟩
                · rintro o126 w127 a128 ha ⟨hB, h48, h74⟩ ⟨r129, -⟩
                  have ha := Fr.cons (d := 39) ha r129
                  refine opS_of ha (trivial) ?_
                  refine op1_val (ex_lenO rfl h48 Tryd.underlying22) ?_
                  exact ⟨_, Stp.refl _ _ _, rfl⟩
                · rintro o130 w131 a132 ha ⟨hB, h48, h74⟩ ⟨r133, r134, -⟩
                  have ha := Fr.cons (d := 38) ha r133
                  have ha := Fr.cons (d := 40) ha r134
                  refine opS_of ha (trivial) ?_
                  refine op1_val (ex_add rfl rfl hx94) ?_
                  exact ⟨_, Stp.refl _ _ _, rfl⟩
                · rintro o135 w136 a137 ha ⟨hB, h48, h74⟩ ⟨r138, -⟩
                  have ha := Fr.cons (d := 41) ha r138
                  refine opS_of ha (trivial) ?_
                  refine op1_val (ex_sub rfl rfl hx95) ?_
                  exact ⟨_, Stp.refl _ _ _, rfl⟩
                · rintro o139 w140 a141 ha ⟨hB, h48, h74⟩ -
                  refine opS_of ha (trivial) ?_
                  refine op1_val (ex_move rfl) ?_
                  exact ⟨_, Stp.refl _ _ _, rfl⟩
                · rintro o142 w143 a144 ha ⟨hB, h48, h74⟩ ⟨r145, -⟩
                  have ha := Fr.cons (d := 43) ha r145
                  refine opS_of ha (trivial) ?_
                  refine op1_val (ex_lenO rfl h48 Tryd.underlying22) ?_
                  exact ⟨_, Stp.refl _ _ _, rfl⟩
                · rintro o146 w147 a148 ha ⟨hB, h48, h74⟩ ⟨r149, r150, -⟩
                  have ha := Fr.cons (d := 42) ha r149
                  have ha := Fr.cons (d := 44) ha r150
                  refine opS_of ha (trivial) ?_
                  refine op1_val (ex_rem rfl rfl hx96) ?_
                  exact ⟨_, Stp.refl _ _ _, rfl⟩
                · rintro o151 w152 a153 ha ⟨hB, h48, h74⟩ ⟨r154, r155, -⟩
                  have ha := Fr.cons (d := 37) ha r154
                  have ha := Fr.cons (d := 45) ha r155
                  refine opS_of ha (trivial) ?_
                  refine wd_indexW h48 hx97 rfl rfl Tryd.underlying22 Tryd.sizeOf3 ?_
                  exact ⟨_, Stp.refl _ _ _, ⟨_, rfl, h48⟩⟩
                · rintro o156 w157 a158 ha ⟨hB, h48, h74⟩ ⟨r159, -⟩
                  obtain ⟨v160, e161, h162⟩ := r159
                  have ha := Fr.cons (d := 46) ha e161
                  refine opS_of ha (trivial) ?_
                  refine wd_load1W h162 hx97 rfl rfl Tryd.isAgg3 ?_
                  intro c163 h164
                  cases h164
                  exact ⟨_, Stp.refl _ _ _, rfl⟩
                · rintro o165 w166 a167 ha ⟨hB, h48, h74⟩ -
                  refine opS_of ha (trivial) ?_
                  refine op1_val (ex_move rfl) ?_
                  exact ⟨_, Stp.refl _ _ _, rfl⟩
                · rintro o168 w169 a170 ha ⟨hB, h48, h74⟩ -
                  refine opS_of ha (trivial) ?_
                  refine op1_val (ex_move rfl) ?_
                  exact ⟨_, Stp.refl _ _ _, rfl⟩
                · rintro o171 w172 a173 ha ⟨hB, h48, h74⟩ ⟨r174, -⟩
                  have ha := Fr.cons (d := 49) ha r174
                  refine opS_of ha (trivial) ?_
                  refine op1_val (ex_add rfl rfl hx100) ?_
                  exact ⟨_, Stp.refl _ _ _, rfl⟩
                · rintro o175 w176 a177 ha ⟨hB, h48, h74⟩ -
                  refine opS_of ha (trivial) ?_
                  refine op1_val (ex_move rfl) ?_
                  exact ⟨_, Stp.refl _ _ _, rfl⟩
                · rintro o178 w179 a180 ha ⟨hB, h48, h74⟩ ⟨r181, -⟩
                  have ha := Fr.cons (d := 51) ha r181
                  refine opS_of ha (trivial) ?_
                  refine op1_val (ex_lenO rfl h48 Tryd.underlying22) ?_
                  exact ⟨_, Stp.refl _ _ _, rfl⟩
                · rintro o182 w183 a184 ha ⟨hB, h48, h74⟩ ⟨r185, r186, -⟩
                  have ha := Fr.cons (d := 50) ha r185
                  have ha := Fr.cons (d := 52) ha r186
                  refine opS_of ha (trivial) ?_
                  refine op1_val (ex_rem rfl rfl hx101) ?_
                  exact ⟨_, Stp.refl _ _ _, rfl⟩
                · rintro o187 w188 a189 ha ⟨hB, h48, h74⟩ ⟨r190, r191, -⟩
                  have ha := Fr.cons (d := 48) ha r190
                  have ha := Fr.cons (d := 53) ha r191
                  refine opS_of ha (trivial) ?_
                  refine wd_indexW h48 hx102 rfl rfl Tryd.underlying22 Tryd.sizeOf3 ?_
                  exact ⟨_, Stp.refl _ _ _, ⟨_, rfl, h48⟩⟩
                · rintro o192 w193 a194 ha ⟨hB, h48, h74⟩ ⟨r195, -⟩
                  obtain ⟨v196, e197, h198⟩ := r195
                  have ha := Fr.cons (d := 54) ha e197
                  refine opS_of ha (trivial) ?_
                  refine wd_load1W h198 hx102 rfl rfl Tryd.isAgg3 ?_
                  intro c199 h200
                  cases h200
                  exact ⟨_, Stp.refl _ _ _, rfl⟩
                · rintro o201 w202 a203 ha ⟨hB, h48, h74⟩ ⟨r204, r205, -⟩
                  have ha := Fr.cons (d := 47) ha r204
                  have ha := Fr.cons (d := 55) ha r205
                  refine opS_of ha (trivial) ?_
                  refine wf_call (cS_cyFree fuel w202 x97 x102 x105 hx105) Tryd.call50 ⟨rfl, rfl, trivial⟩ ?_
                  rintro e210 w206 ⟨rfl, k207⟩
                  have s209 := k207.stp 999 o201
                  refine ⟨_, rfl, ?_⟩
                  replace h48 := h48.stp s209 (by decide) (by decide)
                  replace h74 := h74.stp s209 (by decide) (by decide)
                  replace hB := hB.stp s209 (by decide)
                  exact ⟨_, s209, rfl⟩
              rintro o211 w212 a213 ha ⟨hB, h48, h74⟩ ⟨r214, r215, -, -, -, -, -, -, -, -, -, -, -, -, -, -, -, -, -, -, -, r216, -⟩
              have ha := Fr.cons (d := 35) ha r214
              have ha := Fr.cons (d := 36) ha r215
              have ha := Fr.cons (d := 56) ha r216
              refine wl_of ha ?_
              simp only [List.length_cons, List.length_nil, Nat.zero_add, Nat.reduceAdd, List.drop_succ_cons, List.drop_zero]
              obtain ⟨x217, hx217, b84⟩ := bind_some b84
              refine st_op (by decide) trivial ?_
              refine wf_atP h74 hx217 rfl rfl Tryd.underlying22 Tryd.sizeOf3 ?_
              intro b218 c220 h223 h221 h222
              cases h222
              obtain ⟨x226, hx226, b84⟩ := bind_some b84
              refine st_op0 trivial ?_
              refine wf_storeW h74 h223 hx226 rfl (by decide) rfl rfl rfl Tryd.sizeOf3 rfl ?_
              intro w224 h227 s225
              replace h48 := h48.stp s225 (by decide) (by decide)
              replace hB := hB.stp s225 (by decide)
              refine wpF_end (r := [(4, v47), (5, (.int .i64 y49)), (6, (.int .i64 y50)), (7, v66), (25, v47), (26, (.int .i64 (y46.length : Int))), (27, (.int .i64 i77))]) ⟨rfl, rfl, rfl, rfl, rfl, rfl, rfl, trivial⟩ ?_
              refine nb_norm ?_
              refine nx ?_
              refine wpC_region ?_
              refine st_val (ex_add rfl rfl (ck_in (by omega) (by omega))) (by decide) trivial ?_
              refine st_val (ex_move rfl) (by decide) trivial ?_
              refine wpF_end (r := [(4, v47), (5, (.int .i64 y49)), (6, (.int .i64 y50)), (7, v66), (25, v47), (26, (.int .i64 (y46.length : Int))), (27, (.int .i64 (i77 + 1)))]) ⟨rfl, rfl, rfl, rfl, rfl, rfl, rfl, trivial⟩ ?_
              refine nt_norm ?_
              have e228 := Option.some.inj b84
              subst e228
              refine to_k (r := [(4, v47), (5, (.int .i64 y49)), (6, (.int .i64 y50)), (7, v66), (25, v47), (26, (.int .i64 (y46.length : Int))), (27, (.int .i64 (i77 + 1)))]) ⟨rfl, rfl, rfl, rfl, rfl, rfl, rfl, trivial⟩ ?_
              intro a ha
              exact ⟨_, (by rw [← m81]; simp only [List.length_drop]; omega), i77 + 1, x226, o211, n85, rfl, (by omega), ha, hB, h48, h227⟩
            · rw [if_neg (by rw [t93]; decide)] at b84
              refine wpC_skip ?_
              refine nb_norm ?_
              refine nx ?_
              refine wpC_region ?_
              refine st_val (ex_add rfl rfl (ck_in (by omega) (by omega))) (by decide) trivial ?_
              refine st_val (ex_move rfl) (by decide) trivial ?_
              refine wpF_end (r := [(4, v47), (5, (.int .i64 y49)), (6, (.int .i64 y50)), (7, v66), (25, v47), (26, (.int .i64 (y46.length : Int))), (27, (.int .i64 (i77 + 1)))]) ⟨rfl, rfl, rfl, rfl, rfl, rfl, rfl, trivial⟩ ?_
              refine nt_norm ?_
              have e229 := Option.some.inj b84
              subst e229
              refine to_k (r := [(4, v47), (5, (.int .i64 y49)), (6, (.int .i64 y50)), (7, v66), (25, v47), (26, (.int .i64 (y46.length : Int))), (27, (.int .i64 (i77 + 1)))]) ⟨rfl, rfl, rfl, rfl, rfl, rfl, rfl, trivial⟩ ?_
              intro a ha
              exact ⟨_, (by rw [← m81]; simp only [List.length_drop]; omega), i77 + 1, y73, o75, n85, rfl, (by omega), ha, hB, h48, h74⟩
          · have r230 := forI_done t86 l79
            refine wp_of ha ?_
            refine wpC_seq ?_
            refine wpC_region ?_
            refine st_val (ex_lss rfl rfl) (by decide) trivial ?_
            refine wpF_end (r := [(4, v47), (5, (.int .i64 y49)), (6, (.int .i64 y50)), (7, v66), (25, v47), (26, (.int .i64 (y46.length : Int))), (27, (.int .i64 i77)), (28, (.bool (decide (i77 < (y46.length : Int)))))]) ⟨rfl, rfl, rfl, rfl, rfl, rfl, rfl, rfl, trivial⟩ ?_
            refine nx ?_
            refine wpC_seq ?_
            refine wpC_false (congrArg (fun b => some (Value.bool b)) (decide_eq_false t86)) ?_
            refine wpC_exit ?_
            refine nt_exit ?_
            refine nt_exit ?_
            refine nb_hit ?_
            refine np_norm ?_
            refine to_k (r := [(5, (.int .i64 y49)), (6, (.int .i64 y50)), (7, v66)]) ⟨rfl, rfl, rfl, trivial⟩ ?_
            intro a ha
            exact ⟨y73, o75, r230, ha, hB, h74⟩
        · rintro a w76 ⟨y73, o75, rfl, ha, hB, h74⟩
          dsimp only at b59
          refine ap_k ha ?_
          refine nx ?_
          refine wpC_seq ?_
          refine wpC_region ?_
          refine st_val (ex_move rfl) (by decide) trivial ?_
          refine st_val (ex_assign rfl) (by decide) trivial ?_
          refine wpF_end (r := [(4, v66), (5, (.int .i64 y49)), (6, (.int .i64 y50))]) ⟨rfl, rfl, rfl, trivial⟩ ?_
          refine nx ?_
          refine wpC_region ?_
          refine st_val (ex_move rfl) (by decide) trivial ?_
          obtain ⟨x231, hx231, b59⟩ := bind_some b59
          refine st_val (ex_add rfl rfl hx231) (by decide) trivial ?_
          refine st_val (ex_assign rfl) (by decide) trivial ?_
          refine wpF_end (r := [(4, v66), (5, (.int .i64 x231)), (6, (.int .i64 y50))]) ⟨rfl, rfl, rfl, trivial⟩ ?_
          refine nb_norm ?_
          refine nx ?_
          refine wpC_region ?_
          refine st_val (ex_move rfl) (by decide) trivial ?_
          obtain ⟨x232, hx232, b59⟩ := bind_some b59
          refine st_val (ex_sub rfl rfl hx232) (by decide) trivial ?_
          refine st_val (ex_assign rfl) (by decide) trivial ?_
          refine wpF_end (r := [(4, v66), (5, (.int .i64 x231)), (6, (.int .i64 x232))]) ⟨rfl, rfl, rfl, trivial⟩ ?_
          refine nt_norm ?_
          have e233 := Option.some.inj b59
          subst e233
          replace h74 := h74.rtg 11 (by decide)
          replace hB := hB.rtg 14 11 (by decide) (by decide)
          generalize (rtg 14 11 o75) = o234 at *
          refine to_k (r := [(4, v66), (5, (.int .i64 x231)), (6, (.int .i64 x232))]) ⟨rfl, rfl, rfl, trivial⟩ ?_
          intro a ha
          exact ⟨K61, by omega, y73, x231, x232, v66, o234, n60, ha, hB, h74⟩
        · exact fun _ _ h => h.elim
      · rw [if_neg (by rw [t63]; decide)] at b59
        refine wpC_exit ?_
        refine nt_exit ?_
        refine nt_exit ?_
        refine nb_hit ?_
        refine np_norm ?_
        have e235 := Option.some.inj b59
        subst e235
        refine to_k (r := [(4, v47), (5, (.int .i64 y49))]) ⟨rfl, rfl, trivial⟩ ?_
        intro a ha
        exact ⟨y46, y49, y50, v47, o51, n60, ha, hB, h48⟩
    · rintro a w52 ⟨y46, y49, y50, v47, o51, rfl, ha, hB, h48⟩
      dsimp only at hF
      refine ap_k ha ?_
      refine nx ?_
      refine wpC_seq ?_
      refine wpC_region ?_
      refine st_val (ex_move rfl) (by decide) trivial ?_
      refine st_val (ex_move rfl) (by decide) trivial ?_
      refine st_val (ex_assign rfl) (by decide) trivial ?_
      refine st_val (ex_assign rfl) (by decide) trivial ?_
      refine wpF_end (r := [(2, v47), (3, (.int .i64 y49))]) ⟨rfl, rfl, trivial⟩ ?_
      refine nx ?_
      refine wpC_ret ?_
      have e236 := Option.some.inj hF
      subst e236
      refine ret_post (P := Tryd.prog) (vs := [v47, (.int .i64 y49)]) Tryd.results27 ⟨rfl, rfl, trivial⟩ ?_
      exact ⟨_, rt oo o51 w.heap.size 11 t, rfl, h48.rt hB (by decide) t, hB.keeps, rt_old _ _ _ _ _⟩
    · exact fun _ _ h => h.elim
  · exact fun _ _ h => h.elim

def fS_ThreeColours (fuel : Nat) (p0 : List Int) : Option ((List Int) × Int × Bool) :=
  (fS_cyIds p0) >>= fun x1 =>
  if !x1 then
    some ([], 0, false)
  else
    (fS_cyThree fuel p0) >>= fun x9 =>
    some (x9.1, x9.2, true)

def pS_ThreeColours (oo : Tg) (t : Nat) (w : World) (r : (List Int) × Int × Bool) : Ending → World → Prop := fun e w' => ∃ (v0 : Value) (o' : Tg), e = .returned (.tuple #[v0, .int .i64 r.2.1, .bool r.2.2]) ∧ Ow w.heap.size 3 t o' w' v0 r.1 ∧ Keeps w w' ∧ ∀ b, b < w.heap.size → o' b = oo b
set_option maxRecDepth 100000 in
set_option maxHeartbeats 2000000 in
theorem cS_ThreeColours (fuel : Nat) (w : World) (oo : Tg) (t : Nat) (ht : 2 ≤ t) (u0 : Value) (p0 : List Int) (g0 : RdL zt w u0 p0) (r : (List Int) × Int × Bool) (hF : fS_ThreeColours fuel p0 = some r) :
    Calls Tryd.prog 13 #[u0] w (pS_ThreeColours oo t w r) := by
  unfold fS_ThreeColours at hF
  have hB : Bs oo (col oo) w w := Bs.start _ _
  refine calls_start (n := 17) (vs := [u0]) Tryd.func13 rfl rfl ?_
  generalize col oo = o at *
  refine wpC_seq ?_
  refine wpC_region ?_
  refine st_val (ex_assign rfl) (by decide) trivial ?_
  refine st_val (ex_assign rfl) (by decide) trivial ?_
  refine st_val (ex_assign rfl) (by decide) trivial ?_
  refine wpF_end (r := [(0, u0)]) ⟨rfl, trivial⟩ ?_
  refine nx ?_
  refine wpC_seq ?_
  refine wpC_seq ?_
  refine wpC_region ?_
  refine st_val (ex_move rfl) (by decide) trivial ?_
  obtain ⟨x1, hx1, hF⟩ := bind_some hF
  refine st_op (by decide) trivial ?_
  refine wf_call (cS_cyIds w _ p0 (g0.keep hB.keeps) x1 hx1) Tryd.call26 ⟨rfl, trivial⟩ ?_
  rintro e6 w2 ⟨rfl, k3⟩
  have s5 := k3.stp 999 o
  refine ⟨_, rfl, ?_⟩
  replace hB := hB.stp s5 (by decide)
  refine st_val (ex_not rfl) (by decide) trivial ?_
  refine wpF_end (r := [(0, u0), (9, (.bool (!x1)))]) ⟨rfl, rfl, trivial⟩ ?_
  refine nx ?_
  refine wpC_cond rfl (fun t7 => ?_) (fun t7 => ?_)
  · rw [if_pos t7] at hF
    refine wpC_seq ?_
    refine wpC_region ?_
    refine st_val (ex_assign rfl) (by decide) trivial ?_
    refine st_val (ex_assign rfl) (by decide) trivial ?_
    refine st_val (ex_assign rfl) (by decide) trivial ?_
    refine wpF_end (r := [(2, (.slice none 0 0)), (3, (.int .i64 0)), (4, (.bool false))]) ⟨rfl, rfl, rfl, trivial⟩ ?_
    refine nx ?_
    refine wpC_ret ?_
    refine nt_ret ?_
    have e8 := Option.some.inj hF
    subst e8
    refine ret_post (P := Tryd.prog) (vs := [(.slice none 0 0), (.int .i64 0), (.bool false)]) Tryd.results13 ⟨rfl, rfl, rfl, trivial⟩ ?_
    exact ⟨_, rt oo o w.heap.size 9 t, rfl, (Ow.nil _ _ _ _ _), hB.keeps, rt_old _ _ _ _ _⟩
  · rw [if_neg (by rw [t7]; decide)] at hF
    refine wpC_skip ?_
    refine nx ?_
    refine wpC_seq ?_
    refine wpC_region ?_
    refine st_val (ex_move rfl) (by decide) trivial ?_
    obtain ⟨x9, hx9, hF⟩ := bind_some hF
    refine st_op (by decide) trivial ?_
    refine wf_call (cS_cyThree fuel w2 o 12 (by decide) _ p0 (g0.keep hB.keeps) x9 hx9) Tryd.call27 ⟨rfl, trivial⟩ ?_
    rintro e16 w10 ⟨v11, o17, rfl, h12, k13, k14⟩
    have s15 := k13.stp' 12 k14
    replace h12 := h12.mono hB.keeps.size
    refine ⟨_, rfl, ?_⟩
    replace hB := hB.stp s15 (by decide)
    refine st_val (ex_move rfl) (by decide) trivial ?_
    refine st_val (ex_extract rfl rfl) (by decide) trivial ?_
    refine st_val (ex_extract rfl rfl) (by decide) trivial ?_
    refine st_val (ex_assign rfl) (by decide) trivial ?_
    refine st_val (ex_assign rfl) (by decide) trivial ?_
    refine wpF_end (r := [(5, v11), (6, (.int .i64 x9.2))]) ⟨rfl, rfl, trivial⟩ ?_
    refine nx ?_
    refine wpC_seq ?_
    refine wpC_region ?_
    refine st_val (ex_move rfl) (by decide) trivial ?_
    refine st_val (ex_move rfl) (by decide) trivial ?_
    refine st_val (ex_assign rfl) (by decide) trivial ?_
    refine st_val (ex_assign rfl) (by decide) trivial ?_
    refine st_val (ex_assign rfl) (by decide) trivial ?_
    refine wpF_end (r := [(2, v11), (3, (.int .i64 x9.2)), (4, (.bool true))]) ⟨rfl, rfl, rfl, trivial⟩ ?_
    refine nx ?_
    refine wpC_ret ?_
    have e18 := Option.some.inj hF
    subst e18
    refine ret_post (P := Tryd.prog) (vs := [v11, (.int .i64 x9.2), (.bool true)]) Tryd.results13 ⟨rfl, rfl, rfl, trivial⟩ ?_
    exact ⟨_, rt oo o17 w.heap.size 12 t, rfl, h12.rt hB (by decide) t, hB.keeps, rt_old _ _ _ _ _⟩

def fX_slices_Max_int_int_s1 (p0 : List Int) : (Int × Int) → Option (Lp (Int × Int) (Int × Int) Int) := fun (s : Int × Int) =>
  if decide (s.2 < (p0.length : Int)) then
    (ix p0 s.2) >>= fun x23 =>
    (ck (s.2 + 1)) >>= fun x29 =>
    some (.go (max s.1 x23, x29))
  else
    some (.out (s.1, s.2))
def fX_slices_Max_int_int (fuel : Nat) (p0 : List Int) : Option Int :=
  if decide ((p0.length : Int) < 1) then
    none
  else
    (ix p0 0) >>= fun x2 =>
    (loopF (fX_slices_Max_int_int_s1 p0) fuel (x2, 1)) >>= fun q12 =>
    match q12 with
    | .inl (y8, y9) =>
      some y8
    | .inr _ => none

def pX_slices_Max_int_int (w : World) (r : Int) : Ending → World → Prop := fun e w' => e = .returned (.int .i64 r) ∧ Keeps w w'
set_option maxRecDepth 100000 in
set_option maxHeartbeats 2000000 in
theorem cX_slices_Max_int_int (fuel : Nat) (w : World) (u0 : Value) (p0 : List Int) (g0 : RdL zt w u0 p0) (r : Int) (hF : fX_slices_Max_int_int fuel p0 = some r) :
    Calls Tryd.prog 53 #[u0] w (pX_slices_Max_int_int w r) := by
  unfold fX_slices_Max_int_int at hF
  have hB : Bs (fun _ => 1) (col (fun _ => 1)) w w := Bs.start _ _
  refine calls_start (n := 25) (vs := [u0]) Tryd.func53 rfl rfl ?_
  refine wpC_seq ?_
  refine wpC_region ?_
  refine st_val (ex_assign rfl) (by decide) trivial ?_
  refine wpF_end (r := [(0, u0)]) ⟨rfl, trivial⟩ ?_
  refine nx ?_
  refine wpC_seq ?_
  refine wpC_seq ?_
  refine wpC_region ?_
  refine st_val (ex_move rfl) (by decide) trivial ?_
  refine st_val (ex_lenR rfl g0 Tryd.underlying22) (by decide) trivial ?_
  refine st_val (ex_lss rfl rfl) (by decide) trivial ?_
  refine wpF_end (r := [(0, u0), (7, (.bool (decide ((p0.length : Int) < 1))))]) ⟨rfl, rfl, trivial⟩ ?_
  refine nx ?_
  refine wpC_cond rfl (fun t1 => ?_) (fun t1 => ?_)
  · rw [if_pos t1] at hF
    cases hF
  · rw [if_neg (by rw [t1]; decide)] at hF
    refine wpC_skip ?_
    refine nx ?_
    refine wpC_seq ?_
    refine wpC_region ?_
    refine st_val (ex_move rfl) (by decide) trivial ?_
    obtain ⟨x2, hx2, hF⟩ := bind_some hF
    refine st_op (by decide) trivial ?_
    refine wf_atZ g0 hx2 hB rfl rfl Tryd.underlying22 Tryd.sizeOf3 ?_
    intro b3 f4 c5 h6 h7
    cases h7
    refine st_val (ex_load1 rfl Tryd.isAgg3 (cell_of_cells h6)) (by decide) trivial ?_
    refine st_val (ex_assign rfl) (by decide) trivial ?_
    refine wpF_end (r := [(0, u0), (3, (.int .i64 x2))]) ⟨rfl, rfl, trivial⟩ ?_
    refine nx ?_
    refine wpC_seq ?_
    refine wpC_seq ?_
    refine wpC_region ?_
    refine st_val (ex_assign rfl) (by decide) trivial ?_
    refine wpF_end (r := [(0, u0), (3, (.int .i64 x2)), (4, (.int .i64 1))]) ⟨rfl, rfl, rfl, trivial⟩ ?_
    refine nx ?_
    obtain ⟨q12, hq12, hF⟩ := bind_some hF
    refine wpC_cutN (fun a w11 => ∃ (y8 : Int) (y9 : Int) (o10 : Tg), q12 = .inl (y8, y9) ∧ Fr a 25 [(3, (.int .i64 y8))] ∧ Bs (fun _ => 1) o10 w w11) (fun _ _ => False) ?_ ?_ ?_
    · refine wpC_block ?_
      refine wpC_loop (fun (K : Nat) a w11 => ∃ (y8 : Int) (y9 : Int) (o10 : Tg), loopF (fX_slices_Max_int_int_s1 p0) K (y8, y9) = some q12 ∧ Fr a 25 [(0, u0), (3, (.int .i64 y8)), (4, (.int .i64 y9))] ∧ Bs (fun _ => 1) o10 w w11) fuel (fun a ha => ⟨x2, 1, (col (fun _ => 1)), hq12, ha.sub (r := [(0, u0), (3, (.int .i64 x2)), (4, (.int .i64 1))]) ⟨rfl, rfl, rfl, trivial⟩, hB⟩) ?_
      rintro K16 a w11 ⟨y8, y9, o10, l13, ha, hB⟩
      obtain ⟨K20, q17, e21, b18, n19⟩ := loopF_cons l13
      dsimp only [fX_slices_Max_int_int_s1] at b18
      refine wp_of ha ?_
      refine wpC_seq ?_
      refine wpC_seq ?_
      refine wpC_region ?_
      refine st_val (ex_move rfl) (by decide) trivial ?_
      refine st_val (ex_move rfl) (by decide) trivial ?_
      refine st_val (ex_lenR rfl g0 Tryd.underlying22) (by decide) trivial ?_
      refine st_val (ex_lss rfl rfl) (by decide) trivial ?_
      refine wpF_end (r := [(0, u0), (3, (.int .i64 y8)), (4, (.int .i64 y9)), (15, (.bool (decide (y9 < (p0.length : Int)))))]) ⟨rfl, rfl, rfl, rfl, trivial⟩ ?_
      refine nx ?_
      refine wpC_cond rfl (fun t22 => ?_) (fun t22 => ?_)
      · rw [if_pos t22] at b18
        refine wpC_skip ?_
        refine nx ?_
        refine wpC_seq ?_
        refine wpC_block ?_
        refine wpC_region ?_
        refine st_val (ex_move rfl) (by decide) trivial ?_
        refine st_val (ex_move rfl) (by decide) trivial ?_
        refine st_val (ex_move rfl) (by decide) trivial ?_
        obtain ⟨x23, hx23, b18⟩ := bind_some b18
        refine st_op (by decide) trivial ?_
        refine wf_atZ g0 hx23 hB rfl rfl Tryd.underlying22 Tryd.sizeOf3 ?_
        intro b24 f25 c26 h27 h28
        cases h28
        refine st_val (ex_load1 rfl Tryd.isAgg3 (cell_of_cells h27)) (by decide) trivial ?_
        refine st_val (ex_max rfl rfl) (by decide) trivial ?_
        refine st_val (ex_assign rfl) (by decide) trivial ?_
        refine wpF_end (r := [(0, u0), (3, (.int .i64 (max y8 x23))), (4, (.int .i64 y9))]) ⟨rfl, rfl, rfl, trivial⟩ ?_
        refine nb_norm ?_
        refine nx ?_
        refine wpC_region ?_
        refine st_val (ex_move rfl) (by decide) trivial ?_
        obtain ⟨x29, hx29, b18⟩ := bind_some b18
        refine st_val (ex_add rfl rfl hx29) (by decide) trivial ?_
        refine st_val (ex_assign rfl) (by decide) trivial ?_
        refine wpF_end (r := [(0, u0), (3, (.int .i64 (max y8 x23))), (4, (.int .i64 x29))]) ⟨rfl, rfl, rfl, trivial⟩ ?_
        refine nt_norm ?_
        have e30 := Option.some.inj b18
        subst e30
        refine to_k (r := [(0, u0), (3, (.int .i64 (max y8 x23))), (4, (.int .i64 x29))]) ⟨rfl, rfl, rfl, trivial⟩ ?_
        intro a ha
        exact ⟨K20, by omega, max y8 x23, x29, o10, n19, ha, hB⟩
      · rw [if_neg (by rw [t22]; decide)] at b18
        refine wpC_exit ?_
        refine nt_exit ?_
        refine nt_exit ?_
        refine nb_hit ?_
        refine np_norm ?_
        have e31 := Option.some.inj b18
        subst e31
        refine to_k (r := [(3, (.int .i64 y8))]) ⟨rfl, trivial⟩ ?_
        intro a ha
        exact ⟨y8, y9, o10, n19, ha, hB⟩
    · rintro a w11 ⟨y8, y9, o10, rfl, ha, hB⟩
      dsimp only at hF
      refine ap_k ha ?_
      refine nx ?_
      refine wpC_seq ?_
      refine wpC_region ?_
      refine st_val (ex_move rfl) (by decide) trivial ?_
      refine st_val (ex_assign rfl) (by decide) trivial ?_
      refine wpF_end (r := [(2, (.int .i64 y8))]) ⟨rfl, trivial⟩ ?_
      refine nx ?_
      refine wpC_ret ?_
      have e32 := Option.some.inj hF
      subst e32
      refine ret_post (P := Tryd.prog) (vs := [(.int .i64 y8)]) Tryd.results53 ⟨rfl, trivial⟩ ?_
      exact ⟨rfl, hB.keeps⟩
    · exact fun _ _ h => h.elim

def fI_threeColours_s1 (fuel : Nat) : ((List Int) × Int) → Option (Lp ((List Int) × Int) ((List Int) × Int) ((List Int) × Int)) := fun (s : (List Int) × Int) =>
  (fX_slices_Max_int_int fuel s.1) >>= fun x26 =>
  if decide (x26 > 5) then
    (fI_bitStep s.1) >>= fun x33 =>
    (ck (s.2 + 1)) >>= fun x42 =>
    some (.go (x33, x42))
  else
    some (.out (s.1, s.2))
def fI_threeColours_s4 (y10 : List Int) (y63 : List Int) (i67 : Int) : Int → Option (Lp Int Int ((List Int) × Int)) := fun (s : Int) =>
  (ck (i67 + (y10.length : Int))) >>= fun x100 =>
  (ck (x100 - 1)) >>= fun x101 =>
  (rem x101 (y10.length : Int)) >>= fun x102 =>
  (ix y63 x102) >>= fun x103 =>
  (
    if s == x103 then
      some true
    else
      (ck (i67 + 1)) >>= fun x113 =>
      (rem x113 (y10.length : Int)) >>= fun x114 =>
      (ix y63 x114) >>= fun x115 =>
      some (s == x115)) >>= fun q109 =>
  if q109 then
    (ck (s + 1)) >>= fun x125 =>
    some (.go x125)
  else
    some (.out s)
def fI_threeColours_s3 (fuel : Nat) (y10 : List Int) (y49 : Int) : Int → (List Int) → Option (Lp (List Int) (List Int) ((List Int) × Int)) := fun (i67 : Int) (s : List Int) =>
  (ix s i67) >>= fun x79 =>
  if x79 != y49 then
    some (.go s)
  else
    (loopF (fI_threeColours_s4 y10 s i67) fuel 0) >>= fun q90 =>
    match q90 with
    | .inl y87 =>
      (ix s i67) >>= fun x128 =>
      (st s i67 y87) >>= fun x137 =>
      some (.go x137)
    | .inr _ => none
def fI_threeColours_s2 (fuel : Nat) (y10 : List Int) : ((List Int) × Int × Int) → Option (Lp ((List Int) × Int × Int) ((List Int) × Int × Int) ((List Int) × Int)) := fun (s : (List Int) × Int × Int) =>
  if decide (s.2.2 > 2) then
    ck (s.1.length : Int) >>= fun _ =>
    (forN (fI_threeColours_s3 fuel y10 s.2.2) ((s.1.length : Int)).toNat 0 s.1) >>= fun q68 =>
    match q68 with
    | .inl y63 =>
      (ck (s.2.1 + 1)) >>= fun x141 =>
      (ck (s.2.2 - 1)) >>= fun x142 =>
      some (.go (y63, x141, x142))
    | .inr _ => none
  else
    some (.out (s.1, s.2.1, s.2.2))
def fI_threeColours (fuel : Nat) (p0 : List Int) : Option ((List Int) × Int) :=
  (fX_slices_Clone_int_int p0) >>= fun x1 =>
  (loopF (fI_threeColours_s1 fuel) fuel (x1, 0)) >>= fun q16 =>
  match q16 with
  | .inl (y10, y13) =>
    (loopF (fI_threeColours_s2 fuel y10) fuel (y10, y13, 5)) >>= fun q52 =>
    match q52 with
    | .inl (y46, y48, y49) =>
      some (y46, y48)
    | .inr _ => none
  | .inr _ => none

def pI_threeColours (oo : Tg) (t : Nat) (w : World) (r : (List Int) × Int) : Ending → World → Prop := fun e w' => ∃ (v0 : Value) (o' : Tg), e = .returned (.tuple #[v0, .int .i64 r.2]) ∧ Ow w.heap.size 3 t o' w' v0 r.1 ∧ Keeps w w' ∧ ∀ b, b < w.heap.size → o' b = oo b
set_option maxRecDepth 100000 in
set_option maxHeartbeats 2000000 in
theorem cI_threeColours (fuel : Nat) (w : World) (oo : Tg) (t : Nat) (ht : 2 ≤ t) (u0 : Value) (p0 : List Int) (g0 : RdL zt w u0 p0) (r : (List Int) × Int) (hF : fI_threeColours fuel p0 = some r) (hTab : TabAt 0 Lib.deBruijn64tab w) :
    Calls Tryd.prog 29 #[u0] w (pI_threeColours oo t w r) := by
  unfold fI_threeColours at hF
  have hB : Bs oo (col oo) w w := Bs.start _ _
  refine calls_start (n := 69) (vs := [u0]) Tryd.func29 rfl rfl ?_
  generalize col oo = o at *
  refine wpC_seq ?_
  refine wpC_region ?_
  refine st_val (ex_assign rfl) (by decide) trivial ?_
  refine st_val (ex_assign rfl) (by decide) trivial ?_
  refine wpF_end (r := [(0, u0)]) ⟨rfl, trivial⟩ ?_
  refine nx ?_
  refine wpC_seq ?_
  refine wpC_region ?_
  refine st_val (ex_move rfl) (by decide) trivial ?_
  obtain ⟨x1, hx1, hF⟩ := bind_some hF
  refine st_op (by decide) trivial ?_
  refine wf_call (cX_slices_Clone_int_int w o 11 (by decide) _ p0 (g0.keep hB.keeps) x1 hx1) Tryd.call52 ⟨rfl, trivial⟩ ?_
  rintro e8 w2 ⟨v3, o9, rfl, h4, k5, k6⟩
  have s7 := k5.stp' 11 k6
  replace h4 := h4.mono hB.keeps.size
  refine ⟨_, rfl, ?_⟩
  replace hB := hB.stp s7 (by decide)
  refine st_val (ex_assign rfl) (by decide) trivial ?_
  refine st_val (ex_assign rfl) (by decide) trivial ?_
  refine wpF_end (r := [(4, v3), (5, (.int .i64 0))]) ⟨rfl, rfl, trivial⟩ ?_
  refine nx ?_
  obtain ⟨q16, hq16, hF⟩ := bind_some hF
  refine wpC_cutP (fun a w15 => ∃ (y10 : List Int) (y13 : Int) (v11 : Value) (o14 : Tg), q16 = .inl (y10, y13) ∧ Fr a 69 [(4, v11), (5, (.int .i64 y13))] ∧ Bs oo o14 w w15 ∧ Ow w.heap.size 3 11 o14 w15 v11 y10) (fun _ _ => False) ?_ ?_ ?_
  · refine wpC_block ?_
    refine wpC_loop (fun (K : Nat) a w15 => ∃ (y10 : List Int) (y13 : Int) (v11 : Value) (o14 : Tg), loopF (fI_threeColours_s1 fuel) K (y10, y13) = some q16 ∧ Fr a 69 [(4, v11), (5, (.int .i64 y13))] ∧ Bs oo o14 w w15 ∧ Ow w.heap.size 3 11 o14 w15 v11 y10) fuel (fun a ha => ⟨x1, 0, v3, o9, hq16, ha.sub (r := [(4, v3), (5, (.int .i64 0))]) ⟨rfl, rfl, trivial⟩, hB, h4⟩) ?_
    rintro K20 a w15 ⟨y10, y13, v11, o14, l17, ha, hB, h12⟩
    obtain ⟨K24, q21, e25, b22, n23⟩ := loopF_cons l17
    dsimp only [fI_threeColours_s1] at b22
    refine wp_of ha ?_
    refine wpC_seq ?_
    refine wpC_seq ?_
    refine wpC_region ?_
    refine st_val (ex_move rfl) (by decide) trivial ?_
    obtain ⟨x26, hx26, b22⟩ := bind_some b22
    refine st_op (by decide) trivial ?_
    refine wf_call (cX_slices_Max_int_int fuel w15 _ y10 h12.z x26 hx26) Tryd.call53 ⟨rfl, trivial⟩ ?_
    rintro e31 w27 ⟨rfl, k28⟩
    have s30 := k28.stp 999 o14
    refine ⟨_, rfl, ?_⟩
    replace h12 := h12.stp s30 (by decide) (by decide)
    replace hB := hB.stp s30 (by decide)
    refine st_val (ex_gtr rfl rfl) (by decide) trivial ?_
    refine wpF_end (r := [(4, v11), (5, (.int .i64 y13)), (14, (.bool (decide (x26 > 5))))]) ⟨rfl, rfl, rfl, trivial⟩ ?_
    refine nx ?_
    refine wpC_cond rfl (fun t32 => ?_) (fun t32 => ?_)
    · rw [if_pos t32] at b22
      refine wpC_skip ?_
      refine nx ?_
      refine wpC_seq ?_
      refine wpC_block ?_
      refine wpC_region ?_
      refine st_val (ex_move rfl) (by decide) trivial ?_
      obtain ⟨x33, hx33, b22⟩ := bind_some b22
      refine st_op (by decide) trivial ?_
      refine wf_call (cI_bitStep w27 o14 13 (by decide) _ y10 h12.z x33 hx33 (tab_keep hTab hB.keeps)) Tryd.call25 ⟨rfl, trivial⟩ ?_
      rintro e40 w34 ⟨v35, o41, rfl, h36, k37, k38⟩
      have s39 := k37.stp' 13 k38
      replace h36 := h36.mono hB.keeps.size
      refine ⟨_, rfl, ?_⟩
      replace h12 := h12.stp s39 (by decide) (by decide)
      replace hB := hB.stp s39 (by decide)
      refine st_val (ex_assign rfl) (by decide) trivial ?_
      refine wpF_end (r := [(4, v35), (5, (.int .i64 y13))]) ⟨rfl, rfl, trivial⟩ ?_
      refine nb_norm ?_
      refine nx ?_
      refine wpC_region ?_
      refine st_val (ex_move rfl) (by decide) trivial ?_
      obtain ⟨x42, hx42, b22⟩ := bind_some b22
      refine st_val (ex_add rfl rfl hx42) (by decide) trivial ?_
      refine st_val (ex_assign rfl) (by decide) trivial ?_
      refine wpF_end (r := [(4, v35), (5, (.int .i64 x42))]) ⟨rfl, rfl, trivial⟩ ?_
      refine nt_norm ?_
      have e43 := Option.some.inj b22
      subst e43
      replace h36 := h36.rtg 11 (by decide)
      replace hB := hB.rtg 13 11 (by decide) (by decide)
      generalize (rtg 13 11 o41) = o44 at *
      refine to_k (r := [(4, v35), (5, (.int .i64 x42))]) ⟨rfl, rfl, trivial⟩ ?_
      intro a ha
      exact ⟨K24, by omega, x33, x42, v35, o44, n23, ha, hB, h36⟩
    · rw [if_neg (by rw [t32]; decide)] at b22
      refine wpC_exit ?_
      refine nt_exit ?_
      refine nt_exit ?_
      refine nb_hit ?_
      refine np_norm ?_
      have e45 := Option.some.inj b22
      subst e45
      refine to_k (r := [(4, v11), (5, (.int .i64 y13))]) ⟨rfl, rfl, trivial⟩ ?_
      intro a ha
      exact ⟨y10, y13, v11, o14, n23, ha, hB, h12⟩
  · rintro a w15 ⟨y10, y13, v11, o14, rfl, ha, hB, h12⟩
    dsimp only at hF
    refine wp_of ha ?_
    refine wpC_seq ?_
    refine wpC_region ?_
    refine st_val (ex_move rfl) (by decide) trivial ?_
    refine st_val (ex_lenO rfl h12 Tryd.underlying22) (by decide) trivial ?_
    refine st_val (ex_assign rfl) (by decide) trivial ?_
    refine wpF_end (r := [(4, v11), (5, (.int .i64 y13)), (6, (.int .i64 (y10.length : Int)))]) ⟨rfl, rfl, rfl, trivial⟩ ?_
    refine nx ?_
    refine wpC_seq ?_
    refine wpC_seq ?_
    refine wpC_region ?_
    refine st_val (ex_assign rfl) (by decide) trivial ?_
    refine wpF_end (r := [(4, v11), (5, (.int .i64 y13)), (6, (.int .i64 (y10.length : Int))), (7, (.int .i64 5))]) ⟨rfl, rfl, rfl, rfl, trivial⟩ ?_
    refine nx ?_
    obtain ⟨q52, hq52, hF⟩ := bind_some hF
    refine wpC_cutN (fun a w51 => ∃ (y46 : List Int) (y48 : Int) (y49 : Int) (o50 : Tg), q52 = .inl (y46, y48, y49) ∧ Fr a 69 [(4, v11), (5, (.int .i64 y48))] ∧ Bs oo o50 w w51 ∧ Ow w.heap.size 3 11 o50 w51 v11 y46) (fun _ _ => False) ?_ ?_ ?_
    · refine wpC_block ?_
      refine wpC_loop (fun (K : Nat) a w51 => ∃ (y46 : List Int) (y48 : Int) (y49 : Int) (o50 : Tg), loopF (fI_threeColours_s2 fuel y10) K (y46, y48, y49) = some q52 ∧ Fr a 69 [(4, v11), (5, (.int .i64 y48)), (6, (.int .i64 (y10.length : Int))), (7, (.int .i64 y49))] ∧ Bs oo o50 w w51 ∧ Ow w.heap.size 3 11 o50 w51 v11 y46) fuel (fun a ha => ⟨y10, y13, 5, o14, hq52, ha.sub (r := [(4, v11), (5, (.int .i64 y13)), (6, (.int .i64 (y10.length : Int))), (7, (.int .i64 5))]) ⟨rfl, rfl, rfl, rfl, trivial⟩, hB, h12⟩) ?_
      rintro K56 a w51 ⟨y46, y48, y49, o50, l53, ha, hB, h47⟩
      obtain ⟨K60, q57, e61, b58, n59⟩ := loopF_cons l53
      dsimp only [fI_threeColours_s2] at b58
      refine wp_of ha ?_
      refine wpC_seq ?_
      refine wpC_seq ?_
      refine wpC_region ?_
      refine st_val (ex_move rfl) (by decide) trivial ?_
      refine st_val (ex_gtr rfl rfl) (by decide) trivial ?_
      refine wpF_end (r := [(4, v11), (5, (.int .i64 y48)), (6, (.int .i64 (y10.length : Int))), (7, (.int .i64 y49)), (22, (.bool (decide (y49 > 2))))]) ⟨rfl, rfl, rfl, rfl, rfl, trivial⟩ ?_
      refine nx ?_
      refine wpC_cond rfl (fun t62 => ?_) (fun t62 => ?_)
      · rw [if_pos t62] at b58
        refine wpC_skip ?_
        refine nx ?_
        refine wpC_seq ?_
        refine wpC_block ?_
        refine wpC_seq ?_
        refine wpC_seq ?_
        refine wpC_region ?_
        refine st_val (ex_move rfl) (by decide) trivial ?_
        refine st_val (ex_lenO rfl h47 Tryd.underlying22) (by decide) trivial ?_
        refine st_val (ex_move rfl) (by decide) trivial ?_
        refine wpF_end (r := [(4, v11), (5, (.int .i64 y48)), (6, (.int .i64 (y10.length : Int))), (7, (.int .i64 y49)), (26, (.int .i64 (y46.length : Int))), (27, (.int .i64 0))]) ⟨rfl, rfl, rfl, rfl, rfl, rfl, trivial⟩ ?_
        refine nx ?_
        obtain ⟨u70, h69, b58⟩ := bind_some b58
        obtain ⟨-, h69a, h69b⟩ := ck_some h69
        obtain ⟨q68, hq68, b58⟩ := bind_some b58
        refine wpC_cutN (fun a w66 => ∃ (y63 : List Int) (o65 : Tg), q68 = .inl y63 ∧ Fr a 69 [(4, v11), (5, (.int .i64 y48)), (6, (.int .i64 (y10.length : Int))), (7, (.int .i64 y49))] ∧ Bs oo o65 w w66 ∧ Ow w.heap.size 3 11 o65 w66 v11 y63) (fun _ _ => False) ?_ ?_ ?_
        · refine wpC_block ?_
          refine wpC_loop (fun (K : Nat) a w66 => ∃ (i67 : Int) (y63 : List Int) (o65 : Tg), forN (fI_threeColours_s3 fuel y10 y49) ((y46.length : Int) - i67).toNat i67 y63 = some q68 ∧ ((y46.length : Int) - i67).toNat = K ∧ 0 ≤ i67 ∧ Fr a 69 [(4, v11), (5, (.int .i64 y48)), (6, (.int .i64 (y10.length : Int))), (7, (.int .i64 y49)), (26, (.int .i64 (y46.length : Int))), (27, (.int .i64 i67))] ∧ Bs oo o65 w w66 ∧ Ow w.heap.size 3 11 o65 w66 v11 y63) _ (fun a ha => ⟨0, y46, o50, (by rw [Int.sub_zero]; exact hq68), rfl, Int.le_refl 0, ha.sub (r := [(4, v11), (5, (.int .i64 y48)), (6, (.int .i64 (y10.length : Int))), (7, (.int .i64 y49)), (26, (.int .i64 (y46.length : Int))), (27, (.int .i64 0))]) ⟨rfl, rfl, rfl, rfl, rfl, rfl, trivial⟩, hB, h47⟩) ?_
          rintro K74 a w66 ⟨i67, y63, o65, l71, m73, z72, ha, hB, h64⟩
          by_cases t78 : i67 < (y46.length : Int)
          · obtain ⟨q75, b76, n77⟩ := forN_cons t78 l71
            dsimp only [fI_threeColours_s3] at b76
            refine wp_of ha ?_
            refine wpC_seq ?_
            refine wpC_region ?_
            refine st_val (ex_lss rfl rfl) (by decide) trivial ?_
            refine wpF_end (r := [(4, v11), (5, (.int .i64 y48)), (6, (.int .i64 (y10.length : Int))), (7, (.int .i64 y49)), (26, (.int .i64 (y46.length : Int))), (27, (.int .i64 i67)), (28, (.bool (decide (i67 < (y46.length : Int)))))]) ⟨rfl, rfl, rfl, rfl, rfl, rfl, rfl, trivial⟩ ?_
            refine nx ?_
            refine wpC_seq ?_
            refine wpC_true (congrArg (fun b => some (Value.bool b)) (decide_eq_true t78)) ?_
            refine wpC_skip ?_
            refine nx ?_
            refine wpC_seq ?_
            refine wpC_block ?_
            refine wpC_seq ?_
            refine wpC_region ?_
            refine st_val (ex_move rfl) (by decide) trivial ?_
            refine st_val (ex_assign rfl) (by decide) trivial ?_
            refine wpF_end (r := [(4, v11), (5, (.int .i64 y48)), (6, (.int .i64 (y10.length : Int))), (7, (.int .i64 y49)), (8, (.int .i64 i67)), (26, (.int .i64 (y46.length : Int))), (27, (.int .i64 i67))]) ⟨rfl, rfl, rfl, rfl, rfl, rfl, rfl, trivial⟩ ?_
            refine nx ?_
            refine wpC_seq ?_
            refine wpC_seq ?_
            refine wpC_region ?_
            refine st_val (ex_move rfl) (by decide) trivial ?_
            refine st_val (ex_move rfl) (by decide) trivial ?_
            obtain ⟨x79, hx79, b76⟩ := bind_some b76
            refine st_op (by decide) trivial ?_
            refine wf_atW h64 hx79 rfl rfl Tryd.underlying22 Tryd.sizeOf3 ?_
            intro b80 f81 c82 h83 h84
            cases h84
            refine st_val (ex_load1 rfl Tryd.isAgg3 (cell_of_cells h83)) (by decide) trivial ?_
            refine st_val (ex_move rfl) (by decide) trivial ?_
            refine st_val (ex_neq rfl rfl) (by decide) trivial ?_
            refine wpF_end (r := [(4, v11), (5, (.int .i64 y48)), (6, (.int .i64 (y10.length : Int))), (7, (.int .i64 y49)), (8, (.int .i64 i67)), (26, (.int .i64 (y46.length : Int))), (27, (.int .i64 i67)), (35, (.bool (x79 != y49)))]) ⟨rfl, rfl, rfl, rfl, rfl, rfl, rfl, rfl, trivial⟩ ?_
            refine nx ?_
            refine wpC_cond rfl (fun t85 => ?_) (fun t85 => ?_)
            · rw [if_pos t85] at b76
              refine wpC_exit ?_
              refine nt_exit ?_
              refine nb_hit ?_
              refine nx ?_
              refine wpC_region ?_
              refine st_val (ex_add rfl rfl (ck_in (by omega) (by omega))) (by decide) trivial ?_
              refine st_val (ex_move rfl) (by decide) trivial ?_
              refine wpF_end (r := [(4, v11), (5, (.int .i64 y48)), (6, (.int .i64 (y10.length : Int))), (7, (.int .i64 y49)), (26, (.int .i64 (y46.length : Int))), (27, (.int .i64 (i67 + 1)))]) ⟨rfl, rfl, rfl, rfl, rfl, rfl, trivial⟩ ?_
              refine nt_norm ?_
              have e86 := Option.some.inj b76
              subst e86
              refine to_k (r := [(4, v11), (5, (.int .i64 y48)), (6, (.int .i64 (y10.length : Int))), (7, (.int .i64 y49)), (26, (.int .i64 (y46.length : Int))), (27, (.int .i64 (i67 + 1)))]) ⟨rfl, rfl, rfl, rfl, rfl, rfl, trivial⟩ ?_
              intro a ha
              exact ⟨_, (by rw [← m73]; omega), i67 + 1, y63, o65, n77, rfl, (by omega), ha, hB, h64⟩
            · rw [if_neg (by rw [t85]; decide)] at b76
              refine wpC_skip ?_
              refine nx ?_
              refine wpC_seq ?_
              refine wpC_region ?_
              refine st_val (ex_assign rfl) (by decide) trivial ?_
              refine wpF_end (r := [(4, v11), (5, (.int .i64 y48)), (6, (.int .i64 (y10.length : Int))), (7, (.int .i64 y49)), (8, (.int .i64 i67)), (9, (.int .i64 0)), (26, (.int .i64 (y46.length : Int))), (27, (.int .i64 i67))]) ⟨rfl, rfl, rfl, rfl, rfl, rfl, rfl, rfl, trivial⟩ ?_
              refine nx ?_
              obtain ⟨q90, hq90, b76⟩ := bind_some b76
              refine wpC_cutP (fun a w89 => ∃ (y87 : Int) (o88 : Tg), q90 = .inl y87 ∧ Fr a 69 [(4, v11), (5, (.int .i64 y48)), (6, (.int .i64 (y10.length : Int))), (7, (.int .i64 y49)), (8, (.int .i64 i67)), (9, (.int .i64 y87)), (26, (.int .i64 (y46.length : Int))), (27, (.int .i64 i67))] ∧ Bs oo o88 w w89 ∧ Ow w.heap.size 3 11 o88 w89 v11 y63) (fun _ _ => False) ?_ ?_ ?_
              · refine wpC_block ?_
                refine wpC_loop (fun (K : Nat) a w89 => ∃ (y87 : Int) (o88 : Tg), loopF (fI_threeColours_s4 y10 y63 i67) K y87 = some q90 ∧ Fr a 69 [(4, v11), (5, (.int .i64 y48)), (6, (.int .i64 (y10.length : Int))), (7, (.int .i64 y49)), (8, (.int .i64 i67)), (9, (.int .i64 y87)), (26, (.int .i64 (y46.length : Int))), (27, (.int .i64 i67))] ∧ Bs oo o88 w w89 ∧ Ow w.heap.size 3 11 o88 w89 v11 y63) fuel (fun a ha => ⟨0, o65, hq90, ha.sub (r := [(4, v11), (5, (.int .i64 y48)), (6, (.int .i64 (y10.length : Int))), (7, (.int .i64 y49)), (8, (.int .i64 i67)), (9, (.int .i64 0)), (26, (.int .i64 (y46.length : Int))), (27, (.int .i64 i67))]) ⟨rfl, rfl, rfl, rfl, rfl, rfl, rfl, rfl, trivial⟩, hB, h64⟩) ?_
                rintro K94 a w89 ⟨y87, o88, l91, ha, hB, h64⟩
                obtain ⟨K98, q95, e99, b96, n97⟩ := loopF_cons l91
                dsimp only [fI_threeColours_s4] at b96
                refine wp_of ha ?_
                refine wpC_seq ?_
                refine wpC_seq ?_
                refine wpC_region ?_
                refine st_val (ex_move rfl) (by decide) trivial ?_
                refine st_val (ex_move rfl) (by decide) trivial ?_
                refine st_val (ex_move rfl) (by decide) trivial ?_
                refine st_val (ex_move rfl) (by decide) trivial ?_
                obtain ⟨x100, hx100, b96⟩ := bind_some b96
                refine st_val (ex_add rfl rfl hx100) (by decide) trivial ?_
                obtain ⟨x101, hx101, b96⟩ := bind_some b96
                refine st_val (ex_sub rfl rfl hx101) (by decide) trivial ?_
                refine st_val (ex_move rfl) (by decide) trivial ?_
                obtain ⟨x102, hx102, b96⟩ := bind_some b96
                refine st_val (ex_rem rfl rfl hx102) (by decide) trivial ?_
                obtain ⟨x103, hx103, b96⟩ := bind_some b96
                refine st_op (by decide) trivial ?_
                refine wf_atW h64 hx103 rfl rfl Tryd.underlying22 Tryd.sizeOf3 ?_
                intro b104 f105 c106 h107 h108
                cases h108
                refine st_val (ex_load1 rfl Tryd.isAgg3 (cell_of_cells h107)) (by decide) trivial ?_
                refine st_val (ex_eql rfl rfl) (by decide) trivial ?_
                refine st_val (ex_move rfl) (by decide) trivial ?_
                obtain ⟨q109, hq109, b96⟩ := bind_some b96
                refine wpF_cutAt 10 (fun a111 w110 => Fr a111 69 [(4, v11), (5, (.int .i64 y48)), (6, (.int .i64 (y10.length : Int))), (7, (.int .i64 y49)), (8, (.int .i64 i67)), (9, (.int .i64 y87)), (26, (.int .i64 (y46.length : Int))), (27, (.int .i64 i67)), (57, (.bool q109))] ∧ Keeps w89 w110) ?_ ?_
                all_goals simp only [List.take_succ_cons, List.take_zero, List.drop_succ_cons, List.drop_zero]
                · have kp : Keeps w89 w89 := Keeps.refl _
                  rcases Bool.eq_false_or_eq_true (y87 == x103) with t112 | t112
                  · rw [if_pos t112] at hq109
                    refine st_no rfl rfl (by rw [t112]; rfl) (by decide) ?_
                    refine st_no rfl rfl (by rw [t112]; rfl) (by decide) ?_
                    refine st_no rfl rfl (by rw [t112]; rfl) (by decide) ?_
                    refine st_no rfl rfl (by rw [t112]; rfl) (by decide) ?_
                    refine st_no rfl rfl (by rw [t112]; rfl) (by decide) ?_
                    refine st_no rfl rfl (by rw [t112]; rfl) (by decide) ?_
                    refine st_no rfl rfl (by rw [t112]; rfl) (by decide) ?_
                    refine st_no rfl rfl (by rw [t112]; rfl) (by decide) ?_
                    refine st_no rfl rfl (by rw [t112]; rfl) (by decide) ?_
                    refine st_val (ex_pick_t (congrArg (fun b => some (Value.bool b)) t112) rfl) (by decide) trivial ?_
                    have hq1092 := Option.some.inj hq109
                    refine wpF_end (r := [(4, v11), (5, (.int .i64 y48)), (6, (.int .i64 (y10.length : Int))), (7, (.int .i64 y49)), (8, (.int .i64 i67)), (9, (.int .i64 y87)), (26, (.int .i64 (y46.length : Int))), (27, (.int .i64 i67)), (57, (.bool true))]) ⟨rfl, rfl, rfl, rfl, rfl, rfl, rfl, rfl, rfl, trivial⟩ ?_
                    subst hq1092
                    refine np_norm (fun a ha => ⟨ha, kp⟩)
                  · rw [if_neg (by rw [t112]; decide)] at hq109
                    refine st_val (ex_move rfl) (by decide) ⟨_, rfl, (congrArg (fun b => some (Value.bool b)) t112)⟩ ?_
                    refine st_val (ex_move rfl) (by decide) ⟨_, rfl, (congrArg (fun b => some (Value.bool b)) t112)⟩ ?_
                    refine st_val (ex_move rfl) (by decide) ⟨_, rfl, (congrArg (fun b => some (Value.bool b)) t112)⟩ ?_
                    obtain ⟨x113, hx113, hq109⟩ := bind_some hq109
                    refine st_val (ex_add rfl rfl hx113) (by decide) ⟨_, rfl, (congrArg (fun b => some (Value.bool b)) t112)⟩ ?_
                    refine st_val (ex_move rfl) (by decide) ⟨_, rfl, (congrArg (fun b => some (Value.bool b)) t112)⟩ ?_
                    obtain ⟨x114, hx114, hq109⟩ := bind_some hq109
                    refine st_val (ex_rem rfl rfl hx114) (by decide) ⟨_, rfl, (congrArg (fun b => some (Value.bool b)) t112)⟩ ?_
                    obtain ⟨x115, hx115, hq109⟩ := bind_some hq109
                    refine st_op (by decide) ⟨_, rfl, (congrArg (fun b => some (Value.bool b)) t112)⟩ ?_
                    refine wf_atW h64 hx115 rfl rfl Tryd.underlying22 Tryd.sizeOf3 ?_
                    intro b116 f117 c118 h119 h120
                    cases h120
                    refine st_val (ex_load1 rfl Tryd.isAgg3 (cell_of_cells h119)) (by decide) ⟨_, rfl, (congrArg (fun b => some (Value.bool b)) t112)⟩ ?_
                    refine st_val (ex_eql rfl rfl) (by decide) ⟨_, rfl, (congrArg (fun b => some (Value.bool b)) t112)⟩ ?_
                    refine st_val (ex_pick_f (congrArg (fun b => some (Value.bool b)) t112) rfl) (by decide) trivial ?_
                    have hq1092 := Option.some.inj hq109
                    refine wpF_end (r := [(4, v11), (5, (.int .i64 y48)), (6, (.int .i64 (y10.length : Int))), (7, (.int .i64 y49)), (8, (.int .i64 i67)), (9, (.int .i64 y87)), (26, (.int .i64 (y46.length : Int))), (27, (.int .i64 i67)), (57, (.bool (y87 == x115)))]) ⟨rfl, rfl, rfl, rfl, rfl, rfl, rfl, rfl, rfl, trivial⟩ ?_
                    subst hq1092
                    refine np_norm (fun a ha => ⟨ha, kp⟩)
                rintro a123 w110 ⟨ha, k121⟩
                have s122 := k121.stp 999 o88
                replace h64 := h64.stp s122 (by decide) (by decide)
                replace hB := hB.stp s122 (by decide)
                refine wl_of ha ?_
                refine wpF_end (r := [(4, v11), (5, (.int .i64 y48)), (6, (.int .i64 (y10.length : Int))), (7, (.int .i64 y49)), (8, (.int .i64 i67)), (9, (.int .i64 y87)), (26, (.int .i64 (y46.length : Int))), (27, (.int .i64 i67)), (57, (.bool q109))]) ⟨rfl, rfl, rfl, rfl, rfl, rfl, rfl, rfl, rfl, trivial⟩ ?_
                refine nx ?_
                refine wpC_cond rfl (fun t124 => ?_) (fun t124 => ?_)
                · rw [if_pos t124] at b96
                  refine wpC_skip ?_
                  refine nx ?_
                  refine wpC_block ?_
                  refine wpC_region ?_
                  refine st_val (ex_move rfl) (by decide) trivial ?_
                  obtain ⟨x125, hx125, b96⟩ := bind_some b96
                  refine st_val (ex_add rfl rfl hx125) (by decide) trivial ?_
                  refine st_val (ex_assign rfl) (by decide) trivial ?_
                  refine wpF_end (r := [(4, v11), (5, (.int .i64 y48)), (6, (.int .i64 (y10.length : Int))), (7, (.int .i64 y49)), (8, (.int .i64 i67)), (9, (.int .i64 x125)), (26, (.int .i64 (y46.length : Int))), (27, (.int .i64 i67))]) ⟨rfl, rfl, rfl, rfl, rfl, rfl, rfl, rfl, trivial⟩ ?_
                  refine nb_norm ?_
                  refine nt_norm ?_
                  have e126 := Option.some.inj b96
                  subst e126
                  refine to_k (r := [(4, v11), (5, (.int .i64 y48)), (6, (.int .i64 (y10.length : Int))), (7, (.int .i64 y49)), (8, (.int .i64 i67)), (9, (.int .i64 x125)), (26, (.int .i64 (y46.length : Int))), (27, (.int .i64 i67))]) ⟨rfl, rfl, rfl, rfl, rfl, rfl, rfl, rfl, trivial⟩ ?_
                  intro a ha
                  exact ⟨K98, by omega, x125, o88, n97, ha, hB, h64⟩
                · rw [if_neg (by rw [t124]; decide)] at b96
                  refine wpC_exit ?_
                  refine nt_exit ?_
                  refine nt_exit ?_
                  refine nb_hit ?_
                  refine np_norm ?_
                  have e127 := Option.some.inj b96
                  subst e127
                  refine to_k (r := [(4, v11), (5, (.int .i64 y48)), (6, (.int .i64 (y10.length : Int))), (7, (.int .i64 y49)), (8, (.int .i64 i67)), (9, (.int .i64 y87)), (26, (.int .i64 (y46.length : Int))), (27, (.int .i64 i67))]) ⟨rfl, rfl, rfl, rfl, rfl, rfl, rfl, rfl, trivial⟩ ?_
                  intro a ha
                  exact ⟨y87, o88, n97, ha, hB, h64⟩
              · rintro a w89 ⟨y87, o88, rfl, ha, hB, h64⟩
                dsimp only at b76
                refine wp_of ha ?_
                refine wpC_region ?_
                refine st_val (ex_move rfl) (by decide) trivial ?_
                refine st_val (ex_move rfl) (by decide) trivial ?_
                refine st_val (ex_move rfl) (by decide) trivial ?_
                obtain ⟨x128, hx128, b76⟩ := bind_some b76
                refine st_op (by decide) trivial ?_
                refine wf_atP h64 hx128 rfl rfl Tryd.underlying22 Tryd.sizeOf3 ?_
                intro b129 c131 h134 h132 h133
                cases h133
                obtain ⟨x137, hx137, b76⟩ := bind_some b76
                refine st_op0 trivial ?_
                refine wf_storeW h64 h134 hx137 rfl (by decide) rfl rfl rfl Tryd.sizeOf3 rfl ?_
                intro w135 h138 s136
                replace hB := hB.stp s136 (by decide)
                refine wpF_end (r := [(4, v11), (5, (.int .i64 y48)), (6, (.int .i64 (y10.length : Int))), (7, (.int .i64 y49)), (26, (.int .i64 (y46.length : Int))), (27, (.int .i64 i67))]) ⟨rfl, rfl, rfl, rfl, rfl, rfl, trivial⟩ ?_
                refine nb_norm ?_
                refine nx ?_
                refine wpC_region ?_
                refine st_val (ex_add rfl rfl (ck_in (by omega) (by omega))) (by decide) trivial ?_
                refine st_val (ex_move rfl) (by decide) trivial ?_
                refine wpF_end (r := [(4, v11), (5, (.int .i64 y48)), (6, (.int .i64 (y10.length : Int))), (7, (.int .i64 y49)), (26, (.int .i64 (y46.length : Int))), (27, (.int .i64 (i67 + 1)))]) ⟨rfl, rfl, rfl, rfl, rfl, rfl, trivial⟩ ?_
                refine nt_norm ?_
                have e139 := Option.some.inj b76
                subst e139
                refine to_k (r := [(4, v11), (5, (.int .i64 y48)), (6, (.int .i64 (y10.length : Int))), (7, (.int .i64 y49)), (26, (.int .i64 (y46.length : Int))), (27, (.int .i64 (i67 + 1)))]) ⟨rfl, rfl, rfl, rfl, rfl, rfl, trivial⟩ ?_
                intro a ha
                exact ⟨_, (by rw [← m73]; omega), i67 + 1, x137, o88, n77, rfl, (by omega), ha, hB, h138⟩
              · exact fun _ _ h => h.elim
          · have r140 := forN_done t78 l71
            refine wp_of ha ?_
            refine wpC_seq ?_
            refine wpC_region ?_
            refine st_val (ex_lss rfl rfl) (by decide) trivial ?_
            refine wpF_end (r := [(4, v11), (5, (.int .i64 y48)), (6, (.int .i64 (y10.length : Int))), (7, (.int .i64 y49)), (26, (.int .i64 (y46.length : Int))), (27, (.int .i64 i67)), (28, (.bool (decide (i67 < (y46.length : Int)))))]) ⟨rfl, rfl, rfl, rfl, rfl, rfl, rfl, trivial⟩ ?_
            refine nx ?_
            refine wpC_seq ?_
            refine wpC_false (congrArg (fun b => some (Value.bool b)) (decide_eq_false t78)) ?_
            refine wpC_exit ?_
            refine nt_exit ?_
            refine nt_exit ?_
            refine nb_hit ?_
            refine np_norm ?_
            refine to_k (r := [(4, v11), (5, (.int .i64 y48)), (6, (.int .i64 (y10.length : Int))), (7, (.int .i64 y49))]) ⟨rfl, rfl, rfl, rfl, trivial⟩ ?_
            intro a ha
            exact ⟨y63, o65, r140, ha, hB, h64⟩
        · rintro a w66 ⟨y63, o65, rfl, ha, hB, h64⟩
          dsimp only at b58
          refine ap_k ha ?_
          refine nx ?_
          refine wpC_region ?_
          refine st_val (ex_move rfl) (by decide) trivial ?_
          obtain ⟨x141, hx141, b58⟩ := bind_some b58
          refine st_val (ex_add rfl rfl hx141) (by decide) trivial ?_
          refine st_val (ex_assign rfl) (by decide) trivial ?_
          refine wpF_end (r := [(4, v11), (5, (.int .i64 x141)), (6, (.int .i64 (y10.length : Int))), (7, (.int .i64 y49))]) ⟨rfl, rfl, rfl, rfl, trivial⟩ ?_
          refine nb_norm ?_
          refine nx ?_
          refine wpC_region ?_
          refine st_val (ex_move rfl) (by decide) trivial ?_
          obtain ⟨x142, hx142, b58⟩ := bind_some b58
          refine st_val (ex_sub rfl rfl hx142) (by decide) trivial ?_
          refine st_val (ex_assign rfl) (by decide) trivial ?_
          refine wpF_end (r := [(4, v11), (5, (.int .i64 x141)), (6, (.int .i64 (y10.length : Int))), (7, (.int .i64 x142))]) ⟨rfl, rfl, rfl, rfl, trivial⟩ ?_
          refine nt_norm ?_
          have e143 := Option.some.inj b58
          subst e143
          refine to_k (r := [(4, v11), (5, (.int .i64 x141)), (6, (.int .i64 (y10.length : Int))), (7, (.int .i64 x142))]) ⟨rfl, rfl, rfl, rfl, trivial⟩ ?_
          intro a ha
          exact ⟨K60, by omega, y63, x141, x142, o65, n59, ha, hB, h64⟩
        · exact fun _ _ h => h.elim
      · rw [if_neg (by rw [t62]; decide)] at b58
        refine wpC_exit ?_
        refine nt_exit ?_
        refine nt_exit ?_
        refine nb_hit ?_
        refine np_norm ?_
        have e144 := Option.some.inj b58
        subst e144
        refine to_k (r := [(4, v11), (5, (.int .i64 y48))]) ⟨rfl, rfl, trivial⟩ ?_
        intro a ha
        exact ⟨y46, y48, y49, o50, n59, ha, hB, h47⟩
    · rintro a w51 ⟨y46, y48, y49, o50, rfl, ha, hB, h47⟩
      dsimp only at hF
      refine ap_k ha ?_
      refine nx ?_
      refine wpC_seq ?_
      refine wpC_region ?_
      refine st_val (ex_move rfl) (by decide) trivial ?_
      refine st_val (ex_move rfl) (by decide) trivial ?_
      refine st_val (ex_assign rfl) (by decide) trivial ?_
      refine st_val (ex_assign rfl) (by decide) trivial ?_
      refine wpF_end (r := [(2, v11), (3, (.int .i64 y48))]) ⟨rfl, rfl, trivial⟩ ?_
      refine nx ?_
      refine wpC_ret ?_
      have e145 := Option.some.inj hF
      subst e145
      refine ret_post (P := Tryd.prog) (vs := [v11, (.int .i64 y48)]) Tryd.results29 ⟨rfl, rfl, trivial⟩ ?_
      exact ⟨_, rt oo o50 w.heap.size 11 t, rfl, h47.rt hB (by decide) t, hB.keeps, rt_old _ _ _ _ _⟩
    · exact fun _ _ h => h.elim
  · exact fun _ _ h => h.elim

def fI_ThreeColours (fuel : Nat) (p0 : List Int) : Option ((List Int) × Int × Bool) :=
  (fI_areRingIds p0) >>= fun x1 =>
  if !x1 then
    some ([], 0, false)
  else
    (fI_threeColours fuel p0) >>= fun x9 =>
    some (x9.1, x9.2, true)

def pI_ThreeColours (oo : Tg) (t : Nat) (w : World) (r : (List Int) × Int × Bool) : Ending → World → Prop := fun e w' => ∃ (v0 : Value) (o' : Tg), e = .returned (.tuple #[v0, .int .i64 r.2.1, .bool r.2.2]) ∧ Ow w.heap.size 3 t o' w' v0 r.1 ∧ Keeps w w' ∧ ∀ b, b < w.heap.size → o' b = oo b
set_option maxRecDepth 100000 in
set_option maxHeartbeats 2000000 in
theorem cI_ThreeColours (fuel : Nat) (w : World) (oo : Tg) (t : Nat) (ht : 2 ≤ t) (u0 : Value) (p0 : List Int) (g0 : RdL zt w u0 p0) (r : (List Int) × Int × Bool) (hF : fI_ThreeColours fuel p0 = some r) (hTab : TabAt 0 Lib.deBruijn64tab w) :
    Calls Tryd.prog 14 #[u0] w (pI_ThreeColours oo t w r) := by
  unfold fI_ThreeColours at hF
  have hB : Bs oo (col oo) w w := Bs.start _ _
  refine calls_start (n := 17) (vs := [u0]) Tryd.func14 rfl rfl ?_
  generalize col oo = o at *
  refine wpC_seq ?_
  refine wpC_region ?_
  refine st_val (ex_assign rfl) (by decide) trivial ?_
  refine st_val (ex_assign rfl) (by decide) trivial ?_
  refine st_val (ex_assign rfl) (by decide) trivial ?_
  refine wpF_end (r := [(0, u0)]) ⟨rfl, trivial⟩ ?_
  refine nx ?_
  refine wpC_seq ?_
  refine wpC_seq ?_
  refine wpC_region ?_
  refine st_val (ex_move rfl) (by decide) trivial ?_
  obtain ⟨x1, hx1, hF⟩ := bind_some hF
  refine st_op (by decide) trivial ?_
  refine wf_call (cI_areRingIds w _ p0 (g0.keep hB.keeps) x1 hx1) Tryd.call28 ⟨rfl, trivial⟩ ?_
  rintro e6 w2 ⟨rfl, k3⟩
  have s5 := k3.stp 999 o
  refine ⟨_, rfl, ?_⟩
  replace hB := hB.stp s5 (by decide)
  refine st_val (ex_not rfl) (by decide) trivial ?_
  refine wpF_end (r := [(0, u0), (9, (.bool (!x1)))]) ⟨rfl, rfl, trivial⟩ ?_
  refine nx ?_
  refine wpC_cond rfl (fun t7 => ?_) (fun t7 => ?_)
  · rw [if_pos t7] at hF
    refine wpC_seq ?_
    refine wpC_region ?_
    refine st_val (ex_assign rfl) (by decide) trivial ?_
    refine st_val (ex_assign rfl) (by decide) trivial ?_
    refine st_val (ex_assign rfl) (by decide) trivial ?_
    refine wpF_end (r := [(2, (.slice none 0 0)), (3, (.int .i64 0)), (4, (.bool false))]) ⟨rfl, rfl, rfl, trivial⟩ ?_
    refine nx ?_
    refine wpC_ret ?_
    refine nt_ret ?_
    have e8 := Option.some.inj hF
    subst e8
    refine ret_post (P := Tryd.prog) (vs := [(.slice none 0 0), (.int .i64 0), (.bool false)]) Tryd.results14 ⟨rfl, rfl, rfl, trivial⟩ ?_
    exact ⟨_, rt oo o w.heap.size 9 t, rfl, (Ow.nil _ _ _ _ _), hB.keeps, rt_old _ _ _ _ _⟩
  · rw [if_neg (by rw [t7]; decide)] at hF
    refine wpC_skip ?_
    refine nx ?_
    refine wpC_seq ?_
    refine wpC_region ?_
    refine st_val (ex_move rfl) (by decide) trivial ?_
    obtain ⟨x9, hx9, hF⟩ := bind_some hF
    refine st_op (by decide) trivial ?_
    refine wf_call (cI_threeColours fuel w2 o 12 (by decide) _ p0 (g0.keep hB.keeps) x9 hx9 (tab_keep hTab hB.keeps)) Tryd.call29 ⟨rfl, trivial⟩ ?_
    rintro e16 w10 ⟨v11, o17, rfl, h12, k13, k14⟩
    have s15 := k13.stp' 12 k14
    replace h12 := h12.mono hB.keeps.size
    refine ⟨_, rfl, ?_⟩
    replace hB := hB.stp s15 (by decide)
    refine st_val (ex_move rfl) (by decide) trivial ?_
    refine st_val (ex_extract rfl rfl) (by decide) trivial ?_
    refine st_val (ex_extract rfl rfl) (by decide) trivial ?_
    refine st_val (ex_assign rfl) (by decide) trivial ?_
    refine st_val (ex_assign rfl) (by decide) trivial ?_
    refine wpF_end (r := [(5, v11), (6, (.int .i64 x9.2))]) ⟨rfl, rfl, trivial⟩ ?_
    refine nx ?_
    refine wpC_seq ?_
    refine wpC_region ?_
    refine st_val (ex_move rfl) (by decide) trivial ?_
    refine st_val (ex_move rfl) (by decide) trivial ?_
    refine st_val (ex_assign rfl) (by decide) trivial ?_
    refine st_val (ex_assign rfl) (by decide) trivial ?_
    refine st_val (ex_assign rfl) (by decide) trivial ?_
    refine wpF_end (r := [(2, v11), (3, (.int .i64 x9.2)), (4, (.bool true))]) ⟨rfl, rfl, rfl, trivial⟩ ?_
    refine nx ?_
    refine wpC_ret ?_
    have e18 := Option.some.inj hF
    subst e18
    refine ret_post (P := Tryd.prog) (vs := [v11, (.int .i64 x9.2), (.bool true)]) Tryd.results14 ⟨rfl, rfl, rfl, trivial⟩ ?_
    exact ⟨_, rt oo o17 w.heap.size 12 t, rfl, h12.rt hB (by decide) t, hB.keeps, rt_old _ _ _ _ _⟩

end Go.Proofs.YthhpcledhflapaaDoor
