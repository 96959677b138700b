/- laws.szEndS, laws.szEndSS, laws.szIntS, laws.szNetwork, laws.toEnd, laws.toEndS, laws.toEndSS, laws.toIntS, laws.toNetwork, laws.eqEnd, laws.eqEndS, laws.eqEndSS, laws.eqIntS, laws.eqNetwork: plain functions, and the walks that show that the program computes them (printed by gen.py). -/
import Derived.Test.YtijaojnaamkinaaKs
import Derived.Test.YtijaojnaamkinaaKn
import Derived.Test.YtijaojnaamkinaaTy
namespace Go.Proofs.Ytijaojnaamkinaa
open Go.RowKit
set_option linter.unusedSimpArgs false
set_option linter.unusedVariables false

theorem info2_t_int_Nz : Inf Try.prog 3 (.int .i64 0) 1 8 := by unfold Inf; kernel_rfl

theorem info2_t_Limpl_End_Nz : Inf Try.prog 110 (.slice none 0 0) 1 24 := by unfold Inf; kernel_rfl

theorem info2_t_impl_End_Nz : Inf Try.prog 115 (.agg #[(.int .i64 0), (.int .i64 0)]) 2 16 := by unfold Inf; kernel_rfl

theorem info1_t_impl_Network_Nz : (Try.prog.info? 31).map (·.size) = some 3 := by kernel_rfl

theorem info1_t_impl_End_Nz : (Try.prog.info? 115).map (·.size) = some 2 := by kernel_rfl

def fL_szEndS (p0 : List T_End) (p1 : Int) : Option Int :=
  (ck (p1 - (p0.length : Int))) >>= fun x1 =>
  if decide (x1 < 0) then
    some (-1)
  else
    some x1

def pL_szEndS (w : World) (r : Int) : Ending → World → Prop := fun e w' => e = .returned (.int .i64 r) ∧ Keeps w w'
set_option maxRecDepth 100000 in
set_option maxHeartbeats 2000000 in
theorem cL_szEndS (w : World) (u0 : Value) (p0 : List T_End) (g0 : RdL zt w u0 p0) (p1 : Int) (r : Int) (hF : fL_szEndS p0 p1 = some r) :
    Calls Try.prog 89 #[u0, .int .i64 p1] w (pL_szEndS w r) := by
  unfold fL_szEndS at hF
  have hB : Bs (fun _ => 1) (col (fun _ => 1)) w w := Bs.start _ _
  refine calls_start (n := 12) (vs := [u0, (.int .i64 p1)]) Try.func89 rfl rfl ?_
  refine wpC_seq ?_
  refine wpC_region ?_
  refine st_val (ex_assign rfl) (by decide) trivial ?_
  refine wpF_end (r := [(0, u0), (1, (.int .i64 p1))]) ⟨rfl, rfl, trivial⟩ ?_
  refine nx ?_
  refine wpC_seq ?_
  refine wpC_region ?_
  refine st_val (ex_move rfl) (by decide) trivial ?_
  refine st_val (ex_move rfl) (by decide) trivial ?_
  refine st_val (ex_lenR rfl g0 Try.underlying108) (by decide) trivial ?_
  obtain ⟨x1, hx1, hF⟩ := bind_some hF
  refine st_val (ex_sub rfl rfl hx1) (by decide) trivial ?_
  refine st_val (ex_assign rfl) (by decide) trivial ?_
  refine wpF_end (r := [(1, (.int .i64 x1))]) ⟨rfl, trivial⟩ ?_
  refine nx ?_
  refine wpC_seq ?_
  refine wpC_seq ?_
  refine wpC_region ?_
  refine st_val (ex_move rfl) (by decide) trivial ?_
  refine st_val (ex_lss rfl rfl) (by decide) trivial ?_
  refine wpF_end (r := [(1, (.int .i64 x1)), (10, (.bool (decide (x1 < 0))))]) ⟨rfl, rfl, trivial⟩ ?_
  refine nx ?_
  refine wpC_cond rfl (fun t2 => ?_) (fun t2 => ?_)
  · rw [if_pos t2] at hF
    refine wpC_seq ?_
    refine wpC_region ?_
    refine st_val (ex_assign rfl) (by decide) trivial ?_
    refine wpF_end (r := [(4, (.int .i64 (-1)))]) ⟨rfl, trivial⟩ ?_
    refine nx ?_
    refine wpC_ret ?_
    refine nt_ret ?_
    have e3 := Option.some.inj hF
    subst e3
    refine ret_post (P := Try.prog) (vs := [(.int .i64 (-1))]) Try.results89 ⟨rfl, trivial⟩ ?_
    exact ⟨rfl, hB.keeps⟩
  · rw [if_neg (by rw [t2]; decide)] at hF
    refine wpC_skip ?_
    refine nx ?_
    refine wpC_seq ?_
    refine wpC_region ?_
    refine st_val (ex_move rfl) (by decide) trivial ?_
    refine st_val (ex_assign rfl) (by decide) trivial ?_
    refine wpF_end (r := [(4, (.int .i64 x1))]) ⟨rfl, trivial⟩ ?_
    refine nx ?_
    refine wpC_ret ?_
    have e4 := Option.some.inj hF
    subst e4
    refine ret_post (P := Try.prog) (vs := [(.int .i64 x1)]) Try.results89 ⟨rfl, trivial⟩ ?_
    exact ⟨rfl, hB.keeps⟩

def fL_szEndSS_s1 (p0 : List (List T_End)) : (Int × Int) → Option (Lp (Int × Int) (Int × Int) Int) := fun (s : Int × Int) =>
  if decide (s.2 < (p0.length : Int)) then
    (ix p0 s.2) >>= fun x19 =>
    (fL_szEndS x19 s.1) >>= fun x27 =>
    if decide (x27 < 0) then
      some (.ret (-1))
    else
      (ck (s.2 + 1)) >>= fun x35 =>
      some (.go (x27, x35))
  else
    some (.out (s.1, s.2))
def fL_szEndSS (fuel : Nat) (p0 : List (List T_End)) (p1 : Int) : Option Int :=
  (ck (p1 - (p0.length : Int))) >>= fun x1 =>
  if decide (x1 < 0) then
    some (-1)
  else
    (loopF (fL_szEndSS_s1 p0) fuel (x1, 0)) >>= fun q8 =>
    match q8 with
    | .inl (y4, y5) =>
      some y4
    | .inr r' => some r'

def pL_szEndSS (w : World) (r : Int) : Ending → World → Prop := fun e w' => e = .returned (.int .i64 r) ∧ Keeps w w'
set_option maxRecDepth 100000 in
set_option maxHeartbeats 2000000 in
theorem cL_szEndSS (fuel : Nat) (w : World) (u0 : Value) (p0 : List (List T_End)) (g0 : RdL zt w u0 p0) (p1 : Int) (r : Int) (hF : fL_szEndSS fuel p0 p1 = some r) :
    Calls Try.prog 53 #[u0, .int .i64 p1] w (pL_szEndSS w r) := by
  unfold fL_szEndSS at hF
  have hB : Bs (fun _ => 1) (col (fun _ => 1)) w w := Bs.start _ _
  refine calls_start (n := 27) (vs := [u0, (.int .i64 p1)]) Try.func53 rfl rfl ?_
  refine wpC_seq ?_
  refine wpC_region ?_
  refine st_val (ex_assign rfl) (by decide) trivial ?_
  refine wpF_end (r := [(0, u0), (1, (.int .i64 p1))]) ⟨rfl, rfl, trivial⟩ ?_
  refine nx ?_
  refine wpC_seq ?_
  refine wpC_region ?_
  refine st_val (ex_move rfl) (by decide) trivial ?_
  refine st_val (ex_move rfl) (by decide) trivial ?_
  refine st_val (ex_lenR rfl g0 Try.underlying22) (by decide) trivial ?_
  obtain ⟨x1, hx1, hF⟩ := bind_some hF
  refine st_val (ex_sub rfl rfl hx1) (by decide) trivial ?_
  refine st_val (ex_assign rfl) (by decide) trivial ?_
  refine wpF_end (r := [(0, u0), (1, (.int .i64 x1))]) ⟨rfl, rfl, trivial⟩ ?_
  refine nx ?_
  refine wpC_seq ?_
  refine wpC_seq ?_
  refine wpC_region ?_
  refine st_val (ex_move rfl) (by decide) trivial ?_
  refine st_val (ex_lss rfl rfl) (by decide) trivial ?_
  refine wpF_end (r := [(0, u0), (1, (.int .i64 x1)), (11, (.bool (decide (x1 < 0))))]) ⟨rfl, rfl, rfl, trivial⟩ ?_
  refine nx ?_
  refine wpC_cond rfl (fun t2 => ?_) (fun t2 => ?_)
  · rw [if_pos t2] at hF
    refine wpC_seq ?_
    refine wpC_region ?_
    refine st_val (ex_assign rfl) (by decide) trivial ?_
    refine wpF_end (r := [(4, (.int .i64 (-1)))]) ⟨rfl, trivial⟩ ?_
    refine nx ?_
    refine wpC_ret ?_
    refine nt_ret ?_
    have e3 := Option.some.inj hF
    subst e3
    refine ret_post (P := Try.prog) (vs := [(.int .i64 (-1))]) Try.results53 ⟨rfl, trivial⟩ ?_
    exact ⟨rfl, hB.keeps⟩
  · rw [if_neg (by rw [t2]; decide)] at hF
    refine wpC_skip ?_
    refine nx ?_
    refine wpC_seq ?_
    refine wpC_seq ?_
    refine wpC_region ?_
    refine st_val (ex_assign rfl) (by decide) trivial ?_
    refine wpF_end (r := [(0, u0), (1, (.int .i64 x1)), (5, (.int .i64 0))]) ⟨rfl, rfl, rfl, trivial⟩ ?_
    refine nx ?_
    obtain ⟨q8, hq8, hF⟩ := bind_some hF
    refine wpC_cutN (fun a w7 => ∃ (y4 : Int) (y5 : Int) (o6 : Tg), q8 = .inl (y4, y5) ∧ Fr a 27 [(1, (.int .i64 y4))] ∧ Bs (fun _ => 1) o6 w w7) (fun a w' => ∃ r', q8 = .inr r' ∧ bodyPost Try.prog Try.f53 (pL_szEndSS w r') .ret a w') ?_ ?_ ?_
    · refine wpC_block ?_
      refine wpC_loop (fun (K : Nat) a w7 => ∃ (y4 : Int) (y5 : Int) (o6 : Tg), loopF (fL_szEndSS_s1 p0) K (y4, y5) = some q8 ∧ Fr a 27 [(0, u0), (1, (.int .i64 y4)), (5, (.int .i64 y5))] ∧ Bs (fun _ => 1) o6 w w7) fuel (fun a ha => ⟨x1, 0, (col (fun _ => 1)), hq8, ha.sub (r := [(0, u0), (1, (.int .i64 x1)), (5, (.int .i64 0))]) ⟨rfl, rfl, rfl, trivial⟩, hB⟩) ?_
      rintro K12 a w7 ⟨y4, y5, o6, l9, ha, hB⟩
      obtain ⟨K16, q13, e17, b14, n15⟩ := loopF_cons l9
      dsimp only [fL_szEndSS_s1] at b14
      refine wp_of ha ?_
      refine wpC_seq ?_
      refine wpC_seq ?_
      refine wpC_region ?_
      refine st_val (ex_move rfl) (by decide) trivial ?_
      refine st_val (ex_move rfl) (by decide) trivial ?_
      refine st_val (ex_lenR rfl g0 Try.underlying22) (by decide) trivial ?_
      refine st_val (ex_lss rfl rfl) (by decide) trivial ?_
      refine wpF_end (r := [(0, u0), (1, (.int .i64 y4)), (5, (.int .i64 y5)), (15, (.bool (decide (y5 < (p0.length : Int)))))]) ⟨rfl, rfl, rfl, rfl, trivial⟩ ?_
      refine nx ?_
      refine wpC_cond rfl (fun t18 => ?_) (fun t18 => ?_)
      · rw [if_pos t18] at b14
        refine wpC_skip ?_
        refine nx ?_
        refine wpC_seq ?_
        refine wpC_block ?_
        refine wpC_seq ?_
        refine wpC_region ?_
        refine st_val (ex_move rfl) (by decide) trivial ?_
        refine st_val (ex_move rfl) (by decide) trivial ?_
        obtain ⟨x19, hx19, b14⟩ := bind_some b14
        refine st_op (by decide) trivial ?_
        refine wf_atZ g0 hx19 hB rfl rfl Try.underlying22 Try.sizeOf108 ?_
        intro b20 f21 c22 h23 h24
        obtain ⟨v25, rfl, h26⟩ := h24
        refine st_val (ex_load1 rfl Try.isAgg108 (cell_of_cells h23)) (by decide) trivial ?_
        refine st_val (ex_move rfl) (by decide) trivial ?_
        obtain ⟨x27, hx27, b14⟩ := bind_some b14
        refine st_op (by decide) trivial ?_
        refine wf_call (cL_szEndS w7 _ x19 (h26.keep hB.keeps) y4 x27 hx27) Try.call89 ⟨rfl, rfl, trivial⟩ ?_
        rintro e32 w28 ⟨rfl, k29⟩
        have s31 := k29.stp 999 o6
        refine ⟨_, rfl, ?_⟩
        replace hB := hB.stp s31 (by decide)
        refine st_val (ex_assign rfl) (by decide) trivial ?_
        refine wpF_end (r := [(0, u0), (1, (.int .i64 x27)), (5, (.int .i64 y5))]) ⟨rfl, rfl, rfl, trivial⟩ ?_
        refine nx ?_
        refine wpC_seq ?_
        refine wpC_region ?_
        refine st_val (ex_move rfl) (by decide) trivial ?_
        refine st_val (ex_lss rfl rfl) (by decide) trivial ?_
        refine wpF_end (r := [(0, u0), (1, (.int .i64 x27)), (5, (.int .i64 y5)), (25, (.bool (decide (x27 < 0))))]) ⟨rfl, rfl, rfl, rfl, trivial⟩ ?_
        refine nx ?_
        refine wpC_cond rfl (fun t33 => ?_) (fun t33 => ?_)
        · rw [if_pos t33] at b14
          refine wpC_seq ?_
          refine wpC_region ?_
          refine st_val (ex_assign rfl) (by decide) trivial ?_
          refine wpF_end (r := [(4, (.int .i64 (-1)))]) ⟨rfl, trivial⟩ ?_
          refine nx ?_
          refine wpC_ret ?_
          refine nb_ret ?_
          refine nt_ret ?_
          refine nt_ret ?_
          refine nb_ret ?_
          refine np_ret ?_
          have e34 := Option.some.inj b14
          subst e34
          refine fun a ha => ⟨_, n15, ?_⟩
          refine ret_post (P := Try.prog) (vs := [(.int .i64 (-1))]) Try.results53 ⟨rfl, trivial⟩ ?_ a ha
          exact ⟨rfl, hB.keeps⟩
        · rw [if_neg (by rw [t33]; decide)] at b14
          refine wpC_skip ?_
          refine nb_norm ?_
          refine nx ?_
          refine wpC_region ?_
          refine st_val (ex_move rfl) (by decide) trivial ?_
          obtain ⟨x35, hx35, b14⟩ := bind_some b14
          refine st_val (ex_add rfl rfl hx35) (by decide) trivial ?_
          refine st_val (ex_assign rfl) (by decide) trivial ?_
          refine wpF_end (r := [(0, u0), (1, (.int .i64 x27)), (5, (.int .i64 x35))]) ⟨rfl, rfl, rfl, trivial⟩ ?_
          refine nt_norm ?_
          have e36 := Option.some.inj b14
          subst e36
          refine to_k (r := [(0, u0), (1, (.int .i64 x27)), (5, (.int .i64 x35))]) ⟨rfl, rfl, rfl, trivial⟩ ?_
          intro a ha
          exact ⟨K16, by omega, x27, x35, o6, n15, ha, hB⟩
      · rw [if_neg (by rw [t18]; decide)] at b14
        refine wpC_exit ?_
        refine nt_exit ?_
        refine nt_exit ?_
        refine nb_hit ?_
        refine np_norm ?_
        have e37 := Option.some.inj b14
        subst e37
        refine to_k (r := [(1, (.int .i64 y4))]) ⟨rfl, trivial⟩ ?_
        intro a ha
        exact ⟨y4, y5, o6, n15, ha, hB⟩
    · rintro a w7 ⟨y4, y5, o6, rfl, ha, hB⟩
      dsimp only at hF
      refine ap_k ha ?_
      refine nx ?_
      refine wpC_seq ?_
      refine wpC_region ?_
      refine st_val (ex_move rfl) (by decide) trivial ?_
      refine st_val (ex_assign rfl) (by decide) trivial ?_
      refine wpF_end (r := [(4, (.int .i64 y4))]) ⟨rfl, trivial⟩ ?_
      refine nx ?_
      refine wpC_ret ?_
      have e38 := Option.some.inj hF
      subst e38
      refine ret_post (P := Try.prog) (vs := [(.int .i64 y4)]) Try.results53 ⟨rfl, trivial⟩ ?_
      exact ⟨rfl, hB.keeps⟩
    · rintro a w7 ⟨r', rfl, b39⟩
      dsimp only at hF
      have e40 := Option.some.inj hF
      subst e40
      exact b39

def fL_szIntS (p0 : List Int) (p1 : Int) : Option Int :=
  (ck (p1 - (p0.length : Int))) >>= fun x1 =>
  if decide (x1 < 0) then
    some (-1)
  else
    some x1

def pL_szIntS (w : World) (r : Int) : Ending → World → Prop := fun e w' => e = .returned (.int .i64 r) ∧ Keeps w w'
set_option maxRecDepth 100000 in
set_option maxHeartbeats 2000000 in
theorem cL_szIntS (w : World) (u0 : Value) (p0 : List Int) (g0 : RdL zt w u0 p0) (p1 : Int) (r : Int) (hF : fL_szIntS p0 p1 = some r) :
    Calls Try.prog 54 #[u0, .int .i64 p1] w (pL_szIntS w r) := by
  unfold fL_szIntS at hF
  have hB : Bs (fun _ => 1) (col (fun _ => 1)) w w := Bs.start _ _
  refine calls_start (n := 12) (vs := [u0, (.int .i64 p1)]) Try.func54 rfl rfl ?_
  refine wpC_seq ?_
  refine wpC_region ?_
  refine st_val (ex_assign rfl) (by decide) trivial ?_
  refine wpF_end (r := [(0, u0), (1, (.int .i64 p1))]) ⟨rfl, rfl, trivial⟩ ?_
  refine nx ?_
  refine wpC_seq ?_
  refine wpC_region ?_
  refine st_val (ex_move rfl) (by decide) trivial ?_
  refine st_val (ex_move rfl) (by decide) trivial ?_
  refine st_val (ex_lenR rfl g0 Try.underlying23) (by decide) trivial ?_
  obtain ⟨x1, hx1, hF⟩ := bind_some hF
  refine st_val (ex_sub rfl rfl hx1) (by decide) trivial ?_
  refine st_val (ex_assign rfl) (by decide) trivial ?_
  refine wpF_end (r := [(1, (.int .i64 x1))]) ⟨rfl, trivial⟩ ?_
  refine nx ?_
  refine wpC_seq ?_
  refine wpC_seq ?_
  refine wpC_region ?_
  refine st_val (ex_move rfl) (by decide) trivial ?_
  refine st_val (ex_lss rfl rfl) (by decide) trivial ?_
  refine wpF_end (r := [(1, (.int .i64 x1)), (10, (.bool (decide (x1 < 0))))]) ⟨rfl, rfl, trivial⟩ ?_
  refine nx ?_
  refine wpC_cond rfl (fun t2 => ?_) (fun t2 => ?_)
  · rw [if_pos t2] at hF
    refine wpC_seq ?_
    refine wpC_region ?_
    refine st_val (ex_assign rfl) (by decide) trivial ?_
    refine wpF_end (r := [(4, (.int .i64 (-1)))]) ⟨rfl, trivial⟩ ?_
    refine nx ?_
    refine wpC_ret ?_
    refine nt_ret ?_
    have e3 := Option.some.inj hF
    subst e3
    refine ret_post (P := Try.prog) (vs := [(.int .i64 (-1))]) Try.results54 ⟨rfl, trivial⟩ ?_
    exact ⟨rfl, hB.keeps⟩
  · rw [if_neg (by rw [t2]; decide)] at hF
    refine wpC_skip ?_
    refine nx ?_
    refine wpC_seq ?_
    refine wpC_region ?_
    refine st_val (ex_move rfl) (by decide) trivial ?_
    refine st_val (ex_assign rfl) (by decide) trivial ?_
    refine wpF_end (r := [(4, (.int .i64 x1))]) ⟨rfl, trivial⟩ ?_
    refine nx ?_
    refine wpC_ret ?_
    have e4 := Option.some.inj hF
    subst e4
    refine ret_post (P := Try.prog) (vs := [(.int .i64 x1)]) Try.results54 ⟨rfl, trivial⟩ ?_
    exact ⟨rfl, hB.keeps⟩

def fL_szNetwork (fuel : Nat) (p0 : T_Network) (p1 : Int) : Option Int :=
  (fL_szEndSS fuel p0.Ends p1) >>= fun x12 =>
  if decide (x12 < 0) then
    some (-1)
  else
    (fL_szIntS p0.Ids x12) >>= fun x20 =>
    if decide (x20 < 0) then
      some (-1)
    else
      (fL_szIntS p0.Inputs x20) >>= fun x28 =>
      if decide (x28 < 0) then
        some (-1)
      else
        some x28

def pL_szNetwork (w : World) (r : Int) : Ending → World → Prop := fun e w' => e = .returned (.int .i64 r) ∧ Keeps w w'
set_option maxRecDepth 100000 in
set_option maxHeartbeats 2000000 in
theorem cL_szNetwork (fuel : Nat) (w : World) (u0 : List Value) (p0 : T_Network) (g0 : Rp.rd zt w u0 p0) (p1 : Int) (r : Int) (hF : fL_szNetwork fuel p0 p1 = some r) :
    Calls Try.prog 13 #[.agg u0.toArray, .int .i64 p1] w (pL_szNetwork w r) := by
  unfold fL_szNetwork at hF
  obtain ⟨v1, v3, v5, rfl, h2, h4, h6⟩ := g0
  have hB : Bs (fun _ => 1) (col (fun _ => 1)) w w := Bs.start _ _
  refine calls_start (n := 24) (vs := [(.agg #[v1, v3, v5]), (.int .i64 p1)]) Try.func13 rfl rfl ?_
  refine wpC_seq ?_
  refine wpC_region ?_
  refine st_op (by decide) trivial ?_
  refine wf_box (o := (col (fun _ => 1))) w.heap.size 11 hB.keeps.size (cs := [v1, v3, v5]) rfl rfl ?_
  intro o7 w8 b9 h10 s11
  replace hB := hB.stp s11 (by decide)
  refine st_val (ex_assign rfl) (by decide) trivial ?_
  refine wpF_end (r := [(1, (.int .i64 p1)), (2, (.pointer (some ⟨b9, 0, none⟩)))]) ⟨rfl, rfl, trivial⟩ ?_
  refine nx ?_
  refine wpC_seq ?_
  refine wpC_region ?_
  refine st_val (ex_field rfl Try.underlying25 rfl Try.sizeOf22) (by decide) trivial ?_
  refine st_val (ex_load1 rfl Try.isAgg22 (h10.cell rfl)) (by decide) trivial ?_
  refine st_val (ex_move rfl) (by decide) trivial ?_
  obtain ⟨x12, hx12, hF⟩ := bind_some hF
  refine st_op (by decide) trivial ?_
  refine wf_call (cL_szEndSS fuel w8 _ p0.Ends (h2.keep hB.keeps) p1 x12 hx12) Try.call53 ⟨rfl, rfl, trivial⟩ ?_
  rintro e17 w13 ⟨rfl, k14⟩
  have s16 := k14.stp 999 o7
  refine ⟨_, rfl, ?_⟩
  replace h10 := h10.stp s16 (by decide)
  replace hB := hB.stp s16 (by decide)
  refine st_val (ex_assign rfl) (by decide) trivial ?_
  refine wpF_end (r := [(1, (.int .i64 x12)), (2, (.pointer (some ⟨b9, 0, none⟩)))]) ⟨rfl, rfl, trivial⟩ ?_
  refine nx ?_
  refine wpC_seq ?_
  refine wpC_seq ?_
  refine wpC_region ?_
  refine st_val (ex_move rfl) (by decide) trivial ?_
  refine st_val (ex_lss rfl rfl) (by decide) trivial ?_
  refine wpF_end (r := [(1, (.int .i64 x12)), (2, (.pointer (some ⟨b9, 0, none⟩))), (10, (.bool (decide (x12 < 0))))]) ⟨rfl, rfl, rfl, trivial⟩ ?_
  refine nx ?_
  refine wpC_cond rfl (fun t18 => ?_) (fun t18 => ?_)
  · rw [if_pos t18] at hF
    refine wpC_seq ?_
    refine wpC_region ?_
    refine st_val (ex_assign rfl) (by decide) trivial ?_
    refine wpF_end (r := [(4, (.int .i64 (-1)))]) ⟨rfl, trivial⟩ ?_
    refine nx ?_
    refine wpC_ret ?_
    refine nt_ret ?_
    have e19 := Option.some.inj hF
    subst e19
    refine ret_post (P := Try.prog) (vs := [(.int .i64 (-1))]) Try.results13 ⟨rfl, trivial⟩ ?_
    exact ⟨rfl, hB.keeps⟩
  · rw [if_neg (by rw [t18]; decide)] at hF
    refine wpC_skip ?_
    refine nx ?_
    refine wpC_seq ?_
    refine wpC_region ?_
    refine st_val (ex_field rfl Try.underlying25 rfl Try.sizeOf23) (by decide) trivial ?_
    refine st_val (ex_load1 rfl Try.isAgg23 (h10.cell rfl)) (by decide) trivial ?_
    refine st_val (ex_move rfl) (by decide) trivial ?_
    obtain ⟨x20, hx20, hF⟩ := bind_some hF
    refine st_op (by decide) trivial ?_
    refine wf_call (cL_szIntS w13 _ p0.Ids (h4.keep hB.keeps) x12 x20 hx20) Try.call54 ⟨rfl, rfl, trivial⟩ ?_
    rintro e25 w21 ⟨rfl, k22⟩
    have s24 := k22.stp 999 o7
    refine ⟨_, rfl, ?_⟩
    replace h10 := h10.stp s24 (by decide)
    replace hB := hB.stp s24 (by decide)
    refine st_val (ex_assign rfl) (by decide) trivial ?_
    refine wpF_end (r := [(1, (.int .i64 x20)), (2, (.pointer (some ⟨b9, 0, none⟩)))]) ⟨rfl, rfl, trivial⟩ ?_
    refine nx ?_
    refine wpC_seq ?_
    refine wpC_seq ?_
    refine wpC_region ?_
    refine st_val (ex_move rfl) (by decide) trivial ?_
    refine st_val (ex_lss rfl rfl) (by decide) trivial ?_
    refine wpF_end (r := [(1, (.int .i64 x20)), (2, (.pointer (some ⟨b9, 0, none⟩))), (16, (.bool (decide (x20 < 0))))]) ⟨rfl, rfl, rfl, trivial⟩ ?_
    refine nx ?_
    refine wpC_cond rfl (fun t26 => ?_) (fun t26 => ?_)
    · rw [if_pos t26] at hF
      refine wpC_seq ?_
      refine wpC_region ?_
      refine st_val (ex_assign rfl) (by decide) trivial ?_
      refine wpF_end (r := [(4, (.int .i64 (-1)))]) ⟨rfl, trivial⟩ ?_
      refine nx ?_
      refine wpC_ret ?_
      refine nt_ret ?_
      have e27 := Option.some.inj hF
      subst e27
      refine ret_post (P := Try.prog) (vs := [(.int .i64 (-1))]) Try.results13 ⟨rfl, trivial⟩ ?_
      exact ⟨rfl, hB.keeps⟩
    · rw [if_neg (by rw [t26]; decide)] at hF
      refine wpC_skip ?_
      refine nx ?_
      refine wpC_seq ?_
      refine wpC_region ?_
      refine st_val (ex_field rfl Try.underlying25 rfl Try.sizeOf23) (by decide) trivial ?_
      refine st_val (ex_load1 rfl Try.isAgg23 (h10.cell rfl)) (by decide) trivial ?_
      refine st_val (ex_move rfl) (by decide) trivial ?_
      obtain ⟨x28, hx28, hF⟩ := bind_some hF
      refine st_op (by decide) trivial ?_
      refine wf_call (cL_szIntS w21 _ p0.Inputs (h6.keep hB.keeps) x20 x28 hx28) Try.call54 ⟨rfl, rfl, trivial⟩ ?_
      rintro e33 w29 ⟨rfl, k30⟩
      have s32 := k30.stp 999 o7
      refine ⟨_, rfl, ?_⟩
      replace h10 := h10.stp s32 (by decide)
      replace hB := hB.stp s32 (by decide)
      refine st_val (ex_assign rfl) (by decide) trivial ?_
      refine wpF_end (r := [(1, (.int .i64 x28))]) ⟨rfl, trivial⟩ ?_
      refine nx ?_
      refine wpC_seq ?_
      refine wpC_seq ?_
      refine wpC_region ?_
      refine st_val (ex_move rfl) (by decide) trivial ?_
      refine st_val (ex_lss rfl rfl) (by decide) trivial ?_
      refine wpF_end (r := [(1, (.int .i64 x28)), (22, (.bool (decide (x28 < 0))))]) ⟨rfl, rfl, trivial⟩ ?_
      refine nx ?_
      refine wpC_cond rfl (fun t34 => ?_) (fun t34 => ?_)
      · rw [if_pos t34] at hF
        refine wpC_seq ?_
        refine wpC_region ?_
        refine st_val (ex_assign rfl) (by decide) trivial ?_
        refine wpF_end (r := [(4, (.int .i64 (-1)))]) ⟨rfl, trivial⟩ ?_
        refine nx ?_
        refine wpC_ret ?_
        refine nt_ret ?_
        have e35 := Option.some.inj hF
        subst e35
        refine ret_post (P := Try.prog) (vs := [(.int .i64 (-1))]) Try.results13 ⟨rfl, trivial⟩ ?_
        exact ⟨rfl, hB.keeps⟩
      · rw [if_neg (by rw [t34]; decide)] at hF
        refine wpC_skip ?_
        refine nx ?_
        refine wpC_seq ?_
        refine wpC_region ?_
        refine st_val (ex_move rfl) (by decide) trivial ?_
        refine st_val (ex_assign rfl) (by decide) trivial ?_
        refine wpF_end (r := [(4, (.int .i64 x28))]) ⟨rfl, trivial⟩ ?_
        refine nx ?_
        refine wpC_ret ?_
        have e36 := Option.some.inj hF
        subst e36
        refine ret_post (P := Try.prog) (vs := [(.int .i64 x28)]) Try.results13 ⟨rfl, trivial⟩ ?_
        exact ⟨rfl, hB.keeps⟩

def fL_toEnd (p0 : T_End) : Option T_End :=
  some (⟨p0.Node, p0.Port⟩ : T_End)

def pL_toEnd (oo : Tg) (t : Nat) (w : World) (r : T_End) : Ending → World → Prop := fun e w' => ∃ (v0 : List Value) (o' : Tg), e = .returned (.agg v0.toArray) ∧ Rp.rd o' w' v0 r ∧ Keeps w w' ∧ ∀ b, b < w.heap.size → o' b = oo b
set_option maxRecDepth 100000 in
set_option maxHeartbeats 2000000 in
theorem cL_toEnd (w : World) (oo : Tg) (t : Nat) (ht : 2 ≤ t) (u0 : List Value) (p0 : T_End) (g0 : Rp.rd zt w u0 p0) (r : T_End) (hF : fL_toEnd p0 = some r) :
    Calls Try.prog 127 #[.agg u0.toArray] w (pL_toEnd oo t w r) := by
  unfold fL_toEnd at hF
  cases g0
  have hB : Bs oo (col oo) w w := Bs.start _ _
  refine calls_start (n := 11) (vs := [(.agg #[(.int .i64 p0.Node), (.int .i64 p0.Port)])]) Try.func127 rfl rfl ?_
  generalize col oo = o at *
  refine wpC_seq ?_
  refine wpC_region ?_
  refine st_op (by decide) trivial ?_
  refine wf_box (o := o) w.heap.size 11 hB.keeps.size (cs := [(.int .i64 p0.Node), (.int .i64 p0.Port)]) rfl rfl ?_
  intro o1 w2 b3 h4 s5
  replace hB := hB.stp s5 (by decide)
  refine st_op (by decide) trivial ?_
  refine wf_alloc (o := o1) w.heap.size 12 hB.keeps.size (cs := [(.int .i64 0), (.int .i64 0)]) Try.zeroValue115 rfl ?_
  intro o6 w7 b8 h9 s10
  replace h4 := h4.stp s10 (by decide)
  replace hB := hB.stp s10 (by decide)
  refine wpF_end (r := [(1, (.pointer (some ⟨b3, 0, none⟩))), (2, (.pointer (some ⟨b8, 0, none⟩)))]) ⟨rfl, rfl, trivial⟩ ?_
  refine nx ?_
  refine wpC_seq ?_
  refine wpC_region ?_
  refine st_op (by decide) trivial ?_
  refine wf_alloc (o := o6) w.heap.size 13 hB.keeps.size (cs := [(.int .i64 0), (.int .i64 0)]) Try.zeroValue115 rfl ?_
  intro o11 w12 b13 h14 s15
  replace h4 := h4.stp s15 (by decide)
  replace h9 := h9.stp s15 (by decide)
  replace hB := hB.stp s15 (by decide)
  refine wpF_end (r := [(1, (.pointer (some ⟨b3, 0, none⟩))), (2, (.pointer (some ⟨b8, 0, none⟩))), (3, (.pointer (some ⟨b13, 0, none⟩)))]) ⟨rfl, rfl, rfl, trivial⟩ ?_
  refine nx ?_
  refine wpC_seq ?_
  refine wpC_region ?_
  refine st_val (ex_field rfl Try.underlying136 rfl Try.sizeOf3) (by decide) trivial ?_
  refine st_val (ex_load1 rfl Try.isAgg3 (h4.cell rfl)) (by decide) trivial ?_
  refine st_val (ex_field rfl Try.underlying115 rfl Try.sizeOf3) (by decide) trivial ?_
  refine st_op0 trivial ?_
  refine wf_storeB h14 rfl rfl (of_decide_eq_true rfl) Try.sizeOf3 rfl rfl ?_
  intro w16 h18 s17
  replace h4 := h4.stp s17 (by decide)
  replace h9 := h9.stp s17 (by decide)
  replace hB := hB.stp s17 (by decide)
  replace h18 : Bx w.heap.size 13 o11 w16 b13 115 [(.int .i64 p0.Node), (.int .i64 0)] := h18
  refine wpF_end (r := [(1, (.pointer (some ⟨b3, 0, none⟩))), (2, (.pointer (some ⟨b8, 0, none⟩))), (3, (.pointer (some ⟨b13, 0, none⟩)))]) ⟨rfl, rfl, rfl, trivial⟩ ?_
  refine nx ?_
  refine wpC_seq ?_
  refine wpC_region ?_
  refine st_val (ex_field rfl Try.underlying136 rfl Try.sizeOf3) (by decide) trivial ?_
  refine st_val (ex_load1 rfl Try.isAgg3 (h4.cell rfl)) (by decide) trivial ?_
  refine st_val (ex_field rfl Try.underlying115 rfl Try.sizeOf3) (by decide) trivial ?_
  refine st_op0 trivial ?_
  refine wf_storeB h18 rfl rfl (of_decide_eq_true rfl) Try.sizeOf3 rfl rfl ?_
  intro w19 h21 s20
  replace h4 := h4.stp s20 (by decide)
  replace h9 := h9.stp s20 (by decide)
  replace hB := hB.stp s20 (by decide)
  replace h21 : Bx w.heap.size 13 o11 w19 b13 115 [(.int .i64 p0.Node), (.int .i64 p0.Port)] := h21
  refine wpF_end (r := [(2, (.pointer (some ⟨b8, 0, none⟩))), (3, (.pointer (some ⟨b13, 0, none⟩)))]) ⟨rfl, rfl, trivial⟩ ?_
  refine nx ?_
  refine wpC_seq ?_
  refine wpC_region ?_
  refine st_val (ex_loadA rfl Try.isAgg115 Try.sizeOf115 rfl h21.cells) (by decide) trivial ?_
  refine st_op0 trivial ?_
  refine wf_storeA h9 rfl rfl rfl info1_t_impl_End_Nz (by intro c hc; simp only [List.mem_cons, List.not_mem_nil, or_false] at hc; rcases hc with rfl | rfl <;> first | rfl) ?_
  intro w22 h24 s23
  replace h4 := h4.stp s23 (by decide)
  replace h21 := h21.stp s23 (by decide)
  replace hB := hB.stp s23 (by decide)
  refine wpF_end (r := [(2, (.pointer (some ⟨b8, 0, none⟩)))]) ⟨rfl, trivial⟩ ?_
  refine nx ?_
  refine wpC_ret ?_
  have e25 := Option.some.inj hF
  subst e25
  refine ret_post (P := Try.prog) (vs := [(.agg #[(.int .i64 p0.Node), (.int .i64 p0.Port)])]) Try.results127 ⟨⟨_, rfl, run_loadA Try.isAgg115 Try.sizeOf115 rfl h24.cells⟩, trivial⟩ ?_
  exact ⟨[(.int .i64 p0.Node), (.int .i64 p0.Port)], rt oo o11 w.heap.size 9 t, rfl, rfl, hB.keeps, rt_old _ _ _ _ _⟩

def fL_toEndS_s1 (p0 : List T_End) : ((List T_End) × Int) → Option (Lp ((List T_End) × Int) ((List T_End) × Int) (List T_End)) := fun (s : (List T_End) × Int) =>
  if decide (s.2 < (p0.length : Int)) then
    (ix p0 s.2) >>= fun x23 =>
    (fL_toEnd x23) >>= fun x29 =>
    (ix s.1 s.2) >>= fun x38 =>
    (st s.1 s.2 x29) >>= fun x47 =>
    (ck (s.2 + 1)) >>= fun x49 =>
    some (.go (x47, x49))
  else
    some (.out (s.1, s.2))
def fL_toEndS (fuel : Nat) (p0 : List T_End) : Option (List T_End) :=
  (mk (Rz.z : T_End) (p0.length : Int)) >>= fun x1 =>
  (loopF (fL_toEndS_s1 p0) fuel (x1, 0)) >>= fun q12 =>
  match q12 with
  | .inl (y7, y9) =>
    some y7
  | .inr _ => none

def pL_toEndS (oo : Tg) (t : Nat) (w : World) (r : List T_End) : Ending → World → Prop := fun e w' => ∃ (v0 : Value) (o' : Tg), e = .returned (v0) ∧ Ow w.heap.size 115 t o' w' v0 r ∧ Keeps w w' ∧ ∀ b, b < w.heap.size → o' b = oo b
set_option maxRecDepth 100000 in
set_option maxHeartbeats 2000000 in
theorem cL_toEndS (fuel : Nat) (w : World) (oo : Tg) (t : Nat) (ht : 2 ≤ t) (u0 : Value) (p0 : List T_End) (g0 : RdL zt w u0 p0) (r : List T_End) (hF : fL_toEndS fuel p0 = some r) :
    Calls Try.prog 91 #[u0] w (pL_toEndS oo t w r) := by
  unfold fL_toEndS at hF
  have hB : Bs oo (col oo) w w := Bs.start _ _
  refine calls_start (n := 23) (vs := [u0]) Try.func91 rfl rfl ?_
  generalize col oo = o at *
  refine wpC_seq ?_
  refine wpC_region ?_
  refine st_val (ex_assign rfl) (by decide) trivial ?_
  refine wpF_end (r := [(0, u0)]) ⟨rfl, trivial⟩ ?_
  refine nx ?_
  refine wpC_seq ?_
  refine wpC_region ?_
  refine st_val (ex_move rfl) (by decide) trivial ?_
  refine st_val (ex_lenR rfl g0 Try.underlying108) (by decide) trivial ?_
  obtain ⟨x1, hx1, hF⟩ := bind_some hF
  refine st_op (by decide) trivial ?_
  refine wf_make (o := o) w.heap.size 11 hB.keeps.size hx1 rfl rfl Try.underlying110 info2_t_impl_End_Nz rfl (by decide) ?_
  intro o2 w3 v4 h5 s6
  replace hB := hB.stp s6 (by decide)
  refine st_val (ex_assign rfl) (by decide) trivial ?_
  refine wpF_end (r := [(0, u0), (3, v4)]) ⟨rfl, rfl, trivial⟩ ?_
  refine nx ?_
  refine wpC_seq ?_
  refine wpC_seq ?_
  refine wpC_region ?_
  refine st_val (ex_assign rfl) (by decide) trivial ?_
  refine wpF_end (r := [(0, u0), (3, v4), (4, (.int .i64 0))]) ⟨rfl, rfl, rfl, trivial⟩ ?_
  refine nx ?_
  obtain ⟨q12, hq12, hF⟩ := bind_some hF
  refine wpC_cutN (fun a w11 => ∃ (y7 : List T_End) (y9 : Int) (o10 : Tg), q12 = .inl (y7, y9) ∧ Fr a 23 [(3, v4)] ∧ Bs oo o10 w w11 ∧ Ow w.heap.size 115 11 o10 w11 v4 y7) (fun _ _ => False) ?_ ?_ ?_
  · refine wpC_block ?_
    refine wpC_loop (fun (K : Nat) a w11 => ∃ (y7 : List T_End) (y9 : Int) (o10 : Tg), loopF (fL_toEndS_s1 p0) K (y7, y9) = some q12 ∧ Fr a 23 [(0, u0), (3, v4), (4, (.int .i64 y9))] ∧ Bs oo o10 w w11 ∧ Ow w.heap.size 115 11 o10 w11 v4 y7) fuel (fun a ha => ⟨x1, 0, o2, hq12, ha.sub (r := [(0, u0), (3, v4), (4, (.int .i64 0))]) ⟨rfl, rfl, rfl, trivial⟩, hB, h5⟩) ?_
    rintro K16 a w11 ⟨y7, y9, o10, l13, ha, hB, h8⟩
    obtain ⟨K20, q17, e21, b18, n19⟩ := loopF_cons l13
    dsimp only [fL_toEndS_s1] at b18
    refine wp_of ha ?_
    refine wpC_seq ?_
    refine wpC_seq ?_
    refine wpC_region ?_
    refine st_val (ex_move rfl) (by decide) trivial ?_
    refine st_val (ex_move rfl) (by decide) trivial ?_
    refine st_val (ex_lenR rfl g0 Try.underlying108) (by decide) trivial ?_
    refine st_val (ex_lss rfl rfl) (by decide) trivial ?_
    refine wpF_end (r := [(0, u0), (3, v4), (4, (.int .i64 y9)), (11, (.bool (decide (y9 < (p0.length : Int)))))]) ⟨rfl, rfl, rfl, rfl, trivial⟩ ?_
    refine nx ?_
    refine wpC_cond rfl (fun t22 => ?_) (fun t22 => ?_)
    · rw [if_pos t22] at b18
      refine wpC_skip ?_
      refine nx ?_
      refine wpC_seq ?_
      refine wpC_block ?_
      refine wpC_region ?_
      refine st_val (ex_move rfl) (by decide) trivial ?_
      refine st_val (ex_move rfl) (by decide) trivial ?_
      refine st_val (ex_move rfl) (by decide) trivial ?_
      refine st_val (ex_move rfl) (by decide) trivial ?_
      obtain ⟨x23, hx23, b18⟩ := bind_some b18
      refine st_op (by decide) trivial ?_
      refine wf_atZ g0 hx23 hB rfl rfl Try.underlying108 Try.sizeOf136 ?_
      intro b24 f25 c26 h27 h28
      cases h28
      refine st_val (ex_loadA rfl Try.isAgg136 Try.sizeOf136 rfl h27) (by decide) trivial ?_
      obtain ⟨x29, hx29, b18⟩ := bind_some b18
      refine st_op (by decide) trivial ?_
      refine wf_call (cL_toEnd w11 o10 12 (by decide) _ x23 (rfl) x29 hx29) Try.call127 ⟨rfl, trivial⟩ ?_
      rintro e36 w30 ⟨c31, o37, rfl, h32, k33, k34⟩
      have s35 := k33.stp' 12 k34
      refine ⟨_, rfl, ?_⟩
      cases h32
      replace h8 := h8.stp s35 (by decide) (by decide)
      replace hB := hB.stp s35 (by decide)
      obtain ⟨x38, hx38, b18⟩ := bind_some b18
      refine st_op (by decide) trivial ?_
      refine wf_atP h8 hx38 rfl rfl Try.underlying110 Try.sizeOf115 ?_
      intro b39 c41 h44 h42 h43
      cases h43
      obtain ⟨x47, hx47, b18⟩ := bind_some b18
      refine st_op0 trivial ?_
      refine wf_storeS (cs := [(.int .i64 x29.Node), (.int .i64 x29.Port)]) h8 h44 hx47 (rfl) (by decide) rfl rfl info1_t_impl_End_Nz ?_
      intro w45 h48 s46
      replace hB := hB.stp s46 (by decide)
      refine wpF_end (r := [(0, u0), (3, v4), (4, (.int .i64 y9))]) ⟨rfl, rfl, rfl, trivial⟩ ?_
      refine nb_norm ?_
      refine nx ?_
      refine wpC_region ?_
      refine st_val (ex_move rfl) (by decide) trivial ?_
      obtain ⟨x49, hx49, b18⟩ := bind_some b18
      refine st_val (ex_add rfl rfl hx49) (by decide) trivial ?_
      refine st_val (ex_assign rfl) (by decide) trivial ?_
      refine wpF_end (r := [(0, u0), (3, v4), (4, (.int .i64 x49))]) ⟨rfl, rfl, rfl, trivial⟩ ?_
      refine nt_norm ?_
      have e50 := Option.some.inj b18
      subst e50
      refine to_k (r := [(0, u0), (3, v4), (4, (.int .i64 x49))]) ⟨rfl, rfl, rfl, trivial⟩ ?_
      intro a ha
      exact ⟨K20, by omega, x47, x49, o37, n19, ha, hB, h48⟩
    · rw [if_neg (by rw [t22]; decide)] at b18
      refine wpC_exit ?_
      refine nt_exit ?_
      refine nt_exit ?_
      refine nb_hit ?_
      refine np_norm ?_
      have e51 := Option.some.inj b18
      subst e51
      refine to_k (r := [(3, v4)]) ⟨rfl, trivial⟩ ?_
      intro a ha
      exact ⟨y7, y9, o10, n19, ha, hB, h8⟩
  · rintro a w11 ⟨y7, y9, o10, rfl, ha, hB, h8⟩
    dsimp only at hF
    refine ap_k ha ?_
    refine nx ?_
    refine wpC_seq ?_
    refine wpC_region ?_
    refine st_val (ex_move rfl) (by decide) trivial ?_
    refine st_val (ex_assign rfl) (by decide) trivial ?_
    refine wpF_end (r := [(2, v4)]) ⟨rfl, trivial⟩ ?_
    refine nx ?_
    refine wpC_ret ?_
    have e52 := Option.some.inj hF
    subst e52
    refine ret_post (P := Try.prog) (vs := [v4]) Try.results91 ⟨rfl, trivial⟩ ?_
    exact ⟨_, rt oo o10 w.heap.size 11 t, rfl, h8.rt hB (by decide) t, hB.keeps, rt_old _ _ _ _ _⟩
  · exact fun _ _ h => h.elim

def fL_toEndSS_s1 (fuel : Nat) (p0 : List (List T_End)) : ((List (List T_End)) × Int) → Option (Lp ((List (List T_End)) × Int) ((List (List T_End)) × Int) (List (List T_End))) := fun (s : (List (List T_End)) × Int) =>
  if decide (s.2 < (p0.length : Int)) then
    (ix p0 s.2) >>= fun x27 =>
    (fL_toEndS fuel x27) >>= fun x35 =>
    (ix s.1 s.2) >>= fun x44 =>
    (st s.1 s.2 x35) >>= fun x57 =>
    (ck (s.2 + 1)) >>= fun x65 =>
    some (.go (x57, x65))
  else
    some (.out (s.1, s.2))
def fL_toEndSS (fuel : Nat) (p0 : List (List T_End)) : Option (List (List T_End)) :=
  (mk ([] : List T_End) (p0.length : Int)) >>= fun x1 =>
  (loopF (fL_toEndSS_s1 fuel p0) fuel (x1, 0)) >>= fun q16 =>
  match q16 with
  | .inl (y9, y13) =>
    some y9
  | .inr _ => none

def pL_toEndSS (oo : Tg) (t : Nat) (w : World) (r : List (List T_End)) : Ending → World → Prop := fun e w' => ∃ (v0 : Value) (g0 : List Hv) (o' : Tg), e = .returned (v0) ∧ Ow w.heap.size 110 t o' w' v0 g0 ∧ Rws w.heap.size 115 (t + 1) o' w' g0 r ∧ Keeps w w' ∧ ∀ b, b < w.heap.size → o' b = oo b
set_option maxRecDepth 100000 in
set_option maxHeartbeats 2000000 in
theorem cL_toEndSS (fuel : Nat) (w : World) (oo : Tg) (t : Nat) (ht : 2 ≤ t) (u0 : Value) (p0 : List (List T_End)) (g0 : RdL zt w u0 p0) (r : List (List T_End)) (hF : fL_toEndSS fuel p0 = some r) :
    Calls Try.prog 58 #[u0] w (pL_toEndSS oo t w r) := by
  unfold fL_toEndSS at hF
  have hB : Bs oo (col oo) w w := Bs.start _ _
  refine calls_start (n := 23) (vs := [u0]) Try.func58 rfl rfl ?_
  generalize col oo = o at *
  refine wpC_seq ?_
  refine wpC_region ?_
  refine st_val (ex_assign rfl) (by decide) trivial ?_
  refine wpF_end (r := [(0, u0)]) ⟨rfl, trivial⟩ ?_
  refine nx ?_
  refine wpC_seq ?_
  refine wpC_region ?_
  refine st_val (ex_move rfl) (by decide) trivial ?_
  refine st_val (ex_lenR rfl g0 Try.underlying22) (by decide) trivial ?_
  obtain ⟨x1, hx1, hF⟩ := bind_some hF
  obtain ⟨h8, h7⟩ := mk_hv hx1 w.heap.size 115 12 o w
  refine st_op (by decide) trivial ?_
  refine wf_make (o := o) w.heap.size 11 hB.keeps.size h8 rfl rfl Try.underlying29 info2_t_Limpl_End_Nz rfl (by decide) ?_
  intro o2 w3 v4 h5 s6
  replace h7 := h7.stp s6 (by decide) (by decide)
  replace hB := hB.stp s6 (by decide)
  refine st_val (ex_assign rfl) (by decide) trivial ?_
  refine wpF_end (r := [(0, u0), (3, v4)]) ⟨rfl, rfl, trivial⟩ ?_
  refine nx ?_
  refine wpC_seq ?_
  refine wpC_seq ?_
  refine wpC_region ?_
  refine st_val (ex_assign rfl) (by decide) trivial ?_
  refine wpF_end (r := [(0, u0), (3, v4), (4, (.int .i64 0))]) ⟨rfl, rfl, rfl, trivial⟩ ?_
  refine nx ?_
  obtain ⟨q16, hq16, hF⟩ := bind_some hF
  refine wpC_cutN (fun a w15 => ∃ (y9 : List (List T_End)) (y13 : Int) (g12 : List Hv) (o14 : Tg), q16 = .inl (y9, y13) ∧ Fr a 23 [(3, v4)] ∧ Bs oo o14 w w15 ∧ Ow w.heap.size 110 11 o14 w15 v4 g12 ∧ Rws w.heap.size 115 12 o14 w15 g12 y9) (fun _ _ => False) ?_ ?_ ?_
  · refine wpC_block ?_
    refine wpC_loop (fun (K : Nat) a w15 => ∃ (y9 : List (List T_End)) (y13 : Int) (g12 : List Hv) (o14 : Tg), loopF (fL_toEndSS_s1 fuel p0) K (y9, y13) = some q16 ∧ Fr a 23 [(0, u0), (3, v4), (4, (.int .i64 y13))] ∧ Bs oo o14 w w15 ∧ Ow w.heap.size 110 11 o14 w15 v4 g12 ∧ Rws w.heap.size 115 12 o14 w15 g12 y9) fuel (fun a ha => ⟨x1, 0, (List.replicate (p0.length : Int).toNat ⟨.slice none 0 0⟩), o2, hq16, ha.sub (r := [(0, u0), (3, v4), (4, (.int .i64 0))]) ⟨rfl, rfl, rfl, trivial⟩, hB, h5, h7⟩) ?_
    rintro K20 a w15 ⟨y9, y13, g12, o14, l17, ha, hB, h10, h11⟩
    obtain ⟨K24, q21, e25, b22, n23⟩ := loopF_cons l17
    dsimp only [fL_toEndSS_s1] at b22
    refine wp_of ha ?_
    refine wpC_seq ?_
    refine wpC_seq ?_
    refine wpC_region ?_
    refine st_val (ex_move rfl) (by decide) trivial ?_
    refine st_val (ex_move rfl) (by decide) trivial ?_
    refine st_val (ex_lenR rfl g0 Try.underlying22) (by decide) trivial ?_
    refine st_val (ex_lss rfl rfl) (by decide) trivial ?_
    refine wpF_end (r := [(0, u0), (3, v4), (4, (.int .i64 y13)), (11, (.bool (decide (y13 < (p0.length : Int)))))]) ⟨rfl, rfl, rfl, rfl, trivial⟩ ?_
    refine nx ?_
    refine wpC_cond rfl (fun t26 => ?_) (fun t26 => ?_)
    · rw [if_pos t26] at b22
      refine wpC_skip ?_
      refine nx ?_
      refine wpC_seq ?_
      refine wpC_block ?_
      refine wpC_region ?_
      refine st_val (ex_move rfl) (by decide) trivial ?_
      refine st_val (ex_move rfl) (by decide) trivial ?_
      refine st_val (ex_move rfl) (by decide) trivial ?_
      refine st_val (ex_move rfl) (by decide) trivial ?_
      obtain ⟨x27, hx27, b22⟩ := bind_some b22
      refine st_op (by decide) trivial ?_
      refine wf_atZ g0 hx27 hB rfl rfl Try.underlying22 Try.sizeOf108 ?_
      intro b28 f29 c30 h31 h32
      obtain ⟨v33, rfl, h34⟩ := h32
      refine st_val (ex_load1 rfl Try.isAgg108 (cell_of_cells h31)) (by decide) trivial ?_
      obtain ⟨x35, hx35, b22⟩ := bind_some b22
      refine st_op (by decide) trivial ?_
      refine wf_call (cL_toEndS fuel w15 o14 13 (by decide) _ x27 (h34.keep hB.keeps) x35 hx35) Try.call91 ⟨rfl, trivial⟩ ?_
      rintro e42 w36 ⟨v37, o43, rfl, h38, k39, k40⟩
      have s41 := k39.stp' 13 k40
      replace h38 := h38.mono hB.keeps.size
      refine ⟨_, rfl, ?_⟩
      replace h10 := h10.stp s41 (by decide) (by decide)
      replace h11 := h11.stp s41 (by decide) (by decide)
      replace hB := hB.stp s41 (by decide)
      obtain ⟨x44, hx44, b22⟩ := bind_some b22
      obtain ⟨v45, h46, h47, h48⟩ := h11.ix hx44
      refine st_op (by decide) trivial ?_
      refine wf_atP h10 h46 rfl rfl Try.underlying29 Try.sizeOf110 ?_
      intro b49 c51 h54 h52 h53
      obtain ⟨rfl, -⟩ := h53
      obtain ⟨x57, hx57, b22⟩ := bind_some b22
      obtain ⟨h58, h59⟩ := h11.stV hx57 v37
      refine st_op0 trivial ?_
      refine wf_storeW h10 h54 h58 (rd_hv h38) (by decide) rfl rfl rfl Try.sizeOf110 h38.cells1 ?_
      intro w55 h60 s56
      replace h11 := h11.stp s56 (by decide) (by decide)
      replace h38 := h38.stp s56 (by decide) (by decide)
      replace hB := hB.stp s56 (by decide)
      have h61 := RwH.put (i := y13.toNat) (h11.hole y13.toNat) h38 (by decide) (by decide)
      rw [← h59] at h61
      have r62 := mrg_rc 13 12 o43
      clear h11 h38
      replace h60 := h60.rc r62 (by decide) (by decide)
      replace hB := hB.rc r62 (by decide)
      generalize mrg 13 12 o43 = o64 at *
      refine wpF_end (r := [(0, u0), (3, v4), (4, (.int .i64 y13))]) ⟨rfl, rfl, rfl, trivial⟩ ?_
      refine nb_norm ?_
      refine nx ?_
      refine wpC_region ?_
      refine st_val (ex_move rfl) (by decide) trivial ?_
      obtain ⟨x65, hx65, b22⟩ := bind_some b22
      refine st_val (ex_add rfl rfl hx65) (by decide) trivial ?_
      refine st_val (ex_assign rfl) (by decide) trivial ?_
      refine wpF_end (r := [(0, u0), (3, v4), (4, (.int .i64 x65))]) ⟨rfl, rfl, rfl, trivial⟩ ?_
      refine nt_norm ?_
      have e66 := Option.some.inj b22
      subst e66
      refine to_k (r := [(0, u0), (3, v4), (4, (.int .i64 x65))]) ⟨rfl, rfl, rfl, trivial⟩ ?_
      intro a ha
      exact ⟨K24, by omega, x57, x65, (g12.set y13.toNat ⟨v37⟩), o64, n23, ha, hB, h60, h61⟩
    · rw [if_neg (by rw [t26]; decide)] at b22
      refine wpC_exit ?_
      refine nt_exit ?_
      refine nt_exit ?_
      refine nb_hit ?_
      refine np_norm ?_
      have e67 := Option.some.inj b22
      subst e67
      refine to_k (r := [(3, v4)]) ⟨rfl, trivial⟩ ?_
      intro a ha
      exact ⟨y9, y13, g12, o14, n23, ha, hB, h10, h11⟩
  · rintro a w15 ⟨y9, y13, g12, o14, rfl, ha, hB, h10, h11⟩
    dsimp only at hF
    refine ap_k ha ?_
    refine nx ?_
    refine wpC_seq ?_
    refine wpC_region ?_
    refine st_val (ex_move rfl) (by decide) trivial ?_
    refine st_val (ex_assign rfl) (by decide) trivial ?_
    refine wpF_end (r := [(2, v4)]) ⟨rfl, trivial⟩ ?_
    refine nx ?_
    refine wpC_ret ?_
    have e68 := Option.some.inj hF
    subst e68
    refine ret_post (P := Try.prog) (vs := [v4]) Try.results58 ⟨rfl, trivial⟩ ?_
    exact ⟨_, g12, rt2 oo o14 w.heap.size 11 12 t, rfl, h10.rt2 hB (by decide) (by decide) t, h11.rt2 hB (by decide) (by decide) (by decide) t, hB.keeps, rt2_old _ _ _ _ _ _⟩
  · exact fun _ _ h => h.elim

def fL_toIntS_s1 (p0 : List Int) : ((List Int) × Int) → Option (Lp ((List Int) × Int) ((List Int) × Int) (List Int)) := fun (s : (List Int) × Int) =>
  if decide (s.2 < (p0.length : Int)) then
    (ix p0 s.2) >>= fun x23 =>
    (ix s.1 s.2) >>= fun x29 =>
    (st s.1 s.2 x23) >>= fun x38 =>
    (ck (s.2 + 1)) >>= fun x40 =>
    some (.go (x38, x40))
  else
    some (.out (s.1, s.2))
def fL_toIntS (fuel : Nat) (p0 : List Int) : Option (List Int) :=
  (mk (Rz.z : Int) (p0.length : Int)) >>= fun x1 =>
  (loopF (fL_toIntS_s1 p0) fuel (x1, 0)) >>= fun q12 =>
  match q12 with
  | .inl (y7, y9) =>
    some y7
  | .inr _ => none

def pL_toIntS (oo : Tg) (t : Nat) (w : World) (r : List Int) : Ending → World → Prop := fun e w' => ∃ (v0 : Value) (o' : Tg), e = .returned (v0) ∧ Ow w.heap.size 3 t o' w' v0 r ∧ Keeps w w' ∧ ∀ b, b < w.heap.size → o' b = oo b
set_option maxRecDepth 100000 in
set_option maxHeartbeats 2000000 in
theorem cL_toIntS (fuel : Nat) (w : World) (oo : Tg) (t : Nat) (ht : 2 ≤ t) (u0 : Value) (p0 : List Int) (g0 : RdL zt w u0 p0) (r : List Int) (hF : fL_toIntS fuel p0 = some r) :
    Calls Try.prog 59 #[u0] w (pL_toIntS oo t w r) := by
  unfold fL_toIntS at hF
  have hB : Bs oo (col oo) w w := Bs.start _ _
  refine calls_start (n := 22) (vs := [u0]) Try.func59 rfl rfl ?_
  generalize col oo = o at *
  refine wpC_seq ?_
  refine wpC_region ?_
  refine st_val (ex_assign rfl) (by decide) trivial ?_
  refine wpF_end (r := [(0, u0)]) ⟨rfl, trivial⟩ ?_
  refine nx ?_
  refine wpC_seq ?_
  refine wpC_region ?_
  refine st_val (ex_move rfl) (by decide) trivial ?_
  refine st_val (ex_lenR rfl g0 Try.underlying23) (by decide) trivial ?_
  obtain ⟨x1, hx1, hF⟩ := bind_some hF
  refine st_op (by decide) trivial ?_
  refine wf_make (o := o) w.heap.size 11 hB.keeps.size hx1 rfl rfl Try.underlying23 info2_t_int_Nz rfl (by decide) ?_
  intro o2 w3 v4 h5 s6
  replace hB := hB.stp s6 (by decide)
  refine st_val (ex_assign rfl) (by decide) trivial ?_
  refine wpF_end (r := [(0, u0), (3, v4)]) ⟨rfl, rfl, trivial⟩ ?_
  refine nx ?_
  refine wpC_seq ?_
  refine wpC_seq ?_
  refine wpC_region ?_
  refine st_val (ex_assign rfl) (by decide) trivial ?_
  refine wpF_end (r := [(0, u0), (3, v4), (4, (.int .i64 0))]) ⟨rfl, rfl, rfl, trivial⟩ ?_
  refine nx ?_
  obtain ⟨q12, hq12, hF⟩ := bind_some hF
  refine wpC_cutN (fun a w11 => ∃ (y7 : List Int) (y9 : Int) (o10 : Tg), q12 = .inl (y7, y9) ∧ Fr a 22 [(3, v4)] ∧ Bs oo o10 w w11 ∧ Ow w.heap.size 3 11 o10 w11 v4 y7) (fun _ _ => False) ?_ ?_ ?_
  · refine wpC_block ?_
    refine wpC_loop (fun (K : Nat) a w11 => ∃ (y7 : List Int) (y9 : Int) (o10 : Tg), loopF (fL_toIntS_s1 p0) K (y7, y9) = some q12 ∧ Fr a 22 [(0, u0), (3, v4), (4, (.int .i64 y9))] ∧ Bs oo o10 w w11 ∧ Ow w.heap.size 3 11 o10 w11 v4 y7) fuel (fun a ha => ⟨x1, 0, o2, hq12, ha.sub (r := [(0, u0), (3, v4), (4, (.int .i64 0))]) ⟨rfl, rfl, rfl, trivial⟩, hB, h5⟩) ?_
    rintro K16 a w11 ⟨y7, y9, o10, l13, ha, hB, h8⟩
    obtain ⟨K20, q17, e21, b18, n19⟩ := loopF_cons l13
    dsimp only [fL_toIntS_s1] at b18
    refine wp_of ha ?_
    refine wpC_seq ?_
    refine wpC_seq ?_
    refine wpC_region ?_
    refine st_val (ex_move rfl) (by decide) trivial ?_
    refine st_val (ex_move rfl) (by decide) trivial ?_
    refine st_val (ex_lenR rfl g0 Try.underlying23) (by decide) trivial ?_
    refine st_val (ex_lss rfl rfl) (by decide) trivial ?_
    refine wpF_end (r := [(0, u0), (3, v4), (4, (.int .i64 y9)), (11, (.bool (decide (y9 < (p0.length : Int)))))]) ⟨rfl, rfl, rfl, rfl, trivial⟩ ?_
    refine nx ?_
    refine wpC_cond rfl (fun t22 => ?_) (fun t22 => ?_)
    · rw [if_pos t22] at b18
      refine wpC_skip ?_
      refine nx ?_
      refine wpC_seq ?_
      refine wpC_block ?_
      refine wpC_region ?_
      refine st_val (ex_move rfl) (by decide) trivial ?_
      refine st_val (ex_move rfl) (by decide) trivial ?_
      refine st_val (ex_move rfl) (by decide) trivial ?_
      refine st_val (ex_move rfl) (by decide) trivial ?_
      obtain ⟨x23, hx23, b18⟩ := bind_some b18
      refine st_op (by decide) trivial ?_
      refine wf_atZ g0 hx23 hB rfl rfl Try.underlying23 Try.sizeOf3 ?_
      intro b24 f25 c26 h27 h28
      cases h28
      refine st_val (ex_load1 rfl Try.isAgg3 (cell_of_cells h27)) (by decide) trivial ?_
      obtain ⟨x29, hx29, b18⟩ := bind_some b18
      refine st_op (by decide) trivial ?_
      refine wf_atP h8 hx29 rfl rfl Try.underlying23 Try.sizeOf3 ?_
      intro b30 c32 h35 h33 h34
      cases h34
      obtain ⟨x38, hx38, b18⟩ := bind_some b18
      refine st_op0 trivial ?_
      refine wf_storeW h8 h35 hx38 rfl (by decide) rfl rfl rfl Try.sizeOf3 rfl ?_
      intro w36 h39 s37
      replace hB := hB.stp s37 (by decide)
      refine wpF_end (r := [(0, u0), (3, v4), (4, (.int .i64 y9))]) ⟨rfl, rfl, rfl, trivial⟩ ?_
      refine nb_norm ?_
      refine nx ?_
      refine wpC_region ?_
      refine st_val (ex_move rfl) (by decide) trivial ?_
      obtain ⟨x40, hx40, b18⟩ := bind_some b18
      refine st_val (ex_add rfl rfl hx40) (by decide) trivial ?_
      refine st_val (ex_assign rfl) (by decide) trivial ?_
      refine wpF_end (r := [(0, u0), (3, v4), (4, (.int .i64 x40))]) ⟨rfl, rfl, rfl, trivial⟩ ?_
      refine nt_norm ?_
      have e41 := Option.some.inj b18
      subst e41
      refine to_k (r := [(0, u0), (3, v4), (4, (.int .i64 x40))]) ⟨rfl, rfl, rfl, trivial⟩ ?_
      intro a ha
      exact ⟨K20, by omega, x38, x40, o10, n19, ha, hB, h39⟩
    · rw [if_neg (by rw [t22]; decide)] at b18
      refine wpC_exit ?_
      refine nt_exit ?_
      refine nt_exit ?_
      refine nb_hit ?_
      refine np_norm ?_
      have e42 := Option.some.inj b18
      subst e42
      refine to_k (r := [(3, v4)]) ⟨rfl, trivial⟩ ?_
      intro a ha
      exact ⟨y7, y9, o10, n19, ha, hB, h8⟩
  · rintro a w11 ⟨y7, y9, o10, rfl, ha, hB, h8⟩
    dsimp only at hF
    refine ap_k ha ?_
    refine nx ?_
    refine wpC_seq ?_
    refine wpC_region ?_
    refine st_val (ex_move rfl) (by decide) trivial ?_
    refine st_val (ex_assign rfl) (by decide) trivial ?_
    refine wpF_end (r := [(2, v4)]) ⟨rfl, trivial⟩ ?_
    refine nx ?_
    refine wpC_ret ?_
    have e43 := Option.some.inj hF
    subst e43
    refine ret_post (P := Try.prog) (vs := [v4]) Try.results59 ⟨rfl, trivial⟩ ?_
    exact ⟨_, rt oo o10 w.heap.size 11 t, rfl, h8.rt hB (by decide) t, hB.keeps, rt_old _ _ _ _ _⟩
  · exact fun _ _ h => h.elim

def fL_toNetwork (fuel : Nat) (p0 : T_Network) : Option T_Network :=
  (fL_toEndSS fuel p0.Ends) >>= fun x22 =>
  (fL_toIntS fuel p0.Ids) >>= fun x36 =>
  (fL_toIntS fuel p0.Inputs) >>= fun x48 =>
  some (⟨x22, x36, x48⟩ : T_Network)

def pL_toNetwork (oo : Tg) (t : Nat) (w : World) (r : T_Network) : Ending → World → Prop := fun e w' => ∃ (v0 : List Value) (o' : Tg), e = .returned (.agg v0.toArray) ∧ Rp.rd o' w' v0 r ∧ Dz 110 115 o' w' (v0.getD 0 undef) r.Ends ∧ Of 3 o' w' (v0.getD 1 undef) r.Ids ∧ Of 3 o' w' (v0.getD 2 undef) r.Inputs ∧ Keeps w w' ∧ ∀ b, b < w.heap.size → o' b = oo b
set_option maxRecDepth 100000 in
set_option maxHeartbeats 2000000 in
theorem cL_toNetwork (fuel : Nat) (w : World) (oo : Tg) (t : Nat) (ht : 2 ≤ t) (u0 : List Value) (p0 : T_Network) (g0 : Rp.rd zt w u0 p0) (r : T_Network) (hF : fL_toNetwork fuel p0 = some r) :
    Calls Try.prog 15 #[.agg u0.toArray] w (pL_toNetwork oo t w r) := by
  unfold fL_toNetwork at hF
  obtain ⟨v1, v3, v5, rfl, h2, h4, h6⟩ := g0
  have hB : Bs oo (col oo) w w := Bs.start _ _
  refine calls_start (n := 17) (vs := [(.agg #[v1, v3, v5])]) Try.func15 rfl rfl ?_
  generalize col oo = o at *
  refine wpC_seq ?_
  refine wpC_region ?_
  refine st_op (by decide) trivial ?_
  refine wf_box (o := o) w.heap.size 11 hB.keeps.size (cs := [v1, v3, v5]) rfl rfl ?_
  intro o7 w8 b9 h10 s11
  replace hB := hB.stp s11 (by decide)
  refine st_op (by decide) trivial ?_
  refine wf_alloc (o := o7) w.heap.size 12 hB.keeps.size (cs := [(.slice none 0 0), (.slice none 0 0), (.slice none 0 0)]) Try.zeroValue31 rfl ?_
  intro o12 w13 b14 h15 s16
  replace h10 := h10.stp s16 (by decide)
  replace hB := hB.stp s16 (by decide)
  refine wpF_end (r := [(1, (.pointer (some ⟨b9, 0, none⟩))), (2, (.pointer (some ⟨b14, 0, none⟩)))]) ⟨rfl, rfl, trivial⟩ ?_
  refine nx ?_
  refine wpC_seq ?_
  refine wpC_region ?_
  refine st_op (by decide) trivial ?_
  refine wf_alloc (o := o12) w.heap.size 13 hB.keeps.size (cs := [(.slice none 0 0), (.slice none 0 0), (.slice none 0 0)]) Try.zeroValue31 rfl ?_
  intro o17 w18 b19 h20 s21
  replace h10 := h10.stp s21 (by decide)
  replace h15 := h15.stp s21 (by decide)
  replace hB := hB.stp s21 (by decide)
  refine wpF_end (r := [(1, (.pointer (some ⟨b9, 0, none⟩))), (2, (.pointer (some ⟨b14, 0, none⟩))), (3, (.pointer (some ⟨b19, 0, none⟩)))]) ⟨rfl, rfl, rfl, trivial⟩ ?_
  refine nx ?_
  refine wpC_seq ?_
  refine wpC_region ?_
  refine st_val (ex_field rfl Try.underlying25 rfl Try.sizeOf22) (by decide) trivial ?_
  refine st_val (ex_load1 rfl Try.isAgg22 (h10.cell rfl)) (by decide) trivial ?_
  obtain ⟨x22, hx22, hF⟩ := bind_some hF
  refine st_op (by decide) trivial ?_
  refine wf_call (cL_toEndSS fuel w18 o17 14 (by decide) _ p0.Ends (h2.keep hB.keeps) x22 hx22) Try.call58 ⟨rfl, trivial⟩ ?_
  rintro e31 w23 ⟨v24, g26, o32, rfl, h25, h27, k28, k29⟩
  have s30 := k28.stp' 14 k29
  replace h25 := h25.mono hB.keeps.size
  replace h27 := h27.mono hB.keeps.size
  refine ⟨_, rfl, ?_⟩
  replace h10 := h10.stp s30 (by decide)
  replace h15 := h15.stp s30 (by decide)
  replace h20 := h20.stp s30 (by decide)
  replace hB := hB.stp s30 (by decide)
  refine st_val (ex_field rfl Try.underlying31 rfl Try.sizeOf29) (by decide) trivial ?_
  refine st_op0 trivial ?_
  refine wf_storeB h20 rfl rfl (of_decide_eq_true rfl) Try.sizeOf29 h25.cells1 h25.one1 ?_
  intro w33 h35 s34
  replace h25 := h25.stp s34 (by decide) (by decide)
  replace h27 := h27.stp s34 (by decide) (by decide)
  replace h10 := h10.stp s34 (by decide)
  replace h15 := h15.stp s34 (by decide)
  replace hB := hB.stp s34 (by decide)
  replace h35 : Bx w.heap.size 13 o32 w33 b19 31 [v24, (.slice none 0 0), (.slice none 0 0)] := h35
  refine wpF_end (r := [(1, (.pointer (some ⟨b9, 0, none⟩))), (2, (.pointer (some ⟨b14, 0, none⟩))), (3, (.pointer (some ⟨b19, 0, none⟩)))]) ⟨rfl, rfl, rfl, trivial⟩ ?_
  refine nx ?_
  refine wpC_seq ?_
  refine wpC_region ?_
  refine st_val (ex_field rfl Try.underlying25 rfl Try.sizeOf23) (by decide) trivial ?_
  refine st_val (ex_load1 rfl Try.isAgg23 (h10.cell rfl)) (by decide) trivial ?_
  obtain ⟨x36, hx36, hF⟩ := bind_some hF
  refine st_op (by decide) trivial ?_
  refine wf_call (cL_toIntS fuel w33 o32 16 (by decide) _ p0.Ids (h4.keep hB.keeps) x36 hx36) Try.call59 ⟨rfl, trivial⟩ ?_
  rintro e43 w37 ⟨v38, o44, rfl, h39, k40, k41⟩
  have s42 := k40.stp' 16 k41
  replace h39 := h39.mono hB.keeps.size
  refine ⟨_, rfl, ?_⟩
  replace h10 := h10.stp s42 (by decide)
  replace h15 := h15.stp s42 (by decide)
  replace h35 := h35.stp s42 (by decide)
  replace h25 := h25.stp s42 (by decide) (by decide)
  replace h27 := h27.stp s42 (by decide) (by decide)
  replace hB := hB.stp s42 (by decide)
  refine st_val (ex_field rfl Try.underlying31 rfl Try.sizeOf23) (by decide) trivial ?_
  refine st_op0 trivial ?_
  refine wf_storeB h35 rfl rfl (of_decide_eq_true rfl) Try.sizeOf23 h39.cells1 h39.one1 ?_
  intro w45 h47 s46
  replace h39 := h39.stp s46 (by decide) (by decide)
  replace h10 := h10.stp s46 (by decide)
  replace h15 := h15.stp s46 (by decide)
  replace h25 := h25.stp s46 (by decide) (by decide)
  replace h27 := h27.stp s46 (by decide) (by decide)
  replace hB := hB.stp s46 (by decide)
  replace h47 : Bx w.heap.size 13 o44 w45 b19 31 [v24, v38, (.slice none 0 0)] := h47
  refine wpF_end (r := [(1, (.pointer (some ⟨b9, 0, none⟩))), (2, (.pointer (some ⟨b14, 0, none⟩))), (3, (.pointer (some ⟨b19, 0, none⟩)))]) ⟨rfl, rfl, rfl, trivial⟩ ?_
  refine nx ?_
  refine wpC_seq ?_
  refine wpC_region ?_
  refine st_val (ex_field rfl Try.underlying25 rfl Try.sizeOf23) (by decide) trivial ?_
  refine st_val (ex_load1 rfl Try.isAgg23 (h10.cell rfl)) (by decide) trivial ?_
  obtain ⟨x48, hx48, hF⟩ := bind_some hF
  refine st_op (by decide) trivial ?_
  refine wf_call (cL_toIntS fuel w45 o44 17 (by decide) _ p0.Inputs (h6.keep hB.keeps) x48 hx48) Try.call59 ⟨rfl, trivial⟩ ?_
  rintro e55 w49 ⟨v50, o56, rfl, h51, k52, k53⟩
  have s54 := k52.stp' 17 k53
  replace h51 := h51.mono hB.keeps.size
  refine ⟨_, rfl, ?_⟩
  replace h10 := h10.stp s54 (by decide)
  replace h15 := h15.stp s54 (by decide)
  replace h47 := h47.stp s54 (by decide)
  replace h25 := h25.stp s54 (by decide) (by decide)
  replace h27 := h27.stp s54 (by decide) (by decide)
  replace h39 := h39.stp s54 (by decide) (by decide)
  replace hB := hB.stp s54 (by decide)
  refine st_val (ex_field rfl Try.underlying31 rfl Try.sizeOf23) (by decide) trivial ?_
  refine st_op0 trivial ?_
  refine wf_storeB h47 rfl rfl (of_decide_eq_true rfl) Try.sizeOf23 h51.cells1 h51.one1 ?_
  intro w57 h59 s58
  replace h51 := h51.stp s58 (by decide) (by decide)
  replace h10 := h10.stp s58 (by decide)
  replace h15 := h15.stp s58 (by decide)
  replace h25 := h25.stp s58 (by decide) (by decide)
  replace h27 := h27.stp s58 (by decide) (by decide)
  replace h39 := h39.stp s58 (by decide) (by decide)
  replace hB := hB.stp s58 (by decide)
  replace h59 : Bx w.heap.size 13 o56 w57 b19 31 [v24, v38, v50] := h59
  refine wpF_end (r := [(2, (.pointer (some ⟨b14, 0, none⟩))), (3, (.pointer (some ⟨b19, 0, none⟩)))]) ⟨rfl, rfl, trivial⟩ ?_
  refine nx ?_
  refine wpC_seq ?_
  refine wpC_region ?_
  refine st_val (ex_loadA rfl Try.isAgg31 Try.sizeOf31 rfl h59.cells) (by decide) trivial ?_
  refine st_op0 trivial ?_
  refine wf_storeA h15 rfl rfl rfl info1_t_impl_Network_Nz (by intro c hc; simp only [List.mem_cons, List.not_mem_nil, or_false] at hc; rcases hc with rfl | rfl | rfl <;> first | rfl | exact h25.one1 | exact h39.one1 | exact h51.one1) ?_
  intro w60 h62 s61
  replace h25 := h25.stp s61 (by decide) (by decide)
  replace h27 := h27.stp s61 (by decide) (by decide)
  replace h39 := h39.stp s61 (by decide) (by decide)
  replace h51 := h51.stp s61 (by decide) (by decide)
  replace h10 := h10.stp s61 (by decide)
  replace h59 := h59.stp s61 (by decide)
  replace hB := hB.stp s61 (by decide)
  refine wpF_end (r := [(2, (.pointer (some ⟨b14, 0, none⟩)))]) ⟨rfl, trivial⟩ ?_
  refine nx ?_
  refine wpC_ret ?_
  have h63 := Dz.of h25 h27 (by decide) (by decide) (by decide)
  have r64 := frz_rc 14 o56
  have r65 := frz_rc 15 (frz 14 o56)
  replace h10 := (h10.rc r64 (by decide)).rc r65 (by decide)
  replace h62 := (h62.rc r64 (by decide)).rc r65 (by decide)
  replace h39 := (h39.rc r64 (by decide) (by decide)).rc r65 (by decide) (by decide)
  replace h51 := (h51.rc r64 (by decide) (by decide)).rc r65 (by decide) (by decide)
  replace h59 := (h59.rc r64 (by decide)).rc r65 (by decide)
  replace hB := (hB.rc r64 (by decide)).rc r65 (by decide)
  clear r64 r65
  generalize frz 15 (frz 14 o56) = o67 at *
  have h66 := h63.rd
  replace h10 := h10.frz_ne (j := 16) (by decide)
  replace h62 := h62.frz_ne (j := 16) (by decide)
  replace h66 := h66.frz 16
  replace h63 := h63.frz 16 (by decide)
  have h68 := h39.frzF
  replace h39 := h39.frz
  replace h51 := h51.frz_ne (j := 16) (by decide)
  replace h59 := h59.frz_ne (j := 16) (by decide)
  replace hB := hB.frz 16 (by decide)
  generalize (frz 16 o67) = o69 at *
  replace h10 := h10.frz_ne (j := 17) (by decide)
  replace h62 := h62.frz_ne (j := 17) (by decide)
  replace h66 := h66.frz 17
  replace h63 := h63.frz 17 (by decide)
  replace h39 := h39.frz 17
  replace h68 := h68.frz 17 (by decide)
  have h70 := h51.frzF
  replace h51 := h51.frz
  replace h59 := h59.frz_ne (j := 17) (by decide)
  replace hB := hB.frz 17 (by decide)
  generalize (frz 17 o69) = o71 at *
  have e72 := Option.some.inj hF
  subst e72
  refine ret_post (P := Try.prog) (vs := [(.agg #[v24, v38, v50])]) Try.results15 ⟨⟨_, rfl, run_loadA Try.isAgg31 Try.sizeOf31 rfl h62.cells⟩, trivial⟩ ?_
  exact ⟨[v24, v38, v50], rt oo o71 w.heap.size 9 t, rfl, ⟨_, _, _, rfl, h66.rt hB 9 t (by decide), h39.rt hB 9 t (by decide), h51.rt hB 9 t (by decide)⟩, h63.rt hB 9 t (by decide), h68.rt hB 9 t (by decide), h70.rt hB 9 t (by decide), hB.keeps, rt_old _ _ _ _ _⟩

def fL_eqEnd (p0 : T_End) (p1 : T_End) : Option Bool :=
  if p0.Node != p1.Node then
    some false
  else
    if p0.Port != p1.Port then
      some false
    else
      some true

def pL_eqEnd (w : World) (r : Bool) : Ending → World → Prop := fun e w' => e = .returned (.bool r) ∧ Keeps w w'
set_option maxRecDepth 100000 in
set_option maxHeartbeats 2000000 in
theorem cL_eqEnd (w : World) (u0 : List Value) (p0 : T_End) (g0 : Rp.rd zt w u0 p0) (u1 : List Value) (p1 : T_End) (g1 : Rp.rd zt w u1 p1) (r : Bool) (hF : fL_eqEnd p0 p1 = some r) :
    Calls Try.prog 128 #[.agg u0.toArray, .agg u1.toArray] w (pL_eqEnd w r) := by
  unfold fL_eqEnd at hF
  cases g0
  cases g1
  have hB : Bs (fun _ => 1) (col (fun _ => 1)) w w := Bs.start _ _
  refine calls_start (n := 15) (vs := [(.agg #[(.int .i64 p0.Node), (.int .i64 p0.Port)]), (.agg #[(.int .i64 p1.Node), (.int .i64 p1.Port)])]) Try.func128 rfl rfl ?_
  refine wpC_seq ?_
  refine wpC_region ?_
  refine st_op (by decide) trivial ?_
  refine wf_box (o := (col (fun _ => 1))) w.heap.size 11 hB.keeps.size (cs := [(.int .i64 p0.Node), (.int .i64 p0.Port)]) rfl rfl ?_
  intro o1 w2 b3 h4 s5
  replace hB := hB.stp s5 (by decide)
  refine st_op (by decide) trivial ?_
  refine wf_box (o := o1) w.heap.size 12 hB.keeps.size (cs := [(.int .i64 p1.Node), (.int .i64 p1.Port)]) rfl rfl ?_
  intro o6 w7 b8 h9 s10
  replace h4 := h4.stp s10 (by decide)
  replace hB := hB.stp s10 (by decide)
  refine st_val (ex_assign rfl) (by decide) trivial ?_
  refine wpF_end (r := [(2, (.pointer (some ⟨b3, 0, none⟩))), (3, (.pointer (some ⟨b8, 0, none⟩)))]) ⟨rfl, rfl, trivial⟩ ?_
  refine nx ?_
  refine wpC_seq ?_
  refine wpC_seq ?_
  refine wpC_region ?_
  refine st_val (ex_field rfl Try.underlying115 rfl Try.sizeOf3) (by decide) trivial ?_
  refine st_val (ex_load1 rfl Try.isAgg3 (h4.cell rfl)) (by decide) trivial ?_
  refine st_val (ex_field rfl Try.underlying115 rfl Try.sizeOf3) (by decide) trivial ?_
  refine st_val (ex_load1 rfl Try.isAgg3 (h9.cell rfl)) (by decide) trivial ?_
  refine st_val (ex_neq rfl rfl) (by decide) trivial ?_
  refine wpF_end (r := [(2, (.pointer (some ⟨b3, 0, none⟩))), (3, (.pointer (some ⟨b8, 0, none⟩))), (9, (.bool (p0.Node != p1.Node)))]) ⟨rfl, rfl, rfl, trivial⟩ ?_
  refine nx ?_
  refine wpC_cond rfl (fun t11 => ?_) (fun t11 => ?_)
  · rw [if_pos t11] at hF
    refine wpC_seq ?_
    refine wpC_region ?_
    refine st_val (ex_assign rfl) (by decide) trivial ?_
    refine wpF_end (r := [(4, (.bool false))]) ⟨rfl, trivial⟩ ?_
    refine nx ?_
    refine wpC_ret ?_
    refine nt_ret ?_
    have e12 := Option.some.inj hF
    subst e12
    refine ret_post (P := Try.prog) (vs := [(.bool false)]) Try.results128 ⟨rfl, trivial⟩ ?_
    exact ⟨rfl, hB.keeps⟩
  · rw [if_neg (by rw [t11]; decide)] at hF
    refine wpC_skip ?_
    refine nx ?_
    refine wpC_seq ?_
    refine wpC_seq ?_
    refine wpC_region ?_
    refine st_val (ex_field rfl Try.underlying115 rfl Try.sizeOf3) (by decide) trivial ?_
    refine st_val (ex_load1 rfl Try.isAgg3 (h4.cell rfl)) (by decide) trivial ?_
    refine st_val (ex_field rfl Try.underlying115 rfl Try.sizeOf3) (by decide) trivial ?_
    refine st_val (ex_load1 rfl Try.isAgg3 (h9.cell rfl)) (by decide) trivial ?_
    refine st_val (ex_neq rfl rfl) (by decide) trivial ?_
    refine wpF_end (r := [(14, (.bool (p0.Port != p1.Port)))]) ⟨rfl, trivial⟩ ?_
    refine nx ?_
    refine wpC_cond rfl (fun t13 => ?_) (fun t13 => ?_)
    · rw [if_pos t13] at hF
      refine wpC_seq ?_
      refine wpC_region ?_
      refine st_val (ex_assign rfl) (by decide) trivial ?_
      refine wpF_end (r := [(4, (.bool false))]) ⟨rfl, trivial⟩ ?_
      refine nx ?_
      refine wpC_ret ?_
      refine nt_ret ?_
      have e14 := Option.some.inj hF
      subst e14
      refine ret_post (P := Try.prog) (vs := [(.bool false)]) Try.results128 ⟨rfl, trivial⟩ ?_
      exact ⟨rfl, hB.keeps⟩
    · rw [if_neg (by rw [t13]; decide)] at hF
      refine wpC_skip ?_
      refine nx ?_
      refine wpC_seq ?_
      refine wpC_region ?_
      refine st_val (ex_assign rfl) (by decide) trivial ?_
      refine wpF_end (r := [(4, (.bool true))]) ⟨rfl, trivial⟩ ?_
      refine nx ?_
      refine wpC_ret ?_
      have e15 := Option.some.inj hF
      subst e15
      refine ret_post (P := Try.prog) (vs := [(.bool true)]) Try.results128 ⟨rfl, trivial⟩ ?_
      exact ⟨rfl, hB.keeps⟩

def fL_eqEndS_s1 (p0 : List T_End) (p1 : List T_End) : Int → Option (Lp Int Int Bool) := fun (s : Int) =>
  if decide (s < (p0.length : Int)) then
    (ix p0 s) >>= fun x17 =>
    (ix p1 s) >>= fun x20 =>
    (fL_eqEnd x17 x20) >>= fun x68 =>
    if !x68 then
      some (.ret false)
    else
      (ck (s + 1)) >>= fun x76 =>
      some (.go x76)
  else
    some (.out s)
def fL_eqEndS (fuel : Nat) (p0 : List T_End) (p1 : List T_End) : Option Bool :=
  if (p0.length : Int) != (p1.length : Int) then
    some false
  else
    (loopF (fL_eqEndS_s1 p0 p1) fuel 0) >>= fun q6 =>
    match q6 with
    | .inl y3 =>
      some true
    | .inr r' => some r'

def pL_eqEndS (w : World) (r : Bool) : Ending → World → Prop := fun e w' => e = .returned (.bool r) ∧ Keeps w w'
set_option maxRecDepth 100000 in
set_option maxHeartbeats 2000000 in
theorem cL_eqEndS (fuel : Nat) (w : World) (u0 : Value) (p0 : List T_End) (g0 : RdL zt w u0 p0) (u1 : Value) (p1 : List T_End) (g1 : RdL zt w u1 p1) (r : Bool) (hF : fL_eqEndS fuel p0 p1 = some r) :
    Calls Try.prog 92 #[u0, u1] w (pL_eqEndS w r) := by
  unfold fL_eqEndS at hF
  have hB : Bs (fun _ => 1) (col (fun _ => 1)) w w := Bs.start _ _
  refine calls_start (n := 27) (vs := [u0, u1]) Try.func92 rfl rfl ?_
  refine wpC_seq ?_
  refine wpC_region ?_
  refine st_val (ex_assign rfl) (by decide) trivial ?_
  refine wpF_end (r := [(0, u0), (1, u1)]) ⟨rfl, rfl, trivial⟩ ?_
  refine nx ?_
  refine wpC_seq ?_
  refine wpC_seq ?_
  refine wpC_region ?_
  refine st_val (ex_move rfl) (by decide) trivial ?_
  refine st_val (ex_lenR rfl g0 Try.underlying110) (by decide) trivial ?_
  refine st_val (ex_move rfl) (by decide) trivial ?_
  refine st_val (ex_lenR rfl g1 Try.underlying110) (by decide) trivial ?_
  refine st_val (ex_neq rfl rfl) (by decide) trivial ?_
  refine wpF_end (r := [(0, u0), (1, u1), (10, (.bool ((p0.length : Int) != (p1.length : Int))))]) ⟨rfl, rfl, rfl, trivial⟩ ?_
  refine nx ?_
  refine wpC_cond rfl (fun t1 => ?_) (fun t1 => ?_)
  · rw [if_pos t1] at hF
    refine wpC_seq ?_
    refine wpC_region ?_
    refine st_val (ex_assign rfl) (by decide) trivial ?_
    refine wpF_end (r := [(4, (.bool false))]) ⟨rfl, trivial⟩ ?_
    refine nx ?_
    refine wpC_ret ?_
    refine nt_ret ?_
    have e2 := Option.some.inj hF
    subst e2
    refine ret_post (P := Try.prog) (vs := [(.bool false)]) Try.results92 ⟨rfl, trivial⟩ ?_
    exact ⟨rfl, hB.keeps⟩
  · rw [if_neg (by rw [t1]; decide)] at hF
    refine wpC_skip ?_
    refine nx ?_
    refine wpC_seq ?_
    refine wpC_seq ?_
    refine wpC_region ?_
    refine st_val (ex_assign rfl) (by decide) trivial ?_
    refine wpF_end (r := [(0, u0), (1, u1), (5, (.int .i64 0))]) ⟨rfl, rfl, rfl, trivial⟩ ?_
    refine nx ?_
    obtain ⟨q6, hq6, hF⟩ := bind_some hF
    refine wpC_cutN (fun a w5 => ∃ (y3 : Int) (o4 : Tg), q6 = .inl y3 ∧ Fr a 27 [] ∧ Bs (fun _ => 1) o4 w w5) (fun a w' => ∃ r', q6 = .inr r' ∧ bodyPost Try.prog Try.f92 (pL_eqEndS w r') .ret a w') ?_ ?_ ?_
    · refine wpC_block ?_
      refine wpC_loop (fun (K : Nat) a w5 => ∃ (y3 : Int) (o4 : Tg), loopF (fL_eqEndS_s1 p0 p1) K y3 = some q6 ∧ Fr a 27 [(0, u0), (1, u1), (5, (.int .i64 y3))] ∧ Bs (fun _ => 1) o4 w w5) fuel (fun a ha => ⟨0, (col (fun _ => 1)), hq6, ha.sub (r := [(0, u0), (1, u1), (5, (.int .i64 0))]) ⟨rfl, rfl, rfl, trivial⟩, hB⟩) ?_
      rintro K10 a w5 ⟨y3, o4, l7, ha, hB⟩
      obtain ⟨K14, q11, e15, b12, n13⟩ := loopF_cons l7
      dsimp only [fL_eqEndS_s1] at b12
      refine wp_of ha ?_
      refine wpC_seq ?_
      refine wpC_seq ?_
      refine wpC_region ?_
      refine st_val (ex_move rfl) (by decide) trivial ?_
      refine st_val (ex_move rfl) (by decide) trivial ?_
      refine st_val (ex_lenR rfl g0 Try.underlying110) (by decide) trivial ?_
      refine st_val (ex_lss rfl rfl) (by decide) trivial ?_
      refine wpF_end (r := [(0, u0), (1, u1), (5, (.int .i64 y3)), (14, (.bool (decide (y3 < (p0.length : Int)))))]) ⟨rfl, rfl, rfl, rfl, trivial⟩ ?_
      refine nx ?_
      refine wpC_cond rfl (fun t16 => ?_) (fun t16 => ?_)
      · rw [if_pos t16] at b12
        refine wpC_skip ?_
        refine nx ?_
        refine wpC_seq ?_
        refine wpC_block ?_
        refine wpC_seq ?_
        obtain ⟨x17, hx17, b12⟩ := bind_some b12
        obtain ⟨x20, hx20, b12⟩ := bind_some b12
        refine wpC_drawn (o := o4) [(0, u0), (1, u1), (5, (.int .i64 y3))] [0, 1, 5] [17, 18, 19, 20, 21, 22, 23, 24] [[], [], [0, 1], [2], [], [], [4, 5], [6]] [none, none, none, none, none, none, none, none] [999, 999, 999, 999, 999, 999, 999, 999] [0, 0, 0, 0, 0, 0, 0, 0] [999] [fun v _ _ => v = u0, fun v _ _ => v = (.int .i64 y3), fun v o w9 => ∃ vl, v = adr vl (y3.toNat * Rp.sz T_End) ∧ RdL zt w vl p0, fun v _ _ => v = (.agg #[(.int .i64 x17.Node), (.int .i64 x17.Port)]), fun v _ _ => v = u1, fun v _ _ => v = (.int .i64 y3), fun v o w9 => ∃ vl, v = adr vl (y3.toNat * Rp.sz T_End) ∧ RdL zt w vl p1, fun v _ _ => v = (.agg #[(.int .i64 x20.Node), (.int .i64 x20.Port)])] (fun o8 w8 => Bs (fun _ => 1) o8 w w8) follows_mixed (by kernel_rfl) rfl ⟨rfl, rfl, rfl, trivial⟩ hB ?_ ⟨st_eq _, st_eq _, fun _ _ _ _ _ _ h0 hb ⟨vl, e, h⟩ hs => ⟨vl, e, h⟩, st_eq _, st_eq _, st_eq _, fun _ _ _ _ _ _ h0 hb ⟨vl, e, h⟩ hs => ⟨vl, e, h⟩, st_eq _, trivial⟩ ?_ ?_
        · rintro t9 o1 w1 o2 w2 ht9 hB hs9
          have ht9 : t9 = 999 := by simpa using ht9
          subst ht9
          all_goals exact hB.stp hs9 (by decide)
        · refine ⟨?_, ?_, ?_, ?_, ?_, ?_, ?_, ?_, trivial⟩
          · rintro o23 w24 a25 ha hB -
            refine opS_of ha (trivial) ?_
            refine op1_val (ex_move rfl) ?_
            exact ⟨_, Stp.refl _ _ _, rfl⟩
          · rintro o26 w27 a28 ha hB -
            refine opS_of ha (trivial) ?_
            refine op1_val (ex_move rfl) ?_
            exact ⟨_, Stp.refl _ _ _, rfl⟩
          · rintro o29 w30 a31 ha hB ⟨r32, r33, -⟩
            have ha := Fr.cons (d := 17) ha r32
            have ha := Fr.cons (d := 18) ha r33
            refine opS_of ha (trivial) ?_
            refine wd_indexR g0 hx17 rfl rfl Try.underlying110 Try.sizeOf115 ?_
            exact ⟨_, Stp.refl _ _ _, ⟨_, rfl, g0⟩⟩
          · rintro o34 w35 a36 ha hB ⟨r37, -⟩
            obtain ⟨v38, e39, h40⟩ := r37
            have ha := Fr.cons (d := 19) ha e39
            refine opS_of ha (trivial) ?_
            refine wd_loadAZ h40 hx17 hB rfl Try.isAgg115 Try.sizeOf115 ?_
            intro c41 h42
            cases h42
            exact ⟨_, Stp.refl _ _ _, rfl⟩
          · rintro o43 w44 a45 ha hB -
            refine opS_of ha (trivial) ?_
            refine op1_val (ex_move rfl) ?_
            exact ⟨_, Stp.refl _ _ _, rfl⟩
          · rintro o46 w47 a48 ha hB -
            refine opS_of ha (trivial) ?_
            refine op1_val (ex_move rfl) ?_
            exact ⟨_, Stp.refl _ _ _, rfl⟩
          · rintro o49 w50 a51 ha hB ⟨r52, r53, -⟩
            have ha := Fr.cons (d := 21) ha r52
            have ha := Fr.cons (d := 22) ha r53
            refine opS_of ha (trivial) ?_
            refine wd_indexR g1 hx20 rfl rfl Try.underlying110 Try.sizeOf115 ?_
            exact ⟨_, Stp.refl _ _ _, ⟨_, rfl, g1⟩⟩
          · rintro o54 w55 a56 ha hB ⟨r57, -⟩
            obtain ⟨v58, e59, h60⟩ := r57
            have ha := Fr.cons (d := 23) ha e59
            refine opS_of ha (trivial) ?_
            refine wd_loadAZ h60 hx20 hB rfl Try.isAgg115 Try.sizeOf115 ?_
            intro c61 h62
            cases h62
            exact ⟨_, Stp.refl _ _ _, rfl⟩
        rintro o63 w64 a65 ha hB ⟨-, -, -, r66, -, -, -, r67, -⟩
        have ha := Fr.cons (d := 20) ha r66
        have ha := Fr.cons (d := 24) ha r67
        refine wl_of ha ?_
        simp only [List.length_cons, List.length_nil, Nat.zero_add, Nat.reduceAdd, List.drop_succ_cons, List.drop_zero]
        obtain ⟨x68, hx68, b12⟩ := bind_some b12
        refine st_op (by decide) trivial ?_
        refine wf_call (cL_eqEnd w64 _ x17 (rfl) _ x20 (rfl) x68 hx68) Try.call128 ⟨rfl, rfl, trivial⟩ ?_
        rintro e73 w69 ⟨rfl, k70⟩
        have s72 := k70.stp 999 o63
        refine ⟨_, rfl, ?_⟩
        replace hB := hB.stp s72 (by decide)
        refine st_val (ex_not rfl) (by decide) trivial ?_
        refine wpF_end (r := [(0, u0), (1, u1), (5, (.int .i64 y3)), (26, (.bool (!x68)))]) ⟨rfl, rfl, rfl, rfl, trivial⟩ ?_
        refine nx ?_
        refine wpC_cond rfl (fun t74 => ?_) (fun t74 => ?_)
        · rw [if_pos t74] at b12
          refine wpC_seq ?_
          refine wpC_region ?_
          refine st_val (ex_assign rfl) (by decide) trivial ?_
          refine wpF_end (r := [(4, (.bool false))]) ⟨rfl, trivial⟩ ?_
          refine nx ?_
          refine wpC_ret ?_
          refine nb_ret ?_
          refine nt_ret ?_
          refine nt_ret ?_
          refine nb_ret ?_
          refine np_ret ?_
          have e75 := Option.some.inj b12
          subst e75
          refine fun a ha => ⟨_, n13, ?_⟩
          refine ret_post (P := Try.prog) (vs := [(.bool false)]) Try.results92 ⟨rfl, trivial⟩ ?_ a ha
          exact ⟨rfl, hB.keeps⟩
        · rw [if_neg (by rw [t74]; decide)] at b12
          refine wpC_skip ?_
          refine nb_norm ?_
          refine nx ?_
          refine wpC_region ?_
          refine st_val (ex_move rfl) (by decide) trivial ?_
          obtain ⟨x76, hx76, b12⟩ := bind_some b12
          refine st_val (ex_add rfl rfl hx76) (by decide) trivial ?_
          refine st_val (ex_assign rfl) (by decide) trivial ?_
          refine wpF_end (r := [(0, u0), (1, u1), (5, (.int .i64 x76))]) ⟨rfl, rfl, rfl, trivial⟩ ?_
          refine nt_norm ?_
          have e77 := Option.some.inj b12
          subst e77
          refine to_k (r := [(0, u0), (1, u1), (5, (.int .i64 x76))]) ⟨rfl, rfl, rfl, trivial⟩ ?_
          intro a ha
          exact ⟨K14, by omega, x76, o63, n13, ha, hB⟩
      · rw [if_neg (by rw [t16]; decide)] at b12
        refine wpC_exit ?_
        refine nt_exit ?_
        refine nt_exit ?_
        refine nb_hit ?_
        refine np_norm ?_
        have e78 := Option.some.inj b12
        subst e78
        refine to_k (r := []) trivial ?_
        intro a ha
        exact ⟨y3, o4, n13, ha, hB⟩
    · rintro a w5 ⟨y3, o4, rfl, ha, hB⟩
      dsimp only at hF
      refine ap_k ha ?_
      refine nx ?_
      refine wpC_seq ?_
      refine wpC_region ?_
      refine st_val (ex_assign rfl) (by decide) trivial ?_
      refine wpF_end (r := [(4, (.bool true))]) ⟨rfl, trivial⟩ ?_
      refine nx ?_
      refine wpC_ret ?_
      have e79 := Option.some.inj hF
      subst e79
      refine ret_post (P := Try.prog) (vs := [(.bool true)]) Try.results92 ⟨rfl, trivial⟩ ?_
      exact ⟨rfl, hB.keeps⟩
    · rintro a w5 ⟨r', rfl, b80⟩
      dsimp only at hF
      have e81 := Option.some.inj hF
      subst e81
      exact b80

def fL_eqEndSS_s1 (fuel : Nat) (p0 : List (List T_End)) (p1 : List (List T_End)) : Int → Option (Lp Int Int Bool) := fun (s : Int) =>
  if decide (s < (p0.length : Int)) then
    (ix p0 s) >>= fun x17 =>
    (ix p1 s) >>= fun x23 =>
    (fL_eqEndS fuel x17 x23) >>= fun x84 =>
    if !x84 then
      some (.ret false)
    else
      (ck (s + 1)) >>= fun x92 =>
      some (.go x92)
  else
    some (.out s)
def fL_eqEndSS (fuel : Nat) (p0 : List (List T_End)) (p1 : List (List T_End)) : Option Bool :=
  if (p0.length : Int) != (p1.length : Int) then
    some false
  else
    (loopF (fL_eqEndSS_s1 fuel p0 p1) fuel 0) >>= fun q6 =>
    match q6 with
    | .inl y3 =>
      some true
    | .inr r' => some r'

def pL_eqEndSS (w : World) (r : Bool) : Ending → World → Prop := fun e w' => e = .returned (.bool r) ∧ Keeps w w'
set_option maxRecDepth 100000 in
set_option maxHeartbeats 2000000 in
theorem cL_eqEndSS (fuel : Nat) (w : World) (u0 : Value) (p0 : List (List T_End)) (g0 : RdL zt w u0 p0) (u1 : Value) (p1 : List (List T_End)) (g1 : RdL zt w u1 p1) (r : Bool) (hF : fL_eqEndSS fuel p0 p1 = some r) :
    Calls Try.prog 62 #[u0, u1] w (pL_eqEndSS w r) := by
  unfold fL_eqEndSS at hF
  have hB : Bs (fun _ => 1) (col (fun _ => 1)) w w := Bs.start _ _
  refine calls_start (n := 27) (vs := [u0, u1]) Try.func62 rfl rfl ?_
  refine wpC_seq ?_
  refine wpC_region ?_
  refine st_val (ex_assign rfl) (by decide) trivial ?_
  refine wpF_end (r := [(0, u0), (1, u1)]) ⟨rfl, rfl, trivial⟩ ?_
  refine nx ?_
  refine wpC_seq ?_
  refine wpC_seq ?_
  refine wpC_region ?_
  refine st_val (ex_move rfl) (by decide) trivial ?_
  refine st_val (ex_lenR rfl g0 Try.underlying29) (by decide) trivial ?_
  refine st_val (ex_move rfl) (by decide) trivial ?_
  refine st_val (ex_lenR rfl g1 Try.underlying29) (by decide) trivial ?_
  refine st_val (ex_neq rfl rfl) (by decide) trivial ?_
  refine wpF_end (r := [(0, u0), (1, u1), (10, (.bool ((p0.length : Int) != (p1.length : Int))))]) ⟨rfl, rfl, rfl, trivial⟩ ?_
  refine nx ?_
  refine wpC_cond rfl (fun t1 => ?_) (fun t1 => ?_)
  · rw [if_pos t1] at hF
    refine wpC_seq ?_
    refine wpC_region ?_
    refine st_val (ex_assign rfl) (by decide) trivial ?_
    refine wpF_end (r := [(4, (.bool false))]) ⟨rfl, trivial⟩ ?_
    refine nx ?_
    refine wpC_ret ?_
    refine nt_ret ?_
    have e2 := Option.some.inj hF
    subst e2
    refine ret_post (P := Try.prog) (vs := [(.bool false)]) Try.results62 ⟨rfl, trivial⟩ ?_
    exact ⟨rfl, hB.keeps⟩
  · rw [if_neg (by rw [t1]; decide)] at hF
    refine wpC_skip ?_
    refine nx ?_
    refine wpC_seq ?_
    refine wpC_seq ?_
    refine wpC_region ?_
    refine st_val (ex_assign rfl) (by decide) trivial ?_
    refine wpF_end (r := [(0, u0), (1, u1), (5, (.int .i64 0))]) ⟨rfl, rfl, rfl, trivial⟩ ?_
    refine nx ?_
    obtain ⟨q6, hq6, hF⟩ := bind_some hF
    refine wpC_cutN (fun a w5 => ∃ (y3 : Int) (o4 : Tg), q6 = .inl y3 ∧ Fr a 27 [] ∧ Bs (fun _ => 1) o4 w w5) (fun a w' => ∃ r', q6 = .inr r' ∧ bodyPost Try.prog Try.f62 (pL_eqEndSS w r') .ret a w') ?_ ?_ ?_
    · refine wpC_block ?_
      refine wpC_loop (fun (K : Nat) a w5 => ∃ (y3 : Int) (o4 : Tg), loopF (fL_eqEndSS_s1 fuel p0 p1) K y3 = some q6 ∧ Fr a 27 [(0, u0), (1, u1), (5, (.int .i64 y3))] ∧ Bs (fun _ => 1) o4 w w5) fuel (fun a ha => ⟨0, (col (fun _ => 1)), hq6, ha.sub (r := [(0, u0), (1, u1), (5, (.int .i64 0))]) ⟨rfl, rfl, rfl, trivial⟩, hB⟩) ?_
      rintro K10 a w5 ⟨y3, o4, l7, ha, hB⟩
      obtain ⟨K14, q11, e15, b12, n13⟩ := loopF_cons l7
      dsimp only [fL_eqEndSS_s1] at b12
      refine wp_of ha ?_
      refine wpC_seq ?_
      refine wpC_seq ?_
      refine wpC_region ?_
      refine st_val (ex_move rfl) (by decide) trivial ?_
      refine st_val (ex_move rfl) (by decide) trivial ?_
      refine st_val (ex_lenR rfl g0 Try.underlying29) (by decide) trivial ?_
      refine st_val (ex_lss rfl rfl) (by decide) trivial ?_
      refine wpF_end (r := [(0, u0), (1, u1), (5, (.int .i64 y3)), (14, (.bool (decide (y3 < (p0.length : Int)))))]) ⟨rfl, rfl, rfl, rfl, trivial⟩ ?_
      refine nx ?_
      refine wpC_cond rfl (fun t16 => ?_) (fun t16 => ?_)
      · rw [if_pos t16] at b12
        refine wpC_skip ?_
        refine nx ?_
        refine wpC_seq ?_
        refine wpC_block ?_
        refine wpC_seq ?_
        obtain ⟨x17, hx17, b12⟩ := bind_some b12
        obtain ⟨x23, hx23, b12⟩ := bind_some b12
        refine wpC_drawn (o := o4) [(0, u0), (1, u1), (5, (.int .i64 y3))] [0, 1, 5] [17, 18, 19, 20, 21, 22, 23, 24] [[], [], [0, 1], [2], [], [], [4, 5], [6]] [none, none, none, none, none, none, none, none] [999, 999, 999, 999, 999, 999, 999, 999] [0, 0, 0, 0, 0, 0, 0, 0] [999] [fun v _ _ => v = u0, fun v _ _ => v = (.int .i64 y3), fun v o w9 => ∃ vl, v = adr vl (y3.toNat * Rp.sz (List T_End)) ∧ RdL zt w vl p0, fun v o w9 => RdL zt w v x17, fun v _ _ => v = u1, fun v _ _ => v = (.int .i64 y3), fun v o w9 => ∃ vl, v = adr vl (y3.toNat * Rp.sz (List T_End)) ∧ RdL zt w vl p1, fun v o w9 => RdL zt w v x23] (fun o8 w8 => Bs (fun _ => 1) o8 w w8) follows_mixed (by kernel_rfl) rfl ⟨rfl, rfl, rfl, trivial⟩ hB ?_ ⟨st_eq _, st_eq _, fun _ _ _ _ _ _ h0 hb ⟨vl, e, h⟩ hs => ⟨vl, e, h⟩, fun _ _ _ _ _ _ h0 hb h hs => h, st_eq _, st_eq _, fun _ _ _ _ _ _ h0 hb ⟨vl, e, h⟩ hs => ⟨vl, e, h⟩, fun _ _ _ _ _ _ h0 hb h hs => h, trivial⟩ ?_ ?_
        · rintro t9 o1 w1 o2 w2 ht9 hB hs9
          have ht9 : t9 = 999 := by simpa using ht9
          subst ht9
          all_goals exact hB.stp hs9 (by decide)
        · refine ⟨?_, ?_, ?_, ?_, ?_, ?_, ?_, ?_, trivial⟩
          · rintro o29 w30 a31 ha hB -
            refine opS_of ha (trivial) ?_
            refine op1_val (ex_move rfl) ?_
            exact ⟨_, Stp.refl _ _ _, rfl⟩
          · rintro o32 w33 a34 ha hB -
            refine opS_of ha (trivial) ?_
            refine op1_val (ex_move rfl) ?_
            exact ⟨_, Stp.refl _ _ _, rfl⟩
          · rintro o35 w36 a37 ha hB ⟨r38, r39, -⟩
            have ha := Fr.cons (d := 17) ha r38
            have ha := Fr.cons (d := 18) ha r39
            refine opS_of ha (trivial) ?_
            refine wd_indexR g0 hx17 rfl rfl Try.underlying29 Try.sizeOf110 ?_
            exact ⟨_, Stp.refl _ _ _, ⟨_, rfl, g0⟩⟩
          · rintro o40 w41 a42 ha hB ⟨r43, -⟩
            obtain ⟨v44, e45, h46⟩ := r43
            have ha := Fr.cons (d := 19) ha e45
            refine opS_of ha (trivial) ?_
            refine wd_load1Z h46 hx17 hB rfl rfl Try.isAgg110 ?_
            intro c47 h48
            obtain ⟨v49, e51, h50⟩ := h48
            cases e51
            exact ⟨_, Stp.refl _ _ _, h50⟩
          · rintro o52 w53 a54 ha hB -
            refine opS_of ha (trivial) ?_
            refine op1_val (ex_move rfl) ?_
            exact ⟨_, Stp.refl _ _ _, rfl⟩
          · rintro o55 w56 a57 ha hB -
            refine opS_of ha (trivial) ?_
            refine op1_val (ex_move rfl) ?_
            exact ⟨_, Stp.refl _ _ _, rfl⟩
          · rintro o58 w59 a60 ha hB ⟨r61, r62, -⟩
            have ha := Fr.cons (d := 21) ha r61
            have ha := Fr.cons (d := 22) ha r62
            refine opS_of ha (trivial) ?_
            refine wd_indexR g1 hx23 rfl rfl Try.underlying29 Try.sizeOf110 ?_
            exact ⟨_, Stp.refl _ _ _, ⟨_, rfl, g1⟩⟩
          · rintro o63 w64 a65 ha hB ⟨r66, -⟩
            obtain ⟨v67, e68, h69⟩ := r66
            have ha := Fr.cons (d := 23) ha e68
            refine opS_of ha (trivial) ?_
            refine wd_load1Z h69 hx23 hB rfl rfl Try.isAgg110 ?_
            intro c70 h71
            obtain ⟨v72, e74, h73⟩ := h71
            cases e74
            exact ⟨_, Stp.refl _ _ _, h73⟩
        rintro o75 w76 a77 ha hB ⟨-, -, -, r78, -, -, -, r79, -⟩
        replace r78 : RdL zt w (a77.tmps.getD 20 undef) x17 := r78
        generalize e81 : a77.tmps.getD 20 undef = v80 at r78
        have ha := Fr.cons (d := 20) ha e81
        replace r79 : RdL zt w (a77.tmps.getD 24 undef) x23 := r79
        generalize e83 : a77.tmps.getD 24 undef = v82 at r79
        have ha := Fr.cons (d := 24) ha e83
        refine wl_of ha ?_
        simp only [List.length_cons, List.length_nil, Nat.zero_add, Nat.reduceAdd, List.drop_succ_cons, List.drop_zero]
        obtain ⟨x84, hx84, b12⟩ := bind_some b12
        refine st_op (by decide) trivial ?_
        refine wf_call (cL_eqEndS fuel w76 _ x17 (r78.keep hB.keeps) _ x23 (r79.keep hB.keeps) x84 hx84) Try.call92 ⟨rfl, rfl, trivial⟩ ?_
        rintro e89 w85 ⟨rfl, k86⟩
        have s88 := k86.stp 999 o75
        refine ⟨_, rfl, ?_⟩
        replace hB := hB.stp s88 (by decide)
        refine st_val (ex_not rfl) (by decide) trivial ?_
        refine wpF_end (r := [(0, u0), (1, u1), (5, (.int .i64 y3)), (26, (.bool (!x84)))]) ⟨rfl, rfl, rfl, rfl, trivial⟩ ?_
        refine nx ?_
        refine wpC_cond rfl (fun t90 => ?_) (fun t90 => ?_)
        · rw [if_pos t90] at b12
          refine wpC_seq ?_
          refine wpC_region ?_
          refine st_val (ex_assign rfl) (by decide) trivial ?_
          refine wpF_end (r := [(4, (.bool false))]) ⟨rfl, trivial⟩ ?_
          refine nx ?_
          refine wpC_ret ?_
          refine nb_ret ?_
          refine nt_ret ?_
          refine nt_ret ?_
          refine nb_ret ?_
          refine np_ret ?_
          have e91 := Option.some.inj b12
          subst e91
          refine fun a ha => ⟨_, n13, ?_⟩
          refine ret_post (P := Try.prog) (vs := [(.bool false)]) Try.results62 ⟨rfl, trivial⟩ ?_ a ha
          exact ⟨rfl, hB.keeps⟩
        · rw [if_neg (by rw [t90]; decide)] at b12
          refine wpC_skip ?_
          refine nb_norm ?_
          refine nx ?_
          refine wpC_region ?_
          refine st_val (ex_move rfl) (by decide) trivial ?_
          obtain ⟨x92, hx92, b12⟩ := bind_some b12
          refine st_val (ex_add rfl rfl hx92) (by decide) trivial ?_
          refine st_val (ex_assign rfl) (by decide) trivial ?_
          refine wpF_end (r := [(0, u0), (1, u1), (5, (.int .i64 x92))]) ⟨rfl, rfl, rfl, trivial⟩ ?_
          refine nt_norm ?_
          have e93 := Option.some.inj b12
          subst e93
          refine to_k (r := [(0, u0), (1, u1), (5, (.int .i64 x92))]) ⟨rfl, rfl, rfl, trivial⟩ ?_
          intro a ha
          exact ⟨K14, by omega, x92, o75, n13, ha, hB⟩
      · rw [if_neg (by rw [t16]; decide)] at b12
        refine wpC_exit ?_
        refine nt_exit ?_
        refine nt_exit ?_
        refine nb_hit ?_
        refine np_norm ?_
        have e94 := Option.some.inj b12
        subst e94
        refine to_k (r := []) trivial ?_
        intro a ha
        exact ⟨y3, o4, n13, ha, hB⟩
    · rintro a w5 ⟨y3, o4, rfl, ha, hB⟩
      dsimp only at hF
      refine ap_k ha ?_
      refine nx ?_
      refine wpC_seq ?_
      refine wpC_region ?_
      refine st_val (ex_assign rfl) (by decide) trivial ?_
      refine wpF_end (r := [(4, (.bool true))]) ⟨rfl, trivial⟩ ?_
      refine nx ?_
      refine wpC_ret ?_
      have e95 := Option.some.inj hF
      subst e95
      refine ret_post (P := Try.prog) (vs := [(.bool true)]) Try.results62 ⟨rfl, trivial⟩ ?_
      exact ⟨rfl, hB.keeps⟩
    · rintro a w5 ⟨r', rfl, b96⟩
      dsimp only at hF
      have e97 := Option.some.inj hF
      subst e97
      exact b96

def fL_eqIntS_s1 (p0 : List Int) (p1 : List Int) : Int → Option (Lp Int Int Bool) := fun (s : Int) =>
  if decide (s < (p0.length : Int)) then
    (ix p0 s) >>= fun x17 =>
    (ix p1 s) >>= fun x20 =>
    if x17 != x20 then
      some (.ret false)
    else
      (ck (s + 1)) >>= fun x70 =>
      some (.go x70)
  else
    some (.out s)
def fL_eqIntS (fuel : Nat) (p0 : List Int) (p1 : List Int) : Option Bool :=
  if (p0.length : Int) != (p1.length : Int) then
    some false
  else
    (loopF (fL_eqIntS_s1 p0 p1) fuel 0) >>= fun q6 =>
    match q6 with
    | .inl y3 =>
      some true
    | .inr r' => some r'

def pL_eqIntS (w : World) (r : Bool) : Ending → World → Prop := fun e w' => e = .returned (.bool r) ∧ Keeps w w'
set_option maxRecDepth 100000 in
set_option maxHeartbeats 2000000 in
theorem cL_eqIntS (fuel : Nat) (w : World) (u0 : Value) (p0 : List Int) (g0 : RdL zt w u0 p0) (u1 : Value) (p1 : List Int) (g1 : RdL zt w u1 p1) (r : Bool) (hF : fL_eqIntS fuel p0 p1 = some r) :
    Calls Try.prog 20 #[u0, u1] w (pL_eqIntS w r) := by
  unfold fL_eqIntS at hF
  have hB : Bs (fun _ => 1) (col (fun _ => 1)) w w := Bs.start _ _
  refine calls_start (n := 26) (vs := [u0, u1]) Try.func20 rfl rfl ?_
  refine wpC_seq ?_
  refine wpC_region ?_
  refine st_val (ex_assign rfl) (by decide) trivial ?_
  refine wpF_end (r := [(0, u0), (1, u1)]) ⟨rfl, rfl, trivial⟩ ?_
  refine nx ?_
  refine wpC_seq ?_
  refine wpC_seq ?_
  refine wpC_region ?_
  refine st_val (ex_move rfl) (by decide) trivial ?_
  refine st_val (ex_lenR rfl g0 Try.underlying23) (by decide) trivial ?_
  refine st_val (ex_move rfl) (by decide) trivial ?_
  refine st_val (ex_lenR rfl g1 Try.underlying23) (by decide) trivial ?_
  refine st_val (ex_neq rfl rfl) (by decide) trivial ?_
  refine wpF_end (r := [(0, u0), (1, u1), (10, (.bool ((p0.length : Int) != (p1.length : Int))))]) ⟨rfl, rfl, rfl, trivial⟩ ?_
  refine nx ?_
  refine wpC_cond rfl (fun t1 => ?_) (fun t1 => ?_)
  · rw [if_pos t1] at hF
    refine wpC_seq ?_
    refine wpC_region ?_
    refine st_val (ex_assign rfl) (by decide) trivial ?_
    refine wpF_end (r := [(4, (.bool false))]) ⟨rfl, trivial⟩ ?_
    refine nx ?_
    refine wpC_ret ?_
    refine nt_ret ?_
    have e2 := Option.some.inj hF
    subst e2
    refine ret_post (P := Try.prog) (vs := [(.bool false)]) Try.results20 ⟨rfl, trivial⟩ ?_
    exact ⟨rfl, hB.keeps⟩
  · rw [if_neg (by rw [t1]; decide)] at hF
    refine wpC_skip ?_
    refine nx ?_
    refine wpC_seq ?_
    refine wpC_seq ?_
    refine wpC_region ?_
    refine st_val (ex_assign rfl) (by decide) trivial ?_
    refine wpF_end (r := [(0, u0), (1, u1), (5, (.int .i64 0))]) ⟨rfl, rfl, rfl, trivial⟩ ?_
    refine nx ?_
    obtain ⟨q6, hq6, hF⟩ := bind_some hF
    refine wpC_cutN (fun a w5 => ∃ (y3 : Int) (o4 : Tg), q6 = .inl y3 ∧ Fr a 26 [] ∧ Bs (fun _ => 1) o4 w w5) (fun a w' => ∃ r', q6 = .inr r' ∧ bodyPost Try.prog Try.f20 (pL_eqIntS w r') .ret a w') ?_ ?_ ?_
    · refine wpC_block ?_
      refine wpC_loop (fun (K : Nat) a w5 => ∃ (y3 : Int) (o4 : Tg), loopF (fL_eqIntS_s1 p0 p1) K y3 = some q6 ∧ Fr a 26 [(0, u0), (1, u1), (5, (.int .i64 y3))] ∧ Bs (fun _ => 1) o4 w w5) fuel (fun a ha => ⟨0, (col (fun _ => 1)), hq6, ha.sub (r := [(0, u0), (1, u1), (5, (.int .i64 0))]) ⟨rfl, rfl, rfl, trivial⟩, hB⟩) ?_
      rintro K10 a w5 ⟨y3, o4, l7, ha, hB⟩
      obtain ⟨K14, q11, e15, b12, n13⟩ := loopF_cons l7
      dsimp only [fL_eqIntS_s1] at b12
      refine wp_of ha ?_
      refine wpC_seq ?_
      refine wpC_seq ?_
      refine wpC_region ?_
      refine st_val (ex_move rfl) (by decide) trivial ?_
      refine st_val (ex_move rfl) (by decide) trivial ?_
      refine st_val (ex_lenR rfl g0 Try.underlying23) (by decide) trivial ?_
      refine st_val (ex_lss rfl rfl) (by decide) trivial ?_
      refine wpF_end (r := [(0, u0), (1, u1), (5, (.int .i64 y3)), (14, (.bool (decide (y3 < (p0.length : Int)))))]) ⟨rfl, rfl, rfl, rfl, trivial⟩ ?_
      refine nx ?_
      refine wpC_cond rfl (fun t16 => ?_) (fun t16 => ?_)
      · rw [if_pos t16] at b12
        refine wpC_skip ?_
        refine nx ?_
        refine wpC_seq ?_
        refine wpC_block ?_
        refine wpC_seq ?_
        obtain ⟨x17, hx17, b12⟩ := bind_some b12
        obtain ⟨x20, hx20, b12⟩ := bind_some b12
        refine wpC_drawn (o := o4) [(0, u0), (1, u1), (5, (.int .i64 y3))] [0, 1, 5] [17, 18, 19, 20, 21, 22, 23, 24] [[], [], [0, 1], [2], [], [], [4, 5], [6]] [none, none, none, none, none, none, none, none] [999, 999, 999, 999, 999, 999, 999, 999] [0, 0, 0, 0, 0, 0, 0, 0] [999] [fun v _ _ => v = u0, fun v _ _ => v = (.int .i64 y3), fun v o w9 => ∃ vl, v = adr vl (y3.toNat * Rp.sz Int) ∧ RdL zt w vl p0, fun v _ _ => v = (.int .i64 x17), fun v _ _ => v = u1, fun v _ _ => v = (.int .i64 y3), fun v o w9 => ∃ vl, v = adr vl (y3.toNat * Rp.sz Int) ∧ RdL zt w vl p1, fun v _ _ => v = (.int .i64 x20)] (fun o8 w8 => Bs (fun _ => 1) o8 w w8) follows_mixed (by kernel_rfl) rfl ⟨rfl, rfl, rfl, trivial⟩ hB ?_ ⟨st_eq _, st_eq _, fun _ _ _ _ _ _ h0 hb ⟨vl, e, h⟩ hs => ⟨vl, e, h⟩, st_eq _, st_eq _, st_eq _, fun _ _ _ _ _ _ h0 hb ⟨vl, e, h⟩ hs => ⟨vl, e, h⟩, st_eq _, trivial⟩ ?_ ?_
        · rintro t9 o1 w1 o2 w2 ht9 hB hs9
          have ht9 : t9 = 999 := by simpa using ht9
          subst ht9
          all_goals exact hB.stp hs9 (by decide)
        · refine ⟨?_, ?_, ?_, ?_, ?_, ?_, ?_, ?_, trivial⟩
          · rintro o23 w24 a25 ha hB -
            refine opS_of ha (trivial) ?_
            refine op1_val (ex_move rfl) ?_
            exact ⟨_, Stp.refl _ _ _, rfl⟩
          · rintro o26 w27 a28 ha hB -
            refine opS_of ha (trivial) ?_
            refine op1_val (ex_move rfl) ?_
            exact ⟨_, Stp.refl _ _ _, rfl⟩
          · rintro o29 w30 a31 ha hB ⟨r32, r33, -⟩
            have ha := Fr.cons (d := 17) ha r32
            have ha := Fr.cons (d := 18) ha r33
            refine opS_of ha (trivial) ?_
            refine wd_indexR g0 hx17 rfl rfl Try.underlying23 Try.sizeOf3 ?_
            exact ⟨_, Stp.refl _ _ _, ⟨_, rfl, g0⟩⟩
          · rintro o34 w35 a36 ha hB ⟨r37, -⟩
            obtain ⟨v38, e39, h40⟩ := r37
            have ha := Fr.cons (d := 19) ha e39
            refine opS_of ha (trivial) ?_
            refine wd_load1Z h40 hx17 hB rfl rfl Try.isAgg3 ?_
            intro c41 h42
            cases h42
            exact ⟨_, Stp.refl _ _ _, rfl⟩
          · rintro o43 w44 a45 ha hB -
            refine opS_of ha (trivial) ?_
            refine op1_val (ex_move rfl) ?_
            exact ⟨_, Stp.refl _ _ _, rfl⟩
          · rintro o46 w47 a48 ha hB -
            refine opS_of ha (trivial) ?_
            refine op1_val (ex_move rfl) ?_
            exact ⟨_, Stp.refl _ _ _, rfl⟩
          · rintro o49 w50 a51 ha hB ⟨r52, r53, -⟩
            have ha := Fr.cons (d := 21) ha r52
            have ha := Fr.cons (d := 22) ha r53
            refine opS_of ha (trivial) ?_
            refine wd_indexR g1 hx20 rfl rfl Try.underlying23 Try.sizeOf3 ?_
            exact ⟨_, Stp.refl _ _ _, ⟨_, rfl, g1⟩⟩
          · rintro o54 w55 a56 ha hB ⟨r57, -⟩
            obtain ⟨v58, e59, h60⟩ := r57
            have ha := Fr.cons (d := 23) ha e59
            refine opS_of ha (trivial) ?_
            refine wd_load1Z h60 hx20 hB rfl rfl Try.isAgg3 ?_
            intro c61 h62
            cases h62
            exact ⟨_, Stp.refl _ _ _, rfl⟩
        rintro o63 w64 a65 ha hB ⟨-, -, -, r66, -, -, -, r67, -⟩
        have ha := Fr.cons (d := 20) ha r66
        have ha := Fr.cons (d := 24) ha r67
        refine wl_of ha ?_
        simp only [List.length_cons, List.length_nil, Nat.zero_add, Nat.reduceAdd, List.drop_succ_cons, List.drop_zero]
        refine st_val (ex_neq rfl rfl) (by decide) trivial ?_
        refine wpF_end (r := [(0, u0), (1, u1), (5, (.int .i64 y3)), (25, (.bool (x17 != x20)))]) ⟨rfl, rfl, rfl, rfl, trivial⟩ ?_
        refine nx ?_
        refine wpC_cond rfl (fun t68 => ?_) (fun t68 => ?_)
        · rw [if_pos t68] at b12
          refine wpC_seq ?_
          refine wpC_region ?_
          refine st_val (ex_assign rfl) (by decide) trivial ?_
          refine wpF_end (r := [(4, (.bool false))]) ⟨rfl, trivial⟩ ?_
          refine nx ?_
          refine wpC_ret ?_
          refine nb_ret ?_
          refine nt_ret ?_
          refine nt_ret ?_
          refine nb_ret ?_
          refine np_ret ?_
          have e69 := Option.some.inj b12
          subst e69
          refine fun a ha => ⟨_, n13, ?_⟩
          refine ret_post (P := Try.prog) (vs := [(.bool false)]) Try.results20 ⟨rfl, trivial⟩ ?_ a ha
          exact ⟨rfl, hB.keeps⟩
        · rw [if_neg (by rw [t68]; decide)] at b12
          refine wpC_skip ?_
          refine nb_norm ?_
          refine nx ?_
          refine wpC_region ?_
          refine st_val (ex_move rfl) (by decide) trivial ?_
          obtain ⟨x70, hx70, b12⟩ := bind_some b12
          refine st_val (ex_add rfl rfl hx70) (by decide) trivial ?_
          refine st_val (ex_assign rfl) (by decide) trivial ?_
          refine wpF_end (r := [(0, u0), (1, u1), (5, (.int .i64 x70))]) ⟨rfl, rfl, rfl, trivial⟩ ?_
          refine nt_norm ?_
          have e71 := Option.some.inj b12
          subst e71
          refine to_k (r := [(0, u0), (1, u1), (5, (.int .i64 x70))]) ⟨rfl, rfl, rfl, trivial⟩ ?_
          intro a ha
          exact ⟨K14, by omega, x70, o63, n13, ha, hB⟩
      · rw [if_neg (by rw [t16]; decide)] at b12
        refine wpC_exit ?_
        refine nt_exit ?_
        refine nt_exit ?_
        refine nb_hit ?_
        refine np_norm ?_
        have e72 := Option.some.inj b12
        subst e72
        refine to_k (r := []) trivial ?_
        intro a ha
        exact ⟨y3, o4, n13, ha, hB⟩
    · rintro a w5 ⟨y3, o4, rfl, ha, hB⟩
      dsimp only at hF
      refine ap_k ha ?_
      refine nx ?_
      refine wpC_seq ?_
      refine wpC_region ?_
      refine st_val (ex_assign rfl) (by decide) trivial ?_
      refine wpF_end (r := [(4, (.bool true))]) ⟨rfl, trivial⟩ ?_
      refine nx ?_
      refine wpC_ret ?_
      have e73 := Option.some.inj hF
      subst e73
      refine ret_post (P := Try.prog) (vs := [(.bool true)]) Try.results20 ⟨rfl, trivial⟩ ?_
      exact ⟨rfl, hB.keeps⟩
    · rintro a w5 ⟨r', rfl, b74⟩
      dsimp only at hF
      have e75 := Option.some.inj hF
      subst e75
      exact b74

def fL_eqNetwork (fuel : Nat) (p0 : T_Network) (p1 : T_Network) : Option Bool :=
  (fL_eqEndSS fuel p0.Ends p1.Ends) >>= fun x23 =>
  if !x23 then
    some false
  else
    (fL_eqIntS fuel p0.Ids p1.Ids) >>= fun x31 =>
    if !x31 then
      some false
    else
      (fL_eqIntS fuel p0.Inputs p1.Inputs) >>= fun x39 =>
      if !x39 then
        some false
      else
        some true

def pL_eqNetwork (w : World) (r : Bool) : Ending → World → Prop := fun e w' => e = .returned (.bool r) ∧ Keeps w w'
set_option maxRecDepth 100000 in
set_option maxHeartbeats 2000000 in
theorem cL_eqNetwork (fuel : Nat) (w : World) (u0 : List Value) (p0 : T_Network) (g0 : Rp.rd zt w u0 p0) (u1 : List Value) (p1 : T_Network) (g1 : Rp.rd zt w u1 p1) (r : Bool) (hF : fL_eqNetwork fuel p0 p1 = some r) :
    Calls Try.prog 17 #[.agg u0.toArray, .agg u1.toArray] w (pL_eqNetwork w r) := by
  unfold fL_eqNetwork at hF
  obtain ⟨v1, v3, v5, rfl, h2, h4, h6⟩ := g0
  obtain ⟨v7, v9, v11, rfl, h8, h10, h12⟩ := g1
  have hB : Bs (fun _ => 1) (col (fun _ => 1)) w w := Bs.start _ _
  refine calls_start (n := 23) (vs := [(.agg #[v1, v3, v5]), (.agg #[v7, v9, v11])]) Try.func17 rfl rfl ?_
  refine wpC_seq ?_
  refine wpC_region ?_
  refine st_op (by decide) trivial ?_
  refine wf_box (o := (col (fun _ => 1))) w.heap.size 11 hB.keeps.size (cs := [v1, v3, v5]) rfl rfl ?_
  intro o13 w14 b15 h16 s17
  replace hB := hB.stp s17 (by decide)
  refine st_op (by decide) trivial ?_
  refine wf_box (o := o13) w.heap.size 12 hB.keeps.size (cs := [v7, v9, v11]) rfl rfl ?_
  intro o18 w19 b20 h21 s22
  replace h16 := h16.stp s22 (by decide)
  replace hB := hB.stp s22 (by decide)
  refine st_val (ex_assign rfl) (by decide) trivial ?_
  refine wpF_end (r := [(2, (.pointer (some ⟨b15, 0, none⟩))), (3, (.pointer (some ⟨b20, 0, none⟩)))]) ⟨rfl, rfl, trivial⟩ ?_
  refine nx ?_
  refine wpC_seq ?_
  refine wpC_seq ?_
  refine wpC_region ?_
  refine st_val (ex_field rfl Try.underlying31 rfl Try.sizeOf29) (by decide) trivial ?_
  refine st_val (ex_load1 rfl Try.isAgg29 (h16.cell rfl)) (by decide) trivial ?_
  refine st_val (ex_field rfl Try.underlying31 rfl Try.sizeOf29) (by decide) trivial ?_
  refine st_val (ex_load1 rfl Try.isAgg29 (h21.cell rfl)) (by decide) trivial ?_
  obtain ⟨x23, hx23, hF⟩ := bind_some hF
  refine st_op (by decide) trivial ?_
  refine wf_call (cL_eqEndSS fuel w19 _ p0.Ends (h2.keep hB.keeps) _ p1.Ends (h8.keep hB.keeps) x23 hx23) Try.call62 ⟨rfl, rfl, trivial⟩ ?_
  rintro e28 w24 ⟨rfl, k25⟩
  have s27 := k25.stp 999 o18
  refine ⟨_, rfl, ?_⟩
  replace h16 := h16.stp s27 (by decide)
  replace h21 := h21.stp s27 (by decide)
  replace hB := hB.stp s27 (by decide)
  refine st_val (ex_not rfl) (by decide) trivial ?_
  refine wpF_end (r := [(2, (.pointer (some ⟨b15, 0, none⟩))), (3, (.pointer (some ⟨b20, 0, none⟩))), (10, (.bool (!x23)))]) ⟨rfl, rfl, rfl, trivial⟩ ?_
  refine nx ?_
  refine wpC_cond rfl (fun t29 => ?_) (fun t29 => ?_)
  · rw [if_pos t29] at hF
    refine wpC_seq ?_
    refine wpC_region ?_
    refine st_val (ex_assign rfl) (by decide) trivial ?_
    refine wpF_end (r := [(4, (.bool false))]) ⟨rfl, trivial⟩ ?_
    refine nx ?_
    refine wpC_ret ?_
    refine nt_ret ?_
    have e30 := Option.some.inj hF
    subst e30
    refine ret_post (P := Try.prog) (vs := [(.bool false)]) Try.results17 ⟨rfl, trivial⟩ ?_
    exact ⟨rfl, hB.keeps⟩
  · rw [if_neg (by rw [t29]; decide)] at hF
    refine wpC_skip ?_
    refine nx ?_
    refine wpC_seq ?_
    refine wpC_seq ?_
    refine wpC_region ?_
    refine st_val (ex_field rfl Try.underlying31 rfl Try.sizeOf23) (by decide) trivial ?_
    refine st_val (ex_load1 rfl Try.isAgg23 (h16.cell rfl)) (by decide) trivial ?_
    refine st_val (ex_field rfl Try.underlying31 rfl Try.sizeOf23) (by decide) trivial ?_
    refine st_val (ex_load1 rfl Try.isAgg23 (h21.cell rfl)) (by decide) trivial ?_
    obtain ⟨x31, hx31, hF⟩ := bind_some hF
    refine st_op (by decide) trivial ?_
    refine wf_call (cL_eqIntS fuel w24 _ p0.Ids (h4.keep hB.keeps) _ p1.Ids (h10.keep hB.keeps) x31 hx31) Try.call20 ⟨rfl, rfl, trivial⟩ ?_
    rintro e36 w32 ⟨rfl, k33⟩
    have s35 := k33.stp 999 o18
    refine ⟨_, rfl, ?_⟩
    replace h16 := h16.stp s35 (by decide)
    replace h21 := h21.stp s35 (by decide)
    replace hB := hB.stp s35 (by decide)
    refine st_val (ex_not rfl) (by decide) trivial ?_
    refine wpF_end (r := [(2, (.pointer (some ⟨b15, 0, none⟩))), (3, (.pointer (some ⟨b20, 0, none⟩))), (16, (.bool (!x31)))]) ⟨rfl, rfl, rfl, trivial⟩ ?_
    refine nx ?_
    refine wpC_cond rfl (fun t37 => ?_) (fun t37 => ?_)
    · rw [if_pos t37] at hF
      refine wpC_seq ?_
      refine wpC_region ?_
      refine st_val (ex_assign rfl) (by decide) trivial ?_
      refine wpF_end (r := [(4, (.bool false))]) ⟨rfl, trivial⟩ ?_
      refine nx ?_
      refine wpC_ret ?_
      refine nt_ret ?_
      have e38 := Option.some.inj hF
      subst e38
      refine ret_post (P := Try.prog) (vs := [(.bool false)]) Try.results17 ⟨rfl, trivial⟩ ?_
      exact ⟨rfl, hB.keeps⟩
    · rw [if_neg (by rw [t37]; decide)] at hF
      refine wpC_skip ?_
      refine nx ?_
      refine wpC_seq ?_
      refine wpC_seq ?_
      refine wpC_region ?_
      refine st_val (ex_field rfl Try.underlying31 rfl Try.sizeOf23) (by decide) trivial ?_
      refine st_val (ex_load1 rfl Try.isAgg23 (h16.cell rfl)) (by decide) trivial ?_
      refine st_val (ex_field rfl Try.underlying31 rfl Try.sizeOf23) (by decide) trivial ?_
      refine st_val (ex_load1 rfl Try.isAgg23 (h21.cell rfl)) (by decide) trivial ?_
      obtain ⟨x39, hx39, hF⟩ := bind_some hF
      refine st_op (by decide) trivial ?_
      refine wf_call (cL_eqIntS fuel w32 _ p0.Inputs (h6.keep hB.keeps) _ p1.Inputs (h12.keep hB.keeps) x39 hx39) Try.call20 ⟨rfl, rfl, trivial⟩ ?_
      rintro e44 w40 ⟨rfl, k41⟩
      have s43 := k41.stp 999 o18
      refine ⟨_, rfl, ?_⟩
      replace h16 := h16.stp s43 (by decide)
      replace h21 := h21.stp s43 (by decide)
      replace hB := hB.stp s43 (by decide)
      refine st_val (ex_not rfl) (by decide) trivial ?_
      refine wpF_end (r := [(22, (.bool (!x39)))]) ⟨rfl, trivial⟩ ?_
      refine nx ?_
      refine wpC_cond rfl (fun t45 => ?_) (fun t45 => ?_)
      · rw [if_pos t45] at hF
        refine wpC_seq ?_
        refine wpC_region ?_
        refine st_val (ex_assign rfl) (by decide) trivial ?_
        refine wpF_end (r := [(4, (.bool false))]) ⟨rfl, trivial⟩ ?_
        refine nx ?_
        refine wpC_ret ?_
        refine nt_ret ?_
        have e46 := Option.some.inj hF
        subst e46
        refine ret_post (P := Try.prog) (vs := [(.bool false)]) Try.results17 ⟨rfl, trivial⟩ ?_
        exact ⟨rfl, hB.keeps⟩
      · rw [if_neg (by rw [t45]; decide)] at hF
        refine wpC_skip ?_
        refine nx ?_
        refine wpC_seq ?_
        refine wpC_region ?_
        refine st_val (ex_assign rfl) (by decide) trivial ?_
        refine wpF_end (r := [(4, (.bool true))]) ⟨rfl, trivial⟩ ?_
        refine nx ?_
        refine wpC_ret ?_
        have e47 := Option.some.inj hF
        subst e47
        refine ret_post (P := Try.prog) (vs := [(.bool true)]) Try.results17 ⟨rfl, trivial⟩ ?_
        exact ⟨rfl, hB.keeps⟩

end Go.Proofs.Ytijaojnaamkinaa
