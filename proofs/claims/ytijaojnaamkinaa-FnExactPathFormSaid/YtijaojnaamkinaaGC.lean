/- spec.roAll, spec.roAbove, spec.roRoots, spec.LastingLabels, impl.onlyIn$1, impl.onlyIn, (impl.RootedProblem).rootsAbove, (impl.RootedProblem).rootsOfDepth, impl.LastingLabels: plain functions, and the walks that show that the program computes them (printed by gen.py). -/
import Derived.Test.YtijaojnaamkinaaGB
import Derived.Test.YtijaojnaamkinaaGA
namespace Go.Proofs.Ytijaojnaamkinaa
open Go.RowKit
set_option linter.unusedSimpArgs false
set_option linter.unusedVariables false

theorem info2_t_int_C : Inf Try.prog 3 (.int .i64 0) 1 8 := by unfold Inf; kernel_rfl

def fS_roAll_s1 (p0 : T_RootedProblem) : ((List Int) × Int) → Option (Lp ((List Int) × Int) ((List Int) × Int) (List Int)) := fun (s : (List Int) × Int) =>
  if decide (s.2 < p0.Labels) then
    (push s.1 s.2) >>= fun x32 =>
    (ck (s.2 + 1)) >>= fun x38 =>
    some (.go (x32, x38))
  else
    some (.out (s.1, s.2))
def fS_roAll (fuel : Nat) (p0 : T_RootedProblem) : Option (List Int) :=
  (loopF (fS_roAll_s1 p0) fuel ([], 0)) >>= fun q15 =>
  match q15 with
  | .inl (y9, y12) =>
    some y9
  | .inr _ => none

def pS_roAll (oo : Tg) (t : Nat) (w : World) (r : List Int) : Ending → World → Prop := fun e w' => ∃ (v0 : Value) (o' : Tg), e = .returned (v0) ∧ Ow w.heap.size 3 t o' w' v0 r ∧ Keeps w w' ∧ ∀ b, b < w.heap.size → o' b = oo b
set_option maxRecDepth 100000 in
set_option maxHeartbeats 2000000 in
theorem cS_roAll (fuel : Nat) (w : World) (oo : Tg) (t : Nat) (ht : 2 ≤ t) (u0 : List Value) (p0 : T_RootedProblem) (g0 : Rp.rd zt w u0 p0) (r : List Int) (hF : fS_roAll fuel p0 = some r) :
    Calls Try.prog 71 #[.agg u0.toArray] w (pS_roAll oo t w r) := by
  unfold fS_roAll at hF
  obtain ⟨v1, rfl, h2⟩ := g0
  have hB : Bs oo (col oo) w w := Bs.start _ _
  refine calls_start (n := 16) (vs := [(.agg #[(.int .i64 p0.Labels), (.int .i64 p0.Children), v1])]) Try.func71 rfl rfl ?_
  generalize col oo = o at *
  refine wpC_seq ?_
  refine wpC_region ?_
  refine st_op (by decide) trivial ?_
  refine wf_box (o := o) w.heap.size 11 hB.keeps.size (cs := [(.int .i64 p0.Labels), (.int .i64 p0.Children), v1]) rfl rfl ?_
  intro o3 w4 b5 h6 s7
  replace hB := hB.stp s7 (by decide)
  refine st_val (ex_assign rfl) (by decide) trivial ?_
  refine wpF_end (r := [(1, (.pointer (some ⟨b5, 0, none⟩)))]) ⟨rfl, trivial⟩ ?_
  refine nx ?_
  refine wpC_seq ?_
  refine wpC_region ?_
  refine st_val (ex_assign rfl) (by decide) trivial ?_
  refine wpF_end (r := [(1, (.pointer (some ⟨b5, 0, none⟩))), (3, (.slice none 0 0))]) ⟨rfl, rfl, trivial⟩ ?_
  refine nx ?_
  refine wpC_seq ?_
  refine wpC_seq ?_
  refine wpC_region ?_
  refine st_val (ex_assign rfl) (by decide) trivial ?_
  refine wpF_end (r := [(1, (.pointer (some ⟨b5, 0, none⟩))), (3, (.slice none 0 0)), (4, (.int .i64 0))]) ⟨rfl, rfl, rfl, trivial⟩ ?_
  refine nx ?_
  have h8 : Ow w.heap.size 3 12 o3 w4 (.slice none 0 0) ([] : List Int) := Ow.nil _ _ _ _ _
  obtain ⟨q15, hq15, hF⟩ := bind_some hF
  refine wpC_cutN (fun a w14 => ∃ (y9 : List Int) (y12 : Int) (v10 : Value) (o13 : Tg), q15 = .inl (y9, y12) ∧ Fr a 16 [(3, v10)] ∧ Bs oo o13 w w14 ∧ Ow w.heap.size 3 12 o13 w14 v10 y9) (fun _ _ => False) ?_ ?_ ?_
  · refine wpC_block ?_
    refine wpC_loop (fun (K : Nat) a w14 => ∃ (y9 : List Int) (y12 : Int) (v10 : Value) (o13 : Tg), loopF (fS_roAll_s1 p0) K (y9, y12) = some q15 ∧ Fr a 16 [(1, (.pointer (some ⟨b5, 0, none⟩))), (3, v10), (4, (.int .i64 y12))] ∧ Bs oo o13 w w14 ∧ Ow w.heap.size 3 12 o13 w14 v10 y9 ∧ Bx w.heap.size 11 o13 w14 b5 49 [(.int .i64 p0.Labels), (.int .i64 p0.Children), v1]) fuel (fun a ha => ⟨[], 0, (.slice none 0 0), o3, hq15, ha.sub (r := [(1, (.pointer (some ⟨b5, 0, none⟩))), (3, (.slice none 0 0)), (4, (.int .i64 0))]) ⟨rfl, rfl, rfl, trivial⟩, hB, h8, h6⟩) ?_
    rintro K19 a w14 ⟨y9, y12, v10, o13, l16, ha, hB, h11, h6⟩
    obtain ⟨K23, q20, e24, b21, n22⟩ := loopF_cons l16
    dsimp only [fS_roAll_s1] at b21
    refine wp_of ha ?_
    refine wpC_seq ?_
    refine wpC_seq ?_
    refine wpC_region ?_
    refine st_val (ex_move rfl) (by decide) trivial ?_
    refine st_val (ex_field rfl Try.underlying49 rfl Try.sizeOf3) (by decide) trivial ?_
    refine st_val (ex_load1 rfl Try.isAgg3 (h6.cell rfl)) (by decide) trivial ?_
    refine st_val (ex_lss rfl rfl) (by decide) trivial ?_
    refine wpF_end (r := [(1, (.pointer (some ⟨b5, 0, none⟩))), (3, v10), (4, (.int .i64 y12)), (8, (.bool (decide (y12 < p0.Labels))))]) ⟨rfl, rfl, rfl, rfl, trivial⟩ ?_
    refine nx ?_
    refine wpC_cond rfl (fun t25 => ?_) (fun t25 => ?_)
    · rw [if_pos t25] at b21
      refine wpC_skip ?_
      refine nx ?_
      refine wpC_seq ?_
      refine wpC_block ?_
      refine wpC_region ?_
      refine st_val (ex_move rfl) (by decide) trivial ?_
      refine st_val (ex_move rfl) (by decide) trivial ?_
      refine st_op (by decide) trivial ?_
      refine wf_litR (o := o13) (cs := [(.int .i64 y12)]) (xs := ([y12] : List Int)) (vs := [(0, (.int .i64 y12))]) ⟨_, _, rfl, rfl, rfl⟩ rfl ⟨rfl, rfl, trivial⟩ Try.underlying23 Try.sizeOf3 Try.zeroValue3 (by decide) (fill1 rfl) (by simp) ?_
      intro o26 w27 v28 h29 s30 k31
      replace h11 := h11.stp s30 (by decide) (by decide)
      replace h6 := h6.stp s30 (by decide)
      replace hB := hB.stp s30 (by decide)
      obtain ⟨x32, hx32, b21⟩ := bind_some b21
      refine st_op (by decide) trivial ?_
      refine wf_cat h11 h29 (push_cat hx32) (by decide) hB.keeps.size rfl rfl Try.underlying23 info2_t_int_C rfl (by decide) ?_
      intro o33 w34 v35 h36 s37
      replace h29 := h29.stp s37 (by decide)
      replace h6 := h6.stp s37 (by decide)
      replace hB := hB.stp s37 (by decide)
      refine st_val (ex_assign rfl) (by decide) trivial ?_
      refine wpF_end (r := [(1, (.pointer (some ⟨b5, 0, none⟩))), (3, v35), (4, (.int .i64 y12))]) ⟨rfl, rfl, rfl, trivial⟩ ?_
      refine nb_norm ?_
      refine nx ?_
      refine wpC_region ?_
      refine st_val (ex_move rfl) (by decide) trivial ?_
      obtain ⟨x38, hx38, b21⟩ := bind_some b21
      refine st_val (ex_add rfl rfl hx38) (by decide) trivial ?_
      refine st_val (ex_assign rfl) (by decide) trivial ?_
      refine wpF_end (r := [(1, (.pointer (some ⟨b5, 0, none⟩))), (3, v35), (4, (.int .i64 x38))]) ⟨rfl, rfl, rfl, trivial⟩ ?_
      refine nt_norm ?_
      have e39 := Option.some.inj b21
      subst e39
      refine to_k (r := [(1, (.pointer (some ⟨b5, 0, none⟩))), (3, v35), (4, (.int .i64 x38))]) ⟨rfl, rfl, rfl, trivial⟩ ?_
      intro a ha
      exact ⟨K23, by omega, x32, x38, v35, o33, n22, ha, hB, h36, h6⟩
    · rw [if_neg (by rw [t25]; decide)] at b21
      refine wpC_exit ?_
      refine nt_exit ?_
      refine nt_exit ?_
      refine nb_hit ?_
      refine np_norm ?_
      have e40 := Option.some.inj b21
      subst e40
      refine to_k (r := [(3, v10)]) ⟨rfl, trivial⟩ ?_
      intro a ha
      exact ⟨y9, y12, v10, o13, n22, ha, hB, h11⟩
  · rintro a w14 ⟨y9, y12, v10, o13, rfl, ha, hB, h11⟩
    dsimp only at hF
    refine ap_k ha ?_
    refine nx ?_
    refine wpC_seq ?_
    refine wpC_region ?_
    refine st_val (ex_move rfl) (by decide) trivial ?_
    refine st_val (ex_assign rfl) (by decide) trivial ?_
    refine wpF_end (r := [(2, v10)]) ⟨rfl, trivial⟩ ?_
    refine nx ?_
    refine wpC_ret ?_
    have e41 := Option.some.inj hF
    subst e41
    refine ret_post (P := Try.prog) (vs := [v10]) Try.results71 ⟨rfl, trivial⟩ ?_
    exact ⟨_, rt oo o13 w.heap.size 12 t, rfl, h11.rt hB (by decide) t, hB.keeps, rt_old _ _ _ _ _⟩
  · exact fun _ _ h => h.elim

def fS_roAbove_s1 (fuel : Nat) (p1 : List Int) : Int → (List Int) → (List Int) → Option (Lp (List Int) (List Int) (List Int)) := fun (i16 : Int) (x26 : List Int) (s : List Int) =>
  (cut x26 1 x26.length) >>= fun x34 =>
  (fS_prAll x34 p1) >>= fun x37 =>
  if x37 then
    (ix x26 0) >>= fun x44 =>
    (fS_l1Put fuel s x44) >>= fun x50 =>
    some (.go x50)
  else
    some (.go s)
def fS_roAbove (fuel : Nat) (p0 : T_RootedProblem) (p1 : List Int) : Option (List Int) :=
  (forI (fS_roAbove_s1 fuel p1) p0.Lines 0 []) >>= fun q17 =>
  match q17 with
  | .inl y10 =>
    some y10
  | .inr _ => none

def fS_roRoots_s1 (fuel : Nat) (p0 : T_RootedProblem) (p1 : Int) : ((List Int) × Int) → Option (Lp ((List Int) × Int) ((List Int) × Int) (List Int)) := fun (s : (List Int) × Int) =>
  if decide (s.2 < p1) then
    (fS_roAbove fuel p0 s.1) >>= fun x37 =>
    (fS_l1Same x37 s.1) >>= fun x47 =>
    if x47 then
      some (.ret s.1)
    else
      (ck (s.2 + 1)) >>= fun x55 =>
      some (.go (x37, x55))
  else
    some (.out (s.1, s.2))
def fS_roRoots (fuel : Nat) (p0 : T_RootedProblem) (p1 : Int) : Option (List Int) :=
  (fS_roAll fuel p0) >>= fun x8 =>
  (loopF (fS_roRoots_s1 fuel p0 p1) fuel (x8, 0)) >>= fun q26 =>
  match q26 with
  | .inl (y19, y23) =>
    some y19
  | .inr r' => some r'

def fS_LastingLabels (fuel : Nat) (p0 : T_RootedProblem) : Option ((List Int) × Bool) :=
  (fS_roGood fuel p0) >>= fun x8 =>
  if !x8 then
    some ([], false)
  else
    (ck (p0.Labels + 1)) >>= fun x16 =>
    (fS_roRoots fuel p0 x16) >>= fun x17 =>
    some (x17, true)

def fI_onlyIn_1 (p0 : Int) (p1 : Int) : Option Bool :=
  (shr p1 p0) >>= fun x1 =>
  some ((band x1 1) == 0)

def pI_onlyIn_1 (w : World) (r : Bool) : Ending → World → Prop := fun e w' => e = .returned (.bool r) ∧ Keeps w w'
set_option maxRecDepth 100000 in
set_option maxHeartbeats 2000000 in
theorem cI_onlyIn_1 (w : World) (p0 : Int) (b1 : Nat) (u1 : List Value) (p1 : Int) (k1 : Cells w b1 0 u1) (g1 : Rp.rd zt w u1 p1) (r : Bool) (hF : fI_onlyIn_1 p0 p1 = some r) :
    Calls Try.prog 136 #[.int .i64 p0, .pointer (some ⟨b1, 0, none⟩)] w (pI_onlyIn_1 w r) := by
  unfold fI_onlyIn_1 at hF
  have g1k := g1
  cases g1
  have hB : Bs (fun _ => 1) (col (fun _ => 1)) w w := Bs.start _ _
  refine calls_start (n := 9) (vs := [(.int .i64 p0), (.pointer (some ⟨b1, 0, none⟩))]) Try.func136 rfl rfl ?_
  refine wpC_seq ?_
  refine wpC_region ?_
  refine st_val (ex_assign rfl) (by decide) trivial ?_
  refine wpF_end (r := [(0, (.int .i64 p0)), (1, (.pointer (some ⟨b1, 0, none⟩)))]) ⟨rfl, rfl, trivial⟩ ?_
  refine nx ?_
  refine wpC_seq ?_
  refine wpC_region ?_
  refine st_val (ex_load1 rfl Try.isAgg3 (cell_of_cells (k1.keep hB.keeps))) (by decide) trivial ?_
  refine st_val (ex_move rfl) (by decide) trivial ?_
  obtain ⟨x1, hx1, hF⟩ := bind_some hF
  refine st_val (ex_shr rfl rfl hx1) (by decide) trivial ?_
  refine st_val (ex_and rfl rfl) (by decide) trivial ?_
  refine st_val (ex_eql rfl rfl) (by decide) trivial ?_
  refine st_val (ex_assign rfl) (by decide) trivial ?_
  refine wpF_end (r := [(3, (.bool ((band x1 1) == 0)))]) ⟨rfl, trivial⟩ ?_
  refine nx ?_
  refine wpC_ret ?_
  have e2 := Option.some.inj hF
  subst e2
  refine ret_post (P := Try.prog) (vs := [(.bool ((band x1 1) == 0))]) Try.results136 ⟨rfl, trivial⟩ ?_
  exact ⟨rfl, hB.keeps⟩

def fI_onlyIn (p0 : Int) (p1 : List Int) : Option Bool :=
  (fX_slices_ContainsFunc_int_int p1 (fun z6 => fI_onlyIn_1 z6 p0)) >>= fun x7 =>
  some (!x7)

def pI_onlyIn (w : World) (r : Bool) : Ending → World → Prop := fun e w' => e = .returned (.bool r) ∧ Keeps w w'
set_option maxRecDepth 100000 in
set_option maxHeartbeats 2000000 in
theorem cI_onlyIn (w : World) (p0 : Int) (u1 : Value) (p1 : List Int) (g1 : RdL zt w u1 p1) (r : Bool) (hF : fI_onlyIn p0 p1 = some r) :
    Calls Try.prog 108 #[.int .i64 p0, u1] w (pI_onlyIn w r) := by
  unfold fI_onlyIn at hF
  have hB : Bs (fun _ => 1) (col (fun _ => 1)) w w := Bs.start _ _
  refine calls_start (n := 9) (vs := [(.int .i64 p0), u1]) Try.func108 rfl rfl ?_
  refine wpC_seq ?_
  refine wpC_region ?_
  refine st_op (by decide) trivial ?_
  refine wf_box (o := (col (fun _ => 1))) w.heap.size 11 hB.keeps.size (cs := [(.int .i64 p0)]) rfl rfl ?_
  intro o1 w2 b3 h4 s5
  replace hB := hB.stp s5 (by decide)
  refine st_val (ex_assign rfl) (by decide) trivial ?_
  refine wpF_end (r := [(1, u1), (2, (.pointer (some ⟨b3, 0, none⟩)))]) ⟨rfl, rfl, trivial⟩ ?_
  refine nx ?_
  refine wpC_seq ?_
  refine wpC_region ?_
  refine st_val (ex_move rfl) (by decide) trivial ?_
  refine st_val (ex_func (vs := [(.pointer (some ⟨b3, 0, none⟩))]) ⟨rfl, trivial⟩) (by decide) trivial ?_
  obtain ⟨x7, hx7, hF⟩ := bind_some hF
  refine st_op (by decide) trivial ?_
  refine wf_call (cX_slices_ContainsFunc_int_int w2 _ p1 (g1.keep hB.keeps) _ (fun z6 => fI_onlyIn_1 z6 p0) (show FnV Try.prog w2 (.func (.func 136) #[] #[(.pointer (some ⟨b3, 0, none⟩))]) (fun z6 => fI_onlyIn_1 z6 p0) from ⟨_, _, rfl, Try.call136, fun ww vs xx rr kk hok hG => by (cases hok; exact cI_onlyIn_1 ww xx b3 _ p0 ((h4.cells).keep kk) (Rp.keep ((show Rp.rd zt w2 [(.int .i64 p0)] (p0 : Int) from rfl)) kk) rr hG)⟩) x7 hx7) Try.call135 ⟨rfl, rfl, trivial⟩ ?_
  rintro e12 w8 ⟨rfl, k9⟩
  have s11 := k9.stp 999 o1
  refine ⟨_, rfl, ?_⟩
  replace h4 := h4.stp s11 (by decide)
  replace hB := hB.stp s11 (by decide)
  refine st_val (ex_not rfl) (by decide) trivial ?_
  refine st_val (ex_assign rfl) (by decide) trivial ?_
  refine wpF_end (r := [(4, (.bool (!x7)))]) ⟨rfl, trivial⟩ ?_
  refine nx ?_
  refine wpC_ret ?_
  have e13 := Option.some.inj hF
  subst e13
  refine ret_post (P := Try.prog) (vs := [(.bool (!x7))]) Try.results108 ⟨rfl, trivial⟩ ?_
  exact ⟨rfl, hB.keeps⟩

def fI_RootedProblem_rootsAbove_s1 (p1 : Int) : Int → (List Int) → Int → Option (Lp Int Int Int) := fun (i11 : Int) (x21 : List Int) (s : Int) =>
  (cut x21 1 x21.length) >>= fun x29 =>
  (fI_onlyIn p1 x29) >>= fun x32 =>
  if x32 then
    (ix x21 0) >>= fun x39 =>
    (shl 1 x39) >>= fun x45 =>
    some (.go (bor s x45))
  else
    some (.go s)
def fI_RootedProblem_rootsAbove (p0 : T_RootedProblem) (p1 : Int) : Option Int :=
  (forI (fI_RootedProblem_rootsAbove_s1 p1) p0.Lines 0 0) >>= fun q12 =>
  match q12 with
  | .inl y8 =>
    some y8
  | .inr _ => none

def fI_RootedProblem_rootsOfDepth_s1 (p0 : T_RootedProblem) : (Int × Int) → Option (Lp (Int × Int) (Int × Int) Int) := fun (s : Int × Int) =>
  if s.1 != 0 then
    (fI_RootedProblem_rootsAbove p0 s.2) >>= fun x25 =>
    if x25 == s.2 then
      some (.out (s.1, s.2))
    else
      (ck (s.1 - 1)) >>= fun x33 =>
      some (.go (x33, x25))
  else
    some (.out (s.1, s.2))
def fI_RootedProblem_rootsOfDepth (fuel : Nat) (p0 : T_RootedProblem) (p1 : Int) : Option Int :=
  (shl 1 p0.Labels) >>= fun x8 =>
  (ck (x8 - 1)) >>= fun x9 =>
  (loopF (fI_RootedProblem_rootsOfDepth_s1 p0) fuel (p1, x9)) >>= fun q14 =>
  match q14 with
  | .inl (y10, y11) =>
    some y11
  | .inr _ => none

def fI_LastingLabels (fuel : Nat) (p0 : T_RootedProblem) : Option ((List Int) × Bool) :=
  (fI_IsRootedProblem fuel p0) >>= fun x8 =>
  if !x8 then
    some ([], false)
  else
    (fI_RootedProblem_rootsOfDepth fuel p0 (-1)) >>= fun x16 =>
    (fI_labelsIn fuel x16) >>= fun x22 =>
    some (x22, true)

end Go.Proofs.Ytijaojnaamkinaa
