/- impl.setOf, impl.images, spec.roKeep, spec.KeepRooted, impl.KeepRooted: plain functions, and the walks that show that the program computes them (printed by gen.py). -/
import Derived.Test.YtcjmpodljhcbhaaGC
import Derived.Test.YtcjmpodljhcbhaaKg
namespace Go.Proofs.Ytcjmpodljhcbhaa
open Go.RowKit
set_option linter.unusedSimpArgs false
set_option linter.unusedVariables false

theorem info2_t_int_K : Inf Try.prog 3 (.int .i64 0) 1 8 := by unfold Inf; kernel_rfl

theorem info2_t_Lint_K : Inf Try.prog 43 (.slice none 0 0) 1 24 := by unfold Inf; kernel_rfl

theorem info1_t_impl_RootedProblem_K : (Try.prog.info? 37).map (·.size) = some 3 := by kernel_rfl

def fI_setOf_s1 : Int → Int → Int → Option (Lp Int Int Int) := fun (i4 : Int) (x14 : Int) (s : Int) =>
  (shl 1 x14) >>= fun x20 =>
  some (.go (bor s x20))
def fI_setOf (p0 : List Int) : Option Int :=
  (forI (fI_setOf_s1) p0 0 0) >>= fun q5 =>
  match q5 with
  | .inl y1 =>
    some y1
  | .inr _ => none

def pI_setOf (w : World) (r : Int) : Ending → World → Prop := fun e w' => e = .returned (.int .i64 r) ∧ Keeps w w'
set_option maxRecDepth 100000 in
set_option maxHeartbeats 2000000 in
theorem cI_setOf (w : World) (u0 : Value) (p0 : List Int) (g0 : RdL zt w u0 p0) (r : Int) (hF : fI_setOf p0 = some r) :
    Calls Try.prog 88 #[u0] w (pI_setOf w r) := by
  unfold fI_setOf at hF
  have hB : Bs (fun _ => 1) (col (fun _ => 1)) w w := Bs.start _ _
  refine calls_start (n := 18) (vs := [u0]) Try.func88 rfl rfl ?_
  refine wpC_seq ?_
  refine wpC_region ?_
  refine st_val (ex_assign rfl) (by decide) trivial ?_
  refine wpF_end (r := [(0, u0)]) ⟨rfl, trivial⟩ ?_
  refine nx ?_
  refine wpC_seq ?_
  refine wpC_region ?_
  refine st_val (ex_assign rfl) (by decide) trivial ?_
  refine wpF_end (r := [(0, u0), (3, (.int .i64 0))]) ⟨rfl, rfl, trivial⟩ ?_
  refine nx ?_
  refine wpC_seq ?_
  refine wpC_seq ?_
  refine wpC_region ?_
  refine st_val (ex_move rfl) (by decide) trivial ?_
  refine st_val (ex_lenR rfl g0 Try.underlying43) (by decide) trivial ?_
  refine st_val (ex_move rfl) (by decide) trivial ?_
  refine wpF_end (r := [(3, (.int .i64 0)), (6, u0), (7, (.int .i64 (p0.length : Int))), (8, (.int .i64 0))]) ⟨rfl, rfl, rfl, rfl, trivial⟩ ?_
  refine nx ?_
  obtain ⟨q5, hq5, hF⟩ := bind_some hF
  refine wpC_cutN (fun a w3 => ∃ (y1 : Int) (o2 : Tg), q5 = .inl y1 ∧ Fr a 18 [(3, (.int .i64 y1))] ∧ Bs (fun _ => 1) o2 w w3) (fun _ _ => False) ?_ ?_ ?_
  · refine wpC_block ?_
    refine wpC_loop (fun (K : Nat) a w3 => ∃ (i4 : Int) (y1 : Int) (o2 : Tg), forI (fI_setOf_s1) (p0.drop i4.toNat) i4 y1 = some q5 ∧ (p0.drop i4.toNat).length = K ∧ 0 ≤ i4 ∧ Fr a 18 [(3, (.int .i64 y1)), (6, u0), (7, (.int .i64 (p0.length : Int))), (8, (.int .i64 i4))] ∧ Bs (fun _ => 1) o2 w w3) _ (fun a ha => ⟨0, 0, (col (fun _ => 1)), hq5, rfl, Int.le_refl 0, ha.sub (r := [(3, (.int .i64 0)), (6, u0), (7, (.int .i64 (p0.length : Int))), (8, (.int .i64 0))]) ⟨rfl, rfl, rfl, rfl, trivial⟩, hB⟩) ?_
    rintro K9 a w3 ⟨i4, y1, o2, l6, m8, z7, ha, hB⟩
    by_cases t13 : i4 < (p0.length : Int)
    · obtain ⟨x14, q10, hx14, b11, n12⟩ := forI_cons z7 t13 l6
      have hle := g0.len_le
      dsimp only [fI_setOf_s1] at b11
      refine wp_of ha ?_
      refine wpC_seq ?_
      refine wpC_region ?_
      refine st_val (ex_lss rfl rfl) (by decide) trivial ?_
      refine wpF_end (r := [(3, (.int .i64 y1)), (6, u0), (7, (.int .i64 (p0.length : Int))), (8, (.int .i64 i4)), (9, (.bool (decide (i4 < (p0.length : Int)))))]) ⟨rfl, rfl, rfl, rfl, rfl, trivial⟩ ?_
      refine nx ?_
      refine wpC_seq ?_
      refine wpC_true (congrArg (fun b => some (Value.bool b)) (decide_eq_true t13)) ?_
      refine wpC_skip ?_
      refine nx ?_
      refine wpC_seq ?_
      refine wpC_block ?_
      refine wpC_seq ?_
      refine wpC_region ?_
      refine st_op (by decide) trivial ?_
      refine wf_atZ g0 hx14 hB rfl rfl Try.underlying43 Try.sizeOf3 ?_
      intro b15 f16 c17 h18 h19
      cases h19
      refine st_val (ex_load1 rfl Try.isAgg3 (cell_of_cells h18)) (by decide) trivial ?_
      refine st_val (ex_assign rfl) (by decide) trivial ?_
      refine wpF_end (r := [(3, (.int .i64 y1)), (5, (.int .i64 x14)), (6, u0), (7, (.int .i64 (p0.length : Int))), (8, (.int .i64 i4))]) ⟨rfl, rfl, rfl, rfl, rfl, trivial⟩ ?_
      refine nx ?_
      refine wpC_region ?_
      refine st_val (ex_move rfl) (by decide) trivial ?_
      refine st_val (ex_move rfl) (by decide) trivial ?_
      obtain ⟨x20, hx20, b11⟩ := bind_some b11
      refine st_val (ex_shl rfl rfl hx20) (by decide) trivial ?_
      refine st_val (ex_or rfl rfl) (by decide) trivial ?_
      refine st_val (ex_assign rfl) (by decide) trivial ?_
      refine wpF_end (r := [(3, (.int .i64 (bor y1 x20))), (6, u0), (7, (.int .i64 (p0.length : Int))), (8, (.int .i64 i4))]) ⟨rfl, rfl, rfl, rfl, trivial⟩ ?_
      refine nb_norm ?_
      refine nx ?_
      refine wpC_region ?_
      refine st_val (ex_add rfl rfl (ck_in (by omega) (by omega))) (by decide) trivial ?_
      refine st_val (ex_move rfl) (by decide) trivial ?_
      refine wpF_end (r := [(3, (.int .i64 (bor y1 x20))), (6, u0), (7, (.int .i64 (p0.length : Int))), (8, (.int .i64 (i4 + 1)))]) ⟨rfl, rfl, rfl, rfl, trivial⟩ ?_
      refine nt_norm ?_
      have e21 := Option.some.inj b11
      subst e21
      refine to_k (r := [(3, (.int .i64 (bor y1 x20))), (6, u0), (7, (.int .i64 (p0.length : Int))), (8, (.int .i64 (i4 + 1)))]) ⟨rfl, rfl, rfl, rfl, trivial⟩ ?_
      intro a ha
      exact ⟨_, (by rw [← m8]; simp only [List.length_drop]; omega), i4 + 1, bor y1 x20, o2, n12, rfl, (by omega), ha, hB⟩
    · have r22 := forI_done t13 l6
      refine wp_of ha ?_
      refine wpC_seq ?_
      refine wpC_region ?_
      refine st_val (ex_lss rfl rfl) (by decide) trivial ?_
      refine wpF_end (r := [(3, (.int .i64 y1)), (6, u0), (7, (.int .i64 (p0.length : Int))), (8, (.int .i64 i4)), (9, (.bool (decide (i4 < (p0.length : Int)))))]) ⟨rfl, rfl, rfl, rfl, rfl, trivial⟩ ?_
      refine nx ?_
      refine wpC_seq ?_
      refine wpC_false (congrArg (fun b => some (Value.bool b)) (decide_eq_false t13)) ?_
      refine wpC_exit ?_
      refine nt_exit ?_
      refine nt_exit ?_
      refine nb_hit ?_
      refine np_norm ?_
      refine to_k (r := [(3, (.int .i64 y1))]) ⟨rfl, trivial⟩ ?_
      intro a ha
      exact ⟨y1, o2, r22, ha, hB⟩
  · rintro a w3 ⟨y1, o2, rfl, ha, hB⟩
    dsimp only at hF
    refine ap_k ha ?_
    refine nx ?_
    refine wpC_seq ?_
    refine wpC_region ?_
    refine st_val (ex_move rfl) (by decide) trivial ?_
    refine st_val (ex_assign rfl) (by decide) trivial ?_
    refine wpF_end (r := [(2, (.int .i64 y1))]) ⟨rfl, trivial⟩ ?_
    refine nx ?_
    refine wpC_ret ?_
    have e23 := Option.some.inj hF
    subst e23
    refine ret_post (P := Try.prog) (vs := [(.int .i64 y1)]) Try.results88 ⟨rfl, trivial⟩ ?_
    exact ⟨rfl, hB.keeps⟩
  · exact fun _ _ h => h.elim

def fI_images_s1 (p1 : List Int) : Int → Int → (List Int) → Option (Lp (List Int) (List Int) (List Int)) := fun (i7 : Int) (x17 : Int) (s : List Int) =>
  (ix p1 x17) >>= fun x23 =>
  (push s x23) >>= fun x35 =>
  some (.go x35)
def fI_images (p0 : List Int) (p1 : List Int) : Option (List Int) :=
  (forI (fI_images_s1 p1) p0 0 []) >>= fun q8 =>
  match q8 with
  | .inl y2 =>
    some y2
  | .inr _ => none

def pI_images (oo : Tg) (t : Nat) (w : World) (r : List Int) : Ending → World → Prop := fun e w' => ∃ (v0 : Value) (o' : Tg), e = .returned (v0) ∧ Ow w.heap.size 3 t o' w' v0 r ∧ Keeps w w' ∧ ∀ b, b < w.heap.size → o' b = oo b
set_option maxRecDepth 100000 in
set_option maxHeartbeats 2000000 in
theorem cI_images (w : World) (oo : Tg) (t : Nat) (ht : 2 ≤ t) (u0 : Value) (p0 : List Int) (g0 : RdL zt w u0 p0) (u1 : Value) (p1 : List Int) (g1 : RdL zt w u1 p1) (r : List Int) (hF : fI_images p0 p1 = some r) :
    Calls Try.prog 89 #[u0, u1] w (pI_images oo t w r) := by
  unfold fI_images at hF
  have hB : Bs oo (col oo) w w := Bs.start _ _
  refine calls_start (n := 23) (vs := [u0, u1]) Try.func89 rfl rfl ?_
  generalize col oo = o at *
  refine wpC_seq ?_
  refine wpC_region ?_
  refine st_val (ex_assign rfl) (by decide) trivial ?_
  refine wpF_end (r := [(0, u0), (1, u1)]) ⟨rfl, rfl, trivial⟩ ?_
  refine nx ?_
  refine wpC_seq ?_
  refine wpC_region ?_
  refine st_val (ex_assign rfl) (by decide) trivial ?_
  refine wpF_end (r := [(0, u0), (1, u1), (5, (.slice none 0 0))]) ⟨rfl, rfl, rfl, trivial⟩ ?_
  refine nx ?_
  refine wpC_seq ?_
  refine wpC_seq ?_
  refine wpC_region ?_
  refine st_val (ex_move rfl) (by decide) trivial ?_
  refine st_val (ex_lenR rfl g0 Try.underlying43) (by decide) trivial ?_
  refine st_val (ex_move rfl) (by decide) trivial ?_
  refine wpF_end (r := [(1, u1), (5, (.slice none 0 0)), (8, u0), (9, (.int .i64 (p0.length : Int))), (10, (.int .i64 0))]) ⟨rfl, rfl, rfl, rfl, rfl, trivial⟩ ?_
  refine nx ?_
  have h1 : Ow w.heap.size 3 11 o w (.slice none 0 0) ([] : List Int) := Ow.nil _ _ _ _ _
  obtain ⟨q8, hq8, hF⟩ := bind_some hF
  refine wpC_cutN (fun a w6 => ∃ (y2 : List Int) (v3 : Value) (o5 : Tg), q8 = .inl y2 ∧ Fr a 23 [(5, v3)] ∧ Bs oo o5 w w6 ∧ Ow w.heap.size 3 11 o5 w6 v3 y2) (fun _ _ => False) ?_ ?_ ?_
  · refine wpC_block ?_
    refine wpC_loop (fun (K : Nat) a w6 => ∃ (i7 : Int) (y2 : List Int) (v3 : Value) (o5 : Tg), forI (fI_images_s1 p1) (p0.drop i7.toNat) i7 y2 = some q8 ∧ (p0.drop i7.toNat).length = K ∧ 0 ≤ i7 ∧ Fr a 23 [(1, u1), (5, v3), (8, u0), (9, (.int .i64 (p0.length : Int))), (10, (.int .i64 i7))] ∧ Bs oo o5 w w6 ∧ Ow w.heap.size 3 11 o5 w6 v3 y2) _ (fun a ha => ⟨0, [], (.slice none 0 0), o, hq8, rfl, Int.le_refl 0, ha.sub (r := [(1, u1), (5, (.slice none 0 0)), (8, u0), (9, (.int .i64 (p0.length : Int))), (10, (.int .i64 0))]) ⟨rfl, rfl, rfl, rfl, rfl, trivial⟩, hB, h1⟩) ?_
    rintro K12 a w6 ⟨i7, y2, v3, o5, l9, m11, z10, ha, hB, h4⟩
    by_cases t16 : i7 < (p0.length : Int)
    · obtain ⟨x17, q13, hx17, b14, n15⟩ := forI_cons z10 t16 l9
      have hle := g0.len_le
      dsimp only [fI_images_s1] at b14
      refine wp_of ha ?_
      refine wpC_seq ?_
      refine wpC_region ?_
      refine st_val (ex_lss rfl rfl) (by decide) trivial ?_
      refine wpF_end (r := [(1, u1), (5, v3), (8, u0), (9, (.int .i64 (p0.length : Int))), (10, (.int .i64 i7)), (11, (.bool (decide (i7 < (p0.length : Int)))))]) ⟨rfl, rfl, rfl, rfl, rfl, rfl, trivial⟩ ?_
      refine nx ?_
      refine wpC_seq ?_
      refine wpC_true (congrArg (fun b => some (Value.bool b)) (decide_eq_true t16)) ?_
      refine wpC_skip ?_
      refine nx ?_
      refine wpC_seq ?_
      refine wpC_block ?_
      refine wpC_seq ?_
      refine wpC_region ?_
      refine st_op (by decide) trivial ?_
      refine wf_atZ g0 hx17 hB rfl rfl Try.underlying43 Try.sizeOf3 ?_
      intro b18 f19 c20 h21 h22
      cases h22
      refine st_val (ex_load1 rfl Try.isAgg3 (cell_of_cells h21)) (by decide) trivial ?_
      refine st_val (ex_assign rfl) (by decide) trivial ?_
      refine wpF_end (r := [(1, u1), (5, v3), (7, (.int .i64 x17)), (8, u0), (9, (.int .i64 (p0.length : Int))), (10, (.int .i64 i7))]) ⟨rfl, rfl, rfl, rfl, rfl, rfl, trivial⟩ ?_
      refine nx ?_
      refine wpC_region ?_
      refine st_val (ex_move rfl) (by decide) trivial ?_
      refine st_val (ex_move rfl) (by decide) trivial ?_
      refine st_val (ex_move rfl) (by decide) trivial ?_
      obtain ⟨x23, hx23, b14⟩ := bind_some b14
      refine st_op (by decide) trivial ?_
      refine wf_atZ g1 hx23 hB rfl rfl Try.underlying43 Try.sizeOf3 ?_
      intro b24 f25 c26 h27 h28
      cases h28
      refine st_val (ex_load1 rfl Try.isAgg3 (cell_of_cells h27)) (by decide) trivial ?_
      refine st_op (by decide) trivial ?_
      refine wf_litR (o := o5) (cs := [(.int .i64 x23)]) (xs := ([x23] : List Int)) (vs := [(0, (.int .i64 x23))]) ⟨_, _, rfl, rfl, rfl⟩ rfl ⟨rfl, rfl, trivial⟩ Try.underlying43 Try.sizeOf3 Try.zeroValue3 (by decide) (fill1 rfl) (by simp) ?_
      intro o29 w30 v31 h32 s33 k34
      replace h4 := h4.stp s33 (by decide) (by decide)
      replace hB := hB.stp s33 (by decide)
      obtain ⟨x35, hx35, b14⟩ := bind_some b14
      refine st_op (by decide) trivial ?_
      refine wf_cat h4 h32 (push_cat hx35) (by decide) hB.keeps.size rfl rfl Try.underlying43 info2_t_int_K rfl (by decide) ?_
      intro o36 w37 v38 h39 s40
      replace h32 := h32.stp s40 (by decide)
      replace hB := hB.stp s40 (by decide)
      refine st_val (ex_assign rfl) (by decide) trivial ?_
      refine wpF_end (r := [(1, u1), (5, v38), (8, u0), (9, (.int .i64 (p0.length : Int))), (10, (.int .i64 i7))]) ⟨rfl, rfl, rfl, rfl, rfl, trivial⟩ ?_
      refine nb_norm ?_
      refine nx ?_
      refine wpC_region ?_
      refine st_val (ex_add rfl rfl (ck_in (by omega) (by omega))) (by decide) trivial ?_
      refine st_val (ex_move rfl) (by decide) trivial ?_
      refine wpF_end (r := [(1, u1), (5, v38), (8, u0), (9, (.int .i64 (p0.length : Int))), (10, (.int .i64 (i7 + 1)))]) ⟨rfl, rfl, rfl, rfl, rfl, trivial⟩ ?_
      refine nt_norm ?_
      have e41 := Option.some.inj b14
      subst e41
      refine to_k (r := [(1, u1), (5, v38), (8, u0), (9, (.int .i64 (p0.length : Int))), (10, (.int .i64 (i7 + 1)))]) ⟨rfl, rfl, rfl, rfl, rfl, trivial⟩ ?_
      intro a ha
      exact ⟨_, (by rw [← m11]; simp only [List.length_drop]; omega), i7 + 1, x35, v38, o36, n15, rfl, (by omega), ha, hB, h39⟩
    · have r42 := forI_done t16 l9
      refine wp_of ha ?_
      refine wpC_seq ?_
      refine wpC_region ?_
      refine st_val (ex_lss rfl rfl) (by decide) trivial ?_
      refine wpF_end (r := [(1, u1), (5, v3), (8, u0), (9, (.int .i64 (p0.length : Int))), (10, (.int .i64 i7)), (11, (.bool (decide (i7 < (p0.length : Int)))))]) ⟨rfl, rfl, rfl, rfl, rfl, rfl, trivial⟩ ?_
      refine nx ?_
      refine wpC_seq ?_
      refine wpC_false (congrArg (fun b => some (Value.bool b)) (decide_eq_false t16)) ?_
      refine wpC_exit ?_
      refine nt_exit ?_
      refine nt_exit ?_
      refine nb_hit ?_
      refine np_norm ?_
      refine to_k (r := [(5, v3)]) ⟨rfl, trivial⟩ ?_
      intro a ha
      exact ⟨y2, v3, o5, r42, ha, hB, h4⟩
  · rintro a w6 ⟨y2, v3, o5, rfl, ha, hB, h4⟩
    dsimp only at hF
    refine ap_k ha ?_
    refine nx ?_
    refine wpC_seq ?_
    refine wpC_region ?_
    refine st_val (ex_move rfl) (by decide) trivial ?_
    refine st_val (ex_assign rfl) (by decide) trivial ?_
    refine wpF_end (r := [(4, v3)]) ⟨rfl, trivial⟩ ?_
    refine nx ?_
    refine wpC_ret ?_
    have e43 := Option.some.inj hF
    subst e43
    refine ret_post (P := Try.prog) (vs := [v3]) Try.results89 ⟨rfl, trivial⟩ ?_
    exact ⟨_, rt oo o5 w.heap.size 11 t, rfl, h4.rt hB (by decide) t, hB.keeps, rt_old _ _ _ _ _⟩
  · exact fun _ _ h => h.elim

def fS_roKeep_s1 : Int → Int → (List Int) → Option (Lp (List Int) (List Int) T_RootedProblem) := fun (i23 : Int) (x33 : Int) (s : List Int) =>
  (ix s x33) >>= fun x39 =>
  (st s x33 i23) >>= fun x48 =>
  some (.go x48)
def fS_roKeep_s2 (p1 : List Int) (y19 : List Int) : Int → (List Int) → (List (List Int)) → Option (Lp (List (List Int)) (List (List Int)) T_RootedProblem) := fun (i69 : Int) (x79 : List Int) (s : List (List Int)) =>
  (fS_prAll x79 p1) >>= fun x87 =>
  if x87 then
    (fS_coThrough y19 x79) >>= fun x94 =>
    (push s x94) >>= fun x157 =>
    some (.go x157)
  else
    some (.go s)
def fS_roKeep (p0 : T_RootedProblem) (p1 : List Int) : Option T_RootedProblem :=
  (mk (Rz.z : Int) p0.Labels) >>= fun x13 =>
  (forI (fS_roKeep_s1) p1 0 x13) >>= fun q24 =>
  match q24 with
  | .inl y19 =>
    (forI (fS_roKeep_s2 p1 y19) p0.Lines 0 []) >>= fun q70 =>
    match q70 with
    | .inl y62 =>
      some (⟨(p1.length : Int), p0.Children, y62⟩ : T_RootedProblem)
    | .inr _ => none
  | .inr _ => none

def pS_roKeep (oo : Tg) (t : Nat) (w : World) (r : T_RootedProblem) : Ending → World → Prop := fun e w' => ∃ (v0 : List Value) (o' : Tg), e = .returned (.agg v0.toArray) ∧ Rp.rd o' w' v0 r ∧ Dz 43 3 o' w' (v0.getD 2 undef) r.Lines ∧ Keeps w w' ∧ ∀ b, b < w.heap.size → o' b = oo b
set_option maxRecDepth 100000 in
set_option maxHeartbeats 2000000 in
theorem cS_roKeep (w : World) (oo : Tg) (t : Nat) (ht : 2 ≤ t) (u0 : List Value) (p0 : T_RootedProblem) (g0 : Rp.rd zt w u0 p0) (u1 : Value) (p1 : List Int) (g1 : RdL zt w u1 p1) (r : T_RootedProblem) (hF : fS_roKeep p0 p1 = some r) :
    Calls Try.prog 85 #[.agg u0.toArray, u1] w (pS_roKeep oo t w r) := by
  unfold fS_roKeep at hF
  obtain ⟨v1, rfl, h2⟩ := g0
  have hB : Bs oo (col oo) w w := Bs.start _ _
  refine calls_start (n := 51) (vs := [(.agg #[(.int .i64 p0.Labels), (.int .i64 p0.Children), v1]), u1]) Try.func85 rfl rfl ?_
  generalize col oo = o at *
  refine wpC_seq ?_
  refine wpC_region ?_
  refine st_op (by decide) trivial ?_
  refine wf_box (o := o) w.heap.size 11 hB.keeps.size (cs := [(.int .i64 p0.Labels), (.int .i64 p0.Children), v1]) rfl rfl ?_
  intro o3 w4 b5 h6 s7
  replace hB := hB.stp s7 (by decide)
  refine st_op (by decide) trivial ?_
  refine wf_alloc (o := o3) w.heap.size 12 hB.keeps.size (cs := [(.int .i64 0), (.int .i64 0), (.slice none 0 0)]) Try.zeroValue37 rfl ?_
  intro o8 w9 b10 h11 s12
  replace h6 := h6.stp s12 (by decide)
  replace hB := hB.stp s12 (by decide)
  refine wpF_end (r := [(1, u1), (2, (.pointer (some ⟨b5, 0, none⟩))), (4, (.pointer (some ⟨b10, 0, none⟩)))]) ⟨rfl, rfl, rfl, trivial⟩ ?_
  refine nx ?_
  refine wpC_seq ?_
  refine wpC_region ?_
  refine st_val (ex_field rfl Try.underlying37 rfl Try.sizeOf3) (by decide) trivial ?_
  refine st_val (ex_load1 rfl Try.isAgg3 (h6.cell rfl)) (by decide) trivial ?_
  obtain ⟨x13, hx13, hF⟩ := bind_some hF
  refine st_op (by decide) trivial ?_
  refine wf_make (o := o8) w.heap.size 13 hB.keeps.size hx13 rfl rfl Try.underlying43 info2_t_int_K rfl (by decide) ?_
  intro o14 w15 v16 h17 s18
  replace h6 := h6.stp s18 (by decide)
  replace h11 := h11.stp s18 (by decide)
  replace hB := hB.stp s18 (by decide)
  refine st_val (ex_assign rfl) (by decide) trivial ?_
  refine wpF_end (r := [(1, u1), (2, (.pointer (some ⟨b5, 0, none⟩))), (4, (.pointer (some ⟨b10, 0, none⟩))), (5, v16)]) ⟨rfl, rfl, rfl, rfl, trivial⟩ ?_
  refine nx ?_
  refine wpC_seq ?_
  refine wpC_seq ?_
  refine wpC_region ?_
  refine st_val (ex_move rfl) (by decide) trivial ?_
  refine st_val (ex_lenR rfl g1 Try.underlying43) (by decide) trivial ?_
  refine st_val (ex_move rfl) (by decide) trivial ?_
  refine wpF_end (r := [(1, u1), (2, (.pointer (some ⟨b5, 0, none⟩))), (4, (.pointer (some ⟨b10, 0, none⟩))), (5, v16), (14, u1), (15, (.int .i64 (p1.length : Int))), (16, (.int .i64 0))]) ⟨rfl, rfl, rfl, rfl, rfl, rfl, rfl, trivial⟩ ?_
  refine nx ?_
  obtain ⟨q24, hq24, hF⟩ := bind_some hF
  refine wpC_cutN (fun a w22 => ∃ (y19 : List Int) (o21 : Tg), q24 = .inl y19 ∧ Fr a 51 [(1, u1), (2, (.pointer (some ⟨b5, 0, none⟩))), (4, (.pointer (some ⟨b10, 0, none⟩))), (5, v16)] ∧ Bs oo o21 w w22 ∧ Ow w.heap.size 3 13 o21 w22 v16 y19 ∧ Bx w.heap.size 11 o21 w22 b5 37 [(.int .i64 p0.Labels), (.int .i64 p0.Children), v1] ∧ Bx w.heap.size 12 o21 w22 b10 37 [(.int .i64 0), (.int .i64 0), (.slice none 0 0)]) (fun _ _ => False) ?_ ?_ ?_
  · refine wpC_block ?_
    refine wpC_loop (fun (K : Nat) a w22 => ∃ (i23 : Int) (y19 : List Int) (o21 : Tg), forI (fS_roKeep_s1) (p1.drop i23.toNat) i23 y19 = some q24 ∧ (p1.drop i23.toNat).length = K ∧ 0 ≤ i23 ∧ Fr a 51 [(1, u1), (2, (.pointer (some ⟨b5, 0, none⟩))), (4, (.pointer (some ⟨b10, 0, none⟩))), (5, v16), (14, u1), (15, (.int .i64 (p1.length : Int))), (16, (.int .i64 i23))] ∧ Bs oo o21 w w22 ∧ Ow w.heap.size 3 13 o21 w22 v16 y19 ∧ Bx w.heap.size 11 o21 w22 b5 37 [(.int .i64 p0.Labels), (.int .i64 p0.Children), v1] ∧ Bx w.heap.size 12 o21 w22 b10 37 [(.int .i64 0), (.int .i64 0), (.slice none 0 0)]) _ (fun a ha => ⟨0, x13, o14, hq24, rfl, Int.le_refl 0, ha.sub (r := [(1, u1), (2, (.pointer (some ⟨b5, 0, none⟩))), (4, (.pointer (some ⟨b10, 0, none⟩))), (5, v16), (14, u1), (15, (.int .i64 (p1.length : Int))), (16, (.int .i64 0))]) ⟨rfl, rfl, rfl, rfl, rfl, rfl, rfl, trivial⟩, hB, h17, h6, h11⟩) ?_
    rintro K28 a w22 ⟨i23, y19, o21, l25, m27, z26, ha, hB, h20, h6, h11⟩
    by_cases t32 : i23 < (p1.length : Int)
    · obtain ⟨x33, q29, hx33, b30, n31⟩ := forI_cons z26 t32 l25
      have hle := g1.len_le
      dsimp only [fS_roKeep_s1] at b30
      refine wp_of ha ?_
      refine wpC_seq ?_
      refine wpC_region ?_
      refine st_val (ex_lss rfl rfl) (by decide) trivial ?_
      refine wpF_end (r := [(1, u1), (2, (.pointer (some ⟨b5, 0, none⟩))), (4, (.pointer (some ⟨b10, 0, none⟩))), (5, v16), (14, u1), (15, (.int .i64 (p1.length : Int))), (16, (.int .i64 i23)), (17, (.bool (decide (i23 < (p1.length : Int)))))]) ⟨rfl, rfl, rfl, rfl, rfl, rfl, rfl, rfl, trivial⟩ ?_
      refine nx ?_
      refine wpC_seq ?_
      refine wpC_true (congrArg (fun b => some (Value.bool b)) (decide_eq_true t32)) ?_
      refine wpC_skip ?_
      refine nx ?_
      refine wpC_seq ?_
      refine wpC_block ?_
      refine wpC_seq ?_
      refine wpC_region ?_
      refine st_val (ex_move rfl) (by decide) trivial ?_
      refine st_op (by decide) trivial ?_
      refine wf_atZ g1 hx33 hB rfl rfl Try.underlying43 Try.sizeOf3 ?_
      intro b34 f35 c36 h37 h38
      cases h38
      refine st_val (ex_load1 rfl Try.isAgg3 (cell_of_cells h37)) (by decide) trivial ?_
      refine st_val (ex_assign rfl) (by decide) trivial ?_
      refine st_val (ex_assign rfl) (by decide) trivial ?_
      refine wpF_end (r := [(1, u1), (2, (.pointer (some ⟨b5, 0, none⟩))), (4, (.pointer (some ⟨b10, 0, none⟩))), (5, v16), (6, (.int .i64 i23)), (7, (.int .i64 x33)), (14, u1), (15, (.int .i64 (p1.length : Int))), (16, (.int .i64 i23))]) ⟨rfl, rfl, rfl, rfl, rfl, rfl, rfl, rfl, rfl, trivial⟩ ?_
      refine nx ?_
      refine wpC_region ?_
      refine st_val (ex_move rfl) (by decide) trivial ?_
      refine st_val (ex_move rfl) (by decide) trivial ?_
      refine st_val (ex_move rfl) (by decide) trivial ?_
      obtain ⟨x39, hx39, b30⟩ := bind_some b30
      refine st_op (by decide) trivial ?_
      refine wf_atP h20 hx39 rfl rfl Try.underlying43 Try.sizeOf3 ?_
      intro b40 c42 h45 h43 h44
      cases h44
      obtain ⟨x48, hx48, b30⟩ := bind_some b30
      refine st_op0 trivial ?_
      refine wf_storeW h20 h45 hx48 rfl (by decide) rfl rfl rfl Try.sizeOf3 rfl ?_
      intro w46 h49 s47
      replace h6 := h6.stp s47 (by decide)
      replace h11 := h11.stp s47 (by decide)
      replace hB := hB.stp s47 (by decide)
      refine wpF_end (r := [(1, u1), (2, (.pointer (some ⟨b5, 0, none⟩))), (4, (.pointer (some ⟨b10, 0, none⟩))), (5, v16), (14, u1), (15, (.int .i64 (p1.length : Int))), (16, (.int .i64 i23))]) ⟨rfl, rfl, rfl, rfl, rfl, rfl, rfl, trivial⟩ ?_
      refine nb_norm ?_
      refine nx ?_
      refine wpC_region ?_
      refine st_val (ex_add rfl rfl (ck_in (by omega) (by omega))) (by decide) trivial ?_
      refine st_val (ex_move rfl) (by decide) trivial ?_
      refine wpF_end (r := [(1, u1), (2, (.pointer (some ⟨b5, 0, none⟩))), (4, (.pointer (some ⟨b10, 0, none⟩))), (5, v16), (14, u1), (15, (.int .i64 (p1.length : Int))), (16, (.int .i64 (i23 + 1)))]) ⟨rfl, rfl, rfl, rfl, rfl, rfl, rfl, trivial⟩ ?_
      refine nt_norm ?_
      have e50 := Option.some.inj b30
      subst e50
      refine to_k (r := [(1, u1), (2, (.pointer (some ⟨b5, 0, none⟩))), (4, (.pointer (some ⟨b10, 0, none⟩))), (5, v16), (14, u1), (15, (.int .i64 (p1.length : Int))), (16, (.int .i64 (i23 + 1)))]) ⟨rfl, rfl, rfl, rfl, rfl, rfl, rfl, trivial⟩ ?_
      intro a ha
      exact ⟨_, (by rw [← m27]; simp only [List.length_drop]; omega), i23 + 1, x48, o21, n31, rfl, (by omega), ha, hB, h49, h6, h11⟩
    · have r51 := forI_done t32 l25
      refine wp_of ha ?_
      refine wpC_seq ?_
      refine wpC_region ?_
      refine st_val (ex_lss rfl rfl) (by decide) trivial ?_
      refine wpF_end (r := [(1, u1), (2, (.pointer (some ⟨b5, 0, none⟩))), (4, (.pointer (some ⟨b10, 0, none⟩))), (5, v16), (14, u1), (15, (.int .i64 (p1.length : Int))), (16, (.int .i64 i23)), (17, (.bool (decide (i23 < (p1.length : Int)))))]) ⟨rfl, rfl, rfl, rfl, rfl, rfl, rfl, rfl, trivial⟩ ?_
      refine nx ?_
      refine wpC_seq ?_
      refine wpC_false (congrArg (fun b => some (Value.bool b)) (decide_eq_false t32)) ?_
      refine wpC_exit ?_
      refine nt_exit ?_
      refine nt_exit ?_
      refine nb_hit ?_
      refine np_norm ?_
      refine to_k (r := [(1, u1), (2, (.pointer (some ⟨b5, 0, none⟩))), (4, (.pointer (some ⟨b10, 0, none⟩))), (5, v16)]) ⟨rfl, rfl, rfl, rfl, trivial⟩ ?_
      intro a ha
      exact ⟨y19, o21, r51, ha, hB, h20, h6, h11⟩
  · rintro a w22 ⟨y19, o21, rfl, ha, hB, h20, h6, h11⟩
    dsimp only at hF
    refine ap_k ha ?_
    refine nx ?_
    refine wpC_seq ?_
    refine wpC_region ?_
    refine st_val (ex_move rfl) (by decide) trivial ?_
    refine st_val (ex_lenR rfl g1 Try.underlying43) (by decide) trivial ?_
    refine st_val (ex_field rfl Try.underlying37 rfl Try.sizeOf3) (by decide) trivial ?_
    refine st_val (ex_load1 rfl Try.isAgg3 (h6.cell rfl)) (by decide) trivial ?_
    refine st_val (ex_build (vs := [(0, (.int .i64 (p1.length : Int))), (1, (.int .i64 p0.Children))]) (cs := [(.int .i64 (p1.length : Int)), (.int .i64 p0.Children), (.slice none 0 0)]) ⟨rfl, rfl, rfl, rfl, trivial⟩ (by kernel_rfl)) (by decide) trivial ?_
    refine st_op (by decide) trivial ?_
    refine wf_alloc (o := o21) w.heap.size 14 hB.keeps.size (cs := [(.int .i64 0), (.int .i64 0), (.slice none 0 0)]) Try.zeroValue37 rfl ?_
    intro o52 w53 b54 h55 s56
    replace h20 := h20.stp s56 (by decide) (by decide)
    replace h6 := h6.stp s56 (by decide)
    replace h11 := h11.stp s56 (by decide)
    replace hB := hB.stp s56 (by decide)
    refine st_op0 trivial ?_
    refine wf_storeA h55 rfl rfl rfl info1_t_impl_RootedProblem_K (by intro c hc; simp only [List.mem_cons, List.not_mem_nil, or_false] at hc; rcases hc with rfl | rfl | rfl <;> first | rfl) ?_
    intro w57 h59 s58
    replace h20 := h20.stp s58 (by decide) (by decide)
    replace h6 := h6.stp s58 (by decide)
    replace h11 := h11.stp s58 (by decide)
    replace hB := hB.stp s58 (by decide)
    refine wpF_end (r := [(1, u1), (2, (.pointer (some ⟨b5, 0, none⟩))), (4, (.pointer (some ⟨b10, 0, none⟩))), (5, v16), (8, (.pointer (some ⟨b54, 0, none⟩)))]) ⟨rfl, rfl, rfl, rfl, rfl, trivial⟩ ?_
    refine nx ?_
    refine wpC_seq ?_
    refine wpC_seq ?_
    refine wpC_region ?_
    refine st_val (ex_field rfl Try.underlying37 rfl Try.sizeOf22) (by decide) trivial ?_
    refine st_val (ex_load1 rfl Try.isAgg22 (h6.cell rfl)) (by decide) trivial ?_
    refine st_val (ex_lenR rfl h2 Try.underlying22) (by decide) trivial ?_
    refine st_val (ex_move rfl) (by decide) trivial ?_
    refine wpF_end (r := [(1, u1), (4, (.pointer (some ⟨b10, 0, none⟩))), (5, v16), (8, (.pointer (some ⟨b54, 0, none⟩))), (32, v1), (33, (.int .i64 (p0.Lines.length : Int))), (34, (.int .i64 0))]) ⟨rfl, rfl, rfl, rfl, rfl, rfl, rfl, trivial⟩ ?_
    refine nx ?_
    have h60 : Ow w.heap.size 43 15 o52 w57 (.slice none 0 0) ([] : List Hv) := Ow.nil _ _ _ _ _
    have h61 : Rws w.heap.size 3 16 o52 w57 [] ([] : List (List Int)) := Rws.nil _ _ _ _ _
    obtain ⟨q70, hq70, hF⟩ := bind_some hF
    refine wpC_cutN (fun a w68 => ∃ (y62 : List (List Int)) (v63 : Value) (g66 : List Hv) (o67 : Tg), q70 = .inl y62 ∧ Fr a 51 [(4, (.pointer (some ⟨b10, 0, none⟩))), (8, (.pointer (some ⟨b54, 0, none⟩)))] ∧ Bs oo o67 w w68 ∧ Bx w.heap.size 12 o67 w68 b10 37 [(.int .i64 0), (.int .i64 0), (.slice none 0 0)] ∧ Bx w.heap.size 14 o67 w68 b54 37 [(.int .i64 (p1.length : Int)), (.int .i64 p0.Children), v63] ∧ Ow w.heap.size 43 15 o67 w68 v63 g66 ∧ Rws w.heap.size 3 16 o67 w68 g66 y62) (fun _ _ => False) ?_ ?_ ?_
    · refine wpC_block ?_
      refine wpC_loop (fun (K : Nat) a w68 => ∃ (i69 : Int) (y62 : List (List Int)) (v63 : Value) (g66 : List Hv) (o67 : Tg), forI (fS_roKeep_s2 p1 y19) (p0.Lines.drop i69.toNat) i69 y62 = some q70 ∧ (p0.Lines.drop i69.toNat).length = K ∧ 0 ≤ i69 ∧ Fr a 51 [(1, u1), (4, (.pointer (some ⟨b10, 0, none⟩))), (5, v16), (8, (.pointer (some ⟨b54, 0, none⟩))), (32, v1), (33, (.int .i64 (p0.Lines.length : Int))), (34, (.int .i64 i69))] ∧ Bs oo o67 w w68 ∧ Ow w.heap.size 3 13 o67 w68 v16 y19 ∧ Bx w.heap.size 12 o67 w68 b10 37 [(.int .i64 0), (.int .i64 0), (.slice none 0 0)] ∧ Bx w.heap.size 14 o67 w68 b54 37 [(.int .i64 (p1.length : Int)), (.int .i64 p0.Children), v63] ∧ Ow w.heap.size 43 15 o67 w68 v63 g66 ∧ Rws w.heap.size 3 16 o67 w68 g66 y62) _ (fun a ha => ⟨0, [], (.slice none 0 0), [], o52, hq70, rfl, Int.le_refl 0, ha.sub (r := [(1, u1), (4, (.pointer (some ⟨b10, 0, none⟩))), (5, v16), (8, (.pointer (some ⟨b54, 0, none⟩))), (32, v1), (33, (.int .i64 (p0.Lines.length : Int))), (34, (.int .i64 0))]) ⟨rfl, rfl, rfl, rfl, rfl, rfl, rfl, trivial⟩, hB, h20, h11, h59, h60, h61⟩) ?_
      rintro K74 a w68 ⟨i69, y62, v63, g66, o67, l71, m73, z72, ha, hB, h20, h11, h59, h64, h65⟩
      by_cases t78 : i69 < (p0.Lines.length : Int)
      · obtain ⟨x79, q75, hx79, b76, n77⟩ := forI_cons z72 t78 l71
        have hle := h2.len_le
        dsimp only [fS_roKeep_s2] at b76
        refine wp_of ha ?_
        refine wpC_seq ?_
        refine wpC_region ?_
        refine st_val (ex_lss rfl rfl) (by decide) trivial ?_
        refine wpF_end (r := [(1, u1), (4, (.pointer (some ⟨b10, 0, none⟩))), (5, v16), (8, (.pointer (some ⟨b54, 0, none⟩))), (32, v1), (33, (.int .i64 (p0.Lines.length : Int))), (34, (.int .i64 i69)), (35, (.bool (decide (i69 < (p0.Lines.length : Int)))))]) ⟨rfl, rfl, rfl, rfl, rfl, rfl, rfl, rfl, trivial⟩ ?_
        refine nx ?_
        refine wpC_seq ?_
        refine wpC_true (congrArg (fun b => some (Value.bool b)) (decide_eq_true t78)) ?_
        refine wpC_skip ?_
        refine nx ?_
        refine wpC_seq ?_
        refine wpC_block ?_
        refine wpC_seq ?_
        refine wpC_region ?_
        refine st_op (by decide) trivial ?_
        refine wf_atZ h2 hx79 hB rfl rfl Try.underlying22 Try.sizeOf43 ?_
        intro b80 f81 c82 h83 h84
        obtain ⟨v85, rfl, h86⟩ := h84
        refine st_val (ex_load1 rfl Try.isAgg43 (cell_of_cells h83)) (by decide) trivial ?_
        refine st_val (ex_assign rfl) (by decide) trivial ?_
        refine wpF_end (r := [(1, u1), (4, (.pointer (some ⟨b10, 0, none⟩))), (5, v16), (8, (.pointer (some ⟨b54, 0, none⟩))), (10, v85), (32, v1), (33, (.int .i64 (p0.Lines.length : Int))), (34, (.int .i64 i69))]) ⟨rfl, rfl, rfl, rfl, rfl, rfl, rfl, rfl, trivial⟩ ?_
        refine nx ?_
        refine wpC_seq ?_
        refine wpC_region ?_
        refine st_val (ex_move rfl) (by decide) trivial ?_
        refine st_val (ex_move rfl) (by decide) trivial ?_
        obtain ⟨x87, hx87, b76⟩ := bind_some b76
        refine st_op (by decide) trivial ?_
        refine wf_call (cS_prAll w68 _ x79 (h86.keep hB.keeps) _ p1 (g1.keep hB.keeps) x87 hx87) Try.call107 ⟨rfl, rfl, trivial⟩ ?_
        rintro e92 w88 ⟨rfl, k89⟩
        have s91 := k89.stp 999 o67
        refine ⟨_, rfl, ?_⟩
        replace h20 := h20.stp s91 (by decide) (by decide)
        replace h11 := h11.stp s91 (by decide)
        replace h59 := h59.stp s91 (by decide)
        replace h64 := h64.stp s91 (by decide) (by decide)
        replace h65 := h65.stp s91 (by decide) (by decide)
        replace hB := hB.stp s91 (by decide)
        refine wpF_end (r := [(1, u1), (4, (.pointer (some ⟨b10, 0, none⟩))), (5, v16), (8, (.pointer (some ⟨b54, 0, none⟩))), (10, v85), (32, v1), (33, (.int .i64 (p0.Lines.length : Int))), (34, (.int .i64 i69)), (40, (.bool x87))]) ⟨rfl, rfl, rfl, rfl, rfl, rfl, rfl, rfl, rfl, trivial⟩ ?_
        refine nx ?_
        refine wpC_cond rfl (fun t93 => ?_) (fun t93 => ?_)
        · rw [if_pos t93] at b76
          obtain ⟨x94, hx94, b76⟩ := bind_some b76
          refine wpC_drawn (o := o67) [(1, u1), (4, (.pointer (some ⟨b10, 0, none⟩))), (5, v16), (8, (.pointer (some ⟨b54, 0, none⟩))), (10, v85), (32, v1), (33, (.int .i64 (p0.Lines.length : Int))), (34, (.int .i64 i69))] [1, 4, 5, 8, 10, 32, 33, 34] [41, 42, 43, 44, 45, 46] [[], [0], [], [], [2, 3], [4]] [none, none, none, none, none, none] [999, 999, 999, 999, 999, 999] [0, 0, 0, 0, 18, 18] [999] [fun v _ _ => v = (.pointer (some ⟨b54, 0 + 2, none⟩)), fun v _ _ => v = v63, fun v _ _ => v = v16, fun v _ _ => v = v85, fun v o w9 => Ow w.heap.size 3 18 o w9 v x94, fun v o w9 => ∃ u : Value, RdL o w9 v [(⟨u⟩ : Hv)] ∧ Ow w.heap.size 3 18 o w9 u x94] (fun o8 w8 => Bs oo o8 w w8 ∧ Ow w.heap.size 3 13 o8 w8 v16 y19 ∧ Bx w.heap.size 12 o8 w8 b10 37 [(.int .i64 0), (.int .i64 0), (.slice none 0 0)] ∧ Bx w.heap.size 14 o8 w8 b54 37 [(.int .i64 (p1.length : Int)), (.int .i64 p0.Children), v63] ∧ Ow w.heap.size 43 15 o8 w8 v63 g66 ∧ Rws w.heap.size 3 16 o8 w8 g66 y62) follows_mixed (by kernel_rfl) rfl ⟨rfl, rfl, rfl, rfl, rfl, rfl, rfl, rfl, trivial⟩ ⟨hB, h20, h11, h59, h64, h65⟩ ?_ ⟨st_eq _, st_eq _, st_eq _, st_eq _, fun _ _ _ _ _ _ h0 hb h hs => h.stp hs h0 (Ne.symm hb), fun _ _ _ _ _ _ h0 hb ⟨u, h, h2⟩ hs => ⟨u, h.stp hs h0, h2.stp hs h0 (Ne.symm hb)⟩, trivial⟩ ?_ ?_
          · rintro t9 o1 w1 o2 w2 ht9 ⟨hB, h20, h11, h59, h64, h65⟩ hs9
            have ht9 : t9 = 999 := by simpa using ht9
            subst ht9
            all_goals exact ⟨hB.stp hs9 (by decide), h20.stp hs9 (by decide) (by decide), h11.stp hs9 (by decide), h59.stp hs9 (by decide), h64.stp hs9 (by decide) (by decide), h65.stp hs9 (by decide) (by decide)⟩
          · refine ⟨?_, ?_, ?_, ?_, ?_, ?_, trivial⟩
            · rintro o109 w110 a111 ha ⟨hB, h20, h11, h59, h64, h65⟩ -
              refine opS_of ha (trivial) ?_
              refine op1_val (ex_field rfl Try.underlying37 rfl Try.sizeOf22) ?_
              exact ⟨_, Stp.refl _ _ _, rfl⟩
            · rintro o112 w113 a114 ha ⟨hB, h20, h11, h59, h64, h65⟩ ⟨r115, -⟩
              have ha := Fr.cons (d := 41) ha r115
              refine opS_of ha (trivial) ?_
              refine op1_val (ex_load1 rfl Try.isAgg22 (h59.cell rfl)) ?_
              exact ⟨_, Stp.refl _ _ _, rfl⟩
            · rintro o116 w117 a118 ha ⟨hB, h20, h11, h59, h64, h65⟩ -
              refine opS_of ha (trivial) ?_
              refine op1_val (ex_move rfl) ?_
              exact ⟨_, Stp.refl _ _ _, rfl⟩
            · rintro o119 w120 a121 ha ⟨hB, h20, h11, h59, h64, h65⟩ -
              refine opS_of ha (trivial) ?_
              refine op1_val (ex_move rfl) ?_
              exact ⟨_, Stp.refl _ _ _, rfl⟩
            · rintro o122 w123 a124 ha ⟨hB, h20, h11, h59, h64, h65⟩ ⟨r125, r126, -⟩
              have ha := Fr.cons (d := 43) ha r125
              have ha := Fr.cons (d := 44) ha r126
              refine opS_of ha (trivial) ?_
              refine wf_call (cS_coThrough w123 o122 18 (by decide) _ y19 h20.z _ x79 (h86.keep hB.keeps) x94 hx94) Try.call108 ⟨rfl, rfl, trivial⟩ ?_
              rintro e133 w127 ⟨v128, o134, rfl, h129, k130, k131⟩
              have s132 := k130.stp' 999 k131
              replace h129 := h129.mono hB.keeps.size
              refine ⟨_, rfl, ?_⟩
              replace h20 := h20.stp s132 (by decide) (by decide)
              replace h11 := h11.stp s132 (by decide)
              replace h59 := h59.stp s132 (by decide)
              replace h64 := h64.stp s132 (by decide) (by decide)
              replace h65 := h65.stp s132 (by decide) (by decide)
              replace hB := hB.stp s132 (by decide)
              exact ⟨_, s132, h129⟩
            · rintro o135 w136 a137 ha ⟨hB, h20, h11, h59, h64, h65⟩ ⟨r138, -⟩
              replace r138 : Ow w.heap.size 3 18 o135 w136 (a137.tmps.getD 45 undef) x94 := r138
              generalize e140 : a137.tmps.getD 45 undef = v139 at r138
              have ha := Fr.cons (d := 45) ha e140
              refine opS_of ha (trivial) ?_
              refine wf_litR (o := o135) (cs := [v139]) (xs := ([⟨v139⟩] : List Hv)) (vs := [(0, v139)]) ⟨_, _, rfl, rd_hv r138, rfl⟩ rfl ⟨rfl, rfl, trivial⟩ Try.underlying22 Try.sizeOf43 Try.zeroValue43 (by decide) (fill1 r138.cells1) (by simp) ?_
              intro o141 w142 v143 h144 s145 k146
              replace h20 := h20.stp s145 (by decide) (by decide)
              replace r138 := r138.stp s145 (by decide) (by decide)
              replace h11 := h11.stp s145 (by decide)
              replace h59 := h59.stp s145 (by decide)
              replace h64 := h64.stp s145 (by decide) (by decide)
              replace h65 := h65.stp s145 (by decide) (by decide)
              replace hB := hB.stp s145 (by decide)
              exact ⟨_, s145, ⟨_, h144, r138⟩⟩
          rintro o147 w148 a149 ha ⟨hB, h20, h11, h59, h64, h65⟩ ⟨-, r150, -, -, -, r151, -⟩
          have ha := Fr.cons (d := 42) ha r150
          obtain ⟨v154, h155, h156⟩ := r151
          replace h155 : RdL o147 w148 (a149.tmps.getD 46 undef) ([⟨v154⟩] : List Hv) := h155
          replace h156 : Ow w.heap.size 3 18 o147 w148 v154 x94 := h156
          generalize e153 : a149.tmps.getD 46 undef = v152 at h155
          have ha := Fr.cons (d := 46) ha e153
          refine wl_of ha ?_
          simp only [List.length_cons, List.length_nil, Nat.zero_add, Nat.reduceAdd, List.drop_succ_cons, List.drop_zero]
          obtain ⟨x157, hx157, b76⟩ := bind_some b76
          obtain ⟨h158, h159⟩ := h65.pushV hx157 v154
          refine st_op (by decide) trivial ?_
          refine wf_cat h64 h155 (push_cat h158) (by decide) hB.keeps.size rfl rfl Try.underlying22 info2_t_Lint_K rfl (by decide) ?_
          intro o160 w161 v162 h163 s164
          replace h20 := h20.stp s164 (by decide) (by decide)
          replace h65 := h65.stp s164 (by decide) (by decide)
          replace h156 := h156.stp s164 (by decide) (by decide)
          replace h11 := h11.stp s164 (by decide)
          replace h59 := h59.stp s164 (by decide)
          replace hB := hB.stp s164 (by decide)
          have h165 := h65.push h156 (by decide) (by decide)
          rw [← h159] at h165
          clear h65 h156
          have r166 := mrg_rc 18 16 o160
          replace h20 := h20.rc r166 (by decide) (by decide)
          replace h163 := h163.rc r166 (by decide) (by decide)
          replace h11 := h11.rc r166 (by decide)
          replace h59 := h59.rc r166 (by decide)
          replace hB := hB.rc r166 (by decide)
          generalize mrg 18 16 o160 = o167 at *
          refine st_val (ex_field rfl Try.underlying37 rfl Try.sizeOf22) (by decide) trivial ?_
          refine st_op0 trivial ?_
          refine wf_storeB h59 rfl rfl (of_decide_eq_true rfl) Try.sizeOf22 h163.cells1 h163.one1 ?_
          intro w168 h170 s169
          replace h20 := h20.stp s169 (by decide) (by decide)
          replace h163 := h163.stp s169 (by decide) (by decide)
          replace h165 := h165.stp s169 (by decide) (by decide)
          replace h11 := h11.stp s169 (by decide)
          replace hB := hB.stp s169 (by decide)
          replace h170 : Bx w.heap.size 14 o167 w168 b54 37 [(.int .i64 (p1.length : Int)), (.int .i64 p0.Children), v162] := h170
          refine wpF_end (r := [(1, u1), (4, (.pointer (some ⟨b10, 0, none⟩))), (5, v16), (8, (.pointer (some ⟨b54, 0, none⟩))), (32, v1), (33, (.int .i64 (p0.Lines.length : Int))), (34, (.int .i64 i69))]) ⟨rfl, rfl, rfl, rfl, rfl, rfl, rfl, trivial⟩ ?_
          refine nb_norm ?_
          refine nx ?_
          refine wpC_region ?_
          refine st_val (ex_add rfl rfl (ck_in (by omega) (by omega))) (by decide) trivial ?_
          refine st_val (ex_move rfl) (by decide) trivial ?_
          refine wpF_end (r := [(1, u1), (4, (.pointer (some ⟨b10, 0, none⟩))), (5, v16), (8, (.pointer (some ⟨b54, 0, none⟩))), (32, v1), (33, (.int .i64 (p0.Lines.length : Int))), (34, (.int .i64 (i69 + 1)))]) ⟨rfl, rfl, rfl, rfl, rfl, rfl, rfl, trivial⟩ ?_
          refine nt_norm ?_
          have e171 := Option.some.inj b76
          subst e171
          refine to_k (r := [(1, u1), (4, (.pointer (some ⟨b10, 0, none⟩))), (5, v16), (8, (.pointer (some ⟨b54, 0, none⟩))), (32, v1), (33, (.int .i64 (p0.Lines.length : Int))), (34, (.int .i64 (i69 + 1)))]) ⟨rfl, rfl, rfl, rfl, rfl, rfl, rfl, trivial⟩ ?_
          intro a ha
          exact ⟨_, (by rw [← m73]; simp only [List.length_drop]; omega), i69 + 1, x157, v162, (g66 ++ [⟨v154⟩]), o167, n77, rfl, (by omega), ha, hB, h20, h11, h170, h163, h165⟩
        · rw [if_neg (by rw [t93]; decide)] at b76
          refine wpC_skip ?_
          refine nb_norm ?_
          refine nx ?_
          refine wpC_region ?_
          refine st_val (ex_add rfl rfl (ck_in (by omega) (by omega))) (by decide) trivial ?_
          refine st_val (ex_move rfl) (by decide) trivial ?_
          refine wpF_end (r := [(1, u1), (4, (.pointer (some ⟨b10, 0, none⟩))), (5, v16), (8, (.pointer (some ⟨b54, 0, none⟩))), (32, v1), (33, (.int .i64 (p0.Lines.length : Int))), (34, (.int .i64 (i69 + 1)))]) ⟨rfl, rfl, rfl, rfl, rfl, rfl, rfl, trivial⟩ ?_
          refine nt_norm ?_
          have e172 := Option.some.inj b76
          subst e172
          refine to_k (r := [(1, u1), (4, (.pointer (some ⟨b10, 0, none⟩))), (5, v16), (8, (.pointer (some ⟨b54, 0, none⟩))), (32, v1), (33, (.int .i64 (p0.Lines.length : Int))), (34, (.int .i64 (i69 + 1)))]) ⟨rfl, rfl, rfl, rfl, rfl, rfl, rfl, trivial⟩ ?_
          intro a ha
          exact ⟨_, (by rw [← m73]; simp only [List.length_drop]; omega), i69 + 1, y62, v63, g66, o67, n77, rfl, (by omega), ha, hB, h20, h11, h59, h64, h65⟩
      · have r173 := forI_done t78 l71
        refine wp_of ha ?_
        refine wpC_seq ?_
        refine wpC_region ?_
        refine st_val (ex_lss rfl rfl) (by decide) trivial ?_
        refine wpF_end (r := [(1, u1), (4, (.pointer (some ⟨b10, 0, none⟩))), (5, v16), (8, (.pointer (some ⟨b54, 0, none⟩))), (32, v1), (33, (.int .i64 (p0.Lines.length : Int))), (34, (.int .i64 i69)), (35, (.bool (decide (i69 < (p0.Lines.length : Int)))))]) ⟨rfl, rfl, rfl, rfl, rfl, rfl, rfl, rfl, trivial⟩ ?_
        refine nx ?_
        refine wpC_seq ?_
        refine wpC_false (congrArg (fun b => some (Value.bool b)) (decide_eq_false t78)) ?_
        refine wpC_exit ?_
        refine nt_exit ?_
        refine nt_exit ?_
        refine nb_hit ?_
        refine np_norm ?_
        refine to_k (r := [(4, (.pointer (some ⟨b10, 0, none⟩))), (8, (.pointer (some ⟨b54, 0, none⟩)))]) ⟨rfl, rfl, trivial⟩ ?_
        intro a ha
        exact ⟨y62, v63, g66, o67, r173, ha, hB, h11, h59, h64, h65⟩
    · rintro a w68 ⟨y62, v63, g66, o67, rfl, ha, hB, h11, h59, h64, h65⟩
      dsimp only at hF
      refine ap_k ha ?_
      refine nx ?_
      refine wpC_seq ?_
      refine wpC_region ?_
      refine st_val (ex_loadA rfl Try.isAgg37 Try.sizeOf37 rfl h59.cells) (by decide) trivial ?_
      refine st_op0 trivial ?_
      refine wf_storeA h11 rfl rfl rfl info1_t_impl_RootedProblem_K (by intro c hc; simp only [List.mem_cons, List.not_mem_nil, or_false] at hc; rcases hc with rfl | rfl | rfl <;> first | rfl | exact h64.one1) ?_
      intro w174 h176 s175
      replace h64 := h64.stp s175 (by decide) (by decide)
      replace h65 := h65.stp s175 (by decide) (by decide)
      replace h59 := h59.stp s175 (by decide)
      replace hB := hB.stp s175 (by decide)
      refine wpF_end (r := [(4, (.pointer (some ⟨b10, 0, none⟩)))]) ⟨rfl, trivial⟩ ?_
      refine nx ?_
      refine wpC_ret ?_
      have h177 := Dz.of h64 h65 (by decide) (by decide) (by decide)
      have r178 := frz_rc 15 o67
      have r179 := frz_rc 16 (frz 15 o67)
      replace h176 := (h176.rc r178 (by decide)).rc r179 (by decide)
      replace h59 := (h59.rc r178 (by decide)).rc r179 (by decide)
      replace hB := (hB.rc r178 (by decide)).rc r179 (by decide)
      clear r178 r179
      generalize frz 16 (frz 15 o67) = o181 at *
      have h180 := h177.rd
      have e182 := Option.some.inj hF
      subst e182
      refine ret_post (P := Try.prog) (vs := [(.agg #[(.int .i64 (p1.length : Int)), (.int .i64 p0.Children), v63])]) Try.results85 ⟨⟨_, rfl, run_loadA Try.isAgg37 Try.sizeOf37 rfl h176.cells⟩, trivial⟩ ?_
      exact ⟨[(.int .i64 (p1.length : Int)), (.int .i64 p0.Children), v63], rt oo o181 w.heap.size 9 t, rfl, ⟨_, rfl, h180.rt hB 9 t (by decide)⟩, h177.rt hB 9 t (by decide), hB.keeps, rt_old _ _ _ _ _⟩
    · exact fun _ _ h => h.elim
  · exact fun _ _ h => h.elim

def fS_KeepRooted (fuel : Nat) (p0 : T_RootedProblem) (p1 : List Int) : Option (T_RootedProblem × Bool) :=
  (fS_roGood fuel p0) >>= fun x13 =>
  (
    if !x13 then
      some true
    else
      if (p1.length : Int) == 0 then
        some true
      else
        (ck (p0.Labels - 1)) >>= fun x24 =>
        (fS_l1Rising p1 0 x24) >>= fun x25 =>
        some (!x25)) >>= fun q19 =>
  if q19 then
    some ((⟨0, 0, []⟩ : T_RootedProblem), false)
  else
    (fS_roKeep p0 p1) >>= fun x39 =>
    some (x39, true)

def pS_KeepRooted (oo : Tg) (t : Nat) (w : World) (r : T_RootedProblem × Bool) : Ending → World → Prop := fun e w' => ∃ (v0 : List Value) (o' : Tg), e = .returned (.tuple #[.agg v0.toArray, .bool r.2]) ∧ Rp.rd o' w' v0 r.1 ∧ Dz 43 3 o' w' (v0.getD 2 undef) r.1.Lines ∧ Keeps w w' ∧ ∀ b, b < w.heap.size → o' b = oo b
set_option maxRecDepth 100000 in
set_option maxHeartbeats 2000000 in
theorem cS_KeepRooted (fuel : Nat) (w : World) (oo : Tg) (t : Nat) (ht : 2 ≤ t) (u0 : List Value) (p0 : T_RootedProblem) (g0 : Rp.rd zt w u0 p0) (u1 : Value) (p1 : List Int) (g1 : RdL zt w u1 p1) (r : T_RootedProblem × Bool) (hF : fS_KeepRooted fuel p0 p1 = some r) :
    Calls Try.prog 50 #[.agg u0.toArray, u1] w (pS_KeepRooted oo t w r) := by
  unfold fS_KeepRooted at hF
  obtain ⟨v1, rfl, h2⟩ := g0
  have hB : Bs oo (col oo) w w := Bs.start _ _
  refine calls_start (n := 26) (vs := [(.agg #[(.int .i64 p0.Labels), (.int .i64 p0.Children), v1]), u1]) Try.func50 rfl rfl ?_
  generalize col oo = o at *
  refine wpC_seq ?_
  refine wpC_region ?_
  refine st_op (by decide) trivial ?_
  refine wf_box (o := o) w.heap.size 11 hB.keeps.size (cs := [(.int .i64 p0.Labels), (.int .i64 p0.Children), v1]) rfl rfl ?_
  intro o3 w4 b5 h6 s7
  replace hB := hB.stp s7 (by decide)
  refine st_op (by decide) trivial ?_
  refine wf_alloc (o := o3) w.heap.size 12 hB.keeps.size (cs := [(.int .i64 0), (.int .i64 0), (.slice none 0 0)]) Try.zeroValue37 rfl ?_
  intro o8 w9 b10 h11 s12
  replace h6 := h6.stp s12 (by decide)
  replace hB := hB.stp s12 (by decide)
  refine st_val (ex_assign rfl) (by decide) trivial ?_
  refine wpF_end (r := [(1, u1), (2, (.pointer (some ⟨b5, 0, none⟩))), (4, (.pointer (some ⟨b10, 0, none⟩)))]) ⟨rfl, rfl, rfl, trivial⟩ ?_
  refine nx ?_
  refine wpC_seq ?_
  refine wpC_seq ?_
  refine wpC_region ?_
  refine st_val (ex_loadA rfl Try.isAgg37 Try.sizeOf37 rfl h6.cells) (by decide) trivial ?_
  obtain ⟨x13, hx13, hF⟩ := bind_some hF
  refine st_op (by decide) trivial ?_
  refine wf_call (cS_roGood fuel w9 _ p0 (⟨_, rfl, (h2.keep hB.keeps)⟩) x13 hx13) Try.call62 ⟨rfl, trivial⟩ ?_
  rintro e18 w14 ⟨rfl, k15⟩
  have s17 := k15.stp 999 o8
  refine ⟨_, rfl, ?_⟩
  replace h6 := h6.stp s17 (by decide)
  replace h11 := h11.stp s17 (by decide)
  replace hB := hB.stp s17 (by decide)
  refine st_val (ex_not rfl) (by decide) trivial ?_
  refine st_val (ex_move rfl) (by decide) trivial ?_
  obtain ⟨q19, hq19, hF⟩ := bind_some hF
  refine wpF_cutAt 12 (fun a21 w20 => Fr a21 26 [(1, u1), (2, (.pointer (some ⟨b5, 0, none⟩))), (4, (.pointer (some ⟨b10, 0, none⟩))), (21, (.bool q19))] ∧ Keeps w14 w20) ?_ ?_
  all_goals simp only [List.take_succ_cons, List.take_zero, List.drop_succ_cons, List.drop_zero]
  · have kp : Keeps w14 w14 := Keeps.refl _
    rcases Bool.eq_false_or_eq_true (!x13) with t22 | t22
    · rw [if_pos t22] at hq19
      refine st_no rfl rfl (by rw [t22]; rfl) (by decide) ?_
      refine st_no rfl rfl (by rw [t22]; rfl) (by decide) ?_
      refine st_no rfl rfl (by rw [t22]; rfl) (by decide) ?_
      refine st_val (ex_pick_t (congrArg (fun b => some (Value.bool b)) t22) rfl) (by decide) trivial ?_
      refine st_val (ex_move rfl) (by decide) trivial ?_
      refine st_no rfl rfl rfl (by decide) ?_
      refine st_no rfl rfl rfl (by decide) ?_
      refine st_no rfl rfl rfl (by decide) ?_
      refine st_no rfl rfl rfl (by decide) ?_
      refine st_no rfl rfl rfl (by decide) ?_
      refine st_no rfl rfl rfl (by decide) ?_
      refine st_val (ex_pick_t rfl rfl) (by decide) trivial ?_
      have hq192 := Option.some.inj hq19
      refine wpF_end (r := [(1, u1), (2, (.pointer (some ⟨b5, 0, none⟩))), (4, (.pointer (some ⟨b10, 0, none⟩))), (21, (.bool true))]) ⟨rfl, rfl, rfl, rfl, trivial⟩ ?_
      subst hq192
      refine np_norm (fun a ha => ⟨ha, kp⟩)
    · rw [if_neg (by rw [t22]; decide)] at hq19
      refine st_val (ex_move rfl) (by decide) ⟨_, rfl, (congrArg (fun b => some (Value.bool b)) t22)⟩ ?_
      refine st_val (ex_lenR rfl g1 Try.underlying43) (by decide) ⟨_, rfl, (congrArg (fun b => some (Value.bool b)) t22)⟩ ?_
      refine st_val (ex_eql rfl rfl) (by decide) ⟨_, rfl, (congrArg (fun b => some (Value.bool b)) t22)⟩ ?_
      refine st_val (ex_pick_f (congrArg (fun b => some (Value.bool b)) t22) rfl) (by decide) trivial ?_
      refine st_val (ex_move rfl) (by decide) trivial ?_
      rcases Bool.eq_false_or_eq_true ((p1.length : Int) == 0) with t23 | t23
      · rw [if_pos t23] at hq19
        refine st_no rfl rfl (by rw [t23]; rfl) (by decide) ?_
        refine st_no rfl rfl (by rw [t23]; rfl) (by decide) ?_
        refine st_no rfl rfl (by rw [t23]; rfl) (by decide) ?_
        refine st_no rfl rfl (by rw [t23]; rfl) (by decide) ?_
        refine st_no rfl rfl (by rw [t23]; rfl) (by decide) ?_
        refine st_no rfl rfl (by rw [t23]; rfl) (by decide) ?_
        refine st_val (ex_pick_t (congrArg (fun b => some (Value.bool b)) t23) rfl) (by decide) trivial ?_
        have hq192 := Option.some.inj hq19
        refine wpF_end (r := [(1, u1), (2, (.pointer (some ⟨b5, 0, none⟩))), (4, (.pointer (some ⟨b10, 0, none⟩))), (21, (.bool true))]) ⟨rfl, rfl, rfl, rfl, trivial⟩ ?_
        subst hq192
        refine np_norm (fun a ha => ⟨ha, kp⟩)
      · rw [if_neg (by rw [t23]; decide)] at hq19
        refine st_val (ex_move rfl) (by decide) ⟨_, rfl, (congrArg (fun b => some (Value.bool b)) t23)⟩ ?_
        refine st_val (ex_field rfl Try.underlying37 rfl Try.sizeOf3) (by decide) ⟨_, rfl, (congrArg (fun b => some (Value.bool b)) t23)⟩ ?_
        refine st_val (ex_load1 rfl Try.isAgg3 (h6.cell rfl)) (by decide) ⟨_, rfl, (congrArg (fun b => some (Value.bool b)) t23)⟩ ?_
        obtain ⟨x24, hx24, hq19⟩ := bind_some hq19
        refine st_val (ex_sub rfl rfl hx24) (by decide) ⟨_, rfl, (congrArg (fun b => some (Value.bool b)) t23)⟩ ?_
        obtain ⟨x25, hx25, hq19⟩ := bind_some hq19
        refine st_op (by decide) ⟨_, rfl, (congrArg (fun b => some (Value.bool b)) t23)⟩ ?_
        refine wf_call (cS_l1Rising w14 _ p1 (g1.keep hB.keeps) 0 x24 x25 hx25) Try.call84 ⟨rfl, rfl, rfl, trivial⟩ ?_
        rintro e30 w26 ⟨rfl, k27⟩
        have s29 := k27.stp 999 o8
        refine ⟨_, rfl, ?_⟩
        replace h6 := h6.stp s29 (by decide)
        replace h11 := h11.stp s29 (by decide)
        replace hB := hB.stp s29 (by decide)
        replace kp := Keeps.trans kp k27
        refine st_val (ex_not rfl) (by decide) ⟨_, rfl, (congrArg (fun b => some (Value.bool b)) t23)⟩ ?_
        refine st_val (ex_pick_f (congrArg (fun b => some (Value.bool b)) t23) rfl) (by decide) trivial ?_
        have hq192 := Option.some.inj hq19
        refine wpF_end (r := [(1, u1), (2, (.pointer (some ⟨b5, 0, none⟩))), (4, (.pointer (some ⟨b10, 0, none⟩))), (21, (.bool (!x25)))]) ⟨rfl, rfl, rfl, rfl, trivial⟩ ?_
        subst hq192
        refine np_norm (fun a ha => ⟨ha, kp⟩)
  rintro a33 w20 ⟨ha, k31⟩
  have s32 := k31.stp 999 o8
  replace h6 := h6.stp s32 (by decide)
  replace h11 := h11.stp s32 (by decide)
  replace hB := hB.stp s32 (by decide)
  refine wl_of ha ?_
  refine wpF_end (r := [(1, u1), (2, (.pointer (some ⟨b5, 0, none⟩))), (4, (.pointer (some ⟨b10, 0, none⟩))), (21, (.bool q19))]) ⟨rfl, rfl, rfl, rfl, trivial⟩ ?_
  refine nx ?_
  refine wpC_cond rfl (fun t34 => ?_) (fun t34 => ?_)
  · rw [if_pos t34] at hF
    refine wpC_seq ?_
    refine wpC_region ?_
    refine st_val (ex_build (vs := []) (cs := [(.int .i64 0), (.int .i64 0), (.slice none 0 0)]) trivial (by kernel_rfl)) (by decide) trivial ?_
    refine st_op0 trivial ?_
    refine wf_storeA h11 rfl rfl rfl info1_t_impl_RootedProblem_K (by intro c hc; simp only [List.mem_cons, List.not_mem_nil, or_false] at hc; rcases hc with rfl | rfl | rfl <;> first | rfl) ?_
    intro w35 h37 s36
    replace h6 := h6.stp s36 (by decide)
    replace hB := hB.stp s36 (by decide)
    refine st_val (ex_assign rfl) (by decide) trivial ?_
    refine wpF_end (r := [(4, (.pointer (some ⟨b10, 0, none⟩))), (5, (.bool false))]) ⟨rfl, rfl, trivial⟩ ?_
    refine nx ?_
    refine wpC_ret ?_
    refine nt_ret ?_
    have e38 := Option.some.inj hF
    subst e38
    refine ret_post (P := Try.prog) (vs := [(.agg #[(.int .i64 0), (.int .i64 0), (.slice none 0 0)]), (.bool false)]) Try.results50 ⟨⟨_, rfl, run_loadA Try.isAgg37 Try.sizeOf37 rfl h37.cells⟩, rfl, trivial⟩ ?_
    exact ⟨[(.int .i64 0), (.int .i64 0), (.slice none 0 0)], rt oo o8 w.heap.size 9 t, rfl, ⟨_, rfl, RdL.nil _ _⟩, (Dz.nil _ _ _ _), hB.keeps, rt_old _ _ _ _ _⟩
  · rw [if_neg (by rw [t34]; decide)] at hF
    refine wpC_skip ?_
    refine nx ?_
    refine wpC_seq ?_
    refine wpC_region ?_
    refine st_val (ex_loadA rfl Try.isAgg37 Try.sizeOf37 rfl h6.cells) (by decide) trivial ?_
    refine st_val (ex_move rfl) (by decide) trivial ?_
    obtain ⟨x39, hx39, hF⟩ := bind_some hF
    refine st_op (by decide) trivial ?_
    refine wf_call (cS_roKeep w20 o8 15 (by decide) _ p0 (⟨_, rfl, (h2.keep hB.keeps)⟩) _ p1 (g1.keep hB.keeps) x39 hx39) Try.call85 ⟨rfl, rfl, trivial⟩ ?_
    rintro e47 w40 ⟨c41, o48, rfl, h42, h43, k44, k45⟩
    have s46 := k44.stp' 15 k45
    refine ⟨_, rfl, ?_⟩
    obtain ⟨v49, rfl, h50⟩ := h42
    replace h43 : Dz 43 3 o48 w40 v49 x39.Lines := h43
    replace h6 := h6.stp s46 (by decide)
    replace h11 := h11.stp s46 (by decide)
    replace hB := hB.stp s46 (by decide)
    refine st_op0 trivial ?_
    refine wf_storeA h11 rfl rfl rfl info1_t_impl_RootedProblem_K (by intro c hc; simp only [List.mem_cons, List.not_mem_nil, or_false] at hc; rcases hc with rfl | rfl | rfl <;> first | rfl | exact h50.one1) ?_
    intro w51 h53 s52
    replace h50 := h50.stp s52 (by decide)
    replace h43 := h43.stp s52 (by decide)
    replace h6 := h6.stp s52 (by decide)
    replace hB := hB.stp s52 (by decide)
    refine st_val (ex_assign rfl) (by decide) trivial ?_
    refine wpF_end (r := [(4, (.pointer (some ⟨b10, 0, none⟩))), (5, (.bool true))]) ⟨rfl, rfl, trivial⟩ ?_
    refine nx ?_
    refine wpC_ret ?_
    have e54 := Option.some.inj hF
    subst e54
    refine ret_post (P := Try.prog) (vs := [(.agg #[(.int .i64 x39.Labels), (.int .i64 x39.Children), v49]), (.bool true)]) Try.results50 ⟨⟨_, rfl, run_loadA Try.isAgg37 Try.sizeOf37 rfl h53.cells⟩, rfl, trivial⟩ ?_
    exact ⟨[(.int .i64 x39.Labels), (.int .i64 x39.Children), v49], rt oo o48 w.heap.size 9 t, rfl, ⟨_, rfl, h50.rt hB 9 t (by decide)⟩, h43.rt hB 9 t (by decide), hB.keeps, rt_old _ _ _ _ _⟩

def fI_KeepRooted_s1 : Int → Int → (List Int) → Option (Lp (List Int) (List Int) (T_RootedProblem × Bool)) := fun (i49 : Int) (x59 : Int) (s : List Int) =>
  (ix s x59) >>= fun x65 =>
  (st s x59 i49) >>= fun x74 =>
  some (.go x74)
def fI_KeepRooted_s2 (p1 : List Int) (y45 : List Int) : Int → (List Int) → (List (List Int)) → Option (Lp (List (List Int)) (List (List Int)) (T_RootedProblem × Bool)) := fun (i95 : Int) (x105 : List Int) (s : List (List Int)) =>
  (fI_setOf p1) >>= fun x113 =>
  (fI_onlyIn x113 x105) >>= fun x119 =>
  if x119 then
    (fI_images x105 y45) >>= fun x126 =>
    (push s x126) >>= fun x189 =>
    some (.go x189)
  else
    some (.go s)
def fI_KeepRooted (fuel : Nat) (p0 : T_RootedProblem) (p1 : List Int) : Option (T_RootedProblem × Bool) :=
  (fI_IsRootedProblem fuel p0) >>= fun x13 =>
  (
    if !x13 then
      some true
    else
      if (p1.length : Int) == 0 then
        some true
      else
        (ck (p0.Labels - 1)) >>= fun x24 =>
        (fI_increasing p1 0 x24) >>= fun x25 =>
        some (!x25)) >>= fun q19 =>
  if q19 then
    some ((⟨0, 0, []⟩ : T_RootedProblem), false)
  else
    (mk (Rz.z : Int) p0.Labels) >>= fun x39 =>
    (forI (fI_KeepRooted_s1) p1 0 x39) >>= fun q50 =>
    match q50 with
    | .inl y45 =>
      (forI (fI_KeepRooted_s2 p1 y45) p0.Lines 0 []) >>= fun q96 =>
      match q96 with
      | .inl y88 =>
        some ((⟨(p1.length : Int), p0.Children, y88⟩ : T_RootedProblem), true)
      | .inr _ => none
    | .inr _ => none

def pI_KeepRooted (oo : Tg) (t : Nat) (w : World) (r : T_RootedProblem × Bool) : Ending → World → Prop := fun e w' => ∃ (v0 : List Value) (o' : Tg), e = .returned (.tuple #[.agg v0.toArray, .bool r.2]) ∧ Rp.rd o' w' v0 r.1 ∧ Dz 43 3 o' w' (v0.getD 2 undef) r.1.Lines ∧ Keeps w w' ∧ ∀ b, b < w.heap.size → o' b = oo b
set_option maxRecDepth 100000 in
set_option maxHeartbeats 2000000 in
theorem cI_KeepRooted (fuel : Nat) (w : World) (oo : Tg) (t : Nat) (ht : 2 ≤ t) (u0 : List Value) (p0 : T_RootedProblem) (g0 : Rp.rd zt w u0 p0) (u1 : Value) (p1 : List Int) (g1 : RdL zt w u1 p1) (r : T_RootedProblem × Bool) (hF : fI_KeepRooted fuel p0 p1 = some r) :
    Calls Try.prog 51 #[.agg u0.toArray, u1] w (pI_KeepRooted oo t w r) := by
  unfold fI_KeepRooted at hF
  obtain ⟨v1, rfl, h2⟩ := g0
  have hB : Bs oo (col oo) w w := Bs.start _ _
  refine calls_start (n := 70) (vs := [(.agg #[(.int .i64 p0.Labels), (.int .i64 p0.Children), v1]), u1]) Try.func51 rfl rfl ?_
  generalize col oo = o at *
  refine wpC_seq ?_
  refine wpC_region ?_
  refine st_op (by decide) trivial ?_
  refine wf_box (o := o) w.heap.size 11 hB.keeps.size (cs := [(.int .i64 p0.Labels), (.int .i64 p0.Children), v1]) rfl rfl ?_
  intro o3 w4 b5 h6 s7
  replace hB := hB.stp s7 (by decide)
  refine st_op (by decide) trivial ?_
  refine wf_alloc (o := o3) w.heap.size 12 hB.keeps.size (cs := [(.int .i64 0), (.int .i64 0), (.slice none 0 0)]) Try.zeroValue37 rfl ?_
  intro o8 w9 b10 h11 s12
  replace h6 := h6.stp s12 (by decide)
  replace hB := hB.stp s12 (by decide)
  refine st_val (ex_assign rfl) (by decide) trivial ?_
  refine wpF_end (r := [(1, u1), (2, (.pointer (some ⟨b5, 0, none⟩))), (4, (.pointer (some ⟨b10, 0, none⟩)))]) ⟨rfl, rfl, rfl, trivial⟩ ?_
  refine nx ?_
  refine wpC_seq ?_
  refine wpC_seq ?_
  refine wpC_region ?_
  refine st_val (ex_loadA rfl Try.isAgg37 Try.sizeOf37 rfl h6.cells) (by decide) trivial ?_
  obtain ⟨x13, hx13, hF⟩ := bind_some hF
  refine st_op (by decide) trivial ?_
  refine wf_call (cI_IsRootedProblem fuel w9 _ p0 (⟨_, rfl, (h2.keep hB.keeps)⟩) x13 hx13) Try.call25 ⟨rfl, trivial⟩ ?_
  rintro e18 w14 ⟨rfl, k15⟩
  have s17 := k15.stp 999 o8
  refine ⟨_, rfl, ?_⟩
  replace h6 := h6.stp s17 (by decide)
  replace h11 := h11.stp s17 (by decide)
  replace hB := hB.stp s17 (by decide)
  refine st_val (ex_not rfl) (by decide) trivial ?_
  refine st_val (ex_move rfl) (by decide) trivial ?_
  obtain ⟨q19, hq19, hF⟩ := bind_some hF
  refine wpF_cutAt 12 (fun a21 w20 => Fr a21 70 [(1, u1), (2, (.pointer (some ⟨b5, 0, none⟩))), (4, (.pointer (some ⟨b10, 0, none⟩))), (27, (.bool q19))] ∧ Keeps w14 w20) ?_ ?_
  all_goals simp only [List.take_succ_cons, List.take_zero, List.drop_succ_cons, List.drop_zero]
  · have kp : Keeps w14 w14 := Keeps.refl _
    rcases Bool.eq_false_or_eq_true (!x13) with t22 | t22
    · rw [if_pos t22] at hq19
      refine st_no rfl rfl (by rw [t22]; rfl) (by decide) ?_
      refine st_no rfl rfl (by rw [t22]; rfl) (by decide) ?_
      refine st_no rfl rfl (by rw [t22]; rfl) (by decide) ?_
      refine st_val (ex_pick_t (congrArg (fun b => some (Value.bool b)) t22) rfl) (by decide) trivial ?_
      refine st_val (ex_move rfl) (by decide) trivial ?_
      refine st_no rfl rfl rfl (by decide) ?_
      refine st_no rfl rfl rfl (by decide) ?_
      refine st_no rfl rfl rfl (by decide) ?_
      refine st_no rfl rfl rfl (by decide) ?_
      refine st_no rfl rfl rfl (by decide) ?_
      refine st_no rfl rfl rfl (by decide) ?_
      refine st_val (ex_pick_t rfl rfl) (by decide) trivial ?_
      have hq192 := Option.some.inj hq19
      refine wpF_end (r := [(1, u1), (2, (.pointer (some ⟨b5, 0, none⟩))), (4, (.pointer (some ⟨b10, 0, none⟩))), (27, (.bool true))]) ⟨rfl, rfl, rfl, rfl, trivial⟩ ?_
      subst hq192
      refine np_norm (fun a ha => ⟨ha, kp⟩)
    · rw [if_neg (by rw [t22]; decide)] at hq19
      refine st_val (ex_move rfl) (by decide) ⟨_, rfl, (congrArg (fun b => some (Value.bool b)) t22)⟩ ?_
      refine st_val (ex_lenR rfl g1 Try.underlying43) (by decide) ⟨_, rfl, (congrArg (fun b => some (Value.bool b)) t22)⟩ ?_
      refine st_val (ex_eql rfl rfl) (by decide) ⟨_, rfl, (congrArg (fun b => some (Value.bool b)) t22)⟩ ?_
      refine st_val (ex_pick_f (congrArg (fun b => some (Value.bool b)) t22) rfl) (by decide) trivial ?_
      refine st_val (ex_move rfl) (by decide) trivial ?_
      rcases Bool.eq_false_or_eq_true ((p1.length : Int) == 0) with t23 | t23
      · rw [if_pos t23] at hq19
        refine st_no rfl rfl (by rw [t23]; rfl) (by decide) ?_
        refine st_no rfl rfl (by rw [t23]; rfl) (by decide) ?_
        refine st_no rfl rfl (by rw [t23]; rfl) (by decide) ?_
        refine st_no rfl rfl (by rw [t23]; rfl) (by decide) ?_
        refine st_no rfl rfl (by rw [t23]; rfl) (by decide) ?_
        refine st_no rfl rfl (by rw [t23]; rfl) (by decide) ?_
        refine st_val (ex_pick_t (congrArg (fun b => some (Value.bool b)) t23) rfl) (by decide) trivial ?_
        have hq192 := Option.some.inj hq19
        refine wpF_end (r := [(1, u1), (2, (.pointer (some ⟨b5, 0, none⟩))), (4, (.pointer (some ⟨b10, 0, none⟩))), (27, (.bool true))]) ⟨rfl, rfl, rfl, rfl, trivial⟩ ?_
        subst hq192
        refine np_norm (fun a ha => ⟨ha, kp⟩)
      · rw [if_neg (by rw [t23]; decide)] at hq19
        refine st_val (ex_move rfl) (by decide) ⟨_, rfl, (congrArg (fun b => some (Value.bool b)) t23)⟩ ?_
        refine st_val (ex_field rfl Try.underlying37 rfl Try.sizeOf3) (by decide) ⟨_, rfl, (congrArg (fun b => some (Value.bool b)) t23)⟩ ?_
        refine st_val (ex_load1 rfl Try.isAgg3 (h6.cell rfl)) (by decide) ⟨_, rfl, (congrArg (fun b => some (Value.bool b)) t23)⟩ ?_
        obtain ⟨x24, hx24, hq19⟩ := bind_some hq19
        refine st_val (ex_sub rfl rfl hx24) (by decide) ⟨_, rfl, (congrArg (fun b => some (Value.bool b)) t23)⟩ ?_
        obtain ⟨x25, hx25, hq19⟩ := bind_some hq19
        refine st_op (by decide) ⟨_, rfl, (congrArg (fun b => some (Value.bool b)) t23)⟩ ?_
        refine wf_call (cI_increasing w14 _ p1 (g1.keep hB.keeps) 0 x24 x25 hx25) Try.call86 ⟨rfl, rfl, rfl, trivial⟩ ?_
        rintro e30 w26 ⟨rfl, k27⟩
        have s29 := k27.stp 999 o8
        refine ⟨_, rfl, ?_⟩
        replace h6 := h6.stp s29 (by decide)
        replace h11 := h11.stp s29 (by decide)
        replace hB := hB.stp s29 (by decide)
        replace kp := Keeps.trans kp k27
        refine st_val (ex_not rfl) (by decide) ⟨_, rfl, (congrArg (fun b => some (Value.bool b)) t23)⟩ ?_
        refine st_val (ex_pick_f (congrArg (fun b => some (Value.bool b)) t23) rfl) (by decide) trivial ?_
        have hq192 := Option.some.inj hq19
        refine wpF_end (r := [(1, u1), (2, (.pointer (some ⟨b5, 0, none⟩))), (4, (.pointer (some ⟨b10, 0, none⟩))), (27, (.bool (!x25)))]) ⟨rfl, rfl, rfl, rfl, trivial⟩ ?_
        subst hq192
        refine np_norm (fun a ha => ⟨ha, kp⟩)
  rintro a33 w20 ⟨ha, k31⟩
  have s32 := k31.stp 999 o8
  replace h6 := h6.stp s32 (by decide)
  replace h11 := h11.stp s32 (by decide)
  replace hB := hB.stp s32 (by decide)
  refine wl_of ha ?_
  refine wpF_end (r := [(1, u1), (2, (.pointer (some ⟨b5, 0, none⟩))), (4, (.pointer (some ⟨b10, 0, none⟩))), (27, (.bool q19))]) ⟨rfl, rfl, rfl, rfl, trivial⟩ ?_
  refine nx ?_
  refine wpC_cond rfl (fun t34 => ?_) (fun t34 => ?_)
  · rw [if_pos t34] at hF
    refine wpC_seq ?_
    refine wpC_region ?_
    refine st_val (ex_build (vs := []) (cs := [(.int .i64 0), (.int .i64 0), (.slice none 0 0)]) trivial (by kernel_rfl)) (by decide) trivial ?_
    refine st_op0 trivial ?_
    refine wf_storeA h11 rfl rfl rfl info1_t_impl_RootedProblem_K (by intro c hc; simp only [List.mem_cons, List.not_mem_nil, or_false] at hc; rcases hc with rfl | rfl | rfl <;> first | rfl) ?_
    intro w35 h37 s36
    replace h6 := h6.stp s36 (by decide)
    replace hB := hB.stp s36 (by decide)
    refine st_val (ex_assign rfl) (by decide) trivial ?_
    refine wpF_end (r := [(4, (.pointer (some ⟨b10, 0, none⟩))), (5, (.bool false))]) ⟨rfl, rfl, trivial⟩ ?_
    refine nx ?_
    refine wpC_ret ?_
    refine nt_ret ?_
    have e38 := Option.some.inj hF
    subst e38
    refine ret_post (P := Try.prog) (vs := [(.agg #[(.int .i64 0), (.int .i64 0), (.slice none 0 0)]), (.bool false)]) Try.results51 ⟨⟨_, rfl, run_loadA Try.isAgg37 Try.sizeOf37 rfl h37.cells⟩, rfl, trivial⟩ ?_
    exact ⟨[(.int .i64 0), (.int .i64 0), (.slice none 0 0)], rt oo o8 w.heap.size 9 t, rfl, ⟨_, rfl, RdL.nil _ _⟩, (Dz.nil _ _ _ _), hB.keeps, rt_old _ _ _ _ _⟩
  · rw [if_neg (by rw [t34]; decide)] at hF
    refine wpC_skip ?_
    refine nx ?_
    refine wpC_seq ?_
    refine wpC_region ?_
    refine st_val (ex_field rfl Try.underlying37 rfl Try.sizeOf3) (by decide) trivial ?_
    refine st_val (ex_load1 rfl Try.isAgg3 (h6.cell rfl)) (by decide) trivial ?_
    obtain ⟨x39, hx39, hF⟩ := bind_some hF
    refine st_op (by decide) trivial ?_
    refine wf_make (o := o8) w.heap.size 15 hB.keeps.size hx39 rfl rfl Try.underlying43 info2_t_int_K rfl (by decide) ?_
    intro o40 w41 v42 h43 s44
    replace h6 := h6.stp s44 (by decide)
    replace h11 := h11.stp s44 (by decide)
    replace hB := hB.stp s44 (by decide)
    refine st_val (ex_assign rfl) (by decide) trivial ?_
    refine wpF_end (r := [(1, u1), (2, (.pointer (some ⟨b5, 0, none⟩))), (4, (.pointer (some ⟨b10, 0, none⟩))), (6, v42)]) ⟨rfl, rfl, rfl, rfl, trivial⟩ ?_
    refine nx ?_
    refine wpC_seq ?_
    refine wpC_seq ?_
    refine wpC_region ?_
    refine st_val (ex_move rfl) (by decide) trivial ?_
    refine st_val (ex_lenR rfl g1 Try.underlying43) (by decide) trivial ?_
    refine st_val (ex_move rfl) (by decide) trivial ?_
    refine wpF_end (r := [(1, u1), (2, (.pointer (some ⟨b5, 0, none⟩))), (4, (.pointer (some ⟨b10, 0, none⟩))), (6, v42), (32, u1), (33, (.int .i64 (p1.length : Int))), (34, (.int .i64 0))]) ⟨rfl, rfl, rfl, rfl, rfl, rfl, rfl, trivial⟩ ?_
    refine nx ?_
    obtain ⟨q50, hq50, hF⟩ := bind_some hF
    refine wpC_cutN (fun a w48 => ∃ (y45 : List Int) (o47 : Tg), q50 = .inl y45 ∧ Fr a 70 [(1, u1), (2, (.pointer (some ⟨b5, 0, none⟩))), (4, (.pointer (some ⟨b10, 0, none⟩))), (6, v42)] ∧ Bs oo o47 w w48 ∧ Ow w.heap.size 3 15 o47 w48 v42 y45 ∧ Bx w.heap.size 11 o47 w48 b5 37 [(.int .i64 p0.Labels), (.int .i64 p0.Children), v1] ∧ Bx w.heap.size 12 o47 w48 b10 37 [(.int .i64 0), (.int .i64 0), (.slice none 0 0)]) (fun _ _ => False) ?_ ?_ ?_
    · refine wpC_block ?_
      refine wpC_loop (fun (K : Nat) a w48 => ∃ (i49 : Int) (y45 : List Int) (o47 : Tg), forI (fI_KeepRooted_s1) (p1.drop i49.toNat) i49 y45 = some q50 ∧ (p1.drop i49.toNat).length = K ∧ 0 ≤ i49 ∧ Fr a 70 [(1, u1), (2, (.pointer (some ⟨b5, 0, none⟩))), (4, (.pointer (some ⟨b10, 0, none⟩))), (6, v42), (32, u1), (33, (.int .i64 (p1.length : Int))), (34, (.int .i64 i49))] ∧ Bs oo o47 w w48 ∧ Ow w.heap.size 3 15 o47 w48 v42 y45 ∧ Bx w.heap.size 11 o47 w48 b5 37 [(.int .i64 p0.Labels), (.int .i64 p0.Children), v1] ∧ Bx w.heap.size 12 o47 w48 b10 37 [(.int .i64 0), (.int .i64 0), (.slice none 0 0)]) _ (fun a ha => ⟨0, x39, o40, hq50, rfl, Int.le_refl 0, ha.sub (r := [(1, u1), (2, (.pointer (some ⟨b5, 0, none⟩))), (4, (.pointer (some ⟨b10, 0, none⟩))), (6, v42), (32, u1), (33, (.int .i64 (p1.length : Int))), (34, (.int .i64 0))]) ⟨rfl, rfl, rfl, rfl, rfl, rfl, rfl, trivial⟩, hB, h43, h6, h11⟩) ?_
      rintro K54 a w48 ⟨i49, y45, o47, l51, m53, z52, ha, hB, h46, h6, h11⟩
      by_cases t58 : i49 < (p1.length : Int)
      · obtain ⟨x59, q55, hx59, b56, n57⟩ := forI_cons z52 t58 l51
        have hle := g1.len_le
        dsimp only [fI_KeepRooted_s1] at b56
        refine wp_of ha ?_
        refine wpC_seq ?_
        refine wpC_region ?_
        refine st_val (ex_lss rfl rfl) (by decide) trivial ?_
        refine wpF_end (r := [(1, u1), (2, (.pointer (some ⟨b5, 0, none⟩))), (4, (.pointer (some ⟨b10, 0, none⟩))), (6, v42), (32, u1), (33, (.int .i64 (p1.length : Int))), (34, (.int .i64 i49)), (35, (.bool (decide (i49 < (p1.length : Int)))))]) ⟨rfl, rfl, rfl, rfl, rfl, rfl, rfl, rfl, trivial⟩ ?_
        refine nx ?_
        refine wpC_seq ?_
        refine wpC_true (congrArg (fun b => some (Value.bool b)) (decide_eq_true t58)) ?_
        refine wpC_skip ?_
        refine nx ?_
        refine wpC_seq ?_
        refine wpC_block ?_
        refine wpC_seq ?_
        refine wpC_region ?_
        refine st_val (ex_move rfl) (by decide) trivial ?_
        refine st_op (by decide) trivial ?_
        refine wf_atZ g1 hx59 hB rfl rfl Try.underlying43 Try.sizeOf3 ?_
        intro b60 f61 c62 h63 h64
        cases h64
        refine st_val (ex_load1 rfl Try.isAgg3 (cell_of_cells h63)) (by decide) trivial ?_
        refine st_val (ex_assign rfl) (by decide) trivial ?_
        refine st_val (ex_assign rfl) (by decide) trivial ?_
        refine wpF_end (r := [(1, u1), (2, (.pointer (some ⟨b5, 0, none⟩))), (4, (.pointer (some ⟨b10, 0, none⟩))), (6, v42), (7, (.int .i64 i49)), (8, (.int .i64 x59)), (32, u1), (33, (.int .i64 (p1.length : Int))), (34, (.int .i64 i49))]) ⟨rfl, rfl, rfl, rfl, rfl, rfl, rfl, rfl, rfl, trivial⟩ ?_
        refine nx ?_
        refine wpC_region ?_
        refine st_val (ex_move rfl) (by decide) trivial ?_
        refine st_val (ex_move rfl) (by decide) trivial ?_
        refine st_val (ex_move rfl) (by decide) trivial ?_
        obtain ⟨x65, hx65, b56⟩ := bind_some b56
        refine st_op (by decide) trivial ?_
        refine wf_atP h46 hx65 rfl rfl Try.underlying43 Try.sizeOf3 ?_
        intro b66 c68 h71 h69 h70
        cases h70
        obtain ⟨x74, hx74, b56⟩ := bind_some b56
        refine st_op0 trivial ?_
        refine wf_storeW h46 h71 hx74 rfl (by decide) rfl rfl rfl Try.sizeOf3 rfl ?_
        intro w72 h75 s73
        replace h6 := h6.stp s73 (by decide)
        replace h11 := h11.stp s73 (by decide)
        replace hB := hB.stp s73 (by decide)
        refine wpF_end (r := [(1, u1), (2, (.pointer (some ⟨b5, 0, none⟩))), (4, (.pointer (some ⟨b10, 0, none⟩))), (6, v42), (32, u1), (33, (.int .i64 (p1.length : Int))), (34, (.int .i64 i49))]) ⟨rfl, rfl, rfl, rfl, rfl, rfl, rfl, trivial⟩ ?_
        refine nb_norm ?_
        refine nx ?_
        refine wpC_region ?_
        refine st_val (ex_add rfl rfl (ck_in (by omega) (by omega))) (by decide) trivial ?_
        refine st_val (ex_move rfl) (by decide) trivial ?_
        refine wpF_end (r := [(1, u1), (2, (.pointer (some ⟨b5, 0, none⟩))), (4, (.pointer (some ⟨b10, 0, none⟩))), (6, v42), (32, u1), (33, (.int .i64 (p1.length : Int))), (34, (.int .i64 (i49 + 1)))]) ⟨rfl, rfl, rfl, rfl, rfl, rfl, rfl, trivial⟩ ?_
        refine nt_norm ?_
        have e76 := Option.some.inj b56
        subst e76
        refine to_k (r := [(1, u1), (2, (.pointer (some ⟨b5, 0, none⟩))), (4, (.pointer (some ⟨b10, 0, none⟩))), (6, v42), (32, u1), (33, (.int .i64 (p1.length : Int))), (34, (.int .i64 (i49 + 1)))]) ⟨rfl, rfl, rfl, rfl, rfl, rfl, rfl, trivial⟩ ?_
        intro a ha
        exact ⟨_, (by rw [← m53]; simp only [List.length_drop]; omega), i49 + 1, x74, o47, n57, rfl, (by omega), ha, hB, h75, h6, h11⟩
      · have r77 := forI_done t58 l51
        refine wp_of ha ?_
        refine wpC_seq ?_
        refine wpC_region ?_
        refine st_val (ex_lss rfl rfl) (by decide) trivial ?_
        refine wpF_end (r := [(1, u1), (2, (.pointer (some ⟨b5, 0, none⟩))), (4, (.pointer (some ⟨b10, 0, none⟩))), (6, v42), (32, u1), (33, (.int .i64 (p1.length : Int))), (34, (.int .i64 i49)), (35, (.bool (decide (i49 < (p1.length : Int)))))]) ⟨rfl, rfl, rfl, rfl, rfl, rfl, rfl, rfl, trivial⟩ ?_
        refine nx ?_
        refine wpC_seq ?_
        refine wpC_false (congrArg (fun b => some (Value.bool b)) (decide_eq_false t58)) ?_
        refine wpC_exit ?_
        refine nt_exit ?_
        refine nt_exit ?_
        refine nb_hit ?_
        refine np_norm ?_
        refine to_k (r := [(1, u1), (2, (.pointer (some ⟨b5, 0, none⟩))), (4, (.pointer (some ⟨b10, 0, none⟩))), (6, v42)]) ⟨rfl, rfl, rfl, rfl, trivial⟩ ?_
        intro a ha
        exact ⟨y45, o47, r77, ha, hB, h46, h6, h11⟩
    · rintro a w48 ⟨y45, o47, rfl, ha, hB, h46, h6, h11⟩
      dsimp only at hF
      refine ap_k ha ?_
      refine nx ?_
      refine wpC_seq ?_
      refine wpC_region ?_
      refine st_val (ex_move rfl) (by decide) trivial ?_
      refine st_val (ex_lenR rfl g1 Try.underlying43) (by decide) trivial ?_
      refine st_val (ex_field rfl Try.underlying37 rfl Try.sizeOf3) (by decide) trivial ?_
      refine st_val (ex_load1 rfl Try.isAgg3 (h6.cell rfl)) (by decide) trivial ?_
      refine st_val (ex_build (vs := [(0, (.int .i64 (p1.length : Int))), (1, (.int .i64 p0.Children))]) (cs := [(.int .i64 (p1.length : Int)), (.int .i64 p0.Children), (.slice none 0 0)]) ⟨rfl, rfl, rfl, rfl, trivial⟩ (by kernel_rfl)) (by decide) trivial ?_
      refine st_op (by decide) trivial ?_
      refine wf_alloc (o := o47) w.heap.size 16 hB.keeps.size (cs := [(.int .i64 0), (.int .i64 0), (.slice none 0 0)]) Try.zeroValue37 rfl ?_
      intro o78 w79 b80 h81 s82
      replace h46 := h46.stp s82 (by decide) (by decide)
      replace h6 := h6.stp s82 (by decide)
      replace h11 := h11.stp s82 (by decide)
      replace hB := hB.stp s82 (by decide)
      refine st_op0 trivial ?_
      refine wf_storeA h81 rfl rfl rfl info1_t_impl_RootedProblem_K (by intro c hc; simp only [List.mem_cons, List.not_mem_nil, or_false] at hc; rcases hc with rfl | rfl | rfl <;> first | rfl) ?_
      intro w83 h85 s84
      replace h46 := h46.stp s84 (by decide) (by decide)
      replace h6 := h6.stp s84 (by decide)
      replace h11 := h11.stp s84 (by decide)
      replace hB := hB.stp s84 (by decide)
      refine wpF_end (r := [(1, u1), (2, (.pointer (some ⟨b5, 0, none⟩))), (4, (.pointer (some ⟨b10, 0, none⟩))), (6, v42), (9, (.pointer (some ⟨b80, 0, none⟩)))]) ⟨rfl, rfl, rfl, rfl, rfl, trivial⟩ ?_
      refine nx ?_
      refine wpC_seq ?_
      refine wpC_seq ?_
      refine wpC_region ?_
      refine st_val (ex_field rfl Try.underlying37 rfl Try.sizeOf22) (by decide) trivial ?_
      refine st_val (ex_load1 rfl Try.isAgg22 (h6.cell rfl)) (by decide) trivial ?_
      refine st_val (ex_lenR rfl h2 Try.underlying22) (by decide) trivial ?_
      refine st_val (ex_move rfl) (by decide) trivial ?_
      refine wpF_end (r := [(1, u1), (4, (.pointer (some ⟨b10, 0, none⟩))), (6, v42), (9, (.pointer (some ⟨b80, 0, none⟩))), (50, v1), (51, (.int .i64 (p0.Lines.length : Int))), (52, (.int .i64 0))]) ⟨rfl, rfl, rfl, rfl, rfl, rfl, rfl, trivial⟩ ?_
      refine nx ?_
      have h86 : Ow w.heap.size 43 17 o78 w83 (.slice none 0 0) ([] : List Hv) := Ow.nil _ _ _ _ _
      have h87 : Rws w.heap.size 3 18 o78 w83 [] ([] : List (List Int)) := Rws.nil _ _ _ _ _
      obtain ⟨q96, hq96, hF⟩ := bind_some hF
      refine wpC_cutN (fun a w94 => ∃ (y88 : List (List Int)) (v89 : Value) (g92 : List Hv) (o93 : Tg), q96 = .inl y88 ∧ Fr a 70 [(4, (.pointer (some ⟨b10, 0, none⟩))), (9, (.pointer (some ⟨b80, 0, none⟩)))] ∧ Bs oo o93 w w94 ∧ Bx w.heap.size 12 o93 w94 b10 37 [(.int .i64 0), (.int .i64 0), (.slice none 0 0)] ∧ Bx w.heap.size 16 o93 w94 b80 37 [(.int .i64 (p1.length : Int)), (.int .i64 p0.Children), v89] ∧ Ow w.heap.size 43 17 o93 w94 v89 g92 ∧ Rws w.heap.size 3 18 o93 w94 g92 y88) (fun _ _ => False) ?_ ?_ ?_
      · refine wpC_block ?_
        refine wpC_loop (fun (K : Nat) a w94 => ∃ (i95 : Int) (y88 : List (List Int)) (v89 : Value) (g92 : List Hv) (o93 : Tg), forI (fI_KeepRooted_s2 p1 y45) (p0.Lines.drop i95.toNat) i95 y88 = some q96 ∧ (p0.Lines.drop i95.toNat).length = K ∧ 0 ≤ i95 ∧ Fr a 70 [(1, u1), (4, (.pointer (some ⟨b10, 0, none⟩))), (6, v42), (9, (.pointer (some ⟨b80, 0, none⟩))), (50, v1), (51, (.int .i64 (p0.Lines.length : Int))), (52, (.int .i64 i95))] ∧ Bs oo o93 w w94 ∧ Ow w.heap.size 3 15 o93 w94 v42 y45 ∧ Bx w.heap.size 12 o93 w94 b10 37 [(.int .i64 0), (.int .i64 0), (.slice none 0 0)] ∧ Bx w.heap.size 16 o93 w94 b80 37 [(.int .i64 (p1.length : Int)), (.int .i64 p0.Children), v89] ∧ Ow w.heap.size 43 17 o93 w94 v89 g92 ∧ Rws w.heap.size 3 18 o93 w94 g92 y88) _ (fun a ha => ⟨0, [], (.slice none 0 0), [], o78, hq96, rfl, Int.le_refl 0, ha.sub (r := [(1, u1), (4, (.pointer (some ⟨b10, 0, none⟩))), (6, v42), (9, (.pointer (some ⟨b80, 0, none⟩))), (50, v1), (51, (.int .i64 (p0.Lines.length : Int))), (52, (.int .i64 0))]) ⟨rfl, rfl, rfl, rfl, rfl, rfl, rfl, trivial⟩, hB, h46, h11, h85, h86, h87⟩) ?_
        rintro K100 a w94 ⟨i95, y88, v89, g92, o93, l97, m99, z98, ha, hB, h46, h11, h85, h90, h91⟩
        by_cases t104 : i95 < (p0.Lines.length : Int)
        · obtain ⟨x105, q101, hx105, b102, n103⟩ := forI_cons z98 t104 l97
          have hle := h2.len_le
          dsimp only [fI_KeepRooted_s2] at b102
          refine wp_of ha ?_
          refine wpC_seq ?_
          refine wpC_region ?_
          refine st_val (ex_lss rfl rfl) (by decide) trivial ?_
          refine wpF_end (r := [(1, u1), (4, (.pointer (some ⟨b10, 0, none⟩))), (6, v42), (9, (.pointer (some ⟨b80, 0, none⟩))), (50, v1), (51, (.int .i64 (p0.Lines.length : Int))), (52, (.int .i64 i95)), (53, (.bool (decide (i95 < (p0.Lines.length : Int)))))]) ⟨rfl, rfl, rfl, rfl, rfl, rfl, rfl, rfl, trivial⟩ ?_
          refine nx ?_
          refine wpC_seq ?_
          refine wpC_true (congrArg (fun b => some (Value.bool b)) (decide_eq_true t104)) ?_
          refine wpC_skip ?_
          refine nx ?_
          refine wpC_seq ?_
          refine wpC_block ?_
          refine wpC_seq ?_
          refine wpC_region ?_
          refine st_op (by decide) trivial ?_
          refine wf_atZ h2 hx105 hB rfl rfl Try.underlying22 Try.sizeOf43 ?_
          intro b106 f107 c108 h109 h110
          obtain ⟨v111, rfl, h112⟩ := h110
          refine st_val (ex_load1 rfl Try.isAgg43 (cell_of_cells h109)) (by decide) trivial ?_
          refine st_val (ex_assign rfl) (by decide) trivial ?_
          refine wpF_end (r := [(1, u1), (4, (.pointer (some ⟨b10, 0, none⟩))), (6, v42), (9, (.pointer (some ⟨b80, 0, none⟩))), (11, v111), (50, v1), (51, (.int .i64 (p0.Lines.length : Int))), (52, (.int .i64 i95))]) ⟨rfl, rfl, rfl, rfl, rfl, rfl, rfl, rfl, trivial⟩ ?_
          refine nx ?_
          refine wpC_seq ?_
          refine wpC_region ?_
          refine st_val (ex_move rfl) (by decide) trivial ?_
          obtain ⟨x113, hx113, b102⟩ := bind_some b102
          refine st_op (by decide) trivial ?_
          refine wf_call (cI_setOf w94 _ p1 (g1.keep hB.keeps) x113 hx113) Try.call88 ⟨rfl, trivial⟩ ?_
          rintro e118 w114 ⟨rfl, k115⟩
          have s117 := k115.stp 999 o93
          refine ⟨_, rfl, ?_⟩
          replace h46 := h46.stp s117 (by decide) (by decide)
          replace h11 := h11.stp s117 (by decide)
          replace h85 := h85.stp s117 (by decide)
          replace h90 := h90.stp s117 (by decide) (by decide)
          replace h91 := h91.stp s117 (by decide) (by decide)
          replace hB := hB.stp s117 (by decide)
          refine st_val (ex_move rfl) (by decide) trivial ?_
          obtain ⟨x119, hx119, b102⟩ := bind_some b102
          refine st_op (by decide) trivial ?_
          refine wf_call (cI_onlyIn w114 x113 _ x105 (h112.keep hB.keeps) x119 hx119) Try.call87 ⟨rfl, rfl, trivial⟩ ?_
          rintro e124 w120 ⟨rfl, k121⟩
          have s123 := k121.stp 999 o93
          refine ⟨_, rfl, ?_⟩
          replace h46 := h46.stp s123 (by decide) (by decide)
          replace h11 := h11.stp s123 (by decide)
          replace h85 := h85.stp s123 (by decide)
          replace h90 := h90.stp s123 (by decide) (by decide)
          replace h91 := h91.stp s123 (by decide) (by decide)
          replace hB := hB.stp s123 (by decide)
          refine wpF_end (r := [(1, u1), (4, (.pointer (some ⟨b10, 0, none⟩))), (6, v42), (9, (.pointer (some ⟨b80, 0, none⟩))), (11, v111), (50, v1), (51, (.int .i64 (p0.Lines.length : Int))), (52, (.int .i64 i95)), (59, (.bool x119))]) ⟨rfl, rfl, rfl, rfl, rfl, rfl, rfl, rfl, rfl, trivial⟩ ?_
          refine nx ?_
          refine wpC_cond rfl (fun t125 => ?_) (fun t125 => ?_)
          · rw [if_pos t125] at b102
            obtain ⟨x126, hx126, b102⟩ := bind_some b102
            refine wpC_drawn (o := o93) [(1, u1), (4, (.pointer (some ⟨b10, 0, none⟩))), (6, v42), (9, (.pointer (some ⟨b80, 0, none⟩))), (11, v111), (50, v1), (51, (.int .i64 (p0.Lines.length : Int))), (52, (.int .i64 i95))] [1, 4, 6, 9, 11, 50, 51, 52] [60, 61, 62, 63, 64, 65] [[], [0], [], [], [2, 3], [4]] [none, none, none, none, none, none] [999, 999, 999, 999, 999, 999] [0, 0, 0, 0, 21, 21] [999] [fun v _ _ => v = (.pointer (some ⟨b80, 0 + 2, none⟩)), fun v _ _ => v = v89, fun v _ _ => v = v111, fun v _ _ => v = v42, fun v o w9 => Ow w.heap.size 3 21 o w9 v x126, fun v o w9 => ∃ u : Value, RdL o w9 v [(⟨u⟩ : Hv)] ∧ Ow w.heap.size 3 21 o w9 u x126] (fun o8 w8 => Bs oo o8 w w8 ∧ Ow w.heap.size 3 15 o8 w8 v42 y45 ∧ Bx w.heap.size 12 o8 w8 b10 37 [(.int .i64 0), (.int .i64 0), (.slice none 0 0)] ∧ Bx w.heap.size 16 o8 w8 b80 37 [(.int .i64 (p1.length : Int)), (.int .i64 p0.Children), v89] ∧ Ow w.heap.size 43 17 o8 w8 v89 g92 ∧ Rws w.heap.size 3 18 o8 w8 g92 y88) follows_mixed (by kernel_rfl) rfl ⟨rfl, rfl, rfl, rfl, rfl, rfl, rfl, rfl, trivial⟩ ⟨hB, h46, h11, h85, h90, h91⟩ ?_ ⟨st_eq _, st_eq _, st_eq _, st_eq _, fun _ _ _ _ _ _ h0 hb h hs => h.stp hs h0 (Ne.symm hb), fun _ _ _ _ _ _ h0 hb ⟨u, h, h2⟩ hs => ⟨u, h.stp hs h0, h2.stp hs h0 (Ne.symm hb)⟩, trivial⟩ ?_ ?_
            · rintro t9 o1 w1 o2 w2 ht9 ⟨hB, h46, h11, h85, h90, h91⟩ hs9
              have ht9 : t9 = 999 := by simpa using ht9
              subst ht9
              all_goals exact ⟨hB.stp hs9 (by decide), h46.stp hs9 (by decide) (by decide), h11.stp hs9 (by decide), h85.stp hs9 (by decide), h90.stp hs9 (by decide) (by decide), h91.stp hs9 (by decide) (by decide)⟩
            · refine ⟨?_, ?_, ?_, ?_, ?_, ?_, trivial⟩
              · rintro o141 w142 a143 ha ⟨hB, h46, h11, h85, h90, h91⟩ -
                refine opS_of ha (trivial) ?_
                refine op1_val (ex_field rfl Try.underlying37 rfl Try.sizeOf22) ?_
                exact ⟨_, Stp.refl _ _ _, rfl⟩
              · rintro o144 w145 a146 ha ⟨hB, h46, h11, h85, h90, h91⟩ ⟨r147, -⟩
                have ha := Fr.cons (d := 60) ha r147
                refine opS_of ha (trivial) ?_
                refine op1_val (ex_load1 rfl Try.isAgg22 (h85.cell rfl)) ?_
                exact ⟨_, Stp.refl _ _ _, rfl⟩
              · rintro o148 w149 a150 ha ⟨hB, h46, h11, h85, h90, h91⟩ -
                refine opS_of ha (trivial) ?_
                refine op1_val (ex_move rfl) ?_
                exact ⟨_, Stp.refl _ _ _, rfl⟩
              · rintro o151 w152 a153 ha ⟨hB, h46, h11, h85, h90, h91⟩ -
                refine opS_of ha (trivial) ?_
                refine op1_val (ex_move rfl) ?_
                exact ⟨_, Stp.refl _ _ _, rfl⟩
              · rintro o154 w155 a156 ha ⟨hB, h46, h11, h85, h90, h91⟩ ⟨r157, r158, -⟩
                have ha := Fr.cons (d := 62) ha r157
                have ha := Fr.cons (d := 63) ha r158
                refine opS_of ha (trivial) ?_
                refine wf_call (cI_images w155 o154 21 (by decide) _ x105 (h112.keep hB.keeps) _ y45 h46.z x126 hx126) Try.call89 ⟨rfl, rfl, trivial⟩ ?_
                rintro e165 w159 ⟨v160, o166, rfl, h161, k162, k163⟩
                have s164 := k162.stp' 999 k163
                replace h161 := h161.mono hB.keeps.size
                refine ⟨_, rfl, ?_⟩
                replace h46 := h46.stp s164 (by decide) (by decide)
                replace h11 := h11.stp s164 (by decide)
                replace h85 := h85.stp s164 (by decide)
                replace h90 := h90.stp s164 (by decide) (by decide)
                replace h91 := h91.stp s164 (by decide) (by decide)
                replace hB := hB.stp s164 (by decide)
                exact ⟨_, s164, h161⟩
              · rintro o167 w168 a169 ha ⟨hB, h46, h11, h85, h90, h91⟩ ⟨r170, -⟩
                replace r170 : Ow w.heap.size 3 21 o167 w168 (a169.tmps.getD 64 undef) x126 := r170
                generalize e172 : a169.tmps.getD 64 undef = v171 at r170
                have ha := Fr.cons (d := 64) ha e172
                refine opS_of ha (trivial) ?_
                refine wf_litR (o := o167) (cs := [v171]) (xs := ([⟨v171⟩] : List Hv)) (vs := [(0, v171)]) ⟨_, _, rfl, rd_hv r170, rfl⟩ rfl ⟨rfl, rfl, trivial⟩ Try.underlying22 Try.sizeOf43 Try.zeroValue43 (by decide) (fill1 r170.cells1) (by simp) ?_
                intro o173 w174 v175 h176 s177 k178
                replace h46 := h46.stp s177 (by decide) (by decide)
                replace r170 := r170.stp s177 (by decide) (by decide)
                replace h11 := h11.stp s177 (by decide)
                replace h85 := h85.stp s177 (by decide)
                replace h90 := h90.stp s177 (by decide) (by decide)
                replace h91 := h91.stp s177 (by decide) (by decide)
                replace hB := hB.stp s177 (by decide)
                exact ⟨_, s177, ⟨_, h176, r170⟩⟩
            rintro o179 w180 a181 ha ⟨hB, h46, h11, h85, h90, h91⟩ ⟨-, r182, -, -, -, r183, -⟩
            have ha := Fr.cons (d := 61) ha r182
            obtain ⟨v186, h187, h188⟩ := r183
            replace h187 : RdL o179 w180 (a181.tmps.getD 65 undef) ([⟨v186⟩] : List Hv) := h187
            replace h188 : Ow w.heap.size 3 21 o179 w180 v186 x126 := h188
            generalize e185 : a181.tmps.getD 65 undef = v184 at h187
            have ha := Fr.cons (d := 65) ha e185
            refine wl_of ha ?_
            simp only [List.length_cons, List.length_nil, Nat.zero_add, Nat.reduceAdd, List.drop_succ_cons, List.drop_zero]
            obtain ⟨x189, hx189, b102⟩ := bind_some b102
            obtain ⟨h190, h191⟩ := h91.pushV hx189 v186
            refine st_op (by decide) trivial ?_
            refine wf_cat h90 h187 (push_cat h190) (by decide) hB.keeps.size rfl rfl Try.underlying22 info2_t_Lint_K rfl (by decide) ?_
            intro o192 w193 v194 h195 s196
            replace h46 := h46.stp s196 (by decide) (by decide)
            replace h91 := h91.stp s196 (by decide) (by decide)
            replace h188 := h188.stp s196 (by decide) (by decide)
            replace h11 := h11.stp s196 (by decide)
            replace h85 := h85.stp s196 (by decide)
            replace hB := hB.stp s196 (by decide)
            have h197 := h91.push h188 (by decide) (by decide)
            rw [← h191] at h197
            clear h91 h188
            have r198 := mrg_rc 21 18 o192
            replace h46 := h46.rc r198 (by decide) (by decide)
            replace h195 := h195.rc r198 (by decide) (by decide)
            replace h11 := h11.rc r198 (by decide)
            replace h85 := h85.rc r198 (by decide)
            replace hB := hB.rc r198 (by decide)
            generalize mrg 21 18 o192 = o199 at *
            refine st_val (ex_field rfl Try.underlying37 rfl Try.sizeOf22) (by decide) trivial ?_
            refine st_op0 trivial ?_
            refine wf_storeB h85 rfl rfl (of_decide_eq_true rfl) Try.sizeOf22 h195.cells1 h195.one1 ?_
            intro w200 h202 s201
            replace h46 := h46.stp s201 (by decide) (by decide)
            replace h195 := h195.stp s201 (by decide) (by decide)
            replace h197 := h197.stp s201 (by decide) (by decide)
            replace h11 := h11.stp s201 (by decide)
            replace hB := hB.stp s201 (by decide)
            replace h202 : Bx w.heap.size 16 o199 w200 b80 37 [(.int .i64 (p1.length : Int)), (.int .i64 p0.Children), v194] := h202
            refine wpF_end (r := [(1, u1), (4, (.pointer (some ⟨b10, 0, none⟩))), (6, v42), (9, (.pointer (some ⟨b80, 0, none⟩))), (50, v1), (51, (.int .i64 (p0.Lines.length : Int))), (52, (.int .i64 i95))]) ⟨rfl, rfl, rfl, rfl, rfl, rfl, rfl, trivial⟩ ?_
            refine nb_norm ?_
            refine nx ?_
            refine wpC_region ?_
            refine st_val (ex_add rfl rfl (ck_in (by omega) (by omega))) (by decide) trivial ?_
            refine st_val (ex_move rfl) (by decide) trivial ?_
            refine wpF_end (r := [(1, u1), (4, (.pointer (some ⟨b10, 0, none⟩))), (6, v42), (9, (.pointer (some ⟨b80, 0, none⟩))), (50, v1), (51, (.int .i64 (p0.Lines.length : Int))), (52, (.int .i64 (i95 + 1)))]) ⟨rfl, rfl, rfl, rfl, rfl, rfl, rfl, trivial⟩ ?_
            refine nt_norm ?_
            have e203 := Option.some.inj b102
            subst e203
            refine to_k (r := [(1, u1), (4, (.pointer (some ⟨b10, 0, none⟩))), (6, v42), (9, (.pointer (some ⟨b80, 0, none⟩))), (50, v1), (51, (.int .i64 (p0.Lines.length : Int))), (52, (.int .i64 (i95 + 1)))]) ⟨rfl, rfl, rfl, rfl, rfl, rfl, rfl, trivial⟩ ?_
            intro a ha
            exact ⟨_, (by rw [← m99]; simp only [List.length_drop]; omega), i95 + 1, x189, v194, (g92 ++ [⟨v186⟩]), o199, n103, rfl, (by omega), ha, hB, h46, h11, h202, h195, h197⟩
          · rw [if_neg (by rw [t125]; decide)] at b102
            refine wpC_skip ?_
            refine nb_norm ?_
            refine nx ?_
            refine wpC_region ?_
            refine st_val (ex_add rfl rfl (ck_in (by omega) (by omega))) (by decide) trivial ?_
            refine st_val (ex_move rfl) (by decide) trivial ?_
            refine wpF_end (r := [(1, u1), (4, (.pointer (some ⟨b10, 0, none⟩))), (6, v42), (9, (.pointer (some ⟨b80, 0, none⟩))), (50, v1), (51, (.int .i64 (p0.Lines.length : Int))), (52, (.int .i64 (i95 + 1)))]) ⟨rfl, rfl, rfl, rfl, rfl, rfl, rfl, trivial⟩ ?_
            refine nt_norm ?_
            have e204 := Option.some.inj b102
            subst e204
            refine to_k (r := [(1, u1), (4, (.pointer (some ⟨b10, 0, none⟩))), (6, v42), (9, (.pointer (some ⟨b80, 0, none⟩))), (50, v1), (51, (.int .i64 (p0.Lines.length : Int))), (52, (.int .i64 (i95 + 1)))]) ⟨rfl, rfl, rfl, rfl, rfl, rfl, rfl, trivial⟩ ?_
            intro a ha
            exact ⟨_, (by rw [← m99]; simp only [List.length_drop]; omega), i95 + 1, y88, v89, g92, o93, n103, rfl, (by omega), ha, hB, h46, h11, h85, h90, h91⟩
        · have r205 := forI_done t104 l97
          refine wp_of ha ?_
          refine wpC_seq ?_
          refine wpC_region ?_
          refine st_val (ex_lss rfl rfl) (by decide) trivial ?_
          refine wpF_end (r := [(1, u1), (4, (.pointer (some ⟨b10, 0, none⟩))), (6, v42), (9, (.pointer (some ⟨b80, 0, none⟩))), (50, v1), (51, (.int .i64 (p0.Lines.length : Int))), (52, (.int .i64 i95)), (53, (.bool (decide (i95 < (p0.Lines.length : Int)))))]) ⟨rfl, rfl, rfl, rfl, rfl, rfl, rfl, rfl, trivial⟩ ?_
          refine nx ?_
          refine wpC_seq ?_
          refine wpC_false (congrArg (fun b => some (Value.bool b)) (decide_eq_false t104)) ?_
          refine wpC_exit ?_
          refine nt_exit ?_
          refine nt_exit ?_
          refine nb_hit ?_
          refine np_norm ?_
          refine to_k (r := [(4, (.pointer (some ⟨b10, 0, none⟩))), (9, (.pointer (some ⟨b80, 0, none⟩)))]) ⟨rfl, rfl, trivial⟩ ?_
          intro a ha
          exact ⟨y88, v89, g92, o93, r205, ha, hB, h11, h85, h90, h91⟩
      · rintro a w94 ⟨y88, v89, g92, o93, rfl, ha, hB, h11, h85, h90, h91⟩
        dsimp only at hF
        refine ap_k ha ?_
        refine nx ?_
        refine wpC_seq ?_
        refine wpC_region ?_
        refine st_val (ex_loadA rfl Try.isAgg37 Try.sizeOf37 rfl h85.cells) (by decide) trivial ?_
        refine st_op0 trivial ?_
        refine wf_storeA h11 rfl rfl rfl info1_t_impl_RootedProblem_K (by intro c hc; simp only [List.mem_cons, List.not_mem_nil, or_false] at hc; rcases hc with rfl | rfl | rfl <;> first | rfl | exact h90.one1) ?_
        intro w206 h208 s207
        replace h90 := h90.stp s207 (by decide) (by decide)
        replace h91 := h91.stp s207 (by decide) (by decide)
        replace h85 := h85.stp s207 (by decide)
        replace hB := hB.stp s207 (by decide)
        refine st_val (ex_assign rfl) (by decide) trivial ?_
        refine wpF_end (r := [(4, (.pointer (some ⟨b10, 0, none⟩))), (5, (.bool true))]) ⟨rfl, rfl, trivial⟩ ?_
        refine nx ?_
        refine wpC_ret ?_
        have h209 := Dz.of h90 h91 (by decide) (by decide) (by decide)
        have r210 := frz_rc 17 o93
        have r211 := frz_rc 18 (frz 17 o93)
        replace h208 := (h208.rc r210 (by decide)).rc r211 (by decide)
        replace h85 := (h85.rc r210 (by decide)).rc r211 (by decide)
        replace hB := (hB.rc r210 (by decide)).rc r211 (by decide)
        clear r210 r211
        generalize frz 18 (frz 17 o93) = o213 at *
        have h212 := h209.rd
        have e214 := Option.some.inj hF
        subst e214
        refine ret_post (P := Try.prog) (vs := [(.agg #[(.int .i64 (p1.length : Int)), (.int .i64 p0.Children), v89]), (.bool true)]) Try.results51 ⟨⟨_, rfl, run_loadA Try.isAgg37 Try.sizeOf37 rfl h208.cells⟩, rfl, trivial⟩ ?_
        exact ⟨[(.int .i64 (p1.length : Int)), (.int .i64 p0.Children), v89], rt oo o213 w.heap.size 9 t, rfl, ⟨_, rfl, h212.rt hB 9 t (by decide)⟩, h209.rt hB 9 t (by decide), hB.keeps, rt_old _ _ _ _ _⟩
      · exact fun _ _ h => h.elim
    · exact fun _ _ h => h.elim

end Go.Proofs.Ytcjmpodljhcbhaa
