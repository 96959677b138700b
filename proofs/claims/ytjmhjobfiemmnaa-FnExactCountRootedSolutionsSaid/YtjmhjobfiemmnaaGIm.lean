/- impl.images: plain functions, and the walks that show that the program computes them (printed by gen.py). -/
import Derived.Test.YtjmhjobfiemmnaaGA
import Derived.Test.YtjmhjobfiemmnaaKg
namespace Go.Proofs.Ytjmhjobfiemmnaa
open Go.RowKit
set_option linter.unusedSimpArgs false
set_option linter.unusedVariables false

theorem info2_t_int_Im : Inf Try.prog 3 (.int .i64 0) 1 8 := by unfold Inf; kernel_rfl

def fI_images_s1 (p1 : List Int) : Int → Int → (List Int) → Option (Lp (List Int) (List Int) (List Int)) := fun (i7 : Int) (x17 : Int) (s : List Int) =>
  (ix p1 x17) >>= fun x23 =>
  (push s x23) >>= fun x35 =>
  some (.go x35)
def fI_images (p0 : List Int) (p1 : List Int) : Option (List Int) :=
  (forI (fI_images_s1 p1) p0 0 []) >>= fun q8 =>
  match q8 with
  | .inl y2 =>
    some y2
  | .inr _ => none

def pI_images (oo : Tg) (t : Nat) (w : World) (r : List Int) : Ending → World → Prop := fun e w' => ∃ (v0 : Value) (o' : Tg), e = .returned (v0) ∧ Ow w.heap.size 3 t o' w' v0 r ∧ Keeps w w' ∧ ∀ b, b < w.heap.size → o' b = oo b
set_option maxRecDepth 100000 in
set_option maxHeartbeats 2000000 in
theorem cI_images (w : World) (oo : Tg) (t : Nat) (ht : 2 ≤ t) (u0 : Value) (p0 : List Int) (g0 : RdL zt w u0 p0) (u1 : Value) (p1 : List Int) (g1 : RdL zt w u1 p1) (r : List Int) (hF : fI_images p0 p1 = some r) :
    Calls Try.prog 37 #[u0, u1] w (pI_images oo t w r) := by
  unfold fI_images at hF
  have hB : Bs oo (col oo) w w := Bs.start _ _
  refine calls_start (n := 23) (vs := [u0, u1]) Try.func37 rfl rfl ?_
  generalize col oo = o at *
  refine wpC_seq ?_
  refine wpC_region ?_
  refine st_val (ex_assign rfl) (by decide) trivial ?_
  refine wpF_end (r := [(0, u0), (1, u1)]) ⟨rfl, rfl, trivial⟩ ?_
  refine nx ?_
  refine wpC_seq ?_
  refine wpC_region ?_
  refine st_val (ex_assign rfl) (by decide) trivial ?_
  refine wpF_end (r := [(0, u0), (1, u1), (5, (.slice none 0 0))]) ⟨rfl, rfl, rfl, trivial⟩ ?_
  refine nx ?_
  refine wpC_seq ?_
  refine wpC_seq ?_
  refine wpC_region ?_
  refine st_val (ex_move rfl) (by decide) trivial ?_
  refine st_val (ex_lenR rfl g0 Try.underlying25) (by decide) trivial ?_
  refine st_val (ex_move rfl) (by decide) trivial ?_
  refine wpF_end (r := [(1, u1), (5, (.slice none 0 0)), (8, u0), (9, (.int .i64 (p0.length : Int))), (10, (.int .i64 0))]) ⟨rfl, rfl, rfl, rfl, rfl, trivial⟩ ?_
  refine nx ?_
  have h1 : Ow w.heap.size 3 11 o w (.slice none 0 0) ([] : List Int) := Ow.nil _ _ _ _ _
  obtain ⟨q8, hq8, hF⟩ := bind_some hF
  refine wpC_cutN (fun a w6 => ∃ (y2 : List Int) (v3 : Value) (o5 : Tg), q8 = .inl y2 ∧ Fr a 23 [(5, v3)] ∧ Bs oo o5 w w6 ∧ Ow w.heap.size 3 11 o5 w6 v3 y2) (fun _ _ => False) ?_ ?_ ?_
  · refine wpC_block ?_
    refine wpC_loop (fun (K : Nat) a w6 => ∃ (i7 : Int) (y2 : List Int) (v3 : Value) (o5 : Tg), forI (fI_images_s1 p1) (p0.drop i7.toNat) i7 y2 = some q8 ∧ (p0.drop i7.toNat).length = K ∧ 0 ≤ i7 ∧ Fr a 23 [(1, u1), (5, v3), (8, u0), (9, (.int .i64 (p0.length : Int))), (10, (.int .i64 i7))] ∧ Bs oo o5 w w6 ∧ Ow w.heap.size 3 11 o5 w6 v3 y2) _ (fun a ha => ⟨0, [], (.slice none 0 0), o, hq8, rfl, Int.le_refl 0, ha.sub (r := [(1, u1), (5, (.slice none 0 0)), (8, u0), (9, (.int .i64 (p0.length : Int))), (10, (.int .i64 0))]) ⟨rfl, rfl, rfl, rfl, rfl, trivial⟩, hB, h1⟩) ?_
    rintro K12 a w6 ⟨i7, y2, v3, o5, l9, m11, z10, ha, hB, h4⟩
    by_cases t16 : i7 < (p0.length : Int)
    · obtain ⟨x17, q13, hx17, b14, n15⟩ := forI_cons z10 t16 l9
      have hle := g0.len_le
      dsimp only [fI_images_s1] at b14
      refine wp_of ha ?_
      refine wpC_seq ?_
      refine wpC_region ?_
      refine st_val (ex_lss rfl rfl) (by decide) trivial ?_
      refine wpF_end (r := [(1, u1), (5, v3), (8, u0), (9, (.int .i64 (p0.length : Int))), (10, (.int .i64 i7)), (11, (.bool (decide (i7 < (p0.length : Int)))))]) ⟨rfl, rfl, rfl, rfl, rfl, rfl, trivial⟩ ?_
      refine nx ?_
      refine wpC_seq ?_
      refine wpC_true (congrArg (fun b => some (Value.bool b)) (decide_eq_true t16)) ?_
      refine wpC_skip ?_
      refine nx ?_
      refine wpC_seq ?_
      refine wpC_block ?_
      refine wpC_seq ?_
      refine wpC_region ?_
      refine st_op (by decide) trivial ?_
      refine wf_atZ g0 hx17 hB rfl rfl Try.underlying25 Try.sizeOf3 ?_
      intro b18 f19 c20 h21 h22
      cases h22
      refine st_val (ex_load1 rfl Try.isAgg3 (cell_of_cells h21)) (by decide) trivial ?_
      refine st_val (ex_assign rfl) (by decide) trivial ?_
      refine wpF_end (r := [(1, u1), (5, v3), (7, (.int .i64 x17)), (8, u0), (9, (.int .i64 (p0.length : Int))), (10, (.int .i64 i7))]) ⟨rfl, rfl, rfl, rfl, rfl, rfl, trivial⟩ ?_
      refine nx ?_
      refine wpC_region ?_
      refine st_val (ex_move rfl) (by decide) trivial ?_
      refine st_val (ex_move rfl) (by decide) trivial ?_
      refine st_val (ex_move rfl) (by decide) trivial ?_
      obtain ⟨x23, hx23, b14⟩ := bind_some b14
      refine st_op (by decide) trivial ?_
      refine wf_atZ g1 hx23 hB rfl rfl Try.underlying25 Try.sizeOf3 ?_
      intro b24 f25 c26 h27 h28
      cases h28
      refine st_val (ex_load1 rfl Try.isAgg3 (cell_of_cells h27)) (by decide) trivial ?_
      refine st_op (by decide) trivial ?_
      refine wf_litR (o := o5) (cs := [(.int .i64 x23)]) (xs := ([x23] : List Int)) (vs := [(0, (.int .i64 x23))]) ⟨_, _, rfl, rfl, rfl⟩ rfl ⟨rfl, rfl, trivial⟩ Try.underlying25 Try.sizeOf3 Try.zeroValue3 (by decide) (fill1 rfl) (by simp) ?_
      intro o29 w30 v31 h32 s33 k34
      replace h4 := h4.stp s33 (by decide) (by decide)
      replace hB := hB.stp s33 (by decide)
      obtain ⟨x35, hx35, b14⟩ := bind_some b14
      refine st_op (by decide) trivial ?_
      refine wf_cat h4 h32 (push_cat hx35) (by decide) hB.keeps.size rfl rfl Try.underlying25 info2_t_int_Im rfl (by decide) ?_
      intro o36 w37 v38 h39 s40
      replace h32 := h32.stp s40 (by decide)
      replace hB := hB.stp s40 (by decide)
      refine st_val (ex_assign rfl) (by decide) trivial ?_
      refine wpF_end (r := [(1, u1), (5, v38), (8, u0), (9, (.int .i64 (p0.length : Int))), (10, (.int .i64 i7))]) ⟨rfl, rfl, rfl, rfl, rfl, trivial⟩ ?_
      refine nb_norm ?_
      refine nx ?_
      refine wpC_region ?_
      refine st_val (ex_add rfl rfl (ck_in (by omega) (by omega))) (by decide) trivial ?_
      refine st_val (ex_move rfl) (by decide) trivial ?_
      refine wpF_end (r := [(1, u1), (5, v38), (8, u0), (9, (.int .i64 (p0.length : Int))), (10, (.int .i64 (i7 + 1)))]) ⟨rfl, rfl, rfl, rfl, rfl, trivial⟩ ?_
      refine nt_norm ?_
      have e41 := Option.some.inj b14
      subst e41
      refine to_k (r := [(1, u1), (5, v38), (8, u0), (9, (.int .i64 (p0.length : Int))), (10, (.int .i64 (i7 + 1)))]) ⟨rfl, rfl, rfl, rfl, rfl, trivial⟩ ?_
      intro a ha
      exact ⟨_, (by rw [← m11]; simp only [List.length_drop]; omega), i7 + 1, x35, v38, o36, n15, rfl, (by omega), ha, hB, h39⟩
    · have r42 := forI_done t16 l9
      refine wp_of ha ?_
      refine wpC_seq ?_
      refine wpC_region ?_
      refine st_val (ex_lss rfl rfl) (by decide) trivial ?_
      refine wpF_end (r := [(1, u1), (5, v3), (8, u0), (9, (.int .i64 (p0.length : Int))), (10, (.int .i64 i7)), (11, (.bool (decide (i7 < (p0.length : Int)))))]) ⟨rfl, rfl, rfl, rfl, rfl, rfl, trivial⟩ ?_
      refine nx ?_
      refine wpC_seq ?_
      refine wpC_false (congrArg (fun b => some (Value.bool b)) (decide_eq_false t16)) ?_
      refine wpC_exit ?_
      refine nt_exit ?_
      refine nt_exit ?_
      refine nb_hit ?_
      refine np_norm ?_
      refine to_k (r := [(5, v3)]) ⟨rfl, trivial⟩ ?_
      intro a ha
      exact ⟨y2, v3, o5, r42, ha, hB, h4⟩
  · rintro a w6 ⟨y2, v3, o5, rfl, ha, hB, h4⟩
    dsimp only at hF
    refine ap_k ha ?_
    refine nx ?_
    refine wpC_seq ?_
    refine wpC_region ?_
    refine st_val (ex_move rfl) (by decide) trivial ?_
    refine st_val (ex_assign rfl) (by decide) trivial ?_
    refine wpF_end (r := [(4, v3)]) ⟨rfl, trivial⟩ ?_
    refine nx ?_
    refine wpC_ret ?_
    have e43 := Option.some.inj hF
    subst e43
    refine ret_post (P := Try.prog) (vs := [v3]) Try.results37 ⟨rfl, trivial⟩ ?_
    exact ⟨_, rt oo o5 w.heap.size 11 t, rfl, h4.rt hB (by decide) t, hB.keeps, rt_old _ _ _ _ _⟩
  · exact fun _ _ h => h.elim

end Go.Proofs.Ytjmhjobfiemmnaa
