/- (impl.RootedProblem).canComplete$1, (impl.RootedProblem).canComplete, impl.CompleteRooted: plain functions, and the walks that show that the program computes them (printed by gen.py). -/
import Derived.Test.YtjmhjobfiemmnaaKpy
import Derived.Test.YtjmhjobfiemmnaaGY
import Derived.Test.YtjmhjobfiemmnaaGM
namespace Go.Proofs.Ytjmhjobfiemmnaa
set_option linter.unusedSimpArgs false
set_option linter.unusedVariables false

open Go.RowKit
theorem info2_t_int_Fch : Inf Try.prog 3 (.int .i64 0) 1 8 := by unfold Inf; kernel_rfl

def fI_firstChoice_1_s1 (p0 : Int) (p1 : List (List Int)) (p2 : (List Int) → Option Bool) (self : Int → (List (List Int)) → ((List Int) → Option Bool) → (List Int) → Option (Bool × List Int)) : Int → Int → (List Int) → Option (Lp (List Int) (List Int) (Bool × List Int)) := fun (i19 : Int) (x29 : Int) (s : List Int) =>
  (ix s p0) >>= fun x35 =>
  (st s p0 x29) >>= fun x44 =>
  (ck (p0 + 1)) >>= fun x46 =>
  (self x46 p1 p2 x44) >>= fun x47 =>
  if x47.1 then
    some (.ret (true, x47.2))
  else
    some (.go x47.2)
def fI_firstChoice_1 : Nat → Int → (List (List Int)) → ((List Int) → Option Bool) → (List Int) → Option (Bool × List Int)
  | 0 => fun _ _ _ _ => none
  | fuel + 1 => fun p0 p1 p2 p3 =>
    if p0 == (p1.length : Int) then
      (p2 p3) >>= fun x2 =>
      some (x2, p3)
    else
      (ix p1 p0) >>= fun x7 =>
      (forI (fI_firstChoice_1_s1 p0 p1 p2 (fI_firstChoice_1 fuel)) x7 0 p3) >>= fun q20 =>
      match q20 with
      | .inl y15 =>
        some (false, y15)
      | .inr r' => some r'

def pI_firstChoice_1 (oo o : Tg) (w w1 : World) (u : Value) (r : Bool × List Int) : Ending → World → Prop := fun e w' => ∃ (o' : Tg), e = .returned (.bool r.1) ∧ Ow w.heap.size 3 13 o' w' u r.2 ∧ Bs oo o' w w' ∧ Stp 13 o w1 o' w'
set_option maxRecDepth 100000 in
set_option maxHeartbeats 2000000 in
theorem cI_firstChoice_1 (fuel : Nat) : ∀ (w : World) (w1 : World) (oo o : Tg) (hB : Bs oo o w w1) (p0 : Int) (b1 : Nat) (u1 : Value) (p1 : List (List Int)) (cb1 : Bx w.heap.size 11 o w1 b1 22 [u1]) (g1 : RdL zt w u1 p1) (b2 : Nat) (u2 : Value) (p2 : (List Int) → Option Bool) (cb2 : Bx w.heap.size 12 o w1 b2 72 [u2]) (g2 : FnV Try.prog w u2 p2) (b3 : Nat) (u3 : Value) (p3 : List Int) (cb3 : Bx w.heap.size 14 o w1 b3 25 [u3]) (g3 : Ow w.heap.size 3 13 o w1 u3 p3) (b4 : Nat) (cb4 : Bx w.heap.size 15 o w1 b4 70 [(.func (.func 73) #[] #[(.pointer (some ⟨b1, 0, none⟩)), (.pointer (some ⟨b2, 0, none⟩)), (.pointer (some ⟨b3, 0, none⟩)), (.pointer (some ⟨b4, 0, none⟩))])]) (r : Bool × List Int) (hF : fI_firstChoice_1 fuel p0 p1 p2 p3 = some r), Calls Try.prog 73 #[.int .i64 p0, .pointer (some ⟨b1, 0, none⟩), .pointer (some ⟨b2, 0, none⟩), .pointer (some ⟨b3, 0, none⟩), .pointer (some ⟨b4, 0, none⟩)] w1 (pI_firstChoice_1 oo o w w1 u3 r) := by
  induction fuel with
  | zero =>
    intro w w1 oo o hB p0 b1 u1 p1 cb1 g1 b2 u2 p2 cb2 g2 b3 u3 p3 cb3 g3 b4 cb4 r hF
    unfold fI_firstChoice_1 at hF
    cases hF
  | succ fuel ih =>
    intro w w1 oo o hB p0 b1 u1 p1 cb1 g1 b2 u2 p2 cb2 g2 b3 u3 p3 cb3 g3 b4 cb4 r hF
    unfold fI_firstChoice_1 at hF
    have hS : Stp 13 o w1 o w1 := Stp.refl _ _ _
    refine calls_start (n := 34) (vs := [(.int .i64 p0), (.pointer (some ⟨b1, 0, none⟩)), (.pointer (some ⟨b2, 0, none⟩)), (.pointer (some ⟨b3, 0, none⟩)), (.pointer (some ⟨b4, 0, none⟩))]) Try.func73 rfl rfl ?_
    refine wpC_seq ?_
    refine wpC_region ?_
    refine st_val (ex_assign rfl) (by decide) trivial ?_
    refine wpF_end (r := [(0, (.int .i64 p0)), (1, (.pointer (some ⟨b1, 0, none⟩))), (2, (.pointer (some ⟨b2, 0, none⟩))), (3, (.pointer (some ⟨b3, 0, none⟩))), (4, (.pointer (some ⟨b4, 0, none⟩)))]) ⟨rfl, rfl, rfl, rfl, rfl, trivial⟩ ?_
    refine nx ?_
    refine wpC_seq ?_
    refine wpC_seq ?_
    refine wpC_region ?_
    refine st_val (ex_move rfl) (by decide) trivial ?_
    refine st_val (ex_load1 rfl Try.isAgg22 (cb1.cell rfl)) (by decide) trivial ?_
    refine st_val (ex_lenR rfl g1 Try.underlying22) (by decide) trivial ?_
    refine st_val (ex_eql rfl rfl) (by decide) trivial ?_
    refine wpF_end (r := [(0, (.int .i64 p0)), (1, (.pointer (some ⟨b1, 0, none⟩))), (2, (.pointer (some ⟨b2, 0, none⟩))), (3, (.pointer (some ⟨b3, 0, none⟩))), (4, (.pointer (some ⟨b4, 0, none⟩))), (12, (.bool (p0 == (p1.length : Int))))]) ⟨rfl, rfl, rfl, rfl, rfl, rfl, trivial⟩ ?_
    refine nx ?_
    refine wpC_cond rfl (fun t1 => ?_) (fun t1 => ?_)
    · rw [if_pos t1] at hF
      refine wpC_seq ?_
      refine wpC_region ?_
      refine st_val (ex_load1 rfl Try.isAgg72 (cb2.cell rfl)) (by decide) trivial ?_
      refine st_val (ex_load1 rfl Try.isAgg25 (cb3.cell rfl)) (by decide) trivial ?_
      obtain ⟨x2, hx2, hF⟩ := bind_some hF
      refine st_op (by decide) trivial ?_
      refine wf_callv (x := p3) (vs := [u3]) (g2.keep hB.keeps) hx2 ⟨_, rfl, g3.z⟩ rfl ⟨rfl, trivial⟩ ?_
      intro w3 k4
      have s5 := k4.stp 999 o
      replace hS := hS.trans (k4.stp 13 o)
      replace g3 := g3.stp s5 (by decide) (by decide)
      replace cb1 := cb1.stp s5 (by decide)
      replace cb2 := cb2.stp s5 (by decide)
      replace cb3 := cb3.stp s5 (by decide)
      replace cb4 := cb4.stp s5 (by decide)
      replace hB := hB.stp s5 (by decide)
      refine st_val (ex_assign rfl) (by decide) trivial ?_
      refine wpF_end (r := [(6, (.bool x2))]) ⟨rfl, trivial⟩ ?_
      refine nx ?_
      refine wpC_ret ?_
      refine nt_ret ?_
      have e6 := Option.some.inj hF
      subst e6
      refine ret_post (P := Try.prog) (vs := [(.bool x2)]) Try.results73 ⟨rfl, trivial⟩ ?_
      exact ⟨o, rfl, g3, hB, hS⟩
    · rw [if_neg (by rw [t1]; decide)] at hF
      refine wpC_skip ?_
      refine nx ?_
      refine wpC_seq ?_
      refine wpC_seq ?_
      refine wpC_region ?_
      refine st_val (ex_load1 rfl Try.isAgg22 (cb1.cell rfl)) (by decide) trivial ?_
      refine st_val (ex_move rfl) (by decide) trivial ?_
      obtain ⟨x7, hx7, hF⟩ := bind_some hF
      refine st_op (by decide) trivial ?_
      refine wf_atZ g1 hx7 hB rfl rfl Try.underlying22 Try.sizeOf25 ?_
      intro b8 f9 c10 h11 h12
      obtain ⟨v13, rfl, h14⟩ := h12
      refine st_val (ex_load1 rfl Try.isAgg25 (cell_of_cells h11)) (by decide) trivial ?_
      refine st_val (ex_lenR rfl h14 Try.underlying25) (by decide) trivial ?_
      refine st_val (ex_move rfl) (by decide) trivial ?_
      refine wpF_end (r := [(0, (.int .i64 p0)), (3, (.pointer (some ⟨b3, 0, none⟩))), (4, (.pointer (some ⟨b4, 0, none⟩))), (19, v13), (20, (.int .i64 (x7.length : Int))), (21, (.int .i64 0))]) ⟨rfl, rfl, rfl, rfl, rfl, rfl, trivial⟩ ?_
      refine nx ?_
      obtain ⟨q20, hq20, hF⟩ := bind_some hF
      refine wpC_cutN (fun a w18 => ∃ (y15 : List Int) (o17 : Tg), q20 = .inl y15 ∧ Fr a 34 [] ∧ Bs oo o17 w w18 ∧ Stp 13 o w1 o17 w18 ∧ Bx w.heap.size 15 o17 w18 b4 70 [(.func (.func 73) #[] #[(.pointer (some ⟨b1, 0, none⟩)), (.pointer (some ⟨b2, 0, none⟩)), (.pointer (some ⟨b3, 0, none⟩)), (.pointer (some ⟨b4, 0, none⟩))])] ∧ Bx w.heap.size 14 o17 w18 b3 25 [u3] ∧ Ow w.heap.size 3 13 o17 w18 u3 y15 ∧ Bx w.heap.size 12 o17 w18 b2 72 [u2] ∧ Bx w.heap.size 11 o17 w18 b1 22 [u1]) (fun a w' => ∃ r', q20 = .inr r' ∧ bodyPost Try.prog Try.f73 (pI_firstChoice_1 oo o w w1 u3 r') .ret a w') ?_ ?_ ?_
      · refine wpC_block ?_
        refine wpC_loop (fun (K : Nat) a w18 => ∃ (i19 : Int) (y15 : List Int) (o17 : Tg), forI (fI_firstChoice_1_s1 p0 p1 p2 (fI_firstChoice_1 fuel)) (x7.drop i19.toNat) i19 y15 = some q20 ∧ (x7.drop i19.toNat).length = K ∧ 0 ≤ i19 ∧ Fr a 34 [(0, (.int .i64 p0)), (3, (.pointer (some ⟨b3, 0, none⟩))), (4, (.pointer (some ⟨b4, 0, none⟩))), (19, v13), (20, (.int .i64 (x7.length : Int))), (21, (.int .i64 i19))] ∧ Bs oo o17 w w18 ∧ Stp 13 o w1 o17 w18 ∧ Bx w.heap.size 15 o17 w18 b4 70 [(.func (.func 73) #[] #[(.pointer (some ⟨b1, 0, none⟩)), (.pointer (some ⟨b2, 0, none⟩)), (.pointer (some ⟨b3, 0, none⟩)), (.pointer (some ⟨b4, 0, none⟩))])] ∧ Bx w.heap.size 14 o17 w18 b3 25 [u3] ∧ Ow w.heap.size 3 13 o17 w18 u3 y15 ∧ Bx w.heap.size 12 o17 w18 b2 72 [u2] ∧ Bx w.heap.size 11 o17 w18 b1 22 [u1]) _ (fun a ha => ⟨0, p3, o, hq20, rfl, Int.le_refl 0, ha.sub (r := [(0, (.int .i64 p0)), (3, (.pointer (some ⟨b3, 0, none⟩))), (4, (.pointer (some ⟨b4, 0, none⟩))), (19, v13), (20, (.int .i64 (x7.length : Int))), (21, (.int .i64 0))]) ⟨rfl, rfl, rfl, rfl, rfl, rfl, trivial⟩, hB, hS, cb4, cb3, g3, cb2, cb1⟩) ?_
        rintro K24 a w18 ⟨i19, y15, o17, l21, m23, z22, ha, hB, hS, cb4, cb3, h16, cb2, cb1⟩
        by_cases t28 : i19 < (x7.length : Int)
        · obtain ⟨x29, q25, hx29, b26, n27⟩ := forI_cons z22 t28 l21
          have hle := h14.len_le
          dsimp only [fI_firstChoice_1_s1] at b26
          refine wp_of ha ?_
          refine wpC_seq ?_
          refine wpC_region ?_
          refine st_val (ex_lss rfl rfl) (by decide) trivial ?_
          refine wpF_end (r := [(0, (.int .i64 p0)), (3, (.pointer (some ⟨b3, 0, none⟩))), (4, (.pointer (some ⟨b4, 0, none⟩))), (19, v13), (20, (.int .i64 (x7.length : Int))), (21, (.int .i64 i19)), (22, (.bool (decide (i19 < (x7.length : Int)))))]) ⟨rfl, rfl, rfl, rfl, rfl, rfl, rfl, trivial⟩ ?_
          refine nx ?_
          refine wpC_seq ?_
          refine wpC_true (congrArg (fun b => some (Value.bool b)) (decide_eq_true t28)) ?_
          refine wpC_skip ?_
          refine nx ?_
          refine wpC_seq ?_
          refine wpC_block ?_
          refine wpC_seq ?_
          refine wpC_region ?_
          refine st_op (by decide) trivial ?_
          refine wf_atZ h14 hx29 hB rfl rfl Try.underlying25 Try.sizeOf3 ?_
          intro b30 f31 c32 h33 h34
          cases h34
          refine st_val (ex_load1 rfl Try.isAgg3 (cell_of_cells h33)) (by decide) trivial ?_
          refine st_val (ex_assign rfl) (by decide) trivial ?_
          refine wpF_end (r := [(0, (.int .i64 p0)), (3, (.pointer (some ⟨b3, 0, none⟩))), (4, (.pointer (some ⟨b4, 0, none⟩))), (8, (.int .i64 x29)), (19, v13), (20, (.int .i64 (x7.length : Int))), (21, (.int .i64 i19))]) ⟨rfl, rfl, rfl, rfl, rfl, rfl, rfl, trivial⟩ ?_
          refine nx ?_
          refine wpC_seq ?_
          refine wpC_region ?_
          refine st_val (ex_load1 rfl Try.isAgg25 (cb3.cell rfl)) (by decide) trivial ?_
          refine st_val (ex_move rfl) (by decide) trivial ?_
          refine st_val (ex_move rfl) (by decide) trivial ?_
          obtain ⟨x35, hx35, b26⟩ := bind_some b26
          refine st_op (by decide) trivial ?_
          refine wf_atP h16 hx35 rfl rfl Try.underlying25 Try.sizeOf3 ?_
          intro b36 c38 h41 h39 h40
          cases h40
          obtain ⟨x44, hx44, b26⟩ := bind_some b26
          refine st_op0 trivial ?_
          refine wf_storeW h16 h41 hx44 rfl (by decide) rfl rfl rfl Try.sizeOf3 rfl ?_
          intro w42 h45 s43
          replace hS := hS.trans s43
          replace cb1 := cb1.stp s43 (by decide)
          replace cb2 := cb2.stp s43 (by decide)
          replace cb3 := cb3.stp s43 (by decide)
          replace cb4 := cb4.stp s43 (by decide)
          replace hB := hB.stp s43 (by decide)
          refine wpF_end (r := [(0, (.int .i64 p0)), (3, (.pointer (some ⟨b3, 0, none⟩))), (4, (.pointer (some ⟨b4, 0, none⟩))), (19, v13), (20, (.int .i64 (x7.length : Int))), (21, (.int .i64 i19))]) ⟨rfl, rfl, rfl, rfl, rfl, rfl, trivial⟩ ?_
          refine nx ?_
          refine wpC_seq ?_
          refine wpC_region ?_
          refine st_val (ex_load1 rfl Try.isAgg70 (cb4.cell rfl)) (by decide) trivial ?_
          refine st_val (ex_move rfl) (by decide) trivial ?_
          obtain ⟨x46, hx46, b26⟩ := bind_some b26
          refine st_val (ex_add rfl rfl hx46) (by decide) trivial ?_
          obtain ⟨x47, hx47, b26⟩ := bind_some b26
          refine st_op (by decide) trivial ?_
          refine wf_callc (vs := [(.int .i64 x46)]) (cap := [(.pointer (some ⟨b1, 0, none⟩)), (.pointer (some ⟨b2, 0, none⟩)), (.pointer (some ⟨b3, 0, none⟩)), (.pointer (some ⟨b4, 0, none⟩))]) (ih w w42 oo o17 hB x46 b1 u1 p1 cb1 g1 b2 u2 p2 cb2 g2 b3 u3 x44 cb3 h45 b4 cb4 x47 hx47) Try.call73 rfl ⟨rfl, trivial⟩ ?_
          rintro e50 w48 ⟨o49, rfl, h51, -, s52⟩
          refine ⟨_, rfl, ?_⟩
          replace hS := hS.trans s52
          replace cb1 := cb1.stp s52 (by decide)
          replace cb2 := cb2.stp s52 (by decide)
          replace cb3 := cb3.stp s52 (by decide)
          replace cb4 := cb4.stp s52 (by decide)
          replace hB := hB.stp s52 (by decide)
          refine wpF_end (r := [(0, (.int .i64 p0)), (3, (.pointer (some ⟨b3, 0, none⟩))), (4, (.pointer (some ⟨b4, 0, none⟩))), (19, v13), (20, (.int .i64 (x7.length : Int))), (21, (.int .i64 i19)), (32, (.bool x47.1))]) ⟨rfl, rfl, rfl, rfl, rfl, rfl, rfl, trivial⟩ ?_
          refine nx ?_
          refine wpC_cond rfl (fun t53 => ?_) (fun t53 => ?_)
          · rw [if_pos t53] at b26
            refine wpC_seq ?_
            refine wpC_region ?_
            refine st_val (ex_assign rfl) (by decide) trivial ?_
            refine wpF_end (r := [(6, (.bool true))]) ⟨rfl, trivial⟩ ?_
            refine nx ?_
            refine wpC_ret ?_
            refine nb_ret ?_
            refine nt_ret ?_
            refine nt_ret ?_
            refine nb_ret ?_
            refine np_ret ?_
            have e54 := Option.some.inj b26
            subst e54
            refine fun a ha => ⟨_, n27, ?_⟩
            refine ret_post (P := Try.prog) (vs := [(.bool true)]) Try.results73 ⟨rfl, trivial⟩ ?_ a ha
            exact ⟨o49, rfl, h51, hB, hS⟩
          · rw [if_neg (by rw [t53]; decide)] at b26
            refine wpC_skip ?_
            refine nb_norm ?_
            refine nx ?_
            refine wpC_region ?_
            refine st_val (ex_add rfl rfl (ck_in (by omega) (by omega))) (by decide) trivial ?_
            refine st_val (ex_move rfl) (by decide) trivial ?_
            refine wpF_end (r := [(0, (.int .i64 p0)), (3, (.pointer (some ⟨b3, 0, none⟩))), (4, (.pointer (some ⟨b4, 0, none⟩))), (19, v13), (20, (.int .i64 (x7.length : Int))), (21, (.int .i64 (i19 + 1)))]) ⟨rfl, rfl, rfl, rfl, rfl, rfl, trivial⟩ ?_
            refine nt_norm ?_
            have e55 := Option.some.inj b26
            subst e55
            refine to_k (r := [(0, (.int .i64 p0)), (3, (.pointer (some ⟨b3, 0, none⟩))), (4, (.pointer (some ⟨b4, 0, none⟩))), (19, v13), (20, (.int .i64 (x7.length : Int))), (21, (.int .i64 (i19 + 1)))]) ⟨rfl, rfl, rfl, rfl, rfl, rfl, trivial⟩ ?_
            intro a ha
            exact ⟨_, (by rw [← m23]; simp only [List.length_drop]; omega), i19 + 1, x47.2, o49, n27, rfl, (by omega), ha, hB, hS, cb4, cb3, h51, cb2, cb1⟩
        · have r56 := forI_done t28 l21
          refine wp_of ha ?_
          refine wpC_seq ?_
          refine wpC_region ?_
          refine st_val (ex_lss rfl rfl) (by decide) trivial ?_
          refine wpF_end (r := [(0, (.int .i64 p0)), (3, (.pointer (some ⟨b3, 0, none⟩))), (4, (.pointer (some ⟨b4, 0, none⟩))), (19, v13), (20, (.int .i64 (x7.length : Int))), (21, (.int .i64 i19)), (22, (.bool (decide (i19 < (x7.length : Int)))))]) ⟨rfl, rfl, rfl, rfl, rfl, rfl, rfl, trivial⟩ ?_
          refine nx ?_
          refine wpC_seq ?_
          refine wpC_false (congrArg (fun b => some (Value.bool b)) (decide_eq_false t28)) ?_
          refine wpC_exit ?_
          refine nt_exit ?_
          refine nt_exit ?_
          refine nb_hit ?_
          refine np_norm ?_
          refine to_k (r := []) trivial ?_
          intro a ha
          exact ⟨y15, o17, r56, ha, hB, hS, cb4, cb3, h16, cb2, cb1⟩
      · rintro a w18 ⟨y15, o17, rfl, ha, hB, hS, cb4, cb3, h16, cb2, cb1⟩
        dsimp only at hF
        refine ap_k ha ?_
        refine nx ?_
        refine wpC_seq ?_
        refine wpC_region ?_
        refine st_val (ex_assign rfl) (by decide) trivial ?_
        refine wpF_end (r := [(6, (.bool false))]) ⟨rfl, trivial⟩ ?_
        refine nx ?_
        refine wpC_ret ?_
        have e57 := Option.some.inj hF
        subst e57
        refine ret_post (P := Try.prog) (vs := [(.bool false)]) Try.results73 ⟨rfl, trivial⟩ ?_
        exact ⟨o17, rfl, h16, hB, hS⟩
      · rintro a w18 ⟨r', rfl, b58⟩
        dsimp only at hF
        have e59 := Option.some.inj hF
        subst e59
        exact b58

def fI_firstChoice (fuel : Nat) (p0 : List (List Int)) (p1 : (List Int) → Option Bool) : Option ((List Int) × Bool) :=
  (mk (Rz.z : Int) (p0.length : Int)) >>= fun x11 =>
  (fI_firstChoice_1 fuel 0 p0 p1 x11) >>= fun x33 =>
  if !x33.1 then
    some ([], false)
  else
    some (x33.2, true)

def pI_firstChoice (oo : Tg) (t : Nat) (w : World) (r : (List Int) × Bool) : Ending → World → Prop := fun e w' => ∃ (v0 : Value) (o' : Tg), e = .returned (.tuple #[v0, .bool r.2]) ∧ Ow w.heap.size 3 t o' w' v0 r.1 ∧ Keeps w w' ∧ ∀ b, b < w.heap.size → o' b = oo b
set_option maxRecDepth 100000 in
set_option maxHeartbeats 2000000 in
theorem cI_firstChoice (fuel : Nat) (w : World) (oo : Tg) (t : Nat) (ht : 2 ≤ t) (u0 : Value) (p0 : List (List Int)) (g0 : RdL zt w u0 p0) (u1 : Value) (p1 : (List Int) → Option Bool) (g1 : FnV Try.prog w u1 p1) (r : (List Int) × Bool) (hF : fI_firstChoice fuel p0 p1 = some r) :
    Calls Try.prog 56 #[u0, u1] w (pI_firstChoice oo t w r) := by
  unfold fI_firstChoice at hF
  have hB : Bs oo (col oo) w w := Bs.start _ _
  refine calls_start (n := 16) (vs := [u0, u1]) Try.func56 rfl rfl ?_
  generalize col oo = o at *
  refine wpC_seq ?_
  refine wpC_region ?_
  refine st_op (by decide) trivial ?_
  refine wf_box (o := o) w.heap.size 11 hB.keeps.size (cs := [u0]) g0.cells1 rfl ?_
  intro o1 w2 b3 h4 s5
  replace hB := hB.stp s5 (by decide)
  refine st_op (by decide) trivial ?_
  refine wf_box (o := o1) w.heap.size 12 hB.keeps.size (cs := [u1]) g1.cells1 rfl ?_
  intro o6 w7 b8 h9 s10
  replace h4 := h4.stp s10 (by decide)
  replace hB := hB.stp s10 (by decide)
  refine st_val (ex_assign rfl) (by decide) trivial ?_
  refine st_val (ex_assign rfl) (by decide) trivial ?_
  refine wpF_end (r := [(2, (.pointer (some ⟨b3, 0, none⟩))), (3, (.pointer (some ⟨b8, 0, none⟩)))]) ⟨rfl, rfl, trivial⟩ ?_
  refine nx ?_
  refine wpC_seq ?_
  refine wpC_region ?_
  refine st_val (ex_load1 rfl Try.isAgg22 (h4.cell rfl)) (by decide) trivial ?_
  refine st_val (ex_lenR rfl g0 Try.underlying22) (by decide) trivial ?_
  obtain ⟨x11, hx11, hF⟩ := bind_some hF
  refine st_op (by decide) trivial ?_
  refine wf_make (o := o6) w.heap.size 13 hB.keeps.size hx11 rfl rfl Try.underlying25 info2_t_int_Fch rfl (by decide) ?_
  intro o12 w13 v14 h15 s16
  replace h4 := h4.stp s16 (by decide)
  replace h9 := h9.stp s16 (by decide)
  replace hB := hB.stp s16 (by decide)
  refine st_op (by decide) trivial ?_
  refine wf_alloc (o := o12) w.heap.size 14 hB.keeps.size (cs := [(.slice none 0 0)]) Try.zeroValue25 rfl ?_
  intro o17 w18 b19 h20 s21
  replace h15 := h15.stp s21 (by decide) (by decide)
  replace h4 := h4.stp s21 (by decide)
  replace h9 := h9.stp s21 (by decide)
  replace hB := hB.stp s21 (by decide)
  refine st_op0 trivial ?_
  refine wf_storeB h20 rfl rfl (of_decide_eq_true rfl) Try.sizeOf25 h15.cells1 h15.one1 ?_
  intro w22 h24 s23
  replace h15 := h15.stp s23 (by decide) (by decide)
  replace h4 := h4.stp s23 (by decide)
  replace h9 := h9.stp s23 (by decide)
  replace hB := hB.stp s23 (by decide)
  replace h24 : Bx w.heap.size 14 o17 w22 b19 25 [v14] := h24
  refine wpF_end (r := [(2, (.pointer (some ⟨b3, 0, none⟩))), (3, (.pointer (some ⟨b8, 0, none⟩))), (6, (.pointer (some ⟨b19, 0, none⟩)))]) ⟨rfl, rfl, rfl, trivial⟩ ?_
  refine nx ?_
  refine wpC_seq ?_
  refine wpC_region ?_
  refine st_op (by decide) trivial ?_
  refine wf_alloc (o := o17) w.heap.size 15 hB.keeps.size (cs := [.nilFunc]) Try.zeroValue70 rfl ?_
  intro o25 w26 b27 h28 s29
  replace h4 := h4.stp s29 (by decide)
  replace h9 := h9.stp s29 (by decide)
  replace h24 := h24.stp s29 (by decide)
  replace h15 := h15.stp s29 (by decide) (by decide)
  replace hB := hB.stp s29 (by decide)
  refine wpF_end (r := [(2, (.pointer (some ⟨b3, 0, none⟩))), (3, (.pointer (some ⟨b8, 0, none⟩))), (6, (.pointer (some ⟨b19, 0, none⟩))), (7, (.pointer (some ⟨b27, 0, none⟩)))]) ⟨rfl, rfl, rfl, rfl, trivial⟩ ?_
  refine nx ?_
  refine wpC_seq ?_
  refine wpC_region ?_
  refine st_val (ex_func (vs := [(.pointer (some ⟨b3, 0, none⟩)), (.pointer (some ⟨b8, 0, none⟩)), (.pointer (some ⟨b19, 0, none⟩)), (.pointer (some ⟨b27, 0, none⟩))]) ⟨rfl, rfl, rfl, rfl, trivial⟩) (by decide) trivial ?_
  refine st_op0 trivial ?_
  refine wf_storeB h28 rfl rfl (of_decide_eq_true rfl) Try.sizeOf70 rfl rfl ?_
  intro w30 h32 s31
  replace h4 := h4.stp s31 (by decide)
  replace h9 := h9.stp s31 (by decide)
  replace h24 := h24.stp s31 (by decide)
  replace h15 := h15.stp s31 (by decide) (by decide)
  replace hB := hB.stp s31 (by decide)
  replace h32 : Bx w.heap.size 15 o25 w30 b27 70 [(.func (.func 73) #[] #[(.pointer (some ⟨b3, 0, none⟩)), (.pointer (some ⟨b8, 0, none⟩)), (.pointer (some ⟨b19, 0, none⟩)), (.pointer (some ⟨b27, 0, none⟩))])] := h32
  refine wpF_end (r := [(6, (.pointer (some ⟨b19, 0, none⟩))), (7, (.pointer (some ⟨b27, 0, none⟩)))]) ⟨rfl, rfl, trivial⟩ ?_
  refine nx ?_
  refine wpC_seq ?_
  refine wpC_seq ?_
  refine wpC_region ?_
  refine st_val (ex_load1 rfl Try.isAgg70 (h32.cell rfl)) (by decide) trivial ?_
  obtain ⟨x33, hx33, hF⟩ := bind_some hF
  refine st_op (by decide) trivial ?_
  refine wf_callc (vs := [(.int .i64 0)]) (cap := [(.pointer (some ⟨b3, 0, none⟩)), (.pointer (some ⟨b8, 0, none⟩)), (.pointer (some ⟨b19, 0, none⟩)), (.pointer (some ⟨b27, 0, none⟩))]) (cI_firstChoice_1 fuel w w30 oo o25 hB 0 b3 u0 p0 h4 g0 b8 u1 p1 h9 g1 b19 v14 x11 h24 h15 b27 h32 x33 hx33) Try.call73 rfl ⟨rfl, trivial⟩ ?_
  rintro e36 w34 ⟨o35, rfl, h37, -, s38⟩
  refine ⟨_, rfl, ?_⟩
  replace h4 := h4.stp s38 (by decide)
  replace h9 := h9.stp s38 (by decide)
  replace h24 := h24.stp s38 (by decide)
  replace h32 := h32.stp s38 (by decide)
  replace hB := hB.stp s38 (by decide)
  refine st_val (ex_not rfl) (by decide) trivial ?_
  refine wpF_end (r := [(6, (.pointer (some ⟨b19, 0, none⟩))), (14, (.bool (!x33.1)))]) ⟨rfl, rfl, trivial⟩ ?_
  refine nx ?_
  refine wpC_cond rfl (fun t39 => ?_) (fun t39 => ?_)
  · rw [if_pos t39] at hF
    refine wpC_seq ?_
    refine wpC_region ?_
    refine st_val (ex_assign rfl) (by decide) trivial ?_
    refine st_val (ex_assign rfl) (by decide) trivial ?_
    refine wpF_end (r := [(4, (.slice none 0 0)), (5, (.bool false))]) ⟨rfl, rfl, trivial⟩ ?_
    refine nx ?_
    refine wpC_ret ?_
    refine nt_ret ?_
    have e40 := Option.some.inj hF
    subst e40
    refine ret_post (P := Try.prog) (vs := [(.slice none 0 0), (.bool false)]) Try.results56 ⟨rfl, rfl, trivial⟩ ?_
    exact ⟨_, rt oo o35 w.heap.size 9 t, rfl, (Ow.nil _ _ _ _ _), hB.keeps, rt_old _ _ _ _ _⟩
  · rw [if_neg (by rw [t39]; decide)] at hF
    refine wpC_skip ?_
    refine nx ?_
    refine wpC_seq ?_
    refine wpC_region ?_
    refine st_val (ex_load1 rfl Try.isAgg25 (h24.cell rfl)) (by decide) trivial ?_
    refine st_val (ex_assign rfl) (by decide) trivial ?_
    refine st_val (ex_assign rfl) (by decide) trivial ?_
    refine wpF_end (r := [(4, v14), (5, (.bool true))]) ⟨rfl, rfl, trivial⟩ ?_
    refine nx ?_
    refine wpC_ret ?_
    have e41 := Option.some.inj hF
    subst e41
    refine ret_post (P := Try.prog) (vs := [v14, (.bool true)]) Try.results56 ⟨rfl, rfl, trivial⟩ ?_
    exact ⟨_, rt oo o35 w.heap.size 13 t, rfl, h37.rt hB (by decide) t, hB.keeps, rt_old _ _ _ _ _⟩
open Go.RowKit
theorem info2_t_int_Crt : Inf Try.prog 3 (.int .i64 0) 1 8 := by unfold Inf; kernel_rfl

theorem info2_t_Lint_Crt : Inf Try.prog 25 (.slice none 0 0) 1 24 := by unfold Inf; kernel_rfl

def fI_RootedProblem_canComplete_1 (fuel : Nat) (p0 : List Int) (p1 : T_RootedProblem) (p2 : Int) : Option Bool :=
  (fI_RootedProblem_line fuel p1 p2 p0) >>= fun x3 =>
  some x3

def pI_RootedProblem_canComplete_1 (w : World) (r : Bool) : Ending → World → Prop := fun e w' => e = .returned (.bool r) ∧ Keeps w w'
set_option maxRecDepth 100000 in
set_option maxHeartbeats 2000000 in
theorem cI_RootedProblem_canComplete_1 (fuel : Nat) (w : World) (u0 : Value) (p0 : List Int) (g0 : RdL zt w u0 p0) (b1 : Nat) (u1 : List Value) (p1 : T_RootedProblem) (k1 : Cells w b1 0 u1) (g1 : Rp.rd zt w u1 p1) (b2 : Nat) (u2 : List Value) (p2 : Int) (k2 : Cells w b2 0 u2) (g2 : Rp.rd zt w u2 p2) (r : Bool) (hF : fI_RootedProblem_canComplete_1 fuel p0 p1 p2 = some r) :
    Calls Try.prog 57 #[u0, .pointer (some ⟨b1, 0, none⟩), .pointer (some ⟨b2, 0, none⟩)] w (pI_RootedProblem_canComplete_1 w r) := by
  unfold fI_RootedProblem_canComplete_1 at hF
  have g1k := g1
  obtain ⟨v1, rfl, h2⟩ := g1
  have g2k := g2
  cases g2
  have hB : Bs (fun _ => 1) (col (fun _ => 1)) w w := Bs.start _ _
  refine calls_start (n := 9) (vs := [u0, (.pointer (some ⟨b1, 0, none⟩)), (.pointer (some ⟨b2, 0, none⟩))]) Try.func57 rfl rfl ?_
  refine wpC_seq ?_
  refine wpC_region ?_
  refine st_val (ex_assign rfl) (by decide) trivial ?_
  refine wpF_end (r := [(0, u0), (1, (.pointer (some ⟨b1, 0, none⟩))), (2, (.pointer (some ⟨b2, 0, none⟩)))]) ⟨rfl, rfl, rfl, trivial⟩ ?_
  refine nx ?_
  refine wpC_seq ?_
  refine wpC_region ?_
  refine st_val (ex_loadA rfl Try.isAgg29 Try.sizeOf29 rfl (k1.keep hB.keeps)) (by decide) trivial ?_
  refine st_val (ex_load1 rfl Try.isAgg3 (cell_of_cells (k2.keep hB.keeps))) (by decide) trivial ?_
  refine st_val (ex_move rfl) (by decide) trivial ?_
  obtain ⟨x3, hx3, hF⟩ := bind_some hF
  refine st_op (by decide) trivial ?_
  refine wf_call (cI_RootedProblem_line fuel w _ p1 (⟨_, rfl, (h2.keep hB.keeps)⟩) p2 _ p0 (g0.keep hB.keeps) x3 hx3) Try.call30 ⟨rfl, rfl, rfl, trivial⟩ ?_
  rintro e8 w4 ⟨rfl, k5⟩
  have s7 := k5.stp 999 (col (fun _ => 1))
  refine ⟨_, rfl, ?_⟩
  replace hB := hB.stp s7 (by decide)
  refine st_val (ex_assign rfl) (by decide) trivial ?_
  refine wpF_end (r := [(4, (.bool x3))]) ⟨rfl, trivial⟩ ?_
  refine nx ?_
  refine wpC_ret ?_
  have e9 := Option.some.inj hF
  subst e9
  refine ret_post (P := Try.prog) (vs := [(.bool x3)]) Try.results57 ⟨rfl, trivial⟩ ?_
  exact ⟨rfl, hB.keeps⟩

def fI_RootedProblem_canComplete_s1 (fuel : Nat) : Int → Int → (List (List Int)) → Option (Lp (List (List Int)) (List (List Int)) Bool) := fun (i22 : Int) (x32 : Int) (s : List (List Int)) =>
  (fI_labelsIn fuel x32) >>= fun x38 =>
  (push s x38) >>= fun x53 =>
  some (.go x53)
def fI_RootedProblem_canComplete (fuel : Nat) (p0 : T_RootedProblem) (p1 : Int) (p2 : List Int) : Option Bool :=
  (forI (fI_RootedProblem_canComplete_s1 fuel) p2 0 []) >>= fun q23 =>
  match q23 with
  | .inl y15 =>
    (fI_firstChoice fuel y15 (fun z66 => fI_RootedProblem_canComplete_1 fuel z66 p0 p1)) >>= fun x69 =>
    some x69.2
  | .inr _ => none

def pI_RootedProblem_canComplete (w : World) (r : Bool) : Ending → World → Prop := fun e w' => e = .returned (.bool r) ∧ Keeps w w'
set_option maxRecDepth 100000 in
set_option maxHeartbeats 2000000 in
theorem cI_RootedProblem_canComplete (fuel : Nat) (w : World) (u0 : List Value) (p0 : T_RootedProblem) (g0 : Rp.rd zt w u0 p0) (p1 : Int) (u2 : Value) (p2 : List Int) (g2 : RdL zt w u2 p2) (r : Bool) (hF : fI_RootedProblem_canComplete fuel p0 p1 p2 = some r) :
    Calls Try.prog 36 #[.agg u0.toArray, .int .i64 p1, u2] w (pI_RootedProblem_canComplete w r) := by
  unfold fI_RootedProblem_canComplete at hF
  obtain ⟨v1, rfl, h2⟩ := g0
  have hB : Bs (fun _ => 1) (col (fun _ => 1)) w w := Bs.start _ _
  refine calls_start (n := 31) (vs := [(.agg #[(.int .i64 p0.Labels), (.int .i64 p0.Children), v1]), (.int .i64 p1), u2]) Try.func36 rfl rfl ?_
  refine wpC_seq ?_
  refine wpC_region ?_
  refine st_op (by decide) trivial ?_
  refine wf_box (o := (col (fun _ => 1))) w.heap.size 11 hB.keeps.size (cs := [(.int .i64 p0.Labels), (.int .i64 p0.Children), v1]) rfl rfl ?_
  intro o3 w4 b5 h6 s7
  replace hB := hB.stp s7 (by decide)
  refine st_op (by decide) trivial ?_
  refine wf_box (o := o3) w.heap.size 12 hB.keeps.size (cs := [(.int .i64 p1)]) rfl rfl ?_
  intro o8 w9 b10 h11 s12
  replace h6 := h6.stp s12 (by decide)
  replace hB := hB.stp s12 (by decide)
  refine st_val (ex_assign rfl) (by decide) trivial ?_
  refine wpF_end (r := [(2, u2), (3, (.pointer (some ⟨b5, 0, none⟩))), (4, (.pointer (some ⟨b10, 0, none⟩)))]) ⟨rfl, rfl, rfl, trivial⟩ ?_
  refine nx ?_
  refine wpC_seq ?_
  refine wpC_region ?_
  refine st_val (ex_assign rfl) (by decide) trivial ?_
  refine wpF_end (r := [(2, u2), (3, (.pointer (some ⟨b5, 0, none⟩))), (4, (.pointer (some ⟨b10, 0, none⟩))), (7, (.slice none 0 0))]) ⟨rfl, rfl, rfl, rfl, trivial⟩ ?_
  refine nx ?_
  refine wpC_seq ?_
  refine wpC_seq ?_
  refine wpC_region ?_
  refine st_val (ex_move rfl) (by decide) trivial ?_
  refine st_val (ex_lenR rfl g2 Try.underlying25) (by decide) trivial ?_
  refine st_val (ex_move rfl) (by decide) trivial ?_
  refine wpF_end (r := [(3, (.pointer (some ⟨b5, 0, none⟩))), (4, (.pointer (some ⟨b10, 0, none⟩))), (7, (.slice none 0 0)), (12, u2), (13, (.int .i64 (p2.length : Int))), (14, (.int .i64 0))]) ⟨rfl, rfl, rfl, rfl, rfl, rfl, trivial⟩ ?_
  refine nx ?_
  have h13 : Ow w.heap.size 25 13 o8 w9 (.slice none 0 0) ([] : List Hv) := Ow.nil _ _ _ _ _
  have h14 : Rws w.heap.size 3 14 o8 w9 [] ([] : List (List Int)) := Rws.nil _ _ _ _ _
  obtain ⟨q23, hq23, hF⟩ := bind_some hF
  refine wpC_cutN (fun a w21 => ∃ (y15 : List (List Int)) (v16 : Value) (g19 : List Hv) (o20 : Tg), q23 = .inl y15 ∧ Fr a 31 [(3, (.pointer (some ⟨b5, 0, none⟩))), (4, (.pointer (some ⟨b10, 0, none⟩))), (7, v16)] ∧ Bs (fun _ => 1) o20 w w21 ∧ Ow w.heap.size 25 13 o20 w21 v16 g19 ∧ Rws w.heap.size 3 14 o20 w21 g19 y15 ∧ Bx w.heap.size 11 o20 w21 b5 29 [(.int .i64 p0.Labels), (.int .i64 p0.Children), v1] ∧ Bx w.heap.size 12 o20 w21 b10 3 [(.int .i64 p1)]) (fun _ _ => False) ?_ ?_ ?_
  · refine wpC_block ?_
    refine wpC_loop (fun (K : Nat) a w21 => ∃ (i22 : Int) (y15 : List (List Int)) (v16 : Value) (g19 : List Hv) (o20 : Tg), forI (fI_RootedProblem_canComplete_s1 fuel) (p2.drop i22.toNat) i22 y15 = some q23 ∧ (p2.drop i22.toNat).length = K ∧ 0 ≤ i22 ∧ Fr a 31 [(3, (.pointer (some ⟨b5, 0, none⟩))), (4, (.pointer (some ⟨b10, 0, none⟩))), (7, v16), (12, u2), (13, (.int .i64 (p2.length : Int))), (14, (.int .i64 i22))] ∧ Bs (fun _ => 1) o20 w w21 ∧ Ow w.heap.size 25 13 o20 w21 v16 g19 ∧ Rws w.heap.size 3 14 o20 w21 g19 y15 ∧ Bx w.heap.size 11 o20 w21 b5 29 [(.int .i64 p0.Labels), (.int .i64 p0.Children), v1] ∧ Bx w.heap.size 12 o20 w21 b10 3 [(.int .i64 p1)]) _ (fun a ha => ⟨0, [], (.slice none 0 0), [], o8, hq23, rfl, Int.le_refl 0, ha.sub (r := [(3, (.pointer (some ⟨b5, 0, none⟩))), (4, (.pointer (some ⟨b10, 0, none⟩))), (7, (.slice none 0 0)), (12, u2), (13, (.int .i64 (p2.length : Int))), (14, (.int .i64 0))]) ⟨rfl, rfl, rfl, rfl, rfl, rfl, trivial⟩, hB, h13, h14, h6, h11⟩) ?_
    rintro K27 a w21 ⟨i22, y15, v16, g19, o20, l24, m26, z25, ha, hB, h17, h18, h6, h11⟩
    by_cases t31 : i22 < (p2.length : Int)
    · obtain ⟨x32, q28, hx32, b29, n30⟩ := forI_cons z25 t31 l24
      have hle := g2.len_le
      dsimp only [fI_RootedProblem_canComplete_s1] at b29
      refine wp_of ha ?_
      refine wpC_seq ?_
      refine wpC_region ?_
      refine st_val (ex_lss rfl rfl) (by decide) trivial ?_
      refine wpF_end (r := [(3, (.pointer (some ⟨b5, 0, none⟩))), (4, (.pointer (some ⟨b10, 0, none⟩))), (7, v16), (12, u2), (13, (.int .i64 (p2.length : Int))), (14, (.int .i64 i22)), (15, (.bool (decide (i22 < (p2.length : Int)))))]) ⟨rfl, rfl, rfl, rfl, rfl, rfl, rfl, trivial⟩ ?_
      refine nx ?_
      refine wpC_seq ?_
      refine wpC_true (congrArg (fun b => some (Value.bool b)) (decide_eq_true t31)) ?_
      refine wpC_skip ?_
      refine nx ?_
      refine wpC_seq ?_
      refine wpC_block ?_
      refine wpC_seq ?_
      refine wpC_region ?_
      refine st_op (by decide) trivial ?_
      refine wf_atZ g2 hx32 hB rfl rfl Try.underlying25 Try.sizeOf3 ?_
      intro b33 f34 c35 h36 h37
      cases h37
      refine st_val (ex_load1 rfl Try.isAgg3 (cell_of_cells h36)) (by decide) trivial ?_
      refine st_val (ex_assign rfl) (by decide) trivial ?_
      refine wpF_end (r := [(3, (.pointer (some ⟨b5, 0, none⟩))), (4, (.pointer (some ⟨b10, 0, none⟩))), (7, v16), (9, (.int .i64 x32)), (12, u2), (13, (.int .i64 (p2.length : Int))), (14, (.int .i64 i22))]) ⟨rfl, rfl, rfl, rfl, rfl, rfl, rfl, trivial⟩ ?_
      refine nx ?_
      refine wpC_region ?_
      refine st_val (ex_move rfl) (by decide) trivial ?_
      refine st_val (ex_move rfl) (by decide) trivial ?_
      obtain ⟨x38, hx38, b29⟩ := bind_some b29
      refine st_op (by decide) trivial ?_
      refine wf_call (cI_labelsIn fuel w21 o20 15 (by decide) x32 x38 hx38) Try.call38 ⟨rfl, trivial⟩ ?_
      rintro e45 w39 ⟨v40, o46, rfl, h41, k42, k43⟩
      have s44 := k42.stp' 15 k43
      replace h41 := h41.mono hB.keeps.size
      refine ⟨_, rfl, ?_⟩
      replace h17 := h17.stp s44 (by decide) (by decide)
      replace h18 := h18.stp s44 (by decide) (by decide)
      replace h6 := h6.stp s44 (by decide)
      replace h11 := h11.stp s44 (by decide)
      replace hB := hB.stp s44 (by decide)
      refine st_op (by decide) trivial ?_
      refine wf_litR (o := o46) (cs := [v40]) (xs := ([⟨v40⟩] : List Hv)) (vs := [(0, v40)]) ⟨_, _, rfl, rd_hv h41, rfl⟩ rfl ⟨rfl, rfl, trivial⟩ Try.underlying22 Try.sizeOf25 Try.zeroValue25 (by decide) (fill1 h41.cells1) (by simp) ?_
      intro o47 w48 v49 h50 s51 k52
      replace h17 := h17.stp s51 (by decide) (by decide)
      replace h18 := h18.stp s51 (by decide) (by decide)
      replace h41 := h41.stp s51 (by decide) (by decide)
      replace h6 := h6.stp s51 (by decide)
      replace h11 := h11.stp s51 (by decide)
      replace hB := hB.stp s51 (by decide)
      obtain ⟨x53, hx53, b29⟩ := bind_some b29
      obtain ⟨h54, h55⟩ := h18.pushV hx53 v40
      refine st_op (by decide) trivial ?_
      refine wf_cat h17 h50 (push_cat h54) (by decide) hB.keeps.size rfl rfl Try.underlying22 info2_t_Lint_Crt rfl (by decide) ?_
      intro o56 w57 v58 h59 s60
      replace h18 := h18.stp s60 (by decide) (by decide)
      replace h41 := h41.stp s60 (by decide) (by decide)
      replace h6 := h6.stp s60 (by decide)
      replace h11 := h11.stp s60 (by decide)
      replace hB := hB.stp s60 (by decide)
      have h61 := h18.push h41 (by decide) (by decide)
      rw [← h55] at h61
      clear h18 h41
      have r62 := mrg_rc 15 14 o56
      replace h59 := h59.rc r62 (by decide) (by decide)
      replace h6 := h6.rc r62 (by decide)
      replace h11 := h11.rc r62 (by decide)
      replace hB := hB.rc r62 (by decide)
      generalize mrg 15 14 o56 = o63 at *
      refine st_val (ex_assign rfl) (by decide) trivial ?_
      refine wpF_end (r := [(3, (.pointer (some ⟨b5, 0, none⟩))), (4, (.pointer (some ⟨b10, 0, none⟩))), (7, v58), (12, u2), (13, (.int .i64 (p2.length : Int))), (14, (.int .i64 i22))]) ⟨rfl, rfl, rfl, rfl, rfl, rfl, trivial⟩ ?_
      refine nb_norm ?_
      refine nx ?_
      refine wpC_region ?_
      refine st_val (ex_add rfl rfl (ck_in (by omega) (by omega))) (by decide) trivial ?_
      refine st_val (ex_move rfl) (by decide) trivial ?_
      refine wpF_end (r := [(3, (.pointer (some ⟨b5, 0, none⟩))), (4, (.pointer (some ⟨b10, 0, none⟩))), (7, v58), (12, u2), (13, (.int .i64 (p2.length : Int))), (14, (.int .i64 (i22 + 1)))]) ⟨rfl, rfl, rfl, rfl, rfl, rfl, trivial⟩ ?_
      refine nt_norm ?_
      have e64 := Option.some.inj b29
      subst e64
      refine to_k (r := [(3, (.pointer (some ⟨b5, 0, none⟩))), (4, (.pointer (some ⟨b10, 0, none⟩))), (7, v58), (12, u2), (13, (.int .i64 (p2.length : Int))), (14, (.int .i64 (i22 + 1)))]) ⟨rfl, rfl, rfl, rfl, rfl, rfl, trivial⟩ ?_
      intro a ha
      exact ⟨_, (by rw [← m26]; simp only [List.length_drop]; omega), i22 + 1, x53, v58, (g19 ++ [⟨v40⟩]), o63, n30, rfl, (by omega), ha, hB, h59, h61, h6, h11⟩
    · have r65 := forI_done t31 l24
      refine wp_of ha ?_
      refine wpC_seq ?_
      refine wpC_region ?_
      refine st_val (ex_lss rfl rfl) (by decide) trivial ?_
      refine wpF_end (r := [(3, (.pointer (some ⟨b5, 0, none⟩))), (4, (.pointer (some ⟨b10, 0, none⟩))), (7, v16), (12, u2), (13, (.int .i64 (p2.length : Int))), (14, (.int .i64 i22)), (15, (.bool (decide (i22 < (p2.length : Int)))))]) ⟨rfl, rfl, rfl, rfl, rfl, rfl, rfl, trivial⟩ ?_
      refine nx ?_
      refine wpC_seq ?_
      refine wpC_false (congrArg (fun b => some (Value.bool b)) (decide_eq_false t31)) ?_
      refine wpC_exit ?_
      refine nt_exit ?_
      refine nt_exit ?_
      refine nb_hit ?_
      refine np_norm ?_
      refine to_k (r := [(3, (.pointer (some ⟨b5, 0, none⟩))), (4, (.pointer (some ⟨b10, 0, none⟩))), (7, v16)]) ⟨rfl, rfl, rfl, trivial⟩ ?_
      intro a ha
      exact ⟨y15, v16, g19, o20, r65, ha, hB, h17, h18, h6, h11⟩
  · rintro a w21 ⟨y15, v16, g19, o20, rfl, ha, hB, h17, h18, h6, h11⟩
    dsimp only at hF
    refine ap_k ha ?_
    refine nx ?_
    refine wpC_seq ?_
    refine wpC_region ?_
    refine st_val (ex_move rfl) (by decide) trivial ?_
    refine st_val (ex_func (vs := [(.pointer (some ⟨b5, 0, none⟩)), (.pointer (some ⟨b10, 0, none⟩))]) ⟨rfl, rfl, trivial⟩) (by decide) trivial ?_
    obtain ⟨x69, hx69, hF⟩ := bind_some hF
    refine st_op (by decide) trivial ?_
    refine wf_call (cI_firstChoice fuel w21 o20 16 (by decide) _ y15 (h18.z h17) _ (fun z66 => fI_RootedProblem_canComplete_1 fuel z66 p0 p1) (show FnV Try.prog w21 (.func (.func 57) #[] #[(.pointer (some ⟨b5, 0, none⟩)), (.pointer (some ⟨b10, 0, none⟩))]) (fun z66 => fI_RootedProblem_canComplete_1 fuel z66 p0 p1) from ⟨_, _, rfl, Try.call57, fun ww vs xx rr kk hok hG => by (obtain ⟨v67, rfl, h68⟩ := hok; exact cI_RootedProblem_canComplete_1 fuel ww _ xx h68 b5 _ p0 ((h6.cells).keep kk) (Rp.keep ((show Rp.rd zt w21 [(.int .i64 p0.Labels), (.int .i64 p0.Children), v1] (p0 : T_RootedProblem) from ⟨_, rfl, (h2.keep hB.keeps)⟩)) kk) b10 _ p1 ((h11.cells).keep kk) (Rp.keep ((show Rp.rd zt w21 [(.int .i64 p1)] (p1 : Int) from rfl)) kk) rr hG)⟩) x69 hx69) Try.call56 ⟨rfl, rfl, trivial⟩ ?_
    rintro e76 w70 ⟨v71, o77, rfl, h72, k73, k74⟩
    have s75 := k73.stp' 16 k74
    replace h72 := h72.mono hB.keeps.size
    refine ⟨_, rfl, ?_⟩
    replace h17 := h17.stp s75 (by decide) (by decide)
    replace h18 := h18.stp s75 (by decide) (by decide)
    replace h6 := h6.stp s75 (by decide)
    replace h11 := h11.stp s75 (by decide)
    replace hB := hB.stp s75 (by decide)
    refine st_val (ex_move rfl) (by decide) trivial ?_
    refine st_val (ex_extract rfl rfl) (by decide) trivial ?_
    refine st_val (ex_extract rfl rfl) (by decide) trivial ?_
    refine st_val (ex_assign rfl) (by decide) trivial ?_
    refine st_val (ex_assign rfl) (by decide) trivial ?_
    refine wpF_end (r := [(11, (.bool x69.2))]) ⟨rfl, trivial⟩ ?_
    refine nx ?_
    refine wpC_seq ?_
    refine wpC_region ?_
    refine st_val (ex_move rfl) (by decide) trivial ?_
    refine st_val (ex_assign rfl) (by decide) trivial ?_
    refine wpF_end (r := [(6, (.bool x69.2))]) ⟨rfl, trivial⟩ ?_
    refine nx ?_
    refine wpC_ret ?_
    have e78 := Option.some.inj hF
    subst e78
    refine ret_post (P := Try.prog) (vs := [(.bool x69.2)]) Try.results36 ⟨rfl, trivial⟩ ?_
    exact ⟨rfl, hB.keeps⟩
  · exact fun _ _ h => h.elim

def fI_CompleteRooted_s2 (fuel : Nat) (p0 : T_RootedProblem) (p2 : List Int) (x31 : List (List Int)) (y51 : Int) : Int → (List Int) → Option (Lp (List Int) (List Int) ((List Int) × Bool)) := fun (i69 : Int) (s : List Int) =>
  (ix p2 y51) >>= fun x81 =>
  (
    if decide (x81 < 0) then
      some true
    else
      (ix p2 y51) >>= fun x91 =>
      some (x91 == i69)) >>= fun q87 =>
  (
    if q87 then
      (ix x31 y51) >>= fun x105 =>
      if (x105.length : Int) == 0 then
        some true
      else
        (ix x31 y51) >>= fun x199 =>
        (fI_images x199 s) >>= fun x207 =>
        (fI_RootedProblem_canComplete fuel p0 i69 x207) >>= fun x318 =>
        some x318
    else
      some false) >>= fun q100 =>
  if q100 then
    (ix s y51) >>= fun x403 =>
    (shl 1 i69) >>= fun x406 =>
    (ix s y51) >>= fun x441 =>
    (st s y51 (bor x403 x406)) >>= fun x450 =>
    some (.go x450)
  else
    some (.go s)
def fI_CompleteRooted_s1 (fuel : Nat) (p0 : T_RootedProblem) (p2 : List Int) (x31 : List (List Int)) : ((List Int) × Int) → Option (Lp ((List Int) × Int) ((List Int) × Int) ((List Int) × Bool)) := fun (s : (List Int) × Int) =>
  if decide (s.2 ≥ 0) then
    ck p0.Labels >>= fun _ =>
    (forN (fI_CompleteRooted_s2 fuel p0 p2 x31 s.2) (p0.Labels).toNat 0 s.1) >>= fun q70 =>
    match q70 with
    | .inl y65 =>
      (ck (s.2 - 1)) >>= fun x455 =>
      some (.go (y65, x455))
    | .inr _ => none
  else
    some (.out (s.1, s.2))
def fI_CompleteRooted_s4 (fuel : Nat) (p0 : T_RootedProblem) (x31 : List (List Int)) (y461 : List Int) (i466 : Int) (x476 : Int) : Int → Int → ((List Int) × Int) → Option (Lp ((List Int) × Int) ((List Int) × Int) ((List Int) × Bool)) := fun (i502 : Int) (x512 : Int) (s : (List Int) × Int) =>
  (shl 1 x512) >>= fun x518 =>
  (ix s.1 i466) >>= fun x519 =>
  (st s.1 i466 x518) >>= fun x528 =>
  (
    if decide (x476 < 0) then
      some true
    else
      (ix y461 x476) >>= fun x598 =>
      (ix x31 x476) >>= fun x601 =>
      (fI_images x601 x528) >>= fun x609 =>
      (fI_RootedProblem_canComplete fuel p0 x598 x609) >>= fun x706 =>
      some x706) >>= fun q530 =>
  if q530 then
    some (.out (x528, x512))
  else
    some (.go (x528, s.2))
def fI_CompleteRooted_s3 (fuel : Nat) (p0 : T_RootedProblem) (x31 : List (List Int)) : Int → Int → ((List Int) × (List Int)) → Option (Lp ((List Int) × (List Int)) ((List Int) × (List Int)) ((List Int) × Bool)) := fun (i466 : Int) (x476 : Int) (s : (List Int) × (List Int)) =>
  (ix s.1 i466) >>= fun x482 =>
  (fI_labelsIn fuel x482) >>= fun x488 =>
  (forI (fI_CompleteRooted_s4 fuel p0 x31 s.2 i466 x476) x488 0 (s.1, (-1))) >>= fun q503 =>
  match q503 with
  | .inl (y497, y499) =>
    if decide (y499 < 0) then
      some (.ret ([], false))
    else
      (push s.2 y499) >>= fun x726 =>
      some (.go (y497, x726))
  | .inr _ => none
def fI_CompleteRooted (fuel : Nat) (p0 : T_RootedProblem) (p1 : List Int) (p2 : List Int) : Option ((List Int) × Bool) :=
  (fI_rootedOk fuel p0 p1) >>= fun x8 =>
  (
    if !x8 then
      some true
    else
      if (p2.length : Int) != (p1.length : Int) then
        some true
      else
        (ck (p0.Labels - 1)) >>= fun x19 =>
        (fI_allWithin p2 (-1) x19) >>= fun x20 =>
        some (!x20)) >>= fun q14 =>
  if q14 then
    some ([], false)
  else
    (fI_childrenOf p1) >>= fun x31 =>
    (mk (Rz.z : Int) (p1.length : Int)) >>= fun x42 =>
    (ck ((p1.length : Int) - 1)) >>= fun x48 =>
    (loopF (fI_CompleteRooted_s1 fuel p0 p2 x31) fuel (x42, x48)) >>= fun q54 =>
    match q54 with
    | .inl (y49, y51) =>
      (forI (fI_CompleteRooted_s3 fuel p0 x31) p1 0 (y49, [])) >>= fun q467 =>
      match q467 with
      | .inl (y459, y461) =>
        some (y461, true)
      | .inr r' => some r'
    | .inr _ => none

def pI_CompleteRooted (oo : Tg) (t : Nat) (w : World) (r : (List Int) × Bool) : Ending → World → Prop := fun e w' => ∃ (v0 : Value) (o' : Tg), e = .returned (.tuple #[v0, .bool r.2]) ∧ Ow w.heap.size 3 t o' w' v0 r.1 ∧ Keeps w w' ∧ ∀ b, b < w.heap.size → o' b = oo b
set_option maxRecDepth 100000 in
set_option maxHeartbeats 2000000 in
theorem cI_CompleteRooted (fuel : Nat) (w : World) (oo : Tg) (t : Nat) (ht : 2 ≤ t) (u0 : List Value) (p0 : T_RootedProblem) (g0 : Rp.rd zt w u0 p0) (u1 : Value) (p1 : List Int) (g1 : RdL zt w u1 p1) (u2 : Value) (p2 : List Int) (g2 : RdL zt w u2 p2) (r : (List Int) × Bool) (hF : fI_CompleteRooted fuel p0 p1 p2 = some r) :
    Calls Try.prog 13 #[.agg u0.toArray, u1, u2] w (pI_CompleteRooted oo t w r) := by
  unfold fI_CompleteRooted at hF
  obtain ⟨v1, rfl, h2⟩ := g0
  have hB : Bs oo (col oo) w w := Bs.start _ _
  refine calls_start (n := 145) (vs := [(.agg #[(.int .i64 p0.Labels), (.int .i64 p0.Children), v1]), u1, u2]) Try.func13 rfl rfl ?_
  generalize col oo = o at *
  refine wpC_seq ?_
  refine wpC_region ?_
  refine st_op (by decide) trivial ?_
  refine wf_box (o := o) w.heap.size 11 hB.keeps.size (cs := [(.int .i64 p0.Labels), (.int .i64 p0.Children), v1]) rfl rfl ?_
  intro o3 w4 b5 h6 s7
  replace hB := hB.stp s7 (by decide)
  refine st_val (ex_assign rfl) (by decide) trivial ?_
  refine st_val (ex_assign rfl) (by decide) trivial ?_
  refine wpF_end (r := [(1, u1), (2, u2), (3, (.pointer (some ⟨b5, 0, none⟩)))]) ⟨rfl, rfl, rfl, trivial⟩ ?_
  refine nx ?_
  refine wpC_seq ?_
  refine wpC_seq ?_
  refine wpC_region ?_
  refine st_val (ex_loadA rfl Try.isAgg29 Try.sizeOf29 rfl h6.cells) (by decide) trivial ?_
  refine st_val (ex_move rfl) (by decide) trivial ?_
  obtain ⟨x8, hx8, hF⟩ := bind_some hF
  refine st_op (by decide) trivial ?_
  refine wf_call (cI_rootedOk fuel w4 _ p0 (⟨_, rfl, (h2.keep hB.keeps)⟩) _ p1 (g1.keep hB.keeps) x8 hx8) Try.call23 ⟨rfl, rfl, trivial⟩ ?_
  rintro e13 w9 ⟨rfl, k10⟩
  have s12 := k10.stp 999 o3
  refine ⟨_, rfl, ?_⟩
  replace h6 := h6.stp s12 (by decide)
  replace hB := hB.stp s12 (by decide)
  refine st_val (ex_not rfl) (by decide) trivial ?_
  refine st_val (ex_move rfl) (by decide) trivial ?_
  obtain ⟨q14, hq14, hF⟩ := bind_some hF
  refine wpF_cutAt 14 (fun a16 w15 => Fr a16 145 [(1, u1), (2, u2), (3, (.pointer (some ⟨b5, 0, none⟩))), (37, (.bool q14))] ∧ Keeps w9 w15) ?_ ?_
  all_goals simp only [List.take_succ_cons, List.take_zero, List.drop_succ_cons, List.drop_zero]
  · have kp : Keeps w9 w9 := Keeps.refl _
    rcases Bool.eq_false_or_eq_true (!x8) with t17 | t17
    · rw [if_pos t17] at hq14
      refine st_no rfl rfl (by rw [t17]; rfl) (by decide) ?_
      refine st_no rfl rfl (by rw [t17]; rfl) (by decide) ?_
      refine st_no rfl rfl (by rw [t17]; rfl) (by decide) ?_
      refine st_no rfl rfl (by rw [t17]; rfl) (by decide) ?_
      refine st_no rfl rfl (by rw [t17]; rfl) (by decide) ?_
      refine st_val (ex_pick_t (congrArg (fun b => some (Value.bool b)) t17) rfl) (by decide) trivial ?_
      refine st_val (ex_move rfl) (by decide) trivial ?_
      refine st_no rfl rfl rfl (by decide) ?_
      refine st_no rfl rfl rfl (by decide) ?_
      refine st_no rfl rfl rfl (by decide) ?_
      refine st_no rfl rfl rfl (by decide) ?_
      refine st_no rfl rfl rfl (by decide) ?_
      refine st_no rfl rfl rfl (by decide) ?_
      refine st_val (ex_pick_t rfl rfl) (by decide) trivial ?_
      have hq142 := Option.some.inj hq14
      refine wpF_end (r := [(1, u1), (2, u2), (3, (.pointer (some ⟨b5, 0, none⟩))), (37, (.bool true))]) ⟨rfl, rfl, rfl, rfl, trivial⟩ ?_
      subst hq142
      refine np_norm (fun a ha => ⟨ha, kp⟩)
    · rw [if_neg (by rw [t17]; decide)] at hq14
      refine st_val (ex_move rfl) (by decide) ⟨_, rfl, (congrArg (fun b => some (Value.bool b)) t17)⟩ ?_
      refine st_val (ex_lenR rfl g2 Try.underlying25) (by decide) ⟨_, rfl, (congrArg (fun b => some (Value.bool b)) t17)⟩ ?_
      refine st_val (ex_move rfl) (by decide) ⟨_, rfl, (congrArg (fun b => some (Value.bool b)) t17)⟩ ?_
      refine st_val (ex_lenR rfl g1 Try.underlying25) (by decide) ⟨_, rfl, (congrArg (fun b => some (Value.bool b)) t17)⟩ ?_
      refine st_val (ex_neq rfl rfl) (by decide) ⟨_, rfl, (congrArg (fun b => some (Value.bool b)) t17)⟩ ?_
      refine st_val (ex_pick_f (congrArg (fun b => some (Value.bool b)) t17) rfl) (by decide) trivial ?_
      refine st_val (ex_move rfl) (by decide) trivial ?_
      rcases Bool.eq_false_or_eq_true ((p2.length : Int) != (p1.length : Int)) with t18 | t18
      · rw [if_pos t18] at hq14
        refine st_no rfl rfl (by rw [t18]; rfl) (by decide) ?_
        refine st_no rfl rfl (by rw [t18]; rfl) (by decide) ?_
        refine st_no rfl rfl (by rw [t18]; rfl) (by decide) ?_
        refine st_no rfl rfl (by rw [t18]; rfl) (by decide) ?_
        refine st_no rfl rfl (by rw [t18]; rfl) (by decide) ?_
        refine st_no rfl rfl (by rw [t18]; rfl) (by decide) ?_
        refine st_val (ex_pick_t (congrArg (fun b => some (Value.bool b)) t18) rfl) (by decide) trivial ?_
        have hq142 := Option.some.inj hq14
        refine wpF_end (r := [(1, u1), (2, u2), (3, (.pointer (some ⟨b5, 0, none⟩))), (37, (.bool true))]) ⟨rfl, rfl, rfl, rfl, trivial⟩ ?_
        subst hq142
        refine np_norm (fun a ha => ⟨ha, kp⟩)
      · rw [if_neg (by rw [t18]; decide)] at hq14
        refine st_val (ex_move rfl) (by decide) ⟨_, rfl, (congrArg (fun b => some (Value.bool b)) t18)⟩ ?_
        refine st_val (ex_field rfl Try.underlying29 rfl Try.sizeOf3) (by decide) ⟨_, rfl, (congrArg (fun b => some (Value.bool b)) t18)⟩ ?_
        refine st_val (ex_load1 rfl Try.isAgg3 (h6.cell rfl)) (by decide) ⟨_, rfl, (congrArg (fun b => some (Value.bool b)) t18)⟩ ?_
        obtain ⟨x19, hx19, hq14⟩ := bind_some hq14
        refine st_val (ex_sub rfl rfl hx19) (by decide) ⟨_, rfl, (congrArg (fun b => some (Value.bool b)) t18)⟩ ?_
        obtain ⟨x20, hx20, hq14⟩ := bind_some hq14
        refine st_op (by decide) ⟨_, rfl, (congrArg (fun b => some (Value.bool b)) t18)⟩ ?_
        refine wf_call (cI_allWithin w9 _ p2 (g2.keep hB.keeps) (-1) x19 x20 hx20) Try.call35 ⟨rfl, rfl, rfl, trivial⟩ ?_
        rintro e25 w21 ⟨rfl, k22⟩
        have s24 := k22.stp 999 o3
        refine ⟨_, rfl, ?_⟩
        replace h6 := h6.stp s24 (by decide)
        replace hB := hB.stp s24 (by decide)
        replace kp := Keeps.trans kp k22
        refine st_val (ex_not rfl) (by decide) ⟨_, rfl, (congrArg (fun b => some (Value.bool b)) t18)⟩ ?_
        refine st_val (ex_pick_f (congrArg (fun b => some (Value.bool b)) t18) rfl) (by decide) trivial ?_
        have hq142 := Option.some.inj hq14
        refine wpF_end (r := [(1, u1), (2, u2), (3, (.pointer (some ⟨b5, 0, none⟩))), (37, (.bool (!x20)))]) ⟨rfl, rfl, rfl, rfl, trivial⟩ ?_
        subst hq142
        refine np_norm (fun a ha => ⟨ha, kp⟩)
  rintro a28 w15 ⟨ha, k26⟩
  have s27 := k26.stp 999 o3
  replace h6 := h6.stp s27 (by decide)
  replace hB := hB.stp s27 (by decide)
  refine wl_of ha ?_
  refine wpF_end (r := [(1, u1), (2, u2), (3, (.pointer (some ⟨b5, 0, none⟩))), (37, (.bool q14))]) ⟨rfl, rfl, rfl, rfl, trivial⟩ ?_
  refine nx ?_
  refine wpC_cond rfl (fun t29 => ?_) (fun t29 => ?_)
  · rw [if_pos t29] at hF
    refine wpC_seq ?_
    refine wpC_region ?_
    refine st_val (ex_assign rfl) (by decide) trivial ?_
    refine st_val (ex_assign rfl) (by decide) trivial ?_
    refine wpF_end (r := [(6, (.slice none 0 0)), (7, (.bool false))]) ⟨rfl, rfl, trivial⟩ ?_
    refine nx ?_
    refine wpC_ret ?_
    refine nt_ret ?_
    have e30 := Option.some.inj hF
    subst e30
    refine ret_post (P := Try.prog) (vs := [(.slice none 0 0), (.bool false)]) Try.results13 ⟨rfl, rfl, trivial⟩ ?_
    exact ⟨_, rt oo o3 w.heap.size 9 t, rfl, (Ow.nil _ _ _ _ _), hB.keeps, rt_old _ _ _ _ _⟩
  · rw [if_neg (by rw [t29]; decide)] at hF
    refine wpC_skip ?_
    refine nx ?_
    refine wpC_seq ?_
    refine wpC_region ?_
    refine st_val (ex_move rfl) (by decide) trivial ?_
    obtain ⟨x31, hx31, hF⟩ := bind_some hF
    refine st_op (by decide) trivial ?_
    refine wf_call (cI_childrenOf w15 o3 14 (by decide) _ p1 (g1.keep hB.keeps) x31 hx31) Try.call24 ⟨rfl, trivial⟩ ?_
    rintro e40 w32 ⟨v33, g35, o41, rfl, h34, h36, k37, k38⟩
    have s39 := k37.stp' 14 k38
    replace h34 := h34.mono hB.keeps.size
    replace h36 := h36.mono hB.keeps.size
    refine ⟨_, rfl, ?_⟩
    replace h6 := h6.stp s39 (by decide)
    replace hB := hB.stp s39 (by decide)
    refine st_val (ex_assign rfl) (by decide) trivial ?_
    refine wpF_end (r := [(1, u1), (2, u2), (3, (.pointer (some ⟨b5, 0, none⟩))), (8, v33)]) ⟨rfl, rfl, rfl, rfl, trivial⟩ ?_
    refine nx ?_
    refine wpC_seq ?_
    refine wpC_region ?_
    refine st_val (ex_move rfl) (by decide) trivial ?_
    refine st_val (ex_lenR rfl g1 Try.underlying25) (by decide) trivial ?_
    obtain ⟨x42, hx42, hF⟩ := bind_some hF
    refine st_op (by decide) trivial ?_
    refine wf_make (o := o41) w.heap.size 16 hB.keeps.size hx42 rfl rfl Try.underlying25 info2_t_int_Crt rfl (by decide) ?_
    intro o43 w44 v45 h46 s47
    replace h34 := h34.stp s47 (by decide) (by decide)
    replace h36 := h36.stp s47 (by decide) (by decide)
    replace h6 := h6.stp s47 (by decide)
    replace hB := hB.stp s47 (by decide)
    refine st_val (ex_assign rfl) (by decide) trivial ?_
    refine wpF_end (r := [(1, u1), (2, u2), (3, (.pointer (some ⟨b5, 0, none⟩))), (8, v33), (9, v45)]) ⟨rfl, rfl, rfl, rfl, rfl, trivial⟩ ?_
    refine nx ?_
    refine wpC_seq ?_
    refine wpC_seq ?_
    refine wpC_region ?_
    refine st_val (ex_move rfl) (by decide) trivial ?_
    refine st_val (ex_lenR rfl g1 Try.underlying25) (by decide) trivial ?_
    obtain ⟨x48, hx48, hF⟩ := bind_some hF
    refine st_val (ex_sub rfl rfl hx48) (by decide) trivial ?_
    refine st_val (ex_assign rfl) (by decide) trivial ?_
    refine wpF_end (r := [(1, u1), (2, u2), (3, (.pointer (some ⟨b5, 0, none⟩))), (8, v33), (9, v45), (10, (.int .i64 x48))]) ⟨rfl, rfl, rfl, rfl, rfl, rfl, trivial⟩ ?_
    refine nx ?_
    obtain ⟨q54, hq54, hF⟩ := bind_some hF
    refine wpC_cutN (fun a w53 => ∃ (y49 : List Int) (y51 : Int) (o52 : Tg), q54 = .inl (y49, y51) ∧ Fr a 145 [(1, u1), (3, (.pointer (some ⟨b5, 0, none⟩))), (8, v33), (9, v45)] ∧ Bs oo o52 w w53 ∧ Ow w.heap.size 25 14 o52 w53 v33 g35 ∧ Rws w.heap.size 3 15 o52 w53 g35 x31 ∧ Ow w.heap.size 3 16 o52 w53 v45 y49 ∧ Bx w.heap.size 11 o52 w53 b5 29 [(.int .i64 p0.Labels), (.int .i64 p0.Children), v1]) (fun _ _ => False) ?_ ?_ ?_
    · refine wpC_block ?_
      refine wpC_loop (fun (K : Nat) a w53 => ∃ (y49 : List Int) (y51 : Int) (o52 : Tg), loopF (fI_CompleteRooted_s1 fuel p0 p2 x31) K (y49, y51) = some q54 ∧ Fr a 145 [(1, u1), (2, u2), (3, (.pointer (some ⟨b5, 0, none⟩))), (8, v33), (9, v45), (10, (.int .i64 y51))] ∧ Bs oo o52 w w53 ∧ Ow w.heap.size 25 14 o52 w53 v33 g35 ∧ Rws w.heap.size 3 15 o52 w53 g35 x31 ∧ Ow w.heap.size 3 16 o52 w53 v45 y49 ∧ Bx w.heap.size 11 o52 w53 b5 29 [(.int .i64 p0.Labels), (.int .i64 p0.Children), v1]) fuel (fun a ha => ⟨x42, x48, o43, hq54, ha.sub (r := [(1, u1), (2, u2), (3, (.pointer (some ⟨b5, 0, none⟩))), (8, v33), (9, v45), (10, (.int .i64 x48))]) ⟨rfl, rfl, rfl, rfl, rfl, rfl, trivial⟩, hB, h34, h36, h46, h6⟩) ?_
      rintro K58 a w53 ⟨y49, y51, o52, l55, ha, hB, h34, h36, h50, h6⟩
      obtain ⟨K62, q59, e63, b60, n61⟩ := loopF_cons l55
      dsimp only [fI_CompleteRooted_s1] at b60
      refine wp_of ha ?_
      refine wpC_seq ?_
      refine wpC_seq ?_
      refine wpC_region ?_
      refine st_val (ex_move rfl) (by decide) trivial ?_
      refine st_val (ex_geq rfl rfl) (by decide) trivial ?_
      refine wpF_end (r := [(1, u1), (2, u2), (3, (.pointer (some ⟨b5, 0, none⟩))), (8, v33), (9, v45), (10, (.int .i64 y51)), (47, (.bool (decide (y51 ≥ 0))))]) ⟨rfl, rfl, rfl, rfl, rfl, rfl, rfl, trivial⟩ ?_
      refine nx ?_
      refine wpC_cond rfl (fun t64 => ?_) (fun t64 => ?_)
      · rw [if_pos t64] at b60
        refine wpC_skip ?_
        refine nx ?_
        refine wpC_seq ?_
        refine wpC_block ?_
        refine wpC_seq ?_
        refine wpC_region ?_
        refine st_val (ex_field rfl Try.underlying29 rfl Try.sizeOf3) (by decide) trivial ?_
        refine st_val (ex_load1 rfl Try.isAgg3 (h6.cell rfl)) (by decide) trivial ?_
        refine st_val (ex_move rfl) (by decide) trivial ?_
        refine wpF_end (r := [(1, u1), (2, u2), (3, (.pointer (some ⟨b5, 0, none⟩))), (8, v33), (9, v45), (10, (.int .i64 y51)), (51, (.int .i64 p0.Labels)), (52, (.int .i64 0))]) ⟨rfl, rfl, rfl, rfl, rfl, rfl, rfl, rfl, trivial⟩ ?_
        refine nx ?_
        obtain ⟨u72, h71, b60⟩ := bind_some b60
        obtain ⟨-, h71a, h71b⟩ := ck_some h71
        obtain ⟨q70, hq70, b60⟩ := bind_some b60
        refine wpC_cutN (fun a w68 => ∃ (y65 : List Int) (o67 : Tg), q70 = .inl y65 ∧ Fr a 145 [(1, u1), (2, u2), (3, (.pointer (some ⟨b5, 0, none⟩))), (8, v33), (9, v45), (10, (.int .i64 y51))] ∧ Bs oo o67 w w68 ∧ Ow w.heap.size 25 14 o67 w68 v33 g35 ∧ Rws w.heap.size 3 15 o67 w68 g35 x31 ∧ Ow w.heap.size 3 16 o67 w68 v45 y65 ∧ Bx w.heap.size 11 o67 w68 b5 29 [(.int .i64 p0.Labels), (.int .i64 p0.Children), v1]) (fun _ _ => False) ?_ ?_ ?_
        · refine wpC_block ?_
          refine wpC_loop (fun (K : Nat) a w68 => ∃ (i69 : Int) (y65 : List Int) (o67 : Tg), forN (fI_CompleteRooted_s2 fuel p0 p2 x31 y51) (p0.Labels - i69).toNat i69 y65 = some q70 ∧ (p0.Labels - i69).toNat = K ∧ 0 ≤ i69 ∧ Fr a 145 [(1, u1), (2, u2), (3, (.pointer (some ⟨b5, 0, none⟩))), (8, v33), (9, v45), (10, (.int .i64 y51)), (51, (.int .i64 p0.Labels)), (52, (.int .i64 i69))] ∧ Bs oo o67 w w68 ∧ Ow w.heap.size 25 14 o67 w68 v33 g35 ∧ Rws w.heap.size 3 15 o67 w68 g35 x31 ∧ Ow w.heap.size 3 16 o67 w68 v45 y65 ∧ Bx w.heap.size 11 o67 w68 b5 29 [(.int .i64 p0.Labels), (.int .i64 p0.Children), v1]) _ (fun a ha => ⟨0, y49, o52, (by rw [Int.sub_zero]; exact hq70), rfl, Int.le_refl 0, ha.sub (r := [(1, u1), (2, u2), (3, (.pointer (some ⟨b5, 0, none⟩))), (8, v33), (9, v45), (10, (.int .i64 y51)), (51, (.int .i64 p0.Labels)), (52, (.int .i64 0))]) ⟨rfl, rfl, rfl, rfl, rfl, rfl, rfl, rfl, trivial⟩, hB, h34, h36, h50, h6⟩) ?_
          rintro K76 a w68 ⟨i69, y65, o67, l73, m75, z74, ha, hB, h34, h36, h66, h6⟩
          by_cases t80 : i69 < p0.Labels
          · obtain ⟨q77, b78, n79⟩ := forN_cons t80 l73
            dsimp only [fI_CompleteRooted_s2] at b78
            refine wp_of ha ?_
            refine wpC_seq ?_
            refine wpC_region ?_
            refine st_val (ex_lss rfl rfl) (by decide) trivial ?_
            refine wpF_end (r := [(1, u1), (2, u2), (3, (.pointer (some ⟨b5, 0, none⟩))), (8, v33), (9, v45), (10, (.int .i64 y51)), (51, (.int .i64 p0.Labels)), (52, (.int .i64 i69)), (53, (.bool (decide (i69 < p0.Labels))))]) ⟨rfl, rfl, rfl, rfl, rfl, rfl, rfl, rfl, rfl, trivial⟩ ?_
            refine nx ?_
            refine wpC_seq ?_
            refine wpC_true (congrArg (fun b => some (Value.bool b)) (decide_eq_true t80)) ?_
            refine wpC_skip ?_
            refine nx ?_
            refine wpC_seq ?_
            refine wpC_block ?_
            refine wpC_seq ?_
            refine wpC_region ?_
            refine st_val (ex_move rfl) (by decide) trivial ?_
            refine st_val (ex_assign rfl) (by decide) trivial ?_
            refine wpF_end (r := [(1, u1), (2, u2), (3, (.pointer (some ⟨b5, 0, none⟩))), (8, v33), (9, v45), (10, (.int .i64 y51)), (11, (.int .i64 i69)), (51, (.int .i64 p0.Labels)), (52, (.int .i64 i69))]) ⟨rfl, rfl, rfl, rfl, rfl, rfl, rfl, rfl, rfl, trivial⟩ ?_
            refine nx ?_
            refine wpC_seq ?_
            refine wpC_region ?_
            refine st_val (ex_move rfl) (by decide) trivial ?_
            refine st_val (ex_move rfl) (by decide) trivial ?_
            obtain ⟨x81, hx81, b78⟩ := bind_some b78
            refine st_op (by decide) trivial ?_
            refine wf_atZ g2 hx81 hB rfl rfl Try.underlying25 Try.sizeOf3 ?_
            intro b82 f83 c84 h85 h86
            cases h86
            refine st_val (ex_load1 rfl Try.isAgg3 (cell_of_cells h85)) (by decide) trivial ?_
            refine st_val (ex_lss rfl rfl) (by decide) trivial ?_
            refine st_val (ex_move rfl) (by decide) trivial ?_
            obtain ⟨q87, hq87, b78⟩ := bind_some b78
            refine wpF_cutAt 7 (fun a89 w88 => Fr a89 145 [(1, u1), (2, u2), (3, (.pointer (some ⟨b5, 0, none⟩))), (8, v33), (9, v45), (10, (.int .i64 y51)), (11, (.int .i64 i69)), (51, (.int .i64 p0.Labels)), (52, (.int .i64 i69)), (67, (.bool q87))] ∧ Keeps w68 w88) ?_ ?_
            all_goals simp only [List.take_succ_cons, List.take_zero, List.drop_succ_cons, List.drop_zero]
            · have kp : Keeps w68 w68 := Keeps.refl _
              rcases Bool.eq_false_or_eq_true (decide (x81 < 0)) with t90 | t90
              · rw [if_pos t90] at hq87
                refine st_no rfl rfl (by rw [t90]; rfl) (by decide) ?_
                refine st_no rfl rfl (by rw [t90]; rfl) (by decide) ?_
                refine st_no rfl rfl (by rw [t90]; rfl) (by decide) ?_
                refine st_no rfl rfl (by rw [t90]; rfl) (by decide) ?_
                refine st_no rfl rfl (by rw [t90]; rfl) (by decide) ?_
                refine st_no rfl rfl (by rw [t90]; rfl) (by decide) ?_
                refine st_val (ex_pick_t (congrArg (fun b => some (Value.bool b)) t90) rfl) (by decide) trivial ?_
                have hq872 := Option.some.inj hq87
                refine wpF_end (r := [(1, u1), (2, u2), (3, (.pointer (some ⟨b5, 0, none⟩))), (8, v33), (9, v45), (10, (.int .i64 y51)), (11, (.int .i64 i69)), (51, (.int .i64 p0.Labels)), (52, (.int .i64 i69)), (67, (.bool true))]) ⟨rfl, rfl, rfl, rfl, rfl, rfl, rfl, rfl, rfl, rfl, trivial⟩ ?_
                subst hq872
                refine np_norm (fun a ha => ⟨ha, kp⟩)
              · rw [if_neg (by rw [t90]; decide)] at hq87
                refine st_val (ex_move rfl) (by decide) ⟨_, rfl, (congrArg (fun b => some (Value.bool b)) t90)⟩ ?_
                refine st_val (ex_move rfl) (by decide) ⟨_, rfl, (congrArg (fun b => some (Value.bool b)) t90)⟩ ?_
                obtain ⟨x91, hx91, hq87⟩ := bind_some hq87
                refine st_op (by decide) ⟨_, rfl, (congrArg (fun b => some (Value.bool b)) t90)⟩ ?_
                refine wf_atZ g2 hx91 hB rfl rfl Try.underlying25 Try.sizeOf3 ?_
                intro b92 f93 c94 h95 h96
                cases h96
                refine st_val (ex_load1 rfl Try.isAgg3 (cell_of_cells h95)) (by decide) ⟨_, rfl, (congrArg (fun b => some (Value.bool b)) t90)⟩ ?_
                refine st_val (ex_move rfl) (by decide) ⟨_, rfl, (congrArg (fun b => some (Value.bool b)) t90)⟩ ?_
                refine st_val (ex_eql rfl rfl) (by decide) ⟨_, rfl, (congrArg (fun b => some (Value.bool b)) t90)⟩ ?_
                refine st_val (ex_pick_f (congrArg (fun b => some (Value.bool b)) t90) rfl) (by decide) trivial ?_
                have hq872 := Option.some.inj hq87
                refine wpF_end (r := [(1, u1), (2, u2), (3, (.pointer (some ⟨b5, 0, none⟩))), (8, v33), (9, v45), (10, (.int .i64 y51)), (11, (.int .i64 i69)), (51, (.int .i64 p0.Labels)), (52, (.int .i64 i69)), (67, (.bool (x91 == i69)))]) ⟨rfl, rfl, rfl, rfl, rfl, rfl, rfl, rfl, rfl, rfl, trivial⟩ ?_
                subst hq872
                refine np_norm (fun a ha => ⟨ha, kp⟩)
            rintro a99 w88 ⟨ha, k97⟩
            have s98 := k97.stp 999 o67
            replace h34 := h34.stp s98 (by decide) (by decide)
            replace h36 := h36.stp s98 (by decide) (by decide)
            replace h66 := h66.stp s98 (by decide) (by decide)
            replace h6 := h6.stp s98 (by decide)
            replace hB := hB.stp s98 (by decide)
            refine wl_of ha ?_
            refine st_val (ex_assign rfl) (by decide) trivial ?_
            refine wpF_end (r := [(1, u1), (2, u2), (3, (.pointer (some ⟨b5, 0, none⟩))), (8, v33), (9, v45), (10, (.int .i64 y51)), (11, (.int .i64 i69)), (12, (.bool q87)), (51, (.int .i64 p0.Labels)), (52, (.int .i64 i69))]) ⟨rfl, rfl, rfl, rfl, rfl, rfl, rfl, rfl, rfl, rfl, trivial⟩ ?_
            refine nx ?_
            refine wpC_seq ?_
            obtain ⟨q100, hq100, b78⟩ := bind_some b78
            refine wpC_cutN (fun a103 w102 => ∃ o101 : Tg, Fr a103 145 [(1, u1), (2, u2), (3, (.pointer (some ⟨b5, 0, none⟩))), (8, v33), (9, v45), (10, (.int .i64 y51)), (11, (.int .i64 i69)), (51, (.int .i64 p0.Labels)), (52, (.int .i64 i69)), (87, (.bool q100))] ∧ Bs oo o101 w w102 ∧ Ow w.heap.size 25 14 o101 w102 v33 g35 ∧ Rws w.heap.size 3 15 o101 w102 g35 x31 ∧ Ow w.heap.size 3 16 o101 w102 v45 y65 ∧ Bx w.heap.size 11 o101 w102 b5 29 [(.int .i64 p0.Labels), (.int .i64 p0.Children), v1]) (fun _ _ => False) ?_ ?_ (fun _ _ h => h.elim)
            · rcases Bool.eq_false_or_eq_true (q87) with t104 | t104
              · rw [if_pos t104] at hq100
                obtain ⟨x105, hx105, hq100⟩ := bind_some hq100
                obtain ⟨v106, h107, h108, h109⟩ := h36.ix hx105
                rcases Bool.eq_false_or_eq_true ((x105.length : Int) == 0) with t113 | t113
                · rw [if_pos t113] at hq100
                  refine wpC_drawn (o := o67) [(1, u1), (2, u2), (3, (.pointer (some ⟨b5, 0, none⟩))), (8, v33), (9, v45), (10, (.int .i64 y51)), (11, (.int .i64 i69)), (12, (.bool q87)), (51, (.int .i64 p0.Labels)), (52, (.int .i64 i69))] [1, 2, 3, 8, 9, 10, 11, 12, 51, 52] [68, 69, 70, 71, 72, 73, 74, 75, 76, 77, 78, 79, 80, 81, 82, 83, 84] [[], [0], [1], [1], [1, 2, 3], [1, 4], [1, 5], [1, 6], [1, 7], [8], [8], [8], [8], [8], [8], [8], [8]] [none, none, none, none, none, none, none, none, none, none, none, none, none, none, none, none, none] [999, 999, 999, 999, 999, 999, 999, 999, 999, 999, 999, 999, 999, 999, 999, 999, 999] [0, 0, 0, 0, 0, 0, 0, 0, 0, 0, 0, 0, 0, 0, 0, 0, 0] [999] [fun v _ _ => v = (.bool q87), fun v _ _ => v = (.bool q87), fun v _ _ => v = v33, fun v _ _ => v = (.int .i64 y51), fun v _ _ => v = adr v33 (y51.toNat * Rp.sz Hv), fun v _ _ => v = v106, fun v _ _ => v = (.int .i64 (x105.length : Int)), fun v _ _ => v = (.bool ((x105.length : Int) == 0)), fun v _ _ => v = (.bool ((x105.length : Int) == 0)), fun v _ _ => v = undef, fun v _ _ => v = undef, fun v _ _ => v = undef, fun v _ _ => v = undef, fun v _ _ => v = undef, fun v _ _ => v = undef, fun v _ _ => v = undef, fun v _ _ => v = undef] (fun o8 w8 => Bs oo o8 w w8 ∧ Ow w.heap.size 25 14 o8 w8 v33 g35 ∧ Rws w.heap.size 3 15 o8 w8 g35 x31 ∧ Ow w.heap.size 3 16 o8 w8 v45 y65 ∧ Bx w.heap.size 11 o8 w8 b5 29 [(.int .i64 p0.Labels), (.int .i64 p0.Children), v1]) follows_mixed (by kernel_rfl) rfl ⟨rfl, rfl, rfl, rfl, rfl, rfl, rfl, rfl, rfl, rfl, trivial⟩ ⟨hB, h34, h36, h66, h6⟩ ?_ ⟨st_eq _, st_eq _, st_eq _, st_eq _, st_eq _, st_eq _, st_eq _, st_eq _, st_eq _, st_eq _, st_eq _, st_eq _, st_eq _, st_eq _, st_eq _, st_eq _, st_eq _, trivial⟩ ?_ ?_
                  · rintro t9 o1 w1 o2 w2 ht9 ⟨hB, h34, h36, h66, h6⟩ hs9
                    have ht9 : t9 = 999 := by simpa using ht9
                    subst ht9
                    all_goals exact ⟨hB.stp hs9 (by decide), h34.stp hs9 (by decide) (by decide), h36.stp hs9 (by decide) (by decide), h66.stp hs9 (by decide) (by decide), h6.stp hs9 (by decide)⟩
                  · refine ⟨?_, ?_, ?_, ?_, ?_, ?_, ?_, ?_, ?_, ?_, ?_, ?_, ?_, ?_, ?_, ?_, ?_, trivial⟩
                    · rintro o114 w115 a116 ha ⟨hB, h34, h36, h66, h6⟩ -
                      refine opS_of ha (trivial) ?_
                      refine op1_val (ex_move rfl) ?_
                      exact ⟨_, Stp.refl _ _ _, rfl⟩
                    · rintro o117 w118 a119 ha ⟨hB, h34, h36, h66, h6⟩ ⟨r120, -⟩
                      have ha := Fr.cons (d := 68) ha r120
                      refine opS_of ha (trivial) ?_
                      refine op1_val (ex_move rfl) ?_
                      exact ⟨_, Stp.refl _ _ _, rfl⟩
                    · rintro o121 w122 a123 ha ⟨hB, h34, h36, h66, h6⟩ ⟨r124, -⟩
                      have ha := Fr.cons (d := 69) ha r124
                      refine opS_of ha (⟨_, rfl, (congrArg (fun b => some (Value.bool b)) t104)⟩) ?_
                      refine op1_val (ex_move rfl) ?_
                      exact ⟨_, Stp.refl _ _ _, rfl⟩
                    · rintro o125 w126 a127 ha ⟨hB, h34, h36, h66, h6⟩ ⟨r128, -⟩
                      have ha := Fr.cons (d := 69) ha r128
                      refine opS_of ha (⟨_, rfl, (congrArg (fun b => some (Value.bool b)) t104)⟩) ?_
                      refine op1_val (ex_move rfl) ?_
                      exact ⟨_, Stp.refl _ _ _, rfl⟩
                    · rintro o129 w130 a131 ha ⟨hB, h34, h36, h66, h6⟩ ⟨r132, r133, r134, -⟩
                      have ha := Fr.cons (d := 69) ha r132
                      have ha := Fr.cons (d := 70) ha r133
                      have ha := Fr.cons (d := 71) ha r134
                      refine opS_of ha (⟨_, rfl, (congrArg (fun b => some (Value.bool b)) t104)⟩) ?_
                      refine wd_indexW h34 h107 rfl rfl Try.underlying22 Try.sizeOf25 ?_
                      exact ⟨_, Stp.refl _ _ _, rfl⟩
                    · rintro o135 w136 a137 ha ⟨hB, h34, h36, h66, h6⟩ ⟨r138, r139, -⟩
                      have ha := Fr.cons (d := 69) ha r138
                      have ha := Fr.cons (d := 72) ha r139
                      refine opS_of ha (⟨_, rfl, (congrArg (fun b => some (Value.bool b)) t104)⟩) ?_
                      refine wd_load1W h34 h107 rfl rfl Try.isAgg25 ?_
                      intro c140 h141
                      obtain ⟨e142, -⟩ := h141
                      cases e142
                      exact ⟨_, Stp.refl _ _ _, rfl⟩
                    · rintro o143 w144 a145 ha ⟨hB, h34, h36, h66, h6⟩ ⟨r146, r147, -⟩
                      have ha := Fr.cons (d := 69) ha r146
                      have ha := Fr.cons (d := 73) ha r147
                      refine opS_of ha (⟨_, rfl, (congrArg (fun b => some (Value.bool b)) t104)⟩) ?_
                      refine op1_val (ex_lenO rfl (h36.at h108 h109) Try.underlying25) ?_
                      exact ⟨_, Stp.refl _ _ _, rfl⟩
                    · rintro o148 w149 a150 ha ⟨hB, h34, h36, h66, h6⟩ ⟨r151, r152, -⟩
                      have ha := Fr.cons (d := 69) ha r151
                      have ha := Fr.cons (d := 74) ha r152
                      refine opS_of ha (⟨_, rfl, (congrArg (fun b => some (Value.bool b)) t104)⟩) ?_
                      refine op1_val (ex_eql rfl rfl) ?_
                      exact ⟨_, Stp.refl _ _ _, rfl⟩
                    · rintro o153 w154 a155 ha ⟨hB, h34, h36, h66, h6⟩ ⟨r156, r157, -⟩
                      have ha := Fr.cons (d := 69) ha r156
                      have ha := Fr.cons (d := 75) ha r157
                      refine opS_of ha (⟨_, rfl, (congrArg (fun b => some (Value.bool b)) t104)⟩) ?_
                      refine op1_val (ex_move rfl) ?_
                      exact ⟨_, Stp.refl _ _ _, rfl⟩
                    · rintro o158 w159 a160 ha ⟨hB, h34, h36, h66, h6⟩ ⟨r161, -⟩
                      have ha := Fr.cons (d := 76) ha r161
                      exact opS_no ha rfl rfl rfl (by rw [t113]; rfl) ⟨_, Stp.refl _ _ _, rfl⟩
                    · rintro o162 w163 a164 ha ⟨hB, h34, h36, h66, h6⟩ ⟨r165, -⟩
                      have ha := Fr.cons (d := 76) ha r165
                      exact opS_no ha rfl rfl rfl (by rw [t113]; rfl) ⟨_, Stp.refl _ _ _, rfl⟩
                    · rintro o166 w167 a168 ha ⟨hB, h34, h36, h66, h6⟩ ⟨r169, -⟩
                      have ha := Fr.cons (d := 76) ha r169
                      exact opS_no ha rfl rfl rfl (by rw [t113]; rfl) ⟨_, Stp.refl _ _ _, rfl⟩
                    · rintro o170 w171 a172 ha ⟨hB, h34, h36, h66, h6⟩ ⟨r173, -⟩
                      have ha := Fr.cons (d := 76) ha r173
                      exact opS_no ha rfl rfl rfl (by rw [t113]; rfl) ⟨_, Stp.refl _ _ _, rfl⟩
                    · rintro o174 w175 a176 ha ⟨hB, h34, h36, h66, h6⟩ ⟨r177, -⟩
                      have ha := Fr.cons (d := 76) ha r177
                      exact opS_no ha rfl rfl rfl (by rw [t113]; rfl) ⟨_, Stp.refl _ _ _, rfl⟩
                    · rintro o178 w179 a180 ha ⟨hB, h34, h36, h66, h6⟩ ⟨r181, -⟩
                      have ha := Fr.cons (d := 76) ha r181
                      exact opS_no ha rfl rfl rfl (by rw [t113]; rfl) ⟨_, Stp.refl _ _ _, rfl⟩
                    · rintro o182 w183 a184 ha ⟨hB, h34, h36, h66, h6⟩ ⟨r185, -⟩
                      have ha := Fr.cons (d := 76) ha r185
                      exact opS_no ha rfl rfl rfl (by rw [t113]; rfl) ⟨_, Stp.refl _ _ _, rfl⟩
                    · rintro o186 w187 a188 ha ⟨hB, h34, h36, h66, h6⟩ ⟨r189, -⟩
                      have ha := Fr.cons (d := 76) ha r189
                      exact opS_no ha rfl rfl rfl (by rw [t113]; rfl) ⟨_, Stp.refl _ _ _, rfl⟩
                  rintro o190 w191 a192 ha ⟨hB, h34, h36, h66, h6⟩ ⟨-, r193, -, -, -, -, -, -, r194, r195, r196, -, -, -, -, -, r197, -⟩
                  have ha := Fr.cons (d := 69) ha r193
                  have ha := Fr.cons (d := 76) ha r194
                  have ha := Fr.cons (d := 77) ha r195
                  have ha := Fr.cons (d := 78) ha r196
                  have ha := Fr.cons (d := 84) ha r197
                  refine wl_of ha ?_
                  simp only [List.length_cons, List.length_nil, Nat.zero_add, Nat.reduceAdd, List.drop_succ_cons, List.drop_zero]
                  refine st_no rfl rfl (by rw [t113]; rfl) (by decide) ?_
                  refine st_val (ex_pick_t (congrArg (fun b => some (Value.bool b)) t113) rfl) (by decide) ⟨_, rfl, (congrArg (fun b => some (Value.bool b)) t104)⟩ ?_
                  refine st_val (ex_pick_t (congrArg (fun b => some (Value.bool b)) t104) rfl) (by decide) trivial ?_
                  have e198 := Option.some.inj hq100
                  subst e198
                  refine wpF_end (r := [(1, u1), (2, u2), (3, (.pointer (some ⟨b5, 0, none⟩))), (8, v33), (9, v45), (10, (.int .i64 y51)), (11, (.int .i64 i69)), (51, (.int .i64 p0.Labels)), (52, (.int .i64 i69)), (87, (.bool true))]) ⟨rfl, rfl, rfl, rfl, rfl, rfl, rfl, rfl, rfl, rfl, trivial⟩ ?_
                  refine np_norm (fun a ha => ⟨o190, ha, hB, h34, h36, h66, h6⟩)
                · rw [if_neg (by rw [t113]; decide)] at hq100
                  obtain ⟨x199, hx199, hq100⟩ := bind_some hq100
                  obtain ⟨v200, h201, h202, h203⟩ := h36.ix hx199
                  obtain ⟨x207, hx207, hq100⟩ := bind_some hq100
                  refine wpC_drawn (o := o67) [(1, u1), (2, u2), (3, (.pointer (some ⟨b5, 0, none⟩))), (8, v33), (9, v45), (10, (.int .i64 y51)), (11, (.int .i64 i69)), (12, (.bool q87)), (51, (.int .i64 p0.Labels)), (52, (.int .i64 i69))] [1, 2, 3, 8, 9, 10, 11, 12, 51, 52] [68, 69, 70, 71, 72, 73, 74, 75, 76, 77, 78, 79, 80, 81, 82, 83, 84] [[], [0], [1], [1], [1, 2, 3], [1, 4], [1, 5], [1, 6], [1, 7], [8], [8], [8], [8], [8, 11, 12], [8, 13], [8], [8, 14, 15]] [none, none, none, none, none, none, none, none, none, none, none, none, none, none, none, none, none] [999, 999, 999, 999, 999, 999, 999, 999, 999, 999, 999, 999, 999, 999, 999, 999, 999] [0, 0, 0, 0, 0, 0, 0, 0, 0, 0, 0, 0, 0, 0, 0, 0, 17] [999] [fun v _ _ => v = (.bool q87), fun v _ _ => v = (.bool q87), fun v _ _ => v = v33, fun v _ _ => v = (.int .i64 y51), fun v _ _ => v = adr v33 (y51.toNat * Rp.sz Hv), fun v _ _ => v = v106, fun v _ _ => v = (.int .i64 (x105.length : Int)), fun v _ _ => v = (.bool ((x105.length : Int) == 0)), fun v _ _ => v = (.bool ((x105.length : Int) == 0)), fun v _ _ => v = (.agg #[(.int .i64 p0.Labels), (.int .i64 p0.Children), v1]), fun v _ _ => v = (.int .i64 i69), fun v _ _ => v = v33, fun v _ _ => v = (.int .i64 y51), fun v _ _ => v = adr v33 (y51.toNat * Rp.sz Hv), fun v _ _ => v = v200, fun v _ _ => v = v45, fun v o w9 => Ow w.heap.size 3 17 o w9 v x207] (fun o8 w8 => Bs oo o8 w w8 ∧ Ow w.heap.size 25 14 o8 w8 v33 g35 ∧ Rws w.heap.size 3 15 o8 w8 g35 x31 ∧ Ow w.heap.size 3 16 o8 w8 v45 y65 ∧ Bx w.heap.size 11 o8 w8 b5 29 [(.int .i64 p0.Labels), (.int .i64 p0.Children), v1]) follows_mixed (by kernel_rfl) rfl ⟨rfl, rfl, rfl, rfl, rfl, rfl, rfl, rfl, rfl, rfl, trivial⟩ ⟨hB, h34, h36, h66, h6⟩ ?_ ⟨st_eq _, st_eq _, st_eq _, st_eq _, st_eq _, st_eq _, st_eq _, st_eq _, st_eq _, st_eq _, st_eq _, st_eq _, st_eq _, st_eq _, st_eq _, st_eq _, fun _ _ _ _ _ _ h0 hb h hs => h.stp hs h0.1 (Ne.symm hb), trivial⟩ ?_ ?_
                  · rintro t9 o1 w1 o2 w2 ht9 ⟨hB, h34, h36, h66, h6⟩ hs9
                    have ht9 : t9 = 999 := by simpa using ht9
                    subst ht9
                    all_goals exact ⟨hB.stp hs9 (by decide), h34.stp hs9 (by decide) (by decide), h36.stp hs9 (by decide) (by decide), h66.stp hs9 (by decide) (by decide), h6.stp hs9 (by decide)⟩
                  · refine ⟨?_, ?_, ?_, ?_, ?_, ?_, ?_, ?_, ?_, ?_, ?_, ?_, ?_, ?_, ?_, ?_, ?_, trivial⟩
                    · rintro o216 w217 a218 ha ⟨hB, h34, h36, h66, h6⟩ -
                      refine opS_of ha (trivial) ?_
                      refine op1_val (ex_move rfl) ?_
                      exact ⟨_, Stp.refl _ _ _, rfl⟩
                    · rintro o219 w220 a221 ha ⟨hB, h34, h36, h66, h6⟩ ⟨r222, -⟩
                      have ha := Fr.cons (d := 68) ha r222
                      refine opS_of ha (trivial) ?_
                      refine op1_val (ex_move rfl) ?_
                      exact ⟨_, Stp.refl _ _ _, rfl⟩
                    · rintro o223 w224 a225 ha ⟨hB, h34, h36, h66, h6⟩ ⟨r226, -⟩
                      have ha := Fr.cons (d := 69) ha r226
                      refine opS_of ha (⟨_, rfl, (congrArg (fun b => some (Value.bool b)) t104)⟩) ?_
                      refine op1_val (ex_move rfl) ?_
                      exact ⟨_, Stp.refl _ _ _, rfl⟩
                    · rintro o227 w228 a229 ha ⟨hB, h34, h36, h66, h6⟩ ⟨r230, -⟩
                      have ha := Fr.cons (d := 69) ha r230
                      refine opS_of ha (⟨_, rfl, (congrArg (fun b => some (Value.bool b)) t104)⟩) ?_
                      refine op1_val (ex_move rfl) ?_
                      exact ⟨_, Stp.refl _ _ _, rfl⟩
                    · rintro o231 w232 a233 ha ⟨hB, h34, h36, h66, h6⟩ ⟨r234, r235, r236, -⟩
                      have ha := Fr.cons (d := 69) ha r234
                      have ha := Fr.cons (d := 70) ha r235
                      have ha := Fr.cons (d := 71) ha r236
                      refine opS_of ha (⟨_, rfl, (congrArg (fun b => some (Value.bool b)) t104)⟩) ?_
                      refine wd_indexW h34 h107 rfl rfl Try.underlying22 Try.sizeOf25 ?_
                      exact ⟨_, Stp.refl _ _ _, rfl⟩
                    · rintro o237 w238 a239 ha ⟨hB, h34, h36, h66, h6⟩ ⟨r240, r241, -⟩
                      have ha := Fr.cons (d := 69) ha r240
                      have ha := Fr.cons (d := 72) ha r241
                      refine opS_of ha (⟨_, rfl, (congrArg (fun b => some (Value.bool b)) t104)⟩) ?_
                      refine wd_load1W h34 h107 rfl rfl Try.isAgg25 ?_
                      intro c242 h243
                      obtain ⟨e244, -⟩ := h243
                      cases e244
                      exact ⟨_, Stp.refl _ _ _, rfl⟩
                    · rintro o245 w246 a247 ha ⟨hB, h34, h36, h66, h6⟩ ⟨r248, r249, -⟩
                      have ha := Fr.cons (d := 69) ha r248
                      have ha := Fr.cons (d := 73) ha r249
                      refine opS_of ha (⟨_, rfl, (congrArg (fun b => some (Value.bool b)) t104)⟩) ?_
                      refine op1_val (ex_lenO rfl (h36.at h108 h109) Try.underlying25) ?_
                      exact ⟨_, Stp.refl _ _ _, rfl⟩
                    · rintro o250 w251 a252 ha ⟨hB, h34, h36, h66, h6⟩ ⟨r253, r254, -⟩
                      have ha := Fr.cons (d := 69) ha r253
                      have ha := Fr.cons (d := 74) ha r254
                      refine opS_of ha (⟨_, rfl, (congrArg (fun b => some (Value.bool b)) t104)⟩) ?_
                      refine op1_val (ex_eql rfl rfl) ?_
                      exact ⟨_, Stp.refl _ _ _, rfl⟩
                    · rintro o255 w256 a257 ha ⟨hB, h34, h36, h66, h6⟩ ⟨r258, r259, -⟩
                      have ha := Fr.cons (d := 69) ha r258
                      have ha := Fr.cons (d := 75) ha r259
                      refine opS_of ha (⟨_, rfl, (congrArg (fun b => some (Value.bool b)) t104)⟩) ?_
                      refine op1_val (ex_move rfl) ?_
                      exact ⟨_, Stp.refl _ _ _, rfl⟩
                    · rintro o260 w261 a262 ha ⟨hB, h34, h36, h66, h6⟩ ⟨r263, -⟩
                      have ha := Fr.cons (d := 76) ha r263
                      refine opS_of ha (⟨_, rfl, (congrArg (fun b => some (Value.bool b)) t113)⟩) ?_
                      refine op1_val (ex_loadA rfl Try.isAgg29 Try.sizeOf29 rfl h6.cells) ?_
                      exact ⟨_, Stp.refl _ _ _, rfl⟩
                    · rintro o264 w265 a266 ha ⟨hB, h34, h36, h66, h6⟩ ⟨r267, -⟩
                      have ha := Fr.cons (d := 76) ha r267
                      refine opS_of ha (⟨_, rfl, (congrArg (fun b => some (Value.bool b)) t113)⟩) ?_
                      refine op1_val (ex_move rfl) ?_
                      exact ⟨_, Stp.refl _ _ _, rfl⟩
                    · rintro o268 w269 a270 ha ⟨hB, h34, h36, h66, h6⟩ ⟨r271, -⟩
                      have ha := Fr.cons (d := 76) ha r271
                      refine opS_of ha (⟨_, rfl, (congrArg (fun b => some (Value.bool b)) t113)⟩) ?_
                      refine op1_val (ex_move rfl) ?_
                      exact ⟨_, Stp.refl _ _ _, rfl⟩
                    · rintro o272 w273 a274 ha ⟨hB, h34, h36, h66, h6⟩ ⟨r275, -⟩
                      have ha := Fr.cons (d := 76) ha r275
                      refine opS_of ha (⟨_, rfl, (congrArg (fun b => some (Value.bool b)) t113)⟩) ?_
                      refine op1_val (ex_move rfl) ?_
                      exact ⟨_, Stp.refl _ _ _, rfl⟩
                    · rintro o276 w277 a278 ha ⟨hB, h34, h36, h66, h6⟩ ⟨r279, r280, r281, -⟩
                      have ha := Fr.cons (d := 76) ha r279
                      have ha := Fr.cons (d := 79) ha r280
                      have ha := Fr.cons (d := 80) ha r281
                      refine opS_of ha (⟨_, rfl, (congrArg (fun b => some (Value.bool b)) t113)⟩) ?_
                      refine wd_indexW h34 h201 rfl rfl Try.underlying22 Try.sizeOf25 ?_
                      exact ⟨_, Stp.refl _ _ _, rfl⟩
                    · rintro o282 w283 a284 ha ⟨hB, h34, h36, h66, h6⟩ ⟨r285, r286, -⟩
                      have ha := Fr.cons (d := 76) ha r285
                      have ha := Fr.cons (d := 81) ha r286
                      refine opS_of ha (⟨_, rfl, (congrArg (fun b => some (Value.bool b)) t113)⟩) ?_
                      refine wd_load1W h34 h201 rfl rfl Try.isAgg25 ?_
                      intro c287 h288
                      obtain ⟨e289, -⟩ := h288
                      cases e289
                      exact ⟨_, Stp.refl _ _ _, rfl⟩
                    · rintro o290 w291 a292 ha ⟨hB, h34, h36, h66, h6⟩ ⟨r293, -⟩
                      have ha := Fr.cons (d := 76) ha r293
                      refine opS_of ha (⟨_, rfl, (congrArg (fun b => some (Value.bool b)) t113)⟩) ?_
                      refine op1_val (ex_move rfl) ?_
                      exact ⟨_, Stp.refl _ _ _, rfl⟩
                    · rintro o294 w295 a296 ha ⟨hB, h34, h36, h66, h6⟩ ⟨r297, r298, r299, -⟩
                      have ha := Fr.cons (d := 76) ha r297
                      have ha := Fr.cons (d := 82) ha r298
                      have ha := Fr.cons (d := 83) ha r299
                      refine opS_of ha (⟨_, rfl, (congrArg (fun b => some (Value.bool b)) t113)⟩) ?_
                      refine wf_call (cI_images w295 o294 17 (by decide) _ x199 (h36.at h202 h203).z _ y65 h66.z x207 hx207) Try.call37 ⟨rfl, rfl, trivial⟩ ?_
                      rintro e306 w300 ⟨v301, o307, rfl, h302, k303, k304⟩
                      have s305 := k303.stp' 999 k304
                      replace h302 := h302.mono hB.keeps.size
                      refine ⟨_, rfl, ?_⟩
                      replace h34 := h34.stp s305 (by decide) (by decide)
                      replace h36 := h36.stp s305 (by decide) (by decide)
                      replace h66 := h66.stp s305 (by decide) (by decide)
                      replace h6 := h6.stp s305 (by decide)
                      replace hB := hB.stp s305 (by decide)
                      exact ⟨_, s305, h302⟩
                  rintro o308 w309 a310 ha ⟨hB, h34, h36, h66, h6⟩ ⟨-, r311, -, -, -, -, -, -, r312, r313, r314, -, -, -, -, -, r315, -⟩
                  have ha := Fr.cons (d := 69) ha r311
                  have ha := Fr.cons (d := 76) ha r312
                  have ha := Fr.cons (d := 77) ha r313
                  have ha := Fr.cons (d := 78) ha r314
                  replace r315 : Ow w.heap.size 3 17 o308 w309 (a310.tmps.getD 84 undef) x207 := r315
                  generalize e317 : a310.tmps.getD 84 undef = v316 at r315
                  have ha := Fr.cons (d := 84) ha e317
                  refine wl_of ha ?_
                  simp only [List.length_cons, List.length_nil, Nat.zero_add, Nat.reduceAdd, List.drop_succ_cons, List.drop_zero]
                  obtain ⟨x318, hx318, hq100⟩ := bind_some hq100
                  refine st_op (by decide) ⟨_, rfl, (congrArg (fun b => some (Value.bool b)) t113)⟩ ?_
                  refine wf_call (cI_RootedProblem_canComplete fuel w309 _ p0 (⟨_, rfl, (h2.keep hB.keeps)⟩) i69 _ x207 r315.z x318 hx318) Try.call36 ⟨rfl, rfl, rfl, trivial⟩ ?_
                  rintro e323 w319 ⟨rfl, k320⟩
                  have s322 := k320.stp 999 o308
                  refine ⟨_, rfl, ?_⟩
                  replace h34 := h34.stp s322 (by decide) (by decide)
                  replace h36 := h36.stp s322 (by decide) (by decide)
                  replace h66 := h66.stp s322 (by decide) (by decide)
                  replace r315 := r315.stp s322 (by decide) (by decide)
                  replace h6 := h6.stp s322 (by decide)
                  replace hB := hB.stp s322 (by decide)
                  refine st_val (ex_pick_f (congrArg (fun b => some (Value.bool b)) t113) rfl) (by decide) ⟨_, rfl, (congrArg (fun b => some (Value.bool b)) t104)⟩ ?_
                  refine st_val (ex_pick_t (congrArg (fun b => some (Value.bool b)) t104) rfl) (by decide) trivial ?_
                  have e324 := Option.some.inj hq100
                  subst e324
                  refine wpF_end (r := [(1, u1), (2, u2), (3, (.pointer (some ⟨b5, 0, none⟩))), (8, v33), (9, v45), (10, (.int .i64 y51)), (11, (.int .i64 i69)), (51, (.int .i64 p0.Labels)), (52, (.int .i64 i69)), (87, (.bool x318))]) ⟨rfl, rfl, rfl, rfl, rfl, rfl, rfl, rfl, rfl, rfl, trivial⟩ ?_
                  refine np_norm (fun a ha => ⟨o308, ha, hB, h34, h36, h66, h6⟩)
              · rw [if_neg (by rw [t104]; decide)] at hq100
                refine wpC_drawn (o := o67) [(1, u1), (2, u2), (3, (.pointer (some ⟨b5, 0, none⟩))), (8, v33), (9, v45), (10, (.int .i64 y51)), (11, (.int .i64 i69)), (12, (.bool q87)), (51, (.int .i64 p0.Labels)), (52, (.int .i64 i69))] [1, 2, 3, 8, 9, 10, 11, 12, 51, 52] [68, 69, 70, 71, 72, 73, 74, 75, 76, 77, 78, 79, 80, 81, 82, 83, 84] [[], [0], [1], [1], [1], [1], [1], [1], [1], [8], [8], [8], [8], [8], [8], [8], [8]] [none, none, none, none, none, none, none, none, none, none, none, none, none, none, none, none, none] [999, 999, 999, 999, 999, 999, 999, 999, 999, 999, 999, 999, 999, 999, 999, 999, 999] [0, 0, 0, 0, 0, 0, 0, 0, 0, 0, 0, 0, 0, 0, 0, 0, 0] [999] [fun v _ _ => v = (.bool q87), fun v _ _ => v = (.bool q87), fun v _ _ => v = undef, fun v _ _ => v = undef, fun v _ _ => v = undef, fun v _ _ => v = undef, fun v _ _ => v = undef, fun v _ _ => v = undef, fun v _ _ => v = undef, fun v _ _ => v = undef, fun v _ _ => v = undef, fun v _ _ => v = undef, fun v _ _ => v = undef, fun v _ _ => v = undef, fun v _ _ => v = undef, fun v _ _ => v = undef, fun v _ _ => v = undef] (fun o8 w8 => Bs oo o8 w w8 ∧ Ow w.heap.size 25 14 o8 w8 v33 g35 ∧ Rws w.heap.size 3 15 o8 w8 g35 x31 ∧ Ow w.heap.size 3 16 o8 w8 v45 y65 ∧ Bx w.heap.size 11 o8 w8 b5 29 [(.int .i64 p0.Labels), (.int .i64 p0.Children), v1]) follows_mixed (by kernel_rfl) rfl ⟨rfl, rfl, rfl, rfl, rfl, rfl, rfl, rfl, rfl, rfl, trivial⟩ ⟨hB, h34, h36, h66, h6⟩ ?_ ⟨st_eq _, st_eq _, st_eq _, st_eq _, st_eq _, st_eq _, st_eq _, st_eq _, st_eq _, st_eq _, st_eq _, st_eq _, st_eq _, st_eq _, st_eq _, st_eq _, st_eq _, trivial⟩ ?_ ?_
                · rintro t9 o1 w1 o2 w2 ht9 ⟨hB, h34, h36, h66, h6⟩ hs9
                  have ht9 : t9 = 999 := by simpa using ht9
                  subst ht9
                  all_goals exact ⟨hB.stp hs9 (by decide), h34.stp hs9 (by decide) (by decide), h36.stp hs9 (by decide) (by decide), h66.stp hs9 (by decide) (by decide), h6.stp hs9 (by decide)⟩
                · refine ⟨?_, ?_, ?_, ?_, ?_, ?_, ?_, ?_, ?_, ?_, ?_, ?_, ?_, ?_, ?_, ?_, ?_, trivial⟩
                  · rintro o325 w326 a327 ha ⟨hB, h34, h36, h66, h6⟩ -
                    refine opS_of ha (trivial) ?_
                    refine op1_val (ex_move rfl) ?_
                    exact ⟨_, Stp.refl _ _ _, rfl⟩
                  · rintro o328 w329 a330 ha ⟨hB, h34, h36, h66, h6⟩ ⟨r331, -⟩
                    have ha := Fr.cons (d := 68) ha r331
                    refine opS_of ha (trivial) ?_
                    refine op1_val (ex_move rfl) ?_
                    exact ⟨_, Stp.refl _ _ _, rfl⟩
                  · rintro o332 w333 a334 ha ⟨hB, h34, h36, h66, h6⟩ ⟨r335, -⟩
                    have ha := Fr.cons (d := 69) ha r335
                    exact opS_no ha rfl rfl rfl (by rw [t104]; rfl) ⟨_, Stp.refl _ _ _, rfl⟩
                  · rintro o336 w337 a338 ha ⟨hB, h34, h36, h66, h6⟩ ⟨r339, -⟩
                    have ha := Fr.cons (d := 69) ha r339
                    exact opS_no ha rfl rfl rfl (by rw [t104]; rfl) ⟨_, Stp.refl _ _ _, rfl⟩
                  · rintro o340 w341 a342 ha ⟨hB, h34, h36, h66, h6⟩ ⟨r343, -⟩
                    have ha := Fr.cons (d := 69) ha r343
                    exact opS_no ha rfl rfl rfl (by rw [t104]; rfl) ⟨_, Stp.refl _ _ _, rfl⟩
                  · rintro o344 w345 a346 ha ⟨hB, h34, h36, h66, h6⟩ ⟨r347, -⟩
                    have ha := Fr.cons (d := 69) ha r347
                    exact opS_no ha rfl rfl rfl (by rw [t104]; rfl) ⟨_, Stp.refl _ _ _, rfl⟩
                  · rintro o348 w349 a350 ha ⟨hB, h34, h36, h66, h6⟩ ⟨r351, -⟩
                    have ha := Fr.cons (d := 69) ha r351
                    exact opS_no ha rfl rfl rfl (by rw [t104]; rfl) ⟨_, Stp.refl _ _ _, rfl⟩
                  · rintro o352 w353 a354 ha ⟨hB, h34, h36, h66, h6⟩ ⟨r355, -⟩
                    have ha := Fr.cons (d := 69) ha r355
                    exact opS_no ha rfl rfl rfl (by rw [t104]; rfl) ⟨_, Stp.refl _ _ _, rfl⟩
                  · rintro o356 w357 a358 ha ⟨hB, h34, h36, h66, h6⟩ ⟨r359, -⟩
                    have ha := Fr.cons (d := 69) ha r359
                    exact opS_no ha rfl rfl rfl (by rw [t104]; rfl) ⟨_, Stp.refl _ _ _, rfl⟩
                  · rintro o360 w361 a362 ha ⟨hB, h34, h36, h66, h6⟩ ⟨r363, -⟩
                    have ha := Fr.cons (d := 76) ha r363
                    exact opS_no2 ha rfl rfl rfl ⟨_, Stp.refl _ _ _, rfl⟩
                  · rintro o364 w365 a366 ha ⟨hB, h34, h36, h66, h6⟩ ⟨r367, -⟩
                    have ha := Fr.cons (d := 76) ha r367
                    exact opS_no2 ha rfl rfl rfl ⟨_, Stp.refl _ _ _, rfl⟩
                  · rintro o368 w369 a370 ha ⟨hB, h34, h36, h66, h6⟩ ⟨r371, -⟩
                    have ha := Fr.cons (d := 76) ha r371
                    exact opS_no2 ha rfl rfl rfl ⟨_, Stp.refl _ _ _, rfl⟩
                  · rintro o372 w373 a374 ha ⟨hB, h34, h36, h66, h6⟩ ⟨r375, -⟩
                    have ha := Fr.cons (d := 76) ha r375
                    exact opS_no2 ha rfl rfl rfl ⟨_, Stp.refl _ _ _, rfl⟩
                  · rintro o376 w377 a378 ha ⟨hB, h34, h36, h66, h6⟩ ⟨r379, -⟩
                    have ha := Fr.cons (d := 76) ha r379
                    exact opS_no2 ha rfl rfl rfl ⟨_, Stp.refl _ _ _, rfl⟩
                  · rintro o380 w381 a382 ha ⟨hB, h34, h36, h66, h6⟩ ⟨r383, -⟩
                    have ha := Fr.cons (d := 76) ha r383
                    exact opS_no2 ha rfl rfl rfl ⟨_, Stp.refl _ _ _, rfl⟩
                  · rintro o384 w385 a386 ha ⟨hB, h34, h36, h66, h6⟩ ⟨r387, -⟩
                    have ha := Fr.cons (d := 76) ha r387
                    exact opS_no2 ha rfl rfl rfl ⟨_, Stp.refl _ _ _, rfl⟩
                  · rintro o388 w389 a390 ha ⟨hB, h34, h36, h66, h6⟩ ⟨r391, -⟩
                    have ha := Fr.cons (d := 76) ha r391
                    exact opS_no2 ha rfl rfl rfl ⟨_, Stp.refl _ _ _, rfl⟩
                rintro o392 w393 a394 ha ⟨hB, h34, h36, h66, h6⟩ ⟨-, r395, -, -, -, -, -, -, r396, r397, r398, -, -, -, -, -, r399, -⟩
                have ha := Fr.cons (d := 69) ha r395
                have ha := Fr.cons (d := 76) ha r396
                have ha := Fr.cons (d := 77) ha r397
                have ha := Fr.cons (d := 78) ha r398
                have ha := Fr.cons (d := 84) ha r399
                refine wl_of ha ?_
                simp only [List.length_cons, List.length_nil, Nat.zero_add, Nat.reduceAdd, List.drop_succ_cons, List.drop_zero]
                refine st_no2 rfl rfl (by decide) ?_
                refine st_no rfl rfl (by rw [t104]; rfl) (by decide) ?_
                refine st_val (ex_pick_f (congrArg (fun b => some (Value.bool b)) t104) rfl) (by decide) trivial ?_
                have e400 := Option.some.inj hq100
                subst e400
                refine wpF_end (r := [(1, u1), (2, u2), (3, (.pointer (some ⟨b5, 0, none⟩))), (8, v33), (9, v45), (10, (.int .i64 y51)), (11, (.int .i64 i69)), (51, (.int .i64 p0.Labels)), (52, (.int .i64 i69)), (87, (.bool false))]) ⟨rfl, rfl, rfl, rfl, rfl, rfl, rfl, rfl, rfl, rfl, trivial⟩ ?_
                refine np_norm (fun a ha => ⟨o392, ha, hB, h34, h36, h66, h6⟩)
            rintro a401 w102 ⟨o101, ha, hB, h34, h36, h66, h6⟩
            refine ap_k ha ?_
            refine nx ?_
            refine wpC_cond rfl (fun t402 => ?_) (fun t402 => ?_)
            · rw [if_pos t402] at b78
              obtain ⟨x403, hx403, b78⟩ := bind_some b78
              obtain ⟨x406, hx406, b78⟩ := bind_some b78
              refine wpC_drawn (o := o101) [(1, u1), (2, u2), (3, (.pointer (some ⟨b5, 0, none⟩))), (8, v33), (9, v45), (10, (.int .i64 y51)), (11, (.int .i64 i69)), (51, (.int .i64 p0.Labels)), (52, (.int .i64 i69))] [1, 2, 3, 8, 9, 10, 11, 51, 52] [88, 89, 90, 91, 92, 93] [[], [], [0, 1], [2], [], [4]] [none, none, none, none, none, none] [999, 999, 999, 999, 999, 999] [0, 0, 16, 0, 0, 0] [999] [fun v _ _ => v = v45, fun v _ _ => v = (.int .i64 y51), fun v o w9 => ∃ vl, v = adr vl (y51.toNat * Rp.sz Int) ∧ Ow w.heap.size 3 16 o w9 vl y65, fun v _ _ => v = (.int .i64 x403), fun v _ _ => v = (.int .i64 i69), fun v _ _ => v = (.int .i64 x406)] (fun o8 w8 => Bs oo o8 w w8 ∧ Ow w.heap.size 25 14 o8 w8 v33 g35 ∧ Rws w.heap.size 3 15 o8 w8 g35 x31 ∧ Ow w.heap.size 3 16 o8 w8 v45 y65 ∧ Bx w.heap.size 11 o8 w8 b5 29 [(.int .i64 p0.Labels), (.int .i64 p0.Children), v1]) follows_mixed (by kernel_rfl) rfl ⟨rfl, rfl, rfl, rfl, rfl, rfl, rfl, rfl, rfl, trivial⟩ ⟨hB, h34, h36, h66, h6⟩ ?_ ⟨st_eq _, st_eq _, fun _ _ _ _ _ _ h0 hb ⟨vl, e, h⟩ hs => ⟨vl, e, h.stp hs h0.1 (Ne.symm hb)⟩, st_eq _, st_eq _, st_eq _, trivial⟩ ?_ ?_
              · rintro t9 o1 w1 o2 w2 ht9 ⟨hB, h34, h36, h66, h6⟩ hs9
                have ht9 : t9 = 999 := by simpa using ht9
                subst ht9
                all_goals exact ⟨hB.stp hs9 (by decide), h34.stp hs9 (by decide) (by decide), h36.stp hs9 (by decide) (by decide), h66.stp hs9 (by decide) (by decide), h6.stp hs9 (by decide)⟩
              · refine ⟨?_, ?_, ?_, ?_, ?_, ?_, trivial⟩
                · rintro o407 w408 a409 ha ⟨hB, h34, h36, h66, h6⟩ -
                  refine opS_of ha (trivial) ?_
                  refine op1_val (ex_move rfl) ?_
                  exact ⟨_, Stp.refl _ _ _, rfl⟩
                · rintro o410 w411 a412 ha ⟨hB, h34, h36, h66, h6⟩ -
                  refine opS_of ha (trivial) ?_
                  refine op1_val (ex_move rfl) ?_
                  exact ⟨_, Stp.refl _ _ _, rfl⟩
                · rintro o413 w414 a415 ha ⟨hB, h34, h36, h66, h6⟩ ⟨r416, r417, -⟩
                  have ha := Fr.cons (d := 88) ha r416
                  have ha := Fr.cons (d := 89) ha r417
                  refine opS_of ha (trivial) ?_
                  refine wd_indexW h66 hx403 rfl rfl Try.underlying25 Try.sizeOf3 ?_
                  exact ⟨_, Stp.refl _ _ _, ⟨_, rfl, h66⟩⟩
                · rintro o418 w419 a420 ha ⟨hB, h34, h36, h66, h6⟩ ⟨r421, -⟩
                  obtain ⟨v422, e423, h424⟩ := r421
                  have ha := Fr.cons (d := 90) ha e423
                  refine opS_of ha (trivial) ?_
                  refine wd_load1W h424 hx403 rfl rfl Try.isAgg3 ?_
                  intro c425 h426
                  cases h426
                  exact ⟨_, Stp.refl _ _ _, rfl⟩
                · rintro o427 w428 a429 ha ⟨hB, h34, h36, h66, h6⟩ -
                  refine opS_of ha (trivial) ?_
                  refine op1_val (ex_move rfl) ?_
                  exact ⟨_, Stp.refl _ _ _, rfl⟩
                · rintro o430 w431 a432 ha ⟨hB, h34, h36, h66, h6⟩ ⟨r433, -⟩
                  have ha := Fr.cons (d := 92) ha r433
                  refine opS_of ha (trivial) ?_
                  refine op1_val (ex_shl rfl rfl hx406) ?_
                  exact ⟨_, Stp.refl _ _ _, rfl⟩
              rintro o434 w435 a436 ha ⟨hB, h34, h36, h66, h6⟩ ⟨r437, r438, -, r439, -, r440, -⟩
              have ha := Fr.cons (d := 88) ha r437
              have ha := Fr.cons (d := 89) ha r438
              have ha := Fr.cons (d := 91) ha r439
              have ha := Fr.cons (d := 93) ha r440
              refine wl_of ha ?_
              simp only [List.length_cons, List.length_nil, Nat.zero_add, Nat.reduceAdd, List.drop_succ_cons, List.drop_zero]
              refine st_val (ex_or rfl rfl) (by decide) trivial ?_
              obtain ⟨x441, hx441, b78⟩ := bind_some b78
              refine st_op (by decide) trivial ?_
              refine wf_atP h66 hx441 rfl rfl Try.underlying25 Try.sizeOf3 ?_
              intro b442 c444 h447 h445 h446
              cases h446
              obtain ⟨x450, hx450, b78⟩ := bind_some b78
              refine st_op0 trivial ?_
              refine wf_storeW h66 h447 hx450 rfl (by decide) rfl rfl rfl Try.sizeOf3 rfl ?_
              intro w448 h451 s449
              replace h34 := h34.stp s449 (by decide) (by decide)
              replace h36 := h36.stp s449 (by decide) (by decide)
              replace h6 := h6.stp s449 (by decide)
              replace hB := hB.stp s449 (by decide)
              refine wpF_end (r := [(1, u1), (2, u2), (3, (.pointer (some ⟨b5, 0, none⟩))), (8, v33), (9, v45), (10, (.int .i64 y51)), (51, (.int .i64 p0.Labels)), (52, (.int .i64 i69))]) ⟨rfl, rfl, rfl, rfl, rfl, rfl, rfl, rfl, trivial⟩ ?_
              refine nb_norm ?_
              refine nx ?_
              refine wpC_region ?_
              refine st_val (ex_add rfl rfl (ck_in (by omega) (by omega))) (by decide) trivial ?_
              refine st_val (ex_move rfl) (by decide) trivial ?_
              refine wpF_end (r := [(1, u1), (2, u2), (3, (.pointer (some ⟨b5, 0, none⟩))), (8, v33), (9, v45), (10, (.int .i64 y51)), (51, (.int .i64 p0.Labels)), (52, (.int .i64 (i69 + 1)))]) ⟨rfl, rfl, rfl, rfl, rfl, rfl, rfl, rfl, trivial⟩ ?_
              refine nt_norm ?_
              have e452 := Option.some.inj b78
              subst e452
              refine to_k (r := [(1, u1), (2, u2), (3, (.pointer (some ⟨b5, 0, none⟩))), (8, v33), (9, v45), (10, (.int .i64 y51)), (51, (.int .i64 p0.Labels)), (52, (.int .i64 (i69 + 1)))]) ⟨rfl, rfl, rfl, rfl, rfl, rfl, rfl, rfl, trivial⟩ ?_
              intro a ha
              exact ⟨_, (by rw [← m75]; omega), i69 + 1, x450, o434, n79, rfl, (by omega), ha, hB, h34, h36, h451, h6⟩
            · rw [if_neg (by rw [t402]; decide)] at b78
              refine wpC_skip ?_
              refine nb_norm ?_
              refine nx ?_
              refine wpC_region ?_
              refine st_val (ex_add rfl rfl (ck_in (by omega) (by omega))) (by decide) trivial ?_
              refine st_val (ex_move rfl) (by decide) trivial ?_
              refine wpF_end (r := [(1, u1), (2, u2), (3, (.pointer (some ⟨b5, 0, none⟩))), (8, v33), (9, v45), (10, (.int .i64 y51)), (51, (.int .i64 p0.Labels)), (52, (.int .i64 (i69 + 1)))]) ⟨rfl, rfl, rfl, rfl, rfl, rfl, rfl, rfl, trivial⟩ ?_
              refine nt_norm ?_
              have e453 := Option.some.inj b78
              subst e453
              refine to_k (r := [(1, u1), (2, u2), (3, (.pointer (some ⟨b5, 0, none⟩))), (8, v33), (9, v45), (10, (.int .i64 y51)), (51, (.int .i64 p0.Labels)), (52, (.int .i64 (i69 + 1)))]) ⟨rfl, rfl, rfl, rfl, rfl, rfl, rfl, rfl, trivial⟩ ?_
              intro a ha
              exact ⟨_, (by rw [← m75]; omega), i69 + 1, y65, o101, n79, rfl, (by omega), ha, hB, h34, h36, h66, h6⟩
          · have r454 := forN_done t80 l73
            refine wp_of ha ?_
            refine wpC_seq ?_
            refine wpC_region ?_
            refine st_val (ex_lss rfl rfl) (by decide) trivial ?_
            refine wpF_end (r := [(1, u1), (2, u2), (3, (.pointer (some ⟨b5, 0, none⟩))), (8, v33), (9, v45), (10, (.int .i64 y51)), (51, (.int .i64 p0.Labels)), (52, (.int .i64 i69)), (53, (.bool (decide (i69 < p0.Labels))))]) ⟨rfl, rfl, rfl, rfl, rfl, rfl, rfl, rfl, rfl, trivial⟩ ?_
            refine nx ?_
            refine wpC_seq ?_
            refine wpC_false (congrArg (fun b => some (Value.bool b)) (decide_eq_false t80)) ?_
            refine wpC_exit ?_
            refine nt_exit ?_
            refine nt_exit ?_
            refine nb_hit ?_
            refine np_norm ?_
            refine to_k (r := [(1, u1), (2, u2), (3, (.pointer (some ⟨b5, 0, none⟩))), (8, v33), (9, v45), (10, (.int .i64 y51))]) ⟨rfl, rfl, rfl, rfl, rfl, rfl, trivial⟩ ?_
            intro a ha
            exact ⟨y65, o67, r454, ha, hB, h34, h36, h66, h6⟩
        · rintro a w68 ⟨y65, o67, rfl, ha, hB, h34, h36, h66, h6⟩
          dsimp only at b60
          refine ap_k ha ?_
          refine nb_norm ?_
          refine nx ?_
          refine wpC_region ?_
          refine st_val (ex_move rfl) (by decide) trivial ?_
          obtain ⟨x455, hx455, b60⟩ := bind_some b60
          refine st_val (ex_sub rfl rfl hx455) (by decide) trivial ?_
          refine st_val (ex_assign rfl) (by decide) trivial ?_
          refine wpF_end (r := [(1, u1), (2, u2), (3, (.pointer (some ⟨b5, 0, none⟩))), (8, v33), (9, v45), (10, (.int .i64 x455))]) ⟨rfl, rfl, rfl, rfl, rfl, rfl, trivial⟩ ?_
          refine nt_norm ?_
          have e456 := Option.some.inj b60
          subst e456
          refine to_k (r := [(1, u1), (2, u2), (3, (.pointer (some ⟨b5, 0, none⟩))), (8, v33), (9, v45), (10, (.int .i64 x455))]) ⟨rfl, rfl, rfl, rfl, rfl, rfl, trivial⟩ ?_
          intro a ha
          exact ⟨K62, by omega, y65, x455, o67, n61, ha, hB, h34, h36, h66, h6⟩
        · exact fun _ _ h => h.elim
      · rw [if_neg (by rw [t64]; decide)] at b60
        refine wpC_exit ?_
        refine nt_exit ?_
        refine nt_exit ?_
        refine nb_hit ?_
        refine np_norm ?_
        have e457 := Option.some.inj b60
        subst e457
        refine to_k (r := [(1, u1), (3, (.pointer (some ⟨b5, 0, none⟩))), (8, v33), (9, v45)]) ⟨rfl, rfl, rfl, rfl, trivial⟩ ?_
        intro a ha
        exact ⟨y49, y51, o52, n61, ha, hB, h34, h36, h50, h6⟩
    · rintro a w53 ⟨y49, y51, o52, rfl, ha, hB, h34, h36, h50, h6⟩
      dsimp only at hF
      refine ap_k ha ?_
      refine nx ?_
      refine wpC_seq ?_
      refine wpC_region ?_
      refine st_val (ex_assign rfl) (by decide) trivial ?_
      refine wpF_end (r := [(1, u1), (3, (.pointer (some ⟨b5, 0, none⟩))), (8, v33), (9, v45), (13, (.slice none 0 0))]) ⟨rfl, rfl, rfl, rfl, rfl, trivial⟩ ?_
      refine nx ?_
      refine wpC_seq ?_
      refine wpC_seq ?_
      refine wpC_region ?_
      refine st_val (ex_move rfl) (by decide) trivial ?_
      refine st_val (ex_lenR rfl g1 Try.underlying25) (by decide) trivial ?_
      refine st_val (ex_move rfl) (by decide) trivial ?_
      refine wpF_end (r := [(3, (.pointer (some ⟨b5, 0, none⟩))), (8, v33), (9, v45), (13, (.slice none 0 0)), (97, u1), (98, (.int .i64 (p1.length : Int))), (99, (.int .i64 0))]) ⟨rfl, rfl, rfl, rfl, rfl, rfl, rfl, trivial⟩ ?_
      refine nx ?_
      have h458 : Ow w.heap.size 3 19 o52 w53 (.slice none 0 0) ([] : List Int) := Ow.nil _ _ _ _ _
      obtain ⟨q467, hq467, hF⟩ := bind_some hF
      refine wpC_cutN (fun a w465 => ∃ (y459 : List Int) (y461 : List Int) (v462 : Value) (o464 : Tg), q467 = .inl (y459, y461) ∧ Fr a 145 [(13, v462)] ∧ Bs oo o464 w w465 ∧ Ow w.heap.size 3 19 o464 w465 v462 y461) (fun a w' => ∃ r', q467 = .inr r' ∧ bodyPost Try.prog Try.f13 (pI_CompleteRooted oo t w r') .ret a w') ?_ ?_ ?_
      · refine wpC_block ?_
        refine wpC_loop (fun (K : Nat) a w465 => ∃ (i466 : Int) (y459 : List Int) (y461 : List Int) (v462 : Value) (o464 : Tg), forI (fI_CompleteRooted_s3 fuel p0 x31) (p1.drop i466.toNat) i466 (y459, y461) = some q467 ∧ (p1.drop i466.toNat).length = K ∧ 0 ≤ i466 ∧ Fr a 145 [(3, (.pointer (some ⟨b5, 0, none⟩))), (8, v33), (9, v45), (13, v462), (97, u1), (98, (.int .i64 (p1.length : Int))), (99, (.int .i64 i466))] ∧ Bs oo o464 w w465 ∧ Ow w.heap.size 25 14 o464 w465 v33 g35 ∧ Rws w.heap.size 3 15 o464 w465 g35 x31 ∧ Ow w.heap.size 3 16 o464 w465 v45 y459 ∧ Ow w.heap.size 3 19 o464 w465 v462 y461 ∧ Bx w.heap.size 11 o464 w465 b5 29 [(.int .i64 p0.Labels), (.int .i64 p0.Children), v1]) _ (fun a ha => ⟨0, y49, [], (.slice none 0 0), o52, hq467, rfl, Int.le_refl 0, ha.sub (r := [(3, (.pointer (some ⟨b5, 0, none⟩))), (8, v33), (9, v45), (13, (.slice none 0 0)), (97, u1), (98, (.int .i64 (p1.length : Int))), (99, (.int .i64 0))]) ⟨rfl, rfl, rfl, rfl, rfl, rfl, rfl, trivial⟩, hB, h34, h36, h50, h458, h6⟩) ?_
        rintro K471 a w465 ⟨i466, y459, y461, v462, o464, l468, m470, z469, ha, hB, h34, h36, h460, h463, h6⟩
        by_cases t475 : i466 < (p1.length : Int)
        · obtain ⟨x476, q472, hx476, b473, n474⟩ := forI_cons z469 t475 l468
          have hle := g1.len_le
          dsimp only [fI_CompleteRooted_s3] at b473
          refine wp_of ha ?_
          refine wpC_seq ?_
          refine wpC_region ?_
          refine st_val (ex_lss rfl rfl) (by decide) trivial ?_
          refine wpF_end (r := [(3, (.pointer (some ⟨b5, 0, none⟩))), (8, v33), (9, v45), (13, v462), (97, u1), (98, (.int .i64 (p1.length : Int))), (99, (.int .i64 i466)), (100, (.bool (decide (i466 < (p1.length : Int)))))]) ⟨rfl, rfl, rfl, rfl, rfl, rfl, rfl, rfl, trivial⟩ ?_
          refine nx ?_
          refine wpC_seq ?_
          refine wpC_true (congrArg (fun b => some (Value.bool b)) (decide_eq_true t475)) ?_
          refine wpC_skip ?_
          refine nx ?_
          refine wpC_seq ?_
          refine wpC_block ?_
          refine wpC_seq ?_
          refine wpC_region ?_
          refine st_val (ex_move rfl) (by decide) trivial ?_
          refine st_op (by decide) trivial ?_
          refine wf_atZ g1 hx476 hB rfl rfl Try.underlying25 Try.sizeOf3 ?_
          intro b477 f478 c479 h480 h481
          cases h481
          refine st_val (ex_load1 rfl Try.isAgg3 (cell_of_cells h480)) (by decide) trivial ?_
          refine st_val (ex_assign rfl) (by decide) trivial ?_
          refine st_val (ex_assign rfl) (by decide) trivial ?_
          refine wpF_end (r := [(3, (.pointer (some ⟨b5, 0, none⟩))), (8, v33), (9, v45), (13, v462), (14, (.int .i64 i466)), (15, (.int .i64 x476)), (97, u1), (98, (.int .i64 (p1.length : Int))), (99, (.int .i64 i466))]) ⟨rfl, rfl, rfl, rfl, rfl, rfl, rfl, rfl, rfl, trivial⟩ ?_
          refine nx ?_
          refine wpC_seq ?_
          refine wpC_region ?_
          refine st_val (ex_assign rfl) (by decide) trivial ?_
          refine wpF_end (r := [(3, (.pointer (some ⟨b5, 0, none⟩))), (8, v33), (9, v45), (13, v462), (14, (.int .i64 i466)), (15, (.int .i64 x476)), (16, (.int .i64 (-1))), (97, u1), (98, (.int .i64 (p1.length : Int))), (99, (.int .i64 i466))]) ⟨rfl, rfl, rfl, rfl, rfl, rfl, rfl, rfl, rfl, rfl, trivial⟩ ?_
          refine nx ?_
          refine wpC_seq ?_
          refine wpC_seq ?_
          refine wpC_region ?_
          refine st_val (ex_move rfl) (by decide) trivial ?_
          refine st_val (ex_move rfl) (by decide) trivial ?_
          obtain ⟨x482, hx482, b473⟩ := bind_some b473
          refine st_op (by decide) trivial ?_
          refine wf_atW h460 hx482 rfl rfl Try.underlying25 Try.sizeOf3 ?_
          intro b483 f484 c485 h486 h487
          cases h487
          refine st_val (ex_load1 rfl Try.isAgg3 (cell_of_cells h486)) (by decide) trivial ?_
          obtain ⟨x488, hx488, b473⟩ := bind_some b473
          refine st_op (by decide) trivial ?_
          refine wf_call (cI_labelsIn fuel w465 o464 20 (by decide) x482 x488 hx488) Try.call38 ⟨rfl, trivial⟩ ?_
          rintro e495 w489 ⟨v490, o496, rfl, h491, k492, k493⟩
          have s494 := k492.stp' 20 k493
          replace h491 := h491.mono hB.keeps.size
          refine ⟨_, rfl, ?_⟩
          replace h34 := h34.stp s494 (by decide) (by decide)
          replace h36 := h36.stp s494 (by decide) (by decide)
          replace h460 := h460.stp s494 (by decide) (by decide)
          replace h463 := h463.stp s494 (by decide) (by decide)
          replace h6 := h6.stp s494 (by decide)
          replace hB := hB.stp s494 (by decide)
          refine st_val (ex_lenO rfl h491 Try.underlying25) (by decide) trivial ?_
          refine st_val (ex_move rfl) (by decide) trivial ?_
          refine wpF_end (r := [(3, (.pointer (some ⟨b5, 0, none⟩))), (8, v33), (9, v45), (13, v462), (14, (.int .i64 i466)), (15, (.int .i64 x476)), (16, (.int .i64 (-1))), (97, u1), (98, (.int .i64 (p1.length : Int))), (99, (.int .i64 i466)), (108, v490), (109, (.int .i64 (x488.length : Int))), (110, (.int .i64 0))]) ⟨rfl, rfl, rfl, rfl, rfl, rfl, rfl, rfl, rfl, rfl, rfl, rfl, rfl, trivial⟩ ?_
          refine nx ?_
          obtain ⟨q503, hq503, b473⟩ := bind_some b473
          refine wpC_cutN (fun a w501 => ∃ (y497 : List Int) (y499 : Int) (o500 : Tg), q503 = .inl (y497, y499) ∧ Fr a 145 [(3, (.pointer (some ⟨b5, 0, none⟩))), (8, v33), (9, v45), (13, v462), (16, (.int .i64 y499)), (97, u1), (98, (.int .i64 (p1.length : Int))), (99, (.int .i64 i466))] ∧ Bs oo o500 w w501 ∧ Ow w.heap.size 25 14 o500 w501 v33 g35 ∧ Rws w.heap.size 3 15 o500 w501 g35 x31 ∧ Ow w.heap.size 3 16 o500 w501 v45 y497 ∧ Ow w.heap.size 3 19 o500 w501 v462 y461 ∧ Bx w.heap.size 11 o500 w501 b5 29 [(.int .i64 p0.Labels), (.int .i64 p0.Children), v1]) (fun _ _ => False) ?_ ?_ ?_
          · refine wpC_block ?_
            refine wpC_loop (fun (K : Nat) a w501 => ∃ (i502 : Int) (y497 : List Int) (y499 : Int) (o500 : Tg), forI (fI_CompleteRooted_s4 fuel p0 x31 y461 i466 x476) (x488.drop i502.toNat) i502 (y497, y499) = some q503 ∧ (x488.drop i502.toNat).length = K ∧ 0 ≤ i502 ∧ Fr a 145 [(3, (.pointer (some ⟨b5, 0, none⟩))), (8, v33), (9, v45), (13, v462), (14, (.int .i64 i466)), (15, (.int .i64 x476)), (16, (.int .i64 y499)), (97, u1), (98, (.int .i64 (p1.length : Int))), (99, (.int .i64 i466)), (108, v490), (109, (.int .i64 (x488.length : Int))), (110, (.int .i64 i502))] ∧ Bs oo o500 w w501 ∧ Ow w.heap.size 25 14 o500 w501 v33 g35 ∧ Rws w.heap.size 3 15 o500 w501 g35 x31 ∧ Ow w.heap.size 3 16 o500 w501 v45 y497 ∧ Ow w.heap.size 3 19 o500 w501 v462 y461 ∧ Ow w.heap.size 3 20 o500 w501 v490 x488 ∧ Bx w.heap.size 11 o500 w501 b5 29 [(.int .i64 p0.Labels), (.int .i64 p0.Children), v1]) _ (fun a ha => ⟨0, y459, (-1), o496, hq503, rfl, Int.le_refl 0, ha.sub (r := [(3, (.pointer (some ⟨b5, 0, none⟩))), (8, v33), (9, v45), (13, v462), (14, (.int .i64 i466)), (15, (.int .i64 x476)), (16, (.int .i64 (-1))), (97, u1), (98, (.int .i64 (p1.length : Int))), (99, (.int .i64 i466)), (108, v490), (109, (.int .i64 (x488.length : Int))), (110, (.int .i64 0))]) ⟨rfl, rfl, rfl, rfl, rfl, rfl, rfl, rfl, rfl, rfl, rfl, rfl, rfl, trivial⟩, hB, h34, h36, h460, h463, h491, h6⟩) ?_
            rintro K507 a w501 ⟨i502, y497, y499, o500, l504, m506, z505, ha, hB, h34, h36, h498, h463, h491, h6⟩
            by_cases t511 : i502 < (x488.length : Int)
            · obtain ⟨x512, q508, hx512, b509, n510⟩ := forI_cons z505 t511 l504
              have hle := h491.len_le
              dsimp only [fI_CompleteRooted_s4] at b509
              refine wp_of ha ?_
              refine wpC_seq ?_
              refine wpC_region ?_
              refine st_val (ex_lss rfl rfl) (by decide) trivial ?_
              refine wpF_end (r := [(3, (.pointer (some ⟨b5, 0, none⟩))), (8, v33), (9, v45), (13, v462), (14, (.int .i64 i466)), (15, (.int .i64 x476)), (16, (.int .i64 y499)), (97, u1), (98, (.int .i64 (p1.length : Int))), (99, (.int .i64 i466)), (108, v490), (109, (.int .i64 (x488.length : Int))), (110, (.int .i64 i502)), (111, (.bool (decide (i502 < (x488.length : Int)))))]) ⟨rfl, rfl, rfl, rfl, rfl, rfl, rfl, rfl, rfl, rfl, rfl, rfl, rfl, rfl, trivial⟩ ?_
              refine nx ?_
              refine wpC_seq ?_
              refine wpC_true (congrArg (fun b => some (Value.bool b)) (decide_eq_true t511)) ?_
              refine wpC_skip ?_
              refine nx ?_
              refine wpC_seq ?_
              refine wpC_block ?_
              refine wpC_seq ?_
              refine wpC_region ?_
              refine st_op (by decide) trivial ?_
              refine wf_atW h491 hx512 rfl rfl Try.underlying25 Try.sizeOf3 ?_
              intro b513 f514 c515 h516 h517
              cases h517
              refine st_val (ex_load1 rfl Try.isAgg3 (cell_of_cells h516)) (by decide) trivial ?_
              refine st_val (ex_assign rfl) (by decide) trivial ?_
              refine wpF_end (r := [(3, (.pointer (some ⟨b5, 0, none⟩))), (8, v33), (9, v45), (13, v462), (14, (.int .i64 i466)), (15, (.int .i64 x476)), (16, (.int .i64 y499)), (18, (.int .i64 x512)), (97, u1), (98, (.int .i64 (p1.length : Int))), (99, (.int .i64 i466)), (108, v490), (109, (.int .i64 (x488.length : Int))), (110, (.int .i64 i502))]) ⟨rfl, rfl, rfl, rfl, rfl, rfl, rfl, rfl, rfl, rfl, rfl, rfl, rfl, rfl, trivial⟩ ?_
              refine nx ?_
              refine wpC_seq ?_
              refine wpC_region ?_
              refine st_val (ex_move rfl) (by decide) trivial ?_
              refine st_val (ex_move rfl) (by decide) trivial ?_
              refine st_val (ex_move rfl) (by decide) trivial ?_
              obtain ⟨x518, hx518, b509⟩ := bind_some b509
              refine st_val (ex_shl rfl rfl hx518) (by decide) trivial ?_
              obtain ⟨x519, hx519, b509⟩ := bind_some b509
              refine st_op (by decide) trivial ?_
              refine wf_atP h498 hx519 rfl rfl Try.underlying25 Try.sizeOf3 ?_
              intro b520 c522 h525 h523 h524
              cases h524
              obtain ⟨x528, hx528, b509⟩ := bind_some b509
              refine st_op0 trivial ?_
              refine wf_storeW h498 h525 hx528 rfl (by decide) rfl rfl rfl Try.sizeOf3 rfl ?_
              intro w526 h529 s527
              replace h34 := h34.stp s527 (by decide) (by decide)
              replace h36 := h36.stp s527 (by decide) (by decide)
              replace h463 := h463.stp s527 (by decide) (by decide)
              replace h491 := h491.stp s527 (by decide) (by decide)
              replace h6 := h6.stp s527 (by decide)
              replace hB := hB.stp s527 (by decide)
              refine wpF_end (r := [(3, (.pointer (some ⟨b5, 0, none⟩))), (8, v33), (9, v45), (13, v462), (14, (.int .i64 i466)), (15, (.int .i64 x476)), (16, (.int .i64 y499)), (18, (.int .i64 x512)), (97, u1), (98, (.int .i64 (p1.length : Int))), (99, (.int .i64 i466)), (108, v490), (109, (.int .i64 (x488.length : Int))), (110, (.int .i64 i502))]) ⟨rfl, rfl, rfl, rfl, rfl, rfl, rfl, rfl, rfl, rfl, rfl, rfl, rfl, rfl, trivial⟩ ?_
              refine nx ?_
              refine wpC_seq ?_
              obtain ⟨q530, hq530, b509⟩ := bind_some b509
              refine wpC_cutN (fun a533 w532 => ∃ o531 : Tg, Fr a533 145 [(3, (.pointer (some ⟨b5, 0, none⟩))), (8, v33), (9, v45), (13, v462), (14, (.int .i64 i466)), (15, (.int .i64 x476)), (16, (.int .i64 y499)), (18, (.int .i64 x512)), (97, u1), (98, (.int .i64 (p1.length : Int))), (99, (.int .i64 i466)), (108, v490), (109, (.int .i64 (x488.length : Int))), (110, (.int .i64 i502)), (134, (.bool q530))] ∧ Bs oo o531 w w532 ∧ Ow w.heap.size 25 14 o531 w532 v33 g35 ∧ Rws w.heap.size 3 15 o531 w532 g35 x31 ∧ Ow w.heap.size 3 16 o531 w532 v45 x528 ∧ Ow w.heap.size 3 19 o531 w532 v462 y461 ∧ Ow w.heap.size 3 20 o531 w532 v490 x488 ∧ Bx w.heap.size 11 o531 w532 b5 29 [(.int .i64 p0.Labels), (.int .i64 p0.Children), v1]) (fun _ _ => False) ?_ ?_ (fun _ _ h => h.elim)
              · rcases Bool.eq_false_or_eq_true (decide (x476 < 0)) with t534 | t534
                · rw [if_pos t534] at hq530
                  refine wpC_drawn (o := o500) [(3, (.pointer (some ⟨b5, 0, none⟩))), (8, v33), (9, v45), (13, v462), (14, (.int .i64 i466)), (15, (.int .i64 x476)), (16, (.int .i64 y499)), (18, (.int .i64 x512)), (97, u1), (98, (.int .i64 (p1.length : Int))), (99, (.int .i64 i466)), (108, v490), (109, (.int .i64 (x488.length : Int))), (110, (.int .i64 i502))] [3, 8, 9, 13, 14, 15, 16, 18, 97, 98, 99, 108, 109, 110] [119, 120, 121, 122, 123, 124, 125, 126, 127, 128, 129, 130, 131, 132] [[], [0], [1], [2], [2], [2], [2], [2], [2], [2], [2], [2], [2], [2]] [none, none, none, none, none, none, none, none, none, none, none, none, none, none] [999, 999, 999, 999, 999, 999, 999, 999, 999, 999, 999, 999, 999, 999] [0, 0, 0, 0, 0, 0, 0, 0, 0, 0, 0, 0, 0, 0] [999] [fun v _ _ => v = (.int .i64 x476), fun v _ _ => v = (.bool (decide (x476 < 0))), fun v _ _ => v = (.bool (decide (x476 < 0))), fun v _ _ => v = undef, fun v _ _ => v = undef, fun v _ _ => v = undef, fun v _ _ => v = undef, fun v _ _ => v = undef, fun v _ _ => v = undef, fun v _ _ => v = undef, fun v _ _ => v = undef, fun v _ _ => v = undef, fun v _ _ => v = undef, fun v _ _ => v = undef] (fun o8 w8 => Bs oo o8 w w8 ∧ Ow w.heap.size 25 14 o8 w8 v33 g35 ∧ Rws w.heap.size 3 15 o8 w8 g35 x31 ∧ Ow w.heap.size 3 16 o8 w8 v45 x528 ∧ Ow w.heap.size 3 19 o8 w8 v462 y461 ∧ Ow w.heap.size 3 20 o8 w8 v490 x488 ∧ Bx w.heap.size 11 o8 w8 b5 29 [(.int .i64 p0.Labels), (.int .i64 p0.Children), v1]) follows_mixed (by kernel_rfl) rfl ⟨rfl, rfl, rfl, rfl, rfl, rfl, rfl, rfl, rfl, rfl, rfl, rfl, rfl, rfl, trivial⟩ ⟨hB, h34, h36, h529, h463, h491, h6⟩ ?_ ⟨st_eq _, st_eq _, st_eq _, st_eq _, st_eq _, st_eq _, st_eq _, st_eq _, st_eq _, st_eq _, st_eq _, st_eq _, st_eq _, st_eq _, trivial⟩ ?_ ?_
                  · rintro t9 o1 w1 o2 w2 ht9 ⟨hB, h34, h36, h529, h463, h491, h6⟩ hs9
                    have ht9 : t9 = 999 := by simpa using ht9
                    subst ht9
                    all_goals exact ⟨hB.stp hs9 (by decide), h34.stp hs9 (by decide) (by decide), h36.stp hs9 (by decide) (by decide), h529.stp hs9 (by decide) (by decide), h463.stp hs9 (by decide) (by decide), h491.stp hs9 (by decide) (by decide), h6.stp hs9 (by decide)⟩
                  · refine ⟨?_, ?_, ?_, ?_, ?_, ?_, ?_, ?_, ?_, ?_, ?_, ?_, ?_, ?_, trivial⟩
                    · rintro o535 w536 a537 ha ⟨hB, h34, h36, h529, h463, h491, h6⟩ -
                      refine opS_of ha (trivial) ?_
                      refine op1_val (ex_move rfl) ?_
                      exact ⟨_, Stp.refl _ _ _, rfl⟩
                    · rintro o538 w539 a540 ha ⟨hB, h34, h36, h529, h463, h491, h6⟩ ⟨r541, -⟩
                      have ha := Fr.cons (d := 119) ha r541
                      refine opS_of ha (trivial) ?_
                      refine op1_val (ex_lss rfl rfl) ?_
                      exact ⟨_, Stp.refl _ _ _, rfl⟩
                    · rintro o542 w543 a544 ha ⟨hB, h34, h36, h529, h463, h491, h6⟩ ⟨r545, -⟩
                      have ha := Fr.cons (d := 120) ha r545
                      refine opS_of ha (trivial) ?_
                      refine op1_val (ex_move rfl) ?_
                      exact ⟨_, Stp.refl _ _ _, rfl⟩
                    · rintro o546 w547 a548 ha ⟨hB, h34, h36, h529, h463, h491, h6⟩ ⟨r549, -⟩
                      have ha := Fr.cons (d := 121) ha r549
                      exact opS_no ha rfl rfl rfl (by rw [t534]; rfl) ⟨_, Stp.refl _ _ _, rfl⟩
                    · rintro o550 w551 a552 ha ⟨hB, h34, h36, h529, h463, h491, h6⟩ ⟨r553, -⟩
                      have ha := Fr.cons (d := 121) ha r553
                      exact opS_no ha rfl rfl rfl (by rw [t534]; rfl) ⟨_, Stp.refl _ _ _, rfl⟩
                    · rintro o554 w555 a556 ha ⟨hB, h34, h36, h529, h463, h491, h6⟩ ⟨r557, -⟩
                      have ha := Fr.cons (d := 121) ha r557
                      exact opS_no ha rfl rfl rfl (by rw [t534]; rfl) ⟨_, Stp.refl _ _ _, rfl⟩
                    · rintro o558 w559 a560 ha ⟨hB, h34, h36, h529, h463, h491, h6⟩ ⟨r561, -⟩
                      have ha := Fr.cons (d := 121) ha r561
                      exact opS_no ha rfl rfl rfl (by rw [t534]; rfl) ⟨_, Stp.refl _ _ _, rfl⟩
                    · rintro o562 w563 a564 ha ⟨hB, h34, h36, h529, h463, h491, h6⟩ ⟨r565, -⟩
                      have ha := Fr.cons (d := 121) ha r565
                      exact opS_no ha rfl rfl rfl (by rw [t534]; rfl) ⟨_, Stp.refl _ _ _, rfl⟩
                    · rintro o566 w567 a568 ha ⟨hB, h34, h36, h529, h463, h491, h6⟩ ⟨r569, -⟩
                      have ha := Fr.cons (d := 121) ha r569
                      exact opS_no ha rfl rfl rfl (by rw [t534]; rfl) ⟨_, Stp.refl _ _ _, rfl⟩
                    · rintro o570 w571 a572 ha ⟨hB, h34, h36, h529, h463, h491, h6⟩ ⟨r573, -⟩
                      have ha := Fr.cons (d := 121) ha r573
                      exact opS_no ha rfl rfl rfl (by rw [t534]; rfl) ⟨_, Stp.refl _ _ _, rfl⟩
                    · rintro o574 w575 a576 ha ⟨hB, h34, h36, h529, h463, h491, h6⟩ ⟨r577, -⟩
                      have ha := Fr.cons (d := 121) ha r577
                      exact opS_no ha rfl rfl rfl (by rw [t534]; rfl) ⟨_, Stp.refl _ _ _, rfl⟩
                    · rintro o578 w579 a580 ha ⟨hB, h34, h36, h529, h463, h491, h6⟩ ⟨r581, -⟩
                      have ha := Fr.cons (d := 121) ha r581
                      exact opS_no ha rfl rfl rfl (by rw [t534]; rfl) ⟨_, Stp.refl _ _ _, rfl⟩
                    · rintro o582 w583 a584 ha ⟨hB, h34, h36, h529, h463, h491, h6⟩ ⟨r585, -⟩
                      have ha := Fr.cons (d := 121) ha r585
                      exact opS_no ha rfl rfl rfl (by rw [t534]; rfl) ⟨_, Stp.refl _ _ _, rfl⟩
                    · rintro o586 w587 a588 ha ⟨hB, h34, h36, h529, h463, h491, h6⟩ ⟨r589, -⟩
                      have ha := Fr.cons (d := 121) ha r589
                      exact opS_no ha rfl rfl rfl (by rw [t534]; rfl) ⟨_, Stp.refl _ _ _, rfl⟩
                  rintro o590 w591 a592 ha ⟨hB, h34, h36, h529, h463, h491, h6⟩ ⟨-, -, r593, r594, -, -, -, r595, -, -, -, -, -, r596, -⟩
                  have ha := Fr.cons (d := 121) ha r593
                  have ha := Fr.cons (d := 122) ha r594
                  have ha := Fr.cons (d := 126) ha r595
                  have ha := Fr.cons (d := 132) ha r596
                  refine wl_of ha ?_
                  simp only [List.length_cons, List.length_nil, Nat.zero_add, Nat.reduceAdd, List.drop_succ_cons, List.drop_zero]
                  refine st_no rfl rfl (by rw [t534]; rfl) (by decide) ?_
                  refine st_val (ex_pick_t (congrArg (fun b => some (Value.bool b)) t534) rfl) (by decide) trivial ?_
                  have e597 := Option.some.inj hq530
                  subst e597
                  refine wpF_end (r := [(3, (.pointer (some ⟨b5, 0, none⟩))), (8, v33), (9, v45), (13, v462), (14, (.int .i64 i466)), (15, (.int .i64 x476)), (16, (.int .i64 y499)), (18, (.int .i64 x512)), (97, u1), (98, (.int .i64 (p1.length : Int))), (99, (.int .i64 i466)), (108, v490), (109, (.int .i64 (x488.length : Int))), (110, (.int .i64 i502)), (134, (.bool true))]) ⟨rfl, rfl, rfl, rfl, rfl, rfl, rfl, rfl, rfl, rfl, rfl, rfl, rfl, rfl, rfl, trivial⟩ ?_
                  refine np_norm (fun a ha => ⟨o590, ha, hB, h34, h36, h529, h463, h491, h6⟩)
                · rw [if_neg (by rw [t534]; decide)] at hq530
                  obtain ⟨x598, hx598, hq530⟩ := bind_some hq530
                  obtain ⟨x601, hx601, hq530⟩ := bind_some hq530
                  obtain ⟨v602, h603, h604, h605⟩ := h36.ix hx601
                  obtain ⟨x609, hx609, hq530⟩ := bind_some hq530
                  refine wpC_drawn (o := o500) [(3, (.pointer (some ⟨b5, 0, none⟩))), (8, v33), (9, v45), (13, v462), (14, (.int .i64 i466)), (15, (.int .i64 x476)), (16, (.int .i64 y499)), (18, (.int .i64 x512)), (97, u1), (98, (.int .i64 (p1.length : Int))), (99, (.int .i64 i466)), (108, v490), (109, (.int .i64 (x488.length : Int))), (110, (.int .i64 i502))] [3, 8, 9, 13, 14, 15, 16, 18, 97, 98, 99, 108, 109, 110] [119, 120, 121, 122, 123, 124, 125, 126, 127, 128, 129, 130, 131, 132] [[], [0], [1], [2], [2], [2], [2, 4, 5], [2, 6], [2], [2], [2, 8, 9], [2, 10], [2], [2, 11, 12]] [none, none, none, none, none, none, none, none, none, none, none, none, none, none] [999, 999, 999, 999, 999, 999, 999, 999, 999, 999, 999, 999, 999, 999] [0, 0, 0, 0, 0, 0, 19, 0, 0, 0, 0, 0, 0, 21] [999] [fun v _ _ => v = (.int .i64 x476), fun v _ _ => v = (.bool (decide (x476 < 0))), fun v _ _ => v = (.bool (decide (x476 < 0))), fun v _ _ => v = (.agg #[(.int .i64 p0.Labels), (.int .i64 p0.Children), v1]), fun v _ _ => v = v462, fun v _ _ => v = (.int .i64 x476), fun v o w9 => ∃ vl, v = adr vl (x476.toNat * Rp.sz Int) ∧ Ow w.heap.size 3 19 o w9 vl y461, fun v _ _ => v = (.int .i64 x598), fun v _ _ => v = v33, fun v _ _ => v = (.int .i64 x476), fun v _ _ => v = adr v33 (x476.toNat * Rp.sz Hv), fun v _ _ => v = v602, fun v _ _ => v = v45, fun v o w9 => Ow w.heap.size 3 21 o w9 v x609] (fun o8 w8 => Bs oo o8 w w8 ∧ Ow w.heap.size 25 14 o8 w8 v33 g35 ∧ Rws w.heap.size 3 15 o8 w8 g35 x31 ∧ Ow w.heap.size 3 16 o8 w8 v45 x528 ∧ Ow w.heap.size 3 19 o8 w8 v462 y461 ∧ Ow w.heap.size 3 20 o8 w8 v490 x488 ∧ Bx w.heap.size 11 o8 w8 b5 29 [(.int .i64 p0.Labels), (.int .i64 p0.Children), v1]) follows_mixed (by kernel_rfl) rfl ⟨rfl, rfl, rfl, rfl, rfl, rfl, rfl, rfl, rfl, rfl, rfl, rfl, rfl, rfl, trivial⟩ ⟨hB, h34, h36, h529, h463, h491, h6⟩ ?_ ⟨st_eq _, st_eq _, st_eq _, st_eq _, st_eq _, st_eq _, fun _ _ _ _ _ _ h0 hb ⟨vl, e, h⟩ hs => ⟨vl, e, h.stp hs h0.1 (Ne.symm hb)⟩, st_eq _, st_eq _, st_eq _, st_eq _, st_eq _, st_eq _, fun _ _ _ _ _ _ h0 hb h hs => h.stp hs h0.1 (Ne.symm hb), trivial⟩ ?_ ?_
                  · rintro t9 o1 w1 o2 w2 ht9 ⟨hB, h34, h36, h529, h463, h491, h6⟩ hs9
                    have ht9 : t9 = 999 := by simpa using ht9
                    subst ht9
                    all_goals exact ⟨hB.stp hs9 (by decide), h34.stp hs9 (by decide) (by decide), h36.stp hs9 (by decide) (by decide), h529.stp hs9 (by decide) (by decide), h463.stp hs9 (by decide) (by decide), h491.stp hs9 (by decide) (by decide), h6.stp hs9 (by decide)⟩
                  · refine ⟨?_, ?_, ?_, ?_, ?_, ?_, ?_, ?_, ?_, ?_, ?_, ?_, ?_, ?_, trivial⟩
                    · rintro o618 w619 a620 ha ⟨hB, h34, h36, h529, h463, h491, h6⟩ -
                      refine opS_of ha (trivial) ?_
                      refine op1_val (ex_move rfl) ?_
                      exact ⟨_, Stp.refl _ _ _, rfl⟩
                    · rintro o621 w622 a623 ha ⟨hB, h34, h36, h529, h463, h491, h6⟩ ⟨r624, -⟩
                      have ha := Fr.cons (d := 119) ha r624
                      refine opS_of ha (trivial) ?_
                      refine op1_val (ex_lss rfl rfl) ?_
                      exact ⟨_, Stp.refl _ _ _, rfl⟩
                    · rintro o625 w626 a627 ha ⟨hB, h34, h36, h529, h463, h491, h6⟩ ⟨r628, -⟩
                      have ha := Fr.cons (d := 120) ha r628
                      refine opS_of ha (trivial) ?_
                      refine op1_val (ex_move rfl) ?_
                      exact ⟨_, Stp.refl _ _ _, rfl⟩
                    · rintro o629 w630 a631 ha ⟨hB, h34, h36, h529, h463, h491, h6⟩ ⟨r632, -⟩
                      have ha := Fr.cons (d := 121) ha r632
                      refine opS_of ha (⟨_, rfl, (congrArg (fun b => some (Value.bool b)) t534)⟩) ?_
                      refine op1_val (ex_loadA rfl Try.isAgg29 Try.sizeOf29 rfl h6.cells) ?_
                      exact ⟨_, Stp.refl _ _ _, rfl⟩
                    · rintro o633 w634 a635 ha ⟨hB, h34, h36, h529, h463, h491, h6⟩ ⟨r636, -⟩
                      have ha := Fr.cons (d := 121) ha r636
                      refine opS_of ha (⟨_, rfl, (congrArg (fun b => some (Value.bool b)) t534)⟩) ?_
                      refine op1_val (ex_move rfl) ?_
                      exact ⟨_, Stp.refl _ _ _, rfl⟩
                    · rintro o637 w638 a639 ha ⟨hB, h34, h36, h529, h463, h491, h6⟩ ⟨r640, -⟩
                      have ha := Fr.cons (d := 121) ha r640
                      refine opS_of ha (⟨_, rfl, (congrArg (fun b => some (Value.bool b)) t534)⟩) ?_
                      refine op1_val (ex_move rfl) ?_
                      exact ⟨_, Stp.refl _ _ _, rfl⟩
                    · rintro o641 w642 a643 ha ⟨hB, h34, h36, h529, h463, h491, h6⟩ ⟨r644, r645, r646, -⟩
                      have ha := Fr.cons (d := 121) ha r644
                      have ha := Fr.cons (d := 123) ha r645
                      have ha := Fr.cons (d := 124) ha r646
                      refine opS_of ha (⟨_, rfl, (congrArg (fun b => some (Value.bool b)) t534)⟩) ?_
                      refine wd_indexW h463 hx598 rfl rfl Try.underlying25 Try.sizeOf3 ?_
                      exact ⟨_, Stp.refl _ _ _, ⟨_, rfl, h463⟩⟩
                    · rintro o647 w648 a649 ha ⟨hB, h34, h36, h529, h463, h491, h6⟩ ⟨r650, r651, -⟩
                      have ha := Fr.cons (d := 121) ha r650
                      obtain ⟨v652, e653, h654⟩ := r651
                      have ha := Fr.cons (d := 125) ha e653
                      refine opS_of ha (⟨_, rfl, (congrArg (fun b => some (Value.bool b)) t534)⟩) ?_
                      refine wd_load1W h654 hx598 rfl rfl Try.isAgg3 ?_
                      intro c655 h656
                      cases h656
                      exact ⟨_, Stp.refl _ _ _, rfl⟩
                    · rintro o657 w658 a659 ha ⟨hB, h34, h36, h529, h463, h491, h6⟩ ⟨r660, -⟩
                      have ha := Fr.cons (d := 121) ha r660
                      refine opS_of ha (⟨_, rfl, (congrArg (fun b => some (Value.bool b)) t534)⟩) ?_
                      refine op1_val (ex_move rfl) ?_
                      exact ⟨_, Stp.refl _ _ _, rfl⟩
                    · rintro o661 w662 a663 ha ⟨hB, h34, h36, h529, h463, h491, h6⟩ ⟨r664, -⟩
                      have ha := Fr.cons (d := 121) ha r664
                      refine opS_of ha (⟨_, rfl, (congrArg (fun b => some (Value.bool b)) t534)⟩) ?_
                      refine op1_val (ex_move rfl) ?_
                      exact ⟨_, Stp.refl _ _ _, rfl⟩
                    · rintro o665 w666 a667 ha ⟨hB, h34, h36, h529, h463, h491, h6⟩ ⟨r668, r669, r670, -⟩
                      have ha := Fr.cons (d := 121) ha r668
                      have ha := Fr.cons (d := 127) ha r669
                      have ha := Fr.cons (d := 128) ha r670
                      refine opS_of ha (⟨_, rfl, (congrArg (fun b => some (Value.bool b)) t534)⟩) ?_
                      refine wd_indexW h34 h603 rfl rfl Try.underlying22 Try.sizeOf25 ?_
                      exact ⟨_, Stp.refl _ _ _, rfl⟩
                    · rintro o671 w672 a673 ha ⟨hB, h34, h36, h529, h463, h491, h6⟩ ⟨r674, r675, -⟩
                      have ha := Fr.cons (d := 121) ha r674
                      have ha := Fr.cons (d := 129) ha r675
                      refine opS_of ha (⟨_, rfl, (congrArg (fun b => some (Value.bool b)) t534)⟩) ?_
                      refine wd_load1W h34 h603 rfl rfl Try.isAgg25 ?_
                      intro c676 h677
                      obtain ⟨e678, -⟩ := h677
                      cases e678
                      exact ⟨_, Stp.refl _ _ _, rfl⟩
                    · rintro o679 w680 a681 ha ⟨hB, h34, h36, h529, h463, h491, h6⟩ ⟨r682, -⟩
                      have ha := Fr.cons (d := 121) ha r682
                      refine opS_of ha (⟨_, rfl, (congrArg (fun b => some (Value.bool b)) t534)⟩) ?_
                      refine op1_val (ex_move rfl) ?_
                      exact ⟨_, Stp.refl _ _ _, rfl⟩
                    · rintro o683 w684 a685 ha ⟨hB, h34, h36, h529, h463, h491, h6⟩ ⟨r686, r687, r688, -⟩
                      have ha := Fr.cons (d := 121) ha r686
                      have ha := Fr.cons (d := 130) ha r687
                      have ha := Fr.cons (d := 131) ha r688
                      refine opS_of ha (⟨_, rfl, (congrArg (fun b => some (Value.bool b)) t534)⟩) ?_
                      refine wf_call (cI_images w684 o683 21 (by decide) _ x601 (h36.at h604 h605).z _ x528 h529.z x609 hx609) Try.call37 ⟨rfl, rfl, trivial⟩ ?_
                      rintro e695 w689 ⟨v690, o696, rfl, h691, k692, k693⟩
                      have s694 := k692.stp' 999 k693
                      replace h691 := h691.mono hB.keeps.size
                      refine ⟨_, rfl, ?_⟩
                      replace h34 := h34.stp s694 (by decide) (by decide)
                      replace h36 := h36.stp s694 (by decide) (by decide)
                      replace h529 := h529.stp s694 (by decide) (by decide)
                      replace h463 := h463.stp s694 (by decide) (by decide)
                      replace h491 := h491.stp s694 (by decide) (by decide)
                      replace h6 := h6.stp s694 (by decide)
                      replace hB := hB.stp s694 (by decide)
                      exact ⟨_, s694, h691⟩
                  rintro o697 w698 a699 ha ⟨hB, h34, h36, h529, h463, h491, h6⟩ ⟨-, -, r700, r701, -, -, -, r702, -, -, -, -, -, r703, -⟩
                  have ha := Fr.cons (d := 121) ha r700
                  have ha := Fr.cons (d := 122) ha r701
                  have ha := Fr.cons (d := 126) ha r702
                  replace r703 : Ow w.heap.size 3 21 o697 w698 (a699.tmps.getD 132 undef) x609 := r703
                  generalize e705 : a699.tmps.getD 132 undef = v704 at r703
                  have ha := Fr.cons (d := 132) ha e705
                  refine wl_of ha ?_
                  simp only [List.length_cons, List.length_nil, Nat.zero_add, Nat.reduceAdd, List.drop_succ_cons, List.drop_zero]
                  obtain ⟨x706, hx706, hq530⟩ := bind_some hq530
                  refine st_op (by decide) ⟨_, rfl, (congrArg (fun b => some (Value.bool b)) t534)⟩ ?_
                  refine wf_call (cI_RootedProblem_canComplete fuel w698 _ p0 (⟨_, rfl, (h2.keep hB.keeps)⟩) x598 _ x609 r703.z x706 hx706) Try.call36 ⟨rfl, rfl, rfl, trivial⟩ ?_
                  rintro e711 w707 ⟨rfl, k708⟩
                  have s710 := k708.stp 999 o697
                  refine ⟨_, rfl, ?_⟩
                  replace h34 := h34.stp s710 (by decide) (by decide)
                  replace h36 := h36.stp s710 (by decide) (by decide)
                  replace h529 := h529.stp s710 (by decide) (by decide)
                  replace h463 := h463.stp s710 (by decide) (by decide)
                  replace h491 := h491.stp s710 (by decide) (by decide)
                  replace r703 := r703.stp s710 (by decide) (by decide)
                  replace h6 := h6.stp s710 (by decide)
                  replace hB := hB.stp s710 (by decide)
                  refine st_val (ex_pick_f (congrArg (fun b => some (Value.bool b)) t534) rfl) (by decide) trivial ?_
                  have e712 := Option.some.inj hq530
                  subst e712
                  refine wpF_end (r := [(3, (.pointer (some ⟨b5, 0, none⟩))), (8, v33), (9, v45), (13, v462), (14, (.int .i64 i466)), (15, (.int .i64 x476)), (16, (.int .i64 y499)), (18, (.int .i64 x512)), (97, u1), (98, (.int .i64 (p1.length : Int))), (99, (.int .i64 i466)), (108, v490), (109, (.int .i64 (x488.length : Int))), (110, (.int .i64 i502)), (134, (.bool x706))]) ⟨rfl, rfl, rfl, rfl, rfl, rfl, rfl, rfl, rfl, rfl, rfl, rfl, rfl, rfl, rfl, trivial⟩ ?_
                  refine np_norm (fun a ha => ⟨o697, ha, hB, h34, h36, h529, h463, h491, h6⟩)
              rintro a713 w532 ⟨o531, ha, hB, h34, h36, h529, h463, h491, h6⟩
              refine ap_k ha ?_
              refine nx ?_
              refine wpC_cond rfl (fun t714 => ?_) (fun t714 => ?_)
              · rw [if_pos t714] at b509
                refine wpC_seq ?_
                refine wpC_region ?_
                refine st_val (ex_move rfl) (by decide) trivial ?_
                refine st_val (ex_assign rfl) (by decide) trivial ?_
                refine wpF_end (r := [(3, (.pointer (some ⟨b5, 0, none⟩))), (8, v33), (9, v45), (13, v462), (16, (.int .i64 x512)), (97, u1), (98, (.int .i64 (p1.length : Int))), (99, (.int .i64 i466))]) ⟨rfl, rfl, rfl, rfl, rfl, rfl, rfl, rfl, trivial⟩ ?_
                refine nx ?_
                refine wpC_exit ?_
                refine nb_miss (by decide) ?_
                refine nt_exit ?_
                refine nt_exit ?_
                refine nb_hit ?_
                refine np_norm ?_
                have e715 := Option.some.inj b509
                subst e715
                refine to_k (r := [(3, (.pointer (some ⟨b5, 0, none⟩))), (8, v33), (9, v45), (13, v462), (16, (.int .i64 x512)), (97, u1), (98, (.int .i64 (p1.length : Int))), (99, (.int .i64 i466))]) ⟨rfl, rfl, rfl, rfl, rfl, rfl, rfl, rfl, trivial⟩ ?_
                intro a ha
                exact ⟨x528, x512, o531, n510, ha, hB, h34, h36, h529, h463, h6⟩
              · rw [if_neg (by rw [t714]; decide)] at b509
                refine wpC_skip ?_
                refine nb_norm ?_
                refine nx ?_
                refine wpC_region ?_
                refine st_val (ex_add rfl rfl (ck_in (by omega) (by omega))) (by decide) trivial ?_
                refine st_val (ex_move rfl) (by decide) trivial ?_
                refine wpF_end (r := [(3, (.pointer (some ⟨b5, 0, none⟩))), (8, v33), (9, v45), (13, v462), (14, (.int .i64 i466)), (15, (.int .i64 x476)), (16, (.int .i64 y499)), (97, u1), (98, (.int .i64 (p1.length : Int))), (99, (.int .i64 i466)), (108, v490), (109, (.int .i64 (x488.length : Int))), (110, (.int .i64 (i502 + 1)))]) ⟨rfl, rfl, rfl, rfl, rfl, rfl, rfl, rfl, rfl, rfl, rfl, rfl, rfl, trivial⟩ ?_
                refine nt_norm ?_
                have e716 := Option.some.inj b509
                subst e716
                refine to_k (r := [(3, (.pointer (some ⟨b5, 0, none⟩))), (8, v33), (9, v45), (13, v462), (14, (.int .i64 i466)), (15, (.int .i64 x476)), (16, (.int .i64 y499)), (97, u1), (98, (.int .i64 (p1.length : Int))), (99, (.int .i64 i466)), (108, v490), (109, (.int .i64 (x488.length : Int))), (110, (.int .i64 (i502 + 1)))]) ⟨rfl, rfl, rfl, rfl, rfl, rfl, rfl, rfl, rfl, rfl, rfl, rfl, rfl, trivial⟩ ?_
                intro a ha
                exact ⟨_, (by rw [← m506]; simp only [List.length_drop]; omega), i502 + 1, x528, y499, o531, n510, rfl, (by omega), ha, hB, h34, h36, h529, h463, h491, h6⟩
            · have r717 := forI_done t511 l504
              refine wp_of ha ?_
              refine wpC_seq ?_
              refine wpC_region ?_
              refine st_val (ex_lss rfl rfl) (by decide) trivial ?_
              refine wpF_end (r := [(3, (.pointer (some ⟨b5, 0, none⟩))), (8, v33), (9, v45), (13, v462), (14, (.int .i64 i466)), (15, (.int .i64 x476)), (16, (.int .i64 y499)), (97, u1), (98, (.int .i64 (p1.length : Int))), (99, (.int .i64 i466)), (108, v490), (109, (.int .i64 (x488.length : Int))), (110, (.int .i64 i502)), (111, (.bool (decide (i502 < (x488.length : Int)))))]) ⟨rfl, rfl, rfl, rfl, rfl, rfl, rfl, rfl, rfl, rfl, rfl, rfl, rfl, rfl, trivial⟩ ?_
              refine nx ?_
              refine wpC_seq ?_
              refine wpC_false (congrArg (fun b => some (Value.bool b)) (decide_eq_false t511)) ?_
              refine wpC_exit ?_
              refine nt_exit ?_
              refine nt_exit ?_
              refine nb_hit ?_
              refine np_norm ?_
              refine to_k (r := [(3, (.pointer (some ⟨b5, 0, none⟩))), (8, v33), (9, v45), (13, v462), (16, (.int .i64 y499)), (97, u1), (98, (.int .i64 (p1.length : Int))), (99, (.int .i64 i466))]) ⟨rfl, rfl, rfl, rfl, rfl, rfl, rfl, rfl, trivial⟩ ?_
              intro a ha
              exact ⟨y497, y499, o500, r717, ha, hB, h34, h36, h498, h463, h6⟩
          · rintro a w501 ⟨y497, y499, o500, rfl, ha, hB, h34, h36, h498, h463, h6⟩
            dsimp only at b473
            refine ap_k ha ?_
            refine nx ?_
            refine wpC_seq ?_
            refine wpC_seq ?_
            refine wpC_region ?_
            refine st_val (ex_move rfl) (by decide) trivial ?_
            refine st_val (ex_lss rfl rfl) (by decide) trivial ?_
            refine wpF_end (r := [(3, (.pointer (some ⟨b5, 0, none⟩))), (8, v33), (9, v45), (13, v462), (16, (.int .i64 y499)), (97, u1), (98, (.int .i64 (p1.length : Int))), (99, (.int .i64 i466)), (138, (.bool (decide (y499 < 0))))]) ⟨rfl, rfl, rfl, rfl, rfl, rfl, rfl, rfl, rfl, trivial⟩ ?_
            refine nx ?_
            refine wpC_cond rfl (fun t718 => ?_) (fun t718 => ?_)
            · rw [if_pos t718] at b473
              refine wpC_seq ?_
              refine wpC_region ?_
              refine st_val (ex_assign rfl) (by decide) trivial ?_
              refine st_val (ex_assign rfl) (by decide) trivial ?_
              refine wpF_end (r := [(6, (.slice none 0 0)), (7, (.bool false))]) ⟨rfl, rfl, trivial⟩ ?_
              refine nx ?_
              refine wpC_ret ?_
              refine nt_ret ?_
              refine nb_ret ?_
              refine nt_ret ?_
              refine nt_ret ?_
              refine nb_ret ?_
              refine np_ret ?_
              have e719 := Option.some.inj b473
              subst e719
              refine fun a ha => ⟨_, n474, ?_⟩
              refine ret_post (P := Try.prog) (vs := [(.slice none 0 0), (.bool false)]) Try.results13 ⟨rfl, rfl, trivial⟩ ?_ a ha
              exact ⟨_, rt oo o500 w.heap.size 9 t, rfl, (Ow.nil _ _ _ _ _), hB.keeps, rt_old _ _ _ _ _⟩
            · rw [if_neg (by rw [t718]; decide)] at b473
              refine wpC_skip ?_
              refine nx ?_
              refine wpC_region ?_
              refine st_val (ex_move rfl) (by decide) trivial ?_
              refine st_val (ex_move rfl) (by decide) trivial ?_
              refine st_op (by decide) trivial ?_
              refine wf_litR (o := o500) (cs := [(.int .i64 y499)]) (xs := ([y499] : List Int)) (vs := [(0, (.int .i64 y499))]) ⟨_, _, rfl, rfl, rfl⟩ rfl ⟨rfl, rfl, trivial⟩ Try.underlying25 Try.sizeOf3 Try.zeroValue3 (by decide) (fill1 rfl) (by simp) ?_
              intro o720 w721 v722 h723 s724 k725
              replace h34 := h34.stp s724 (by decide) (by decide)
              replace h36 := h36.stp s724 (by decide) (by decide)
              replace h498 := h498.stp s724 (by decide) (by decide)
              replace h463 := h463.stp s724 (by decide) (by decide)
              replace h6 := h6.stp s724 (by decide)
              replace hB := hB.stp s724 (by decide)
              obtain ⟨x726, hx726, b473⟩ := bind_some b473
              refine st_op (by decide) trivial ?_
              refine wf_cat h463 h723 (push_cat hx726) (by decide) hB.keeps.size rfl rfl Try.underlying25 info2_t_int_Crt rfl (by decide) ?_
              intro o727 w728 v729 h730 s731
              replace h34 := h34.stp s731 (by decide) (by decide)
              replace h36 := h36.stp s731 (by decide) (by decide)
              replace h498 := h498.stp s731 (by decide) (by decide)
              replace h723 := h723.stp s731 (by decide)
              replace h6 := h6.stp s731 (by decide)
              replace hB := hB.stp s731 (by decide)
              refine st_val (ex_assign rfl) (by decide) trivial ?_
              refine wpF_end (r := [(3, (.pointer (some ⟨b5, 0, none⟩))), (8, v33), (9, v45), (13, v729), (97, u1), (98, (.int .i64 (p1.length : Int))), (99, (.int .i64 i466))]) ⟨rfl, rfl, rfl, rfl, rfl, rfl, rfl, trivial⟩ ?_
              refine nb_norm ?_
              refine nx ?_
              refine wpC_region ?_
              refine st_val (ex_add rfl rfl (ck_in (by omega) (by omega))) (by decide) trivial ?_
              refine st_val (ex_move rfl) (by decide) trivial ?_
              refine wpF_end (r := [(3, (.pointer (some ⟨b5, 0, none⟩))), (8, v33), (9, v45), (13, v729), (97, u1), (98, (.int .i64 (p1.length : Int))), (99, (.int .i64 (i466 + 1)))]) ⟨rfl, rfl, rfl, rfl, rfl, rfl, rfl, trivial⟩ ?_
              refine nt_norm ?_
              have e732 := Option.some.inj b473
              subst e732
              refine to_k (r := [(3, (.pointer (some ⟨b5, 0, none⟩))), (8, v33), (9, v45), (13, v729), (97, u1), (98, (.int .i64 (p1.length : Int))), (99, (.int .i64 (i466 + 1)))]) ⟨rfl, rfl, rfl, rfl, rfl, rfl, rfl, trivial⟩ ?_
              intro a ha
              exact ⟨_, (by rw [← m470]; simp only [List.length_drop]; omega), i466 + 1, y497, x726, v729, o727, n474, rfl, (by omega), ha, hB, h34, h36, h498, h730, h6⟩
          · exact fun _ _ h => h.elim
        · have r733 := forI_done t475 l468
          refine wp_of ha ?_
          refine wpC_seq ?_
          refine wpC_region ?_
          refine st_val (ex_lss rfl rfl) (by decide) trivial ?_
          refine wpF_end (r := [(3, (.pointer (some ⟨b5, 0, none⟩))), (8, v33), (9, v45), (13, v462), (97, u1), (98, (.int .i64 (p1.length : Int))), (99, (.int .i64 i466)), (100, (.bool (decide (i466 < (p1.length : Int)))))]) ⟨rfl, rfl, rfl, rfl, rfl, rfl, rfl, rfl, trivial⟩ ?_
          refine nx ?_
          refine wpC_seq ?_
          refine wpC_false (congrArg (fun b => some (Value.bool b)) (decide_eq_false t475)) ?_
          refine wpC_exit ?_
          refine nt_exit ?_
          refine nt_exit ?_
          refine nb_hit ?_
          refine np_norm ?_
          refine to_k (r := [(13, v462)]) ⟨rfl, trivial⟩ ?_
          intro a ha
          exact ⟨y459, y461, v462, o464, r733, ha, hB, h463⟩
      · rintro a w465 ⟨y459, y461, v462, o464, rfl, ha, hB, h463⟩
        dsimp only at hF
        refine ap_k ha ?_
        refine nx ?_
        refine wpC_seq ?_
        refine wpC_region ?_
        refine st_val (ex_move rfl) (by decide) trivial ?_
        refine st_val (ex_assign rfl) (by decide) trivial ?_
        refine st_val (ex_assign rfl) (by decide) trivial ?_
        refine wpF_end (r := [(6, v462), (7, (.bool true))]) ⟨rfl, rfl, trivial⟩ ?_
        refine nx ?_
        refine wpC_ret ?_
        have e734 := Option.some.inj hF
        subst e734
        refine ret_post (P := Try.prog) (vs := [v462, (.bool true)]) Try.results13 ⟨rfl, rfl, trivial⟩ ?_
        exact ⟨_, rt oo o464 w.heap.size 19 t, rfl, h463.rt hB (by decide) t, hB.keeps, rt_old _ _ _ _ _⟩
      · rintro a w465 ⟨r', rfl, b735⟩
        dsimp only at hF
        have e736 := Option.some.inj hF
        subst e736
        exact b735
    · exact fun _ _ h => h.elim
end Go.Proofs.Ytjmhjobfiemmnaa
