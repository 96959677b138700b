/- slices.isNaN[int], slices.Clone[[]int,int], slices.BinarySearch[[]int,int], slices.BinarySearchFunc[[][]int,[]int,[]int], impl.hasConfiguration: plain functions, and the walks that show that the program computes them (printed by gen.py). -/
import Derived.Test.YtijaojnaamkinaaGB
import Derived.Test.YtijaojnaamkinaaKc
import Derived.Test.YtijaojnaamkinaaVals
namespace Go.Proofs.Ytijaojnaamkinaa
open Go.RowKit
set_option linter.unusedSimpArgs false
set_option linter.unusedVariables false

theorem info2_t_int_N : Inf Try.prog 3 (.int .i64 0) 1 8 := by unfold Inf; kernel_rfl

def fX_slices_Clone_int_int (p0 : List Int) : Option (List Int) :=
  (cat ([] : List Int) p0) >>= fun x9 =>
  some x9

def pX_slices_Clone_int_int (oo : Tg) (t : Nat) (w : World) (r : List Int) : Ending → World → Prop := fun e w' => ∃ (v0 : Value) (o' : Tg), e = .returned (v0) ∧ Ow w.heap.size 3 t o' w' v0 r ∧ Keeps w w' ∧ ∀ b, b < w.heap.size → o' b = oo b
set_option maxRecDepth 100000 in
set_option maxHeartbeats 2000000 in
theorem cX_slices_Clone_int_int (w : World) (oo : Tg) (t : Nat) (ht : 2 ≤ t) (u0 : Value) (p0 : List Int) (g0 : RdL zt w u0 p0) (r : List Int) (hF : fX_slices_Clone_int_int p0 = some r) :
    Calls Try.prog 129 #[u0] w (pX_slices_Clone_int_int oo t w r) := by
  unfold fX_slices_Clone_int_int at hF
  have hB : Bs oo (col oo) w w := Bs.start _ _
  refine calls_start (n := 8) (vs := [u0]) Try.func129 rfl rfl ?_
  generalize col oo = o at *
  refine wpC_seq ?_
  refine wpC_region ?_
  refine st_val (ex_assign rfl) (by decide) trivial ?_
  refine wpF_end (r := [(0, u0)]) ⟨rfl, trivial⟩ ?_
  refine nx ?_
  refine wpC_seq ?_
  refine wpC_seq ?_
  refine wpC_region ?_
  refine st_val (ex_move rfl) (by decide) trivial ?_
  refine st_val (ex_eqlnil (g0.keep hB.keeps) rfl rfl Try.underlying23) (by decide) trivial ?_
  refine wpF_end (r := [(0, u0), (4, (.bool (isnil u0)))]) ⟨rfl, rfl, trivial⟩ ?_
  refine nx ?_
  refine wpC_cond rfl (fun t1 => ?_) (fun t1 => ?_)
  · have e2 := isnil_nil (g0.keep hB.keeps) t1
    subst e2
    replace hF : (some [] : Option (List Int)) = some r := hF
    refine wpC_seq ?_
    refine wpC_region ?_
    refine st_val (ex_assign rfl) (by decide) trivial ?_
    refine wpF_end (r := [(2, (.slice none 0 0))]) ⟨rfl, trivial⟩ ?_
    refine nx ?_
    refine wpC_ret ?_
    refine nt_ret ?_
    have e3 := Option.some.inj hF
    subst e3
    refine ret_post (P := Try.prog) (vs := [(.slice none 0 0)]) Try.results129 ⟨rfl, trivial⟩ ?_
    exact ⟨_, rt oo o w.heap.size 9 t, rfl, (Ow.nil _ _ _ _ _), hB.keeps, rt_old _ _ _ _ _⟩
  · refine wpC_skip ?_
    refine nx ?_
    refine wpC_seq ?_
    refine wpC_region ?_
    refine st_op (by decide) trivial ?_
    refine wf_litW w.heap.size 11 hB.keeps.size (o := o) (cs := []) (xs := ([] : List Int)) (vs := []) rfl rfl trivial Try.underlying23 Try.sizeOf3 Try.zeroValue3 (by decide) fill0 (by simp) ?_
    intro o4 w5 v6 h7 s8
    replace hB := hB.stp s8 (by decide)
    refine st_val (ex_move rfl) (by decide) trivial ?_
    obtain ⟨x9, hx9, hF⟩ := bind_some hF
    refine st_op (by decide) trivial ?_
    refine wf_catZ h7 (g0.keep hB.keeps) hx9 (by decide) hB.keeps.size (fun _ _ h => h) rfl rfl Try.underlying23 info2_t_int_N rfl (by decide) ?_
    intro o10 w11 v12 h13 s14
    replace hB := hB.stp s14 (by decide)
    refine st_val (ex_assign rfl) (by decide) trivial ?_
    refine wpF_end (r := [(2, v12)]) ⟨rfl, trivial⟩ ?_
    refine nx ?_
    refine wpC_ret ?_
    have e15 := Option.some.inj hF
    subst e15
    refine ret_post (P := Try.prog) (vs := [v12]) Try.results129 ⟨rfl, trivial⟩ ?_
    exact ⟨_, rt oo o10 w.heap.size 11 t, rfl, h13.rt hB (by decide) t, hB.keeps, rt_old _ _ _ _ _⟩

end Go.Proofs.Ytijaojnaamkinaa
