/- spec.roFault, spec.roLabeled, spec.IsRootedSolution, spec.FirstRootedFault, (impl.RootedProblem).line, impl.rootedFault$1, impl.rootedFault, impl.IsRootedSolution, impl.FirstRootedFault: plain functions, and the walks that show that the program computes them (printed by gen.py). -/
import Derived.Test.YtjmhjobfiemmnaaGM
import Derived.Test.YtjmhjobfiemmnaaGN
import Derived.Test.YtjmhjobfiemmnaaGIm
import Derived.Test.YtjmhjobfiemmnaaGR
namespace Go.Proofs.Ytjmhjobfiemmnaa
open Go.RowKit
set_option linter.unusedSimpArgs false
set_option linter.unusedVariables false

theorem info2_t_int_Y : Inf Try.prog 3 (.int .i64 0) 1 8 := by unfold Inf; kernel_rfl

def fS_roFault_s1 (fuel : Nat) (p0 : T_RootedProblem) (p2 : List Int) : Int → (List Int) → Unit → Option (Lp Unit Unit Int) := fun (i21 : Int) (x31 : List Int) (s : Unit) =>
  (
    if decide ((x31.length : Int) > 0) then
      (ix p2 i21) >>= fun x46 =>
      (fS_coThrough p2 x31) >>= fun x54 =>
      (fS_prSorted fuel x54) >>= fun x63 =>
      (cat ([x46] : List Int) x63) >>= fun x72 =>
      (fS_prHas p0.Lines x72) >>= fun x196 =>
      some (!x196)
    else
      some false) >>= fun q41 =>
  if q41 then
    some (.ret i21)
  else
    some (.go ())
def fS_roFault (fuel : Nat) (p0 : T_RootedProblem) (p1 : List Int) (p2 : List Int) : Option Int :=
  (fS_roBelow p1) >>= fun x8 =>
  (forI (fS_roFault_s1 fuel p0 p2) x8 0 ()) >>= fun q22 =>
  match q22 with
  | .inl _ =>
    some (-1)
  | .inr r' => some r'

def fS_roLabeled (fuel : Nat) (p0 : T_RootedProblem) (p1 : List Int) (p2 : List Int) : Option Bool :=
  (fS_roAsked fuel p0 p1) >>= fun x8 =>
  (
    if x8 then
      if (p2.length : Int) == (p1.length : Int) then
        (ck (p0.Labels - 1)) >>= fun x19 =>
        (fS_l1All p2 0 x19) >>= fun x20 =>
        some x20
      else
        some false
    else
      some false) >>= fun q14 =>
  some q14

def fS_IsRootedSolution (fuel : Nat) (p0 : T_RootedProblem) (p1 : List Int) (p2 : List Int) : Option (Bool × Bool) :=
  (fS_roLabeled fuel p0 p1 p2) >>= fun x8 =>
  if !x8 then
    some (false, false)
  else
    (fS_roFault fuel p0 p1 p2) >>= fun x16 =>
    some (decide (x16 < 0), true)

def fS_FirstRootedFault (fuel : Nat) (p0 : T_RootedProblem) (p1 : List Int) (p2 : List Int) : Option (Int × Bool) :=
  (fS_roLabeled fuel p0 p1 p2) >>= fun x8 =>
  (
    if !x8 then
      some true
    else
      (fS_roFault fuel p0 p1 p2) >>= fun x18 =>
      some (decide (x18 < 0))) >>= fun q14 =>
  if q14 then
    some (0, false)
  else
    (fS_roFault fuel p0 p1 p2) >>= fun x29 =>
    some (x29, true)

def fI_RootedProblem_line (fuel : Nat) (p0 : T_RootedProblem) (p1 : Int) (p2 : List Int) : Option Bool :=
  (srtO p2) >>= fun x22 =>
  (cat ([p1] : List Int) x22) >>= fun x30 =>
  (fX_slices_BinarySearchFunc_LLint_int_int fuel p0.Lines x30 (fun (z36 : (List Int) × (List Int)) => fX_slices_Compare_int_int z36.1 z36.2)) >>= fun x45 =>
  some x45.2

def pI_RootedProblem_line (w : World) (r : Bool) : Ending → World → Prop := fun e w' => e = .returned (.bool r) ∧ Keeps w w'
set_option maxRecDepth 100000 in
set_option maxHeartbeats 2000000 in
theorem cI_RootedProblem_line (fuel : Nat) (w : World) (u0 : List Value) (p0 : T_RootedProblem) (g0 : Rp.rd zt w u0 p0) (p1 : Int) (u2 : Value) (p2 : List Int) (g2 : RdL zt w u2 p2) (r : Bool) (hF : fI_RootedProblem_line fuel p0 p1 p2 = some r) :
    Calls Try.prog 30 #[.agg u0.toArray, .int .i64 p1, u2] w (pI_RootedProblem_line w r) := by
  unfold fI_RootedProblem_line at hF
  obtain ⟨v1, rfl, h2⟩ := g0
  have hB : Bs (fun _ => 1) (col (fun _ => 1)) w w := Bs.start _ _
  refine calls_start (n := 24) (vs := [(.agg #[(.int .i64 p0.Labels), (.int .i64 p0.Children), v1]), (.int .i64 p1), u2]) Try.func30 rfl rfl ?_
  refine wpC_seq ?_
  refine wpC_region ?_
  refine st_op (by decide) trivial ?_
  refine wf_box (o := (col (fun _ => 1))) w.heap.size 11 hB.keeps.size (cs := [(.int .i64 p0.Labels), (.int .i64 p0.Children), v1]) rfl rfl ?_
  intro o3 w4 b5 h6 s7
  replace hB := hB.stp s7 (by decide)
  refine st_val (ex_assign rfl) (by decide) trivial ?_
  refine wpF_end (r := [(1, (.int .i64 p1)), (2, u2), (3, (.pointer (some ⟨b5, 0, none⟩)))]) ⟨rfl, rfl, rfl, trivial⟩ ?_
  refine nx ?_
  refine wpC_seq ?_
  refine wpC_region ?_
  refine st_val (ex_move rfl) (by decide) trivial ?_
  refine st_op (by decide) trivial ?_
  refine wf_call (cX_Values w4 o3 u2 p2 (g2.keep hB.keeps)) Try.call49 ⟨rfl, trivial⟩ ?_
  rintro e9 w8 ⟨v14, o13, rfl, h15, k10, k11⟩
  have s12 := k10.stp' 999 k11
  refine ⟨_, rfl, ?_⟩
  replace h6 := h6.stp s12 (by decide)
  replace hB := hB.stp s12 (by decide)
  obtain ⟨x22, hx22, hF⟩ := bind_some hF
  refine st_op (by decide) trivial ?_
  refine wf_call (cX_Sorted w8 o13 12 v14 u2 _ h15 p2 (g2.keep hB.keeps) x22 hx22) Try.call48 ⟨rfl, trivial⟩ ?_
  rintro e17 w16 ⟨v23, o21, rfl, h24, k18, k19⟩
  have s20 := k18.stp' 12 k19
  replace h24 := h24.mono hB.keeps.size
  refine ⟨_, rfl, ?_⟩
  replace h15 := h15.stp s20 (by decide)
  replace h6 := h6.stp s20 (by decide)
  replace hB := hB.stp s20 (by decide)
  refine st_val (ex_assign rfl) (by decide) trivial ?_
  refine wpF_end (r := [(1, (.int .i64 p1)), (3, (.pointer (some ⟨b5, 0, none⟩))), (7, v23)]) ⟨rfl, rfl, rfl, trivial⟩ ?_
  refine nx ?_
  refine wpC_seq ?_
  obtain ⟨x30, hx30, hF⟩ := bind_some hF
  obtain ⟨x45, hx45, hF⟩ := bind_some hF
  refine wpC_drawn (o := o21) [(1, (.int .i64 p1)), (3, (.pointer (some ⟨b5, 0, none⟩))), (7, v23)] [1, 3, 7] [14, 15, 16, 17, 18, 19, 20, 13, 21, 22, 8] [[], [0], [], [2], [], [3, 4], [1, 5], [6], [7], [7], [8]] [none, none, none, some 5, none, none, none, none, none, none, none] [999, 999, 999, 999, 999, 13, 999, 999, 999, 999, 999] [0, 0, 0, 13, 0, 13, 0, 0, 0, 0, 0] [13, 999] [fun v _ _ => v = (.pointer (some ⟨b5, 0 + 2, none⟩)), fun v _ _ => v = v1, fun v _ _ => v = (.int .i64 p1), fun v o w9 => Ow w.heap.size 3 13 o w9 v (([p1] : List Int) : List Int), fun v _ _ => v = v23, fun v o w9 => Ow w.heap.size 3 13 o w9 v x30, fun v _ _ => v = (.tuple #[(.int .i64 x45.1), (.bool x45.2)]), fun v _ _ => v = (.tuple #[(.int .i64 x45.1), (.bool x45.2)]), fun v _ _ => v = (.int .i64 x45.1), fun v _ _ => v = (.bool x45.2), fun v _ _ => v = (.int .i64 x45.1)] (fun o8 w8 => Bs (fun _ => 1) o8 w w8 ∧ Ow w.heap.size 3 12 o8 w8 v23 x22 ∧ Bx w.heap.size 11 o8 w8 b5 29 [(.int .i64 p0.Labels), (.int .i64 p0.Children), v1]) follows_mixed (by kernel_rfl) rfl ⟨rfl, rfl, rfl, trivial⟩ ⟨hB, h24, h6⟩ ?_ ⟨st_eq _, st_eq _, st_eq _, fun _ _ _ _ _ _ h0 hb h hs => h.stp hs h0.1 (Ne.symm hb), st_eq _, fun _ _ _ _ _ _ h0 hb h hs => h.stp hs h0.1 (Ne.symm hb), st_eq _, st_eq _, st_eq _, st_eq _, st_eq _, trivial⟩ ?_ ?_
  · rintro t9 o1 w1 o2 w2 ht9 ⟨hB, h24, h6⟩ hs9
    have ht9 : t9 = 13 ∨ t9 = 999 := by simpa using ht9
    rcases ht9 with rfl | rfl
    all_goals exact ⟨hB.stp hs9 (by decide), h24.stp hs9 (by decide) (by decide), h6.stp hs9 (by decide)⟩
  · refine ⟨?_, ?_, ?_, ?_, ?_, ?_, ?_, ?_, ?_, ?_, ?_, trivial⟩
    · rintro o51 w52 a53 ha ⟨hB, h24, h6⟩ -
      refine opS_of ha (trivial) ?_
      refine op1_val (ex_field rfl Try.underlying29 rfl Try.sizeOf22) ?_
      exact ⟨_, Stp.refl _ _ _, rfl⟩
    · rintro o54 w55 a56 ha ⟨hB, h24, h6⟩ ⟨r57, -⟩
      have ha := Fr.cons (d := 14) ha r57
      refine opS_of ha (trivial) ?_
      refine op1_val (ex_load1 rfl Try.isAgg22 (h6.cell rfl)) ?_
      exact ⟨_, Stp.refl _ _ _, rfl⟩
    · rintro o58 w59 a60 ha ⟨hB, h24, h6⟩ -
      refine opS_of ha (trivial) ?_
      refine op1_val (ex_move rfl) ?_
      exact ⟨_, Stp.refl _ _ _, rfl⟩
    · rintro o61 w62 a63 ha ⟨hB, h24, h6⟩ ⟨r64, -⟩
      have ha := Fr.cons (d := 16) ha r64
      refine opS_of ha (trivial) ?_
      refine wf_litW9 w.heap.size 13 hB.keeps.size (o := o61) (cs := [(.int .i64 p1)]) (xs := ([p1] : List Int)) (vs := [(0, (.int .i64 p1))]) ⟨_, _, rfl, rfl, rfl⟩ rfl ⟨rfl, rfl, trivial⟩ Try.underlying25 Try.sizeOf3 Try.zeroValue3 (by decide) (fill1 rfl) (by simp) ?_
      intro o65 w66 v67 h68 s69
      replace h24 := h24.stp s69 (by decide) (by decide)
      replace h6 := h6.stp s69 (by decide)
      replace hB := hB.stp s69 (by decide)
      exact ⟨_, s69, h68⟩
    · rintro o70 w71 a72 ha ⟨hB, h24, h6⟩ -
      refine opS_of ha (trivial) ?_
      refine op1_val (ex_move rfl) ?_
      exact ⟨_, Stp.refl _ _ _, rfl⟩
    · rintro o73 w74 a75 ha ⟨hB, h24, h6⟩ ⟨r76, r77, -⟩
      replace r76 : Ow w.heap.size 3 13 o73 w74 (a75.tmps.getD 17 undef) (([p1] : List Int) : List Int) := r76
      generalize e79 : a75.tmps.getD 17 undef = v78 at r76
      have ha := Fr.cons (d := 17) ha e79
      have ha := Fr.cons (d := 18) ha r77
      refine opS_of ha (trivial) ?_
      refine wf_catZ r76 (h24.z) hx30 (by decide) hB.keeps.size (fun _ _ h => h) rfl rfl Try.underlying25 info2_t_int_Y rfl (by decide) ?_
      intro o80 w81 v82 h83 s84
      replace h24 := h24.stp s84 (by decide) (by decide)
      replace h6 := h6.stp s84 (by decide)
      replace hB := hB.stp s84 (by decide)
      exact ⟨_, s84, h83⟩
    · rintro o85 w86 a87 ha ⟨hB, h24, h6⟩ ⟨r88, r89, -⟩
      have ha := Fr.cons (d := 15) ha r88
      replace r89 : Ow w.heap.size 3 13 o85 w86 (a87.tmps.getD 19 undef) x30 := r89
      generalize e91 : a87.tmps.getD 19 undef = v90 at r89
      have ha := Fr.cons (d := 19) ha e91
      refine opS_of ha (trivial) ?_
      refine wf_call (cX_slices_BinarySearchFunc_LLint_int_int fuel w86 _ p0.Lines (h2.keep hB.keeps) _ x30 r89.z _ (fun (z92 : (List Int) × (List Int)) => fX_slices_Compare_int_int z92.1 z92.2) (show FnV Try.prog w86 (.func (.func 51) #[] #[]) (fun (z92 : (List Int) × (List Int)) => fX_slices_Compare_int_int z92.1 z92.2) from ⟨_, _, rfl, Try.call51, fun ww vs xx rr kk hok hG => by (obtain ⟨a93, b94, rfl, h95, h96⟩ := hok; obtain ⟨v97, rfl, h98⟩ := h95; obtain ⟨v99, rfl, h100⟩ := h96; exact cX_slices_Compare_int_int ww _ xx.1 h98 _ xx.2 h100 rr hG)⟩) x45 hx45) Try.call50 ⟨rfl, rfl, rfl, trivial⟩ ?_
      rintro e105 w101 ⟨rfl, k102⟩
      have s104 := k102.stp 999 o85
      refine ⟨_, rfl, ?_⟩
      replace h24 := h24.stp s104 (by decide) (by decide)
      replace r89 := r89.stp s104 (by decide) (by decide)
      replace h6 := h6.stp s104 (by decide)
      replace hB := hB.stp s104 (by decide)
      exact ⟨_, s104, rfl⟩
    · rintro o106 w107 a108 ha ⟨hB, h24, h6⟩ ⟨r109, -⟩
      have ha := Fr.cons (d := 20) ha r109
      refine opS_of ha (trivial) ?_
      refine op1_val (ex_move rfl) ?_
      exact ⟨_, Stp.refl _ _ _, rfl⟩
    · rintro o110 w111 a112 ha ⟨hB, h24, h6⟩ ⟨r113, -⟩
      have ha := Fr.cons (d := 13) ha r113
      refine opS_of ha (trivial) ?_
      refine op1_val (ex_extract rfl rfl) ?_
      exact ⟨_, Stp.refl _ _ _, rfl⟩
    · rintro o114 w115 a116 ha ⟨hB, h24, h6⟩ ⟨r117, -⟩
      have ha := Fr.cons (d := 13) ha r117
      refine opS_of ha (trivial) ?_
      refine op1_val (ex_extract rfl rfl) ?_
      exact ⟨_, Stp.refl _ _ _, rfl⟩
    · rintro o118 w119 a120 ha ⟨hB, h24, h6⟩ ⟨r121, -⟩
      have ha := Fr.cons (d := 21) ha r121
      refine opS_of ha (trivial) ?_
      refine op1_val (ex_assign rfl) ?_
      exact ⟨_, Stp.refl _ _ _, rfl⟩
  rintro o122 w123 a124 ha ⟨hB, h24, h6⟩ ⟨-, -, -, -, -, -, -, -, -, r125, -, -⟩
  have ha := Fr.cons (d := 22) ha r125
  refine wl_of ha ?_
  simp only [List.length_cons, List.length_nil, Nat.zero_add, Nat.reduceAdd, List.drop_succ_cons, List.drop_zero]
  refine st_val (ex_assign rfl) (by decide) trivial ?_
  refine wpF_end (r := [(9, (.bool x45.2))]) ⟨rfl, trivial⟩ ?_
  refine nx ?_
  refine wpC_seq ?_
  refine wpC_region ?_
  refine st_val (ex_move rfl) (by decide) trivial ?_
  refine st_val (ex_assign rfl) (by decide) trivial ?_
  refine wpF_end (r := [(6, (.bool x45.2))]) ⟨rfl, trivial⟩ ?_
  refine nx ?_
  refine wpC_ret ?_
  have e126 := Option.some.inj hF
  subst e126
  refine ret_post (P := Try.prog) (vs := [(.bool x45.2)]) Try.results30 ⟨rfl, trivial⟩ ?_
  exact ⟨rfl, hB.keeps⟩

def fI_rootedFault_1 (fuel : Nat) (p0 : Int) (p1 : List Int) (p2 : T_RootedProblem) (p3 : List Int) : Option Bool :=
  (fI_childrenOf p1) >>= fun x7 =>
  (ix x7 p0) >>= fun x18 =>
  (
    if decide ((x18.length : Int) > 0) then
      (ix p3 p0) >>= fun x33 =>
      (fI_images x18 p3) >>= fun x36 =>
      (fI_RootedProblem_line fuel p2 x33 x36) >>= fun x128 =>
      some (!x128)
    else
      some false) >>= fun q28 =>
  some q28

def fI_rootedFault (fuel : Nat) (p0 : T_RootedProblem) (p1 : List Int) (p2 : List Int) : Option Int :=
  (fI_numbersTo (p1.length : Int)) >>= fun x18 =>
  (fX_slices_IndexFunc_int_int x18 (fun z27 => fI_rootedFault_1 fuel z27 p1 p0 p2)) >>= fun x28 =>
  some x28

def fI_IsRootedSolution (fuel : Nat) (p0 : T_RootedProblem) (p1 : List Int) (p2 : List Int) : Option (Bool × Bool) :=
  (fI_rootedOk fuel p0 p1) >>= fun x8 =>
  (
    if !x8 then
      some true
    else
      if (p2.length : Int) != (p1.length : Int) then
        some true
      else
        (fI_RootedProblem_hasLabels p0 p2) >>= fun x19 =>
        some (!x19)) >>= fun q14 =>
  if q14 then
    some (false, false)
  else
    (fI_rootedFault fuel p0 p1 p2) >>= fun x30 =>
    some (decide (x30 < 0), true)

def fI_FirstRootedFault (fuel : Nat) (p0 : T_RootedProblem) (p1 : List Int) (p2 : List Int) : Option (Int × Bool) :=
  (fI_IsRootedSolution fuel p0 p1 p2) >>= fun x8 =>
  (
    if !x8.2 then
      some true
    else
      some x8.1) >>= fun q14 =>
  if q14 then
    some (0, false)
  else
    (fI_rootedFault fuel p0 p1 p2) >>= fun x23 =>
    some (x23, true)

end Go.Proofs.Ytjmhjobfiemmnaa
