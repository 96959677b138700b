/- spec.l1Most, spec.waReach, spec.waDepths, spec.l1Abs, spec.waParts: plain functions, and the walks that show that the program computes them (printed by gen.py). -/
import Derived.Test.YtffgdhbhlcifmaaGH
import Derived.Test.YtffgdhbhlcifmaaGI
import Derived.Test.YtffgdhbhlcifmaaGcd
import Derived.Test.YtffgdhbhlcifmaaKh
import Derived.Test.YtffgdhbhlcifmaaKs
namespace Go.Proofs.Ytffgdhbhlcifmaa
open Go.RowKit
set_option linter.unusedSimpArgs false
set_option linter.unusedVariables false

theorem info2_t_int_Wa : Inf Try.prog 3 (.int .i64 0) 1 8 := by unfold Inf; kernel_rfl

theorem info2_t_bool_Wa : Inf Try.prog 4 (.bool false) 1 1 := by unfold Inf; kernel_rfl

theorem info2_t_spec_waPart_Wa : Inf Try.prog 60 (.agg #[(.slice none 0 0), (.int .i64 0), (.slice none 0 0)]) 3 56 := by unfold Inf; kernel_rfl

theorem info1_t_spec_waPart_Wa : (Try.prog.info? 60).map (·.size) = some 3 := by kernel_rfl

def fS_l1Most (p0 : Int) (p1 : Int) : Option Int :=
  if decide (p0 > p1) then
    some p0
  else
    some p1

def pS_l1Most (w : World) (r : Int) : Ending → World → Prop := fun e w' => e = .returned (.int .i64 r) ∧ Keeps w w'
set_option maxRecDepth 100000 in
set_option maxHeartbeats 2000000 in
theorem cS_l1Most (w : World) (p0 : Int) (p1 : Int) (r : Int) (hF : fS_l1Most p0 p1 = some r) :
    Calls Try.prog 106 #[.int .i64 p0, .int .i64 p1] w (pS_l1Most w r) := by
  unfold fS_l1Most at hF
  have hB : Bs (fun _ => 1) (col (fun _ => 1)) w w := Bs.start _ _
  refine calls_start (n := 10) (vs := [(.int .i64 p0), (.int .i64 p1)]) Try.func106 rfl rfl ?_
  refine wpC_seq ?_
  refine wpC_region ?_
  refine st_val (ex_assign rfl) (by decide) trivial ?_
  refine wpF_end (r := [(0, (.int .i64 p0)), (1, (.int .i64 p1))]) ⟨rfl, rfl, trivial⟩ ?_
  refine nx ?_
  refine wpC_seq ?_
  refine wpC_seq ?_
  refine wpC_region ?_
  refine st_val (ex_move rfl) (by decide) trivial ?_
  refine st_val (ex_move rfl) (by decide) trivial ?_
  refine st_val (ex_gtr rfl rfl) (by decide) trivial ?_
  refine wpF_end (r := [(0, (.int .i64 p0)), (1, (.int .i64 p1)), (7, (.bool (decide (p0 > p1))))]) ⟨rfl, rfl, rfl, trivial⟩ ?_
  refine nx ?_
  refine wpC_cond rfl (fun t1 => ?_) (fun t1 => ?_)
  · rw [if_pos t1] at hF
    refine wpC_seq ?_
    refine wpC_region ?_
    refine st_val (ex_move rfl) (by decide) trivial ?_
    refine st_val (ex_assign rfl) (by decide) trivial ?_
    refine wpF_end (r := [(4, (.int .i64 p0))]) ⟨rfl, trivial⟩ ?_
    refine nx ?_
    refine wpC_ret ?_
    refine nt_ret ?_
    have e2 := Option.some.inj hF
    subst e2
    refine ret_post (P := Try.prog) (vs := [(.int .i64 p0)]) Try.results106 ⟨rfl, trivial⟩ ?_
    exact ⟨rfl, hB.keeps⟩
  · rw [if_neg (by rw [t1]; decide)] at hF
    refine wpC_skip ?_
    refine nx ?_
    refine wpC_seq ?_
    refine wpC_region ?_
    refine st_val (ex_move rfl) (by decide) trivial ?_
    refine st_val (ex_assign rfl) (by decide) trivial ?_
    refine wpF_end (r := [(4, (.int .i64 p1))]) ⟨rfl, trivial⟩ ?_
    refine nx ?_
    refine wpC_ret ?_
    have e3 := Option.some.inj hF
    subst e3
    refine ret_post (P := Try.prog) (vs := [(.int .i64 p1)]) Try.results106 ⟨rfl, trivial⟩ ?_
    exact ⟨rfl, hB.keeps⟩

def fS_waReach_s3 (i34 : Int) (i58 : Int) : Int → Bool → (List (List Bool)) → Option (Lp (List (List Bool)) (List (List Bool)) (List (List Bool))) := fun (i84 : Int) (x94 : Bool) (s : List (List Bool)) =>
  (
    (ix s i58) >>= fun x104 =>
    (ix s i58) >>= fun x112 =>
    (ix x112 i84) >>= fun x120 =>
    if x120 then
      (ix x104 i84) >>= fun x215 =>
      (st x104 i84 true) >>= fun x224 =>
      some (s.set i58.toNat x224)
    else
      if x94 then
        (ix x104 i84) >>= fun x330 =>
        (st x104 i84 (decide (i34 > 0))) >>= fun x339 =>
        some (s.set i58.toNat x339)
      else
        (ix x104 i84) >>= fun x443 =>
        (st x104 i84 false) >>= fun x452 =>
        some (s.set i58.toNat x452)) >>= fun q100 =>
  some (.go q100)
def fS_waReach_s2 (i34 : Int) (x44 : List (List Bool)) : Int → (List (List Bool)) → Option (Lp (List (List Bool)) (List (List Bool)) (List (List Bool))) := fun (i58 : Int) (s : List (List Bool)) =>
  (ix x44 i58) >>= fun x70 =>
  (forI (fS_waReach_s3 i34 i58) x70 0 s) >>= fun q85 =>
  match q85 with
  | .inl y78 =>
    some (.go y78)
  | .inr _ => none
def fS_waReach_s1 : Int → (List (List Bool)) → (List (List Bool)) → Option (Lp (List (List Bool)) (List (List Bool)) (List (List Bool))) := fun (i34 : Int) (x44 : List (List Bool)) (s : List (List Bool)) =>
  ck (x44.length : Int) >>= fun _ =>
  (forN (fS_waReach_s2 i34 x44) ((x44.length : Int)).toNat 0 s) >>= fun q59 =>
  match q59 with
  | .inl y52 =>
    some (.go y52)
  | .inr _ => none
def fS_waReach (fuel : Nat) (p0 : T_WalkProblem) : Option (List (List Bool)) :=
  (fS_waMay fuel (⟨p0.Labels, []⟩ : T_WalkProblem)) >>= fun x8 =>
  (fS_waPowers fuel p0 p0.Labels) >>= fun x19 =>
  (forI (fS_waReach_s1) x19 0 x8) >>= fun q35 =>
  match q35 with
  | .inl y28 =>
    some y28
  | .inr _ => none

def pS_waReach (oo : Tg) (t : Nat) (w : World) (r : List (List Bool)) : Ending → World → Prop := fun e w' => ∃ (v0 : Value) (g0 : List Hv) (o' : Tg), e = .returned (v0) ∧ Ow w.heap.size 87 t o' w' v0 g0 ∧ Rws w.heap.size 4 (t + 1) o' w' g0 r ∧ Keeps w w' ∧ ∀ b, b < w.heap.size → o' b = oo b
set_option maxRecDepth 100000 in
set_option maxHeartbeats 2000000 in
theorem cS_waReach (fuel : Nat) (w : World) (oo : Tg) (t : Nat) (ht : 2 ≤ t) (u0 : List Value) (p0 : T_WalkProblem) (g0 : Rp.rd zt w u0 p0) (r : List (List Bool)) (hF : fS_waReach fuel p0 = some r) :
    Calls Try.prog 72 #[.agg u0.toArray] w (pS_waReach oo t w r) := by
  unfold fS_waReach at hF
  obtain ⟨v1, rfl, h2⟩ := g0
  have hB : Bs oo (col oo) w w := Bs.start _ _
  refine calls_start (n := 62) (vs := [(.agg #[(.int .i64 p0.Labels), v1])]) Try.func72 rfl rfl ?_
  generalize col oo = o at *
  refine wpC_seq ?_
  refine wpC_region ?_
  refine st_op (by decide) trivial ?_
  refine wf_box (o := o) w.heap.size 11 hB.keeps.size (cs := [(.int .i64 p0.Labels), v1]) rfl rfl ?_
  intro o3 w4 b5 h6 s7
  replace hB := hB.stp s7 (by decide)
  refine st_val (ex_assign rfl) (by decide) trivial ?_
  refine wpF_end (r := [(1, (.pointer (some ⟨b5, 0, none⟩)))]) ⟨rfl, trivial⟩ ?_
  refine nx ?_
  refine wpC_seq ?_
  refine wpC_region ?_
  refine st_val (ex_field rfl Try.underlying29 rfl Try.sizeOf3) (by decide) trivial ?_
  refine st_val (ex_load1 rfl Try.isAgg3 (h6.cell rfl)) (by decide) trivial ?_
  refine st_val (ex_build (vs := [(0, (.int .i64 p0.Labels))]) (cs := [(.int .i64 p0.Labels), (.slice none 0 0)]) ⟨rfl, rfl, trivial⟩ (by kernel_rfl)) (by decide) trivial ?_
  obtain ⟨x8, hx8, hF⟩ := bind_some hF
  refine st_op (by decide) trivial ?_
  refine wf_call (cS_waMay fuel w4 o3 12 (by decide) _ (⟨p0.Labels, []⟩ : T_WalkProblem) (⟨_, rfl, RdL.nil _ _⟩) x8 hx8) Try.call105 ⟨rfl, trivial⟩ ?_
  rintro e17 w9 ⟨v10, g12, o18, rfl, h11, h13, k14, k15⟩
  have s16 := k14.stp' 12 k15
  replace h11 := h11.mono hB.keeps.size
  replace h13 := h13.mono hB.keeps.size
  refine ⟨_, rfl, ?_⟩
  replace h6 := h6.stp s16 (by decide)
  replace hB := hB.stp s16 (by decide)
  refine st_val (ex_assign rfl) (by decide) trivial ?_
  refine wpF_end (r := [(1, (.pointer (some ⟨b5, 0, none⟩))), (3, v10)]) ⟨rfl, rfl, trivial⟩ ?_
  refine nx ?_
  refine wpC_seq ?_
  refine wpC_seq ?_
  refine wpC_region ?_
  refine st_val (ex_loadA rfl Try.isAgg29 Try.sizeOf29 rfl h6.cells) (by decide) trivial ?_
  refine st_val (ex_field rfl Try.underlying29 rfl Try.sizeOf3) (by decide) trivial ?_
  refine st_val (ex_load1 rfl Try.isAgg3 (h6.cell rfl)) (by decide) trivial ?_
  obtain ⟨x19, hx19, hF⟩ := bind_some hF
  refine st_op (by decide) trivial ?_
  refine wf_call (cS_waPowers fuel w9 o18 14 (by decide) _ p0 (⟨_, rfl, (h2.keep hB.keeps)⟩) p0.Labels x19 hx19) Try.call98 ⟨rfl, rfl, trivial⟩ ?_
  rintro e26 w20 ⟨v21, o27, rfl, h22, k23, k24⟩
  have s25 := k23.stp' 14 k24
  replace h22 := h22.mono hB.keeps.size
  refine ⟨_, rfl, ?_⟩
  replace h11 := h11.stp s25 (by decide) (by decide)
  replace h13 := h13.stp s25 (by decide) (by decide)
  replace h6 := h6.stp s25 (by decide)
  replace hB := hB.stp s25 (by decide)
  refine st_val (ex_lenO rfl h22 Try.underlying107) (by decide) trivial ?_
  refine st_val (ex_move rfl) (by decide) trivial ?_
  refine wpF_end (r := [(3, v10), (16, v21), (17, (.int .i64 (x19.length : Int))), (18, (.int .i64 0))]) ⟨rfl, rfl, rfl, rfl, trivial⟩ ?_
  refine nx ?_
  obtain ⟨q35, hq35, hF⟩ := bind_some hF
  refine wpC_cutN (fun a w33 => ∃ (y28 : List (List Bool)) (g31 : List Hv) (o32 : Tg), q35 = .inl y28 ∧ Fr a 62 [(3, v10)] ∧ Bs oo o32 w w33 ∧ Ow w.heap.size 87 12 o32 w33 v10 g31 ∧ Rws w.heap.size 4 13 o32 w33 g31 y28) (fun _ _ => False) ?_ ?_ ?_
  · refine wpC_block ?_
    refine wpC_loop (fun (K : Nat) a w33 => ∃ (i34 : Int) (y28 : List (List Bool)) (g31 : List Hv) (o32 : Tg), forI (fS_waReach_s1) (x19.drop i34.toNat) i34 y28 = some q35 ∧ (x19.drop i34.toNat).length = K ∧ 0 ≤ i34 ∧ Fr a 62 [(3, v10), (16, v21), (17, (.int .i64 (x19.length : Int))), (18, (.int .i64 i34))] ∧ Bs oo o32 w w33 ∧ Ow w.heap.size 87 12 o32 w33 v10 g31 ∧ Rws w.heap.size 4 13 o32 w33 g31 y28 ∧ Ow w.heap.size 85 14 o32 w33 v21 x19) _ (fun a ha => ⟨0, x8, g12, o27, hq35, rfl, Int.le_refl 0, ha.sub (r := [(3, v10), (16, v21), (17, (.int .i64 (x19.length : Int))), (18, (.int .i64 0))]) ⟨rfl, rfl, rfl, rfl, trivial⟩, hB, h11, h13, h22⟩) ?_
    rintro K39 a w33 ⟨i34, y28, g31, o32, l36, m38, z37, ha, hB, h29, h30, h22⟩
    by_cases t43 : i34 < (x19.length : Int)
    · obtain ⟨x44, q40, hx44, b41, n42⟩ := forI_cons z37 t43 l36
      have hle := h22.len_le
      dsimp only [fS_waReach_s1] at b41
      refine wp_of ha ?_
      refine wpC_seq ?_
      refine wpC_region ?_
      refine st_val (ex_lss rfl rfl) (by decide) trivial ?_
      refine wpF_end (r := [(3, v10), (16, v21), (17, (.int .i64 (x19.length : Int))), (18, (.int .i64 i34)), (19, (.bool (decide (i34 < (x19.length : Int)))))]) ⟨rfl, rfl, rfl, rfl, rfl, trivial⟩ ?_
      refine nx ?_
      refine wpC_seq ?_
      refine wpC_true (congrArg (fun b => some (Value.bool b)) (decide_eq_true t43)) ?_
      refine wpC_skip ?_
      refine nx ?_
      refine wpC_seq ?_
      refine wpC_block ?_
      refine wpC_seq ?_
      refine wpC_region ?_
      refine st_val (ex_move rfl) (by decide) trivial ?_
      refine st_op (by decide) trivial ?_
      refine wf_atW h22 hx44 rfl rfl Try.underlying107 Try.sizeOf85 ?_
      intro b45 f46 c47 h48 h49
      obtain ⟨v50, rfl, h51⟩ := h49
      refine st_val (ex_load1 rfl Try.isAgg85 (cell_of_cells h48)) (by decide) trivial ?_
      refine st_val (ex_assign rfl) (by decide) trivial ?_
      refine st_val (ex_assign rfl) (by decide) trivial ?_
      refine wpF_end (r := [(3, v10), (4, (.int .i64 i34)), (5, v50), (16, v21), (17, (.int .i64 (x19.length : Int))), (18, (.int .i64 i34))]) ⟨rfl, rfl, rfl, rfl, rfl, rfl, trivial⟩ ?_
      refine nx ?_
      refine wpC_seq ?_
      refine wpC_region ?_
      refine st_val (ex_move rfl) (by decide) trivial ?_
      refine st_val (ex_lenR rfl h51 Try.underlying85) (by decide) trivial ?_
      refine st_val (ex_move rfl) (by decide) trivial ?_
      refine wpF_end (r := [(3, v10), (4, (.int .i64 i34)), (5, v50), (16, v21), (17, (.int .i64 (x19.length : Int))), (18, (.int .i64 i34)), (24, (.int .i64 (x44.length : Int))), (25, (.int .i64 0))]) ⟨rfl, rfl, rfl, rfl, rfl, rfl, rfl, rfl, trivial⟩ ?_
      refine nx ?_
      obtain ⟨u61, h60, b41⟩ := bind_some b41
      obtain ⟨-, h60a, h60b⟩ := ck_some h60
      obtain ⟨q59, hq59, b41⟩ := bind_some b41
      refine wpC_cutN (fun a w57 => ∃ (y52 : List (List Bool)) (g55 : List Hv) (o56 : Tg), q59 = .inl y52 ∧ Fr a 62 [(3, v10), (16, v21), (17, (.int .i64 (x19.length : Int))), (18, (.int .i64 i34))] ∧ Bs oo o56 w w57 ∧ Ow w.heap.size 87 12 o56 w57 v10 g55 ∧ Rws w.heap.size 4 13 o56 w57 g55 y52 ∧ Ow w.heap.size 85 14 o56 w57 v21 x19) (fun _ _ => False) ?_ ?_ ?_
      · refine wpC_block ?_
        refine wpC_loop (fun (K : Nat) a w57 => ∃ (i58 : Int) (y52 : List (List Bool)) (g55 : List Hv) (o56 : Tg), forN (fS_waReach_s2 i34 x44) ((x44.length : Int) - i58).toNat i58 y52 = some q59 ∧ ((x44.length : Int) - i58).toNat = K ∧ 0 ≤ i58 ∧ Fr a 62 [(3, v10), (4, (.int .i64 i34)), (5, v50), (16, v21), (17, (.int .i64 (x19.length : Int))), (18, (.int .i64 i34)), (24, (.int .i64 (x44.length : Int))), (25, (.int .i64 i58))] ∧ Bs oo o56 w w57 ∧ Ow w.heap.size 87 12 o56 w57 v10 g55 ∧ Rws w.heap.size 4 13 o56 w57 g55 y52 ∧ RdL o56 w57 v50 x44 ∧ Ow w.heap.size 85 14 o56 w57 v21 x19) _ (fun a ha => ⟨0, y28, g31, o32, (by rw [Int.sub_zero]; exact hq59), rfl, Int.le_refl 0, ha.sub (r := [(3, v10), (4, (.int .i64 i34)), (5, v50), (16, v21), (17, (.int .i64 (x19.length : Int))), (18, (.int .i64 i34)), (24, (.int .i64 (x44.length : Int))), (25, (.int .i64 0))]) ⟨rfl, rfl, rfl, rfl, rfl, rfl, rfl, rfl, trivial⟩, hB, h29, h30, h51, h22⟩) ?_
        rintro K65 a w57 ⟨i58, y52, g55, o56, l62, m64, z63, ha, hB, h53, h54, h51, h22⟩
        by_cases t69 : i58 < (x44.length : Int)
        · obtain ⟨q66, b67, n68⟩ := forN_cons t69 l62
          dsimp only [fS_waReach_s2] at b67
          refine wp_of ha ?_
          refine wpC_seq ?_
          refine wpC_region ?_
          refine st_val (ex_lss rfl rfl) (by decide) trivial ?_
          refine wpF_end (r := [(3, v10), (4, (.int .i64 i34)), (5, v50), (16, v21), (17, (.int .i64 (x19.length : Int))), (18, (.int .i64 i34)), (24, (.int .i64 (x44.length : Int))), (25, (.int .i64 i58)), (26, (.bool (decide (i58 < (x44.length : Int)))))]) ⟨rfl, rfl, rfl, rfl, rfl, rfl, rfl, rfl, rfl, trivial⟩ ?_
          refine nx ?_
          refine wpC_seq ?_
          refine wpC_true (congrArg (fun b => some (Value.bool b)) (decide_eq_true t69)) ?_
          refine wpC_skip ?_
          refine nx ?_
          refine wpC_seq ?_
          refine wpC_block ?_
          refine wpC_seq ?_
          refine wpC_region ?_
          refine st_val (ex_move rfl) (by decide) trivial ?_
          refine st_val (ex_assign rfl) (by decide) trivial ?_
          refine wpF_end (r := [(3, v10), (4, (.int .i64 i34)), (5, v50), (6, (.int .i64 i58)), (16, v21), (17, (.int .i64 (x19.length : Int))), (18, (.int .i64 i34)), (24, (.int .i64 (x44.length : Int))), (25, (.int .i64 i58))]) ⟨rfl, rfl, rfl, rfl, rfl, rfl, rfl, rfl, rfl, trivial⟩ ?_
          refine nx ?_
          refine wpC_seq ?_
          refine wpC_region ?_
          refine st_val (ex_move rfl) (by decide) trivial ?_
          refine st_val (ex_move rfl) (by decide) trivial ?_
          obtain ⟨x70, hx70, b67⟩ := bind_some b67
          refine st_op (by decide) trivial ?_
          refine wf_atO h51 hx70 rfl rfl Try.underlying85 Try.sizeOf87 ?_
          intro b71 f72 c73 h74 h75
          obtain ⟨v76, rfl, h77⟩ := h75
          refine st_val (ex_load1 rfl Try.isAgg87 (cell_of_cells h74)) (by decide) trivial ?_
          refine st_val (ex_lenR rfl h77 Try.underlying87) (by decide) trivial ?_
          refine st_val (ex_move rfl) (by decide) trivial ?_
          refine wpF_end (r := [(3, v10), (4, (.int .i64 i34)), (5, v50), (6, (.int .i64 i58)), (16, v21), (17, (.int .i64 (x19.length : Int))), (18, (.int .i64 i34)), (24, (.int .i64 (x44.length : Int))), (25, (.int .i64 i58)), (31, v76), (32, (.int .i64 (x70.length : Int))), (33, (.int .i64 0))]) ⟨rfl, rfl, rfl, rfl, rfl, rfl, rfl, rfl, rfl, rfl, rfl, rfl, trivial⟩ ?_
          refine nx ?_
          obtain ⟨q85, hq85, b67⟩ := bind_some b67
          refine wpC_cutN (fun a w83 => ∃ (y78 : List (List Bool)) (g81 : List Hv) (o82 : Tg), q85 = .inl y78 ∧ Fr a 62 [(3, v10), (4, (.int .i64 i34)), (5, v50), (16, v21), (17, (.int .i64 (x19.length : Int))), (18, (.int .i64 i34)), (24, (.int .i64 (x44.length : Int))), (25, (.int .i64 i58))] ∧ Bs oo o82 w w83 ∧ Ow w.heap.size 87 12 o82 w83 v10 g81 ∧ Rws w.heap.size 4 13 o82 w83 g81 y78 ∧ RdL o82 w83 v50 x44 ∧ Ow w.heap.size 85 14 o82 w83 v21 x19) (fun _ _ => False) ?_ ?_ ?_
          · refine wpC_block ?_
            refine wpC_loop (fun (K : Nat) a w83 => ∃ (i84 : Int) (y78 : List (List Bool)) (g81 : List Hv) (o82 : Tg), forI (fS_waReach_s3 i34 i58) (x70.drop i84.toNat) i84 y78 = some q85 ∧ (x70.drop i84.toNat).length = K ∧ 0 ≤ i84 ∧ Fr a 62 [(3, v10), (4, (.int .i64 i34)), (5, v50), (6, (.int .i64 i58)), (16, v21), (17, (.int .i64 (x19.length : Int))), (18, (.int .i64 i34)), (24, (.int .i64 (x44.length : Int))), (25, (.int .i64 i58)), (31, v76), (32, (.int .i64 (x70.length : Int))), (33, (.int .i64 i84))] ∧ Bs oo o82 w w83 ∧ Ow w.heap.size 87 12 o82 w83 v10 g81 ∧ Rws w.heap.size 4 13 o82 w83 g81 y78 ∧ RdL o82 w83 v50 x44 ∧ Ow w.heap.size 85 14 o82 w83 v21 x19 ∧ RdL o82 w83 v76 x70) _ (fun a ha => ⟨0, y52, g55, o56, hq85, rfl, Int.le_refl 0, ha.sub (r := [(3, v10), (4, (.int .i64 i34)), (5, v50), (6, (.int .i64 i58)), (16, v21), (17, (.int .i64 (x19.length : Int))), (18, (.int .i64 i34)), (24, (.int .i64 (x44.length : Int))), (25, (.int .i64 i58)), (31, v76), (32, (.int .i64 (x70.length : Int))), (33, (.int .i64 0))]) ⟨rfl, rfl, rfl, rfl, rfl, rfl, rfl, rfl, rfl, rfl, rfl, rfl, trivial⟩, hB, h53, h54, h51, h22, h77⟩) ?_
            rintro K89 a w83 ⟨i84, y78, g81, o82, l86, m88, z87, ha, hB, h79, h80, h51, h22, h77⟩
            by_cases t93 : i84 < (x70.length : Int)
            · obtain ⟨x94, q90, hx94, b91, n92⟩ := forI_cons z87 t93 l86
              have hle := h77.len_le
              dsimp only [fS_waReach_s3] at b91
              refine wp_of ha ?_
              refine wpC_seq ?_
              refine wpC_region ?_
              refine st_val (ex_lss rfl rfl) (by decide) trivial ?_
              refine wpF_end (r := [(3, v10), (4, (.int .i64 i34)), (5, v50), (6, (.int .i64 i58)), (16, v21), (17, (.int .i64 (x19.length : Int))), (18, (.int .i64 i34)), (24, (.int .i64 (x44.length : Int))), (25, (.int .i64 i58)), (31, v76), (32, (.int .i64 (x70.length : Int))), (33, (.int .i64 i84)), (34, (.bool (decide (i84 < (x70.length : Int)))))]) ⟨rfl, rfl, rfl, rfl, rfl, rfl, rfl, rfl, rfl, rfl, rfl, rfl, rfl, trivial⟩ ?_
              refine nx ?_
              refine wpC_seq ?_
              refine wpC_true (congrArg (fun b => some (Value.bool b)) (decide_eq_true t93)) ?_
              refine wpC_skip ?_
              refine nx ?_
              refine wpC_seq ?_
              refine wpC_block ?_
              refine wpC_seq ?_
              refine wpC_region ?_
              refine st_val (ex_move rfl) (by decide) trivial ?_
              refine st_op (by decide) trivial ?_
              refine wf_atO h77 hx94 rfl rfl Try.underlying87 Try.sizeOf4 ?_
              intro b95 f96 c97 h98 h99
              cases h99
              refine st_val (ex_load1 rfl Try.isAgg4 (cell_of_cells h98)) (by decide) trivial ?_
              refine st_val (ex_assign rfl) (by decide) trivial ?_
              refine st_val (ex_assign rfl) (by decide) trivial ?_
              refine wpF_end (r := [(3, v10), (4, (.int .i64 i34)), (5, v50), (6, (.int .i64 i58)), (7, (.int .i64 i84)), (8, (.bool x94)), (16, v21), (17, (.int .i64 (x19.length : Int))), (18, (.int .i64 i34)), (24, (.int .i64 (x44.length : Int))), (25, (.int .i64 i58)), (31, v76), (32, (.int .i64 (x70.length : Int))), (33, (.int .i64 i84))]) ⟨rfl, rfl, rfl, rfl, rfl, rfl, rfl, rfl, rfl, rfl, rfl, rfl, rfl, rfl, trivial⟩ ?_
              refine nx ?_
              obtain ⟨q100, hq100, b91⟩ := bind_some b91
              refine wpC_cutN (fun a103 w102 => ∃ o101 : Tg, Fr a103 62 [(3, v10), (4, (.int .i64 i34)), (5, v50), (6, (.int .i64 i58)), (16, v21), (17, (.int .i64 (x19.length : Int))), (18, (.int .i64 i34)), (24, (.int .i64 (x44.length : Int))), (25, (.int .i64 i58)), (31, v76), (32, (.int .i64 (x70.length : Int))), (33, (.int .i64 i84))] ∧ Bs oo o101 w w102 ∧ Ow w.heap.size 87 12 o101 w102 v10 g81 ∧ Rws w.heap.size 4 13 o101 w102 g81 q100 ∧ RdL o101 w102 v50 x44 ∧ Ow w.heap.size 85 14 o101 w102 v21 x19 ∧ RdL o101 w102 v76 x70) (fun _ _ => False) ?_ ?_ (fun _ _ h => h.elim)
              · obtain ⟨x104, hx104, hq100⟩ := bind_some hq100
                obtain ⟨v105, h106, h107, h108⟩ := h80.ix hx104
                obtain ⟨x112, hx112, hq100⟩ := bind_some hq100
                obtain ⟨v113, h114, h115, h116⟩ := h80.ix hx112
                obtain ⟨x120, hx120, hq100⟩ := bind_some hq100
                rcases Bool.eq_false_or_eq_true (x120) with t123 | t123
                · rw [if_pos t123] at hq100
                  refine wpC_drawn (o := o82) [(3, v10), (4, (.int .i64 i34)), (5, v50), (6, (.int .i64 i58)), (7, (.int .i64 i84)), (8, (.bool x94)), (16, v21), (17, (.int .i64 (x19.length : Int))), (18, (.int .i64 i34)), (24, (.int .i64 (x44.length : Int))), (25, (.int .i64 i58)), (31, v76), (32, (.int .i64 (x70.length : Int))), (33, (.int .i64 i84))] [3, 4, 5, 6, 7, 8, 16, 17, 18, 24, 25, 31, 32, 33] [38, 39, 40, 41, 42, 43, 44, 45, 46, 47, 48, 49, 50, 51, 52, 53, 54, 55, 56] [[], [], [0, 1], [2], [], [], [], [5, 6], [7], [], [8, 9], [10], [11], [12], [12], [14], [14], [12], [12, 17]] [none, none, none, none, none, none, none, none, none, none, none, none, none, none, none, none, none, none, none] [999, 999, 999, 999, 999, 999, 999, 999, 999, 999, 999, 999, 999, 999, 999, 999, 999, 999, 999] [0, 0, 0, 0, 0, 0, 0, 0, 0, 0, 13, 0, 0, 0, 0, 0, 0, 0, 0] [999] [fun v _ _ => v = v10, fun v _ _ => v = (.int .i64 i58), fun v _ _ => v = adr v10 (i58.toNat * Rp.sz Hv), fun v _ _ => v = v105, fun v _ _ => v = (.int .i64 i84), fun v _ _ => v = v10, fun v _ _ => v = (.int .i64 i58), fun v _ _ => v = adr v10 (i58.toNat * Rp.sz Hv), fun v _ _ => v = v113, fun v _ _ => v = (.int .i64 i84), fun v o w9 => ∃ vl, v = adr vl (i84.toNat * Rp.sz Bool) ∧ Ow w.heap.size 4 13 o w9 vl x112, fun v _ _ => v = (.bool x120), fun v _ _ => v = (.bool x120), fun v _ _ => v = undef, fun v _ _ => v = undef, fun v _ _ => v = undef, fun v _ _ => v = undef, fun v _ _ => v = undef, fun v _ _ => v = (.bool true)] (fun o8 w8 => Bs oo o8 w w8 ∧ Ow w.heap.size 87 12 o8 w8 v10 g81 ∧ Rws w.heap.size 4 13 o8 w8 g81 y78 ∧ RdL o8 w8 v50 x44 ∧ Ow w.heap.size 85 14 o8 w8 v21 x19 ∧ RdL o8 w8 v76 x70) follows_mixed (by kernel_rfl) rfl ⟨rfl, rfl, rfl, rfl, rfl, rfl, rfl, rfl, rfl, rfl, rfl, rfl, rfl, rfl, trivial⟩ ⟨hB, h79, h80, h51, h22, h77⟩ ?_ ⟨st_eq _, st_eq _, st_eq _, st_eq _, st_eq _, st_eq _, st_eq _, st_eq _, st_eq _, st_eq _, fun _ _ _ _ _ _ h0 hb ⟨vl, e, h⟩ hs => ⟨vl, e, h.stp hs h0.1 (Ne.symm hb)⟩, st_eq _, st_eq _, st_eq _, st_eq _, st_eq _, st_eq _, st_eq _, st_eq _, trivial⟩ ?_ ?_
                  · rintro t9 o1 w1 o2 w2 ht9 ⟨hB, h79, h80, h51, h22, h77⟩ hs9
                    have ht9 : t9 = 999 := by simpa using ht9
                    subst ht9
                    all_goals exact ⟨hB.stp hs9 (by decide), h79.stp hs9 (by decide) (by decide), h80.stp hs9 (by decide) (by decide), h51.stp hs9 (by decide), h22.stp hs9 (by decide) (by decide), h77.stp hs9 (by decide)⟩
                  · refine ⟨?_, ?_, ?_, ?_, ?_, ?_, ?_, ?_, ?_, ?_, ?_, ?_, ?_, ?_, ?_, ?_, ?_, ?_, ?_, trivial⟩
                    · rintro o124 w125 a126 ha ⟨hB, h79, h80, h51, h22, h77⟩ -
                      refine opS_of ha (trivial) ?_
                      refine op1_val (ex_move rfl) ?_
                      exact ⟨_, Stp.refl _ _ _, rfl⟩
                    · rintro o127 w128 a129 ha ⟨hB, h79, h80, h51, h22, h77⟩ -
                      refine opS_of ha (trivial) ?_
                      refine op1_val (ex_move rfl) ?_
                      exact ⟨_, Stp.refl _ _ _, rfl⟩
                    · rintro o130 w131 a132 ha ⟨hB, h79, h80, h51, h22, h77⟩ ⟨r133, r134, -⟩
                      have ha := Fr.cons (d := 38) ha r133
                      have ha := Fr.cons (d := 39) ha r134
                      refine opS_of ha (trivial) ?_
                      refine wd_indexW h79 h106 rfl rfl Try.underlying85 Try.sizeOf87 ?_
                      exact ⟨_, Stp.refl _ _ _, rfl⟩
                    · rintro o135 w136 a137 ha ⟨hB, h79, h80, h51, h22, h77⟩ ⟨r138, -⟩
                      have ha := Fr.cons (d := 40) ha r138
                      refine opS_of ha (trivial) ?_
                      refine wd_load1W h79 h106 rfl rfl Try.isAgg87 ?_
                      intro c139 h140
                      obtain ⟨e141, -⟩ := h140
                      cases e141
                      exact ⟨_, Stp.refl _ _ _, rfl⟩
                    · rintro o142 w143 a144 ha ⟨hB, h79, h80, h51, h22, h77⟩ -
                      refine opS_of ha (trivial) ?_
                      refine op1_val (ex_move rfl) ?_
                      exact ⟨_, Stp.refl _ _ _, rfl⟩
                    · rintro o145 w146 a147 ha ⟨hB, h79, h80, h51, h22, h77⟩ -
                      refine opS_of ha (trivial) ?_
                      refine op1_val (ex_move rfl) ?_
                      exact ⟨_, Stp.refl _ _ _, rfl⟩
                    · rintro o148 w149 a150 ha ⟨hB, h79, h80, h51, h22, h77⟩ -
                      refine opS_of ha (trivial) ?_
                      refine op1_val (ex_move rfl) ?_
                      exact ⟨_, Stp.refl _ _ _, rfl⟩
                    · rintro o151 w152 a153 ha ⟨hB, h79, h80, h51, h22, h77⟩ ⟨r154, r155, -⟩
                      have ha := Fr.cons (d := 43) ha r154
                      have ha := Fr.cons (d := 44) ha r155
                      refine opS_of ha (trivial) ?_
                      refine wd_indexW h79 h114 rfl rfl Try.underlying85 Try.sizeOf87 ?_
                      exact ⟨_, Stp.refl _ _ _, rfl⟩
                    · rintro o156 w157 a158 ha ⟨hB, h79, h80, h51, h22, h77⟩ ⟨r159, -⟩
                      have ha := Fr.cons (d := 45) ha r159
                      refine opS_of ha (trivial) ?_
                      refine wd_load1W h79 h114 rfl rfl Try.isAgg87 ?_
                      intro c160 h161
                      obtain ⟨e162, -⟩ := h161
                      cases e162
                      exact ⟨_, Stp.refl _ _ _, rfl⟩
                    · rintro o163 w164 a165 ha ⟨hB, h79, h80, h51, h22, h77⟩ -
                      refine opS_of ha (trivial) ?_
                      refine op1_val (ex_move rfl) ?_
                      exact ⟨_, Stp.refl _ _ _, rfl⟩
                    · rintro o166 w167 a168 ha ⟨hB, h79, h80, h51, h22, h77⟩ ⟨r169, r170, -⟩
                      have ha := Fr.cons (d := 46) ha r169
                      have ha := Fr.cons (d := 47) ha r170
                      refine opS_of ha (trivial) ?_
                      refine wd_indexW (h80.at h115 h116) hx120 rfl rfl Try.underlying87 Try.sizeOf4 ?_
                      exact ⟨_, Stp.refl _ _ _, ⟨_, rfl, (h80.at h115 h116)⟩⟩
                    · rintro o171 w172 a173 ha ⟨hB, h79, h80, h51, h22, h77⟩ ⟨r174, -⟩
                      obtain ⟨v175, e176, h177⟩ := r174
                      have ha := Fr.cons (d := 48) ha e176
                      refine opS_of ha (trivial) ?_
                      refine wd_load1W h177 hx120 rfl rfl Try.isAgg4 ?_
                      intro c178 h179
                      cases h179
                      exact ⟨_, Stp.refl _ _ _, rfl⟩
                    · rintro o180 w181 a182 ha ⟨hB, h79, h80, h51, h22, h77⟩ ⟨r183, -⟩
                      have ha := Fr.cons (d := 49) ha r183
                      refine opS_of ha (trivial) ?_
                      refine op1_val (ex_move rfl) ?_
                      exact ⟨_, Stp.refl _ _ _, rfl⟩
                    · rintro o184 w185 a186 ha ⟨hB, h79, h80, h51, h22, h77⟩ ⟨r187, -⟩
                      have ha := Fr.cons (d := 50) ha r187
                      exact opS_no ha rfl rfl rfl (by rw [t123]; rfl) ⟨_, Stp.refl _ _ _, rfl⟩
                    · rintro o188 w189 a190 ha ⟨hB, h79, h80, h51, h22, h77⟩ ⟨r191, -⟩
                      have ha := Fr.cons (d := 50) ha r191
                      exact opS_no ha rfl rfl rfl (by rw [t123]; rfl) ⟨_, Stp.refl _ _ _, rfl⟩
                    · rintro o192 w193 a194 ha ⟨hB, h79, h80, h51, h22, h77⟩ ⟨r195, -⟩
                      have ha := Fr.cons (d := 52) ha r195
                      exact opS_no2 ha rfl rfl rfl ⟨_, Stp.refl _ _ _, rfl⟩
                    · rintro o196 w197 a198 ha ⟨hB, h79, h80, h51, h22, h77⟩ ⟨r199, -⟩
                      have ha := Fr.cons (d := 52) ha r199
                      exact opS_no2 ha rfl rfl rfl ⟨_, Stp.refl _ _ _, rfl⟩
                    · rintro o200 w201 a202 ha ⟨hB, h79, h80, h51, h22, h77⟩ ⟨r203, -⟩
                      have ha := Fr.cons (d := 50) ha r203
                      exact opS_no ha rfl rfl rfl (by rw [t123]; rfl) ⟨_, Stp.refl _ _ _, rfl⟩
                    · rintro o204 w205 a206 ha ⟨hB, h79, h80, h51, h22, h77⟩ ⟨r207, r208, -⟩
                      have ha := Fr.cons (d := 50) ha r207
                      have ha := Fr.cons (d := 55) ha r208
                      refine opS_of ha (trivial) ?_
                      refine op1_val (ex_pick_t (congrArg (fun b => some (Value.bool b)) t123) rfl) ?_
                      exact ⟨_, Stp.refl _ _ _, rfl⟩
                  rintro o209 w210 a211 ha ⟨hB, h79, h80, h51, h22, h77⟩ ⟨-, -, -, r212, r213, -, -, -, -, -, -, -, -, -, -, -, -, -, r214, -⟩
                  have ha := Fr.cons (d := 41) ha r212
                  have ha := Fr.cons (d := 42) ha r213
                  have ha := Fr.cons (d := 56) ha r214
                  refine wl_of ha ?_
                  simp only [List.length_cons, List.length_nil, Nat.zero_add, Nat.reduceAdd, List.drop_succ_cons, List.drop_zero]
                  obtain ⟨x215, hx215, hq100⟩ := bind_some hq100
                  refine st_op (by decide) trivial ?_
                  refine wf_atP (h80.at h107 h108) hx215 rfl rfl Try.underlying87 Try.sizeOf4 ?_
                  intro b216 c218 h221 h219 h220
                  cases h220
                  obtain ⟨x224, hx224, hq100⟩ := bind_some hq100
                  obtain ⟨h225, h226, r227⟩ := h80.take h107 h108 (by decide) 15
                  replace h79 := h79.rc r227 (by decide) (by decide)
                  replace h51 := h51.rc r227 (by decide)
                  replace h22 := h22.rc r227 (by decide) (by decide)
                  replace h77 := h77.rc r227 (by decide)
                  replace hB := hB.rc r227 (by decide)
                  generalize one v105 15 o209 = o228 at *
                  refine st_op0 trivial ?_
                  refine wf_storeW h225 h221 hx224 rfl (by decide) rfl rfl rfl Try.sizeOf4 rfl ?_
                  intro w222 h229 s223
                  replace h226 := h226.stp s223 (by decide) (by decide)
                  replace h79 := h79.stp s223 (by decide) (by decide)
                  replace h51 := h51.stp s223 (by decide)
                  replace h22 := h22.stp s223 (by decide) (by decide)
                  replace h77 := h77.stp s223 (by decide)
                  replace hB := hB.stp s223 (by decide)
                  have h230 := h226.back h107 h229 (by decide) (by decide)
                  have r231 := mrg_rc 15 13 o228
                  clear h80 h226 h229
                  replace h79 := h79.rc r231 (by decide) (by decide)
                  replace h51 := h51.rc r231 (by decide)
                  replace h22 := h22.rc r231 (by decide) (by decide)
                  replace h77 := h77.rc r231 (by decide)
                  replace hB := hB.rc r231 (by decide)
                  generalize mrg 15 13 o228 = o232 at *
                  have e233 := Option.some.inj hq100
                  subst e233
                  refine wpF_end (r := [(3, v10), (4, (.int .i64 i34)), (5, v50), (6, (.int .i64 i58)), (16, v21), (17, (.int .i64 (x19.length : Int))), (18, (.int .i64 i34)), (24, (.int .i64 (x44.length : Int))), (25, (.int .i64 i58)), (31, v76), (32, (.int .i64 (x70.length : Int))), (33, (.int .i64 i84))]) ⟨rfl, rfl, rfl, rfl, rfl, rfl, rfl, rfl, rfl, rfl, rfl, rfl, trivial⟩ ?_
                  refine np_norm (fun a ha => ⟨o232, ha, hB, h79, h230, h51, h22, h77⟩)
                · rw [if_neg (by rw [t123]; decide)] at hq100
                  rcases Bool.eq_false_or_eq_true (x94) with t234 | t234
                  · rw [if_pos t234] at hq100
                    refine wpC_drawn (o := o82) [(3, v10), (4, (.int .i64 i34)), (5, v50), (6, (.int .i64 i58)), (7, (.int .i64 i84)), (8, (.bool x94)), (16, v21), (17, (.int .i64 (x19.length : Int))), (18, (.int .i64 i34)), (24, (.int .i64 (x44.length : Int))), (25, (.int .i64 i58)), (31, v76), (32, (.int .i64 (x70.length : Int))), (33, (.int .i64 i84))] [3, 4, 5, 6, 7, 8, 16, 17, 18, 24, 25, 31, 32, 33] [38, 39, 40, 41, 42, 43, 44, 45, 46, 47, 48, 49, 50, 51, 52, 53, 54, 55, 56] [[], [], [0, 1], [2], [], [], [], [5, 6], [7], [], [8, 9], [10], [11], [12], [12, 13], [14], [14, 15], [12, 14, 16], [12, 17]] [none, none, none, none, none, none, none, none, none, none, none, none, none, none, none, none, none, none, none] [999, 999, 999, 999, 999, 999, 999, 999, 999, 999, 999, 999, 999, 999, 999, 999, 999, 999, 999] [0, 0, 0, 0, 0, 0, 0, 0, 0, 0, 13, 0, 0, 0, 0, 0, 0, 0, 0] [999] [fun v _ _ => v = v10, fun v _ _ => v = (.int .i64 i58), fun v _ _ => v = adr v10 (i58.toNat * Rp.sz Hv), fun v _ _ => v = v105, fun v _ _ => v = (.int .i64 i84), fun v _ _ => v = v10, fun v _ _ => v = (.int .i64 i58), fun v _ _ => v = adr v10 (i58.toNat * Rp.sz Hv), fun v _ _ => v = v113, fun v _ _ => v = (.int .i64 i84), fun v o w9 => ∃ vl, v = adr vl (i84.toNat * Rp.sz Bool) ∧ Ow w.heap.size 4 13 o w9 vl x112, fun v _ _ => v = (.bool x120), fun v _ _ => v = (.bool x120), fun v _ _ => v = (.bool x94), fun v _ _ => v = (.bool x94), fun v _ _ => v = (.int .i64 i34), fun v _ _ => v = (.bool (decide (i34 > 0))), fun v _ _ => v = (.bool (decide (i34 > 0))), fun v _ _ => v = (.bool (decide (i34 > 0)))] (fun o8 w8 => Bs oo o8 w w8 ∧ Ow w.heap.size 87 12 o8 w8 v10 g81 ∧ Rws w.heap.size 4 13 o8 w8 g81 y78 ∧ RdL o8 w8 v50 x44 ∧ Ow w.heap.size 85 14 o8 w8 v21 x19 ∧ RdL o8 w8 v76 x70) follows_mixed (by kernel_rfl) rfl ⟨rfl, rfl, rfl, rfl, rfl, rfl, rfl, rfl, rfl, rfl, rfl, rfl, rfl, rfl, trivial⟩ ⟨hB, h79, h80, h51, h22, h77⟩ ?_ ⟨st_eq _, st_eq _, st_eq _, st_eq _, st_eq _, st_eq _, st_eq _, st_eq _, st_eq _, st_eq _, fun _ _ _ _ _ _ h0 hb ⟨vl, e, h⟩ hs => ⟨vl, e, h.stp hs h0.1 (Ne.symm hb)⟩, st_eq _, st_eq _, st_eq _, st_eq _, st_eq _, st_eq _, st_eq _, st_eq _, trivial⟩ ?_ ?_
                    · rintro t9 o1 w1 o2 w2 ht9 ⟨hB, h79, h80, h51, h22, h77⟩ hs9
                      have ht9 : t9 = 999 := by simpa using ht9
                      subst ht9
                      all_goals exact ⟨hB.stp hs9 (by decide), h79.stp hs9 (by decide) (by decide), h80.stp hs9 (by decide) (by decide), h51.stp hs9 (by decide), h22.stp hs9 (by decide) (by decide), h77.stp hs9 (by decide)⟩
                    · refine ⟨?_, ?_, ?_, ?_, ?_, ?_, ?_, ?_, ?_, ?_, ?_, ?_, ?_, ?_, ?_, ?_, ?_, ?_, ?_, trivial⟩
                      · rintro o235 w236 a237 ha ⟨hB, h79, h80, h51, h22, h77⟩ -
                        refine opS_of ha (trivial) ?_
                        refine op1_val (ex_move rfl) ?_
                        exact ⟨_, Stp.refl _ _ _, rfl⟩
                      · rintro o238 w239 a240 ha ⟨hB, h79, h80, h51, h22, h77⟩ -
                        refine opS_of ha (trivial) ?_
                        refine op1_val (ex_move rfl) ?_
                        exact ⟨_, Stp.refl _ _ _, rfl⟩
                      · rintro o241 w242 a243 ha ⟨hB, h79, h80, h51, h22, h77⟩ ⟨r244, r245, -⟩
                        have ha := Fr.cons (d := 38) ha r244
                        have ha := Fr.cons (d := 39) ha r245
                        refine opS_of ha (trivial) ?_
                        refine wd_indexW h79 h106 rfl rfl Try.underlying85 Try.sizeOf87 ?_
                        exact ⟨_, Stp.refl _ _ _, rfl⟩
                      · rintro o246 w247 a248 ha ⟨hB, h79, h80, h51, h22, h77⟩ ⟨r249, -⟩
                        have ha := Fr.cons (d := 40) ha r249
                        refine opS_of ha (trivial) ?_
                        refine wd_load1W h79 h106 rfl rfl Try.isAgg87 ?_
                        intro c250 h251
                        obtain ⟨e252, -⟩ := h251
                        cases e252
                        exact ⟨_, Stp.refl _ _ _, rfl⟩
                      · rintro o253 w254 a255 ha ⟨hB, h79, h80, h51, h22, h77⟩ -
                        refine opS_of ha (trivial) ?_
                        refine op1_val (ex_move rfl) ?_
                        exact ⟨_, Stp.refl _ _ _, rfl⟩
                      · rintro o256 w257 a258 ha ⟨hB, h79, h80, h51, h22, h77⟩ -
                        refine opS_of ha (trivial) ?_
                        refine op1_val (ex_move rfl) ?_
                        exact ⟨_, Stp.refl _ _ _, rfl⟩
                      · rintro o259 w260 a261 ha ⟨hB, h79, h80, h51, h22, h77⟩ -
                        refine opS_of ha (trivial) ?_
                        refine op1_val (ex_move rfl) ?_
                        exact ⟨_, Stp.refl _ _ _, rfl⟩
                      · rintro o262 w263 a264 ha ⟨hB, h79, h80, h51, h22, h77⟩ ⟨r265, r266, -⟩
                        have ha := Fr.cons (d := 43) ha r265
                        have ha := Fr.cons (d := 44) ha r266
                        refine opS_of ha (trivial) ?_
                        refine wd_indexW h79 h114 rfl rfl Try.underlying85 Try.sizeOf87 ?_
                        exact ⟨_, Stp.refl _ _ _, rfl⟩
                      · rintro o267 w268 a269 ha ⟨hB, h79, h80, h51, h22, h77⟩ ⟨r270, -⟩
                        have ha := Fr.cons (d := 45) ha r270
                        refine opS_of ha (trivial) ?_
                        refine wd_load1W h79 h114 rfl rfl Try.isAgg87 ?_
                        intro c271 h272
                        obtain ⟨e273, -⟩ := h272
                        cases e273
                        exact ⟨_, Stp.refl _ _ _, rfl⟩
                      · rintro o274 w275 a276 ha ⟨hB, h79, h80, h51, h22, h77⟩ -
                        refine opS_of ha (trivial) ?_
                        refine op1_val (ex_move rfl) ?_
                        exact ⟨_, Stp.refl _ _ _, rfl⟩
                      · rintro o277 w278 a279 ha ⟨hB, h79, h80, h51, h22, h77⟩ ⟨r280, r281, -⟩
                        have ha := Fr.cons (d := 46) ha r280
                        have ha := Fr.cons (d := 47) ha r281
                        refine opS_of ha (trivial) ?_
                        refine wd_indexW (h80.at h115 h116) hx120 rfl rfl Try.underlying87 Try.sizeOf4 ?_
                        exact ⟨_, Stp.refl _ _ _, ⟨_, rfl, (h80.at h115 h116)⟩⟩
                      · rintro o282 w283 a284 ha ⟨hB, h79, h80, h51, h22, h77⟩ ⟨r285, -⟩
                        obtain ⟨v286, e287, h288⟩ := r285
                        have ha := Fr.cons (d := 48) ha e287
                        refine opS_of ha (trivial) ?_
                        refine wd_load1W h288 hx120 rfl rfl Try.isAgg4 ?_
                        intro c289 h290
                        cases h290
                        exact ⟨_, Stp.refl _ _ _, rfl⟩
                      · rintro o291 w292 a293 ha ⟨hB, h79, h80, h51, h22, h77⟩ ⟨r294, -⟩
                        have ha := Fr.cons (d := 49) ha r294
                        refine opS_of ha (trivial) ?_
                        refine op1_val (ex_move rfl) ?_
                        exact ⟨_, Stp.refl _ _ _, rfl⟩
                      · rintro o295 w296 a297 ha ⟨hB, h79, h80, h51, h22, h77⟩ ⟨r298, -⟩
                        have ha := Fr.cons (d := 50) ha r298
                        refine opS_of ha (⟨_, rfl, (congrArg (fun b => some (Value.bool b)) t123)⟩) ?_
                        refine op1_val (ex_move rfl) ?_
                        exact ⟨_, Stp.refl _ _ _, rfl⟩
                      · rintro o299 w300 a301 ha ⟨hB, h79, h80, h51, h22, h77⟩ ⟨r302, r303, -⟩
                        have ha := Fr.cons (d := 50) ha r302
                        have ha := Fr.cons (d := 51) ha r303
                        refine opS_of ha (⟨_, rfl, (congrArg (fun b => some (Value.bool b)) t123)⟩) ?_
                        refine op1_val (ex_move rfl) ?_
                        exact ⟨_, Stp.refl _ _ _, rfl⟩
                      · rintro o304 w305 a306 ha ⟨hB, h79, h80, h51, h22, h77⟩ ⟨r307, -⟩
                        have ha := Fr.cons (d := 52) ha r307
                        refine opS_of ha (⟨_, rfl, (congrArg (fun b => some (Value.bool b)) t234)⟩) ?_
                        refine op1_val (ex_move rfl) ?_
                        exact ⟨_, Stp.refl _ _ _, rfl⟩
                      · rintro o308 w309 a310 ha ⟨hB, h79, h80, h51, h22, h77⟩ ⟨r311, r312, -⟩
                        have ha := Fr.cons (d := 52) ha r311
                        have ha := Fr.cons (d := 53) ha r312
                        refine opS_of ha (⟨_, rfl, (congrArg (fun b => some (Value.bool b)) t234)⟩) ?_
                        refine op1_val (ex_gtr rfl rfl) ?_
                        exact ⟨_, Stp.refl _ _ _, rfl⟩
                      · rintro o313 w314 a315 ha ⟨hB, h79, h80, h51, h22, h77⟩ ⟨r316, r317, r318, -⟩
                        have ha := Fr.cons (d := 50) ha r316
                        have ha := Fr.cons (d := 52) ha r317
                        have ha := Fr.cons (d := 54) ha r318
                        refine opS_of ha (⟨_, rfl, (congrArg (fun b => some (Value.bool b)) t123)⟩) ?_
                        refine op1_val (ex_pick_t (congrArg (fun b => some (Value.bool b)) t234) rfl) ?_
                        exact ⟨_, Stp.refl _ _ _, rfl⟩
                      · rintro o319 w320 a321 ha ⟨hB, h79, h80, h51, h22, h77⟩ ⟨r322, r323, -⟩
                        have ha := Fr.cons (d := 50) ha r322
                        have ha := Fr.cons (d := 55) ha r323
                        refine opS_of ha (trivial) ?_
                        refine op1_val (ex_pick_f (congrArg (fun b => some (Value.bool b)) t123) rfl) ?_
                        exact ⟨_, Stp.refl _ _ _, rfl⟩
                    rintro o324 w325 a326 ha ⟨hB, h79, h80, h51, h22, h77⟩ ⟨-, -, -, r327, r328, -, -, -, -, -, -, -, -, -, -, -, -, -, r329, -⟩
                    have ha := Fr.cons (d := 41) ha r327
                    have ha := Fr.cons (d := 42) ha r328
                    have ha := Fr.cons (d := 56) ha r329
                    refine wl_of ha ?_
                    simp only [List.length_cons, List.length_nil, Nat.zero_add, Nat.reduceAdd, List.drop_succ_cons, List.drop_zero]
                    obtain ⟨x330, hx330, hq100⟩ := bind_some hq100
                    refine st_op (by decide) trivial ?_
                    refine wf_atP (h80.at h107 h108) hx330 rfl rfl Try.underlying87 Try.sizeOf4 ?_
                    intro b331 c333 h336 h334 h335
                    cases h335
                    obtain ⟨x339, hx339, hq100⟩ := bind_some hq100
                    obtain ⟨h340, h341, r342⟩ := h80.take h107 h108 (by decide) 16
                    replace h79 := h79.rc r342 (by decide) (by decide)
                    replace h51 := h51.rc r342 (by decide)
                    replace h22 := h22.rc r342 (by decide) (by decide)
                    replace h77 := h77.rc r342 (by decide)
                    replace hB := hB.rc r342 (by decide)
                    generalize one v105 16 o324 = o343 at *
                    refine st_op0 trivial ?_
                    refine wf_storeW h340 h336 hx339 rfl (by decide) rfl rfl rfl Try.sizeOf4 rfl ?_
                    intro w337 h344 s338
                    replace h341 := h341.stp s338 (by decide) (by decide)
                    replace h79 := h79.stp s338 (by decide) (by decide)
                    replace h51 := h51.stp s338 (by decide)
                    replace h22 := h22.stp s338 (by decide) (by decide)
                    replace h77 := h77.stp s338 (by decide)
                    replace hB := hB.stp s338 (by decide)
                    have h345 := h341.back h107 h344 (by decide) (by decide)
                    have r346 := mrg_rc 16 13 o343
                    clear h80 h341 h344
                    replace h79 := h79.rc r346 (by decide) (by decide)
                    replace h51 := h51.rc r346 (by decide)
                    replace h22 := h22.rc r346 (by decide) (by decide)
                    replace h77 := h77.rc r346 (by decide)
                    replace hB := hB.rc r346 (by decide)
                    generalize mrg 16 13 o343 = o347 at *
                    have e348 := Option.some.inj hq100
                    subst e348
                    refine wpF_end (r := [(3, v10), (4, (.int .i64 i34)), (5, v50), (6, (.int .i64 i58)), (16, v21), (17, (.int .i64 (x19.length : Int))), (18, (.int .i64 i34)), (24, (.int .i64 (x44.length : Int))), (25, (.int .i64 i58)), (31, v76), (32, (.int .i64 (x70.length : Int))), (33, (.int .i64 i84))]) ⟨rfl, rfl, rfl, rfl, rfl, rfl, rfl, rfl, rfl, rfl, rfl, rfl, trivial⟩ ?_
                    refine np_norm (fun a ha => ⟨o347, ha, hB, h79, h345, h51, h22, h77⟩)
                  · rw [if_neg (by rw [t234]; decide)] at hq100
                    refine wpC_drawn (o := o82) [(3, v10), (4, (.int .i64 i34)), (5, v50), (6, (.int .i64 i58)), (7, (.int .i64 i84)), (8, (.bool x94)), (16, v21), (17, (.int .i64 (x19.length : Int))), (18, (.int .i64 i34)), (24, (.int .i64 (x44.length : Int))), (25, (.int .i64 i58)), (31, v76), (32, (.int .i64 (x70.length : Int))), (33, (.int .i64 i84))] [3, 4, 5, 6, 7, 8, 16, 17, 18, 24, 25, 31, 32, 33] [38, 39, 40, 41, 42, 43, 44, 45, 46, 47, 48, 49, 50, 51, 52, 53, 54, 55, 56] [[], [], [0, 1], [2], [], [], [], [5, 6], [7], [], [8, 9], [10], [11], [12], [12, 13], [14], [14], [12, 14, 16], [12, 17]] [none, none, none, none, none, none, none, none, none, none, none, none, none, none, none, none, none, none, none] [999, 999, 999, 999, 999, 999, 999, 999, 999, 999, 999, 999, 999, 999, 999, 999, 999, 999, 999] [0, 0, 0, 0, 0, 0, 0, 0, 0, 0, 13, 0, 0, 0, 0, 0, 0, 0, 0] [999] [fun v _ _ => v = v10, fun v _ _ => v = (.int .i64 i58), fun v _ _ => v = adr v10 (i58.toNat * Rp.sz Hv), fun v _ _ => v = v105, fun v _ _ => v = (.int .i64 i84), fun v _ _ => v = v10, fun v _ _ => v = (.int .i64 i58), fun v _ _ => v = adr v10 (i58.toNat * Rp.sz Hv), fun v _ _ => v = v113, fun v _ _ => v = (.int .i64 i84), fun v o w9 => ∃ vl, v = adr vl (i84.toNat * Rp.sz Bool) ∧ Ow w.heap.size 4 13 o w9 vl x112, fun v _ _ => v = (.bool x120), fun v _ _ => v = (.bool x120), fun v _ _ => v = (.bool x94), fun v _ _ => v = (.bool x94), fun v _ _ => v = undef, fun v _ _ => v = undef, fun v _ _ => v = (.bool false), fun v _ _ => v = (.bool false)] (fun o8 w8 => Bs oo o8 w w8 ∧ Ow w.heap.size 87 12 o8 w8 v10 g81 ∧ Rws w.heap.size 4 13 o8 w8 g81 y78 ∧ RdL o8 w8 v50 x44 ∧ Ow w.heap.size 85 14 o8 w8 v21 x19 ∧ RdL o8 w8 v76 x70) follows_mixed (by kernel_rfl) rfl ⟨rfl, rfl, rfl, rfl, rfl, rfl, rfl, rfl, rfl, rfl, rfl, rfl, rfl, rfl, trivial⟩ ⟨hB, h79, h80, h51, h22, h77⟩ ?_ ⟨st_eq _, st_eq _, st_eq _, st_eq _, st_eq _, st_eq _, st_eq _, st_eq _, st_eq _, st_eq _, fun _ _ _ _ _ _ h0 hb ⟨vl, e, h⟩ hs => ⟨vl, e, h.stp hs h0.1 (Ne.symm hb)⟩, st_eq _, st_eq _, st_eq _, st_eq _, st_eq _, st_eq _, st_eq _, st_eq _, trivial⟩ ?_ ?_
                    · rintro t9 o1 w1 o2 w2 ht9 ⟨hB, h79, h80, h51, h22, h77⟩ hs9
                      have ht9 : t9 = 999 := by simpa using ht9
                      subst ht9
                      all_goals exact ⟨hB.stp hs9 (by decide), h79.stp hs9 (by decide) (by decide), h80.stp hs9 (by decide) (by decide), h51.stp hs9 (by decide), h22.stp hs9 (by decide) (by decide), h77.stp hs9 (by decide)⟩
                    · refine ⟨?_, ?_, ?_, ?_, ?_, ?_, ?_, ?_, ?_, ?_, ?_, ?_, ?_, ?_, ?_, ?_, ?_, ?_, ?_, trivial⟩
                      · rintro o349 w350 a351 ha ⟨hB, h79, h80, h51, h22, h77⟩ -
                        refine opS_of ha (trivial) ?_
                        refine op1_val (ex_move rfl) ?_
                        exact ⟨_, Stp.refl _ _ _, rfl⟩
                      · rintro o352 w353 a354 ha ⟨hB, h79, h80, h51, h22, h77⟩ -
                        refine opS_of ha (trivial) ?_
                        refine op1_val (ex_move rfl) ?_
                        exact ⟨_, Stp.refl _ _ _, rfl⟩
                      · rintro o355 w356 a357 ha ⟨hB, h79, h80, h51, h22, h77⟩ ⟨r358, r359, -⟩
                        have ha := Fr.cons (d := 38) ha r358
                        have ha := Fr.cons (d := 39) ha r359
                        refine opS_of ha (trivial) ?_
                        refine wd_indexW h79 h106 rfl rfl Try.underlying85 Try.sizeOf87 ?_
                        exact ⟨_, Stp.refl _ _ _, rfl⟩
                      · rintro o360 w361 a362 ha ⟨hB, h79, h80, h51, h22, h77⟩ ⟨r363, -⟩
                        have ha := Fr.cons (d := 40) ha r363
                        refine opS_of ha (trivial) ?_
                        refine wd_load1W h79 h106 rfl rfl Try.isAgg87 ?_
                        intro c364 h365
                        obtain ⟨e366, -⟩ := h365
                        cases e366
                        exact ⟨_, Stp.refl _ _ _, rfl⟩
                      · rintro o367 w368 a369 ha ⟨hB, h79, h80, h51, h22, h77⟩ -
                        refine opS_of ha (trivial) ?_
                        refine op1_val (ex_move rfl) ?_
                        exact ⟨_, Stp.refl _ _ _, rfl⟩
                      · rintro o370 w371 a372 ha ⟨hB, h79, h80, h51, h22, h77⟩ -
                        refine opS_of ha (trivial) ?_
                        refine op1_val (ex_move rfl) ?_
                        exact ⟨_, Stp.refl _ _ _, rfl⟩
                      · rintro o373 w374 a375 ha ⟨hB, h79, h80, h51, h22, h77⟩ -
                        refine opS_of ha (trivial) ?_
                        refine op1_val (ex_move rfl) ?_
                        exact ⟨_, Stp.refl _ _ _, rfl⟩
                      · rintro o376 w377 a378 ha ⟨hB, h79, h80, h51, h22, h77⟩ ⟨r379, r380, -⟩
                        have ha := Fr.cons (d := 43) ha r379
                        have ha := Fr.cons (d := 44) ha r380
                        refine opS_of ha (trivial) ?_
                        refine wd_indexW h79 h114 rfl rfl Try.underlying85 Try.sizeOf87 ?_
                        exact ⟨_, Stp.refl _ _ _, rfl⟩
                      · rintro o381 w382 a383 ha ⟨hB, h79, h80, h51, h22, h77⟩ ⟨r384, -⟩
                        have ha := Fr.cons (d := 45) ha r384
                        refine opS_of ha (trivial) ?_
                        refine wd_load1W h79 h114 rfl rfl Try.isAgg87 ?_
                        intro c385 h386
                        obtain ⟨e387, -⟩ := h386
                        cases e387
                        exact ⟨_, Stp.refl _ _ _, rfl⟩
                      · rintro o388 w389 a390 ha ⟨hB, h79, h80, h51, h22, h77⟩ -
                        refine opS_of ha (trivial) ?_
                        refine op1_val (ex_move rfl) ?_
                        exact ⟨_, Stp.refl _ _ _, rfl⟩
                      · rintro o391 w392 a393 ha ⟨hB, h79, h80, h51, h22, h77⟩ ⟨r394, r395, -⟩
                        have ha := Fr.cons (d := 46) ha r394
                        have ha := Fr.cons (d := 47) ha r395
                        refine opS_of ha (trivial) ?_
                        refine wd_indexW (h80.at h115 h116) hx120 rfl rfl Try.underlying87 Try.sizeOf4 ?_
                        exact ⟨_, Stp.refl _ _ _, ⟨_, rfl, (h80.at h115 h116)⟩⟩
                      · rintro o396 w397 a398 ha ⟨hB, h79, h80, h51, h22, h77⟩ ⟨r399, -⟩
                        obtain ⟨v400, e401, h402⟩ := r399
                        have ha := Fr.cons (d := 48) ha e401
                        refine opS_of ha (trivial) ?_
                        refine wd_load1W h402 hx120 rfl rfl Try.isAgg4 ?_
                        intro c403 h404
                        cases h404
                        exact ⟨_, Stp.refl _ _ _, rfl⟩
                      · rintro o405 w406 a407 ha ⟨hB, h79, h80, h51, h22, h77⟩ ⟨r408, -⟩
                        have ha := Fr.cons (d := 49) ha r408
                        refine opS_of ha (trivial) ?_
                        refine op1_val (ex_move rfl) ?_
                        exact ⟨_, Stp.refl _ _ _, rfl⟩
                      · rintro o409 w410 a411 ha ⟨hB, h79, h80, h51, h22, h77⟩ ⟨r412, -⟩
                        have ha := Fr.cons (d := 50) ha r412
                        refine opS_of ha (⟨_, rfl, (congrArg (fun b => some (Value.bool b)) t123)⟩) ?_
                        refine op1_val (ex_move rfl) ?_
                        exact ⟨_, Stp.refl _ _ _, rfl⟩
                      · rintro o413 w414 a415 ha ⟨hB, h79, h80, h51, h22, h77⟩ ⟨r416, r417, -⟩
                        have ha := Fr.cons (d := 50) ha r416
                        have ha := Fr.cons (d := 51) ha r417
                        refine opS_of ha (⟨_, rfl, (congrArg (fun b => some (Value.bool b)) t123)⟩) ?_
                        refine op1_val (ex_move rfl) ?_
                        exact ⟨_, Stp.refl _ _ _, rfl⟩
                      · rintro o418 w419 a420 ha ⟨hB, h79, h80, h51, h22, h77⟩ ⟨r421, -⟩
                        have ha := Fr.cons (d := 52) ha r421
                        exact opS_no ha rfl rfl rfl (by rw [t234]; rfl) ⟨_, Stp.refl _ _ _, rfl⟩
                      · rintro o422 w423 a424 ha ⟨hB, h79, h80, h51, h22, h77⟩ ⟨r425, -⟩
                        have ha := Fr.cons (d := 52) ha r425
                        exact opS_no ha rfl rfl rfl (by rw [t234]; rfl) ⟨_, Stp.refl _ _ _, rfl⟩
                      · rintro o426 w427 a428 ha ⟨hB, h79, h80, h51, h22, h77⟩ ⟨r429, r430, r431, -⟩
                        have ha := Fr.cons (d := 50) ha r429
                        have ha := Fr.cons (d := 52) ha r430
                        have ha := Fr.cons (d := 54) ha r431
                        refine opS_of ha (⟨_, rfl, (congrArg (fun b => some (Value.bool b)) t123)⟩) ?_
                        refine op1_val (ex_pick_f (congrArg (fun b => some (Value.bool b)) t234) rfl) ?_
                        exact ⟨_, Stp.refl _ _ _, rfl⟩
                      · rintro o432 w433 a434 ha ⟨hB, h79, h80, h51, h22, h77⟩ ⟨r435, r436, -⟩
                        have ha := Fr.cons (d := 50) ha r435
                        have ha := Fr.cons (d := 55) ha r436
                        refine opS_of ha (trivial) ?_
                        refine op1_val (ex_pick_f (congrArg (fun b => some (Value.bool b)) t123) rfl) ?_
                        exact ⟨_, Stp.refl _ _ _, rfl⟩
                    rintro o437 w438 a439 ha ⟨hB, h79, h80, h51, h22, h77⟩ ⟨-, -, -, r440, r441, -, -, -, -, -, -, -, -, -, -, -, -, -, r442, -⟩
                    have ha := Fr.cons (d := 41) ha r440
                    have ha := Fr.cons (d := 42) ha r441
                    have ha := Fr.cons (d := 56) ha r442
                    refine wl_of ha ?_
                    simp only [List.length_cons, List.length_nil, Nat.zero_add, Nat.reduceAdd, List.drop_succ_cons, List.drop_zero]
                    obtain ⟨x443, hx443, hq100⟩ := bind_some hq100
                    refine st_op (by decide) trivial ?_
                    refine wf_atP (h80.at h107 h108) hx443 rfl rfl Try.underlying87 Try.sizeOf4 ?_
                    intro b444 c446 h449 h447 h448
                    cases h448
                    obtain ⟨x452, hx452, hq100⟩ := bind_some hq100
                    obtain ⟨h453, h454, r455⟩ := h80.take h107 h108 (by decide) 17
                    replace h79 := h79.rc r455 (by decide) (by decide)
                    replace h51 := h51.rc r455 (by decide)
                    replace h22 := h22.rc r455 (by decide) (by decide)
                    replace h77 := h77.rc r455 (by decide)
                    replace hB := hB.rc r455 (by decide)
                    generalize one v105 17 o437 = o456 at *
                    refine st_op0 trivial ?_
                    refine wf_storeW h453 h449 hx452 rfl (by decide) rfl rfl rfl Try.sizeOf4 rfl ?_
                    intro w450 h457 s451
                    replace h454 := h454.stp s451 (by decide) (by decide)
                    replace h79 := h79.stp s451 (by decide) (by decide)
                    replace h51 := h51.stp s451 (by decide)
                    replace h22 := h22.stp s451 (by decide) (by decide)
                    replace h77 := h77.stp s451 (by decide)
                    replace hB := hB.stp s451 (by decide)
                    have h458 := h454.back h107 h457 (by decide) (by decide)
                    have r459 := mrg_rc 17 13 o456
                    clear h80 h454 h457
                    replace h79 := h79.rc r459 (by decide) (by decide)
                    replace h51 := h51.rc r459 (by decide)
                    replace h22 := h22.rc r459 (by decide) (by decide)
                    replace h77 := h77.rc r459 (by decide)
                    replace hB := hB.rc r459 (by decide)
                    generalize mrg 17 13 o456 = o460 at *
                    have e461 := Option.some.inj hq100
                    subst e461
                    refine wpF_end (r := [(3, v10), (4, (.int .i64 i34)), (5, v50), (6, (.int .i64 i58)), (16, v21), (17, (.int .i64 (x19.length : Int))), (18, (.int .i64 i34)), (24, (.int .i64 (x44.length : Int))), (25, (.int .i64 i58)), (31, v76), (32, (.int .i64 (x70.length : Int))), (33, (.int .i64 i84))]) ⟨rfl, rfl, rfl, rfl, rfl, rfl, rfl, rfl, rfl, rfl, rfl, rfl, trivial⟩ ?_
                    refine np_norm (fun a ha => ⟨o460, ha, hB, h79, h458, h51, h22, h77⟩)
              rintro a462 w102 ⟨o101, ha, hB, h79, h80, h51, h22, h77⟩
              refine ap_k ha ?_
              refine nb_norm ?_
              refine nx ?_
              refine wpC_region ?_
              refine st_val (ex_add rfl rfl (ck_in (by omega) (by omega))) (by decide) trivial ?_
              refine st_val (ex_move rfl) (by decide) trivial ?_
              refine wpF_end (r := [(3, v10), (4, (.int .i64 i34)), (5, v50), (6, (.int .i64 i58)), (16, v21), (17, (.int .i64 (x19.length : Int))), (18, (.int .i64 i34)), (24, (.int .i64 (x44.length : Int))), (25, (.int .i64 i58)), (31, v76), (32, (.int .i64 (x70.length : Int))), (33, (.int .i64 (i84 + 1)))]) ⟨rfl, rfl, rfl, rfl, rfl, rfl, rfl, rfl, rfl, rfl, rfl, rfl, trivial⟩ ?_
              refine nt_norm ?_
              have e463 := Option.some.inj b91
              subst e463
              refine to_k (r := [(3, v10), (4, (.int .i64 i34)), (5, v50), (6, (.int .i64 i58)), (16, v21), (17, (.int .i64 (x19.length : Int))), (18, (.int .i64 i34)), (24, (.int .i64 (x44.length : Int))), (25, (.int .i64 i58)), (31, v76), (32, (.int .i64 (x70.length : Int))), (33, (.int .i64 (i84 + 1)))]) ⟨rfl, rfl, rfl, rfl, rfl, rfl, rfl, rfl, rfl, rfl, rfl, rfl, trivial⟩ ?_
              intro a ha
              exact ⟨_, (by rw [← m88]; simp only [List.length_drop]; omega), i84 + 1, q100, g81, o101, n92, rfl, (by omega), ha, hB, h79, h80, h51, h22, h77⟩
            · have r464 := forI_done t93 l86
              refine wp_of ha ?_
              refine wpC_seq ?_
              refine wpC_region ?_
              refine st_val (ex_lss rfl rfl) (by decide) trivial ?_
              refine wpF_end (r := [(3, v10), (4, (.int .i64 i34)), (5, v50), (6, (.int .i64 i58)), (16, v21), (17, (.int .i64 (x19.length : Int))), (18, (.int .i64 i34)), (24, (.int .i64 (x44.length : Int))), (25, (.int .i64 i58)), (31, v76), (32, (.int .i64 (x70.length : Int))), (33, (.int .i64 i84)), (34, (.bool (decide (i84 < (x70.length : Int)))))]) ⟨rfl, rfl, rfl, rfl, rfl, rfl, rfl, rfl, rfl, rfl, rfl, rfl, rfl, trivial⟩ ?_
              refine nx ?_
              refine wpC_seq ?_
              refine wpC_false (congrArg (fun b => some (Value.bool b)) (decide_eq_false t93)) ?_
              refine wpC_exit ?_
              refine nt_exit ?_
              refine nt_exit ?_
              refine nb_hit ?_
              refine np_norm ?_
              refine to_k (r := [(3, v10), (4, (.int .i64 i34)), (5, v50), (16, v21), (17, (.int .i64 (x19.length : Int))), (18, (.int .i64 i34)), (24, (.int .i64 (x44.length : Int))), (25, (.int .i64 i58))]) ⟨rfl, rfl, rfl, rfl, rfl, rfl, rfl, rfl, trivial⟩ ?_
              intro a ha
              exact ⟨y78, g81, o82, r464, ha, hB, h79, h80, h51, h22⟩
          · rintro a w83 ⟨y78, g81, o82, rfl, ha, hB, h79, h80, h51, h22⟩
            dsimp only at b67
            refine ap_k ha ?_
            refine nb_norm ?_
            refine nx ?_
            refine wpC_region ?_
            refine st_val (ex_add rfl rfl (ck_in (by omega) (by omega))) (by decide) trivial ?_
            refine st_val (ex_move rfl) (by decide) trivial ?_
            refine wpF_end (r := [(3, v10), (4, (.int .i64 i34)), (5, v50), (16, v21), (17, (.int .i64 (x19.length : Int))), (18, (.int .i64 i34)), (24, (.int .i64 (x44.length : Int))), (25, (.int .i64 (i58 + 1)))]) ⟨rfl, rfl, rfl, rfl, rfl, rfl, rfl, rfl, trivial⟩ ?_
            refine nt_norm ?_
            have e465 := Option.some.inj b67
            subst e465
            refine to_k (r := [(3, v10), (4, (.int .i64 i34)), (5, v50), (16, v21), (17, (.int .i64 (x19.length : Int))), (18, (.int .i64 i34)), (24, (.int .i64 (x44.length : Int))), (25, (.int .i64 (i58 + 1)))]) ⟨rfl, rfl, rfl, rfl, rfl, rfl, rfl, rfl, trivial⟩ ?_
            intro a ha
            exact ⟨_, (by rw [← m64]; omega), i58 + 1, y78, g81, o82, n68, rfl, (by omega), ha, hB, h79, h80, h51, h22⟩
          · exact fun _ _ h => h.elim
        · have r466 := forN_done t69 l62
          refine wp_of ha ?_
          refine wpC_seq ?_
          refine wpC_region ?_
          refine st_val (ex_lss rfl rfl) (by decide) trivial ?_
          refine wpF_end (r := [(3, v10), (4, (.int .i64 i34)), (5, v50), (16, v21), (17, (.int .i64 (x19.length : Int))), (18, (.int .i64 i34)), (24, (.int .i64 (x44.length : Int))), (25, (.int .i64 i58)), (26, (.bool (decide (i58 < (x44.length : Int)))))]) ⟨rfl, rfl, rfl, rfl, rfl, rfl, rfl, rfl, rfl, trivial⟩ ?_
          refine nx ?_
          refine wpC_seq ?_
          refine wpC_false (congrArg (fun b => some (Value.bool b)) (decide_eq_false t69)) ?_
          refine wpC_exit ?_
          refine nt_exit ?_
          refine nt_exit ?_
          refine nb_hit ?_
          refine np_norm ?_
          refine to_k (r := [(3, v10), (16, v21), (17, (.int .i64 (x19.length : Int))), (18, (.int .i64 i34))]) ⟨rfl, rfl, rfl, rfl, trivial⟩ ?_
          intro a ha
          exact ⟨y52, g55, o56, r466, ha, hB, h53, h54, h22⟩
      · rintro a w57 ⟨y52, g55, o56, rfl, ha, hB, h53, h54, h22⟩
        dsimp only at b41
        refine ap_k ha ?_
        refine nb_norm ?_
        refine nx ?_
        refine wpC_region ?_
        refine st_val (ex_add rfl rfl (ck_in (by omega) (by omega))) (by decide) trivial ?_
        refine st_val (ex_move rfl) (by decide) trivial ?_
        refine wpF_end (r := [(3, v10), (16, v21), (17, (.int .i64 (x19.length : Int))), (18, (.int .i64 (i34 + 1)))]) ⟨rfl, rfl, rfl, rfl, trivial⟩ ?_
        refine nt_norm ?_
        have e467 := Option.some.inj b41
        subst e467
        refine to_k (r := [(3, v10), (16, v21), (17, (.int .i64 (x19.length : Int))), (18, (.int .i64 (i34 + 1)))]) ⟨rfl, rfl, rfl, rfl, trivial⟩ ?_
        intro a ha
        exact ⟨_, (by rw [← m38]; simp only [List.length_drop]; omega), i34 + 1, y52, g55, o56, n42, rfl, (by omega), ha, hB, h53, h54, h22⟩
      · exact fun _ _ h => h.elim
    · have r468 := forI_done t43 l36
      refine wp_of ha ?_
      refine wpC_seq ?_
      refine wpC_region ?_
      refine st_val (ex_lss rfl rfl) (by decide) trivial ?_
      refine wpF_end (r := [(3, v10), (16, v21), (17, (.int .i64 (x19.length : Int))), (18, (.int .i64 i34)), (19, (.bool (decide (i34 < (x19.length : Int)))))]) ⟨rfl, rfl, rfl, rfl, rfl, trivial⟩ ?_
      refine nx ?_
      refine wpC_seq ?_
      refine wpC_false (congrArg (fun b => some (Value.bool b)) (decide_eq_false t43)) ?_
      refine wpC_exit ?_
      refine nt_exit ?_
      refine nt_exit ?_
      refine nb_hit ?_
      refine np_norm ?_
      refine to_k (r := [(3, v10)]) ⟨rfl, trivial⟩ ?_
      intro a ha
      exact ⟨y28, g31, o32, r468, ha, hB, h29, h30⟩
  · rintro a w33 ⟨y28, g31, o32, rfl, ha, hB, h29, h30⟩
    dsimp only at hF
    refine ap_k ha ?_
    refine nx ?_
    refine wpC_seq ?_
    refine wpC_region ?_
    refine st_val (ex_move rfl) (by decide) trivial ?_
    refine st_val (ex_assign rfl) (by decide) trivial ?_
    refine wpF_end (r := [(2, v10)]) ⟨rfl, trivial⟩ ?_
    refine nx ?_
    refine wpC_ret ?_
    have e469 := Option.some.inj hF
    subst e469
    refine ret_post (P := Try.prog) (vs := [v10]) Try.results72 ⟨rfl, trivial⟩ ?_
    exact ⟨_, g31, rt2 oo o32 w.heap.size 12 13 t, rfl, h29.rt2 hB (by decide) (by decide) t, h30.rt2 hB (by decide) (by decide) (by decide) t, hB.keeps, rt2_old _ _ _ _ _ _⟩
  · exact fun _ _ h => h.elim

def fS_waDepths_s1 : Int → (List Int) → Option (Lp (List Int) (List Int) (List Int)) := fun (i18 : Int) (s : List Int) =>
  (ix s i18) >>= fun x30 =>
  (st s i18 (-1)) >>= fun x39 =>
  some (.go x39)
def fS_waDepths_s3 (p1 : List Int) : Int → (List Int) → ((List Int) × Bool) → Option (Lp ((List Int) × Bool) ((List Int) × Bool) (List Int)) := fun (i81 : Int) (x91 : List Int) (s : (List Int) × Bool) =>
  (ix x91 0) >>= fun x99 =>
  (ix s.1 x99) >>= fun x105 =>
  (
    if decide (x105 ≥ 0) then
      (ix x91 1) >>= fun x115 =>
      (ix s.1 x115) >>= fun x121 =>
      if decide (x121 < 0) then
        (ix x91 1) >>= fun x128 =>
        (fS_l1Has p1 x128) >>= fun x134 =>
        some x134
      else
        some false
    else
      some false) >>= fun q111 =>
  if q111 then
    (ix x91 1) >>= fun x144 =>
    (ix x91 0) >>= fun x147 =>
    (ix s.1 x147) >>= fun x150 =>
    (ck (x150 + 1)) >>= fun x153 =>
    (ix s.1 x144) >>= fun x216 =>
    (st s.1 x144 x153) >>= fun x225 =>
    some (.go (x225, true))
  else
    some (.go (s.1, s.2))
def fS_waDepths_s2 (p0 : T_WalkProblem) (p1 : List Int) : ((List Int) × Bool) → Option (Lp ((List Int) × Bool) ((List Int) × Bool) (List Int)) := fun (s : (List Int) × Bool) =>
  if s.2 then
    (forI (fS_waDepths_s3 p1) p0.Arcs 0 (s.1, false)) >>= fun q82 =>
    match q82 with
    | .inl (y76, y78) =>
      some (.go (y76, y78))
    | .inr _ => none
  else
    some (.out (s.1, false))
def fS_waDepths (fuel : Nat) (p0 : T_WalkProblem) (p1 : List Int) : Option (List Int) :=
  (mk (Rz.z : Int) p0.Labels) >>= fun x8 =>
  ck (x8.length : Int) >>= fun _ =>
  (forN (fS_waDepths_s1) ((x8.length : Int)).toNat 0 x8) >>= fun q19 =>
  match q19 with
  | .inl y14 =>
    (ix p1 0) >>= fun x43 =>
    (ix y14 x43) >>= fun x49 =>
    (st y14 x43 0) >>= fun x58 =>
    (loopF (fS_waDepths_s2 p0 p1) fuel (x58, true)) >>= fun q65 =>
    match q65 with
    | .inl (y60, y62) =>
      some y60
    | .inr _ => none
  | .inr _ => none

def pS_waDepths (oo : Tg) (t : Nat) (w : World) (r : List Int) : Ending → World → Prop := fun e w' => ∃ (v0 : Value) (o' : Tg), e = .returned (v0) ∧ Ow w.heap.size 3 t o' w' v0 r ∧ Keeps w w' ∧ ∀ b, b < w.heap.size → o' b = oo b
set_option maxRecDepth 100000 in
set_option maxHeartbeats 2000000 in
theorem cS_waDepths (fuel : Nat) (w : World) (oo : Tg) (t : Nat) (ht : 2 ≤ t) (u0 : List Value) (p0 : T_WalkProblem) (g0 : Rp.rd zt w u0 p0) (u1 : Value) (p1 : List Int) (g1 : RdL zt w u1 p1) (r : List Int) (hF : fS_waDepths fuel p0 p1 = some r) :
    Calls Try.prog 73 #[.agg u0.toArray, u1] w (pS_waDepths oo t w r) := by
  unfold fS_waDepths at hF
  obtain ⟨v1, rfl, h2⟩ := g0
  have hB : Bs oo (col oo) w w := Bs.start _ _
  refine calls_start (n := 72) (vs := [(.agg #[(.int .i64 p0.Labels), v1]), u1]) Try.func73 rfl rfl ?_
  generalize col oo = o at *
  refine wpC_seq ?_
  refine wpC_region ?_
  refine st_op (by decide) trivial ?_
  refine wf_box (o := o) w.heap.size 11 hB.keeps.size (cs := [(.int .i64 p0.Labels), v1]) rfl rfl ?_
  intro o3 w4 b5 h6 s7
  replace hB := hB.stp s7 (by decide)
  refine st_val (ex_assign rfl) (by decide) trivial ?_
  refine wpF_end (r := [(1, u1), (2, (.pointer (some ⟨b5, 0, none⟩)))]) ⟨rfl, rfl, trivial⟩ ?_
  refine nx ?_
  refine wpC_seq ?_
  refine wpC_region ?_
  refine st_val (ex_field rfl Try.underlying29 rfl Try.sizeOf3) (by decide) trivial ?_
  refine st_val (ex_load1 rfl Try.isAgg3 (h6.cell rfl)) (by decide) trivial ?_
  obtain ⟨x8, hx8, hF⟩ := bind_some hF
  refine st_op (by decide) trivial ?_
  refine wf_make (o := o3) w.heap.size 12 hB.keeps.size hx8 rfl rfl Try.underlying26 info2_t_int_Wa rfl (by decide) ?_
  intro o9 w10 v11 h12 s13
  replace h6 := h6.stp s13 (by decide)
  replace hB := hB.stp s13 (by decide)
  refine st_val (ex_assign rfl) (by decide) trivial ?_
  refine wpF_end (r := [(1, u1), (2, (.pointer (some ⟨b5, 0, none⟩))), (5, v11)]) ⟨rfl, rfl, rfl, trivial⟩ ?_
  refine nx ?_
  refine wpC_seq ?_
  refine wpC_seq ?_
  refine wpC_region ?_
  refine st_val (ex_move rfl) (by decide) trivial ?_
  refine st_val (ex_lenO rfl h12 Try.underlying26) (by decide) trivial ?_
  refine st_val (ex_move rfl) (by decide) trivial ?_
  refine wpF_end (r := [(1, u1), (2, (.pointer (some ⟨b5, 0, none⟩))), (5, v11), (14, (.int .i64 (x8.length : Int))), (15, (.int .i64 0))]) ⟨rfl, rfl, rfl, rfl, rfl, trivial⟩ ?_
  refine nx ?_
  obtain ⟨u21, h20, hF⟩ := bind_some hF
  obtain ⟨-, h20a, h20b⟩ := ck_some h20
  obtain ⟨q19, hq19, hF⟩ := bind_some hF
  refine wpC_cutN (fun a w17 => ∃ (y14 : List Int) (o16 : Tg), q19 = .inl y14 ∧ Fr a 72 [(1, u1), (2, (.pointer (some ⟨b5, 0, none⟩))), (5, v11)] ∧ Bs oo o16 w w17 ∧ Ow w.heap.size 3 12 o16 w17 v11 y14 ∧ Bx w.heap.size 11 o16 w17 b5 29 [(.int .i64 p0.Labels), v1]) (fun _ _ => False) ?_ ?_ ?_
  · refine wpC_block ?_
    refine wpC_loop (fun (K : Nat) a w17 => ∃ (i18 : Int) (y14 : List Int) (o16 : Tg), forN (fS_waDepths_s1) ((x8.length : Int) - i18).toNat i18 y14 = some q19 ∧ ((x8.length : Int) - i18).toNat = K ∧ 0 ≤ i18 ∧ Fr a 72 [(1, u1), (2, (.pointer (some ⟨b5, 0, none⟩))), (5, v11), (14, (.int .i64 (x8.length : Int))), (15, (.int .i64 i18))] ∧ Bs oo o16 w w17 ∧ Ow w.heap.size 3 12 o16 w17 v11 y14 ∧ Bx w.heap.size 11 o16 w17 b5 29 [(.int .i64 p0.Labels), v1]) _ (fun a ha => ⟨0, x8, o9, (by rw [Int.sub_zero]; exact hq19), rfl, Int.le_refl 0, ha.sub (r := [(1, u1), (2, (.pointer (some ⟨b5, 0, none⟩))), (5, v11), (14, (.int .i64 (x8.length : Int))), (15, (.int .i64 0))]) ⟨rfl, rfl, rfl, rfl, rfl, trivial⟩, hB, h12, h6⟩) ?_
    rintro K25 a w17 ⟨i18, y14, o16, l22, m24, z23, ha, hB, h15, h6⟩
    by_cases t29 : i18 < (x8.length : Int)
    · obtain ⟨q26, b27, n28⟩ := forN_cons t29 l22
      dsimp only [fS_waDepths_s1] at b27
      refine wp_of ha ?_
      refine wpC_seq ?_
      refine wpC_region ?_
      refine st_val (ex_lss rfl rfl) (by decide) trivial ?_
      refine wpF_end (r := [(1, u1), (2, (.pointer (some ⟨b5, 0, none⟩))), (5, v11), (14, (.int .i64 (x8.length : Int))), (15, (.int .i64 i18)), (16, (.bool (decide (i18 < (x8.length : Int)))))]) ⟨rfl, rfl, rfl, rfl, rfl, rfl, trivial⟩ ?_
      refine nx ?_
      refine wpC_seq ?_
      refine wpC_true (congrArg (fun b => some (Value.bool b)) (decide_eq_true t29)) ?_
      refine wpC_skip ?_
      refine nx ?_
      refine wpC_seq ?_
      refine wpC_block ?_
      refine wpC_seq ?_
      refine wpC_region ?_
      refine st_val (ex_move rfl) (by decide) trivial ?_
      refine st_val (ex_assign rfl) (by decide) trivial ?_
      refine wpF_end (r := [(1, u1), (2, (.pointer (some ⟨b5, 0, none⟩))), (5, v11), (6, (.int .i64 i18)), (14, (.int .i64 (x8.length : Int))), (15, (.int .i64 i18))]) ⟨rfl, rfl, rfl, rfl, rfl, rfl, trivial⟩ ?_
      refine nx ?_
      refine wpC_region ?_
      refine st_val (ex_move rfl) (by decide) trivial ?_
      refine st_val (ex_move rfl) (by decide) trivial ?_
      obtain ⟨x30, hx30, b27⟩ := bind_some b27
      refine st_op (by decide) trivial ?_
      refine wf_atP h15 hx30 rfl rfl Try.underlying26 Try.sizeOf3 ?_
      intro b31 c33 h36 h34 h35
      cases h35
      obtain ⟨x39, hx39, b27⟩ := bind_some b27
      refine st_op0 trivial ?_
      refine wf_storeW h15 h36 hx39 rfl (by decide) rfl rfl rfl Try.sizeOf3 rfl ?_
      intro w37 h40 s38
      replace h6 := h6.stp s38 (by decide)
      replace hB := hB.stp s38 (by decide)
      refine wpF_end (r := [(1, u1), (2, (.pointer (some ⟨b5, 0, none⟩))), (5, v11), (14, (.int .i64 (x8.length : Int))), (15, (.int .i64 i18))]) ⟨rfl, rfl, rfl, rfl, rfl, trivial⟩ ?_
      refine nb_norm ?_
      refine nx ?_
      refine wpC_region ?_
      refine st_val (ex_add rfl rfl (ck_in (by omega) (by omega))) (by decide) trivial ?_
      refine st_val (ex_move rfl) (by decide) trivial ?_
      refine wpF_end (r := [(1, u1), (2, (.pointer (some ⟨b5, 0, none⟩))), (5, v11), (14, (.int .i64 (x8.length : Int))), (15, (.int .i64 (i18 + 1)))]) ⟨rfl, rfl, rfl, rfl, rfl, trivial⟩ ?_
      refine nt_norm ?_
      have e41 := Option.some.inj b27
      subst e41
      refine to_k (r := [(1, u1), (2, (.pointer (some ⟨b5, 0, none⟩))), (5, v11), (14, (.int .i64 (x8.length : Int))), (15, (.int .i64 (i18 + 1)))]) ⟨rfl, rfl, rfl, rfl, rfl, trivial⟩ ?_
      intro a ha
      exact ⟨_, (by rw [← m24]; omega), i18 + 1, x39, o16, n28, rfl, (by omega), ha, hB, h40, h6⟩
    · have r42 := forN_done t29 l22
      refine wp_of ha ?_
      refine wpC_seq ?_
      refine wpC_region ?_
      refine st_val (ex_lss rfl rfl) (by decide) trivial ?_
      refine wpF_end (r := [(1, u1), (2, (.pointer (some ⟨b5, 0, none⟩))), (5, v11), (14, (.int .i64 (x8.length : Int))), (15, (.int .i64 i18)), (16, (.bool (decide (i18 < (x8.length : Int)))))]) ⟨rfl, rfl, rfl, rfl, rfl, rfl, trivial⟩ ?_
      refine nx ?_
      refine wpC_seq ?_
      refine wpC_false (congrArg (fun b => some (Value.bool b)) (decide_eq_false t29)) ?_
      refine wpC_exit ?_
      refine nt_exit ?_
      refine nt_exit ?_
      refine nb_hit ?_
      refine np_norm ?_
      refine to_k (r := [(1, u1), (2, (.pointer (some ⟨b5, 0, none⟩))), (5, v11)]) ⟨rfl, rfl, rfl, trivial⟩ ?_
      intro a ha
      exact ⟨y14, o16, r42, ha, hB, h15, h6⟩
  · rintro a w17 ⟨y14, o16, rfl, ha, hB, h15, h6⟩
    dsimp only at hF
    refine ap_k ha ?_
    refine nx ?_
    refine wpC_seq ?_
    refine wpC_region ?_
    refine st_val (ex_move rfl) (by decide) trivial ?_
    refine st_val (ex_move rfl) (by decide) trivial ?_
    obtain ⟨x43, hx43, hF⟩ := bind_some hF
    refine st_op (by decide) trivial ?_
    refine wf_atZ g1 hx43 hB rfl rfl Try.underlying26 Try.sizeOf3 ?_
    intro b44 f45 c46 h47 h48
    cases h48
    refine st_val (ex_load1 rfl Try.isAgg3 (cell_of_cells h47)) (by decide) trivial ?_
    obtain ⟨x49, hx49, hF⟩ := bind_some hF
    refine st_op (by decide) trivial ?_
    refine wf_atP h15 hx49 rfl rfl Try.underlying26 Try.sizeOf3 ?_
    intro b50 c52 h55 h53 h54
    cases h54
    obtain ⟨x58, hx58, hF⟩ := bind_some hF
    refine st_op0 trivial ?_
    refine wf_storeW h15 h55 hx58 rfl (by decide) rfl rfl rfl Try.sizeOf3 rfl ?_
    intro w56 h59 s57
    replace h6 := h6.stp s57 (by decide)
    replace hB := hB.stp s57 (by decide)
    refine wpF_end (r := [(1, u1), (2, (.pointer (some ⟨b5, 0, none⟩))), (5, v11)]) ⟨rfl, rfl, rfl, trivial⟩ ?_
    refine nx ?_
    refine wpC_seq ?_
    refine wpC_seq ?_
    refine wpC_region ?_
    refine st_val (ex_assign rfl) (by decide) trivial ?_
    refine wpF_end (r := [(1, u1), (2, (.pointer (some ⟨b5, 0, none⟩))), (5, v11), (7, (.bool true))]) ⟨rfl, rfl, rfl, rfl, trivial⟩ ?_
    refine nx ?_
    obtain ⟨q65, hq65, hF⟩ := bind_some hF
    refine wpC_cutN (fun a w64 => ∃ (y60 : List Int) (y62 : Bool) (o63 : Tg), q65 = .inl (y60, y62) ∧ Fr a 72 [(5, v11)] ∧ Bs oo o63 w w64 ∧ Ow w.heap.size 3 12 o63 w64 v11 y60) (fun _ _ => False) ?_ ?_ ?_
    · refine wpC_block ?_
      refine wpC_loop (fun (K : Nat) a w64 => ∃ (y60 : List Int) (y62 : Bool) (o63 : Tg), loopF (fS_waDepths_s2 p0 p1) K (y60, y62) = some q65 ∧ Fr a 72 [(1, u1), (2, (.pointer (some ⟨b5, 0, none⟩))), (5, v11), (7, (.bool y62))] ∧ Bs oo o63 w w64 ∧ Ow w.heap.size 3 12 o63 w64 v11 y60 ∧ Bx w.heap.size 11 o63 w64 b5 29 [(.int .i64 p0.Labels), v1]) fuel (fun a ha => ⟨x58, true, o16, hq65, ha.sub (r := [(1, u1), (2, (.pointer (some ⟨b5, 0, none⟩))), (5, v11), (7, (.bool true))]) ⟨rfl, rfl, rfl, rfl, trivial⟩, hB, h59, h6⟩) ?_
      rintro K69 a w64 ⟨y60, y62, o63, l66, ha, hB, h61, h6⟩
      obtain ⟨K73, q70, e74, b71, n72⟩ := loopF_cons l66
      dsimp only [fS_waDepths_s2] at b71
      refine wp_of ha ?_
      refine wpC_seq ?_
      refine wpC_seq ?_
      refine wpC_region ?_
      refine st_val (ex_move rfl) (by decide) trivial ?_
      refine wpF_end (r := [(1, u1), (2, (.pointer (some ⟨b5, 0, none⟩))), (5, v11), (27, (.bool y62))]) ⟨rfl, rfl, rfl, rfl, trivial⟩ ?_
      refine nx ?_
      refine wpC_cond rfl (fun t75 => ?_) (fun t75 => ?_)
      · rw [if_pos t75] at b71
        refine wpC_skip ?_
        refine nx ?_
        refine wpC_block ?_
        refine wpC_seq ?_
        refine wpC_region ?_
        refine st_val (ex_assign rfl) (by decide) trivial ?_
        refine wpF_end (r := [(1, u1), (2, (.pointer (some ⟨b5, 0, none⟩))), (5, v11), (7, (.bool false))]) ⟨rfl, rfl, rfl, rfl, trivial⟩ ?_
        refine nx ?_
        refine wpC_seq ?_
        refine wpC_region ?_
        refine st_val (ex_field rfl Try.underlying29 rfl Try.sizeOf22) (by decide) trivial ?_
        refine st_val (ex_load1 rfl Try.isAgg22 (h6.cell rfl)) (by decide) trivial ?_
        refine st_val (ex_lenR rfl h2 Try.underlying22) (by decide) trivial ?_
        refine st_val (ex_move rfl) (by decide) trivial ?_
        refine wpF_end (r := [(1, u1), (2, (.pointer (some ⟨b5, 0, none⟩))), (5, v11), (7, (.bool false)), (29, v1), (30, (.int .i64 (p0.Arcs.length : Int))), (31, (.int .i64 0))]) ⟨rfl, rfl, rfl, rfl, rfl, rfl, rfl, trivial⟩ ?_
        refine nx ?_
        obtain ⟨q82, hq82, b71⟩ := bind_some b71
        refine wpC_cutN (fun a w80 => ∃ (y76 : List Int) (y78 : Bool) (o79 : Tg), q82 = .inl (y76, y78) ∧ Fr a 72 [(1, u1), (2, (.pointer (some ⟨b5, 0, none⟩))), (5, v11), (7, (.bool y78))] ∧ Bs oo o79 w w80 ∧ Ow w.heap.size 3 12 o79 w80 v11 y76 ∧ Bx w.heap.size 11 o79 w80 b5 29 [(.int .i64 p0.Labels), v1]) (fun _ _ => False) ?_ ?_ ?_
        · refine wpC_block ?_
          refine wpC_loop (fun (K : Nat) a w80 => ∃ (i81 : Int) (y76 : List Int) (y78 : Bool) (o79 : Tg), forI (fS_waDepths_s3 p1) (p0.Arcs.drop i81.toNat) i81 (y76, y78) = some q82 ∧ (p0.Arcs.drop i81.toNat).length = K ∧ 0 ≤ i81 ∧ Fr a 72 [(1, u1), (2, (.pointer (some ⟨b5, 0, none⟩))), (5, v11), (7, (.bool y78)), (29, v1), (30, (.int .i64 (p0.Arcs.length : Int))), (31, (.int .i64 i81))] ∧ Bs oo o79 w w80 ∧ Ow w.heap.size 3 12 o79 w80 v11 y76 ∧ Bx w.heap.size 11 o79 w80 b5 29 [(.int .i64 p0.Labels), v1]) _ (fun a ha => ⟨0, y60, false, o63, hq82, rfl, Int.le_refl 0, ha.sub (r := [(1, u1), (2, (.pointer (some ⟨b5, 0, none⟩))), (5, v11), (7, (.bool false)), (29, v1), (30, (.int .i64 (p0.Arcs.length : Int))), (31, (.int .i64 0))]) ⟨rfl, rfl, rfl, rfl, rfl, rfl, rfl, trivial⟩, hB, h61, h6⟩) ?_
          rintro K86 a w80 ⟨i81, y76, y78, o79, l83, m85, z84, ha, hB, h77, h6⟩
          by_cases t90 : i81 < (p0.Arcs.length : Int)
          · obtain ⟨x91, q87, hx91, b88, n89⟩ := forI_cons z84 t90 l83
            have hle := h2.len_le
            dsimp only [fS_waDepths_s3] at b88
            refine wp_of ha ?_
            refine wpC_seq ?_
            refine wpC_region ?_
            refine st_val (ex_lss rfl rfl) (by decide) trivial ?_
            refine wpF_end (r := [(1, u1), (2, (.pointer (some ⟨b5, 0, none⟩))), (5, v11), (7, (.bool y78)), (29, v1), (30, (.int .i64 (p0.Arcs.length : Int))), (31, (.int .i64 i81)), (32, (.bool (decide (i81 < (p0.Arcs.length : Int)))))]) ⟨rfl, rfl, rfl, rfl, rfl, rfl, rfl, rfl, trivial⟩ ?_
            refine nx ?_
            refine wpC_seq ?_
            refine wpC_true (congrArg (fun b => some (Value.bool b)) (decide_eq_true t90)) ?_
            refine wpC_skip ?_
            refine nx ?_
            refine wpC_seq ?_
            refine wpC_block ?_
            refine wpC_seq ?_
            refine wpC_region ?_
            refine st_op (by decide) trivial ?_
            refine wf_atZ h2 hx91 hB rfl rfl Try.underlying22 Try.sizeOf26 ?_
            intro b92 f93 c94 h95 h96
            obtain ⟨v97, rfl, h98⟩ := h96
            refine st_val (ex_load1 rfl Try.isAgg26 (cell_of_cells h95)) (by decide) trivial ?_
            refine st_val (ex_assign rfl) (by decide) trivial ?_
            refine wpF_end (r := [(1, u1), (2, (.pointer (some ⟨b5, 0, none⟩))), (5, v11), (7, (.bool y78)), (9, v97), (29, v1), (30, (.int .i64 (p0.Arcs.length : Int))), (31, (.int .i64 i81))]) ⟨rfl, rfl, rfl, rfl, rfl, rfl, rfl, rfl, trivial⟩ ?_
            refine nx ?_
            refine wpC_seq ?_
            refine wpC_region ?_
            refine st_val (ex_move rfl) (by decide) trivial ?_
            refine st_val (ex_move rfl) (by decide) trivial ?_
            obtain ⟨x99, hx99, b88⟩ := bind_some b88
            refine st_op (by decide) trivial ?_
            refine wf_atZ h98 hx99 hB rfl rfl Try.underlying26 Try.sizeOf3 ?_
            intro b100 f101 c102 h103 h104
            cases h104
            refine st_val (ex_load1 rfl Try.isAgg3 (cell_of_cells h103)) (by decide) trivial ?_
            obtain ⟨x105, hx105, b88⟩ := bind_some b88
            refine st_op (by decide) trivial ?_
            refine wf_atW h77 hx105 rfl rfl Try.underlying26 Try.sizeOf3 ?_
            intro b106 f107 c108 h109 h110
            cases h110
            refine st_val (ex_load1 rfl Try.isAgg3 (cell_of_cells h109)) (by decide) trivial ?_
            refine st_val (ex_geq rfl rfl) (by decide) trivial ?_
            refine st_val (ex_move rfl) (by decide) trivial ?_
            obtain ⟨q111, hq111, b88⟩ := bind_some b88
            refine wpF_cutAt 15 (fun a113 w112 => Fr a113 72 [(1, u1), (2, (.pointer (some ⟨b5, 0, none⟩))), (5, v11), (7, (.bool y78)), (9, v97), (29, v1), (30, (.int .i64 (p0.Arcs.length : Int))), (31, (.int .i64 i81)), (57, (.bool q111))] ∧ Keeps w80 w112) ?_ ?_
            all_goals simp only [List.take_succ_cons, List.take_zero, List.drop_succ_cons, List.drop_zero]
            · have kp : Keeps w80 w80 := Keeps.refl _
              rcases Bool.eq_false_or_eq_true (decide (x105 ≥ 0)) with t114 | t114
              · rw [if_pos t114] at hq111
                refine st_val (ex_move rfl) (by decide) ⟨_, rfl, (congrArg (fun b => some (Value.bool b)) t114)⟩ ?_
                refine st_val (ex_move rfl) (by decide) ⟨_, rfl, (congrArg (fun b => some (Value.bool b)) t114)⟩ ?_
                obtain ⟨x115, hx115, hq111⟩ := bind_some hq111
                refine st_op (by decide) ⟨_, rfl, (congrArg (fun b => some (Value.bool b)) t114)⟩ ?_
                refine wf_atZ h98 hx115 hB rfl rfl Try.underlying26 Try.sizeOf3 ?_
                intro b116 f117 c118 h119 h120
                cases h120
                refine st_val (ex_load1 rfl Try.isAgg3 (cell_of_cells h119)) (by decide) ⟨_, rfl, (congrArg (fun b => some (Value.bool b)) t114)⟩ ?_
                obtain ⟨x121, hx121, hq111⟩ := bind_some hq111
                refine st_op (by decide) ⟨_, rfl, (congrArg (fun b => some (Value.bool b)) t114)⟩ ?_
                refine wf_atW h77 hx121 rfl rfl Try.underlying26 Try.sizeOf3 ?_
                intro b122 f123 c124 h125 h126
                cases h126
                refine st_val (ex_load1 rfl Try.isAgg3 (cell_of_cells h125)) (by decide) ⟨_, rfl, (congrArg (fun b => some (Value.bool b)) t114)⟩ ?_
                refine st_val (ex_lss rfl rfl) (by decide) ⟨_, rfl, (congrArg (fun b => some (Value.bool b)) t114)⟩ ?_
                refine st_val (ex_pick_t (congrArg (fun b => some (Value.bool b)) t114) rfl) (by decide) trivial ?_
                refine st_val (ex_move rfl) (by decide) trivial ?_
                rcases Bool.eq_false_or_eq_true (decide (x121 < 0)) with t127 | t127
                · rw [if_pos t127] at hq111
                  refine st_val (ex_move rfl) (by decide) ⟨_, rfl, (congrArg (fun b => some (Value.bool b)) t127)⟩ ?_
                  refine st_val (ex_move rfl) (by decide) ⟨_, rfl, (congrArg (fun b => some (Value.bool b)) t127)⟩ ?_
                  obtain ⟨x128, hx128, hq111⟩ := bind_some hq111
                  refine st_op (by decide) ⟨_, rfl, (congrArg (fun b => some (Value.bool b)) t127)⟩ ?_
                  refine wf_atZ h98 hx128 hB rfl rfl Try.underlying26 Try.sizeOf3 ?_
                  intro b129 f130 c131 h132 h133
                  cases h133
                  refine st_val (ex_load1 rfl Try.isAgg3 (cell_of_cells h132)) (by decide) ⟨_, rfl, (congrArg (fun b => some (Value.bool b)) t127)⟩ ?_
                  obtain ⟨x134, hx134, hq111⟩ := bind_some hq111
                  refine st_op (by decide) ⟨_, rfl, (congrArg (fun b => some (Value.bool b)) t127)⟩ ?_
                  refine wf_call (cS_l1Has w80 _ p1 (g1.keep hB.keeps) x128 x134 hx134) Try.call61 ⟨rfl, rfl, trivial⟩ ?_
                  rintro e139 w135 ⟨rfl, k136⟩
                  have s138 := k136.stp 999 o79
                  refine ⟨_, rfl, ?_⟩
                  replace h77 := h77.stp s138 (by decide) (by decide)
                  replace h6 := h6.stp s138 (by decide)
                  replace hB := hB.stp s138 (by decide)
                  replace kp := Keeps.trans kp k136
                  refine st_val (ex_pick_t (congrArg (fun b => some (Value.bool b)) t127) rfl) (by decide) trivial ?_
                  have hq1112 := Option.some.inj hq111
                  refine wpF_end (r := [(1, u1), (2, (.pointer (some ⟨b5, 0, none⟩))), (5, v11), (7, (.bool y78)), (9, v97), (29, v1), (30, (.int .i64 (p0.Arcs.length : Int))), (31, (.int .i64 i81)), (57, (.bool x134))]) ⟨rfl, rfl, rfl, rfl, rfl, rfl, rfl, rfl, rfl, trivial⟩ ?_
                  subst hq1112
                  refine np_norm (fun a ha => ⟨ha, kp⟩)
                · rw [if_neg (by rw [t127]; decide)] at hq111
                  refine st_no rfl rfl (by rw [t127]; rfl) (by decide) ?_
                  refine st_no rfl rfl (by rw [t127]; rfl) (by decide) ?_
                  refine st_no rfl rfl (by rw [t127]; rfl) (by decide) ?_
                  refine st_no rfl rfl (by rw [t127]; rfl) (by decide) ?_
                  refine st_no rfl rfl (by rw [t127]; rfl) (by decide) ?_
                  refine st_val (ex_pick_f (congrArg (fun b => some (Value.bool b)) t127) rfl) (by decide) trivial ?_
                  have hq1112 := Option.some.inj hq111
                  refine wpF_end (r := [(1, u1), (2, (.pointer (some ⟨b5, 0, none⟩))), (5, v11), (7, (.bool y78)), (9, v97), (29, v1), (30, (.int .i64 (p0.Arcs.length : Int))), (31, (.int .i64 i81)), (57, (.bool false))]) ⟨rfl, rfl, rfl, rfl, rfl, rfl, rfl, rfl, rfl, trivial⟩ ?_
                  subst hq1112
                  refine np_norm (fun a ha => ⟨ha, kp⟩)
              · rw [if_neg (by rw [t114]; decide)] at hq111
                refine st_no rfl rfl (by rw [t114]; rfl) (by decide) ?_
                refine st_no rfl rfl (by rw [t114]; rfl) (by decide) ?_
                refine st_no rfl rfl (by rw [t114]; rfl) (by decide) ?_
                refine st_no rfl rfl (by rw [t114]; rfl) (by decide) ?_
                refine st_no rfl rfl (by rw [t114]; rfl) (by decide) ?_
                refine st_no rfl rfl (by rw [t114]; rfl) (by decide) ?_
                refine st_no rfl rfl (by rw [t114]; rfl) (by decide) ?_
                refine st_val (ex_pick_f (congrArg (fun b => some (Value.bool b)) t114) rfl) (by decide) trivial ?_
                refine st_val (ex_move rfl) (by decide) trivial ?_
                refine st_no rfl rfl rfl (by decide) ?_
                refine st_no rfl rfl rfl (by decide) ?_
                refine st_no rfl rfl rfl (by decide) ?_
                refine st_no rfl rfl rfl (by decide) ?_
                refine st_no rfl rfl rfl (by decide) ?_
                refine st_val (ex_pick_f rfl rfl) (by decide) trivial ?_
                have hq1112 := Option.some.inj hq111
                refine wpF_end (r := [(1, u1), (2, (.pointer (some ⟨b5, 0, none⟩))), (5, v11), (7, (.bool y78)), (9, v97), (29, v1), (30, (.int .i64 (p0.Arcs.length : Int))), (31, (.int .i64 i81)), (57, (.bool false))]) ⟨rfl, rfl, rfl, rfl, rfl, rfl, rfl, rfl, rfl, trivial⟩ ?_
                subst hq1112
                refine np_norm (fun a ha => ⟨ha, kp⟩)
            rintro a142 w112 ⟨ha, k140⟩
            have s141 := k140.stp 999 o79
            replace h77 := h77.stp s141 (by decide) (by decide)
            replace h6 := h6.stp s141 (by decide)
            replace hB := hB.stp s141 (by decide)
            refine wl_of ha ?_
            refine wpF_end (r := [(1, u1), (2, (.pointer (some ⟨b5, 0, none⟩))), (5, v11), (7, (.bool y78)), (9, v97), (29, v1), (30, (.int .i64 (p0.Arcs.length : Int))), (31, (.int .i64 i81)), (57, (.bool q111))]) ⟨rfl, rfl, rfl, rfl, rfl, rfl, rfl, rfl, rfl, trivial⟩ ?_
            refine nx ?_
            refine wpC_cond rfl (fun t143 => ?_) (fun t143 => ?_)
            · rw [if_pos t143] at b88
              refine wpC_seq ?_
              obtain ⟨x144, hx144, b88⟩ := bind_some b88
              obtain ⟨x147, hx147, b88⟩ := bind_some b88
              obtain ⟨x150, hx150, b88⟩ := bind_some b88
              obtain ⟨x153, hx153, b88⟩ := bind_some b88
              refine wpC_drawn (o := o79) [(1, u1), (2, (.pointer (some ⟨b5, 0, none⟩))), (5, v11), (9, v97), (29, v1), (30, (.int .i64 (p0.Arcs.length : Int))), (31, (.int .i64 i81))] [1, 2, 5, 9, 29, 30, 31] [58, 59, 60, 61, 62, 63, 64, 65, 66, 67, 68] [[], [], [1], [2], [], [], [5], [6], [4, 7], [8], [9]] [none, none, none, none, none, none, none, none, none, none, none] [999, 999, 999, 999, 999, 999, 999, 999, 999, 999, 999] [0, 0, 0, 0, 0, 0, 0, 0, 12, 0, 0] [999] [fun v _ _ => v = v11, fun v _ _ => v = v97, fun v o w9 => ∃ vl, v = adr vl ((1 : Int).toNat * Rp.sz Int) ∧ RdL zt w vl x91, fun v _ _ => v = (.int .i64 x144), fun v _ _ => v = v11, fun v _ _ => v = v97, fun v o w9 => ∃ vl, v = adr vl ((0 : Int).toNat * Rp.sz Int) ∧ RdL zt w vl x91, fun v _ _ => v = (.int .i64 x147), fun v o w9 => ∃ vl, v = adr vl (x147.toNat * Rp.sz Int) ∧ Ow w.heap.size 3 12 o w9 vl y76, fun v _ _ => v = (.int .i64 x150), fun v _ _ => v = (.int .i64 x153)] (fun o8 w8 => Bs oo o8 w w8 ∧ Ow w.heap.size 3 12 o8 w8 v11 y76 ∧ Bx w.heap.size 11 o8 w8 b5 29 [(.int .i64 p0.Labels), v1]) follows_mixed (by kernel_rfl) rfl ⟨rfl, rfl, rfl, rfl, rfl, rfl, rfl, trivial⟩ ⟨hB, h77, h6⟩ ?_ ⟨st_eq _, st_eq _, fun _ _ _ _ _ _ h0 hb ⟨vl, e, h⟩ hs => ⟨vl, e, h⟩, st_eq _, st_eq _, st_eq _, fun _ _ _ _ _ _ h0 hb ⟨vl, e, h⟩ hs => ⟨vl, e, h⟩, st_eq _, fun _ _ _ _ _ _ h0 hb ⟨vl, e, h⟩ hs => ⟨vl, e, h.stp hs h0.1 (Ne.symm hb)⟩, st_eq _, st_eq _, trivial⟩ ?_ ?_
              · rintro t9 o1 w1 o2 w2 ht9 ⟨hB, h77, h6⟩ hs9
                have ht9 : t9 = 999 := by simpa using ht9
                subst ht9
                all_goals exact ⟨hB.stp hs9 (by decide), h77.stp hs9 (by decide) (by decide), h6.stp hs9 (by decide)⟩
              · refine ⟨?_, ?_, ?_, ?_, ?_, ?_, ?_, ?_, ?_, ?_, ?_, trivial⟩
                · rintro o154 w155 a156 ha ⟨hB, h77, h6⟩ -
                  refine opS_of ha (trivial) ?_
                  refine op1_val (ex_move rfl) ?_
                  exact ⟨_, Stp.refl _ _ _, rfl⟩
                · rintro o157 w158 a159 ha ⟨hB, h77, h6⟩ -
                  refine opS_of ha (trivial) ?_
                  refine op1_val (ex_move rfl) ?_
                  exact ⟨_, Stp.refl _ _ _, rfl⟩
                · rintro o160 w161 a162 ha ⟨hB, h77, h6⟩ ⟨r163, -⟩
                  have ha := Fr.cons (d := 59) ha r163
                  refine opS_of ha (trivial) ?_
                  refine wd_indexR h98 hx144 rfl rfl Try.underlying26 Try.sizeOf3 ?_
                  exact ⟨_, Stp.refl _ _ _, ⟨_, rfl, h98⟩⟩
                · rintro o164 w165 a166 ha ⟨hB, h77, h6⟩ ⟨r167, -⟩
                  obtain ⟨v168, e169, h170⟩ := r167
                  have ha := Fr.cons (d := 60) ha e169
                  refine opS_of ha (trivial) ?_
                  refine wd_load1Z h170 hx144 hB rfl rfl Try.isAgg3 ?_
                  intro c171 h172
                  cases h172
                  exact ⟨_, Stp.refl _ _ _, rfl⟩
                · rintro o173 w174 a175 ha ⟨hB, h77, h6⟩ -
                  refine opS_of ha (trivial) ?_
                  refine op1_val (ex_move rfl) ?_
                  exact ⟨_, Stp.refl _ _ _, rfl⟩
                · rintro o176 w177 a178 ha ⟨hB, h77, h6⟩ -
                  refine opS_of ha (trivial) ?_
                  refine op1_val (ex_move rfl) ?_
                  exact ⟨_, Stp.refl _ _ _, rfl⟩
                · rintro o179 w180 a181 ha ⟨hB, h77, h6⟩ ⟨r182, -⟩
                  have ha := Fr.cons (d := 63) ha r182
                  refine opS_of ha (trivial) ?_
                  refine wd_indexR h98 hx147 rfl rfl Try.underlying26 Try.sizeOf3 ?_
                  exact ⟨_, Stp.refl _ _ _, ⟨_, rfl, h98⟩⟩
                · rintro o183 w184 a185 ha ⟨hB, h77, h6⟩ ⟨r186, -⟩
                  obtain ⟨v187, e188, h189⟩ := r186
                  have ha := Fr.cons (d := 64) ha e188
                  refine opS_of ha (trivial) ?_
                  refine wd_load1Z h189 hx147 hB rfl rfl Try.isAgg3 ?_
                  intro c190 h191
                  cases h191
                  exact ⟨_, Stp.refl _ _ _, rfl⟩
                · rintro o192 w193 a194 ha ⟨hB, h77, h6⟩ ⟨r195, r196, -⟩
                  have ha := Fr.cons (d := 62) ha r195
                  have ha := Fr.cons (d := 65) ha r196
                  refine opS_of ha (trivial) ?_
                  refine wd_indexW h77 hx150 rfl rfl Try.underlying26 Try.sizeOf3 ?_
                  exact ⟨_, Stp.refl _ _ _, ⟨_, rfl, h77⟩⟩
                · rintro o197 w198 a199 ha ⟨hB, h77, h6⟩ ⟨r200, -⟩
                  obtain ⟨v201, e202, h203⟩ := r200
                  have ha := Fr.cons (d := 66) ha e202
                  refine opS_of ha (trivial) ?_
                  refine wd_load1W h203 hx150 rfl rfl Try.isAgg3 ?_
                  intro c204 h205
                  cases h205
                  exact ⟨_, Stp.refl _ _ _, rfl⟩
                · rintro o206 w207 a208 ha ⟨hB, h77, h6⟩ ⟨r209, -⟩
                  have ha := Fr.cons (d := 67) ha r209
                  refine opS_of ha (trivial) ?_
                  refine op1_val (ex_add rfl rfl hx153) ?_
                  exact ⟨_, Stp.refl _ _ _, rfl⟩
              rintro o210 w211 a212 ha ⟨hB, h77, h6⟩ ⟨r213, -, -, r214, -, -, -, -, -, -, r215, -⟩
              have ha := Fr.cons (d := 58) ha r213
              have ha := Fr.cons (d := 61) ha r214
              have ha := Fr.cons (d := 68) ha r215
              refine wl_of ha ?_
              simp only [List.length_cons, List.length_nil, Nat.zero_add, Nat.reduceAdd, List.drop_succ_cons, List.drop_zero]
              obtain ⟨x216, hx216, b88⟩ := bind_some b88
              refine st_op (by decide) trivial ?_
              refine wf_atP h77 hx216 rfl rfl Try.underlying26 Try.sizeOf3 ?_
              intro b217 c219 h222 h220 h221
              cases h221
              obtain ⟨x225, hx225, b88⟩ := bind_some b88
              refine st_op0 trivial ?_
              refine wf_storeW h77 h222 hx225 rfl (by decide) rfl rfl rfl Try.sizeOf3 rfl ?_
              intro w223 h226 s224
              replace h6 := h6.stp s224 (by decide)
              replace hB := hB.stp s224 (by decide)
              refine wpF_end (r := [(1, u1), (2, (.pointer (some ⟨b5, 0, none⟩))), (5, v11), (29, v1), (30, (.int .i64 (p0.Arcs.length : Int))), (31, (.int .i64 i81))]) ⟨rfl, rfl, rfl, rfl, rfl, rfl, trivial⟩ ?_
              refine nx ?_
              refine wpC_region ?_
              refine st_val (ex_assign rfl) (by decide) trivial ?_
              refine wpF_end (r := [(1, u1), (2, (.pointer (some ⟨b5, 0, none⟩))), (5, v11), (7, (.bool true)), (29, v1), (30, (.int .i64 (p0.Arcs.length : Int))), (31, (.int .i64 i81))]) ⟨rfl, rfl, rfl, rfl, rfl, rfl, rfl, trivial⟩ ?_
              refine nb_norm ?_
              refine nx ?_
              refine wpC_region ?_
              refine st_val (ex_add rfl rfl (ck_in (by omega) (by omega))) (by decide) trivial ?_
              refine st_val (ex_move rfl) (by decide) trivial ?_
              refine wpF_end (r := [(1, u1), (2, (.pointer (some ⟨b5, 0, none⟩))), (5, v11), (7, (.bool true)), (29, v1), (30, (.int .i64 (p0.Arcs.length : Int))), (31, (.int .i64 (i81 + 1)))]) ⟨rfl, rfl, rfl, rfl, rfl, rfl, rfl, trivial⟩ ?_
              refine nt_norm ?_
              have e227 := Option.some.inj b88
              subst e227
              refine to_k (r := [(1, u1), (2, (.pointer (some ⟨b5, 0, none⟩))), (5, v11), (7, (.bool true)), (29, v1), (30, (.int .i64 (p0.Arcs.length : Int))), (31, (.int .i64 (i81 + 1)))]) ⟨rfl, rfl, rfl, rfl, rfl, rfl, rfl, trivial⟩ ?_
              intro a ha
              exact ⟨_, (by rw [← m85]; simp only [List.length_drop]; omega), i81 + 1, x225, true, o210, n89, rfl, (by omega), ha, hB, h226, h6⟩
            · rw [if_neg (by rw [t143]; decide)] at b88
              refine wpC_skip ?_
              refine nb_norm ?_
              refine nx ?_
              refine wpC_region ?_
              refine st_val (ex_add rfl rfl (ck_in (by omega) (by omega))) (by decide) trivial ?_
              refine st_val (ex_move rfl) (by decide) trivial ?_
              refine wpF_end (r := [(1, u1), (2, (.pointer (some ⟨b5, 0, none⟩))), (5, v11), (7, (.bool y78)), (29, v1), (30, (.int .i64 (p0.Arcs.length : Int))), (31, (.int .i64 (i81 + 1)))]) ⟨rfl, rfl, rfl, rfl, rfl, rfl, rfl, trivial⟩ ?_
              refine nt_norm ?_
              have e228 := Option.some.inj b88
              subst e228
              refine to_k (r := [(1, u1), (2, (.pointer (some ⟨b5, 0, none⟩))), (5, v11), (7, (.bool y78)), (29, v1), (30, (.int .i64 (p0.Arcs.length : Int))), (31, (.int .i64 (i81 + 1)))]) ⟨rfl, rfl, rfl, rfl, rfl, rfl, rfl, trivial⟩ ?_
              intro a ha
              exact ⟨_, (by rw [← m85]; simp only [List.length_drop]; omega), i81 + 1, y76, y78, o79, n89, rfl, (by omega), ha, hB, h77, h6⟩
          · have r229 := forI_done t90 l83
            refine wp_of ha ?_
            refine wpC_seq ?_
            refine wpC_region ?_
            refine st_val (ex_lss rfl rfl) (by decide) trivial ?_
            refine wpF_end (r := [(1, u1), (2, (.pointer (some ⟨b5, 0, none⟩))), (5, v11), (7, (.bool y78)), (29, v1), (30, (.int .i64 (p0.Arcs.length : Int))), (31, (.int .i64 i81)), (32, (.bool (decide (i81 < (p0.Arcs.length : Int)))))]) ⟨rfl, rfl, rfl, rfl, rfl, rfl, rfl, rfl, trivial⟩ ?_
            refine nx ?_
            refine wpC_seq ?_
            refine wpC_false (congrArg (fun b => some (Value.bool b)) (decide_eq_false t90)) ?_
            refine wpC_exit ?_
            refine nt_exit ?_
            refine nt_exit ?_
            refine nb_hit ?_
            refine np_norm ?_
            refine to_k (r := [(1, u1), (2, (.pointer (some ⟨b5, 0, none⟩))), (5, v11), (7, (.bool y78))]) ⟨rfl, rfl, rfl, rfl, trivial⟩ ?_
            intro a ha
            exact ⟨y76, y78, o79, r229, ha, hB, h77, h6⟩
        · rintro a w80 ⟨y76, y78, o79, rfl, ha, hB, h77, h6⟩
          dsimp only at b71
          refine ap_k ha ?_
          refine nb_norm ?_
          refine nt_norm ?_
          have e230 := Option.some.inj b71
          subst e230
          refine to_k (r := [(1, u1), (2, (.pointer (some ⟨b5, 0, none⟩))), (5, v11), (7, (.bool y78))]) ⟨rfl, rfl, rfl, rfl, trivial⟩ ?_
          intro a ha
          exact ⟨K73, by omega, y76, y78, o79, n72, ha, hB, h77, h6⟩
        · exact fun _ _ h => h.elim
      · rw [if_neg (by rw [t75]; decide)] at b71
        refine wpC_exit ?_
        refine nt_exit ?_
        refine nt_exit ?_
        refine nb_hit ?_
        refine np_norm ?_
        have e231 := Option.some.inj b71
        subst e231
        refine to_k (r := [(5, v11)]) ⟨rfl, trivial⟩ ?_
        intro a ha
        exact ⟨y60, false, o63, n72, ha, hB, h61⟩
    · rintro a w64 ⟨y60, y62, o63, rfl, ha, hB, h61⟩
      dsimp only at hF
      refine ap_k ha ?_
      refine nx ?_
      refine wpC_seq ?_
      refine wpC_region ?_
      refine st_val (ex_move rfl) (by decide) trivial ?_
      refine st_val (ex_assign rfl) (by decide) trivial ?_
      refine wpF_end (r := [(4, v11)]) ⟨rfl, trivial⟩ ?_
      refine nx ?_
      refine wpC_ret ?_
      have e232 := Option.some.inj hF
      subst e232
      refine ret_post (P := Try.prog) (vs := [v11]) Try.results73 ⟨rfl, trivial⟩ ?_
      exact ⟨_, rt oo o63 w.heap.size 12 t, rfl, h61.rt hB (by decide) t, hB.keeps, rt_old _ _ _ _ _⟩
    · exact fun _ _ h => h.elim
  · exact fun _ _ h => h.elim

def fS_l1Abs (p0 : Int) : Option Int :=
  (ck (-p0)) >>= fun x1 =>
  (fS_l1Most p0 (-p0)) >>= fun x2 =>
  some x2

def pS_l1Abs (w : World) (r : Int) : Ending → World → Prop := fun e w' => e = .returned (.int .i64 r) ∧ Keeps w w'
set_option maxRecDepth 100000 in
set_option maxHeartbeats 2000000 in
theorem cS_l1Abs (w : World) (p0 : Int) (r : Int) (hF : fS_l1Abs p0 = some r) :
    Calls Try.prog 75 #[.int .i64 p0] w (pS_l1Abs w r) := by
  unfold fS_l1Abs at hF
  have hB : Bs (fun _ => 1) (col (fun _ => 1)) w w := Bs.start _ _
  refine calls_start (n := 7) (vs := [(.int .i64 p0)]) Try.func75 rfl rfl ?_
  refine wpC_seq ?_
  refine wpC_region ?_
  refine st_val (ex_assign rfl) (by decide) trivial ?_
  refine wpF_end (r := [(0, (.int .i64 p0))]) ⟨rfl, trivial⟩ ?_
  refine nx ?_
  refine wpC_seq ?_
  refine wpC_region ?_
  refine st_val (ex_move rfl) (by decide) trivial ?_
  refine st_val (ex_move rfl) (by decide) trivial ?_
  obtain ⟨x1, hx1, hF⟩ := bind_some hF
  obtain ⟨rfl, hx1a, hx1b⟩ := ck_some hx1
  refine st_val (ex_neg rfl hx1a hx1b) (by decide) trivial ?_
  obtain ⟨x2, hx2, hF⟩ := bind_some hF
  refine st_op (by decide) trivial ?_
  refine wf_call (cS_l1Most w p0 (-p0) x2 hx2) Try.call106 ⟨rfl, rfl, trivial⟩ ?_
  rintro e7 w3 ⟨rfl, k4⟩
  have s6 := k4.stp 999 (col (fun _ => 1))
  refine ⟨_, rfl, ?_⟩
  replace hB := hB.stp s6 (by decide)
  refine st_val (ex_assign rfl) (by decide) trivial ?_
  refine wpF_end (r := [(2, (.int .i64 x2))]) ⟨rfl, trivial⟩ ?_
  refine nx ?_
  refine wpC_ret ?_
  have e8 := Option.some.inj hF
  subst e8
  refine ret_post (P := Try.prog) (vs := [(.int .i64 x2)]) Try.results75 ⟨rfl, trivial⟩ ?_
  exact ⟨rfl, hB.keeps⟩

def fS_waParts_s2 (p0 : T_WalkProblem) (x8 : List (List Bool)) (y31 : Int) : ((List Bool) × Int × (List Int)) → Option (Lp ((List Bool) × Int × (List Int)) ((List Bool) × Int × (List Int)) (List T_waPart)) := fun (s : (List Bool) × Int × (List Int)) =>
  if decide (s.2.1 < p0.Labels) then
    (ix x8 y31) >>= fun x105 =>
    (ix x105 s.2.1) >>= fun x115 =>
    (
      if x115 then
        (ix x8 s.2.1) >>= fun x125 =>
        (ix x125 y31) >>= fun x135 =>
        some x135
      else
        some false) >>= fun q121 =>
    if q121 then
      (push s.2.2 s.2.1) >>= fun x151 =>
      (ix s.1 s.2.1) >>= fun x160 =>
      (st s.1 s.2.1 true) >>= fun x169 =>
      (ck (s.2.1 + 1)) >>= fun x171 =>
      some (.go (x169, x171, x151))
    else
      (ck (s.2.1 + 1)) >>= fun x173 =>
      some (.go (s.1, x173, s.2.2))
  else
    some (.out (s.1, s.2.1, s.2.2))
def fS_waParts_s3 (y89 : List Int) (x176 : List Int) : Int → (List Int) → Int → Option (Lp Int Int (List T_waPart)) := fun (i188 : Int) (x198 : List Int) (s : Int) =>
  (
    (ix x198 0) >>= fun x210 =>
    (fS_l1Has y89 x210) >>= fun x213 =>
    if x213 then
      (ix x198 1) >>= fun x220 =>
      (fS_l1Has y89 x220) >>= fun x294 =>
      some x294
    else
      some false) >>= fun q206 =>
  if q206 then
    (ix x198 0) >>= fun x367 =>
    (ix x176 x367) >>= fun x370 =>
    (ck (x370 + 1)) >>= fun x373 =>
    (ix x198 1) >>= fun x374 =>
    (ix x176 x374) >>= fun x377 =>
    (ck (x373 - x377)) >>= fun x380 =>
    (fS_l1Abs x380) >>= fun x381 =>
    (fS_waGcd s x381) >>= fun x483 =>
    some (.go x483)
  else
    some (.go s)
def fS_waParts_s4 (x176 : List Int) (y185 : Int) : Int → Int → (List Int) → Option (Lp (List Int) (List Int) (List T_waPart)) := fun (i501 : Int) (x511 : Int) (s : List Int) =>
  (ix x176 x511) >>= fun x517 =>
  (rem x517 y185) >>= fun x520 =>
  (push s x520) >>= fun x583 =>
  some (.go x583)
def fS_waParts_s1 (fuel : Nat) (p0 : T_WalkProblem) (x8 : List (List Bool)) : ((List T_waPart) × (List Bool) × Int) → Option (Lp ((List T_waPart) × (List Bool) × Int) ((List T_waPart) × (List Bool) × Int) (List T_waPart)) := fun (s : (List T_waPart) × (List Bool) × Int) =>
  if decide (s.2.2 < p0.Labels) then
    (ix s.2.1 s.2.2) >>= fun x45 =>
    (
      if x45 then
        some true
      else
        (ix x8 s.2.2) >>= fun x55 =>
        (ix x55 s.2.2) >>= fun x65 =>
        some (!x65)) >>= fun q51 =>
    if q51 then
      (ck (s.2.2 + 1)) >>= fun x75 =>
      some (.go (s.1, s.2.1, x75))
    else
      (loopF (fS_waParts_s2 p0 x8 s.2.2) fuel (s.2.1, 0, [])) >>= fun q94 =>
      match q94 with
      | .inl (y86, y88, y89) =>
        (fS_waDepths fuel p0 y89) >>= fun x176 =>
        (forI (fS_waParts_s3 y89 x176) p0.Arcs 0 0) >>= fun q189 =>
        match q189 with
        | .inl y185 =>
          (forI (fS_waParts_s4 x176 y185) y89 0 []) >>= fun q502 =>
          match q502 with
          | .inl y496 =>
            (push s.1 (⟨y89, y185, y496⟩ : T_waPart)) >>= fun x604 =>
            (ck (s.2.2 + 1)) >>= fun x610 =>
            some (.go (x604, y86, x610))
          | .inr _ => none
        | .inr _ => none
      | .inr _ => none
  else
    some (.out (s.1, s.2.1, s.2.2))
def fS_waParts (fuel : Nat) (p0 : T_WalkProblem) : Option (List T_waPart) :=
  (fS_waReach fuel p0) >>= fun x8 =>
  (mk (Rz.z : Bool) p0.Labels) >>= fun x19 =>
  (loopF (fS_waParts_s1 fuel p0 x8) fuel ([], x19, 0)) >>= fun q34 =>
  match q34 with
  | .inl (y26, y29, y31) =>
    some y26
  | .inr _ => none

def pS_waParts (oo : Tg) (t : Nat) (w : World) (r : List T_waPart) : Ending → World → Prop := fun e w' => ∃ (v0 : Value) (o' : Tg), e = .returned (v0) ∧ Ow w.heap.size 60 t o' w' v0 r ∧ Keeps w w' ∧ ∀ b, b < w.heap.size → o' b = oo b
set_option maxRecDepth 100000 in
set_option maxHeartbeats 2000000 in
theorem cS_waParts (fuel : Nat) (w : World) (oo : Tg) (t : Nat) (ht : 2 ≤ t) (u0 : List Value) (p0 : T_WalkProblem) (g0 : Rp.rd zt w u0 p0) (r : List T_waPart) (hF : fS_waParts fuel p0 = some r) :
    Calls Try.prog 38 #[.agg u0.toArray] w (pS_waParts oo t w r) := by
  unfold fS_waParts at hF
  obtain ⟨v1, rfl, h2⟩ := g0
  have hB : Bs oo (col oo) w w := Bs.start _ _
  refine calls_start (n := 141) (vs := [(.agg #[(.int .i64 p0.Labels), v1])]) Try.func38 rfl rfl ?_
  generalize col oo = o at *
  refine wpC_seq ?_
  refine wpC_region ?_
  refine st_op (by decide) trivial ?_
  refine wf_box (o := o) w.heap.size 11 hB.keeps.size (cs := [(.int .i64 p0.Labels), v1]) rfl rfl ?_
  intro o3 w4 b5 h6 s7
  replace hB := hB.stp s7 (by decide)
  refine st_val (ex_assign rfl) (by decide) trivial ?_
  refine wpF_end (r := [(1, (.pointer (some ⟨b5, 0, none⟩)))]) ⟨rfl, trivial⟩ ?_
  refine nx ?_
  refine wpC_seq ?_
  refine wpC_region ?_
  refine st_val (ex_loadA rfl Try.isAgg29 Try.sizeOf29 rfl h6.cells) (by decide) trivial ?_
  obtain ⟨x8, hx8, hF⟩ := bind_some hF
  refine st_op (by decide) trivial ?_
  refine wf_call (cS_waReach fuel w4 o3 12 (by decide) _ p0 (⟨_, rfl, (h2.keep hB.keeps)⟩) x8 hx8) Try.call72 ⟨rfl, trivial⟩ ?_
  rintro e17 w9 ⟨v10, g12, o18, rfl, h11, h13, k14, k15⟩
  have s16 := k14.stp' 12 k15
  replace h11 := h11.mono hB.keeps.size
  replace h13 := h13.mono hB.keeps.size
  refine ⟨_, rfl, ?_⟩
  replace h6 := h6.stp s16 (by decide)
  replace hB := hB.stp s16 (by decide)
  refine st_val (ex_assign rfl) (by decide) trivial ?_
  refine wpF_end (r := [(1, (.pointer (some ⟨b5, 0, none⟩))), (3, v10)]) ⟨rfl, rfl, trivial⟩ ?_
  refine nx ?_
  refine wpC_seq ?_
  refine wpC_region ?_
  refine st_val (ex_assign rfl) (by decide) trivial ?_
  refine wpF_end (r := [(1, (.pointer (some ⟨b5, 0, none⟩))), (3, v10), (4, (.slice none 0 0))]) ⟨rfl, rfl, rfl, trivial⟩ ?_
  refine nx ?_
  refine wpC_seq ?_
  refine wpC_region ?_
  refine st_val (ex_field rfl Try.underlying29 rfl Try.sizeOf3) (by decide) trivial ?_
  refine st_val (ex_load1 rfl Try.isAgg3 (h6.cell rfl)) (by decide) trivial ?_
  obtain ⟨x19, hx19, hF⟩ := bind_some hF
  refine st_op (by decide) trivial ?_
  refine wf_make (o := o18) w.heap.size 14 hB.keeps.size hx19 rfl rfl Try.underlying87 info2_t_bool_Wa rfl (by decide) ?_
  intro o20 w21 v22 h23 s24
  replace h11 := h11.stp s24 (by decide) (by decide)
  replace h13 := h13.stp s24 (by decide) (by decide)
  replace h6 := h6.stp s24 (by decide)
  replace hB := hB.stp s24 (by decide)
  refine st_val (ex_assign rfl) (by decide) trivial ?_
  refine wpF_end (r := [(1, (.pointer (some ⟨b5, 0, none⟩))), (3, v10), (4, (.slice none 0 0)), (5, v22)]) ⟨rfl, rfl, rfl, rfl, trivial⟩ ?_
  refine nx ?_
  refine wpC_seq ?_
  refine wpC_seq ?_
  refine wpC_region ?_
  refine st_val (ex_assign rfl) (by decide) trivial ?_
  refine wpF_end (r := [(1, (.pointer (some ⟨b5, 0, none⟩))), (3, v10), (4, (.slice none 0 0)), (5, v22), (6, (.int .i64 0))]) ⟨rfl, rfl, rfl, rfl, rfl, trivial⟩ ?_
  refine nx ?_
  have h25 : Ow w.heap.size 60 15 o20 w21 (.slice none 0 0) ([] : List T_waPart) := Ow.nil _ _ _ _ _
  obtain ⟨q34, hq34, hF⟩ := bind_some hF
  refine wpC_cutN (fun a w33 => ∃ (y26 : List T_waPart) (y29 : List Bool) (y31 : Int) (v27 : Value) (o32 : Tg), q34 = .inl (y26, y29, y31) ∧ Fr a 141 [(4, v27)] ∧ Bs oo o32 w w33 ∧ Ow w.heap.size 60 15 o32 w33 v27 y26) (fun _ _ => False) ?_ ?_ ?_
  · refine wpC_block ?_
    refine wpC_loop (fun (K : Nat) a w33 => ∃ (y26 : List T_waPart) (y29 : List Bool) (y31 : Int) (v27 : Value) (o32 : Tg), loopF (fS_waParts_s1 fuel p0 x8) K (y26, y29, y31) = some q34 ∧ Fr a 141 [(1, (.pointer (some ⟨b5, 0, none⟩))), (3, v10), (4, v27), (5, v22), (6, (.int .i64 y31))] ∧ Bs oo o32 w w33 ∧ Ow w.heap.size 87 12 o32 w33 v10 g12 ∧ Rws w.heap.size 4 13 o32 w33 g12 x8 ∧ Ow w.heap.size 60 15 o32 w33 v27 y26 ∧ Ow w.heap.size 4 14 o32 w33 v22 y29 ∧ Bx w.heap.size 11 o32 w33 b5 29 [(.int .i64 p0.Labels), v1]) fuel (fun a ha => ⟨[], x19, 0, (.slice none 0 0), o20, hq34, ha.sub (r := [(1, (.pointer (some ⟨b5, 0, none⟩))), (3, v10), (4, (.slice none 0 0)), (5, v22), (6, (.int .i64 0))]) ⟨rfl, rfl, rfl, rfl, rfl, trivial⟩, hB, h11, h13, h25, h23, h6⟩) ?_
    rintro K38 a w33 ⟨y26, y29, y31, v27, o32, l35, ha, hB, h11, h13, h28, h30, h6⟩
    obtain ⟨K42, q39, e43, b40, n41⟩ := loopF_cons l35
    dsimp only [fS_waParts_s1] at b40
    refine wp_of ha ?_
    refine wpC_seq ?_
    refine wpC_seq ?_
    refine wpC_region ?_
    refine st_val (ex_move rfl) (by decide) trivial ?_
    refine st_val (ex_field rfl Try.underlying29 rfl Try.sizeOf3) (by decide) trivial ?_
    refine st_val (ex_load1 rfl Try.isAgg3 (h6.cell rfl)) (by decide) trivial ?_
    refine st_val (ex_lss rfl rfl) (by decide) trivial ?_
    refine wpF_end (r := [(1, (.pointer (some ⟨b5, 0, none⟩))), (3, v10), (4, v27), (5, v22), (6, (.int .i64 y31)), (22, (.bool (decide (y31 < p0.Labels))))]) ⟨rfl, rfl, rfl, rfl, rfl, rfl, trivial⟩ ?_
    refine nx ?_
    refine wpC_cond rfl (fun t44 => ?_) (fun t44 => ?_)
    · rw [if_pos t44] at b40
      refine wpC_skip ?_
      refine nx ?_
      refine wpC_seq ?_
      refine wpC_block ?_
      refine wpC_seq ?_
      refine wpC_seq ?_
      refine wpC_region ?_
      refine st_val (ex_move rfl) (by decide) trivial ?_
      refine st_val (ex_move rfl) (by decide) trivial ?_
      obtain ⟨x45, hx45, b40⟩ := bind_some b40
      refine st_op (by decide) trivial ?_
      refine wf_atW h30 hx45 rfl rfl Try.underlying87 Try.sizeOf4 ?_
      intro b46 f47 c48 h49 h50
      cases h50
      refine st_val (ex_load1 rfl Try.isAgg4 (cell_of_cells h49)) (by decide) trivial ?_
      refine st_val (ex_move rfl) (by decide) trivial ?_
      obtain ⟨q51, hq51, b40⟩ := bind_some b40
      refine wpF_cutAt 9 (fun a53 w52 => Fr a53 141 [(1, (.pointer (some ⟨b5, 0, none⟩))), (3, v10), (4, v27), (5, v22), (6, (.int .i64 y31)), (38, (.bool q51))] ∧ Keeps w33 w52) ?_ ?_
      all_goals simp only [List.take_succ_cons, List.take_zero, List.drop_succ_cons, List.drop_zero]
      · have kp : Keeps w33 w33 := Keeps.refl _
        rcases Bool.eq_false_or_eq_true (x45) with t54 | t54
        · rw [if_pos t54] at hq51
          refine st_no rfl rfl (by rw [t54]; rfl) (by decide) ?_
          refine st_no rfl rfl (by rw [t54]; rfl) (by decide) ?_
          refine st_no rfl rfl (by rw [t54]; rfl) (by decide) ?_
          refine st_no rfl rfl (by rw [t54]; rfl) (by decide) ?_
          refine st_no rfl rfl (by rw [t54]; rfl) (by decide) ?_
          refine st_no rfl rfl (by rw [t54]; rfl) (by decide) ?_
          refine st_no rfl rfl (by rw [t54]; rfl) (by decide) ?_
          refine st_no rfl rfl (by rw [t54]; rfl) (by decide) ?_
          refine st_val (ex_pick_t (congrArg (fun b => some (Value.bool b)) t54) rfl) (by decide) trivial ?_
          have hq512 := Option.some.inj hq51
          refine wpF_end (r := [(1, (.pointer (some ⟨b5, 0, none⟩))), (3, v10), (4, v27), (5, v22), (6, (.int .i64 y31)), (38, (.bool true))]) ⟨rfl, rfl, rfl, rfl, rfl, rfl, trivial⟩ ?_
          subst hq512
          refine np_norm (fun a ha => ⟨ha, kp⟩)
        · rw [if_neg (by rw [t54]; decide)] at hq51
          refine st_val (ex_move rfl) (by decide) ⟨_, rfl, (congrArg (fun b => some (Value.bool b)) t54)⟩ ?_
          refine st_val (ex_move rfl) (by decide) ⟨_, rfl, (congrArg (fun b => some (Value.bool b)) t54)⟩ ?_
          obtain ⟨x55, hx55, hq51⟩ := bind_some hq51
          obtain ⟨v56, h57, h58, h59⟩ := h13.ix hx55
          refine st_op (by decide) ⟨_, rfl, (congrArg (fun b => some (Value.bool b)) t54)⟩ ?_
          refine wf_atW h11 h57 rfl rfl Try.underlying85 Try.sizeOf87 ?_
          intro b60 f61 c62 h63 h64
          obtain ⟨rfl, -⟩ := h64
          refine st_val (ex_load1 rfl Try.isAgg87 (cell_of_cells h63)) (by decide) ⟨_, rfl, (congrArg (fun b => some (Value.bool b)) t54)⟩ ?_
          refine st_val (ex_move rfl) (by decide) ⟨_, rfl, (congrArg (fun b => some (Value.bool b)) t54)⟩ ?_
          obtain ⟨x65, hx65, hq51⟩ := bind_some hq51
          refine st_op (by decide) ⟨_, rfl, (congrArg (fun b => some (Value.bool b)) t54)⟩ ?_
          refine wf_atW (h13.at h58 h59) hx65 rfl rfl Try.underlying87 Try.sizeOf4 ?_
          intro b66 f67 c68 h69 h70
          cases h70
          refine st_val (ex_load1 rfl Try.isAgg4 (cell_of_cells h69)) (by decide) ⟨_, rfl, (congrArg (fun b => some (Value.bool b)) t54)⟩ ?_
          refine st_val (ex_not rfl) (by decide) ⟨_, rfl, (congrArg (fun b => some (Value.bool b)) t54)⟩ ?_
          refine st_val (ex_pick_f (congrArg (fun b => some (Value.bool b)) t54) rfl) (by decide) trivial ?_
          have hq512 := Option.some.inj hq51
          refine wpF_end (r := [(1, (.pointer (some ⟨b5, 0, none⟩))), (3, v10), (4, v27), (5, v22), (6, (.int .i64 y31)), (38, (.bool (!x65)))]) ⟨rfl, rfl, rfl, rfl, rfl, rfl, trivial⟩ ?_
          subst hq512
          refine np_norm (fun a ha => ⟨ha, kp⟩)
      rintro a73 w52 ⟨ha, k71⟩
      have s72 := k71.stp 999 o32
      replace h11 := h11.stp s72 (by decide) (by decide)
      replace h13 := h13.stp s72 (by decide) (by decide)
      replace h28 := h28.stp s72 (by decide) (by decide)
      replace h30 := h30.stp s72 (by decide) (by decide)
      replace h6 := h6.stp s72 (by decide)
      replace hB := hB.stp s72 (by decide)
      refine wl_of ha ?_
      refine wpF_end (r := [(1, (.pointer (some ⟨b5, 0, none⟩))), (3, v10), (4, v27), (5, v22), (6, (.int .i64 y31)), (38, (.bool q51))]) ⟨rfl, rfl, rfl, rfl, rfl, rfl, trivial⟩ ?_
      refine nx ?_
      refine wpC_cond rfl (fun t74 => ?_) (fun t74 => ?_)
      · rw [if_pos t74] at b40
        refine wpC_exit ?_
        refine nt_exit ?_
        refine nb_hit ?_
        refine nx ?_
        refine wpC_region ?_
        refine st_val (ex_move rfl) (by decide) trivial ?_
        obtain ⟨x75, hx75, b40⟩ := bind_some b40
        refine st_val (ex_add rfl rfl hx75) (by decide) trivial ?_
        refine st_val (ex_assign rfl) (by decide) trivial ?_
        refine wpF_end (r := [(1, (.pointer (some ⟨b5, 0, none⟩))), (3, v10), (4, v27), (5, v22), (6, (.int .i64 x75))]) ⟨rfl, rfl, rfl, rfl, rfl, trivial⟩ ?_
        refine nt_norm ?_
        have e76 := Option.some.inj b40
        subst e76
        refine to_k (r := [(1, (.pointer (some ⟨b5, 0, none⟩))), (3, v10), (4, v27), (5, v22), (6, (.int .i64 x75))]) ⟨rfl, rfl, rfl, rfl, rfl, trivial⟩ ?_
        intro a ha
        exact ⟨K42, by omega, y26, y29, x75, v27, o32, n41, ha, hB, h11, h13, h28, h30, h6⟩
      · rw [if_neg (by rw [t74]; decide)] at b40
        refine wpC_skip ?_
        refine nx ?_
        refine wpC_seq ?_
        refine wpC_region ?_
        refine st_val (ex_build (vs := []) (cs := [(.slice none 0 0), (.int .i64 0), (.slice none 0 0)]) trivial (by kernel_rfl)) (by decide) trivial ?_
        refine st_op (by decide) trivial ?_
        refine wf_alloc (o := o32) w.heap.size 16 hB.keeps.size (cs := [(.slice none 0 0), (.int .i64 0), (.slice none 0 0)]) Try.zeroValue60 rfl ?_
        intro o77 w78 b79 h80 s81
        replace h11 := h11.stp s81 (by decide) (by decide)
        replace h13 := h13.stp s81 (by decide) (by decide)
        replace h28 := h28.stp s81 (by decide) (by decide)
        replace h30 := h30.stp s81 (by decide) (by decide)
        replace h6 := h6.stp s81 (by decide)
        replace hB := hB.stp s81 (by decide)
        refine st_op0 trivial ?_
        refine wf_storeA h80 rfl rfl rfl info1_t_spec_waPart_Wa (by intro c hc; simp only [List.mem_cons, List.not_mem_nil, or_false] at hc; rcases hc with rfl | rfl | rfl <;> first | rfl) ?_
        intro w82 h84 s83
        replace h11 := h11.stp s83 (by decide) (by decide)
        replace h13 := h13.stp s83 (by decide) (by decide)
        replace h28 := h28.stp s83 (by decide) (by decide)
        replace h30 := h30.stp s83 (by decide) (by decide)
        replace h6 := h6.stp s83 (by decide)
        replace hB := hB.stp s83 (by decide)
        refine wpF_end (r := [(1, (.pointer (some ⟨b5, 0, none⟩))), (3, v10), (4, v27), (5, v22), (6, (.int .i64 y31)), (7, (.pointer (some ⟨b79, 0, none⟩)))]) ⟨rfl, rfl, rfl, rfl, rfl, rfl, trivial⟩ ?_
        refine nx ?_
        refine wpC_seq ?_
        refine wpC_seq ?_
        refine wpC_region ?_
        refine st_val (ex_assign rfl) (by decide) trivial ?_
        refine wpF_end (r := [(1, (.pointer (some ⟨b5, 0, none⟩))), (3, v10), (4, v27), (5, v22), (6, (.int .i64 y31)), (7, (.pointer (some ⟨b79, 0, none⟩))), (8, (.int .i64 0))]) ⟨rfl, rfl, rfl, rfl, rfl, rfl, rfl, trivial⟩ ?_
        refine nx ?_
        have h85 : Ow w.heap.size 3 17 o77 w82 (.slice none 0 0) ([] : List Int) := Ow.nil _ _ _ _ _
        obtain ⟨q94, hq94, b40⟩ := bind_some b40
        refine wpC_cutN (fun a w93 => ∃ (y86 : List Bool) (y88 : Int) (y89 : List Int) (v90 : Value) (o92 : Tg), q94 = .inl (y86, y88, y89) ∧ Fr a 141 [(1, (.pointer (some ⟨b5, 0, none⟩))), (3, v10), (4, v27), (5, v22), (6, (.int .i64 y31)), (7, (.pointer (some ⟨b79, 0, none⟩)))] ∧ Bs oo o92 w w93 ∧ Ow w.heap.size 87 12 o92 w93 v10 g12 ∧ Rws w.heap.size 4 13 o92 w93 g12 x8 ∧ Ow w.heap.size 60 15 o92 w93 v27 y26 ∧ Ow w.heap.size 4 14 o92 w93 v22 y86 ∧ Bx w.heap.size 11 o92 w93 b5 29 [(.int .i64 p0.Labels), v1] ∧ Bx w.heap.size 16 o92 w93 b79 60 [v90, (.int .i64 0), (.slice none 0 0)] ∧ Ow w.heap.size 3 17 o92 w93 v90 y89) (fun _ _ => False) ?_ ?_ ?_
        · refine wpC_block ?_
          refine wpC_loop (fun (K : Nat) a w93 => ∃ (y86 : List Bool) (y88 : Int) (y89 : List Int) (v90 : Value) (o92 : Tg), loopF (fS_waParts_s2 p0 x8 y31) K (y86, y88, y89) = some q94 ∧ Fr a 141 [(1, (.pointer (some ⟨b5, 0, none⟩))), (3, v10), (4, v27), (5, v22), (6, (.int .i64 y31)), (7, (.pointer (some ⟨b79, 0, none⟩))), (8, (.int .i64 y88))] ∧ Bs oo o92 w w93 ∧ Ow w.heap.size 87 12 o92 w93 v10 g12 ∧ Rws w.heap.size 4 13 o92 w93 g12 x8 ∧ Ow w.heap.size 60 15 o92 w93 v27 y26 ∧ Ow w.heap.size 4 14 o92 w93 v22 y86 ∧ Bx w.heap.size 11 o92 w93 b5 29 [(.int .i64 p0.Labels), v1] ∧ Bx w.heap.size 16 o92 w93 b79 60 [v90, (.int .i64 0), (.slice none 0 0)] ∧ Ow w.heap.size 3 17 o92 w93 v90 y89) fuel (fun a ha => ⟨y29, 0, [], (.slice none 0 0), o77, hq94, ha.sub (r := [(1, (.pointer (some ⟨b5, 0, none⟩))), (3, v10), (4, v27), (5, v22), (6, (.int .i64 y31)), (7, (.pointer (some ⟨b79, 0, none⟩))), (8, (.int .i64 0))]) ⟨rfl, rfl, rfl, rfl, rfl, rfl, rfl, trivial⟩, hB, h11, h13, h28, h30, h6, h84, h85⟩) ?_
          rintro K98 a w93 ⟨y86, y88, y89, v90, o92, l95, ha, hB, h11, h13, h28, h87, h6, h84, h91⟩
          obtain ⟨K102, q99, e103, b100, n101⟩ := loopF_cons l95
          dsimp only [fS_waParts_s2] at b100
          refine wp_of ha ?_
          refine wpC_seq ?_
          refine wpC_seq ?_
          refine wpC_region ?_
          refine st_val (ex_move rfl) (by decide) trivial ?_
          refine st_val (ex_field rfl Try.underlying29 rfl Try.sizeOf3) (by decide) trivial ?_
          refine st_val (ex_load1 rfl Try.isAgg3 (h6.cell rfl)) (by decide) trivial ?_
          refine st_val (ex_lss rfl rfl) (by decide) trivial ?_
          refine wpF_end (r := [(1, (.pointer (some ⟨b5, 0, none⟩))), (3, v10), (4, v27), (5, v22), (6, (.int .i64 y31)), (7, (.pointer (some ⟨b79, 0, none⟩))), (8, (.int .i64 y88)), (43, (.bool (decide (y88 < p0.Labels))))]) ⟨rfl, rfl, rfl, rfl, rfl, rfl, rfl, rfl, trivial⟩ ?_
          refine nx ?_
          refine wpC_cond rfl (fun t104 => ?_) (fun t104 => ?_)
          · rw [if_pos t104] at b100
            refine wpC_skip ?_
            refine nx ?_
            refine wpC_seq ?_
            refine wpC_block ?_
            refine wpC_seq ?_
            refine wpC_region ?_
            refine st_val (ex_move rfl) (by decide) trivial ?_
            refine st_val (ex_move rfl) (by decide) trivial ?_
            obtain ⟨x105, hx105, b100⟩ := bind_some b100
            obtain ⟨v106, h107, h108, h109⟩ := h13.ix hx105
            refine st_op (by decide) trivial ?_
            refine wf_atW h11 h107 rfl rfl Try.underlying85 Try.sizeOf87 ?_
            intro b110 f111 c112 h113 h114
            obtain ⟨rfl, -⟩ := h114
            refine st_val (ex_load1 rfl Try.isAgg87 (cell_of_cells h113)) (by decide) trivial ?_
            refine st_val (ex_move rfl) (by decide) trivial ?_
            obtain ⟨x115, hx115, b100⟩ := bind_some b100
            refine st_op (by decide) trivial ?_
            refine wf_atW (h13.at h108 h109) hx115 rfl rfl Try.underlying87 Try.sizeOf4 ?_
            intro b116 f117 c118 h119 h120
            cases h120
            refine st_val (ex_load1 rfl Try.isAgg4 (cell_of_cells h119)) (by decide) trivial ?_
            refine st_val (ex_move rfl) (by decide) trivial ?_
            obtain ⟨q121, hq121, b100⟩ := bind_some b100
            refine wpF_cutAt 8 (fun a123 w122 => Fr a123 141 [(1, (.pointer (some ⟨b5, 0, none⟩))), (3, v10), (4, v27), (5, v22), (6, (.int .i64 y31)), (7, (.pointer (some ⟨b79, 0, none⟩))), (8, (.int .i64 y88)), (61, (.bool q121))] ∧ Keeps w93 w122) ?_ ?_
            all_goals simp only [List.take_succ_cons, List.take_zero, List.drop_succ_cons, List.drop_zero]
            · have kp : Keeps w93 w93 := Keeps.refl _
              rcases Bool.eq_false_or_eq_true (x115) with t124 | t124
              · rw [if_pos t124] at hq121
                refine st_val (ex_move rfl) (by decide) ⟨_, rfl, (congrArg (fun b => some (Value.bool b)) t124)⟩ ?_
                refine st_val (ex_move rfl) (by decide) ⟨_, rfl, (congrArg (fun b => some (Value.bool b)) t124)⟩ ?_
                obtain ⟨x125, hx125, hq121⟩ := bind_some hq121
                obtain ⟨v126, h127, h128, h129⟩ := h13.ix hx125
                refine st_op (by decide) ⟨_, rfl, (congrArg (fun b => some (Value.bool b)) t124)⟩ ?_
                refine wf_atW h11 h127 rfl rfl Try.underlying85 Try.sizeOf87 ?_
                intro b130 f131 c132 h133 h134
                obtain ⟨rfl, -⟩ := h134
                refine st_val (ex_load1 rfl Try.isAgg87 (cell_of_cells h133)) (by decide) ⟨_, rfl, (congrArg (fun b => some (Value.bool b)) t124)⟩ ?_
                refine st_val (ex_move rfl) (by decide) ⟨_, rfl, (congrArg (fun b => some (Value.bool b)) t124)⟩ ?_
                obtain ⟨x135, hx135, hq121⟩ := bind_some hq121
                refine st_op (by decide) ⟨_, rfl, (congrArg (fun b => some (Value.bool b)) t124)⟩ ?_
                refine wf_atW (h13.at h128 h129) hx135 rfl rfl Try.underlying87 Try.sizeOf4 ?_
                intro b136 f137 c138 h139 h140
                cases h140
                refine st_val (ex_load1 rfl Try.isAgg4 (cell_of_cells h139)) (by decide) ⟨_, rfl, (congrArg (fun b => some (Value.bool b)) t124)⟩ ?_
                refine st_val (ex_pick_t (congrArg (fun b => some (Value.bool b)) t124) rfl) (by decide) trivial ?_
                have hq1212 := Option.some.inj hq121
                refine wpF_end (r := [(1, (.pointer (some ⟨b5, 0, none⟩))), (3, v10), (4, v27), (5, v22), (6, (.int .i64 y31)), (7, (.pointer (some ⟨b79, 0, none⟩))), (8, (.int .i64 y88)), (61, (.bool x135))]) ⟨rfl, rfl, rfl, rfl, rfl, rfl, rfl, rfl, trivial⟩ ?_
                subst hq1212
                refine np_norm (fun a ha => ⟨ha, kp⟩)
              · rw [if_neg (by rw [t124]; decide)] at hq121
                refine st_no rfl rfl (by rw [t124]; rfl) (by decide) ?_
                refine st_no rfl rfl (by rw [t124]; rfl) (by decide) ?_
                refine st_no rfl rfl (by rw [t124]; rfl) (by decide) ?_
                refine st_no rfl rfl (by rw [t124]; rfl) (by decide) ?_
                refine st_no rfl rfl (by rw [t124]; rfl) (by decide) ?_
                refine st_no rfl rfl (by rw [t124]; rfl) (by decide) ?_
                refine st_no rfl rfl (by rw [t124]; rfl) (by decide) ?_
                refine st_val (ex_pick_f (congrArg (fun b => some (Value.bool b)) t124) rfl) (by decide) trivial ?_
                have hq1212 := Option.some.inj hq121
                refine wpF_end (r := [(1, (.pointer (some ⟨b5, 0, none⟩))), (3, v10), (4, v27), (5, v22), (6, (.int .i64 y31)), (7, (.pointer (some ⟨b79, 0, none⟩))), (8, (.int .i64 y88)), (61, (.bool false))]) ⟨rfl, rfl, rfl, rfl, rfl, rfl, rfl, rfl, trivial⟩ ?_
                subst hq1212
                refine np_norm (fun a ha => ⟨ha, kp⟩)
            rintro a143 w122 ⟨ha, k141⟩
            have s142 := k141.stp 999 o92
            replace h11 := h11.stp s142 (by decide) (by decide)
            replace h13 := h13.stp s142 (by decide) (by decide)
            replace h28 := h28.stp s142 (by decide) (by decide)
            replace h87 := h87.stp s142 (by decide) (by decide)
            replace h6 := h6.stp s142 (by decide)
            replace h84 := h84.stp s142 (by decide)
            replace h91 := h91.stp s142 (by decide) (by decide)
            replace hB := hB.stp s142 (by decide)
            refine wl_of ha ?_
            refine wpF_end (r := [(1, (.pointer (some ⟨b5, 0, none⟩))), (3, v10), (4, v27), (5, v22), (6, (.int .i64 y31)), (7, (.pointer (some ⟨b79, 0, none⟩))), (8, (.int .i64 y88)), (61, (.bool q121))]) ⟨rfl, rfl, rfl, rfl, rfl, rfl, rfl, rfl, trivial⟩ ?_
            refine nx ?_
            refine wpC_cond rfl (fun t144 => ?_) (fun t144 => ?_)
            · rw [if_pos t144] at b100
              refine wpC_seq ?_
              refine wpC_region ?_
              refine st_val (ex_field rfl Try.underlying60 rfl Try.sizeOf26) (by decide) trivial ?_
              refine st_val (ex_load1 rfl Try.isAgg26 (h84.cell rfl)) (by decide) trivial ?_
              refine st_val (ex_move rfl) (by decide) trivial ?_
              refine st_op (by decide) trivial ?_
              refine wf_litR (o := o92) (cs := [(.int .i64 y88)]) (xs := ([y88] : List Int)) (vs := [(0, (.int .i64 y88))]) ⟨_, _, rfl, rfl, rfl⟩ rfl ⟨rfl, rfl, trivial⟩ Try.underlying26 Try.sizeOf3 Try.zeroValue3 (by decide) (fill1 rfl) (by simp) ?_
              intro o145 w146 v147 h148 s149 k150
              replace h11 := h11.stp s149 (by decide) (by decide)
              replace h13 := h13.stp s149 (by decide) (by decide)
              replace h28 := h28.stp s149 (by decide) (by decide)
              replace h87 := h87.stp s149 (by decide) (by decide)
              replace h91 := h91.stp s149 (by decide) (by decide)
              replace h6 := h6.stp s149 (by decide)
              replace h84 := h84.stp s149 (by decide)
              replace hB := hB.stp s149 (by decide)
              obtain ⟨x151, hx151, b100⟩ := bind_some b100
              refine st_op (by decide) trivial ?_
              refine wf_cat h91 h148 (push_cat hx151) (by decide) hB.keeps.size rfl rfl Try.underlying26 info2_t_int_Wa rfl (by decide) ?_
              intro o152 w153 v154 h155 s156
              replace h11 := h11.stp s156 (by decide) (by decide)
              replace h13 := h13.stp s156 (by decide) (by decide)
              replace h28 := h28.stp s156 (by decide) (by decide)
              replace h87 := h87.stp s156 (by decide) (by decide)
              replace h148 := h148.stp s156 (by decide)
              replace h6 := h6.stp s156 (by decide)
              replace h84 := h84.stp s156 (by decide)
              replace hB := hB.stp s156 (by decide)
              refine st_val (ex_field rfl Try.underlying60 rfl Try.sizeOf26) (by decide) trivial ?_
              refine st_op0 trivial ?_
              refine wf_storeB h84 rfl rfl (of_decide_eq_true rfl) Try.sizeOf26 h155.cells1 h155.one1 ?_
              intro w157 h159 s158
              replace h11 := h11.stp s158 (by decide) (by decide)
              replace h13 := h13.stp s158 (by decide) (by decide)
              replace h28 := h28.stp s158 (by decide) (by decide)
              replace h87 := h87.stp s158 (by decide) (by decide)
              replace h148 := h148.stp s158 (by decide)
              replace h155 := h155.stp s158 (by decide) (by decide)
              replace h6 := h6.stp s158 (by decide)
              replace hB := hB.stp s158 (by decide)
              replace h159 : Bx w.heap.size 16 o152 w157 b79 60 [v154, (.int .i64 0), (.slice none 0 0)] := h159
              refine wpF_end (r := [(1, (.pointer (some ⟨b5, 0, none⟩))), (3, v10), (4, v27), (5, v22), (6, (.int .i64 y31)), (7, (.pointer (some ⟨b79, 0, none⟩))), (8, (.int .i64 y88))]) ⟨rfl, rfl, rfl, rfl, rfl, rfl, rfl, trivial⟩ ?_
              refine nx ?_
              refine wpC_region ?_
              refine st_val (ex_move rfl) (by decide) trivial ?_
              refine st_val (ex_move rfl) (by decide) trivial ?_
              obtain ⟨x160, hx160, b100⟩ := bind_some b100
              refine st_op (by decide) trivial ?_
              refine wf_atP h87 hx160 rfl rfl Try.underlying87 Try.sizeOf4 ?_
              intro b161 c163 h166 h164 h165
              cases h165
              obtain ⟨x169, hx169, b100⟩ := bind_some b100
              refine st_op0 trivial ?_
              refine wf_storeW h87 h166 hx169 rfl (by decide) rfl rfl rfl Try.sizeOf4 rfl ?_
              intro w167 h170 s168
              replace h11 := h11.stp s168 (by decide) (by decide)
              replace h13 := h13.stp s168 (by decide) (by decide)
              replace h28 := h28.stp s168 (by decide) (by decide)
              replace h6 := h6.stp s168 (by decide)
              replace h159 := h159.stp s168 (by decide)
              replace h155 := h155.stp s168 (by decide) (by decide)
              replace hB := hB.stp s168 (by decide)
              refine wpF_end (r := [(1, (.pointer (some ⟨b5, 0, none⟩))), (3, v10), (4, v27), (5, v22), (6, (.int .i64 y31)), (7, (.pointer (some ⟨b79, 0, none⟩))), (8, (.int .i64 y88))]) ⟨rfl, rfl, rfl, rfl, rfl, rfl, rfl, trivial⟩ ?_
              refine nb_norm ?_
              refine nx ?_
              refine wpC_region ?_
              refine st_val (ex_move rfl) (by decide) trivial ?_
              obtain ⟨x171, hx171, b100⟩ := bind_some b100
              refine st_val (ex_add rfl rfl hx171) (by decide) trivial ?_
              refine st_val (ex_assign rfl) (by decide) trivial ?_
              refine wpF_end (r := [(1, (.pointer (some ⟨b5, 0, none⟩))), (3, v10), (4, v27), (5, v22), (6, (.int .i64 y31)), (7, (.pointer (some ⟨b79, 0, none⟩))), (8, (.int .i64 x171))]) ⟨rfl, rfl, rfl, rfl, rfl, rfl, rfl, trivial⟩ ?_
              refine nt_norm ?_
              have e172 := Option.some.inj b100
              subst e172
              refine to_k (r := [(1, (.pointer (some ⟨b5, 0, none⟩))), (3, v10), (4, v27), (5, v22), (6, (.int .i64 y31)), (7, (.pointer (some ⟨b79, 0, none⟩))), (8, (.int .i64 x171))]) ⟨rfl, rfl, rfl, rfl, rfl, rfl, rfl, trivial⟩ ?_
              intro a ha
              exact ⟨K102, by omega, x169, x171, x151, v154, o152, n101, ha, hB, h11, h13, h28, h170, h6, h159, h155⟩
            · rw [if_neg (by rw [t144]; decide)] at b100
              refine wpC_skip ?_
              refine nb_norm ?_
              refine nx ?_
              refine wpC_region ?_
              refine st_val (ex_move rfl) (by decide) trivial ?_
              obtain ⟨x173, hx173, b100⟩ := bind_some b100
              refine st_val (ex_add rfl rfl hx173) (by decide) trivial ?_
              refine st_val (ex_assign rfl) (by decide) trivial ?_
              refine wpF_end (r := [(1, (.pointer (some ⟨b5, 0, none⟩))), (3, v10), (4, v27), (5, v22), (6, (.int .i64 y31)), (7, (.pointer (some ⟨b79, 0, none⟩))), (8, (.int .i64 x173))]) ⟨rfl, rfl, rfl, rfl, rfl, rfl, rfl, trivial⟩ ?_
              refine nt_norm ?_
              have e174 := Option.some.inj b100
              subst e174
              refine to_k (r := [(1, (.pointer (some ⟨b5, 0, none⟩))), (3, v10), (4, v27), (5, v22), (6, (.int .i64 y31)), (7, (.pointer (some ⟨b79, 0, none⟩))), (8, (.int .i64 x173))]) ⟨rfl, rfl, rfl, rfl, rfl, rfl, rfl, trivial⟩ ?_
              intro a ha
              exact ⟨K102, by omega, y86, x173, y89, v90, o92, n101, ha, hB, h11, h13, h28, h87, h6, h84, h91⟩
          · rw [if_neg (by rw [t104]; decide)] at b100
            refine wpC_exit ?_
            refine nt_exit ?_
            refine nt_exit ?_
            refine nb_hit ?_
            refine np_norm ?_
            have e175 := Option.some.inj b100
            subst e175
            refine to_k (r := [(1, (.pointer (some ⟨b5, 0, none⟩))), (3, v10), (4, v27), (5, v22), (6, (.int .i64 y31)), (7, (.pointer (some ⟨b79, 0, none⟩)))]) ⟨rfl, rfl, rfl, rfl, rfl, rfl, trivial⟩ ?_
            intro a ha
            exact ⟨y86, y88, y89, v90, o92, n101, ha, hB, h11, h13, h28, h87, h6, h84, h91⟩
        · rintro a w93 ⟨y86, y88, y89, v90, o92, rfl, ha, hB, h11, h13, h28, h87, h6, h84, h91⟩
          dsimp only at b40
          refine ap_k ha ?_
          refine nx ?_
          refine wpC_seq ?_
          refine wpC_region ?_
          refine st_val (ex_loadA rfl Try.isAgg29 Try.sizeOf29 rfl h6.cells) (by decide) trivial ?_
          refine st_val (ex_field rfl Try.underlying60 rfl Try.sizeOf26) (by decide) trivial ?_
          refine st_val (ex_load1 rfl Try.isAgg26 (h84.cell rfl)) (by decide) trivial ?_
          obtain ⟨x176, hx176, b40⟩ := bind_some b40
          refine st_op (by decide) trivial ?_
          refine wf_call (cS_waDepths fuel w93 o92 18 (by decide) _ p0 (⟨_, rfl, (h2.keep hB.keeps)⟩) _ y89 h91.z x176 hx176) Try.call73 ⟨rfl, rfl, trivial⟩ ?_
          rintro e183 w177 ⟨v178, o184, rfl, h179, k180, k181⟩
          have s182 := k180.stp' 18 k181
          replace h179 := h179.mono hB.keeps.size
          refine ⟨_, rfl, ?_⟩
          replace h11 := h11.stp s182 (by decide) (by decide)
          replace h13 := h13.stp s182 (by decide) (by decide)
          replace h28 := h28.stp s182 (by decide) (by decide)
          replace h87 := h87.stp s182 (by decide) (by decide)
          replace h91 := h91.stp s182 (by decide) (by decide)
          replace h6 := h6.stp s182 (by decide)
          replace h84 := h84.stp s182 (by decide)
          replace hB := hB.stp s182 (by decide)
          refine st_val (ex_assign rfl) (by decide) trivial ?_
          refine wpF_end (r := [(1, (.pointer (some ⟨b5, 0, none⟩))), (3, v10), (4, v27), (5, v22), (6, (.int .i64 y31)), (7, (.pointer (some ⟨b79, 0, none⟩))), (9, v178)]) ⟨rfl, rfl, rfl, rfl, rfl, rfl, rfl, trivial⟩ ?_
          refine nx ?_
          refine wpC_seq ?_
          refine wpC_seq ?_
          refine wpC_region ?_
          refine st_val (ex_field rfl Try.underlying29 rfl Try.sizeOf22) (by decide) trivial ?_
          refine st_val (ex_load1 rfl Try.isAgg22 (h6.cell rfl)) (by decide) trivial ?_
          refine st_val (ex_lenR rfl h2 Try.underlying22) (by decide) trivial ?_
          refine st_val (ex_move rfl) (by decide) trivial ?_
          refine wpF_end (r := [(1, (.pointer (some ⟨b5, 0, none⟩))), (3, v10), (4, v27), (5, v22), (6, (.int .i64 y31)), (7, (.pointer (some ⟨b79, 0, none⟩))), (9, v178), (76, v1), (77, (.int .i64 (p0.Arcs.length : Int))), (78, (.int .i64 0))]) ⟨rfl, rfl, rfl, rfl, rfl, rfl, rfl, rfl, rfl, rfl, trivial⟩ ?_
          refine nx ?_
          obtain ⟨q189, hq189, b40⟩ := bind_some b40
          refine wpC_cutN (fun a w187 => ∃ (y185 : Int) (o186 : Tg), q189 = .inl y185 ∧ Fr a 141 [(1, (.pointer (some ⟨b5, 0, none⟩))), (3, v10), (4, v27), (5, v22), (6, (.int .i64 y31)), (7, (.pointer (some ⟨b79, 0, none⟩))), (9, v178)] ∧ Bs oo o186 w w187 ∧ Ow w.heap.size 87 12 o186 w187 v10 g12 ∧ Rws w.heap.size 4 13 o186 w187 g12 x8 ∧ Ow w.heap.size 60 15 o186 w187 v27 y26 ∧ Ow w.heap.size 4 14 o186 w187 v22 y86 ∧ Ow w.heap.size 3 18 o186 w187 v178 x176 ∧ Bx w.heap.size 11 o186 w187 b5 29 [(.int .i64 p0.Labels), v1] ∧ Bx w.heap.size 16 o186 w187 b79 60 [v90, (.int .i64 y185), (.slice none 0 0)] ∧ Ow w.heap.size 3 17 o186 w187 v90 y89) (fun _ _ => False) ?_ ?_ ?_
          · refine wpC_block ?_
            refine wpC_loop (fun (K : Nat) a w187 => ∃ (i188 : Int) (y185 : Int) (o186 : Tg), forI (fS_waParts_s3 y89 x176) (p0.Arcs.drop i188.toNat) i188 y185 = some q189 ∧ (p0.Arcs.drop i188.toNat).length = K ∧ 0 ≤ i188 ∧ Fr a 141 [(1, (.pointer (some ⟨b5, 0, none⟩))), (3, v10), (4, v27), (5, v22), (6, (.int .i64 y31)), (7, (.pointer (some ⟨b79, 0, none⟩))), (9, v178), (76, v1), (77, (.int .i64 (p0.Arcs.length : Int))), (78, (.int .i64 i188))] ∧ Bs oo o186 w w187 ∧ Ow w.heap.size 87 12 o186 w187 v10 g12 ∧ Rws w.heap.size 4 13 o186 w187 g12 x8 ∧ Ow w.heap.size 60 15 o186 w187 v27 y26 ∧ Ow w.heap.size 4 14 o186 w187 v22 y86 ∧ Ow w.heap.size 3 18 o186 w187 v178 x176 ∧ Bx w.heap.size 11 o186 w187 b5 29 [(.int .i64 p0.Labels), v1] ∧ Bx w.heap.size 16 o186 w187 b79 60 [v90, (.int .i64 y185), (.slice none 0 0)] ∧ Ow w.heap.size 3 17 o186 w187 v90 y89) _ (fun a ha => ⟨0, 0, o184, hq189, rfl, Int.le_refl 0, ha.sub (r := [(1, (.pointer (some ⟨b5, 0, none⟩))), (3, v10), (4, v27), (5, v22), (6, (.int .i64 y31)), (7, (.pointer (some ⟨b79, 0, none⟩))), (9, v178), (76, v1), (77, (.int .i64 (p0.Arcs.length : Int))), (78, (.int .i64 0))]) ⟨rfl, rfl, rfl, rfl, rfl, rfl, rfl, rfl, rfl, rfl, trivial⟩, hB, h11, h13, h28, h87, h179, h6, h84, h91⟩) ?_
            rintro K193 a w187 ⟨i188, y185, o186, l190, m192, z191, ha, hB, h11, h13, h28, h87, h179, h6, h84, h91⟩
            by_cases t197 : i188 < (p0.Arcs.length : Int)
            · obtain ⟨x198, q194, hx198, b195, n196⟩ := forI_cons z191 t197 l190
              have hle := h2.len_le
              dsimp only [fS_waParts_s3] at b195
              refine wp_of ha ?_
              refine wpC_seq ?_
              refine wpC_region ?_
              refine st_val (ex_lss rfl rfl) (by decide) trivial ?_
              refine wpF_end (r := [(1, (.pointer (some ⟨b5, 0, none⟩))), (3, v10), (4, v27), (5, v22), (6, (.int .i64 y31)), (7, (.pointer (some ⟨b79, 0, none⟩))), (9, v178), (76, v1), (77, (.int .i64 (p0.Arcs.length : Int))), (78, (.int .i64 i188)), (79, (.bool (decide (i188 < (p0.Arcs.length : Int)))))]) ⟨rfl, rfl, rfl, rfl, rfl, rfl, rfl, rfl, rfl, rfl, rfl, trivial⟩ ?_
              refine nx ?_
              refine wpC_seq ?_
              refine wpC_true (congrArg (fun b => some (Value.bool b)) (decide_eq_true t197)) ?_
              refine wpC_skip ?_
              refine nx ?_
              refine wpC_seq ?_
              refine wpC_block ?_
              refine wpC_seq ?_
              refine wpC_region ?_
              refine st_op (by decide) trivial ?_
              refine wf_atZ h2 hx198 hB rfl rfl Try.underlying22 Try.sizeOf26 ?_
              intro b199 f200 c201 h202 h203
              obtain ⟨v204, rfl, h205⟩ := h203
              refine st_val (ex_load1 rfl Try.isAgg26 (cell_of_cells h202)) (by decide) trivial ?_
              refine st_val (ex_assign rfl) (by decide) trivial ?_
              refine wpF_end (r := [(1, (.pointer (some ⟨b5, 0, none⟩))), (3, v10), (4, v27), (5, v22), (6, (.int .i64 y31)), (7, (.pointer (some ⟨b79, 0, none⟩))), (9, v178), (11, v204), (76, v1), (77, (.int .i64 (p0.Arcs.length : Int))), (78, (.int .i64 i188))]) ⟨rfl, rfl, rfl, rfl, rfl, rfl, rfl, rfl, rfl, rfl, rfl, trivial⟩ ?_
              refine nx ?_
              refine wpC_seq ?_
              obtain ⟨q206, hq206, b195⟩ := bind_some b195
              refine wpC_cutN (fun a209 w208 => ∃ o207 : Tg, Fr a209 141 [(1, (.pointer (some ⟨b5, 0, none⟩))), (3, v10), (4, v27), (5, v22), (6, (.int .i64 y31)), (7, (.pointer (some ⟨b79, 0, none⟩))), (9, v178), (11, v204), (76, v1), (77, (.int .i64 (p0.Arcs.length : Int))), (78, (.int .i64 i188)), (95, (.bool q206))] ∧ Bs oo o207 w w208 ∧ Ow w.heap.size 87 12 o207 w208 v10 g12 ∧ Rws w.heap.size 4 13 o207 w208 g12 x8 ∧ Ow w.heap.size 60 15 o207 w208 v27 y26 ∧ Ow w.heap.size 4 14 o207 w208 v22 y86 ∧ Ow w.heap.size 3 18 o207 w208 v178 x176 ∧ Bx w.heap.size 11 o207 w208 b5 29 [(.int .i64 p0.Labels), v1] ∧ Bx w.heap.size 16 o207 w208 b79 60 [v90, (.int .i64 y185), (.slice none 0 0)] ∧ Ow w.heap.size 3 17 o207 w208 v90 y89) (fun _ _ => False) ?_ ?_ (fun _ _ h => h.elim)
              · obtain ⟨x210, hx210, hq206⟩ := bind_some hq206
                obtain ⟨x213, hx213, hq206⟩ := bind_some hq206
                rcases Bool.eq_false_or_eq_true (x213) with t219 | t219
                · rw [if_pos t219] at hq206
                  obtain ⟨x220, hx220, hq206⟩ := bind_some hq206
                  refine wpC_drawn (o := o186) [(1, (.pointer (some ⟨b5, 0, none⟩))), (3, v10), (4, v27), (5, v22), (6, (.int .i64 y31)), (7, (.pointer (some ⟨b79, 0, none⟩))), (9, v178), (11, v204), (76, v1), (77, (.int .i64 (p0.Arcs.length : Int))), (78, (.int .i64 i188))] [1, 3, 4, 5, 6, 7, 9, 11, 76, 77, 78] [82, 83, 84, 85, 86, 87, 88, 89, 90, 91, 92, 93] [[], [0], [], [2], [3], [1, 4], [5], [6], [6, 7], [6], [6, 9], [6, 10]] [none, none, none, none, none, none, none, none, none, none, none, none] [999, 999, 999, 999, 999, 999, 999, 999, 999, 999, 999, 999] [0, 0, 0, 0, 0, 0, 0, 0, 0, 0, 0, 0] [999] [fun v _ _ => v = (.pointer (some ⟨b79, 0 + 0, none⟩)), fun v _ _ => v = v90, fun v _ _ => v = v204, fun v o w9 => ∃ vl, v = adr vl ((0 : Int).toNat * Rp.sz Int) ∧ RdL zt w vl x198, fun v _ _ => v = (.int .i64 x210), fun v _ _ => v = (.bool x213), fun v _ _ => v = (.bool x213), fun v _ _ => v = (.pointer (some ⟨b79, 0 + 0, none⟩)), fun v _ _ => v = v90, fun v _ _ => v = v204, fun v o w9 => ∃ vl, v = adr vl ((1 : Int).toNat * Rp.sz Int) ∧ RdL zt w vl x198, fun v _ _ => v = (.int .i64 x220)] (fun o8 w8 => Bs oo o8 w w8 ∧ Ow w.heap.size 87 12 o8 w8 v10 g12 ∧ Rws w.heap.size 4 13 o8 w8 g12 x8 ∧ Ow w.heap.size 60 15 o8 w8 v27 y26 ∧ Ow w.heap.size 4 14 o8 w8 v22 y86 ∧ Ow w.heap.size 3 18 o8 w8 v178 x176 ∧ Bx w.heap.size 11 o8 w8 b5 29 [(.int .i64 p0.Labels), v1] ∧ Bx w.heap.size 16 o8 w8 b79 60 [v90, (.int .i64 y185), (.slice none 0 0)] ∧ Ow w.heap.size 3 17 o8 w8 v90 y89) follows_mixed (by kernel_rfl) rfl ⟨rfl, rfl, rfl, rfl, rfl, rfl, rfl, rfl, rfl, rfl, rfl, trivial⟩ ⟨hB, h11, h13, h28, h87, h179, h6, h84, h91⟩ ?_ ⟨st_eq _, st_eq _, st_eq _, fun _ _ _ _ _ _ h0 hb ⟨vl, e, h⟩ hs => ⟨vl, e, h⟩, st_eq _, st_eq _, st_eq _, st_eq _, st_eq _, st_eq _, fun _ _ _ _ _ _ h0 hb ⟨vl, e, h⟩ hs => ⟨vl, e, h⟩, st_eq _, trivial⟩ ?_ ?_
                  · rintro t9 o1 w1 o2 w2 ht9 ⟨hB, h11, h13, h28, h87, h179, h6, h84, h91⟩ hs9
                    have ht9 : t9 = 999 := by simpa using ht9
                    subst ht9
                    all_goals exact ⟨hB.stp hs9 (by decide), h11.stp hs9 (by decide) (by decide), h13.stp hs9 (by decide) (by decide), h28.stp hs9 (by decide) (by decide), h87.stp hs9 (by decide) (by decide), h179.stp hs9 (by decide) (by decide), h6.stp hs9 (by decide), h84.stp hs9 (by decide), h91.stp hs9 (by decide) (by decide)⟩
                  · refine ⟨?_, ?_, ?_, ?_, ?_, ?_, ?_, ?_, ?_, ?_, ?_, ?_, trivial⟩
                    · rintro o223 w224 a225 ha ⟨hB, h11, h13, h28, h87, h179, h6, h84, h91⟩ -
                      refine opS_of ha (trivial) ?_
                      refine op1_val (ex_field rfl Try.underlying60 rfl Try.sizeOf26) ?_
                      exact ⟨_, Stp.refl _ _ _, rfl⟩
                    · rintro o226 w227 a228 ha ⟨hB, h11, h13, h28, h87, h179, h6, h84, h91⟩ ⟨r229, -⟩
                      have ha := Fr.cons (d := 82) ha r229
                      refine opS_of ha (trivial) ?_
                      refine op1_val (ex_load1 rfl Try.isAgg26 (h84.cell rfl)) ?_
                      exact ⟨_, Stp.refl _ _ _, rfl⟩
                    · rintro o230 w231 a232 ha ⟨hB, h11, h13, h28, h87, h179, h6, h84, h91⟩ -
                      refine opS_of ha (trivial) ?_
                      refine op1_val (ex_move rfl) ?_
                      exact ⟨_, Stp.refl _ _ _, rfl⟩
                    · rintro o233 w234 a235 ha ⟨hB, h11, h13, h28, h87, h179, h6, h84, h91⟩ ⟨r236, -⟩
                      have ha := Fr.cons (d := 84) ha r236
                      refine opS_of ha (trivial) ?_
                      refine wd_indexR h205 hx210 rfl rfl Try.underlying26 Try.sizeOf3 ?_
                      exact ⟨_, Stp.refl _ _ _, ⟨_, rfl, h205⟩⟩
                    · rintro o237 w238 a239 ha ⟨hB, h11, h13, h28, h87, h179, h6, h84, h91⟩ ⟨r240, -⟩
                      obtain ⟨v241, e242, h243⟩ := r240
                      have ha := Fr.cons (d := 85) ha e242
                      refine opS_of ha (trivial) ?_
                      refine wd_load1Z h243 hx210 hB rfl rfl Try.isAgg3 ?_
                      intro c244 h245
                      cases h245
                      exact ⟨_, Stp.refl _ _ _, rfl⟩
                    · rintro o246 w247 a248 ha ⟨hB, h11, h13, h28, h87, h179, h6, h84, h91⟩ ⟨r249, r250, -⟩
                      have ha := Fr.cons (d := 83) ha r249
                      have ha := Fr.cons (d := 86) ha r250
                      refine opS_of ha (trivial) ?_
                      refine wf_call (cS_l1Has w247 _ y89 h91.z x210 x213 hx213) Try.call61 ⟨rfl, rfl, trivial⟩ ?_
                      rintro e255 w251 ⟨rfl, k252⟩
                      have s254 := k252.stp 999 o246
                      refine ⟨_, rfl, ?_⟩
                      replace h11 := h11.stp s254 (by decide) (by decide)
                      replace h13 := h13.stp s254 (by decide) (by decide)
                      replace h28 := h28.stp s254 (by decide) (by decide)
                      replace h87 := h87.stp s254 (by decide) (by decide)
                      replace h179 := h179.stp s254 (by decide) (by decide)
                      replace h91 := h91.stp s254 (by decide) (by decide)
                      replace h6 := h6.stp s254 (by decide)
                      replace h84 := h84.stp s254 (by decide)
                      replace hB := hB.stp s254 (by decide)
                      exact ⟨_, s254, rfl⟩
                    · rintro o256 w257 a258 ha ⟨hB, h11, h13, h28, h87, h179, h6, h84, h91⟩ ⟨r259, -⟩
                      have ha := Fr.cons (d := 87) ha r259
                      refine opS_of ha (trivial) ?_
                      refine op1_val (ex_move rfl) ?_
                      exact ⟨_, Stp.refl _ _ _, rfl⟩
                    · rintro o260 w261 a262 ha ⟨hB, h11, h13, h28, h87, h179, h6, h84, h91⟩ ⟨r263, -⟩
                      have ha := Fr.cons (d := 88) ha r263
                      refine opS_of ha (⟨_, rfl, (congrArg (fun b => some (Value.bool b)) t219)⟩) ?_
                      refine op1_val (ex_field rfl Try.underlying60 rfl Try.sizeOf26) ?_
                      exact ⟨_, Stp.refl _ _ _, rfl⟩
                    · rintro o264 w265 a266 ha ⟨hB, h11, h13, h28, h87, h179, h6, h84, h91⟩ ⟨r267, r268, -⟩
                      have ha := Fr.cons (d := 88) ha r267
                      have ha := Fr.cons (d := 89) ha r268
                      refine opS_of ha (⟨_, rfl, (congrArg (fun b => some (Value.bool b)) t219)⟩) ?_
                      refine op1_val (ex_load1 rfl Try.isAgg26 (h84.cell rfl)) ?_
                      exact ⟨_, Stp.refl _ _ _, rfl⟩
                    · rintro o269 w270 a271 ha ⟨hB, h11, h13, h28, h87, h179, h6, h84, h91⟩ ⟨r272, -⟩
                      have ha := Fr.cons (d := 88) ha r272
                      refine opS_of ha (⟨_, rfl, (congrArg (fun b => some (Value.bool b)) t219)⟩) ?_
                      refine op1_val (ex_move rfl) ?_
                      exact ⟨_, Stp.refl _ _ _, rfl⟩
                    · rintro o273 w274 a275 ha ⟨hB, h11, h13, h28, h87, h179, h6, h84, h91⟩ ⟨r276, r277, -⟩
                      have ha := Fr.cons (d := 88) ha r276
                      have ha := Fr.cons (d := 91) ha r277
                      refine opS_of ha (⟨_, rfl, (congrArg (fun b => some (Value.bool b)) t219)⟩) ?_
                      refine wd_indexR h205 hx220 rfl rfl Try.underlying26 Try.sizeOf3 ?_
                      exact ⟨_, Stp.refl _ _ _, ⟨_, rfl, h205⟩⟩
                    · rintro o278 w279 a280 ha ⟨hB, h11, h13, h28, h87, h179, h6, h84, h91⟩ ⟨r281, r282, -⟩
                      have ha := Fr.cons (d := 88) ha r281
                      obtain ⟨v283, e284, h285⟩ := r282
                      have ha := Fr.cons (d := 92) ha e284
                      refine opS_of ha (⟨_, rfl, (congrArg (fun b => some (Value.bool b)) t219)⟩) ?_
                      refine wd_load1Z h285 hx220 hB rfl rfl Try.isAgg3 ?_
                      intro c286 h287
                      cases h287
                      exact ⟨_, Stp.refl _ _ _, rfl⟩
                  rintro o288 w289 a290 ha ⟨hB, h11, h13, h28, h87, h179, h6, h84, h91⟩ ⟨-, -, -, -, -, -, r291, -, r292, -, -, r293, -⟩
                  have ha := Fr.cons (d := 88) ha r291
                  have ha := Fr.cons (d := 90) ha r292
                  have ha := Fr.cons (d := 93) ha r293
                  refine wl_of ha ?_
                  simp only [List.length_cons, List.length_nil, Nat.zero_add, Nat.reduceAdd, List.drop_succ_cons, List.drop_zero]
                  obtain ⟨x294, hx294, hq206⟩ := bind_some hq206
                  refine st_op (by decide) ⟨_, rfl, (congrArg (fun b => some (Value.bool b)) t219)⟩ ?_
                  refine wf_call (cS_l1Has w289 _ y89 h91.z x220 x294 hx294) Try.call61 ⟨rfl, rfl, trivial⟩ ?_
                  rintro e299 w295 ⟨rfl, k296⟩
                  have s298 := k296.stp 999 o288
                  refine ⟨_, rfl, ?_⟩
                  replace h11 := h11.stp s298 (by decide) (by decide)
                  replace h13 := h13.stp s298 (by decide) (by decide)
                  replace h28 := h28.stp s298 (by decide) (by decide)
                  replace h87 := h87.stp s298 (by decide) (by decide)
                  replace h179 := h179.stp s298 (by decide) (by decide)
                  replace h91 := h91.stp s298 (by decide) (by decide)
                  replace h6 := h6.stp s298 (by decide)
                  replace h84 := h84.stp s298 (by decide)
                  replace hB := hB.stp s298 (by decide)
                  refine st_val (ex_pick_t (congrArg (fun b => some (Value.bool b)) t219) rfl) (by decide) trivial ?_
                  have e300 := Option.some.inj hq206
                  subst e300
                  refine wpF_end (r := [(1, (.pointer (some ⟨b5, 0, none⟩))), (3, v10), (4, v27), (5, v22), (6, (.int .i64 y31)), (7, (.pointer (some ⟨b79, 0, none⟩))), (9, v178), (11, v204), (76, v1), (77, (.int .i64 (p0.Arcs.length : Int))), (78, (.int .i64 i188)), (95, (.bool x294))]) ⟨rfl, rfl, rfl, rfl, rfl, rfl, rfl, rfl, rfl, rfl, rfl, rfl, trivial⟩ ?_
                  refine np_norm (fun a ha => ⟨o288, ha, hB, h11, h13, h28, h87, h179, h6, h84, h91⟩)
                · rw [if_neg (by rw [t219]; decide)] at hq206
                  refine wpC_drawn (o := o186) [(1, (.pointer (some ⟨b5, 0, none⟩))), (3, v10), (4, v27), (5, v22), (6, (.int .i64 y31)), (7, (.pointer (some ⟨b79, 0, none⟩))), (9, v178), (11, v204), (76, v1), (77, (.int .i64 (p0.Arcs.length : Int))), (78, (.int .i64 i188))] [1, 3, 4, 5, 6, 7, 9, 11, 76, 77, 78] [82, 83, 84, 85, 86, 87, 88, 89, 90, 91, 92, 93] [[], [0], [], [2], [3], [1, 4], [5], [6], [6], [6], [6], [6]] [none, none, none, none, none, none, none, none, none, none, none, none] [999, 999, 999, 999, 999, 999, 999, 999, 999, 999, 999, 999] [0, 0, 0, 0, 0, 0, 0, 0, 0, 0, 0, 0] [999] [fun v _ _ => v = (.pointer (some ⟨b79, 0 + 0, none⟩)), fun v _ _ => v = v90, fun v _ _ => v = v204, fun v o w9 => ∃ vl, v = adr vl ((0 : Int).toNat * Rp.sz Int) ∧ RdL zt w vl x198, fun v _ _ => v = (.int .i64 x210), fun v _ _ => v = (.bool x213), fun v _ _ => v = (.bool x213), fun v _ _ => v = undef, fun v _ _ => v = undef, fun v _ _ => v = undef, fun v _ _ => v = undef, fun v _ _ => v = undef] (fun o8 w8 => Bs oo o8 w w8 ∧ Ow w.heap.size 87 12 o8 w8 v10 g12 ∧ Rws w.heap.size 4 13 o8 w8 g12 x8 ∧ Ow w.heap.size 60 15 o8 w8 v27 y26 ∧ Ow w.heap.size 4 14 o8 w8 v22 y86 ∧ Ow w.heap.size 3 18 o8 w8 v178 x176 ∧ Bx w.heap.size 11 o8 w8 b5 29 [(.int .i64 p0.Labels), v1] ∧ Bx w.heap.size 16 o8 w8 b79 60 [v90, (.int .i64 y185), (.slice none 0 0)] ∧ Ow w.heap.size 3 17 o8 w8 v90 y89) follows_mixed (by kernel_rfl) rfl ⟨rfl, rfl, rfl, rfl, rfl, rfl, rfl, rfl, rfl, rfl, rfl, trivial⟩ ⟨hB, h11, h13, h28, h87, h179, h6, h84, h91⟩ ?_ ⟨st_eq _, st_eq _, st_eq _, fun _ _ _ _ _ _ h0 hb ⟨vl, e, h⟩ hs => ⟨vl, e, h⟩, st_eq _, st_eq _, st_eq _, st_eq _, st_eq _, st_eq _, st_eq _, st_eq _, trivial⟩ ?_ ?_
                  · rintro t9 o1 w1 o2 w2 ht9 ⟨hB, h11, h13, h28, h87, h179, h6, h84, h91⟩ hs9
                    have ht9 : t9 = 999 := by simpa using ht9
                    subst ht9
                    all_goals exact ⟨hB.stp hs9 (by decide), h11.stp hs9 (by decide) (by decide), h13.stp hs9 (by decide) (by decide), h28.stp hs9 (by decide) (by decide), h87.stp hs9 (by decide) (by decide), h179.stp hs9 (by decide) (by decide), h6.stp hs9 (by decide), h84.stp hs9 (by decide), h91.stp hs9 (by decide) (by decide)⟩
                  · refine ⟨?_, ?_, ?_, ?_, ?_, ?_, ?_, ?_, ?_, ?_, ?_, ?_, trivial⟩
                    · rintro o301 w302 a303 ha ⟨hB, h11, h13, h28, h87, h179, h6, h84, h91⟩ -
                      refine opS_of ha (trivial) ?_
                      refine op1_val (ex_field rfl Try.underlying60 rfl Try.sizeOf26) ?_
                      exact ⟨_, Stp.refl _ _ _, rfl⟩
                    · rintro o304 w305 a306 ha ⟨hB, h11, h13, h28, h87, h179, h6, h84, h91⟩ ⟨r307, -⟩
                      have ha := Fr.cons (d := 82) ha r307
                      refine opS_of ha (trivial) ?_
                      refine op1_val (ex_load1 rfl Try.isAgg26 (h84.cell rfl)) ?_
                      exact ⟨_, Stp.refl _ _ _, rfl⟩
                    · rintro o308 w309 a310 ha ⟨hB, h11, h13, h28, h87, h179, h6, h84, h91⟩ -
                      refine opS_of ha (trivial) ?_
                      refine op1_val (ex_move rfl) ?_
                      exact ⟨_, Stp.refl _ _ _, rfl⟩
                    · rintro o311 w312 a313 ha ⟨hB, h11, h13, h28, h87, h179, h6, h84, h91⟩ ⟨r314, -⟩
                      have ha := Fr.cons (d := 84) ha r314
                      refine opS_of ha (trivial) ?_
                      refine wd_indexR h205 hx210 rfl rfl Try.underlying26 Try.sizeOf3 ?_
                      exact ⟨_, Stp.refl _ _ _, ⟨_, rfl, h205⟩⟩
                    · rintro o315 w316 a317 ha ⟨hB, h11, h13, h28, h87, h179, h6, h84, h91⟩ ⟨r318, -⟩
                      obtain ⟨v319, e320, h321⟩ := r318
                      have ha := Fr.cons (d := 85) ha e320
                      refine opS_of ha (trivial) ?_
                      refine wd_load1Z h321 hx210 hB rfl rfl Try.isAgg3 ?_
                      intro c322 h323
                      cases h323
                      exact ⟨_, Stp.refl _ _ _, rfl⟩
                    · rintro o324 w325 a326 ha ⟨hB, h11, h13, h28, h87, h179, h6, h84, h91⟩ ⟨r327, r328, -⟩
                      have ha := Fr.cons (d := 83) ha r327
                      have ha := Fr.cons (d := 86) ha r328
                      refine opS_of ha (trivial) ?_
                      refine wf_call (cS_l1Has w325 _ y89 h91.z x210 x213 hx213) Try.call61 ⟨rfl, rfl, trivial⟩ ?_
                      rintro e333 w329 ⟨rfl, k330⟩
                      have s332 := k330.stp 999 o324
                      refine ⟨_, rfl, ?_⟩
                      replace h11 := h11.stp s332 (by decide) (by decide)
                      replace h13 := h13.stp s332 (by decide) (by decide)
                      replace h28 := h28.stp s332 (by decide) (by decide)
                      replace h87 := h87.stp s332 (by decide) (by decide)
                      replace h179 := h179.stp s332 (by decide) (by decide)
                      replace h91 := h91.stp s332 (by decide) (by decide)
                      replace h6 := h6.stp s332 (by decide)
                      replace h84 := h84.stp s332 (by decide)
                      replace hB := hB.stp s332 (by decide)
                      exact ⟨_, s332, rfl⟩
                    · rintro o334 w335 a336 ha ⟨hB, h11, h13, h28, h87, h179, h6, h84, h91⟩ ⟨r337, -⟩
                      have ha := Fr.cons (d := 87) ha r337
                      refine opS_of ha (trivial) ?_
                      refine op1_val (ex_move rfl) ?_
                      exact ⟨_, Stp.refl _ _ _, rfl⟩
                    · rintro o338 w339 a340 ha ⟨hB, h11, h13, h28, h87, h179, h6, h84, h91⟩ ⟨r341, -⟩
                      have ha := Fr.cons (d := 88) ha r341
                      exact opS_no ha rfl rfl rfl (by rw [t219]; rfl) ⟨_, Stp.refl _ _ _, rfl⟩
                    · rintro o342 w343 a344 ha ⟨hB, h11, h13, h28, h87, h179, h6, h84, h91⟩ ⟨r345, -⟩
                      have ha := Fr.cons (d := 88) ha r345
                      exact opS_no ha rfl rfl rfl (by rw [t219]; rfl) ⟨_, Stp.refl _ _ _, rfl⟩
                    · rintro o346 w347 a348 ha ⟨hB, h11, h13, h28, h87, h179, h6, h84, h91⟩ ⟨r349, -⟩
                      have ha := Fr.cons (d := 88) ha r349
                      exact opS_no ha rfl rfl rfl (by rw [t219]; rfl) ⟨_, Stp.refl _ _ _, rfl⟩
                    · rintro o350 w351 a352 ha ⟨hB, h11, h13, h28, h87, h179, h6, h84, h91⟩ ⟨r353, -⟩
                      have ha := Fr.cons (d := 88) ha r353
                      exact opS_no ha rfl rfl rfl (by rw [t219]; rfl) ⟨_, Stp.refl _ _ _, rfl⟩
                    · rintro o354 w355 a356 ha ⟨hB, h11, h13, h28, h87, h179, h6, h84, h91⟩ ⟨r357, -⟩
                      have ha := Fr.cons (d := 88) ha r357
                      exact opS_no ha rfl rfl rfl (by rw [t219]; rfl) ⟨_, Stp.refl _ _ _, rfl⟩
                  rintro o358 w359 a360 ha ⟨hB, h11, h13, h28, h87, h179, h6, h84, h91⟩ ⟨-, -, -, -, -, -, r361, -, r362, -, -, r363, -⟩
                  have ha := Fr.cons (d := 88) ha r361
                  have ha := Fr.cons (d := 90) ha r362
                  have ha := Fr.cons (d := 93) ha r363
                  refine wl_of ha ?_
                  simp only [List.length_cons, List.length_nil, Nat.zero_add, Nat.reduceAdd, List.drop_succ_cons, List.drop_zero]
                  refine st_no rfl rfl (by rw [t219]; rfl) (by decide) ?_
                  refine st_val (ex_pick_f (congrArg (fun b => some (Value.bool b)) t219) rfl) (by decide) trivial ?_
                  have e364 := Option.some.inj hq206
                  subst e364
                  refine wpF_end (r := [(1, (.pointer (some ⟨b5, 0, none⟩))), (3, v10), (4, v27), (5, v22), (6, (.int .i64 y31)), (7, (.pointer (some ⟨b79, 0, none⟩))), (9, v178), (11, v204), (76, v1), (77, (.int .i64 (p0.Arcs.length : Int))), (78, (.int .i64 i188)), (95, (.bool false))]) ⟨rfl, rfl, rfl, rfl, rfl, rfl, rfl, rfl, rfl, rfl, rfl, rfl, trivial⟩ ?_
                  refine np_norm (fun a ha => ⟨o358, ha, hB, h11, h13, h28, h87, h179, h6, h84, h91⟩)
              rintro a365 w208 ⟨o207, ha, hB, h11, h13, h28, h87, h179, h6, h84, h91⟩
              refine ap_k ha ?_
              refine nx ?_
              refine wpC_cond rfl (fun t366 => ?_) (fun t366 => ?_)
              · rw [if_pos t366] at b195
                obtain ⟨x367, hx367, b195⟩ := bind_some b195
                obtain ⟨x370, hx370, b195⟩ := bind_some b195
                obtain ⟨x373, hx373, b195⟩ := bind_some b195
                obtain ⟨x374, hx374, b195⟩ := bind_some b195
                obtain ⟨x377, hx377, b195⟩ := bind_some b195
                obtain ⟨x380, hx380, b195⟩ := bind_some b195
                obtain ⟨x381, hx381, b195⟩ := bind_some b195
                refine wpC_drawn (o := o207) [(1, (.pointer (some ⟨b5, 0, none⟩))), (3, v10), (4, v27), (5, v22), (6, (.int .i64 y31)), (7, (.pointer (some ⟨b79, 0, none⟩))), (9, v178), (11, v204), (76, v1), (77, (.int .i64 (p0.Arcs.length : Int))), (78, (.int .i64 i188))] [1, 3, 4, 5, 6, 7, 9, 11, 76, 77, 78] [96, 97, 98, 99, 100, 101, 102, 103, 104, 105, 106, 107, 108, 109, 110, 111, 112] [[], [0], [], [], [3], [4], [2, 5], [6], [7], [], [], [10], [11], [9, 12], [13], [8, 14], [15]] [none, none, none, none, none, none, none, none, none, none, none, none, none, none, none, none, none] [999, 999, 999, 999, 999, 999, 999, 999, 999, 999, 999, 999, 999, 999, 999, 999, 999] [0, 0, 0, 0, 0, 0, 18, 0, 0, 0, 0, 0, 0, 18, 0, 0, 0] [999] [fun v _ _ => v = (.pointer (some ⟨b79, 0 + 1, none⟩)), fun v _ _ => v = (.int .i64 y185), fun v _ _ => v = v178, fun v _ _ => v = v204, fun v o w9 => ∃ vl, v = adr vl ((0 : Int).toNat * Rp.sz Int) ∧ RdL zt w vl x198, fun v _ _ => v = (.int .i64 x367), fun v o w9 => ∃ vl, v = adr vl (x367.toNat * Rp.sz Int) ∧ Ow w.heap.size 3 18 o w9 vl x176, fun v _ _ => v = (.int .i64 x370), fun v _ _ => v = (.int .i64 x373), fun v _ _ => v = v178, fun v _ _ => v = v204, fun v o w9 => ∃ vl, v = adr vl ((1 : Int).toNat * Rp.sz Int) ∧ RdL zt w vl x198, fun v _ _ => v = (.int .i64 x374), fun v o w9 => ∃ vl, v = adr vl (x374.toNat * Rp.sz Int) ∧ Ow w.heap.size 3 18 o w9 vl x176, fun v _ _ => v = (.int .i64 x377), fun v _ _ => v = (.int .i64 x380), fun v _ _ => v = (.int .i64 x381)] (fun o8 w8 => Bs oo o8 w w8 ∧ Ow w.heap.size 87 12 o8 w8 v10 g12 ∧ Rws w.heap.size 4 13 o8 w8 g12 x8 ∧ Ow w.heap.size 60 15 o8 w8 v27 y26 ∧ Ow w.heap.size 4 14 o8 w8 v22 y86 ∧ Ow w.heap.size 3 18 o8 w8 v178 x176 ∧ Bx w.heap.size 11 o8 w8 b5 29 [(.int .i64 p0.Labels), v1] ∧ Bx w.heap.size 16 o8 w8 b79 60 [v90, (.int .i64 y185), (.slice none 0 0)] ∧ Ow w.heap.size 3 17 o8 w8 v90 y89) follows_mixed (by kernel_rfl) rfl ⟨rfl, rfl, rfl, rfl, rfl, rfl, rfl, rfl, rfl, rfl, rfl, trivial⟩ ⟨hB, h11, h13, h28, h87, h179, h6, h84, h91⟩ ?_ ⟨st_eq _, st_eq _, st_eq _, st_eq _, fun _ _ _ _ _ _ h0 hb ⟨vl, e, h⟩ hs => ⟨vl, e, h⟩, st_eq _, fun _ _ _ _ _ _ h0 hb ⟨vl, e, h⟩ hs => ⟨vl, e, h.stp hs h0.1 (Ne.symm hb)⟩, st_eq _, st_eq _, st_eq _, st_eq _, fun _ _ _ _ _ _ h0 hb ⟨vl, e, h⟩ hs => ⟨vl, e, h⟩, st_eq _, fun _ _ _ _ _ _ h0 hb ⟨vl, e, h⟩ hs => ⟨vl, e, h.stp hs h0.1 (Ne.symm hb)⟩, st_eq _, st_eq _, st_eq _, trivial⟩ ?_ ?_
                · rintro t9 o1 w1 o2 w2 ht9 ⟨hB, h11, h13, h28, h87, h179, h6, h84, h91⟩ hs9
                  have ht9 : t9 = 999 := by simpa using ht9
                  subst ht9
                  all_goals exact ⟨hB.stp hs9 (by decide), h11.stp hs9 (by decide) (by decide), h13.stp hs9 (by decide) (by decide), h28.stp hs9 (by decide) (by decide), h87.stp hs9 (by decide) (by decide), h179.stp hs9 (by decide) (by decide), h6.stp hs9 (by decide), h84.stp hs9 (by decide), h91.stp hs9 (by decide) (by decide)⟩
                · refine ⟨?_, ?_, ?_, ?_, ?_, ?_, ?_, ?_, ?_, ?_, ?_, ?_, ?_, ?_, ?_, ?_, ?_, trivial⟩
                  · rintro o387 w388 a389 ha ⟨hB, h11, h13, h28, h87, h179, h6, h84, h91⟩ -
                    refine opS_of ha (trivial) ?_
                    refine op1_val (ex_field rfl Try.underlying60 rfl Try.sizeOf3) ?_
                    exact ⟨_, Stp.refl _ _ _, rfl⟩
                  · rintro o390 w391 a392 ha ⟨hB, h11, h13, h28, h87, h179, h6, h84, h91⟩ ⟨r393, -⟩
                    have ha := Fr.cons (d := 96) ha r393
                    refine opS_of ha (trivial) ?_
                    refine op1_val (ex_load1 rfl Try.isAgg3 (h84.cell rfl)) ?_
                    exact ⟨_, Stp.refl _ _ _, rfl⟩
                  · rintro o394 w395 a396 ha ⟨hB, h11, h13, h28, h87, h179, h6, h84, h91⟩ -
                    refine opS_of ha (trivial) ?_
                    refine op1_val (ex_move rfl) ?_
                    exact ⟨_, Stp.refl _ _ _, rfl⟩
                  · rintro o397 w398 a399 ha ⟨hB, h11, h13, h28, h87, h179, h6, h84, h91⟩ -
                    refine opS_of ha (trivial) ?_
                    refine op1_val (ex_move rfl) ?_
                    exact ⟨_, Stp.refl _ _ _, rfl⟩
                  · rintro o400 w401 a402 ha ⟨hB, h11, h13, h28, h87, h179, h6, h84, h91⟩ ⟨r403, -⟩
                    have ha := Fr.cons (d := 99) ha r403
                    refine opS_of ha (trivial) ?_
                    refine wd_indexR h205 hx367 rfl rfl Try.underlying26 Try.sizeOf3 ?_
                    exact ⟨_, Stp.refl _ _ _, ⟨_, rfl, h205⟩⟩
                  · rintro o404 w405 a406 ha ⟨hB, h11, h13, h28, h87, h179, h6, h84, h91⟩ ⟨r407, -⟩
                    obtain ⟨v408, e409, h410⟩ := r407
                    have ha := Fr.cons (d := 100) ha e409
                    refine opS_of ha (trivial) ?_
                    refine wd_load1Z h410 hx367 hB rfl rfl Try.isAgg3 ?_
                    intro c411 h412
                    cases h412
                    exact ⟨_, Stp.refl _ _ _, rfl⟩
                  · rintro o413 w414 a415 ha ⟨hB, h11, h13, h28, h87, h179, h6, h84, h91⟩ ⟨r416, r417, -⟩
                    have ha := Fr.cons (d := 98) ha r416
                    have ha := Fr.cons (d := 101) ha r417
                    refine opS_of ha (trivial) ?_
                    refine wd_indexW h179 hx370 rfl rfl Try.underlying26 Try.sizeOf3 ?_
                    exact ⟨_, Stp.refl _ _ _, ⟨_, rfl, h179⟩⟩
                  · rintro o418 w419 a420 ha ⟨hB, h11, h13, h28, h87, h179, h6, h84, h91⟩ ⟨r421, -⟩
                    obtain ⟨v422, e423, h424⟩ := r421
                    have ha := Fr.cons (d := 102) ha e423
                    refine opS_of ha (trivial) ?_
                    refine wd_load1W h424 hx370 rfl rfl Try.isAgg3 ?_
                    intro c425 h426
                    cases h426
                    exact ⟨_, Stp.refl _ _ _, rfl⟩
                  · rintro o427 w428 a429 ha ⟨hB, h11, h13, h28, h87, h179, h6, h84, h91⟩ ⟨r430, -⟩
                    have ha := Fr.cons (d := 103) ha r430
                    refine opS_of ha (trivial) ?_
                    refine op1_val (ex_add rfl rfl hx373) ?_
                    exact ⟨_, Stp.refl _ _ _, rfl⟩
                  · rintro o431 w432 a433 ha ⟨hB, h11, h13, h28, h87, h179, h6, h84, h91⟩ -
                    refine opS_of ha (trivial) ?_
                    refine op1_val (ex_move rfl) ?_
                    exact ⟨_, Stp.refl _ _ _, rfl⟩
                  · rintro o434 w435 a436 ha ⟨hB, h11, h13, h28, h87, h179, h6, h84, h91⟩ -
                    refine opS_of ha (trivial) ?_
                    refine op1_val (ex_move rfl) ?_
                    exact ⟨_, Stp.refl _ _ _, rfl⟩
                  · rintro o437 w438 a439 ha ⟨hB, h11, h13, h28, h87, h179, h6, h84, h91⟩ ⟨r440, -⟩
                    have ha := Fr.cons (d := 106) ha r440
                    refine opS_of ha (trivial) ?_
                    refine wd_indexR h205 hx374 rfl rfl Try.underlying26 Try.sizeOf3 ?_
                    exact ⟨_, Stp.refl _ _ _, ⟨_, rfl, h205⟩⟩
                  · rintro o441 w442 a443 ha ⟨hB, h11, h13, h28, h87, h179, h6, h84, h91⟩ ⟨r444, -⟩
                    obtain ⟨v445, e446, h447⟩ := r444
                    have ha := Fr.cons (d := 107) ha e446
                    refine opS_of ha (trivial) ?_
                    refine wd_load1Z h447 hx374 hB rfl rfl Try.isAgg3 ?_
                    intro c448 h449
                    cases h449
                    exact ⟨_, Stp.refl _ _ _, rfl⟩
                  · rintro o450 w451 a452 ha ⟨hB, h11, h13, h28, h87, h179, h6, h84, h91⟩ ⟨r453, r454, -⟩
                    have ha := Fr.cons (d := 105) ha r453
                    have ha := Fr.cons (d := 108) ha r454
                    refine opS_of ha (trivial) ?_
                    refine wd_indexW h179 hx377 rfl rfl Try.underlying26 Try.sizeOf3 ?_
                    exact ⟨_, Stp.refl _ _ _, ⟨_, rfl, h179⟩⟩
                  · rintro o455 w456 a457 ha ⟨hB, h11, h13, h28, h87, h179, h6, h84, h91⟩ ⟨r458, -⟩
                    obtain ⟨v459, e460, h461⟩ := r458
                    have ha := Fr.cons (d := 109) ha e460
                    refine opS_of ha (trivial) ?_
                    refine wd_load1W h461 hx377 rfl rfl Try.isAgg3 ?_
                    intro c462 h463
                    cases h463
                    exact ⟨_, Stp.refl _ _ _, rfl⟩
                  · rintro o464 w465 a466 ha ⟨hB, h11, h13, h28, h87, h179, h6, h84, h91⟩ ⟨r467, r468, -⟩
                    have ha := Fr.cons (d := 104) ha r467
                    have ha := Fr.cons (d := 110) ha r468
                    refine opS_of ha (trivial) ?_
                    refine op1_val (ex_sub rfl rfl hx380) ?_
                    exact ⟨_, Stp.refl _ _ _, rfl⟩
                  · rintro o469 w470 a471 ha ⟨hB, h11, h13, h28, h87, h179, h6, h84, h91⟩ ⟨r472, -⟩
                    have ha := Fr.cons (d := 111) ha r472
                    refine opS_of ha (trivial) ?_
                    refine wf_call (cS_l1Abs w470 x380 x381 hx381) Try.call75 ⟨rfl, trivial⟩ ?_
                    rintro e477 w473 ⟨rfl, k474⟩
                    have s476 := k474.stp 999 o469
                    refine ⟨_, rfl, ?_⟩
                    replace h11 := h11.stp s476 (by decide) (by decide)
                    replace h13 := h13.stp s476 (by decide) (by decide)
                    replace h28 := h28.stp s476 (by decide) (by decide)
                    replace h87 := h87.stp s476 (by decide) (by decide)
                    replace h179 := h179.stp s476 (by decide) (by decide)
                    replace h6 := h6.stp s476 (by decide)
                    replace h84 := h84.stp s476 (by decide)
                    replace h91 := h91.stp s476 (by decide) (by decide)
                    replace hB := hB.stp s476 (by decide)
                    exact ⟨_, s476, rfl⟩
                rintro o478 w479 a480 ha ⟨hB, h11, h13, h28, h87, h179, h6, h84, h91⟩ ⟨-, r481, -, -, -, -, -, -, -, -, -, -, -, -, -, -, r482, -⟩
                have ha := Fr.cons (d := 97) ha r481
                have ha := Fr.cons (d := 112) ha r482
                refine wl_of ha ?_
                simp only [List.length_cons, List.length_nil, Nat.zero_add, Nat.reduceAdd, List.drop_succ_cons, List.drop_zero]
                obtain ⟨x483, hx483, b195⟩ := bind_some b195
                refine st_op (by decide) trivial ?_
                refine wf_call (cS_waGcd w479 y185 x381 x483 hx483) Try.call74 ⟨rfl, rfl, trivial⟩ ?_
                rintro e488 w484 ⟨rfl, k485⟩
                have s487 := k485.stp 999 o478
                refine ⟨_, rfl, ?_⟩
                replace h11 := h11.stp s487 (by decide) (by decide)
                replace h13 := h13.stp s487 (by decide) (by decide)
                replace h28 := h28.stp s487 (by decide) (by decide)
                replace h87 := h87.stp s487 (by decide) (by decide)
                replace h179 := h179.stp s487 (by decide) (by decide)
                replace h6 := h6.stp s487 (by decide)
                replace h84 := h84.stp s487 (by decide)
                replace h91 := h91.stp s487 (by decide) (by decide)
                replace hB := hB.stp s487 (by decide)
                refine st_val (ex_field rfl Try.underlying60 rfl Try.sizeOf3) (by decide) trivial ?_
                refine st_op0 trivial ?_
                refine wf_storeB h84 rfl rfl (of_decide_eq_true rfl) Try.sizeOf3 rfl rfl ?_
                intro w489 h491 s490
                replace h11 := h11.stp s490 (by decide) (by decide)
                replace h13 := h13.stp s490 (by decide) (by decide)
                replace h28 := h28.stp s490 (by decide) (by decide)
                replace h87 := h87.stp s490 (by decide) (by decide)
                replace h179 := h179.stp s490 (by decide) (by decide)
                replace h6 := h6.stp s490 (by decide)
                replace h91 := h91.stp s490 (by decide) (by decide)
                replace hB := hB.stp s490 (by decide)
                replace h491 : Bx w.heap.size 16 o478 w489 b79 60 [v90, (.int .i64 x483), (.slice none 0 0)] := h491
                refine wpF_end (r := [(1, (.pointer (some ⟨b5, 0, none⟩))), (3, v10), (4, v27), (5, v22), (6, (.int .i64 y31)), (7, (.pointer (some ⟨b79, 0, none⟩))), (9, v178), (76, v1), (77, (.int .i64 (p0.Arcs.length : Int))), (78, (.int .i64 i188))]) ⟨rfl, rfl, rfl, rfl, rfl, rfl, rfl, rfl, rfl, rfl, trivial⟩ ?_
                refine nb_norm ?_
                refine nx ?_
                refine wpC_region ?_
                refine st_val (ex_add rfl rfl (ck_in (by omega) (by omega))) (by decide) trivial ?_
                refine st_val (ex_move rfl) (by decide) trivial ?_
                refine wpF_end (r := [(1, (.pointer (some ⟨b5, 0, none⟩))), (3, v10), (4, v27), (5, v22), (6, (.int .i64 y31)), (7, (.pointer (some ⟨b79, 0, none⟩))), (9, v178), (76, v1), (77, (.int .i64 (p0.Arcs.length : Int))), (78, (.int .i64 (i188 + 1)))]) ⟨rfl, rfl, rfl, rfl, rfl, rfl, rfl, rfl, rfl, rfl, trivial⟩ ?_
                refine nt_norm ?_
                have e492 := Option.some.inj b195
                subst e492
                refine to_k (r := [(1, (.pointer (some ⟨b5, 0, none⟩))), (3, v10), (4, v27), (5, v22), (6, (.int .i64 y31)), (7, (.pointer (some ⟨b79, 0, none⟩))), (9, v178), (76, v1), (77, (.int .i64 (p0.Arcs.length : Int))), (78, (.int .i64 (i188 + 1)))]) ⟨rfl, rfl, rfl, rfl, rfl, rfl, rfl, rfl, rfl, rfl, trivial⟩ ?_
                intro a ha
                exact ⟨_, (by rw [← m192]; simp only [List.length_drop]; omega), i188 + 1, x483, o478, n196, rfl, (by omega), ha, hB, h11, h13, h28, h87, h179, h6, h491, h91⟩
              · rw [if_neg (by rw [t366]; decide)] at b195
                refine wpC_skip ?_
                refine nb_norm ?_
                refine nx ?_
                refine wpC_region ?_
                refine st_val (ex_add rfl rfl (ck_in (by omega) (by omega))) (by decide) trivial ?_
                refine st_val (ex_move rfl) (by decide) trivial ?_
                refine wpF_end (r := [(1, (.pointer (some ⟨b5, 0, none⟩))), (3, v10), (4, v27), (5, v22), (6, (.int .i64 y31)), (7, (.pointer (some ⟨b79, 0, none⟩))), (9, v178), (76, v1), (77, (.int .i64 (p0.Arcs.length : Int))), (78, (.int .i64 (i188 + 1)))]) ⟨rfl, rfl, rfl, rfl, rfl, rfl, rfl, rfl, rfl, rfl, trivial⟩ ?_
                refine nt_norm ?_
                have e493 := Option.some.inj b195
                subst e493
                refine to_k (r := [(1, (.pointer (some ⟨b5, 0, none⟩))), (3, v10), (4, v27), (5, v22), (6, (.int .i64 y31)), (7, (.pointer (some ⟨b79, 0, none⟩))), (9, v178), (76, v1), (77, (.int .i64 (p0.Arcs.length : Int))), (78, (.int .i64 (i188 + 1)))]) ⟨rfl, rfl, rfl, rfl, rfl, rfl, rfl, rfl, rfl, rfl, trivial⟩ ?_
                intro a ha
                exact ⟨_, (by rw [← m192]; simp only [List.length_drop]; omega), i188 + 1, y185, o207, n196, rfl, (by omega), ha, hB, h11, h13, h28, h87, h179, h6, h84, h91⟩
            · have r494 := forI_done t197 l190
              refine wp_of ha ?_
              refine wpC_seq ?_
              refine wpC_region ?_
              refine st_val (ex_lss rfl rfl) (by decide) trivial ?_
              refine wpF_end (r := [(1, (.pointer (some ⟨b5, 0, none⟩))), (3, v10), (4, v27), (5, v22), (6, (.int .i64 y31)), (7, (.pointer (some ⟨b79, 0, none⟩))), (9, v178), (76, v1), (77, (.int .i64 (p0.Arcs.length : Int))), (78, (.int .i64 i188)), (79, (.bool (decide (i188 < (p0.Arcs.length : Int)))))]) ⟨rfl, rfl, rfl, rfl, rfl, rfl, rfl, rfl, rfl, rfl, rfl, trivial⟩ ?_
              refine nx ?_
              refine wpC_seq ?_
              refine wpC_false (congrArg (fun b => some (Value.bool b)) (decide_eq_false t197)) ?_
              refine wpC_exit ?_
              refine nt_exit ?_
              refine nt_exit ?_
              refine nb_hit ?_
              refine np_norm ?_
              refine to_k (r := [(1, (.pointer (some ⟨b5, 0, none⟩))), (3, v10), (4, v27), (5, v22), (6, (.int .i64 y31)), (7, (.pointer (some ⟨b79, 0, none⟩))), (9, v178)]) ⟨rfl, rfl, rfl, rfl, rfl, rfl, rfl, trivial⟩ ?_
              intro a ha
              exact ⟨y185, o186, r494, ha, hB, h11, h13, h28, h87, h179, h6, h84, h91⟩
          · rintro a w187 ⟨y185, o186, rfl, ha, hB, h11, h13, h28, h87, h179, h6, h84, h91⟩
            dsimp only at b40
            refine ap_k ha ?_
            refine nx ?_
            refine wpC_seq ?_
            refine wpC_seq ?_
            refine wpC_region ?_
            refine st_val (ex_field rfl Try.underlying60 rfl Try.sizeOf26) (by decide) trivial ?_
            refine st_val (ex_load1 rfl Try.isAgg26 (h84.cell rfl)) (by decide) trivial ?_
            refine st_val (ex_lenO rfl h91 Try.underlying26) (by decide) trivial ?_
            refine st_val (ex_move rfl) (by decide) trivial ?_
            refine wpF_end (r := [(1, (.pointer (some ⟨b5, 0, none⟩))), (3, v10), (4, v27), (5, v22), (6, (.int .i64 y31)), (7, (.pointer (some ⟨b79, 0, none⟩))), (9, v178), (117, v90), (118, (.int .i64 (y89.length : Int))), (119, (.int .i64 0))]) ⟨rfl, rfl, rfl, rfl, rfl, rfl, rfl, rfl, rfl, rfl, trivial⟩ ?_
            refine nx ?_
            have h495 : Ow w.heap.size 3 26 o186 w187 (.slice none 0 0) ([] : List Int) := Ow.nil _ _ _ _ _
            obtain ⟨q502, hq502, b40⟩ := bind_some b40
            refine wpC_cutN (fun a w500 => ∃ (y496 : List Int) (v497 : Value) (o499 : Tg), q502 = .inl y496 ∧ Fr a 141 [(1, (.pointer (some ⟨b5, 0, none⟩))), (3, v10), (4, v27), (5, v22), (6, (.int .i64 y31)), (7, (.pointer (some ⟨b79, 0, none⟩)))] ∧ Bs oo o499 w w500 ∧ Ow w.heap.size 87 12 o499 w500 v10 g12 ∧ Rws w.heap.size 4 13 o499 w500 g12 x8 ∧ Ow w.heap.size 60 15 o499 w500 v27 y26 ∧ Ow w.heap.size 4 14 o499 w500 v22 y86 ∧ Bx w.heap.size 11 o499 w500 b5 29 [(.int .i64 p0.Labels), v1] ∧ Bx w.heap.size 16 o499 w500 b79 60 [v90, (.int .i64 y185), v497] ∧ Ow w.heap.size 3 17 o499 w500 v90 y89 ∧ Ow w.heap.size 3 26 o499 w500 v497 y496) (fun _ _ => False) ?_ ?_ ?_
            · refine wpC_block ?_
              refine wpC_loop (fun (K : Nat) a w500 => ∃ (i501 : Int) (y496 : List Int) (v497 : Value) (o499 : Tg), forI (fS_waParts_s4 x176 y185) (y89.drop i501.toNat) i501 y496 = some q502 ∧ (y89.drop i501.toNat).length = K ∧ 0 ≤ i501 ∧ Fr a 141 [(1, (.pointer (some ⟨b5, 0, none⟩))), (3, v10), (4, v27), (5, v22), (6, (.int .i64 y31)), (7, (.pointer (some ⟨b79, 0, none⟩))), (9, v178), (117, v90), (118, (.int .i64 (y89.length : Int))), (119, (.int .i64 i501))] ∧ Bs oo o499 w w500 ∧ Ow w.heap.size 87 12 o499 w500 v10 g12 ∧ Rws w.heap.size 4 13 o499 w500 g12 x8 ∧ Ow w.heap.size 60 15 o499 w500 v27 y26 ∧ Ow w.heap.size 4 14 o499 w500 v22 y86 ∧ Ow w.heap.size 3 18 o499 w500 v178 x176 ∧ Ow w.heap.size 3 17 o499 w500 v90 y89 ∧ Bx w.heap.size 11 o499 w500 b5 29 [(.int .i64 p0.Labels), v1] ∧ Bx w.heap.size 16 o499 w500 b79 60 [v90, (.int .i64 y185), v497] ∧ Ow w.heap.size 3 26 o499 w500 v497 y496) _ (fun a ha => ⟨0, [], (.slice none 0 0), o186, hq502, rfl, Int.le_refl 0, ha.sub (r := [(1, (.pointer (some ⟨b5, 0, none⟩))), (3, v10), (4, v27), (5, v22), (6, (.int .i64 y31)), (7, (.pointer (some ⟨b79, 0, none⟩))), (9, v178), (117, v90), (118, (.int .i64 (y89.length : Int))), (119, (.int .i64 0))]) ⟨rfl, rfl, rfl, rfl, rfl, rfl, rfl, rfl, rfl, rfl, trivial⟩, hB, h11, h13, h28, h87, h179, h91, h6, h84, h495⟩) ?_
              rintro K506 a w500 ⟨i501, y496, v497, o499, l503, m505, z504, ha, hB, h11, h13, h28, h87, h179, h91, h6, h84, h498⟩
              by_cases t510 : i501 < (y89.length : Int)
              · obtain ⟨x511, q507, hx511, b508, n509⟩ := forI_cons z504 t510 l503
                have hle := h91.len_le
                dsimp only [fS_waParts_s4] at b508
                refine wp_of ha ?_
                refine wpC_seq ?_
                refine wpC_region ?_
                refine st_val (ex_lss rfl rfl) (by decide) trivial ?_
                refine wpF_end (r := [(1, (.pointer (some ⟨b5, 0, none⟩))), (3, v10), (4, v27), (5, v22), (6, (.int .i64 y31)), (7, (.pointer (some ⟨b79, 0, none⟩))), (9, v178), (117, v90), (118, (.int .i64 (y89.length : Int))), (119, (.int .i64 i501)), (120, (.bool (decide (i501 < (y89.length : Int)))))]) ⟨rfl, rfl, rfl, rfl, rfl, rfl, rfl, rfl, rfl, rfl, rfl, trivial⟩ ?_
                refine nx ?_
                refine wpC_seq ?_
                refine wpC_true (congrArg (fun b => some (Value.bool b)) (decide_eq_true t510)) ?_
                refine wpC_skip ?_
                refine nx ?_
                refine wpC_seq ?_
                refine wpC_block ?_
                refine wpC_seq ?_
                refine wpC_region ?_
                refine st_op (by decide) trivial ?_
                refine wf_atW h91 hx511 rfl rfl Try.underlying26 Try.sizeOf3 ?_
                intro b512 f513 c514 h515 h516
                cases h516
                refine st_val (ex_load1 rfl Try.isAgg3 (cell_of_cells h515)) (by decide) trivial ?_
                refine st_val (ex_assign rfl) (by decide) trivial ?_
                refine wpF_end (r := [(1, (.pointer (some ⟨b5, 0, none⟩))), (3, v10), (4, v27), (5, v22), (6, (.int .i64 y31)), (7, (.pointer (some ⟨b79, 0, none⟩))), (9, v178), (13, (.int .i64 x511)), (117, v90), (118, (.int .i64 (y89.length : Int))), (119, (.int .i64 i501))]) ⟨rfl, rfl, rfl, rfl, rfl, rfl, rfl, rfl, rfl, rfl, rfl, trivial⟩ ?_
                refine nx ?_
                obtain ⟨x517, hx517, b508⟩ := bind_some b508
                obtain ⟨x520, hx520, b508⟩ := bind_some b508
                refine wpC_drawn (o := o499) [(1, (.pointer (some ⟨b5, 0, none⟩))), (3, v10), (4, v27), (5, v22), (6, (.int .i64 y31)), (7, (.pointer (some ⟨b79, 0, none⟩))), (9, v178), (13, (.int .i64 x511)), (117, v90), (118, (.int .i64 (y89.length : Int))), (119, (.int .i64 i501))] [1, 3, 4, 5, 6, 7, 9, 13, 117, 118, 119] [123, 124, 125, 126, 127, 128, 129, 130, 131, 132] [[], [0], [], [], [2, 3], [4], [], [6], [5, 7], [8]] [none, none, none, none, none, none, none, none, none, none] [999, 999, 999, 999, 999, 999, 999, 999, 999, 999] [0, 0, 0, 0, 18, 0, 0, 0, 0, 0] [999] [fun v _ _ => v = (.pointer (some ⟨b79, 0 + 2, none⟩)), fun v _ _ => v = v497, fun v _ _ => v = v178, fun v _ _ => v = (.int .i64 x511), fun v o w9 => ∃ vl, v = adr vl (x511.toNat * Rp.sz Int) ∧ Ow w.heap.size 3 18 o w9 vl x176, fun v _ _ => v = (.int .i64 x517), fun v _ _ => v = (.pointer (some ⟨b79, 0 + 1, none⟩)), fun v _ _ => v = (.int .i64 y185), fun v _ _ => v = (.int .i64 x520), fun v o w9 => RdL o w9 v (([x520] : List Int) : List Int)] (fun o8 w8 => Bs oo o8 w w8 ∧ Ow w.heap.size 87 12 o8 w8 v10 g12 ∧ Rws w.heap.size 4 13 o8 w8 g12 x8 ∧ Ow w.heap.size 60 15 o8 w8 v27 y26 ∧ Ow w.heap.size 4 14 o8 w8 v22 y86 ∧ Ow w.heap.size 3 18 o8 w8 v178 x176 ∧ Ow w.heap.size 3 17 o8 w8 v90 y89 ∧ Bx w.heap.size 11 o8 w8 b5 29 [(.int .i64 p0.Labels), v1] ∧ Bx w.heap.size 16 o8 w8 b79 60 [v90, (.int .i64 y185), v497] ∧ Ow w.heap.size 3 26 o8 w8 v497 y496) follows_mixed (by kernel_rfl) rfl ⟨rfl, rfl, rfl, rfl, rfl, rfl, rfl, rfl, rfl, rfl, rfl, trivial⟩ ⟨hB, h11, h13, h28, h87, h179, h91, h6, h84, h498⟩ ?_ ⟨st_eq _, st_eq _, st_eq _, st_eq _, fun _ _ _ _ _ _ h0 hb ⟨vl, e, h⟩ hs => ⟨vl, e, h.stp hs h0.1 (Ne.symm hb)⟩, st_eq _, st_eq _, st_eq _, st_eq _, fun _ _ _ _ _ _ h0 hb h hs => h.stp hs h0.1, trivial⟩ ?_ ?_
                · rintro t9 o1 w1 o2 w2 ht9 ⟨hB, h11, h13, h28, h87, h179, h91, h6, h84, h498⟩ hs9
                  have ht9 : t9 = 999 := by simpa using ht9
                  subst ht9
                  all_goals exact ⟨hB.stp hs9 (by decide), h11.stp hs9 (by decide) (by decide), h13.stp hs9 (by decide) (by decide), h28.stp hs9 (by decide) (by decide), h87.stp hs9 (by decide) (by decide), h179.stp hs9 (by decide) (by decide), h91.stp hs9 (by decide) (by decide), h6.stp hs9 (by decide), h84.stp hs9 (by decide), h498.stp hs9 (by decide) (by decide)⟩
                · refine ⟨?_, ?_, ?_, ?_, ?_, ?_, ?_, ?_, ?_, ?_, trivial⟩
                  · rintro o527 w528 a529 ha ⟨hB, h11, h13, h28, h87, h179, h91, h6, h84, h498⟩ -
                    refine opS_of ha (trivial) ?_
                    refine op1_val (ex_field rfl Try.underlying60 rfl Try.sizeOf26) ?_
                    exact ⟨_, Stp.refl _ _ _, rfl⟩
                  · rintro o530 w531 a532 ha ⟨hB, h11, h13, h28, h87, h179, h91, h6, h84, h498⟩ ⟨r533, -⟩
                    have ha := Fr.cons (d := 123) ha r533
                    refine opS_of ha (trivial) ?_
                    refine op1_val (ex_load1 rfl Try.isAgg26 (h84.cell rfl)) ?_
                    exact ⟨_, Stp.refl _ _ _, rfl⟩
                  · rintro o534 w535 a536 ha ⟨hB, h11, h13, h28, h87, h179, h91, h6, h84, h498⟩ -
                    refine opS_of ha (trivial) ?_
                    refine op1_val (ex_move rfl) ?_
                    exact ⟨_, Stp.refl _ _ _, rfl⟩
                  · rintro o537 w538 a539 ha ⟨hB, h11, h13, h28, h87, h179, h91, h6, h84, h498⟩ -
                    refine opS_of ha (trivial) ?_
                    refine op1_val (ex_move rfl) ?_
                    exact ⟨_, Stp.refl _ _ _, rfl⟩
                  · rintro o540 w541 a542 ha ⟨hB, h11, h13, h28, h87, h179, h91, h6, h84, h498⟩ ⟨r543, r544, -⟩
                    have ha := Fr.cons (d := 125) ha r543
                    have ha := Fr.cons (d := 126) ha r544
                    refine opS_of ha (trivial) ?_
                    refine wd_indexW h179 hx517 rfl rfl Try.underlying26 Try.sizeOf3 ?_
                    exact ⟨_, Stp.refl _ _ _, ⟨_, rfl, h179⟩⟩
                  · rintro o545 w546 a547 ha ⟨hB, h11, h13, h28, h87, h179, h91, h6, h84, h498⟩ ⟨r548, -⟩
                    obtain ⟨v549, e550, h551⟩ := r548
                    have ha := Fr.cons (d := 127) ha e550
                    refine opS_of ha (trivial) ?_
                    refine wd_load1W h551 hx517 rfl rfl Try.isAgg3 ?_
                    intro c552 h553
                    cases h553
                    exact ⟨_, Stp.refl _ _ _, rfl⟩
                  · rintro o554 w555 a556 ha ⟨hB, h11, h13, h28, h87, h179, h91, h6, h84, h498⟩ -
                    refine opS_of ha (trivial) ?_
                    refine op1_val (ex_field rfl Try.underlying60 rfl Try.sizeOf3) ?_
                    exact ⟨_, Stp.refl _ _ _, rfl⟩
                  · rintro o557 w558 a559 ha ⟨hB, h11, h13, h28, h87, h179, h91, h6, h84, h498⟩ ⟨r560, -⟩
                    have ha := Fr.cons (d := 129) ha r560
                    refine opS_of ha (trivial) ?_
                    refine op1_val (ex_load1 rfl Try.isAgg3 (h84.cell rfl)) ?_
                    exact ⟨_, Stp.refl _ _ _, rfl⟩
                  · rintro o561 w562 a563 ha ⟨hB, h11, h13, h28, h87, h179, h91, h6, h84, h498⟩ ⟨r564, r565, -⟩
                    have ha := Fr.cons (d := 128) ha r564
                    have ha := Fr.cons (d := 130) ha r565
                    refine opS_of ha (trivial) ?_
                    refine op1_val (ex_rem rfl rfl hx520) ?_
                    exact ⟨_, Stp.refl _ _ _, rfl⟩
                  · rintro o566 w567 a568 ha ⟨hB, h11, h13, h28, h87, h179, h91, h6, h84, h498⟩ ⟨r569, -⟩
                    have ha := Fr.cons (d := 131) ha r569
                    refine opS_of ha (trivial) ?_
                    refine wf_litR (o := o566) (cs := [(.int .i64 x520)]) (xs := ([x520] : List Int)) (vs := [(0, (.int .i64 x520))]) ⟨_, _, rfl, rfl, rfl⟩ rfl ⟨rfl, rfl, trivial⟩ Try.underlying26 Try.sizeOf3 Try.zeroValue3 (by decide) (fill1 rfl) (by simp) ?_
                    intro o570 w571 v572 h573 s574 k575
                    replace h11 := h11.stp s574 (by decide) (by decide)
                    replace h13 := h13.stp s574 (by decide) (by decide)
                    replace h28 := h28.stp s574 (by decide) (by decide)
                    replace h87 := h87.stp s574 (by decide) (by decide)
                    replace h179 := h179.stp s574 (by decide) (by decide)
                    replace h91 := h91.stp s574 (by decide) (by decide)
                    replace h6 := h6.stp s574 (by decide)
                    replace h84 := h84.stp s574 (by decide)
                    replace h498 := h498.stp s574 (by decide) (by decide)
                    replace hB := hB.stp s574 (by decide)
                    exact ⟨_, s574, h573⟩
                rintro o576 w577 a578 ha ⟨hB, h11, h13, h28, h87, h179, h91, h6, h84, h498⟩ ⟨-, r579, -, -, -, -, -, -, -, r580, -⟩
                have ha := Fr.cons (d := 124) ha r579
                replace r580 : RdL o576 w577 (a578.tmps.getD 132 undef) (([x520] : List Int) : List Int) := r580
                generalize e582 : a578.tmps.getD 132 undef = v581 at r580
                have ha := Fr.cons (d := 132) ha e582
                refine wl_of ha ?_
                simp only [List.length_cons, List.length_nil, Nat.zero_add, Nat.reduceAdd, List.drop_succ_cons, List.drop_zero]
                obtain ⟨x583, hx583, b508⟩ := bind_some b508
                refine st_op (by decide) trivial ?_
                refine wf_cat h498 r580 (push_cat hx583) (by decide) hB.keeps.size rfl rfl Try.underlying26 info2_t_int_Wa rfl (by decide) ?_
                intro o584 w585 v586 h587 s588
                replace h11 := h11.stp s588 (by decide) (by decide)
                replace h13 := h13.stp s588 (by decide) (by decide)
                replace h28 := h28.stp s588 (by decide) (by decide)
                replace h87 := h87.stp s588 (by decide) (by decide)
                replace h179 := h179.stp s588 (by decide) (by decide)
                replace h91 := h91.stp s588 (by decide) (by decide)
                replace r580 := r580.stp s588 (by decide)
                replace h6 := h6.stp s588 (by decide)
                replace h84 := h84.stp s588 (by decide)
                replace hB := hB.stp s588 (by decide)
                refine st_val (ex_field rfl Try.underlying60 rfl Try.sizeOf26) (by decide) trivial ?_
                refine st_op0 trivial ?_
                refine wf_storeB h84 rfl rfl (of_decide_eq_true rfl) Try.sizeOf26 h587.cells1 h587.one1 ?_
                intro w589 h591 s590
                replace h11 := h11.stp s590 (by decide) (by decide)
                replace h13 := h13.stp s590 (by decide) (by decide)
                replace h28 := h28.stp s590 (by decide) (by decide)
                replace h87 := h87.stp s590 (by decide) (by decide)
                replace h179 := h179.stp s590 (by decide) (by decide)
                replace h91 := h91.stp s590 (by decide) (by decide)
                replace r580 := r580.stp s590 (by decide)
                replace h587 := h587.stp s590 (by decide) (by decide)
                replace h6 := h6.stp s590 (by decide)
                replace hB := hB.stp s590 (by decide)
                replace h591 : Bx w.heap.size 16 o584 w589 b79 60 [v90, (.int .i64 y185), v586] := h591
                refine wpF_end (r := [(1, (.pointer (some ⟨b5, 0, none⟩))), (3, v10), (4, v27), (5, v22), (6, (.int .i64 y31)), (7, (.pointer (some ⟨b79, 0, none⟩))), (9, v178), (117, v90), (118, (.int .i64 (y89.length : Int))), (119, (.int .i64 i501))]) ⟨rfl, rfl, rfl, rfl, rfl, rfl, rfl, rfl, rfl, rfl, trivial⟩ ?_
                refine nb_norm ?_
                refine nx ?_
                refine wpC_region ?_
                refine st_val (ex_add rfl rfl (ck_in (by omega) (by omega))) (by decide) trivial ?_
                refine st_val (ex_move rfl) (by decide) trivial ?_
                refine wpF_end (r := [(1, (.pointer (some ⟨b5, 0, none⟩))), (3, v10), (4, v27), (5, v22), (6, (.int .i64 y31)), (7, (.pointer (some ⟨b79, 0, none⟩))), (9, v178), (117, v90), (118, (.int .i64 (y89.length : Int))), (119, (.int .i64 (i501 + 1)))]) ⟨rfl, rfl, rfl, rfl, rfl, rfl, rfl, rfl, rfl, rfl, trivial⟩ ?_
                refine nt_norm ?_
                have e592 := Option.some.inj b508
                subst e592
                refine to_k (r := [(1, (.pointer (some ⟨b5, 0, none⟩))), (3, v10), (4, v27), (5, v22), (6, (.int .i64 y31)), (7, (.pointer (some ⟨b79, 0, none⟩))), (9, v178), (117, v90), (118, (.int .i64 (y89.length : Int))), (119, (.int .i64 (i501 + 1)))]) ⟨rfl, rfl, rfl, rfl, rfl, rfl, rfl, rfl, rfl, rfl, trivial⟩ ?_
                intro a ha
                exact ⟨_, (by rw [← m505]; simp only [List.length_drop]; omega), i501 + 1, x583, v586, o584, n509, rfl, (by omega), ha, hB, h11, h13, h28, h87, h179, h91, h6, h591, h587⟩
              · have r593 := forI_done t510 l503
                refine wp_of ha ?_
                refine wpC_seq ?_
                refine wpC_region ?_
                refine st_val (ex_lss rfl rfl) (by decide) trivial ?_
                refine wpF_end (r := [(1, (.pointer (some ⟨b5, 0, none⟩))), (3, v10), (4, v27), (5, v22), (6, (.int .i64 y31)), (7, (.pointer (some ⟨b79, 0, none⟩))), (9, v178), (117, v90), (118, (.int .i64 (y89.length : Int))), (119, (.int .i64 i501)), (120, (.bool (decide (i501 < (y89.length : Int)))))]) ⟨rfl, rfl, rfl, rfl, rfl, rfl, rfl, rfl, rfl, rfl, rfl, trivial⟩ ?_
                refine nx ?_
                refine wpC_seq ?_
                refine wpC_false (congrArg (fun b => some (Value.bool b)) (decide_eq_false t510)) ?_
                refine wpC_exit ?_
                refine nt_exit ?_
                refine nt_exit ?_
                refine nb_hit ?_
                refine np_norm ?_
                refine to_k (r := [(1, (.pointer (some ⟨b5, 0, none⟩))), (3, v10), (4, v27), (5, v22), (6, (.int .i64 y31)), (7, (.pointer (some ⟨b79, 0, none⟩)))]) ⟨rfl, rfl, rfl, rfl, rfl, rfl, trivial⟩ ?_
                intro a ha
                exact ⟨y496, v497, o499, r593, ha, hB, h11, h13, h28, h87, h6, h84, h91, h498⟩
            · rintro a w500 ⟨y496, v497, o499, rfl, ha, hB, h11, h13, h28, h87, h6, h84, h91, h498⟩
              dsimp only at b40
              refine ap_k ha ?_
              refine nx ?_
              refine wpC_region ?_
              refine st_val (ex_move rfl) (by decide) trivial ?_
              refine st_val (ex_loadA rfl Try.isAgg60 Try.sizeOf60 rfl h84.cells) (by decide) trivial ?_
              replace h11 := h11.frz_ne (j := 17) (by decide)
              replace h13 := h13.frz_ne (j := 17) (by decide)
              replace h28 := h28.frz_ne (j := 17) (by decide)
              replace h87 := h87.frz_ne (j := 17) (by decide)
              have h594 := h91.frzF
              replace h91 := h91.frz
              replace h498 := h498.frz_ne (j := 17) (by decide)
              replace h6 := h6.frz_ne (j := 17) (by decide)
              replace h84 := h84.frz_ne (j := 17) (by decide)
              replace hB := hB.frz 17 (by decide)
              generalize (frz 17 o499) = o595 at *
              replace h11 := h11.frz_ne (j := 26) (by decide)
              replace h13 := h13.frz_ne (j := 26) (by decide)
              replace h28 := h28.frz_ne (j := 26) (by decide)
              replace h87 := h87.frz_ne (j := 26) (by decide)
              replace h91 := h91.frz 26
              replace h594 := h594.frz 26 (by decide)
              have h596 := h498.frzF
              replace h498 := h498.frz
              replace h6 := h6.frz_ne (j := 26) (by decide)
              replace h84 := h84.frz_ne (j := 26) (by decide)
              replace hB := hB.frz 26 (by decide)
              generalize (frz 26 o595) = o597 at *
              refine st_op (by decide) trivial ?_
              refine wf_litR (α := T_waPart) (o := o597) (cs := [v90, (.int .i64 y185), v497]) (xs := ([(⟨y89, y185, y496⟩ : T_waPart)] : List T_waPart)) (vs := [(0, (.agg #[v90, (.int .i64 y185), v497]))]) ⟨[v90, (.int .i64 y185), v497], _, rfl, ⟨_, _, rfl, h91, h498⟩, rfl⟩ rfl ⟨rfl, rfl, trivial⟩ Try.underlying57 Try.sizeOf60 Try.zeroValue60 (by decide) (fillS 3 rfl rfl (by decide)) (by simp) ?_
              intro o598 w599 v600 h601 s602 k603
              replace h11 := h11.stp s602 (by decide) (by decide)
              replace h13 := h13.stp s602 (by decide) (by decide)
              replace h28 := h28.stp s602 (by decide) (by decide)
              replace h87 := h87.stp s602 (by decide) (by decide)
              replace h91 := h91.stp s602 (by decide)
              replace h594 := h594.stp s602 (by decide)
              replace h498 := h498.stp s602 (by decide)
              replace h596 := h596.stp s602 (by decide)
              replace h6 := h6.stp s602 (by decide)
              replace h84 := h84.stp s602 (by decide)
              replace hB := hB.stp s602 (by decide)
              obtain ⟨x604, hx604, b40⟩ := bind_some b40
              refine st_op (by decide) trivial ?_
              refine wf_cat h28 h601 (push_cat hx604) (by decide) hB.keeps.size rfl rfl Try.underlying57 info2_t_spec_waPart_Wa rfl (by decide) ?_
              intro o605 w606 v607 h608 s609
              replace h11 := h11.stp s609 (by decide) (by decide)
              replace h13 := h13.stp s609 (by decide) (by decide)
              replace h87 := h87.stp s609 (by decide) (by decide)
              replace h91 := h91.stp s609 (by decide)
              replace h594 := h594.stp s609 (by decide)
              replace h498 := h498.stp s609 (by decide)
              replace h596 := h596.stp s609 (by decide)
              replace h601 := h601.stp s609 (by decide)
              replace h6 := h6.stp s609 (by decide)
              replace h84 := h84.stp s609 (by decide)
              replace hB := hB.stp s609 (by decide)
              refine st_val (ex_assign rfl) (by decide) trivial ?_
              refine wpF_end (r := [(1, (.pointer (some ⟨b5, 0, none⟩))), (3, v10), (4, v607), (5, v22), (6, (.int .i64 y31))]) ⟨rfl, rfl, rfl, rfl, rfl, trivial⟩ ?_
              refine nb_norm ?_
              refine nx ?_
              refine wpC_region ?_
              refine st_val (ex_move rfl) (by decide) trivial ?_
              obtain ⟨x610, hx610, b40⟩ := bind_some b40
              refine st_val (ex_add rfl rfl hx610) (by decide) trivial ?_
              refine st_val (ex_assign rfl) (by decide) trivial ?_
              refine wpF_end (r := [(1, (.pointer (some ⟨b5, 0, none⟩))), (3, v10), (4, v607), (5, v22), (6, (.int .i64 x610))]) ⟨rfl, rfl, rfl, rfl, rfl, trivial⟩ ?_
              refine nt_norm ?_
              have e611 := Option.some.inj b40
              subst e611
              refine to_k (r := [(1, (.pointer (some ⟨b5, 0, none⟩))), (3, v10), (4, v607), (5, v22), (6, (.int .i64 x610))]) ⟨rfl, rfl, rfl, rfl, rfl, trivial⟩ ?_
              intro a ha
              exact ⟨K42, by omega, x604, y86, x610, v607, o605, n41, ha, hB, h11, h13, h608, h87, h6⟩
            · exact fun _ _ h => h.elim
          · exact fun _ _ h => h.elim
        · exact fun _ _ h => h.elim
    · rw [if_neg (by rw [t44]; decide)] at b40
      refine wpC_exit ?_
      refine nt_exit ?_
      refine nt_exit ?_
      refine nb_hit ?_
      refine np_norm ?_
      have e612 := Option.some.inj b40
      subst e612
      refine to_k (r := [(4, v27)]) ⟨rfl, trivial⟩ ?_
      intro a ha
      exact ⟨y26, y29, y31, v27, o32, n41, ha, hB, h28⟩
  · rintro a w33 ⟨y26, y29, y31, v27, o32, rfl, ha, hB, h28⟩
    dsimp only at hF
    refine ap_k ha ?_
    refine nx ?_
    refine wpC_seq ?_
    refine wpC_region ?_
    refine st_val (ex_move rfl) (by decide) trivial ?_
    refine st_val (ex_assign rfl) (by decide) trivial ?_
    refine wpF_end (r := [(2, v27)]) ⟨rfl, trivial⟩ ?_
    refine nx ?_
    refine wpC_ret ?_
    have e613 := Option.some.inj hF
    subst e613
    refine ret_post (P := Try.prog) (vs := [v27]) Try.results38 ⟨rfl, trivial⟩ ?_
    exact ⟨_, rt oo o32 w.heap.size 15 t, rfl, h28.rt hB (by decide) t, hB.keeps, rt_old _ _ _ _ _⟩
  · exact fun _ _ h => h.elim

end Go.Proofs.Ytffgdhbhlcifmaa
