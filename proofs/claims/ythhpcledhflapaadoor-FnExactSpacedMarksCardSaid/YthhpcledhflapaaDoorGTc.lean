/- spec.cyMark, spec.cySpaced, spec.SpacedMarks, impl.cycleMarks, impl.spacedMarks, impl.SpacedMarks: plain functions, and the walks that show that the program computes them (printed by gen.py). -/
import Derived.Test.YthhpcledhflapaaDoorGTb
import Derived.Test.YthhpcledhflapaaDoorGIm
namespace Go.Proofs.YthhpcledhflapaaDoor
open Go.RowKit
set_option linter.unusedSimpArgs false
set_option linter.unusedVariables false

theorem info2_t_int_Tc : Inf Tryd.prog 3 (.int .i64 0) 1 8 := by unfold Inf; kernel_rfl

theorem info2_t_bool_Tc : Inf Tryd.prog 4 (.bool false) 1 1 := by unfold Inf; kernel_rfl

def fS_cyMark_s2 (p0 : List Int) (y9 : Int) : Int → Int → (List Bool) → Option (Lp (List Bool) (List Bool) (List Int)) := fun (i27 : Int) (x37 : Int) (s : List Bool) =>
  (
    if x37 == y9 then
      (ck (i27 + (p0.length : Int))) >>= fun x47 =>
      (ck (x47 - 1)) >>= fun x48 =>
      (rem x48 (p0.length : Int)) >>= fun x49 =>
      (ix s x49) >>= fun x50 =>
      if !x50 then
        (ck (i27 + 1)) >>= fun x57 =>
        (rem x57 (p0.length : Int)) >>= fun x58 =>
        (ix s x58) >>= fun x59 =>
        some (!x59)
      else
        some false
    else
      some false) >>= fun q43 =>
  if q43 then
    (ix s i27) >>= fun x69 =>
    (st s i27 true) >>= fun x78 =>
    some (.go x78)
  else
    some (.go s)
def fS_cyMark_s1 (p0 : List Int) : ((List Bool) × Int) → Option (Lp ((List Bool) × Int) ((List Bool) × Int) (List Int)) := fun (s : (List Bool) × Int) =>
  if decide (s.2 ≤ 2) then
    (forI (fS_cyMark_s2 p0 s.2) p0 0 s.1) >>= fun q28 =>
    match q28 with
    | .inl y23 =>
      (ck (s.2 + 1)) >>= fun x83 =>
      some (.go (y23, x83))
    | .inr _ => none
  else
    some (.out (s.1, s.2))
def fS_cyMark_s3 (y7 : List Bool) : Int → (List Int) → Option (Lp (List Int) (List Int) (List Int)) := fun (i92 : Int) (s : List Int) =>
  (ix y7 i92) >>= fun x104 =>
  if x104 then
    (push s i92) >>= fun x117 =>
    some (.go x117)
  else
    some (.go s)
def fS_cyMark (fuel : Nat) (p0 : List Int) : Option (List Int) :=
  (mk (Rz.z : Bool) (p0.length : Int)) >>= fun x1 =>
  (loopF (fS_cyMark_s1 p0) fuel (x1, 0)) >>= fun q12 =>
  match q12 with
  | .inl (y7, y9) =>
    ck (y7.length : Int) >>= fun _ =>
    (forN (fS_cyMark_s3 y7) ((y7.length : Int)).toNat 0 []) >>= fun q93 =>
    match q93 with
    | .inl y87 =>
      some y87
    | .inr _ => none
  | .inr _ => none

def pS_cyMark (oo : Tg) (t : Nat) (w : World) (r : List Int) : Ending → World → Prop := fun e w' => ∃ (v0 : Value) (o' : Tg), e = .returned (v0) ∧ Ow w.heap.size 3 t o' w' v0 r ∧ Keeps w w' ∧ ∀ b, b < w.heap.size → o' b = oo b
set_option maxRecDepth 100000 in
set_option maxHeartbeats 2000000 in
theorem cS_cyMark (fuel : Nat) (w : World) (oo : Tg) (t : Nat) (ht : 2 ≤ t) (u0 : Value) (p0 : List Int) (g0 : RdL zt w u0 p0) (r : List Int) (hF : fS_cyMark fuel p0 = some r) :
    Calls Tryd.prog 55 #[u0] w (pS_cyMark oo t w r) := by
  unfold fS_cyMark at hF
  have hB : Bs oo (col oo) w w := Bs.start _ _
  refine calls_start (n := 70) (vs := [u0]) Tryd.func55 rfl rfl ?_
  generalize col oo = o at *
  refine wpC_seq ?_
  refine wpC_region ?_
  refine st_val (ex_assign rfl) (by decide) trivial ?_
  refine wpF_end (r := [(0, u0)]) ⟨rfl, trivial⟩ ?_
  refine nx ?_
  refine wpC_seq ?_
  refine wpC_region ?_
  refine st_val (ex_move rfl) (by decide) trivial ?_
  refine st_val (ex_lenR rfl g0 Tryd.underlying22) (by decide) trivial ?_
  obtain ⟨x1, hx1, hF⟩ := bind_some hF
  refine st_op (by decide) trivial ?_
  refine wf_make (o := o) w.heap.size 11 hB.keeps.size hx1 rfl rfl Tryd.underlying70 info2_t_bool_Tc rfl (by decide) ?_
  intro o2 w3 v4 h5 s6
  replace hB := hB.stp s6 (by decide)
  refine st_val (ex_assign rfl) (by decide) trivial ?_
  refine wpF_end (r := [(0, u0), (3, v4)]) ⟨rfl, rfl, trivial⟩ ?_
  refine nx ?_
  refine wpC_seq ?_
  refine wpC_seq ?_
  refine wpC_region ?_
  refine st_val (ex_assign rfl) (by decide) trivial ?_
  refine wpF_end (r := [(0, u0), (3, v4), (4, (.int .i64 0))]) ⟨rfl, rfl, rfl, trivial⟩ ?_
  refine nx ?_
  obtain ⟨q12, hq12, hF⟩ := bind_some hF
  refine wpC_cutN (fun a w11 => ∃ (y7 : List Bool) (y9 : Int) (o10 : Tg), q12 = .inl (y7, y9) ∧ Fr a 70 [(3, v4)] ∧ Bs oo o10 w w11 ∧ Ow w.heap.size 4 11 o10 w11 v4 y7) (fun _ _ => False) ?_ ?_ ?_
  · refine wpC_block ?_
    refine wpC_loop (fun (K : Nat) a w11 => ∃ (y7 : List Bool) (y9 : Int) (o10 : Tg), loopF (fS_cyMark_s1 p0) K (y7, y9) = some q12 ∧ Fr a 70 [(0, u0), (3, v4), (4, (.int .i64 y9))] ∧ Bs oo o10 w w11 ∧ Ow w.heap.size 4 11 o10 w11 v4 y7) fuel (fun a ha => ⟨x1, 0, o2, hq12, ha.sub (r := [(0, u0), (3, v4), (4, (.int .i64 0))]) ⟨rfl, rfl, rfl, trivial⟩, hB, h5⟩) ?_
    rintro K16 a w11 ⟨y7, y9, o10, l13, ha, hB, h8⟩
    obtain ⟨K20, q17, e21, b18, n19⟩ := loopF_cons l13
    dsimp only [fS_cyMark_s1] at b18
    refine wp_of ha ?_
    refine wpC_seq ?_
    refine wpC_seq ?_
    refine wpC_region ?_
    refine st_val (ex_move rfl) (by decide) trivial ?_
    refine st_val (ex_leq rfl rfl) (by decide) trivial ?_
    refine wpF_end (r := [(0, u0), (3, v4), (4, (.int .i64 y9)), (13, (.bool (decide (y9 ≤ 2))))]) ⟨rfl, rfl, rfl, rfl, trivial⟩ ?_
    refine nx ?_
    refine wpC_cond rfl (fun t22 => ?_) (fun t22 => ?_)
    · rw [if_pos t22] at b18
      refine wpC_skip ?_
      refine nx ?_
      refine wpC_seq ?_
      refine wpC_block ?_
      refine wpC_seq ?_
      refine wpC_region ?_
      refine st_val (ex_move rfl) (by decide) trivial ?_
      refine st_val (ex_lenR rfl g0 Tryd.underlying22) (by decide) trivial ?_
      refine st_val (ex_move rfl) (by decide) trivial ?_
      refine wpF_end (r := [(0, u0), (3, v4), (4, (.int .i64 y9)), (16, u0), (17, (.int .i64 (p0.length : Int))), (18, (.int .i64 0))]) ⟨rfl, rfl, rfl, rfl, rfl, rfl, trivial⟩ ?_
      refine nx ?_
      obtain ⟨q28, hq28, b18⟩ := bind_some b18
      refine wpC_cutN (fun a w26 => ∃ (y23 : List Bool) (o25 : Tg), q28 = .inl y23 ∧ Fr a 70 [(0, u0), (3, v4), (4, (.int .i64 y9))] ∧ Bs oo o25 w w26 ∧ Ow w.heap.size 4 11 o25 w26 v4 y23) (fun _ _ => False) ?_ ?_ ?_
      · refine wpC_block ?_
        refine wpC_loop (fun (K : Nat) a w26 => ∃ (i27 : Int) (y23 : List Bool) (o25 : Tg), forI (fS_cyMark_s2 p0 y9) (p0.drop i27.toNat) i27 y23 = some q28 ∧ (p0.drop i27.toNat).length = K ∧ 0 ≤ i27 ∧ Fr a 70 [(0, u0), (3, v4), (4, (.int .i64 y9)), (16, u0), (17, (.int .i64 (p0.length : Int))), (18, (.int .i64 i27))] ∧ Bs oo o25 w w26 ∧ Ow w.heap.size 4 11 o25 w26 v4 y23) _ (fun a ha => ⟨0, y7, o10, hq28, rfl, Int.le_refl 0, ha.sub (r := [(0, u0), (3, v4), (4, (.int .i64 y9)), (16, u0), (17, (.int .i64 (p0.length : Int))), (18, (.int .i64 0))]) ⟨rfl, rfl, rfl, rfl, rfl, rfl, trivial⟩, hB, h8⟩) ?_
        rintro K32 a w26 ⟨i27, y23, o25, l29, m31, z30, ha, hB, h24⟩
        by_cases t36 : i27 < (p0.length : Int)
        · obtain ⟨x37, q33, hx37, b34, n35⟩ := forI_cons z30 t36 l29
          have hle := g0.len_le
          dsimp only [fS_cyMark_s2] at b34
          refine wp_of ha ?_
          refine wpC_seq ?_
          refine wpC_region ?_
          refine st_val (ex_lss rfl rfl) (by decide) trivial ?_
          refine wpF_end (r := [(0, u0), (3, v4), (4, (.int .i64 y9)), (16, u0), (17, (.int .i64 (p0.length : Int))), (18, (.int .i64 i27)), (19, (.bool (decide (i27 < (p0.length : Int)))))]) ⟨rfl, rfl, rfl, rfl, rfl, rfl, rfl, trivial⟩ ?_
          refine nx ?_
          refine wpC_seq ?_
          refine wpC_true (congrArg (fun b => some (Value.bool b)) (decide_eq_true t36)) ?_
          refine wpC_skip ?_
          refine nx ?_
          refine wpC_seq ?_
          refine wpC_block ?_
          refine wpC_seq ?_
          refine wpC_region ?_
          refine st_val (ex_move rfl) (by decide) trivial ?_
          refine st_op (by decide) trivial ?_
          refine wf_atZ g0 hx37 hB rfl rfl Tryd.underlying22 Tryd.sizeOf3 ?_
          intro b38 f39 c40 h41 h42
          cases h42
          refine st_val (ex_load1 rfl Tryd.isAgg3 (cell_of_cells h41)) (by decide) trivial ?_
          refine st_val (ex_assign rfl) (by decide) trivial ?_
          refine st_val (ex_assign rfl) (by decide) trivial ?_
          refine wpF_end (r := [(0, u0), (3, v4), (4, (.int .i64 y9)), (5, (.int .i64 i27)), (6, (.int .i64 x37)), (16, u0), (17, (.int .i64 (p0.length : Int))), (18, (.int .i64 i27))]) ⟨rfl, rfl, rfl, rfl, rfl, rfl, rfl, rfl, trivial⟩ ?_
          refine nx ?_
          refine wpC_seq ?_
          refine wpC_region ?_
          refine st_val (ex_move rfl) (by decide) trivial ?_
          refine st_val (ex_move rfl) (by decide) trivial ?_
          refine st_val (ex_eql rfl rfl) (by decide) trivial ?_
          refine st_val (ex_move rfl) (by decide) trivial ?_
          obtain ⟨q43, hq43, b34⟩ := bind_some b34
          refine wpF_cutAt 24 (fun a45 w44 => Fr a45 70 [(0, u0), (3, v4), (4, (.int .i64 y9)), (5, (.int .i64 i27)), (16, u0), (17, (.int .i64 (p0.length : Int))), (18, (.int .i64 i27)), (50, (.bool q43))] ∧ Keeps w26 w44) ?_ ?_
          all_goals simp only [List.take_succ_cons, List.take_zero, List.drop_succ_cons, List.drop_zero]
          · have kp : Keeps w26 w26 := Keeps.refl _
            rcases Bool.eq_false_or_eq_true (x37 == y9) with t46 | t46
            · rw [if_pos t46] at hq43
              refine st_val (ex_move rfl) (by decide) ⟨_, rfl, (congrArg (fun b => some (Value.bool b)) t46)⟩ ?_
              refine st_val (ex_move rfl) (by decide) ⟨_, rfl, (congrArg (fun b => some (Value.bool b)) t46)⟩ ?_
              refine st_val (ex_move rfl) (by decide) ⟨_, rfl, (congrArg (fun b => some (Value.bool b)) t46)⟩ ?_
              refine st_val (ex_lenR rfl g0 Tryd.underlying22) (by decide) ⟨_, rfl, (congrArg (fun b => some (Value.bool b)) t46)⟩ ?_
              obtain ⟨x47, hx47, hq43⟩ := bind_some hq43
              refine st_val (ex_add rfl rfl hx47) (by decide) ⟨_, rfl, (congrArg (fun b => some (Value.bool b)) t46)⟩ ?_
              obtain ⟨x48, hx48, hq43⟩ := bind_some hq43
              refine st_val (ex_sub rfl rfl hx48) (by decide) ⟨_, rfl, (congrArg (fun b => some (Value.bool b)) t46)⟩ ?_
              refine st_val (ex_move rfl) (by decide) ⟨_, rfl, (congrArg (fun b => some (Value.bool b)) t46)⟩ ?_
              refine st_val (ex_lenR rfl g0 Tryd.underlying22) (by decide) ⟨_, rfl, (congrArg (fun b => some (Value.bool b)) t46)⟩ ?_
              obtain ⟨x49, hx49, hq43⟩ := bind_some hq43
              refine st_val (ex_rem rfl rfl hx49) (by decide) ⟨_, rfl, (congrArg (fun b => some (Value.bool b)) t46)⟩ ?_
              obtain ⟨x50, hx50, hq43⟩ := bind_some hq43
              refine st_op (by decide) ⟨_, rfl, (congrArg (fun b => some (Value.bool b)) t46)⟩ ?_
              refine wf_atW h24 hx50 rfl rfl Tryd.underlying70 Tryd.sizeOf4 ?_
              intro b51 f52 c53 h54 h55
              cases h55
              refine st_val (ex_load1 rfl Tryd.isAgg4 (cell_of_cells h54)) (by decide) ⟨_, rfl, (congrArg (fun b => some (Value.bool b)) t46)⟩ ?_
              refine st_val (ex_not rfl) (by decide) ⟨_, rfl, (congrArg (fun b => some (Value.bool b)) t46)⟩ ?_
              refine st_val (ex_pick_t (congrArg (fun b => some (Value.bool b)) t46) rfl) (by decide) trivial ?_
              refine st_val (ex_move rfl) (by decide) trivial ?_
              rcases Bool.eq_false_or_eq_true (!x50) with t56 | t56
              · rw [if_pos t56] at hq43
                refine st_val (ex_move rfl) (by decide) ⟨_, rfl, (congrArg (fun b => some (Value.bool b)) t56)⟩ ?_
                refine st_val (ex_move rfl) (by decide) ⟨_, rfl, (congrArg (fun b => some (Value.bool b)) t56)⟩ ?_
                obtain ⟨x57, hx57, hq43⟩ := bind_some hq43
                refine st_val (ex_add rfl rfl hx57) (by decide) ⟨_, rfl, (congrArg (fun b => some (Value.bool b)) t56)⟩ ?_
                refine st_val (ex_move rfl) (by decide) ⟨_, rfl, (congrArg (fun b => some (Value.bool b)) t56)⟩ ?_
                refine st_val (ex_lenR rfl g0 Tryd.underlying22) (by decide) ⟨_, rfl, (congrArg (fun b => some (Value.bool b)) t56)⟩ ?_
                obtain ⟨x58, hx58, hq43⟩ := bind_some hq43
                refine st_val (ex_rem rfl rfl hx58) (by decide) ⟨_, rfl, (congrArg (fun b => some (Value.bool b)) t56)⟩ ?_
                obtain ⟨x59, hx59, hq43⟩ := bind_some hq43
                refine st_op (by decide) ⟨_, rfl, (congrArg (fun b => some (Value.bool b)) t56)⟩ ?_
                refine wf_atW h24 hx59 rfl rfl Tryd.underlying70 Tryd.sizeOf4 ?_
                intro b60 f61 c62 h63 h64
                cases h64
                refine st_val (ex_load1 rfl Tryd.isAgg4 (cell_of_cells h63)) (by decide) ⟨_, rfl, (congrArg (fun b => some (Value.bool b)) t56)⟩ ?_
                refine st_val (ex_not rfl) (by decide) ⟨_, rfl, (congrArg (fun b => some (Value.bool b)) t56)⟩ ?_
                refine st_val (ex_pick_t (congrArg (fun b => some (Value.bool b)) t56) rfl) (by decide) trivial ?_
                have hq432 := Option.some.inj hq43
                refine wpF_end (r := [(0, u0), (3, v4), (4, (.int .i64 y9)), (5, (.int .i64 i27)), (16, u0), (17, (.int .i64 (p0.length : Int))), (18, (.int .i64 i27)), (50, (.bool (!x59)))]) ⟨rfl, rfl, rfl, rfl, rfl, rfl, rfl, rfl, trivial⟩ ?_
                subst hq432
                refine np_norm (fun a ha => ⟨ha, kp⟩)
              · rw [if_neg (by rw [t56]; decide)] at hq43
                refine st_no rfl rfl (by rw [t56]; rfl) (by decide) ?_
                refine st_no rfl rfl (by rw [t56]; rfl) (by decide) ?_
                refine st_no rfl rfl (by rw [t56]; rfl) (by decide) ?_
                refine st_no rfl rfl (by rw [t56]; rfl) (by decide) ?_
                refine st_no rfl rfl (by rw [t56]; rfl) (by decide) ?_
                refine st_no rfl rfl (by rw [t56]; rfl) (by decide) ?_
                refine st_no rfl rfl (by rw [t56]; rfl) (by decide) ?_
                refine st_no rfl rfl (by rw [t56]; rfl) (by decide) ?_
                refine st_no rfl rfl (by rw [t56]; rfl) (by decide) ?_
                refine st_val (ex_pick_f (congrArg (fun b => some (Value.bool b)) t56) rfl) (by decide) trivial ?_
                have hq432 := Option.some.inj hq43
                refine wpF_end (r := [(0, u0), (3, v4), (4, (.int .i64 y9)), (5, (.int .i64 i27)), (16, u0), (17, (.int .i64 (p0.length : Int))), (18, (.int .i64 i27)), (50, (.bool false))]) ⟨rfl, rfl, rfl, rfl, rfl, rfl, rfl, rfl, trivial⟩ ?_
                subst hq432
                refine np_norm (fun a ha => ⟨ha, kp⟩)
            · rw [if_neg (by rw [t46]; decide)] at hq43
              refine st_no rfl rfl (by rw [t46]; rfl) (by decide) ?_
              refine st_no rfl rfl (by rw [t46]; rfl) (by decide) ?_
              refine st_no rfl rfl (by rw [t46]; rfl) (by decide) ?_
              refine st_no rfl rfl (by rw [t46]; rfl) (by decide) ?_
              refine st_no rfl rfl (by rw [t46]; rfl) (by decide) ?_
              refine st_no rfl rfl (by rw [t46]; rfl) (by decide) ?_
              refine st_no rfl rfl (by rw [t46]; rfl) (by decide) ?_
              refine st_no rfl rfl (by rw [t46]; rfl) (by decide) ?_
              refine st_no rfl rfl (by rw [t46]; rfl) (by decide) ?_
              refine st_no rfl rfl (by rw [t46]; rfl) (by decide) ?_
              refine st_no rfl rfl (by rw [t46]; rfl) (by decide) ?_
              refine st_no rfl rfl (by rw [t46]; rfl) (by decide) ?_
              refine st_val (ex_pick_f (congrArg (fun b => some (Value.bool b)) t46) rfl) (by decide) trivial ?_
              refine st_val (ex_move rfl) (by decide) trivial ?_
              refine st_no rfl rfl rfl (by decide) ?_
              refine st_no rfl rfl rfl (by decide) ?_
              refine st_no rfl rfl rfl (by decide) ?_
              refine st_no rfl rfl rfl (by decide) ?_
              refine st_no rfl rfl rfl (by decide) ?_
              refine st_no rfl rfl rfl (by decide) ?_
              refine st_no rfl rfl rfl (by decide) ?_
              refine st_no rfl rfl rfl (by decide) ?_
              refine st_no rfl rfl rfl (by decide) ?_
              refine st_val (ex_pick_f rfl rfl) (by decide) trivial ?_
              have hq432 := Option.some.inj hq43
              refine wpF_end (r := [(0, u0), (3, v4), (4, (.int .i64 y9)), (5, (.int .i64 i27)), (16, u0), (17, (.int .i64 (p0.length : Int))), (18, (.int .i64 i27)), (50, (.bool false))]) ⟨rfl, rfl, rfl, rfl, rfl, rfl, rfl, rfl, trivial⟩ ?_
              subst hq432
              refine np_norm (fun a ha => ⟨ha, kp⟩)
          rintro a67 w44 ⟨ha, k65⟩
          have s66 := k65.stp 999 o25
          replace h24 := h24.stp s66 (by decide) (by decide)
          replace hB := hB.stp s66 (by decide)
          refine wl_of ha ?_
          refine wpF_end (r := [(0, u0), (3, v4), (4, (.int .i64 y9)), (5, (.int .i64 i27)), (16, u0), (17, (.int .i64 (p0.length : Int))), (18, (.int .i64 i27)), (50, (.bool q43))]) ⟨rfl, rfl, rfl, rfl, rfl, rfl, rfl, rfl, trivial⟩ ?_
          refine nx ?_
          refine wpC_cond rfl (fun t68 => ?_) (fun t68 => ?_)
          · rw [if_pos t68] at b34
            refine wpC_region ?_
            refine st_val (ex_move rfl) (by decide) trivial ?_
            refine st_val (ex_move rfl) (by decide) trivial ?_
            obtain ⟨x69, hx69, b34⟩ := bind_some b34
            refine st_op (by decide) trivial ?_
            refine wf_atP h24 hx69 rfl rfl Tryd.underlying70 Tryd.sizeOf4 ?_
            intro b70 c72 h75 h73 h74
            cases h74
            obtain ⟨x78, hx78, b34⟩ := bind_some b34
            refine st_op0 trivial ?_
            refine wf_storeW h24 h75 hx78 rfl (by decide) rfl rfl rfl Tryd.sizeOf4 rfl ?_
            intro w76 h79 s77
            replace hB := hB.stp s77 (by decide)
            refine wpF_end (r := [(0, u0), (3, v4), (4, (.int .i64 y9)), (16, u0), (17, (.int .i64 (p0.length : Int))), (18, (.int .i64 i27))]) ⟨rfl, rfl, rfl, rfl, rfl, rfl, trivial⟩ ?_
            refine nb_norm ?_
            refine nx ?_
            refine wpC_region ?_
            refine st_val (ex_add rfl rfl (ck_in (by omega) (by omega))) (by decide) trivial ?_
            refine st_val (ex_move rfl) (by decide) trivial ?_
            refine wpF_end (r := [(0, u0), (3, v4), (4, (.int .i64 y9)), (16, u0), (17, (.int .i64 (p0.length : Int))), (18, (.int .i64 (i27 + 1)))]) ⟨rfl, rfl, rfl, rfl, rfl, rfl, trivial⟩ ?_
            refine nt_norm ?_
            have e80 := Option.some.inj b34
            subst e80
            refine to_k (r := [(0, u0), (3, v4), (4, (.int .i64 y9)), (16, u0), (17, (.int .i64 (p0.length : Int))), (18, (.int .i64 (i27 + 1)))]) ⟨rfl, rfl, rfl, rfl, rfl, rfl, trivial⟩ ?_
            intro a ha
            exact ⟨_, (by rw [← m31]; simp only [List.length_drop]; omega), i27 + 1, x78, o25, n35, rfl, (by omega), ha, hB, h79⟩
          · rw [if_neg (by rw [t68]; decide)] at b34
            refine wpC_skip ?_
            refine nb_norm ?_
            refine nx ?_
            refine wpC_region ?_
            refine st_val (ex_add rfl rfl (ck_in (by omega) (by omega))) (by decide) trivial ?_
            refine st_val (ex_move rfl) (by decide) trivial ?_
            refine wpF_end (r := [(0, u0), (3, v4), (4, (.int .i64 y9)), (16, u0), (17, (.int .i64 (p0.length : Int))), (18, (.int .i64 (i27 + 1)))]) ⟨rfl, rfl, rfl, rfl, rfl, rfl, trivial⟩ ?_
            refine nt_norm ?_
            have e81 := Option.some.inj b34
            subst e81
            refine to_k (r := [(0, u0), (3, v4), (4, (.int .i64 y9)), (16, u0), (17, (.int .i64 (p0.length : Int))), (18, (.int .i64 (i27 + 1)))]) ⟨rfl, rfl, rfl, rfl, rfl, rfl, trivial⟩ ?_
            intro a ha
            exact ⟨_, (by rw [← m31]; simp only [List.length_drop]; omega), i27 + 1, y23, o25, n35, rfl, (by omega), ha, hB, h24⟩
        · have r82 := forI_done t36 l29
          refine wp_of ha ?_
          refine wpC_seq ?_
          refine wpC_region ?_
          refine st_val (ex_lss rfl rfl) (by decide) trivial ?_
          refine wpF_end (r := [(0, u0), (3, v4), (4, (.int .i64 y9)), (16, u0), (17, (.int .i64 (p0.length : Int))), (18, (.int .i64 i27)), (19, (.bool (decide (i27 < (p0.length : Int)))))]) ⟨rfl, rfl, rfl, rfl, rfl, rfl, rfl, trivial⟩ ?_
          refine nx ?_
          refine wpC_seq ?_
          refine wpC_false (congrArg (fun b => some (Value.bool b)) (decide_eq_false t36)) ?_
          refine wpC_exit ?_
          refine nt_exit ?_
          refine nt_exit ?_
          refine nb_hit ?_
          refine np_norm ?_
          refine to_k (r := [(0, u0), (3, v4), (4, (.int .i64 y9))]) ⟨rfl, rfl, rfl, trivial⟩ ?_
          intro a ha
          exact ⟨y23, o25, r82, ha, hB, h24⟩
      · rintro a w26 ⟨y23, o25, rfl, ha, hB, h24⟩
        dsimp only at b18
        refine ap_k ha ?_
        refine nb_norm ?_
        refine nx ?_
        refine wpC_region ?_
        refine st_val (ex_move rfl) (by decide) trivial ?_
        obtain ⟨x83, hx83, b18⟩ := bind_some b18
        refine st_val (ex_add rfl rfl hx83) (by decide) trivial ?_
        refine st_val (ex_assign rfl) (by decide) trivial ?_
        refine wpF_end (r := [(0, u0), (3, v4), (4, (.int .i64 x83))]) ⟨rfl, rfl, rfl, trivial⟩ ?_
        refine nt_norm ?_
        have e84 := Option.some.inj b18
        subst e84
        refine to_k (r := [(0, u0), (3, v4), (4, (.int .i64 x83))]) ⟨rfl, rfl, rfl, trivial⟩ ?_
        intro a ha
        exact ⟨K20, by omega, y23, x83, o25, n19, ha, hB, h24⟩
      · exact fun _ _ h => h.elim
    · rw [if_neg (by rw [t22]; decide)] at b18
      refine wpC_exit ?_
      refine nt_exit ?_
      refine nt_exit ?_
      refine nb_hit ?_
      refine np_norm ?_
      have e85 := Option.some.inj b18
      subst e85
      refine to_k (r := [(3, v4)]) ⟨rfl, trivial⟩ ?_
      intro a ha
      exact ⟨y7, y9, o10, n19, ha, hB, h8⟩
  · rintro a w11 ⟨y7, y9, o10, rfl, ha, hB, h8⟩
    dsimp only at hF
    refine ap_k ha ?_
    refine nx ?_
    refine wpC_seq ?_
    refine wpC_region ?_
    refine st_val (ex_assign rfl) (by decide) trivial ?_
    refine wpF_end (r := [(3, v4), (7, (.slice none 0 0))]) ⟨rfl, rfl, trivial⟩ ?_
    refine nx ?_
    refine wpC_seq ?_
    refine wpC_seq ?_
    refine wpC_region ?_
    refine st_val (ex_move rfl) (by decide) trivial ?_
    refine st_val (ex_lenO rfl h8 Tryd.underlying70) (by decide) trivial ?_
    refine st_val (ex_move rfl) (by decide) trivial ?_
    refine wpF_end (r := [(3, v4), (7, (.slice none 0 0)), (56, (.int .i64 (y7.length : Int))), (57, (.int .i64 0))]) ⟨rfl, rfl, rfl, rfl, trivial⟩ ?_
    refine nx ?_
    have h86 : Ow w.heap.size 3 12 o10 w11 (.slice none 0 0) ([] : List Int) := Ow.nil _ _ _ _ _
    obtain ⟨u95, h94, hF⟩ := bind_some hF
    obtain ⟨-, h94a, h94b⟩ := ck_some h94
    obtain ⟨q93, hq93, hF⟩ := bind_some hF
    refine wpC_cutN (fun a w91 => ∃ (y87 : List Int) (v88 : Value) (o90 : Tg), q93 = .inl y87 ∧ Fr a 70 [(7, v88)] ∧ Bs oo o90 w w91 ∧ Ow w.heap.size 3 12 o90 w91 v88 y87) (fun _ _ => False) ?_ ?_ ?_
    · refine wpC_block ?_
      refine wpC_loop (fun (K : Nat) a w91 => ∃ (i92 : Int) (y87 : List Int) (v88 : Value) (o90 : Tg), forN (fS_cyMark_s3 y7) ((y7.length : Int) - i92).toNat i92 y87 = some q93 ∧ ((y7.length : Int) - i92).toNat = K ∧ 0 ≤ i92 ∧ Fr a 70 [(3, v4), (7, v88), (56, (.int .i64 (y7.length : Int))), (57, (.int .i64 i92))] ∧ Bs oo o90 w w91 ∧ Ow w.heap.size 4 11 o90 w91 v4 y7 ∧ Ow w.heap.size 3 12 o90 w91 v88 y87) _ (fun a ha => ⟨0, [], (.slice none 0 0), o10, (by rw [Int.sub_zero]; exact hq93), rfl, Int.le_refl 0, ha.sub (r := [(3, v4), (7, (.slice none 0 0)), (56, (.int .i64 (y7.length : Int))), (57, (.int .i64 0))]) ⟨rfl, rfl, rfl, rfl, trivial⟩, hB, h8, h86⟩) ?_
      rintro K99 a w91 ⟨i92, y87, v88, o90, l96, m98, z97, ha, hB, h8, h89⟩
      by_cases t103 : i92 < (y7.length : Int)
      · obtain ⟨q100, b101, n102⟩ := forN_cons t103 l96
        dsimp only [fS_cyMark_s3] at b101
        refine wp_of ha ?_
        refine wpC_seq ?_
        refine wpC_region ?_
        refine st_val (ex_lss rfl rfl) (by decide) trivial ?_
        refine wpF_end (r := [(3, v4), (7, v88), (56, (.int .i64 (y7.length : Int))), (57, (.int .i64 i92)), (58, (.bool (decide (i92 < (y7.length : Int)))))]) ⟨rfl, rfl, rfl, rfl, rfl, trivial⟩ ?_
        refine nx ?_
        refine wpC_seq ?_
        refine wpC_true (congrArg (fun b => some (Value.bool b)) (decide_eq_true t103)) ?_
        refine wpC_skip ?_
        refine nx ?_
        refine wpC_seq ?_
        refine wpC_block ?_
        refine wpC_seq ?_
        refine wpC_region ?_
        refine st_val (ex_move rfl) (by decide) trivial ?_
        refine st_val (ex_assign rfl) (by decide) trivial ?_
        refine wpF_end (r := [(3, v4), (7, v88), (8, (.int .i64 i92)), (56, (.int .i64 (y7.length : Int))), (57, (.int .i64 i92))]) ⟨rfl, rfl, rfl, rfl, rfl, trivial⟩ ?_
        refine nx ?_
        refine wpC_seq ?_
        refine wpC_region ?_
        refine st_val (ex_move rfl) (by decide) trivial ?_
        refine st_val (ex_move rfl) (by decide) trivial ?_
        obtain ⟨x104, hx104, b101⟩ := bind_some b101
        refine st_op (by decide) trivial ?_
        refine wf_atW h8 hx104 rfl rfl Tryd.underlying70 Tryd.sizeOf4 ?_
        intro b105 f106 c107 h108 h109
        cases h109
        refine st_val (ex_load1 rfl Tryd.isAgg4 (cell_of_cells h108)) (by decide) trivial ?_
        refine wpF_end (r := [(3, v4), (7, v88), (8, (.int .i64 i92)), (56, (.int .i64 (y7.length : Int))), (57, (.int .i64 i92)), (63, (.bool x104))]) ⟨rfl, rfl, rfl, rfl, rfl, rfl, trivial⟩ ?_
        refine nx ?_
        refine wpC_cond rfl (fun t110 => ?_) (fun t110 => ?_)
        · rw [if_pos t110] at b101
          refine wpC_region ?_
          refine st_val (ex_move rfl) (by decide) trivial ?_
          refine st_val (ex_move rfl) (by decide) trivial ?_
          refine st_op (by decide) trivial ?_
          refine wf_litR (o := o90) (cs := [(.int .i64 i92)]) (xs := ([i92] : List Int)) (vs := [(0, (.int .i64 i92))]) ⟨_, _, rfl, rfl, rfl⟩ rfl ⟨rfl, rfl, trivial⟩ Tryd.underlying22 Tryd.sizeOf3 Tryd.zeroValue3 (by decide) (fill1 rfl) (by simp) ?_
          intro o111 w112 v113 h114 s115 k116
          replace h8 := h8.stp s115 (by decide) (by decide)
          replace h89 := h89.stp s115 (by decide) (by decide)
          replace hB := hB.stp s115 (by decide)
          obtain ⟨x117, hx117, b101⟩ := bind_some b101
          refine st_op (by decide) trivial ?_
          refine wf_cat h89 h114 (push_cat hx117) (by decide) hB.keeps.size rfl rfl Tryd.underlying22 info2_t_int_Tc rfl (by decide) ?_
          intro o118 w119 v120 h121 s122
          replace h8 := h8.stp s122 (by decide) (by decide)
          replace h114 := h114.stp s122 (by decide)
          replace hB := hB.stp s122 (by decide)
          refine st_val (ex_assign rfl) (by decide) trivial ?_
          refine wpF_end (r := [(3, v4), (7, v120), (56, (.int .i64 (y7.length : Int))), (57, (.int .i64 i92))]) ⟨rfl, rfl, rfl, rfl, trivial⟩ ?_
          refine nb_norm ?_
          refine nx ?_
          refine wpC_region ?_
          refine st_val (ex_add rfl rfl (ck_in (by omega) (by omega))) (by decide) trivial ?_
          refine st_val (ex_move rfl) (by decide) trivial ?_
          refine wpF_end (r := [(3, v4), (7, v120), (56, (.int .i64 (y7.length : Int))), (57, (.int .i64 (i92 + 1)))]) ⟨rfl, rfl, rfl, rfl, trivial⟩ ?_
          refine nt_norm ?_
          have e123 := Option.some.inj b101
          subst e123
          refine to_k (r := [(3, v4), (7, v120), (56, (.int .i64 (y7.length : Int))), (57, (.int .i64 (i92 + 1)))]) ⟨rfl, rfl, rfl, rfl, trivial⟩ ?_
          intro a ha
          exact ⟨_, (by rw [← m98]; omega), i92 + 1, x117, v120, o118, n102, rfl, (by omega), ha, hB, h8, h121⟩
        · rw [if_neg (by rw [t110]; decide)] at b101
          refine wpC_skip ?_
          refine nb_norm ?_
          refine nx ?_
          refine wpC_region ?_
          refine st_val (ex_add rfl rfl (ck_in (by omega) (by omega))) (by decide) trivial ?_
          refine st_val (ex_move rfl) (by decide) trivial ?_
          refine wpF_end (r := [(3, v4), (7, v88), (56, (.int .i64 (y7.length : Int))), (57, (.int .i64 (i92 + 1)))]) ⟨rfl, rfl, rfl, rfl, trivial⟩ ?_
          refine nt_norm ?_
          have e124 := Option.some.inj b101
          subst e124
          refine to_k (r := [(3, v4), (7, v88), (56, (.int .i64 (y7.length : Int))), (57, (.int .i64 (i92 + 1)))]) ⟨rfl, rfl, rfl, rfl, trivial⟩ ?_
          intro a ha
          exact ⟨_, (by rw [← m98]; omega), i92 + 1, y87, v88, o90, n102, rfl, (by omega), ha, hB, h8, h89⟩
      · have r125 := forN_done t103 l96
        refine wp_of ha ?_
        refine wpC_seq ?_
        refine wpC_region ?_
        refine st_val (ex_lss rfl rfl) (by decide) trivial ?_
        refine wpF_end (r := [(3, v4), (7, v88), (56, (.int .i64 (y7.length : Int))), (57, (.int .i64 i92)), (58, (.bool (decide (i92 < (y7.length : Int)))))]) ⟨rfl, rfl, rfl, rfl, rfl, trivial⟩ ?_
        refine nx ?_
        refine wpC_seq ?_
        refine wpC_false (congrArg (fun b => some (Value.bool b)) (decide_eq_false t103)) ?_
        refine wpC_exit ?_
        refine nt_exit ?_
        refine nt_exit ?_
        refine nb_hit ?_
        refine np_norm ?_
        refine to_k (r := [(7, v88)]) ⟨rfl, trivial⟩ ?_
        intro a ha
        exact ⟨y87, v88, o90, r125, ha, hB, h89⟩
    · rintro a w91 ⟨y87, v88, o90, rfl, ha, hB, h89⟩
      dsimp only at hF
      refine ap_k ha ?_
      refine nx ?_
      refine wpC_seq ?_
      refine wpC_region ?_
      refine st_val (ex_move rfl) (by decide) trivial ?_
      refine st_val (ex_assign rfl) (by decide) trivial ?_
      refine wpF_end (r := [(2, v88)]) ⟨rfl, trivial⟩ ?_
      refine nx ?_
      refine wpC_ret ?_
      have e126 := Option.some.inj hF
      subst e126
      refine ret_post (P := Tryd.prog) (vs := [v88]) Tryd.results55 ⟨rfl, trivial⟩ ?_
      exact ⟨_, rt oo o90 w.heap.size 12 t, rfl, h89.rt hB (by decide) t, hB.keeps, rt_old _ _ _ _ _⟩
    · exact fun _ _ h => h.elim
  · exact fun _ _ h => h.elim

def fS_cySpaced_s1 : Int → (List Int) → Option (Lp (List Int) (List Int) (List Int)) := fun (i7 : Int) (s : List Int) =>
  (push s i7) >>= fun x25 =>
  some (.go x25)
def fS_cySpaced_s2 (fuel : Nat) (p0 : List Int) : (Int × (List Int)) → Option (Lp (Int × (List Int)) (Int × (List Int)) (List Int)) := fun (s : Int × (List Int)) =>
  (
    if decide (s.1 > 0) then
      some (decide ((s.2.length : Int) > 1))
    else
      some false) >>= fun q49 =>
  if q49 then
    (fS_coThrough p0 s.2) >>= fun x57 =>
    (fS_cyThree fuel x57) >>= fun x66 =>
    (fS_cyMark fuel x66.1) >>= fun x75 =>
    (fS_coThrough s.2 x75) >>= fun x84 =>
    (ck (s.1 - 1)) >>= fun x93 =>
    some (.go (x93, x84))
  else
    some (.out (s.1, s.2))
def fS_cySpaced (fuel : Nat) (p0 : List Int) (p1 : Int) : Option (List Int) :=
  ck (p0.length : Int) >>= fun _ =>
  (forN (fS_cySpaced_s1) ((p0.length : Int)).toNat 0 []) >>= fun q8 =>
  match q8 with
  | .inl y2 =>
    (loopF (fS_cySpaced_s2 fuel p0) fuel (p1, y2)) >>= fun q39 =>
    match q39 with
    | .inl (y33, y34) =>
      some y34
    | .inr _ => none
  | .inr _ => none

def pS_cySpaced (oo : Tg) (t : Nat) (w : World) (r : List Int) : Ending → World → Prop := fun e w' => ∃ (v0 : Value) (o' : Tg), e = .returned (v0) ∧ Ow w.heap.size 3 t o' w' v0 r ∧ Keeps w w' ∧ ∀ b, b < w.heap.size → o' b = oo b
set_option maxRecDepth 100000 in
set_option maxHeartbeats 2000000 in
theorem cS_cySpaced (fuel : Nat) (w : World) (oo : Tg) (t : Nat) (ht : 2 ≤ t) (u0 : Value) (p0 : List Int) (g0 : RdL zt w u0 p0) (p1 : Int) (r : List Int) (hF : fS_cySpaced fuel p0 p1 = some r) :
    Calls Tryd.prog 31 #[u0, .int .i64 p1] w (pS_cySpaced oo t w r) := by
  unfold fS_cySpaced at hF
  have hB : Bs oo (col oo) w w := Bs.start _ _
  refine calls_start (n := 42) (vs := [u0, (.int .i64 p1)]) Tryd.func31 rfl rfl ?_
  generalize col oo = o at *
  refine wpC_seq ?_
  refine wpC_region ?_
  refine st_val (ex_assign rfl) (by decide) trivial ?_
  refine wpF_end (r := [(0, u0), (1, (.int .i64 p1))]) ⟨rfl, rfl, trivial⟩ ?_
  refine nx ?_
  refine wpC_seq ?_
  refine wpC_region ?_
  refine st_val (ex_assign rfl) (by decide) trivial ?_
  refine wpF_end (r := [(0, u0), (1, (.int .i64 p1)), (5, (.slice none 0 0))]) ⟨rfl, rfl, rfl, trivial⟩ ?_
  refine nx ?_
  refine wpC_seq ?_
  refine wpC_seq ?_
  refine wpC_region ?_
  refine st_val (ex_move rfl) (by decide) trivial ?_
  refine st_val (ex_lenR rfl g0 Tryd.underlying22) (by decide) trivial ?_
  refine st_val (ex_move rfl) (by decide) trivial ?_
  refine wpF_end (r := [(0, u0), (1, (.int .i64 p1)), (5, (.slice none 0 0)), (11, (.int .i64 (p0.length : Int))), (12, (.int .i64 0))]) ⟨rfl, rfl, rfl, rfl, rfl, trivial⟩ ?_
  refine nx ?_
  have h1 : Ow w.heap.size 3 11 o w (.slice none 0 0) ([] : List Int) := Ow.nil _ _ _ _ _
  obtain ⟨u10, h9, hF⟩ := bind_some hF
  obtain ⟨-, h9a, h9b⟩ := ck_some h9
  obtain ⟨q8, hq8, hF⟩ := bind_some hF
  refine wpC_cutN (fun a w6 => ∃ (y2 : List Int) (v3 : Value) (o5 : Tg), q8 = .inl y2 ∧ Fr a 42 [(0, u0), (1, (.int .i64 p1)), (5, v3)] ∧ Bs oo o5 w w6 ∧ Ow w.heap.size 3 11 o5 w6 v3 y2) (fun _ _ => False) ?_ ?_ ?_
  · refine wpC_block ?_
    refine wpC_loop (fun (K : Nat) a w6 => ∃ (i7 : Int) (y2 : List Int) (v3 : Value) (o5 : Tg), forN (fS_cySpaced_s1) ((p0.length : Int) - i7).toNat i7 y2 = some q8 ∧ ((p0.length : Int) - i7).toNat = K ∧ 0 ≤ i7 ∧ Fr a 42 [(0, u0), (1, (.int .i64 p1)), (5, v3), (11, (.int .i64 (p0.length : Int))), (12, (.int .i64 i7))] ∧ Bs oo o5 w w6 ∧ Ow w.heap.size 3 11 o5 w6 v3 y2) _ (fun a ha => ⟨0, [], (.slice none 0 0), o, (by rw [Int.sub_zero]; exact hq8), rfl, Int.le_refl 0, ha.sub (r := [(0, u0), (1, (.int .i64 p1)), (5, (.slice none 0 0)), (11, (.int .i64 (p0.length : Int))), (12, (.int .i64 0))]) ⟨rfl, rfl, rfl, rfl, rfl, trivial⟩, hB, h1⟩) ?_
    rintro K14 a w6 ⟨i7, y2, v3, o5, l11, m13, z12, ha, hB, h4⟩
    by_cases t18 : i7 < (p0.length : Int)
    · obtain ⟨q15, b16, n17⟩ := forN_cons t18 l11
      dsimp only [fS_cySpaced_s1] at b16
      refine wp_of ha ?_
      refine wpC_seq ?_
      refine wpC_region ?_
      refine st_val (ex_lss rfl rfl) (by decide) trivial ?_
      refine wpF_end (r := [(0, u0), (1, (.int .i64 p1)), (5, v3), (11, (.int .i64 (p0.length : Int))), (12, (.int .i64 i7)), (13, (.bool (decide (i7 < (p0.length : Int)))))]) ⟨rfl, rfl, rfl, rfl, rfl, rfl, trivial⟩ ?_
      refine nx ?_
      refine wpC_seq ?_
      refine wpC_true (congrArg (fun b => some (Value.bool b)) (decide_eq_true t18)) ?_
      refine wpC_skip ?_
      refine nx ?_
      refine wpC_seq ?_
      refine wpC_block ?_
      refine wpC_seq ?_
      refine wpC_region ?_
      refine st_val (ex_move rfl) (by decide) trivial ?_
      refine st_val (ex_assign rfl) (by decide) trivial ?_
      refine wpF_end (r := [(0, u0), (1, (.int .i64 p1)), (5, v3), (6, (.int .i64 i7)), (11, (.int .i64 (p0.length : Int))), (12, (.int .i64 i7))]) ⟨rfl, rfl, rfl, rfl, rfl, rfl, trivial⟩ ?_
      refine nx ?_
      refine wpC_region ?_
      refine st_val (ex_move rfl) (by decide) trivial ?_
      refine st_val (ex_move rfl) (by decide) trivial ?_
      refine st_op (by decide) trivial ?_
      refine wf_litR (o := o5) (cs := [(.int .i64 i7)]) (xs := ([i7] : List Int)) (vs := [(0, (.int .i64 i7))]) ⟨_, _, rfl, rfl, rfl⟩ rfl ⟨rfl, rfl, trivial⟩ Tryd.underlying22 Tryd.sizeOf3 Tryd.zeroValue3 (by decide) (fill1 rfl) (by simp) ?_
      intro o19 w20 v21 h22 s23 k24
      replace h4 := h4.stp s23 (by decide) (by decide)
      replace hB := hB.stp s23 (by decide)
      obtain ⟨x25, hx25, b16⟩ := bind_some b16
      refine st_op (by decide) trivial ?_
      refine wf_cat h4 h22 (push_cat hx25) (by decide) hB.keeps.size rfl rfl Tryd.underlying22 info2_t_int_Tc rfl (by decide) ?_
      intro o26 w27 v28 h29 s30
      replace h22 := h22.stp s30 (by decide)
      replace hB := hB.stp s30 (by decide)
      refine st_val (ex_assign rfl) (by decide) trivial ?_
      refine wpF_end (r := [(0, u0), (1, (.int .i64 p1)), (5, v28), (11, (.int .i64 (p0.length : Int))), (12, (.int .i64 i7))]) ⟨rfl, rfl, rfl, rfl, rfl, trivial⟩ ?_
      refine nb_norm ?_
      refine nx ?_
      refine wpC_region ?_
      refine st_val (ex_add rfl rfl (ck_in (by omega) (by omega))) (by decide) trivial ?_
      refine st_val (ex_move rfl) (by decide) trivial ?_
      refine wpF_end (r := [(0, u0), (1, (.int .i64 p1)), (5, v28), (11, (.int .i64 (p0.length : Int))), (12, (.int .i64 (i7 + 1)))]) ⟨rfl, rfl, rfl, rfl, rfl, trivial⟩ ?_
      refine nt_norm ?_
      have e31 := Option.some.inj b16
      subst e31
      refine to_k (r := [(0, u0), (1, (.int .i64 p1)), (5, v28), (11, (.int .i64 (p0.length : Int))), (12, (.int .i64 (i7 + 1)))]) ⟨rfl, rfl, rfl, rfl, rfl, trivial⟩ ?_
      intro a ha
      exact ⟨_, (by rw [← m13]; omega), i7 + 1, x25, v28, o26, n17, rfl, (by omega), ha, hB, h29⟩
    · have r32 := forN_done t18 l11
      refine wp_of ha ?_
      refine wpC_seq ?_
      refine wpC_region ?_
      refine st_val (ex_lss rfl rfl) (by decide) trivial ?_
      refine wpF_end (r := [(0, u0), (1, (.int .i64 p1)), (5, v3), (11, (.int .i64 (p0.length : Int))), (12, (.int .i64 i7)), (13, (.bool (decide (i7 < (p0.length : Int)))))]) ⟨rfl, rfl, rfl, rfl, rfl, rfl, trivial⟩ ?_
      refine nx ?_
      refine wpC_seq ?_
      refine wpC_false (congrArg (fun b => some (Value.bool b)) (decide_eq_false t18)) ?_
      refine wpC_exit ?_
      refine nt_exit ?_
      refine nt_exit ?_
      refine nb_hit ?_
      refine np_norm ?_
      refine to_k (r := [(0, u0), (1, (.int .i64 p1)), (5, v3)]) ⟨rfl, rfl, rfl, trivial⟩ ?_
      intro a ha
      exact ⟨y2, v3, o5, r32, ha, hB, h4⟩
  · rintro a w6 ⟨y2, v3, o5, rfl, ha, hB, h4⟩
    dsimp only at hF
    refine ap_k ha ?_
    refine nx ?_
    obtain ⟨q39, hq39, hF⟩ := bind_some hF
    refine wpC_cutP (fun a w38 => ∃ (y33 : Int) (y34 : List Int) (v35 : Value) (o37 : Tg), q39 = .inl (y33, y34) ∧ Fr a 42 [(5, v35)] ∧ Bs oo o37 w w38 ∧ Ow w.heap.size 3 11 o37 w38 v35 y34) (fun _ _ => False) ?_ ?_ ?_
    · refine wpC_block ?_
      refine wpC_loop (fun (K : Nat) a w38 => ∃ (y33 : Int) (y34 : List Int) (v35 : Value) (o37 : Tg), loopF (fS_cySpaced_s2 fuel p0) K (y33, y34) = some q39 ∧ Fr a 42 [(0, u0), (1, (.int .i64 y33)), (5, v35)] ∧ Bs oo o37 w w38 ∧ Ow w.heap.size 3 11 o37 w38 v35 y34) fuel (fun a ha => ⟨p1, y2, v3, o5, hq39, ha.sub (r := [(0, u0), (1, (.int .i64 p1)), (5, v3)]) ⟨rfl, rfl, rfl, trivial⟩, hB, h4⟩) ?_
      rintro K43 a w38 ⟨y33, y34, v35, o37, l40, ha, hB, h36⟩
      obtain ⟨K47, q44, e48, b45, n46⟩ := loopF_cons l40
      dsimp only [fS_cySpaced_s2] at b45
      refine wp_of ha ?_
      refine wpC_seq ?_
      refine wpC_seq ?_
      refine wpC_region ?_
      refine st_val (ex_move rfl) (by decide) trivial ?_
      refine st_val (ex_gtr rfl rfl) (by decide) trivial ?_
      refine st_val (ex_move rfl) (by decide) trivial ?_
      obtain ⟨q49, hq49, b45⟩ := bind_some b45
      refine wpF_cutAt 4 (fun a51 w50 => Fr a51 42 [(0, u0), (1, (.int .i64 y33)), (5, v35), (26, (.bool q49))] ∧ Keeps w38 w50) ?_ ?_
      all_goals simp only [List.take_succ_cons, List.take_zero, List.drop_succ_cons, List.drop_zero]
      · have kp : Keeps w38 w38 := Keeps.refl _
        rcases Bool.eq_false_or_eq_true (decide (y33 > 0)) with t52 | t52
        · rw [if_pos t52] at hq49
          refine st_val (ex_move rfl) (by decide) ⟨_, rfl, (congrArg (fun b => some (Value.bool b)) t52)⟩ ?_
          refine st_val (ex_lenO rfl h36 Tryd.underlying22) (by decide) ⟨_, rfl, (congrArg (fun b => some (Value.bool b)) t52)⟩ ?_
          refine st_val (ex_gtr rfl rfl) (by decide) ⟨_, rfl, (congrArg (fun b => some (Value.bool b)) t52)⟩ ?_
          refine st_val (ex_pick_t (congrArg (fun b => some (Value.bool b)) t52) rfl) (by decide) trivial ?_
          have hq492 := Option.some.inj hq49
          refine wpF_end (r := [(0, u0), (1, (.int .i64 y33)), (5, v35), (26, (.bool (decide ((y34.length : Int) > 1))))]) ⟨rfl, rfl, rfl, rfl, trivial⟩ ?_
          subst hq492
          refine np_norm (fun a ha => ⟨ha, kp⟩)
        · rw [if_neg (by rw [t52]; decide)] at hq49
          refine st_no rfl rfl (by rw [t52]; rfl) (by decide) ?_
          refine st_no rfl rfl (by rw [t52]; rfl) (by decide) ?_
          refine st_no rfl rfl (by rw [t52]; rfl) (by decide) ?_
          refine st_val (ex_pick_f (congrArg (fun b => some (Value.bool b)) t52) rfl) (by decide) trivial ?_
          have hq492 := Option.some.inj hq49
          refine wpF_end (r := [(0, u0), (1, (.int .i64 y33)), (5, v35), (26, (.bool false))]) ⟨rfl, rfl, rfl, rfl, trivial⟩ ?_
          subst hq492
          refine np_norm (fun a ha => ⟨ha, kp⟩)
      rintro a55 w50 ⟨ha, k53⟩
      have s54 := k53.stp 999 o37
      replace h36 := h36.stp s54 (by decide) (by decide)
      replace hB := hB.stp s54 (by decide)
      refine wl_of ha ?_
      refine wpF_end (r := [(0, u0), (1, (.int .i64 y33)), (5, v35), (26, (.bool q49))]) ⟨rfl, rfl, rfl, rfl, trivial⟩ ?_
      refine nx ?_
      refine wpC_cond rfl (fun t56 => ?_) (fun t56 => ?_)
      · rw [if_pos t56] at b45
        refine wpC_skip ?_
        refine nx ?_
        refine wpC_seq ?_
        refine wpC_block ?_
        refine wpC_seq ?_
        refine wpC_region ?_
        refine st_val (ex_move rfl) (by decide) trivial ?_
        refine st_val (ex_move rfl) (by decide) trivial ?_
        obtain ⟨x57, hx57, b45⟩ := bind_some b45
        refine st_op (by decide) trivial ?_
        refine wf_call (cS_coThrough w50 o37 12 (by decide) _ p0 (g0.keep hB.keeps) _ y34 h36.z x57 hx57) Tryd.call54 ⟨rfl, rfl, trivial⟩ ?_
        rintro e64 w58 ⟨v59, o65, rfl, h60, k61, k62⟩
        have s63 := k61.stp' 12 k62
        replace h60 := h60.mono hB.keeps.size
        refine ⟨_, rfl, ?_⟩
        replace h36 := h36.stp s63 (by decide) (by decide)
        replace hB := hB.stp s63 (by decide)
        refine st_val (ex_assign rfl) (by decide) trivial ?_
        refine wpF_end (r := [(0, u0), (1, (.int .i64 y33)), (5, v35), (7, v59)]) ⟨rfl, rfl, rfl, rfl, trivial⟩ ?_
        refine nx ?_
        refine wpC_seq ?_
        refine wpC_region ?_
        refine st_val (ex_move rfl) (by decide) trivial ?_
        obtain ⟨x66, hx66, b45⟩ := bind_some b45
        refine st_op (by decide) trivial ?_
        refine wf_call (cS_cyThree fuel w58 o65 13 (by decide) _ x57 h60.z x66 hx66) Tryd.call27 ⟨rfl, trivial⟩ ?_
        rintro e73 w67 ⟨v68, o74, rfl, h69, k70, k71⟩
        have s72 := k70.stp' 13 k71
        replace h69 := h69.mono hB.keeps.size
        refine ⟨_, rfl, ?_⟩
        replace h36 := h36.stp s72 (by decide) (by decide)
        replace h60 := h60.stp s72 (by decide) (by decide)
        replace hB := hB.stp s72 (by decide)
        refine st_val (ex_move rfl) (by decide) trivial ?_
        refine st_val (ex_extract rfl rfl) (by decide) trivial ?_
        refine st_val (ex_extract rfl rfl) (by decide) trivial ?_
        refine st_val (ex_assign rfl) (by decide) trivial ?_
        refine st_val (ex_assign rfl) (by decide) trivial ?_
        refine wpF_end (r := [(0, u0), (1, (.int .i64 y33)), (5, v35), (8, v68)]) ⟨rfl, rfl, rfl, rfl, trivial⟩ ?_
        refine nx ?_
        refine wpC_region ?_
        refine st_val (ex_move rfl) (by decide) trivial ?_
        refine st_val (ex_move rfl) (by decide) trivial ?_
        obtain ⟨x75, hx75, b45⟩ := bind_some b45
        refine st_op (by decide) trivial ?_
        refine wf_call (cS_cyMark fuel w67 o74 14 (by decide) _ x66.1 h69.z x75 hx75) Tryd.call55 ⟨rfl, trivial⟩ ?_
        rintro e82 w76 ⟨v77, o83, rfl, h78, k79, k80⟩
        have s81 := k79.stp' 14 k80
        replace h78 := h78.mono hB.keeps.size
        refine ⟨_, rfl, ?_⟩
        replace h36 := h36.stp s81 (by decide) (by decide)
        replace h69 := h69.stp s81 (by decide) (by decide)
        replace hB := hB.stp s81 (by decide)
        obtain ⟨x84, hx84, b45⟩ := bind_some b45
        refine st_op (by decide) trivial ?_
        refine wf_call (cS_coThrough w76 o83 15 (by decide) _ y34 h36.z _ x75 h78.z x84 hx84) Tryd.call54 ⟨rfl, rfl, trivial⟩ ?_
        rintro e91 w85 ⟨v86, o92, rfl, h87, k88, k89⟩
        have s90 := k88.stp' 15 k89
        replace h87 := h87.mono hB.keeps.size
        refine ⟨_, rfl, ?_⟩
        replace h36 := h36.stp s90 (by decide) (by decide)
        replace h69 := h69.stp s90 (by decide) (by decide)
        replace h78 := h78.stp s90 (by decide) (by decide)
        replace hB := hB.stp s90 (by decide)
        refine st_val (ex_assign rfl) (by decide) trivial ?_
        refine wpF_end (r := [(0, u0), (1, (.int .i64 y33)), (5, v86)]) ⟨rfl, rfl, rfl, trivial⟩ ?_
        refine nb_norm ?_
        refine nx ?_
        refine wpC_region ?_
        refine st_val (ex_move rfl) (by decide) trivial ?_
        obtain ⟨x93, hx93, b45⟩ := bind_some b45
        refine st_val (ex_sub rfl rfl hx93) (by decide) trivial ?_
        refine st_val (ex_assign rfl) (by decide) trivial ?_
        refine wpF_end (r := [(0, u0), (1, (.int .i64 x93)), (5, v86)]) ⟨rfl, rfl, rfl, trivial⟩ ?_
        refine nt_norm ?_
        have e94 := Option.some.inj b45
        subst e94
        replace h87 := h87.rtg 11 (by decide)
        replace hB := hB.rtg 15 11 (by decide) (by decide)
        generalize (rtg 15 11 o92) = o95 at *
        refine to_k (r := [(0, u0), (1, (.int .i64 x93)), (5, v86)]) ⟨rfl, rfl, rfl, trivial⟩ ?_
        intro a ha
        exact ⟨K47, by omega, x93, x84, v86, o95, n46, ha, hB, h87⟩
      · rw [if_neg (by rw [t56]; decide)] at b45
        refine wpC_exit ?_
        refine nt_exit ?_
        refine nt_exit ?_
        refine nb_hit ?_
        refine np_norm ?_
        have e96 := Option.some.inj b45
        subst e96
        refine to_k (r := [(5, v35)]) ⟨rfl, trivial⟩ ?_
        intro a ha
        exact ⟨y33, y34, v35, o37, n46, ha, hB, h36⟩
    · rintro a w38 ⟨y33, y34, v35, o37, rfl, ha, hB, h36⟩
      dsimp only at hF
      refine wp_of ha ?_
      refine wpC_seq ?_
      refine wpC_region ?_
      refine st_val (ex_move rfl) (by decide) trivial ?_
      refine st_val (ex_assign rfl) (by decide) trivial ?_
      refine wpF_end (r := [(4, v35)]) ⟨rfl, trivial⟩ ?_
      refine nx ?_
      refine wpC_ret ?_
      have e97 := Option.some.inj hF
      subst e97
      refine ret_post (P := Tryd.prog) (vs := [v35]) Tryd.results31 ⟨rfl, trivial⟩ ?_
      exact ⟨_, rt oo o37 w.heap.size 11 t, rfl, h36.rt hB (by decide) t, hB.keeps, rt_old _ _ _ _ _⟩
    · exact fun _ _ h => h.elim
  · exact fun _ _ h => h.elim

def fS_SpacedMarks (fuel : Nat) (p0 : List Int) (p1 : Int) : Option ((List Int) × Bool) :=
  (fS_cyIds p0) >>= fun x1 =>
  (
    if !x1 then
      some true
    else
      (fS_l1In p1 0 8) >>= fun x11 =>
      some (!x11)) >>= fun q7 =>
  if q7 then
    some ([], false)
  else
    (fS_cySpaced fuel p0 p1) >>= fun x22 =>
    some (x22, true)

def pS_SpacedMarks (oo : Tg) (t : Nat) (w : World) (r : (List Int) × Bool) : Ending → World → Prop := fun e w' => ∃ (v0 : Value) (o' : Tg), e = .returned (.tuple #[v0, .bool r.2]) ∧ Ow w.heap.size 3 t o' w' v0 r.1 ∧ Keeps w w' ∧ ∀ b, b < w.heap.size → o' b = oo b
set_option maxRecDepth 100000 in
set_option maxHeartbeats 2000000 in
theorem cS_SpacedMarks (fuel : Nat) (w : World) (oo : Tg) (t : Nat) (ht : 2 ≤ t) (u0 : Value) (p0 : List Int) (g0 : RdL zt w u0 p0) (p1 : Int) (r : (List Int) × Bool) (hF : fS_SpacedMarks fuel p0 p1 = some r) :
    Calls Tryd.prog 15 #[u0, .int .i64 p1] w (pS_SpacedMarks oo t w r) := by
  unfold fS_SpacedMarks at hF
  have hB : Bs oo (col oo) w w := Bs.start _ _
  refine calls_start (n := 17) (vs := [u0, (.int .i64 p1)]) Tryd.func15 rfl rfl ?_
  generalize col oo = o at *
  refine wpC_seq ?_
  refine wpC_region ?_
  refine st_val (ex_assign rfl) (by decide) trivial ?_
  refine st_val (ex_assign rfl) (by decide) trivial ?_
  refine wpF_end (r := [(0, u0), (1, (.int .i64 p1))]) ⟨rfl, rfl, trivial⟩ ?_
  refine nx ?_
  refine wpC_seq ?_
  refine wpC_seq ?_
  refine wpC_region ?_
  refine st_val (ex_move rfl) (by decide) trivial ?_
  obtain ⟨x1, hx1, hF⟩ := bind_some hF
  refine st_op (by decide) trivial ?_
  refine wf_call (cS_cyIds w _ p0 (g0.keep hB.keeps) x1 hx1) Tryd.call26 ⟨rfl, trivial⟩ ?_
  rintro e6 w2 ⟨rfl, k3⟩
  have s5 := k3.stp 999 o
  refine ⟨_, rfl, ?_⟩
  replace hB := hB.stp s5 (by decide)
  refine st_val (ex_not rfl) (by decide) trivial ?_
  refine st_val (ex_move rfl) (by decide) trivial ?_
  obtain ⟨q7, hq7, hF⟩ := bind_some hF
  refine wpF_cutAt 4 (fun a9 w8 => Fr a9 17 [(0, u0), (1, (.int .i64 p1)), (13, (.bool q7))] ∧ Keeps w2 w8) ?_ ?_
  all_goals simp only [List.take_succ_cons, List.take_zero, List.drop_succ_cons, List.drop_zero]
  · have kp : Keeps w2 w2 := Keeps.refl _
    rcases Bool.eq_false_or_eq_true (!x1) with t10 | t10
    · rw [if_pos t10] at hq7
      refine st_no rfl rfl (by rw [t10]; rfl) (by decide) ?_
      refine st_no rfl rfl (by rw [t10]; rfl) (by decide) ?_
      refine st_no rfl rfl (by rw [t10]; rfl) (by decide) ?_
      refine st_val (ex_pick_t (congrArg (fun b => some (Value.bool b)) t10) rfl) (by decide) trivial ?_
      have hq72 := Option.some.inj hq7
      refine wpF_end (r := [(0, u0), (1, (.int .i64 p1)), (13, (.bool true))]) ⟨rfl, rfl, rfl, trivial⟩ ?_
      subst hq72
      refine np_norm (fun a ha => ⟨ha, kp⟩)
    · rw [if_neg (by rw [t10]; decide)] at hq7
      refine st_val (ex_move rfl) (by decide) ⟨_, rfl, (congrArg (fun b => some (Value.bool b)) t10)⟩ ?_
      obtain ⟨x11, hx11, hq7⟩ := bind_some hq7
      refine st_op (by decide) ⟨_, rfl, (congrArg (fun b => some (Value.bool b)) t10)⟩ ?_
      refine wf_call (cS_l1In w2 p1 0 8 x11 hx11) Tryd.call30 ⟨rfl, rfl, rfl, trivial⟩ ?_
      rintro e16 w12 ⟨rfl, k13⟩
      have s15 := k13.stp 999 o
      refine ⟨_, rfl, ?_⟩
      replace hB := hB.stp s15 (by decide)
      replace kp := Keeps.trans kp k13
      refine st_val (ex_not rfl) (by decide) ⟨_, rfl, (congrArg (fun b => some (Value.bool b)) t10)⟩ ?_
      refine st_val (ex_pick_f (congrArg (fun b => some (Value.bool b)) t10) rfl) (by decide) trivial ?_
      have hq72 := Option.some.inj hq7
      refine wpF_end (r := [(0, u0), (1, (.int .i64 p1)), (13, (.bool (!x11)))]) ⟨rfl, rfl, rfl, trivial⟩ ?_
      subst hq72
      refine np_norm (fun a ha => ⟨ha, kp⟩)
  rintro a19 w8 ⟨ha, k17⟩
  have s18 := k17.stp 999 o
  replace hB := hB.stp s18 (by decide)
  refine wl_of ha ?_
  refine wpF_end (r := [(0, u0), (1, (.int .i64 p1)), (13, (.bool q7))]) ⟨rfl, rfl, rfl, trivial⟩ ?_
  refine nx ?_
  refine wpC_cond rfl (fun t20 => ?_) (fun t20 => ?_)
  · rw [if_pos t20] at hF
    refine wpC_seq ?_
    refine wpC_region ?_
    refine st_val (ex_assign rfl) (by decide) trivial ?_
    refine st_val (ex_assign rfl) (by decide) trivial ?_
    refine wpF_end (r := [(4, (.slice none 0 0)), (5, (.bool false))]) ⟨rfl, rfl, trivial⟩ ?_
    refine nx ?_
    refine wpC_ret ?_
    refine nt_ret ?_
    have e21 := Option.some.inj hF
    subst e21
    refine ret_post (P := Tryd.prog) (vs := [(.slice none 0 0), (.bool false)]) Tryd.results15 ⟨rfl, rfl, trivial⟩ ?_
    exact ⟨_, rt oo o w.heap.size 9 t, rfl, (Ow.nil _ _ _ _ _), hB.keeps, rt_old _ _ _ _ _⟩
  · rw [if_neg (by rw [t20]; decide)] at hF
    refine wpC_skip ?_
    refine nx ?_
    refine wpC_seq ?_
    refine wpC_region ?_
    refine st_val (ex_move rfl) (by decide) trivial ?_
    refine st_val (ex_move rfl) (by decide) trivial ?_
    obtain ⟨x22, hx22, hF⟩ := bind_some hF
    refine st_op (by decide) trivial ?_
    refine wf_call (cS_cySpaced fuel w8 o 13 (by decide) _ p0 (g0.keep hB.keeps) p1 x22 hx22) Tryd.call31 ⟨rfl, rfl, trivial⟩ ?_
    rintro e29 w23 ⟨v24, o30, rfl, h25, k26, k27⟩
    have s28 := k26.stp' 13 k27
    replace h25 := h25.mono hB.keeps.size
    refine ⟨_, rfl, ?_⟩
    replace hB := hB.stp s28 (by decide)
    refine st_val (ex_assign rfl) (by decide) trivial ?_
    refine st_val (ex_assign rfl) (by decide) trivial ?_
    refine wpF_end (r := [(4, v24), (5, (.bool true))]) ⟨rfl, rfl, trivial⟩ ?_
    refine nx ?_
    refine wpC_ret ?_
    have e31 := Option.some.inj hF
    subst e31
    refine ret_post (P := Tryd.prog) (vs := [v24, (.bool true)]) Tryd.results15 ⟨rfl, rfl, trivial⟩ ?_
    exact ⟨_, rt oo o30 w.heap.size 13 t, rfl, h25.rt hB (by decide) t, hB.keeps, rt_old _ _ _ _ _⟩

def fI_cycleMarks_s2 (p0 : List Int) (i11 : Int) : Int → (List Bool) → Option (Lp (List Bool) (List Bool) (List Int)) := fun (i27 : Int) (s : List Bool) =>
  (ix p0 i27) >>= fun x39 =>
  (
    if x39 == i11 then
      (ck (i27 + (p0.length : Int))) >>= fun x49 =>
      (ck (x49 - 1)) >>= fun x50 =>
      (rem x50 (p0.length : Int)) >>= fun x51 =>
      (ix s x51) >>= fun x52 =>
      if !x52 then
        (ck (i27 + 1)) >>= fun x59 =>
        (rem x59 (p0.length : Int)) >>= fun x60 =>
        (ix s x60) >>= fun x61 =>
        some (!x61)
      else
        some false
    else
      some false) >>= fun q45 =>
  if q45 then
    (ix s i27) >>= fun x71 =>
    (st s i27 true) >>= fun x80 =>
    some (.go x80)
  else
    some (.go s)
def fI_cycleMarks_s1 (p0 : List Int) : Int → (List Bool) → Option (Lp (List Bool) (List Bool) (List Int)) := fun (i11 : Int) (s : List Bool) =>
  ck (p0.length : Int) >>= fun _ =>
  (forN (fI_cycleMarks_s2 p0 i11) ((p0.length : Int)).toNat 0 s) >>= fun q28 =>
  match q28 with
  | .inl y23 =>
    some (.go y23)
  | .inr _ => none
def fI_cycleMarks_s3 (y7 : List Bool) : Int → (List Int) → Option (Lp (List Int) (List Int) (List Int)) := fun (i93 : Int) (s : List Int) =>
  (ix y7 i93) >>= fun x105 =>
  if x105 then
    (push s i93) >>= fun x118 =>
    some (.go x118)
  else
    some (.go s)
def fI_cycleMarks (p0 : List Int) : Option (List Int) :=
  (mk (Rz.z : Bool) (p0.length : Int)) >>= fun x1 =>
  ck 3 >>= fun _ =>
  (forN (fI_cycleMarks_s1 p0) (3 : Int).toNat 0 x1) >>= fun q12 =>
  match q12 with
  | .inl y7 =>
    ck (y7.length : Int) >>= fun _ =>
    (forN (fI_cycleMarks_s3 y7) ((y7.length : Int)).toNat 0 []) >>= fun q94 =>
    match q94 with
    | .inl y88 =>
      some y88
    | .inr _ => none
  | .inr _ => none

def pI_cycleMarks (oo : Tg) (t : Nat) (w : World) (r : List Int) : Ending → World → Prop := fun e w' => ∃ (v0 : Value) (o' : Tg), e = .returned (v0) ∧ Ow w.heap.size 3 t o' w' v0 r ∧ Keeps w w' ∧ ∀ b, b < w.heap.size → o' b = oo b
set_option maxRecDepth 100000 in
set_option maxHeartbeats 2000000 in
theorem cI_cycleMarks (w : World) (oo : Tg) (t : Nat) (ht : 2 ≤ t) (u0 : Value) (p0 : List Int) (g0 : RdL zt w u0 p0) (r : List Int) (hF : fI_cycleMarks p0 = some r) :
    Calls Tryd.prog 58 #[u0] w (pI_cycleMarks oo t w r) := by
  unfold fI_cycleMarks at hF
  have hB : Bs oo (col oo) w w := Bs.start _ _
  refine calls_start (n := 69) (vs := [u0]) Tryd.func58 rfl rfl ?_
  generalize col oo = o at *
  refine wpC_seq ?_
  refine wpC_region ?_
  refine st_val (ex_assign rfl) (by decide) trivial ?_
  refine wpF_end (r := [(0, u0)]) ⟨rfl, trivial⟩ ?_
  refine nx ?_
  refine wpC_seq ?_
  refine wpC_region ?_
  refine st_val (ex_move rfl) (by decide) trivial ?_
  refine st_val (ex_lenR rfl g0 Tryd.underlying22) (by decide) trivial ?_
  refine st_val (ex_assign rfl) (by decide) trivial ?_
  refine wpF_end (r := [(0, u0), (3, (.int .i64 (p0.length : Int)))]) ⟨rfl, rfl, trivial⟩ ?_
  refine nx ?_
  refine wpC_seq ?_
  refine wpC_region ?_
  refine st_val (ex_move rfl) (by decide) trivial ?_
  obtain ⟨x1, hx1, hF⟩ := bind_some hF
  refine st_op (by decide) trivial ?_
  refine wf_make (o := o) w.heap.size 11 hB.keeps.size hx1 rfl rfl Tryd.underlying70 info2_t_bool_Tc rfl (by decide) ?_
  intro o2 w3 v4 h5 s6
  replace hB := hB.stp s6 (by decide)
  refine st_val (ex_assign rfl) (by decide) trivial ?_
  refine wpF_end (r := [(0, u0), (3, (.int .i64 (p0.length : Int))), (4, v4)]) ⟨rfl, rfl, rfl, trivial⟩ ?_
  refine nx ?_
  refine wpC_seq ?_
  refine wpC_seq ?_
  refine wpC_region ?_
  refine st_val (ex_move rfl) (by decide) trivial ?_
  refine wpF_end (r := [(0, u0), (3, (.int .i64 (p0.length : Int))), (4, v4), (13, (.int .i64 0))]) ⟨rfl, rfl, rfl, rfl, trivial⟩ ?_
  refine nx ?_
  obtain ⟨u14, h13, hF⟩ := bind_some hF
  obtain ⟨-, h13a, h13b⟩ := ck_some h13
  obtain ⟨q12, hq12, hF⟩ := bind_some hF
  refine wpC_cutN (fun a w10 => ∃ (y7 : List Bool) (o9 : Tg), q12 = .inl y7 ∧ Fr a 69 [(4, v4)] ∧ Bs oo o9 w w10 ∧ Ow w.heap.size 4 11 o9 w10 v4 y7) (fun _ _ => False) ?_ ?_ ?_
  · refine wpC_block ?_
    refine wpC_loop (fun (K : Nat) a w10 => ∃ (i11 : Int) (y7 : List Bool) (o9 : Tg), forN (fI_cycleMarks_s1 p0) (3 - i11).toNat i11 y7 = some q12 ∧ (3 - i11).toNat = K ∧ 0 ≤ i11 ∧ Fr a 69 [(0, u0), (3, (.int .i64 (p0.length : Int))), (4, v4), (13, (.int .i64 i11))] ∧ Bs oo o9 w w10 ∧ Ow w.heap.size 4 11 o9 w10 v4 y7) _ (fun a ha => ⟨0, x1, o2, (by rw [Int.sub_zero]; exact hq12), rfl, Int.le_refl 0, ha.sub (r := [(0, u0), (3, (.int .i64 (p0.length : Int))), (4, v4), (13, (.int .i64 0))]) ⟨rfl, rfl, rfl, rfl, trivial⟩, hB, h5⟩) ?_
    rintro K18 a w10 ⟨i11, y7, o9, l15, m17, z16, ha, hB, h8⟩
    by_cases t22 : i11 < 3
    · obtain ⟨q19, b20, n21⟩ := forN_cons t22 l15
      dsimp only [fI_cycleMarks_s1] at b20
      refine wp_of ha ?_
      refine wpC_seq ?_
      refine wpC_region ?_
      refine st_val (ex_lss rfl rfl) (by decide) trivial ?_
      refine wpF_end (r := [(0, u0), (3, (.int .i64 (p0.length : Int))), (4, v4), (13, (.int .i64 i11)), (14, (.bool (decide (i11 < 3))))]) ⟨rfl, rfl, rfl, rfl, rfl, trivial⟩ ?_
      refine nx ?_
      refine wpC_seq ?_
      refine wpC_true (congrArg (fun b => some (Value.bool b)) (decide_eq_true t22)) ?_
      refine wpC_skip ?_
      refine nx ?_
      refine wpC_seq ?_
      refine wpC_block ?_
      refine wpC_seq ?_
      refine wpC_region ?_
      refine st_val (ex_move rfl) (by decide) trivial ?_
      refine st_val (ex_assign rfl) (by decide) trivial ?_
      refine wpF_end (r := [(0, u0), (3, (.int .i64 (p0.length : Int))), (4, v4), (5, (.int .i64 i11)), (13, (.int .i64 i11))]) ⟨rfl, rfl, rfl, rfl, rfl, trivial⟩ ?_
      refine nx ?_
      refine wpC_seq ?_
      refine wpC_region ?_
      refine st_val (ex_move rfl) (by decide) trivial ?_
      refine st_val (ex_lenR rfl g0 Tryd.underlying22) (by decide) trivial ?_
      refine st_val (ex_move rfl) (by decide) trivial ?_
      refine wpF_end (r := [(0, u0), (3, (.int .i64 (p0.length : Int))), (4, v4), (5, (.int .i64 i11)), (13, (.int .i64 i11)), (17, (.int .i64 (p0.length : Int))), (18, (.int .i64 0))]) ⟨rfl, rfl, rfl, rfl, rfl, rfl, rfl, trivial⟩ ?_
      refine nx ?_
      obtain ⟨u30, h29, b20⟩ := bind_some b20
      obtain ⟨-, h29a, h29b⟩ := ck_some h29
      obtain ⟨q28, hq28, b20⟩ := bind_some b20
      refine wpC_cutN (fun a w26 => ∃ (y23 : List Bool) (o25 : Tg), q28 = .inl y23 ∧ Fr a 69 [(0, u0), (3, (.int .i64 (p0.length : Int))), (4, v4), (13, (.int .i64 i11))] ∧ Bs oo o25 w w26 ∧ Ow w.heap.size 4 11 o25 w26 v4 y23) (fun _ _ => False) ?_ ?_ ?_
      · refine wpC_block ?_
        refine wpC_loop (fun (K : Nat) a w26 => ∃ (i27 : Int) (y23 : List Bool) (o25 : Tg), forN (fI_cycleMarks_s2 p0 i11) ((p0.length : Int) - i27).toNat i27 y23 = some q28 ∧ ((p0.length : Int) - i27).toNat = K ∧ 0 ≤ i27 ∧ Fr a 69 [(0, u0), (3, (.int .i64 (p0.length : Int))), (4, v4), (5, (.int .i64 i11)), (13, (.int .i64 i11)), (17, (.int .i64 (p0.length : Int))), (18, (.int .i64 i27))] ∧ Bs oo o25 w w26 ∧ Ow w.heap.size 4 11 o25 w26 v4 y23) _ (fun a ha => ⟨0, y7, o9, (by rw [Int.sub_zero]; exact hq28), rfl, Int.le_refl 0, ha.sub (r := [(0, u0), (3, (.int .i64 (p0.length : Int))), (4, v4), (5, (.int .i64 i11)), (13, (.int .i64 i11)), (17, (.int .i64 (p0.length : Int))), (18, (.int .i64 0))]) ⟨rfl, rfl, rfl, rfl, rfl, rfl, rfl, trivial⟩, hB, h8⟩) ?_
        rintro K34 a w26 ⟨i27, y23, o25, l31, m33, z32, ha, hB, h24⟩
        by_cases t38 : i27 < (p0.length : Int)
        · obtain ⟨q35, b36, n37⟩ := forN_cons t38 l31
          dsimp only [fI_cycleMarks_s2] at b36
          refine wp_of ha ?_
          refine wpC_seq ?_
          refine wpC_region ?_
          refine st_val (ex_lss rfl rfl) (by decide) trivial ?_
          refine wpF_end (r := [(0, u0), (3, (.int .i64 (p0.length : Int))), (4, v4), (5, (.int .i64 i11)), (13, (.int .i64 i11)), (17, (.int .i64 (p0.length : Int))), (18, (.int .i64 i27)), (19, (.bool (decide (i27 < (p0.length : Int)))))]) ⟨rfl, rfl, rfl, rfl, rfl, rfl, rfl, rfl, trivial⟩ ?_
          refine nx ?_
          refine wpC_seq ?_
          refine wpC_true (congrArg (fun b => some (Value.bool b)) (decide_eq_true t38)) ?_
          refine wpC_skip ?_
          refine nx ?_
          refine wpC_seq ?_
          refine wpC_block ?_
          refine wpC_seq ?_
          refine wpC_region ?_
          refine st_val (ex_move rfl) (by decide) trivial ?_
          refine st_val (ex_assign rfl) (by decide) trivial ?_
          refine wpF_end (r := [(0, u0), (3, (.int .i64 (p0.length : Int))), (4, v4), (5, (.int .i64 i11)), (6, (.int .i64 i27)), (13, (.int .i64 i11)), (17, (.int .i64 (p0.length : Int))), (18, (.int .i64 i27))]) ⟨rfl, rfl, rfl, rfl, rfl, rfl, rfl, rfl, trivial⟩ ?_
          refine nx ?_
          refine wpC_seq ?_
          refine wpC_region ?_
          refine st_val (ex_move rfl) (by decide) trivial ?_
          refine st_val (ex_move rfl) (by decide) trivial ?_
          obtain ⟨x39, hx39, b36⟩ := bind_some b36
          refine st_op (by decide) trivial ?_
          refine wf_atZ g0 hx39 hB rfl rfl Tryd.underlying22 Tryd.sizeOf3 ?_
          intro b40 f41 c42 h43 h44
          cases h44
          refine st_val (ex_load1 rfl Tryd.isAgg3 (cell_of_cells h43)) (by decide) trivial ?_
          refine st_val (ex_move rfl) (by decide) trivial ?_
          refine st_val (ex_eql rfl rfl) (by decide) trivial ?_
          refine st_val (ex_move rfl) (by decide) trivial ?_
          obtain ⟨q45, hq45, b36⟩ := bind_some b36
          refine wpF_cutAt 21 (fun a47 w46 => Fr a47 69 [(0, u0), (3, (.int .i64 (p0.length : Int))), (4, v4), (5, (.int .i64 i11)), (6, (.int .i64 i27)), (13, (.int .i64 i11)), (17, (.int .i64 (p0.length : Int))), (18, (.int .i64 i27)), (48, (.bool q45))] ∧ Keeps w26 w46) ?_ ?_
          all_goals simp only [List.take_succ_cons, List.take_zero, List.drop_succ_cons, List.drop_zero]
          · have kp : Keeps w26 w26 := Keeps.refl _
            rcases Bool.eq_false_or_eq_true (x39 == i11) with t48 | t48
            · rw [if_pos t48] at hq45
              refine st_val (ex_move rfl) (by decide) ⟨_, rfl, (congrArg (fun b => some (Value.bool b)) t48)⟩ ?_
              refine st_val (ex_move rfl) (by decide) ⟨_, rfl, (congrArg (fun b => some (Value.bool b)) t48)⟩ ?_
              refine st_val (ex_move rfl) (by decide) ⟨_, rfl, (congrArg (fun b => some (Value.bool b)) t48)⟩ ?_
              obtain ⟨x49, hx49, hq45⟩ := bind_some hq45
              refine st_val (ex_add rfl rfl hx49) (by decide) ⟨_, rfl, (congrArg (fun b => some (Value.bool b)) t48)⟩ ?_
              obtain ⟨x50, hx50, hq45⟩ := bind_some hq45
              refine st_val (ex_sub rfl rfl hx50) (by decide) ⟨_, rfl, (congrArg (fun b => some (Value.bool b)) t48)⟩ ?_
              refine st_val (ex_move rfl) (by decide) ⟨_, rfl, (congrArg (fun b => some (Value.bool b)) t48)⟩ ?_
              obtain ⟨x51, hx51, hq45⟩ := bind_some hq45
              refine st_val (ex_rem rfl rfl hx51) (by decide) ⟨_, rfl, (congrArg (fun b => some (Value.bool b)) t48)⟩ ?_
              obtain ⟨x52, hx52, hq45⟩ := bind_some hq45
              refine st_op (by decide) ⟨_, rfl, (congrArg (fun b => some (Value.bool b)) t48)⟩ ?_
              refine wf_atW h24 hx52 rfl rfl Tryd.underlying70 Tryd.sizeOf4 ?_
              intro b53 f54 c55 h56 h57
              cases h57
              refine st_val (ex_load1 rfl Tryd.isAgg4 (cell_of_cells h56)) (by decide) ⟨_, rfl, (congrArg (fun b => some (Value.bool b)) t48)⟩ ?_
              refine st_val (ex_not rfl) (by decide) ⟨_, rfl, (congrArg (fun b => some (Value.bool b)) t48)⟩ ?_
              refine st_val (ex_pick_t (congrArg (fun b => some (Value.bool b)) t48) rfl) (by decide) trivial ?_
              refine st_val (ex_move rfl) (by decide) trivial ?_
              rcases Bool.eq_false_or_eq_true (!x52) with t58 | t58
              · rw [if_pos t58] at hq45
                refine st_val (ex_move rfl) (by decide) ⟨_, rfl, (congrArg (fun b => some (Value.bool b)) t58)⟩ ?_
                refine st_val (ex_move rfl) (by decide) ⟨_, rfl, (congrArg (fun b => some (Value.bool b)) t58)⟩ ?_
                obtain ⟨x59, hx59, hq45⟩ := bind_some hq45
                refine st_val (ex_add rfl rfl hx59) (by decide) ⟨_, rfl, (congrArg (fun b => some (Value.bool b)) t58)⟩ ?_
                refine st_val (ex_move rfl) (by decide) ⟨_, rfl, (congrArg (fun b => some (Value.bool b)) t58)⟩ ?_
                obtain ⟨x60, hx60, hq45⟩ := bind_some hq45
                refine st_val (ex_rem rfl rfl hx60) (by decide) ⟨_, rfl, (congrArg (fun b => some (Value.bool b)) t58)⟩ ?_
                obtain ⟨x61, hx61, hq45⟩ := bind_some hq45
                refine st_op (by decide) ⟨_, rfl, (congrArg (fun b => some (Value.bool b)) t58)⟩ ?_
                refine wf_atW h24 hx61 rfl rfl Tryd.underlying70 Tryd.sizeOf4 ?_
                intro b62 f63 c64 h65 h66
                cases h66
                refine st_val (ex_load1 rfl Tryd.isAgg4 (cell_of_cells h65)) (by decide) ⟨_, rfl, (congrArg (fun b => some (Value.bool b)) t58)⟩ ?_
                refine st_val (ex_not rfl) (by decide) ⟨_, rfl, (congrArg (fun b => some (Value.bool b)) t58)⟩ ?_
                refine st_val (ex_pick_t (congrArg (fun b => some (Value.bool b)) t58) rfl) (by decide) trivial ?_
                have hq452 := Option.some.inj hq45
                refine wpF_end (r := [(0, u0), (3, (.int .i64 (p0.length : Int))), (4, v4), (5, (.int .i64 i11)), (6, (.int .i64 i27)), (13, (.int .i64 i11)), (17, (.int .i64 (p0.length : Int))), (18, (.int .i64 i27)), (48, (.bool (!x61)))]) ⟨rfl, rfl, rfl, rfl, rfl, rfl, rfl, rfl, rfl, trivial⟩ ?_
                subst hq452
                refine np_norm (fun a ha => ⟨ha, kp⟩)
              · rw [if_neg (by rw [t58]; decide)] at hq45
                refine st_no rfl rfl (by rw [t58]; rfl) (by decide) ?_
                refine st_no rfl rfl (by rw [t58]; rfl) (by decide) ?_
                refine st_no rfl rfl (by rw [t58]; rfl) (by decide) ?_
                refine st_no rfl rfl (by rw [t58]; rfl) (by decide) ?_
                refine st_no rfl rfl (by rw [t58]; rfl) (by decide) ?_
                refine st_no rfl rfl (by rw [t58]; rfl) (by decide) ?_
                refine st_no rfl rfl (by rw [t58]; rfl) (by decide) ?_
                refine st_no rfl rfl (by rw [t58]; rfl) (by decide) ?_
                refine st_val (ex_pick_f (congrArg (fun b => some (Value.bool b)) t58) rfl) (by decide) trivial ?_
                have hq452 := Option.some.inj hq45
                refine wpF_end (r := [(0, u0), (3, (.int .i64 (p0.length : Int))), (4, v4), (5, (.int .i64 i11)), (6, (.int .i64 i27)), (13, (.int .i64 i11)), (17, (.int .i64 (p0.length : Int))), (18, (.int .i64 i27)), (48, (.bool false))]) ⟨rfl, rfl, rfl, rfl, rfl, rfl, rfl, rfl, rfl, trivial⟩ ?_
                subst hq452
                refine np_norm (fun a ha => ⟨ha, kp⟩)
            · rw [if_neg (by rw [t48]; decide)] at hq45
              refine st_no rfl rfl (by rw [t48]; rfl) (by decide) ?_
              refine st_no rfl rfl (by rw [t48]; rfl) (by decide) ?_
              refine st_no rfl rfl (by rw [t48]; rfl) (by decide) ?_
              refine st_no rfl rfl (by rw [t48]; rfl) (by decide) ?_
              refine st_no rfl rfl (by rw [t48]; rfl) (by decide) ?_
              refine st_no rfl rfl (by rw [t48]; rfl) (by decide) ?_
              refine st_no rfl rfl (by rw [t48]; rfl) (by decide) ?_
              refine st_no rfl rfl (by rw [t48]; rfl) (by decide) ?_
              refine st_no rfl rfl (by rw [t48]; rfl) (by decide) ?_
              refine st_no rfl rfl (by rw [t48]; rfl) (by decide) ?_
              refine st_val (ex_pick_f (congrArg (fun b => some (Value.bool b)) t48) rfl) (by decide) trivial ?_
              refine st_val (ex_move rfl) (by decide) trivial ?_
              refine st_no rfl rfl rfl (by decide) ?_
              refine st_no rfl rfl rfl (by decide) ?_
              refine st_no rfl rfl rfl (by decide) ?_
              refine st_no rfl rfl rfl (by decide) ?_
              refine st_no rfl rfl rfl (by decide) ?_
              refine st_no rfl rfl rfl (by decide) ?_
              refine st_no rfl rfl rfl (by decide) ?_
              refine st_no rfl rfl rfl (by decide) ?_
              refine st_val (ex_pick_f rfl rfl) (by decide) trivial ?_
              have hq452 := Option.some.inj hq45
              refine wpF_end (r := [(0, u0), (3, (.int .i64 (p0.length : Int))), (4, v4), (5, (.int .i64 i11)), (6, (.int .i64 i27)), (13, (.int .i64 i11)), (17, (.int .i64 (p0.length : Int))), (18, (.int .i64 i27)), (48, (.bool false))]) ⟨rfl, rfl, rfl, rfl, rfl, rfl, rfl, rfl, rfl, trivial⟩ ?_
              subst hq452
              refine np_norm (fun a ha => ⟨ha, kp⟩)
          rintro a69 w46 ⟨ha, k67⟩
          have s68 := k67.stp 999 o25
          replace h24 := h24.stp s68 (by decide) (by decide)
          replace hB := hB.stp s68 (by decide)
          refine wl_of ha ?_
          refine wpF_end (r := [(0, u0), (3, (.int .i64 (p0.length : Int))), (4, v4), (5, (.int .i64 i11)), (6, (.int .i64 i27)), (13, (.int .i64 i11)), (17, (.int .i64 (p0.length : Int))), (18, (.int .i64 i27)), (48, (.bool q45))]) ⟨rfl, rfl, rfl, rfl, rfl, rfl, rfl, rfl, rfl, trivial⟩ ?_
          refine nx ?_
          refine wpC_cond rfl (fun t70 => ?_) (fun t70 => ?_)
          · rw [if_pos t70] at b36
            refine wpC_region ?_
            refine st_val (ex_move rfl) (by decide) trivial ?_
            refine st_val (ex_move rfl) (by decide) trivial ?_
            obtain ⟨x71, hx71, b36⟩ := bind_some b36
            refine st_op (by decide) trivial ?_
            refine wf_atP h24 hx71 rfl rfl Tryd.underlying70 Tryd.sizeOf4 ?_
            intro b72 c74 h77 h75 h76
            cases h76
            obtain ⟨x80, hx80, b36⟩ := bind_some b36
            refine st_op0 trivial ?_
            refine wf_storeW h24 h77 hx80 rfl (by decide) rfl rfl rfl Tryd.sizeOf4 rfl ?_
            intro w78 h81 s79
            replace hB := hB.stp s79 (by decide)
            refine wpF_end (r := [(0, u0), (3, (.int .i64 (p0.length : Int))), (4, v4), (5, (.int .i64 i11)), (13, (.int .i64 i11)), (17, (.int .i64 (p0.length : Int))), (18, (.int .i64 i27))]) ⟨rfl, rfl, rfl, rfl, rfl, rfl, rfl, trivial⟩ ?_
            refine nb_norm ?_
            refine nx ?_
            refine wpC_region ?_
            refine st_val (ex_add rfl rfl (ck_in (by omega) (by omega))) (by decide) trivial ?_
            refine st_val (ex_move rfl) (by decide) trivial ?_
            refine wpF_end (r := [(0, u0), (3, (.int .i64 (p0.length : Int))), (4, v4), (5, (.int .i64 i11)), (13, (.int .i64 i11)), (17, (.int .i64 (p0.length : Int))), (18, (.int .i64 (i27 + 1)))]) ⟨rfl, rfl, rfl, rfl, rfl, rfl, rfl, trivial⟩ ?_
            refine nt_norm ?_
            have e82 := Option.some.inj b36
            subst e82
            refine to_k (r := [(0, u0), (3, (.int .i64 (p0.length : Int))), (4, v4), (5, (.int .i64 i11)), (13, (.int .i64 i11)), (17, (.int .i64 (p0.length : Int))), (18, (.int .i64 (i27 + 1)))]) ⟨rfl, rfl, rfl, rfl, rfl, rfl, rfl, trivial⟩ ?_
            intro a ha
            exact ⟨_, (by rw [← m33]; omega), i27 + 1, x80, o25, n37, rfl, (by omega), ha, hB, h81⟩
          · rw [if_neg (by rw [t70]; decide)] at b36
            refine wpC_skip ?_
            refine nb_norm ?_
            refine nx ?_
            refine wpC_region ?_
            refine st_val (ex_add rfl rfl (ck_in (by omega) (by omega))) (by decide) trivial ?_
            refine st_val (ex_move rfl) (by decide) trivial ?_
            refine wpF_end (r := [(0, u0), (3, (.int .i64 (p0.length : Int))), (4, v4), (5, (.int .i64 i11)), (13, (.int .i64 i11)), (17, (.int .i64 (p0.length : Int))), (18, (.int .i64 (i27 + 1)))]) ⟨rfl, rfl, rfl, rfl, rfl, rfl, rfl, trivial⟩ ?_
            refine nt_norm ?_
            have e83 := Option.some.inj b36
            subst e83
            refine to_k (r := [(0, u0), (3, (.int .i64 (p0.length : Int))), (4, v4), (5, (.int .i64 i11)), (13, (.int .i64 i11)), (17, (.int .i64 (p0.length : Int))), (18, (.int .i64 (i27 + 1)))]) ⟨rfl, rfl, rfl, rfl, rfl, rfl, rfl, trivial⟩ ?_
            intro a ha
            exact ⟨_, (by rw [← m33]; omega), i27 + 1, y23, o25, n37, rfl, (by omega), ha, hB, h24⟩
        · have r84 := forN_done t38 l31
          refine wp_of ha ?_
          refine wpC_seq ?_
          refine wpC_region ?_
          refine st_val (ex_lss rfl rfl) (by decide) trivial ?_
          refine wpF_end (r := [(0, u0), (3, (.int .i64 (p0.length : Int))), (4, v4), (5, (.int .i64 i11)), (13, (.int .i64 i11)), (17, (.int .i64 (p0.length : Int))), (18, (.int .i64 i27)), (19, (.bool (decide (i27 < (p0.length : Int)))))]) ⟨rfl, rfl, rfl, rfl, rfl, rfl, rfl, rfl, trivial⟩ ?_
          refine nx ?_
          refine wpC_seq ?_
          refine wpC_false (congrArg (fun b => some (Value.bool b)) (decide_eq_false t38)) ?_
          refine wpC_exit ?_
          refine nt_exit ?_
          refine nt_exit ?_
          refine nb_hit ?_
          refine np_norm ?_
          refine to_k (r := [(0, u0), (3, (.int .i64 (p0.length : Int))), (4, v4), (13, (.int .i64 i11))]) ⟨rfl, rfl, rfl, rfl, trivial⟩ ?_
          intro a ha
          exact ⟨y23, o25, r84, ha, hB, h24⟩
      · rintro a w26 ⟨y23, o25, rfl, ha, hB, h24⟩
        dsimp only at b20
        refine ap_k ha ?_
        refine nb_norm ?_
        refine nx ?_
        refine wpC_region ?_
        refine st_val (ex_add rfl rfl (ck_in (by omega) (by omega))) (by decide) trivial ?_
        refine st_val (ex_move rfl) (by decide) trivial ?_
        refine wpF_end (r := [(0, u0), (3, (.int .i64 (p0.length : Int))), (4, v4), (13, (.int .i64 (i11 + 1)))]) ⟨rfl, rfl, rfl, rfl, trivial⟩ ?_
        refine nt_norm ?_
        have e85 := Option.some.inj b20
        subst e85
        refine to_k (r := [(0, u0), (3, (.int .i64 (p0.length : Int))), (4, v4), (13, (.int .i64 (i11 + 1)))]) ⟨rfl, rfl, rfl, rfl, trivial⟩ ?_
        intro a ha
        exact ⟨_, (by rw [← m17]; omega), i11 + 1, y23, o25, n21, rfl, (by omega), ha, hB, h24⟩
      · exact fun _ _ h => h.elim
    · have r86 := forN_done t22 l15
      refine wp_of ha ?_
      refine wpC_seq ?_
      refine wpC_region ?_
      refine st_val (ex_lss rfl rfl) (by decide) trivial ?_
      refine wpF_end (r := [(0, u0), (3, (.int .i64 (p0.length : Int))), (4, v4), (13, (.int .i64 i11)), (14, (.bool (decide (i11 < 3))))]) ⟨rfl, rfl, rfl, rfl, rfl, trivial⟩ ?_
      refine nx ?_
      refine wpC_seq ?_
      refine wpC_false (congrArg (fun b => some (Value.bool b)) (decide_eq_false t22)) ?_
      refine wpC_exit ?_
      refine nt_exit ?_
      refine nt_exit ?_
      refine nb_hit ?_
      refine np_norm ?_
      refine to_k (r := [(4, v4)]) ⟨rfl, trivial⟩ ?_
      intro a ha
      exact ⟨y7, o9, r86, ha, hB, h8⟩
  · rintro a w10 ⟨y7, o9, rfl, ha, hB, h8⟩
    dsimp only at hF
    refine ap_k ha ?_
    refine nx ?_
    refine wpC_seq ?_
    refine wpC_region ?_
    refine st_val (ex_assign rfl) (by decide) trivial ?_
    refine wpF_end (r := [(4, v4), (7, (.slice none 0 0))]) ⟨rfl, rfl, trivial⟩ ?_
    refine nx ?_
    refine wpC_seq ?_
    refine wpC_seq ?_
    refine wpC_region ?_
    refine st_val (ex_move rfl) (by decide) trivial ?_
    refine st_val (ex_lenO rfl h8 Tryd.underlying70) (by decide) trivial ?_
    refine st_val (ex_move rfl) (by decide) trivial ?_
    refine wpF_end (r := [(4, v4), (7, (.slice none 0 0)), (55, (.int .i64 (y7.length : Int))), (56, (.int .i64 0))]) ⟨rfl, rfl, rfl, rfl, trivial⟩ ?_
    refine nx ?_
    have h87 : Ow w.heap.size 3 12 o9 w10 (.slice none 0 0) ([] : List Int) := Ow.nil _ _ _ _ _
    obtain ⟨u96, h95, hF⟩ := bind_some hF
    obtain ⟨-, h95a, h95b⟩ := ck_some h95
    obtain ⟨q94, hq94, hF⟩ := bind_some hF
    refine wpC_cutN (fun a w92 => ∃ (y88 : List Int) (v89 : Value) (o91 : Tg), q94 = .inl y88 ∧ Fr a 69 [(7, v89)] ∧ Bs oo o91 w w92 ∧ Ow w.heap.size 3 12 o91 w92 v89 y88) (fun _ _ => False) ?_ ?_ ?_
    · refine wpC_block ?_
      refine wpC_loop (fun (K : Nat) a w92 => ∃ (i93 : Int) (y88 : List Int) (v89 : Value) (o91 : Tg), forN (fI_cycleMarks_s3 y7) ((y7.length : Int) - i93).toNat i93 y88 = some q94 ∧ ((y7.length : Int) - i93).toNat = K ∧ 0 ≤ i93 ∧ Fr a 69 [(4, v4), (7, v89), (55, (.int .i64 (y7.length : Int))), (56, (.int .i64 i93))] ∧ Bs oo o91 w w92 ∧ Ow w.heap.size 4 11 o91 w92 v4 y7 ∧ Ow w.heap.size 3 12 o91 w92 v89 y88) _ (fun a ha => ⟨0, [], (.slice none 0 0), o9, (by rw [Int.sub_zero]; exact hq94), rfl, Int.le_refl 0, ha.sub (r := [(4, v4), (7, (.slice none 0 0)), (55, (.int .i64 (y7.length : Int))), (56, (.int .i64 0))]) ⟨rfl, rfl, rfl, rfl, trivial⟩, hB, h8, h87⟩) ?_
      rintro K100 a w92 ⟨i93, y88, v89, o91, l97, m99, z98, ha, hB, h8, h90⟩
      by_cases t104 : i93 < (y7.length : Int)
      · obtain ⟨q101, b102, n103⟩ := forN_cons t104 l97
        dsimp only [fI_cycleMarks_s3] at b102
        refine wp_of ha ?_
        refine wpC_seq ?_
        refine wpC_region ?_
        refine st_val (ex_lss rfl rfl) (by decide) trivial ?_
        refine wpF_end (r := [(4, v4), (7, v89), (55, (.int .i64 (y7.length : Int))), (56, (.int .i64 i93)), (57, (.bool (decide (i93 < (y7.length : Int)))))]) ⟨rfl, rfl, rfl, rfl, rfl, trivial⟩ ?_
        refine nx ?_
        refine wpC_seq ?_
        refine wpC_true (congrArg (fun b => some (Value.bool b)) (decide_eq_true t104)) ?_
        refine wpC_skip ?_
        refine nx ?_
        refine wpC_seq ?_
        refine wpC_block ?_
        refine wpC_seq ?_
        refine wpC_region ?_
        refine st_val (ex_move rfl) (by decide) trivial ?_
        refine st_val (ex_assign rfl) (by decide) trivial ?_
        refine wpF_end (r := [(4, v4), (7, v89), (8, (.int .i64 i93)), (55, (.int .i64 (y7.length : Int))), (56, (.int .i64 i93))]) ⟨rfl, rfl, rfl, rfl, rfl, trivial⟩ ?_
        refine nx ?_
        refine wpC_seq ?_
        refine wpC_region ?_
        refine st_val (ex_move rfl) (by decide) trivial ?_
        refine st_val (ex_move rfl) (by decide) trivial ?_
        obtain ⟨x105, hx105, b102⟩ := bind_some b102
        refine st_op (by decide) trivial ?_
        refine wf_atW h8 hx105 rfl rfl Tryd.underlying70 Tryd.sizeOf4 ?_
        intro b106 f107 c108 h109 h110
        cases h110
        refine st_val (ex_load1 rfl Tryd.isAgg4 (cell_of_cells h109)) (by decide) trivial ?_
        refine wpF_end (r := [(4, v4), (7, v89), (8, (.int .i64 i93)), (55, (.int .i64 (y7.length : Int))), (56, (.int .i64 i93)), (62, (.bool x105))]) ⟨rfl, rfl, rfl, rfl, rfl, rfl, trivial⟩ ?_
        refine nx ?_
        refine wpC_cond rfl (fun t111 => ?_) (fun t111 => ?_)
        · rw [if_pos t111] at b102
          refine wpC_region ?_
          refine st_val (ex_move rfl) (by decide) trivial ?_
          refine st_val (ex_move rfl) (by decide) trivial ?_
          refine st_op (by decide) trivial ?_
          refine wf_litR (o := o91) (cs := [(.int .i64 i93)]) (xs := ([i93] : List Int)) (vs := [(0, (.int .i64 i93))]) ⟨_, _, rfl, rfl, rfl⟩ rfl ⟨rfl, rfl, trivial⟩ Tryd.underlying22 Tryd.sizeOf3 Tryd.zeroValue3 (by decide) (fill1 rfl) (by simp) ?_
          intro o112 w113 v114 h115 s116 k117
          replace h8 := h8.stp s116 (by decide) (by decide)
          replace h90 := h90.stp s116 (by decide) (by decide)
          replace hB := hB.stp s116 (by decide)
          obtain ⟨x118, hx118, b102⟩ := bind_some b102
          refine st_op (by decide) trivial ?_
          refine wf_cat h90 h115 (push_cat hx118) (by decide) hB.keeps.size rfl rfl Tryd.underlying22 info2_t_int_Tc rfl (by decide) ?_
          intro o119 w120 v121 h122 s123
          replace h8 := h8.stp s123 (by decide) (by decide)
          replace h115 := h115.stp s123 (by decide)
          replace hB := hB.stp s123 (by decide)
          refine st_val (ex_assign rfl) (by decide) trivial ?_
          refine wpF_end (r := [(4, v4), (7, v121), (55, (.int .i64 (y7.length : Int))), (56, (.int .i64 i93))]) ⟨rfl, rfl, rfl, rfl, trivial⟩ ?_
          refine nb_norm ?_
          refine nx ?_
          refine wpC_region ?_
          refine st_val (ex_add rfl rfl (ck_in (by omega) (by omega))) (by decide) trivial ?_
          refine st_val (ex_move rfl) (by decide) trivial ?_
          refine wpF_end (r := [(4, v4), (7, v121), (55, (.int .i64 (y7.length : Int))), (56, (.int .i64 (i93 + 1)))]) ⟨rfl, rfl, rfl, rfl, trivial⟩ ?_
          refine nt_norm ?_
          have e124 := Option.some.inj b102
          subst e124
          refine to_k (r := [(4, v4), (7, v121), (55, (.int .i64 (y7.length : Int))), (56, (.int .i64 (i93 + 1)))]) ⟨rfl, rfl, rfl, rfl, trivial⟩ ?_
          intro a ha
          exact ⟨_, (by rw [← m99]; omega), i93 + 1, x118, v121, o119, n103, rfl, (by omega), ha, hB, h8, h122⟩
        · rw [if_neg (by rw [t111]; decide)] at b102
          refine wpC_skip ?_
          refine nb_norm ?_
          refine nx ?_
          refine wpC_region ?_
          refine st_val (ex_add rfl rfl (ck_in (by omega) (by omega))) (by decide) trivial ?_
          refine st_val (ex_move rfl) (by decide) trivial ?_
          refine wpF_end (r := [(4, v4), (7, v89), (55, (.int .i64 (y7.length : Int))), (56, (.int .i64 (i93 + 1)))]) ⟨rfl, rfl, rfl, rfl, trivial⟩ ?_
          refine nt_norm ?_
          have e125 := Option.some.inj b102
          subst e125
          refine to_k (r := [(4, v4), (7, v89), (55, (.int .i64 (y7.length : Int))), (56, (.int .i64 (i93 + 1)))]) ⟨rfl, rfl, rfl, rfl, trivial⟩ ?_
          intro a ha
          exact ⟨_, (by rw [← m99]; omega), i93 + 1, y88, v89, o91, n103, rfl, (by omega), ha, hB, h8, h90⟩
      · have r126 := forN_done t104 l97
        refine wp_of ha ?_
        refine wpC_seq ?_
        refine wpC_region ?_
        refine st_val (ex_lss rfl rfl) (by decide) trivial ?_
        refine wpF_end (r := [(4, v4), (7, v89), (55, (.int .i64 (y7.length : Int))), (56, (.int .i64 i93)), (57, (.bool (decide (i93 < (y7.length : Int)))))]) ⟨rfl, rfl, rfl, rfl, rfl, trivial⟩ ?_
        refine nx ?_
        refine wpC_seq ?_
        refine wpC_false (congrArg (fun b => some (Value.bool b)) (decide_eq_false t104)) ?_
        refine wpC_exit ?_
        refine nt_exit ?_
        refine nt_exit ?_
        refine nb_hit ?_
        refine np_norm ?_
        refine to_k (r := [(7, v89)]) ⟨rfl, trivial⟩ ?_
        intro a ha
        exact ⟨y88, v89, o91, r126, ha, hB, h90⟩
    · rintro a w92 ⟨y88, v89, o91, rfl, ha, hB, h90⟩
      dsimp only at hF
      refine ap_k ha ?_
      refine nx ?_
      refine wpC_seq ?_
      refine wpC_region ?_
      refine st_val (ex_move rfl) (by decide) trivial ?_
      refine st_val (ex_assign rfl) (by decide) trivial ?_
      refine wpF_end (r := [(2, v89)]) ⟨rfl, trivial⟩ ?_
      refine nx ?_
      refine wpC_ret ?_
      have e127 := Option.some.inj hF
      subst e127
      refine ret_post (P := Tryd.prog) (vs := [v89]) Tryd.results58 ⟨rfl, trivial⟩ ?_
      exact ⟨_, rt oo o91 w.heap.size 12 t, rfl, h90.rt hB (by decide) t, hB.keeps, rt_old _ _ _ _ _⟩
    · exact fun _ _ h => h.elim
  · exact fun _ _ h => h.elim

def fI_spacedMarks_s1 (fuel : Nat) (p0 : List Int) : Int → (List Int) → Option (Lp (List Int) (List Int) (List Int)) := fun (i15 : Int) (s : List Int) =>
  if decide ((s.length : Int) < 2) then
    some (.out s)
  else
    (fI_images s p0) >>= fun x29 =>
    (fI_threeColours fuel x29) >>= fun x38 =>
    (fI_cycleMarks x38.1) >>= fun x47 =>
    (fI_images x47 s) >>= fun x56 =>
    some (.go x56)
def fI_spacedMarks (fuel : Nat) (p0 : List Int) (p1 : Int) : Option (List Int) :=
  (fI_numbersTo (p0.length : Int)) >>= fun x1 =>
  ck p1 >>= fun _ =>
  (forN (fI_spacedMarks_s1 fuel p0) (p1).toNat 0 x1) >>= fun q16 =>
  match q16 with
  | .inl y10 =>
    some y10
  | .inr _ => none

def pI_spacedMarks (oo : Tg) (t : Nat) (w : World) (r : List Int) : Ending → World → Prop := fun e w' => ∃ (v0 : Value) (o' : Tg), e = .returned (v0) ∧ Ow w.heap.size 3 t o' w' v0 r ∧ Keeps w w' ∧ ∀ b, b < w.heap.size → o' b = oo b
set_option maxRecDepth 100000 in
set_option maxHeartbeats 2000000 in
theorem cI_spacedMarks (fuel : Nat) (w : World) (oo : Tg) (t : Nat) (ht : 2 ≤ t) (u0 : Value) (p0 : List Int) (g0 : RdL zt w u0 p0) (p1 : Int) (r : List Int) (hF : fI_spacedMarks fuel p0 p1 = some r) (hTab : TabAt 0 Lib.deBruijn64tab w) :
    Calls Tryd.prog 33 #[u0, .int .i64 p1] w (pI_spacedMarks oo t w r) := by
  unfold fI_spacedMarks at hF
  have hB : Bs oo (col oo) w w := Bs.start _ _
  refine calls_start (n := 30) (vs := [u0, (.int .i64 p1)]) Tryd.func33 rfl rfl ?_
  generalize col oo = o at *
  refine wpC_seq ?_
  refine wpC_region ?_
  refine st_val (ex_assign rfl) (by decide) trivial ?_
  refine wpF_end (r := [(0, u0), (1, (.int .i64 p1))]) ⟨rfl, rfl, trivial⟩ ?_
  refine nx ?_
  refine wpC_seq ?_
  refine wpC_region ?_
  refine st_val (ex_move rfl) (by decide) trivial ?_
  refine st_val (ex_lenR rfl g0 Tryd.underlying22) (by decide) trivial ?_
  obtain ⟨x1, hx1, hF⟩ := bind_some hF
  refine st_op (by decide) trivial ?_
  refine wf_call (cI_numbersTo w o 11 (by decide) (p0.length : Int) x1 hx1) Tryd.call56 ⟨rfl, trivial⟩ ?_
  rintro e8 w2 ⟨v3, o9, rfl, h4, k5, k6⟩
  have s7 := k5.stp' 11 k6
  replace h4 := h4.mono hB.keeps.size
  refine ⟨_, rfl, ?_⟩
  replace hB := hB.stp s7 (by decide)
  refine st_val (ex_assign rfl) (by decide) trivial ?_
  refine wpF_end (r := [(0, u0), (1, (.int .i64 p1)), (5, v3)]) ⟨rfl, rfl, rfl, trivial⟩ ?_
  refine nx ?_
  refine wpC_seq ?_
  refine wpC_seq ?_
  refine wpC_region ?_
  refine st_val (ex_move rfl) (by decide) trivial ?_
  refine st_val (ex_move rfl) (by decide) trivial ?_
  refine wpF_end (r := [(0, u0), (5, v3), (11, (.int .i64 p1)), (12, (.int .i64 0))]) ⟨rfl, rfl, rfl, rfl, trivial⟩ ?_
  refine nx ?_
  obtain ⟨u18, h17, hF⟩ := bind_some hF
  obtain ⟨-, h17a, h17b⟩ := ck_some h17
  obtain ⟨q16, hq16, hF⟩ := bind_some hF
  refine wpC_cutN (fun a w14 => ∃ (y10 : List Int) (v11 : Value) (o13 : Tg), q16 = .inl y10 ∧ Fr a 30 [(5, v11)] ∧ Bs oo o13 w w14 ∧ Ow w.heap.size 3 11 o13 w14 v11 y10) (fun _ _ => False) ?_ ?_ ?_
  · refine wpC_block ?_
    refine wpC_loop (fun (K : Nat) a w14 => ∃ (i15 : Int) (y10 : List Int) (v11 : Value) (o13 : Tg), forN (fI_spacedMarks_s1 fuel p0) (p1 - i15).toNat i15 y10 = some q16 ∧ (p1 - i15).toNat = K ∧ 0 ≤ i15 ∧ Fr a 30 [(0, u0), (5, v11), (11, (.int .i64 p1)), (12, (.int .i64 i15))] ∧ Bs oo o13 w w14 ∧ Ow w.heap.size 3 11 o13 w14 v11 y10) _ (fun a ha => ⟨0, x1, v3, o9, (by rw [Int.sub_zero]; exact hq16), rfl, Int.le_refl 0, ha.sub (r := [(0, u0), (5, v3), (11, (.int .i64 p1)), (12, (.int .i64 0))]) ⟨rfl, rfl, rfl, rfl, trivial⟩, hB, h4⟩) ?_
    rintro K22 a w14 ⟨i15, y10, v11, o13, l19, m21, z20, ha, hB, h12⟩
    by_cases t26 : i15 < p1
    · obtain ⟨q23, b24, n25⟩ := forN_cons t26 l19
      dsimp only [fI_spacedMarks_s1] at b24
      refine wp_of ha ?_
      refine wpC_seq ?_
      refine wpC_region ?_
      refine st_val (ex_lss rfl rfl) (by decide) trivial ?_
      refine wpF_end (r := [(0, u0), (5, v11), (11, (.int .i64 p1)), (12, (.int .i64 i15)), (13, (.bool (decide (i15 < p1))))]) ⟨rfl, rfl, rfl, rfl, rfl, trivial⟩ ?_
      refine nx ?_
      refine wpC_seq ?_
      refine wpC_true (congrArg (fun b => some (Value.bool b)) (decide_eq_true t26)) ?_
      refine wpC_skip ?_
      refine nx ?_
      refine wpC_seq ?_
      refine wpC_block ?_
      refine wpC_seq ?_
      refine wpC_seq ?_
      refine wpC_region ?_
      refine st_val (ex_move rfl) (by decide) trivial ?_
      refine st_val (ex_lenO rfl h12 Tryd.underlying22) (by decide) trivial ?_
      refine st_val (ex_lss rfl rfl) (by decide) trivial ?_
      refine wpF_end (r := [(0, u0), (5, v11), (11, (.int .i64 p1)), (12, (.int .i64 i15)), (16, (.bool (decide ((y10.length : Int) < 2))))]) ⟨rfl, rfl, rfl, rfl, rfl, trivial⟩ ?_
      refine nx ?_
      refine wpC_cond rfl (fun t27 => ?_) (fun t27 => ?_)
      · rw [if_pos t27] at b24
        refine wpC_exit ?_
        refine nt_exit ?_
        refine nb_miss (by decide) ?_
        refine nt_exit ?_
        refine nt_exit ?_
        refine nb_hit ?_
        refine np_norm ?_
        have e28 := Option.some.inj b24
        subst e28
        refine to_k (r := [(5, v11)]) ⟨rfl, trivial⟩ ?_
        intro a ha
        exact ⟨y10, v11, o13, n25, ha, hB, h12⟩
      · rw [if_neg (by rw [t27]; decide)] at b24
        refine wpC_skip ?_
        refine nx ?_
        refine wpC_seq ?_
        refine wpC_region ?_
        refine st_val (ex_move rfl) (by decide) trivial ?_
        refine st_val (ex_move rfl) (by decide) trivial ?_
        obtain ⟨x29, hx29, b24⟩ := bind_some b24
        refine st_op (by decide) trivial ?_
        refine wf_call (cI_images w14 o13 12 (by decide) _ y10 h12.z _ p0 (g0.keep hB.keeps) x29 hx29) Tryd.call57 ⟨rfl, rfl, trivial⟩ ?_
        rintro e36 w30 ⟨v31, o37, rfl, h32, k33, k34⟩
        have s35 := k33.stp' 12 k34
        replace h32 := h32.mono hB.keeps.size
        refine ⟨_, rfl, ?_⟩
        replace h12 := h12.stp s35 (by decide) (by decide)
        replace hB := hB.stp s35 (by decide)
        obtain ⟨x38, hx38, b24⟩ := bind_some b24
        refine st_op (by decide) trivial ?_
        refine wf_call (cI_threeColours fuel w30 o37 13 (by decide) _ x29 h32.z x38 hx38 (tab_keep hTab hB.keeps)) Tryd.call29 ⟨rfl, trivial⟩ ?_
        rintro e45 w39 ⟨v40, o46, rfl, h41, k42, k43⟩
        have s44 := k42.stp' 13 k43
        replace h41 := h41.mono hB.keeps.size
        refine ⟨_, rfl, ?_⟩
        replace h12 := h12.stp s44 (by decide) (by decide)
        replace h32 := h32.stp s44 (by decide) (by decide)
        replace hB := hB.stp s44 (by decide)
        refine st_val (ex_move rfl) (by decide) trivial ?_
        refine st_val (ex_extract rfl rfl) (by decide) trivial ?_
        refine st_val (ex_extract rfl rfl) (by decide) trivial ?_
        refine st_val (ex_assign rfl) (by decide) trivial ?_
        refine st_val (ex_assign rfl) (by decide) trivial ?_
        refine wpF_end (r := [(0, u0), (5, v11), (6, v40), (11, (.int .i64 p1)), (12, (.int .i64 i15))]) ⟨rfl, rfl, rfl, rfl, rfl, trivial⟩ ?_
        refine nx ?_
        refine wpC_region ?_
        refine st_val (ex_move rfl) (by decide) trivial ?_
        obtain ⟨x47, hx47, b24⟩ := bind_some b24
        refine st_op (by decide) trivial ?_
        refine wf_call (cI_cycleMarks w39 o46 14 (by decide) _ x38.1 h41.z x47 hx47) Tryd.call58 ⟨rfl, trivial⟩ ?_
        rintro e54 w48 ⟨v49, o55, rfl, h50, k51, k52⟩
        have s53 := k51.stp' 14 k52
        replace h50 := h50.mono hB.keeps.size
        refine ⟨_, rfl, ?_⟩
        replace h12 := h12.stp s53 (by decide) (by decide)
        replace h41 := h41.stp s53 (by decide) (by decide)
        replace hB := hB.stp s53 (by decide)
        refine st_val (ex_move rfl) (by decide) trivial ?_
        obtain ⟨x56, hx56, b24⟩ := bind_some b24
        refine st_op (by decide) trivial ?_
        refine wf_call (cI_images w48 o55 15 (by decide) _ x47 h50.z _ y10 h12.z x56 hx56) Tryd.call57 ⟨rfl, rfl, trivial⟩ ?_
        rintro e63 w57 ⟨v58, o64, rfl, h59, k60, k61⟩
        have s62 := k60.stp' 15 k61
        replace h59 := h59.mono hB.keeps.size
        refine ⟨_, rfl, ?_⟩
        replace h12 := h12.stp s62 (by decide) (by decide)
        replace h41 := h41.stp s62 (by decide) (by decide)
        replace h50 := h50.stp s62 (by decide) (by decide)
        replace hB := hB.stp s62 (by decide)
        refine st_val (ex_assign rfl) (by decide) trivial ?_
        refine wpF_end (r := [(0, u0), (5, v58), (11, (.int .i64 p1)), (12, (.int .i64 i15))]) ⟨rfl, rfl, rfl, rfl, trivial⟩ ?_
        refine nb_norm ?_
        refine nx ?_
        refine wpC_region ?_
        refine st_val (ex_add rfl rfl (ck_in (by omega) (by omega))) (by decide) trivial ?_
        refine st_val (ex_move rfl) (by decide) trivial ?_
        refine wpF_end (r := [(0, u0), (5, v58), (11, (.int .i64 p1)), (12, (.int .i64 (i15 + 1)))]) ⟨rfl, rfl, rfl, rfl, trivial⟩ ?_
        refine nt_norm ?_
        have e65 := Option.some.inj b24
        subst e65
        replace h59 := h59.rtg 11 (by decide)
        replace hB := hB.rtg 15 11 (by decide) (by decide)
        generalize (rtg 15 11 o64) = o66 at *
        refine to_k (r := [(0, u0), (5, v58), (11, (.int .i64 p1)), (12, (.int .i64 (i15 + 1)))]) ⟨rfl, rfl, rfl, rfl, trivial⟩ ?_
        intro a ha
        exact ⟨_, (by rw [← m21]; omega), i15 + 1, x56, v58, o66, n25, rfl, (by omega), ha, hB, h59⟩
    · have r67 := forN_done t26 l19
      refine wp_of ha ?_
      refine wpC_seq ?_
      refine wpC_region ?_
      refine st_val (ex_lss rfl rfl) (by decide) trivial ?_
      refine wpF_end (r := [(0, u0), (5, v11), (11, (.int .i64 p1)), (12, (.int .i64 i15)), (13, (.bool (decide (i15 < p1))))]) ⟨rfl, rfl, rfl, rfl, rfl, trivial⟩ ?_
      refine nx ?_
      refine wpC_seq ?_
      refine wpC_false (congrArg (fun b => some (Value.bool b)) (decide_eq_false t26)) ?_
      refine wpC_exit ?_
      refine nt_exit ?_
      refine nt_exit ?_
      refine nb_hit ?_
      refine np_norm ?_
      refine to_k (r := [(5, v11)]) ⟨rfl, trivial⟩ ?_
      intro a ha
      exact ⟨y10, v11, o13, r67, ha, hB, h12⟩
  · rintro a w14 ⟨y10, v11, o13, rfl, ha, hB, h12⟩
    dsimp only at hF
    refine ap_k ha ?_
    refine nx ?_
    refine wpC_seq ?_
    refine wpC_region ?_
    refine st_val (ex_move rfl) (by decide) trivial ?_
    refine st_val (ex_assign rfl) (by decide) trivial ?_
    refine wpF_end (r := [(4, v11)]) ⟨rfl, trivial⟩ ?_
    refine nx ?_
    refine wpC_ret ?_
    have e68 := Option.some.inj hF
    subst e68
    refine ret_post (P := Tryd.prog) (vs := [v11]) Tryd.results33 ⟨rfl, trivial⟩ ?_
    exact ⟨_, rt oo o13 w.heap.size 11 t, rfl, h12.rt hB (by decide) t, hB.keeps, rt_old _ _ _ _ _⟩
  · exact fun _ _ h => h.elim

def fI_SpacedMarks (fuel : Nat) (p0 : List Int) (p1 : Int) : Option ((List Int) × Bool) :=
  (fI_areRingIds p0) >>= fun x1 =>
  (
    if !x1 then
      some true
    else
      (fI_within p1 0 8) >>= fun x11 =>
      some (!x11)) >>= fun q7 =>
  if q7 then
    some ([], false)
  else
    (fI_spacedMarks fuel p0 p1) >>= fun x22 =>
    some (x22, true)

def pI_SpacedMarks (oo : Tg) (t : Nat) (w : World) (r : (List Int) × Bool) : Ending → World → Prop := fun e w' => ∃ (v0 : Value) (o' : Tg), e = .returned (.tuple #[v0, .bool r.2]) ∧ Ow w.heap.size 3 t o' w' v0 r.1 ∧ Keeps w w' ∧ ∀ b, b < w.heap.size → o' b = oo b
set_option maxRecDepth 100000 in
set_option maxHeartbeats 2000000 in
theorem cI_SpacedMarks (fuel : Nat) (w : World) (oo : Tg) (t : Nat) (ht : 2 ≤ t) (u0 : Value) (p0 : List Int) (g0 : RdL zt w u0 p0) (p1 : Int) (r : (List Int) × Bool) (hF : fI_SpacedMarks fuel p0 p1 = some r) (hTab : TabAt 0 Lib.deBruijn64tab w) :
    Calls Tryd.prog 16 #[u0, .int .i64 p1] w (pI_SpacedMarks oo t w r) := by
  unfold fI_SpacedMarks at hF
  have hB : Bs oo (col oo) w w := Bs.start _ _
  refine calls_start (n := 17) (vs := [u0, (.int .i64 p1)]) Tryd.func16 rfl rfl ?_
  generalize col oo = o at *
  refine wpC_seq ?_
  refine wpC_region ?_
  refine st_val (ex_assign rfl) (by decide) trivial ?_
  refine st_val (ex_assign rfl) (by decide) trivial ?_
  refine wpF_end (r := [(0, u0), (1, (.int .i64 p1))]) ⟨rfl, rfl, trivial⟩ ?_
  refine nx ?_
  refine wpC_seq ?_
  refine wpC_seq ?_
  refine wpC_region ?_
  refine st_val (ex_move rfl) (by decide) trivial ?_
  obtain ⟨x1, hx1, hF⟩ := bind_some hF
  refine st_op (by decide) trivial ?_
  refine wf_call (cI_areRingIds w _ p0 (g0.keep hB.keeps) x1 hx1) Tryd.call28 ⟨rfl, trivial⟩ ?_
  rintro e6 w2 ⟨rfl, k3⟩
  have s5 := k3.stp 999 o
  refine ⟨_, rfl, ?_⟩
  replace hB := hB.stp s5 (by decide)
  refine st_val (ex_not rfl) (by decide) trivial ?_
  refine st_val (ex_move rfl) (by decide) trivial ?_
  obtain ⟨q7, hq7, hF⟩ := bind_some hF
  refine wpF_cutAt 4 (fun a9 w8 => Fr a9 17 [(0, u0), (1, (.int .i64 p1)), (13, (.bool q7))] ∧ Keeps w2 w8) ?_ ?_
  all_goals simp only [List.take_succ_cons, List.take_zero, List.drop_succ_cons, List.drop_zero]
  · have kp : Keeps w2 w2 := Keeps.refl _
    rcases Bool.eq_false_or_eq_true (!x1) with t10 | t10
    · rw [if_pos t10] at hq7
      refine st_no rfl rfl (by rw [t10]; rfl) (by decide) ?_
      refine st_no rfl rfl (by rw [t10]; rfl) (by decide) ?_
      refine st_no rfl rfl (by rw [t10]; rfl) (by decide) ?_
      refine st_val (ex_pick_t (congrArg (fun b => some (Value.bool b)) t10) rfl) (by decide) trivial ?_
      have hq72 := Option.some.inj hq7
      refine wpF_end (r := [(0, u0), (1, (.int .i64 p1)), (13, (.bool true))]) ⟨rfl, rfl, rfl, trivial⟩ ?_
      subst hq72
      refine np_norm (fun a ha => ⟨ha, kp⟩)
    · rw [if_neg (by rw [t10]; decide)] at hq7
      refine st_val (ex_move rfl) (by decide) ⟨_, rfl, (congrArg (fun b => some (Value.bool b)) t10)⟩ ?_
      obtain ⟨x11, hx11, hq7⟩ := bind_some hq7
      refine st_op (by decide) ⟨_, rfl, (congrArg (fun b => some (Value.bool b)) t10)⟩ ?_
      refine wf_call (cI_within w2 p1 0 8 x11 hx11) Tryd.call32 ⟨rfl, rfl, rfl, trivial⟩ ?_
      rintro e16 w12 ⟨rfl, k13⟩
      have s15 := k13.stp 999 o
      refine ⟨_, rfl, ?_⟩
      replace hB := hB.stp s15 (by decide)
      replace kp := Keeps.trans kp k13
      refine st_val (ex_not rfl) (by decide) ⟨_, rfl, (congrArg (fun b => some (Value.bool b)) t10)⟩ ?_
      refine st_val (ex_pick_f (congrArg (fun b => some (Value.bool b)) t10) rfl) (by decide) trivial ?_
      have hq72 := Option.some.inj hq7
      refine wpF_end (r := [(0, u0), (1, (.int .i64 p1)), (13, (.bool (!x11)))]) ⟨rfl, rfl, rfl, trivial⟩ ?_
      subst hq72
      refine np_norm (fun a ha => ⟨ha, kp⟩)
  rintro a19 w8 ⟨ha, k17⟩
  have s18 := k17.stp 999 o
  replace hB := hB.stp s18 (by decide)
  refine wl_of ha ?_
  refine wpF_end (r := [(0, u0), (1, (.int .i64 p1)), (13, (.bool q7))]) ⟨rfl, rfl, rfl, trivial⟩ ?_
  refine nx ?_
  refine wpC_cond rfl (fun t20 => ?_) (fun t20 => ?_)
  · rw [if_pos t20] at hF
    refine wpC_seq ?_
    refine wpC_region ?_
    refine st_val (ex_assign rfl) (by decide) trivial ?_
    refine st_val (ex_assign rfl) (by decide) trivial ?_
    refine wpF_end (r := [(4, (.slice none 0 0)), (5, (.bool false))]) ⟨rfl, rfl, trivial⟩ ?_
    refine nx ?_
    refine wpC_ret ?_
    refine nt_ret ?_
    have e21 := Option.some.inj hF
    subst e21
    refine ret_post (P := Tryd.prog) (vs := [(.slice none 0 0), (.bool false)]) Tryd.results16 ⟨rfl, rfl, trivial⟩ ?_
    exact ⟨_, rt oo o w.heap.size 9 t, rfl, (Ow.nil _ _ _ _ _), hB.keeps, rt_old _ _ _ _ _⟩
  · rw [if_neg (by rw [t20]; decide)] at hF
    refine wpC_skip ?_
    refine nx ?_
    refine wpC_seq ?_
    refine wpC_region ?_
    refine st_val (ex_move rfl) (by decide) trivial ?_
    refine st_val (ex_move rfl) (by decide) trivial ?_
    obtain ⟨x22, hx22, hF⟩ := bind_some hF
    refine st_op (by decide) trivial ?_
    refine wf_call (cI_spacedMarks fuel w8 o 13 (by decide) _ p0 (g0.keep hB.keeps) p1 x22 hx22 (tab_keep hTab hB.keeps)) Tryd.call33 ⟨rfl, rfl, trivial⟩ ?_
    rintro e29 w23 ⟨v24, o30, rfl, h25, k26, k27⟩
    have s28 := k26.stp' 13 k27
    replace h25 := h25.mono hB.keeps.size
    refine ⟨_, rfl, ?_⟩
    replace hB := hB.stp s28 (by decide)
    refine st_val (ex_assign rfl) (by decide) trivial ?_
    refine st_val (ex_assign rfl) (by decide) trivial ?_
    refine wpF_end (r := [(4, v24), (5, (.bool true))]) ⟨rfl, rfl, trivial⟩ ?_
    refine nx ?_
    refine wpC_ret ?_
    have e31 := Option.some.inj hF
    subst e31
    refine ret_post (P := Tryd.prog) (vs := [v24, (.bool true)]) Tryd.results16 ⟨rfl, rfl, trivial⟩ ?_
    exact ⟨_, rt oo o30 w.heap.size 13 t, rfl, h25.rt hB (by decide) t, hB.keeps, rt_old _ _ _ _ _⟩

end Go.Proofs.YthhpcledhflapaaDoor
