/- spec.reRows, spec.IsConfigMap, impl.isConfigMap, impl.IsConfigMap: plain functions, and the walks that show that the program computes them (printed by gen.py). -/
import Derived.Test.YtiejigogmnkjdaaGT
namespace Go.Proofs.Ytiejigogmnkjdaa
open Go.RowKit
set_option linter.unusedSimpArgs false
set_option linter.unusedVariables false

theorem info2_t_int_U : Inf Try.prog 3 (.int .i64 0) 1 8 := by unfold Inf; kernel_rfl

def fS_reRows_s1 (fuel : Nat) (p1 : T_Problem) : Int → (List Int) → Unit → Option (Lp Unit Unit Bool) := fun (i23 : Int) (x33 : List Int) (s : Unit) =>
  (
    if (x33.length : Int) != p1.Degree then
      some true
    else
      (ck (p1.Labels - 1)) >>= fun x45 =>
      (fS_l1All x33 0 x45) >>= fun x46 =>
      if !x46 then
        some true
      else
        (fS_prNode fuel p1 x33) >>= fun x53 =>
        some (!x53)) >>= fun q41 =>
  if q41 then
    some (.ret false)
  else
    some (.go ())
def fS_reRows_s5 (p0 : T_Problem) (p1 : T_Problem) (p2 : List (List Int)) (i68 : Int) (i88 : Int) (i108 : Int) (x118 : Int) : Int → Int → Unit → Option (Lp Unit Unit Bool) := fun (i126 : Int) (x136 : Int) (s : Unit) =>
  (
    (fS_prEdge p0 x118 x136) >>= fun x146 =>
    if x146 then
      (ix p2 i68) >>= fun x153 =>
      (ix x153 i108) >>= fun x159 =>
      (ix p2 i88) >>= fun x162 =>
      (ix x162 i126) >>= fun x168 =>
      (fS_prEdge p1 x159 x168) >>= fun x304 =>
      some (!x304)
    else
      some false) >>= fun q142 =>
  if q142 then
    some (.ret false)
  else
    some (.go ())
def fS_reRows_s4 (p0 : T_Problem) (p1 : T_Problem) (p2 : List (List Int)) (i68 : Int) (i88 : Int) (x98 : List Int) : Int → Int → Unit → Option (Lp Unit Unit Bool) := fun (i108 : Int) (x118 : Int) (s : Unit) =>
  (forI (fS_reRows_s5 p0 p1 p2 i68 i88 i108 x118) x98 0 ()) >>= fun q127 =>
  match q127 with
  | .inl _ =>
    some (.go ())
  | .inr r' => some (.ret r')
def fS_reRows_s3 (p0 : T_Problem) (p1 : T_Problem) (p2 : List (List Int)) (i68 : Int) (x78 : List Int) : Int → (List Int) → Unit → Option (Lp Unit Unit Bool) := fun (i88 : Int) (x98 : List Int) (s : Unit) =>
  (forI (fS_reRows_s4 p0 p1 p2 i68 i88 x98) x78 0 ()) >>= fun q109 =>
  match q109 with
  | .inl _ =>
    some (.go ())
  | .inr r' => some (.ret r')
def fS_reRows_s2 (p0 : T_Problem) (p1 : T_Problem) (p2 : List (List Int)) : Int → (List Int) → Unit → Option (Lp Unit Unit Bool) := fun (i68 : Int) (x78 : List Int) (s : Unit) =>
  (forI (fS_reRows_s3 p0 p1 p2 i68 x78) p0.Nodes 0 ()) >>= fun q89 =>
  match q89 with
  | .inl _ =>
    some (.go ())
  | .inr r' => some (.ret r')
def fS_reRows (fuel : Nat) (p0 : T_Problem) (p1 : T_Problem) (p2 : List (List Int)) : Option Bool :=
  if (p2.length : Int) != (p0.Nodes.length : Int) then
    some false
  else
    (forI (fS_reRows_s1 fuel p1) p2 0 ()) >>= fun q24 =>
    match q24 with
    | .inl _ =>
      (forI (fS_reRows_s2 p0 p1 p2) p0.Nodes 0 ()) >>= fun q69 =>
      match q69 with
      | .inl _ =>
        some true
      | .inr r' => some r'
    | .inr r' => some r'

def pS_reRows (w : World) (r : Bool) : Ending → World → Prop := fun e w' => e = .returned (.bool r) ∧ Keeps w w'
set_option maxRecDepth 100000 in
set_option maxHeartbeats 2000000 in
theorem cS_reRows (fuel : Nat) (w : World) (u0 : List Value) (p0 : T_Problem) (g0 : Rp.rd zt w u0 p0) (u1 : List Value) (p1 : T_Problem) (g1 : Rp.rd zt w u1 p1) (u2 : Value) (p2 : List (List Int)) (g2 : RdL zt w u2 p2) (r : Bool) (hF : fS_reRows fuel p0 p1 p2 = some r) :
    Calls Try.prog 91 #[.agg u0.toArray, .agg u1.toArray, u2] w (pS_reRows w r) := by
  unfold fS_reRows at hF
  obtain ⟨v1, v3, rfl, h2, h4⟩ := g0
  obtain ⟨v5, v7, rfl, h6, h8⟩ := g1
  have hB : Bs (fun _ => 1) (col (fun _ => 1)) w w := Bs.start _ _
  refine calls_start (n := 106) (vs := [(.agg #[(.int .i64 p0.Labels), (.int .i64 p0.Degree), v1, v3]), (.agg #[(.int .i64 p1.Labels), (.int .i64 p1.Degree), v5, v7]), u2]) Try.func91 rfl rfl ?_
  refine wpC_seq ?_
  refine wpC_region ?_
  refine st_op (by decide) trivial ?_
  refine wf_box (o := (col (fun _ => 1))) w.heap.size 11 hB.keeps.size (cs := [(.int .i64 p0.Labels), (.int .i64 p0.Degree), v1, v3]) rfl rfl ?_
  intro o9 w10 b11 h12 s13
  replace hB := hB.stp s13 (by decide)
  refine st_op (by decide) trivial ?_
  refine wf_box (o := o9) w.heap.size 12 hB.keeps.size (cs := [(.int .i64 p1.Labels), (.int .i64 p1.Degree), v5, v7]) rfl rfl ?_
  intro o14 w15 b16 h17 s18
  replace h12 := h12.stp s18 (by decide)
  replace hB := hB.stp s18 (by decide)
  refine st_val (ex_assign rfl) (by decide) trivial ?_
  refine wpF_end (r := [(2, u2), (3, (.pointer (some ⟨b11, 0, none⟩))), (4, (.pointer (some ⟨b16, 0, none⟩)))]) ⟨rfl, rfl, rfl, trivial⟩ ?_
  refine nx ?_
  refine wpC_seq ?_
  refine wpC_seq ?_
  refine wpC_region ?_
  refine st_val (ex_move rfl) (by decide) trivial ?_
  refine st_val (ex_lenR rfl g2 Try.underlying22) (by decide) trivial ?_
  refine st_val (ex_field rfl Try.underlying29 rfl Try.sizeOf22) (by decide) trivial ?_
  refine st_val (ex_load1 rfl Try.isAgg22 (h12.cell rfl)) (by decide) trivial ?_
  refine st_val (ex_lenR rfl h2 Try.underlying22) (by decide) trivial ?_
  refine st_val (ex_neq rfl rfl) (by decide) trivial ?_
  refine wpF_end (r := [(2, u2), (3, (.pointer (some ⟨b11, 0, none⟩))), (4, (.pointer (some ⟨b16, 0, none⟩))), (22, (.bool ((p2.length : Int) != (p0.Nodes.length : Int))))]) ⟨rfl, rfl, rfl, rfl, trivial⟩ ?_
  refine nx ?_
  refine wpC_cond rfl (fun t19 => ?_) (fun t19 => ?_)
  · rw [if_pos t19] at hF
    refine wpC_seq ?_
    refine wpC_region ?_
    refine st_val (ex_assign rfl) (by decide) trivial ?_
    refine wpF_end (r := [(6, (.bool false))]) ⟨rfl, trivial⟩ ?_
    refine nx ?_
    refine wpC_ret ?_
    refine nt_ret ?_
    have e20 := Option.some.inj hF
    subst e20
    refine ret_post (P := Try.prog) (vs := [(.bool false)]) Try.results91 ⟨rfl, trivial⟩ ?_
    exact ⟨rfl, hB.keeps⟩
  · rw [if_neg (by rw [t19]; decide)] at hF
    refine wpC_skip ?_
    refine nx ?_
    refine wpC_seq ?_
    refine wpC_seq ?_
    refine wpC_region ?_
    refine st_val (ex_move rfl) (by decide) trivial ?_
    refine st_val (ex_lenR rfl g2 Try.underlying22) (by decide) trivial ?_
    refine st_val (ex_move rfl) (by decide) trivial ?_
    refine wpF_end (r := [(2, u2), (3, (.pointer (some ⟨b11, 0, none⟩))), (4, (.pointer (some ⟨b16, 0, none⟩))), (23, u2), (24, (.int .i64 (p2.length : Int))), (25, (.int .i64 0))]) ⟨rfl, rfl, rfl, rfl, rfl, rfl, trivial⟩ ?_
    refine nx ?_
    obtain ⟨q24, hq24, hF⟩ := bind_some hF
    refine wpC_cutN (fun a w22 => ∃ (o21 : Tg), q24 = .inl () ∧ Fr a 106 [(2, u2), (3, (.pointer (some ⟨b11, 0, none⟩))), (4, (.pointer (some ⟨b16, 0, none⟩)))] ∧ Bs (fun _ => 1) o21 w w22 ∧ Bx w.heap.size 11 o21 w22 b11 29 [(.int .i64 p0.Labels), (.int .i64 p0.Degree), v1, v3] ∧ Bx w.heap.size 12 o21 w22 b16 29 [(.int .i64 p1.Labels), (.int .i64 p1.Degree), v5, v7]) (fun a w' => ∃ r', q24 = .inr r' ∧ bodyPost Try.prog Try.f91 (pS_reRows w r') .ret a w') ?_ ?_ ?_
    · refine wpC_block ?_
      refine wpC_loop (fun (K : Nat) a w22 => ∃ (i23 : Int) (o21 : Tg), forI (fS_reRows_s1 fuel p1) (p2.drop i23.toNat) i23 () = some q24 ∧ (p2.drop i23.toNat).length = K ∧ 0 ≤ i23 ∧ Fr a 106 [(2, u2), (3, (.pointer (some ⟨b11, 0, none⟩))), (4, (.pointer (some ⟨b16, 0, none⟩))), (23, u2), (24, (.int .i64 (p2.length : Int))), (25, (.int .i64 i23))] ∧ Bs (fun _ => 1) o21 w w22 ∧ Bx w.heap.size 11 o21 w22 b11 29 [(.int .i64 p0.Labels), (.int .i64 p0.Degree), v1, v3] ∧ Bx w.heap.size 12 o21 w22 b16 29 [(.int .i64 p1.Labels), (.int .i64 p1.Degree), v5, v7]) _ (fun a ha => ⟨0, o14, hq24, rfl, Int.le_refl 0, ha.sub (r := [(2, u2), (3, (.pointer (some ⟨b11, 0, none⟩))), (4, (.pointer (some ⟨b16, 0, none⟩))), (23, u2), (24, (.int .i64 (p2.length : Int))), (25, (.int .i64 0))]) ⟨rfl, rfl, rfl, rfl, rfl, rfl, trivial⟩, hB, h12, h17⟩) ?_
      rintro K28 a w22 ⟨i23, o21, l25, m27, z26, ha, hB, h12, h17⟩
      by_cases t32 : i23 < (p2.length : Int)
      · obtain ⟨x33, q29, hx33, b30, n31⟩ := forI_cons z26 t32 l25
        have hle := g2.len_le
        dsimp only [fS_reRows_s1] at b30
        refine wp_of ha ?_
        refine wpC_seq ?_
        refine wpC_region ?_
        refine st_val (ex_lss rfl rfl) (by decide) trivial ?_
        refine wpF_end (r := [(2, u2), (3, (.pointer (some ⟨b11, 0, none⟩))), (4, (.pointer (some ⟨b16, 0, none⟩))), (23, u2), (24, (.int .i64 (p2.length : Int))), (25, (.int .i64 i23)), (26, (.bool (decide (i23 < (p2.length : Int)))))]) ⟨rfl, rfl, rfl, rfl, rfl, rfl, rfl, trivial⟩ ?_
        refine nx ?_
        refine wpC_seq ?_
        refine wpC_true (congrArg (fun b => some (Value.bool b)) (decide_eq_true t32)) ?_
        refine wpC_skip ?_
        refine nx ?_
        refine wpC_seq ?_
        refine wpC_block ?_
        refine wpC_seq ?_
        refine wpC_region ?_
        refine st_op (by decide) trivial ?_
        refine wf_atZ g2 hx33 hB rfl rfl Try.underlying22 Try.sizeOf25 ?_
        intro b34 f35 c36 h37 h38
        obtain ⟨v39, rfl, h40⟩ := h38
        refine st_val (ex_load1 rfl Try.isAgg25 (cell_of_cells h37)) (by decide) trivial ?_
        refine st_val (ex_assign rfl) (by decide) trivial ?_
        refine wpF_end (r := [(2, u2), (3, (.pointer (some ⟨b11, 0, none⟩))), (4, (.pointer (some ⟨b16, 0, none⟩))), (8, v39), (23, u2), (24, (.int .i64 (p2.length : Int))), (25, (.int .i64 i23))]) ⟨rfl, rfl, rfl, rfl, rfl, rfl, rfl, trivial⟩ ?_
        refine nx ?_
        refine wpC_seq ?_
        refine wpC_region ?_
        refine st_val (ex_move rfl) (by decide) trivial ?_
        refine st_val (ex_lenR rfl h40 Try.underlying25) (by decide) trivial ?_
        refine st_val (ex_field rfl Try.underlying29 rfl Try.sizeOf3) (by decide) trivial ?_
        refine st_val (ex_load1 rfl Try.isAgg3 (h17.cell rfl)) (by decide) trivial ?_
        refine st_val (ex_neq rfl rfl) (by decide) trivial ?_
        refine st_val (ex_move rfl) (by decide) trivial ?_
        obtain ⟨q41, hq41, b30⟩ := bind_some b30
        refine wpF_cutAt 13 (fun a43 w42 => Fr a43 106 [(2, u2), (3, (.pointer (some ⟨b11, 0, none⟩))), (4, (.pointer (some ⟨b16, 0, none⟩))), (23, u2), (24, (.int .i64 (p2.length : Int))), (25, (.int .i64 i23)), (47, (.bool q41))] ∧ Keeps w22 w42) ?_ ?_
        all_goals simp only [List.take_succ_cons, List.take_zero, List.drop_succ_cons, List.drop_zero]
        · have kp : Keeps w22 w22 := Keeps.refl _
          rcases Bool.eq_false_or_eq_true ((x33.length : Int) != p1.Degree) with t44 | t44
          · rw [if_pos t44] at hq41
            refine st_no rfl rfl (by rw [t44]; rfl) (by decide) ?_
            refine st_no rfl rfl (by rw [t44]; rfl) (by decide) ?_
            refine st_no rfl rfl (by rw [t44]; rfl) (by decide) ?_
            refine st_no rfl rfl (by rw [t44]; rfl) (by decide) ?_
            refine st_no rfl rfl (by rw [t44]; rfl) (by decide) ?_
            refine st_no rfl rfl (by rw [t44]; rfl) (by decide) ?_
            refine st_val (ex_pick_t (congrArg (fun b => some (Value.bool b)) t44) rfl) (by decide) trivial ?_
            refine st_val (ex_move rfl) (by decide) trivial ?_
            refine st_no rfl rfl rfl (by decide) ?_
            refine st_no rfl rfl rfl (by decide) ?_
            refine st_no rfl rfl rfl (by decide) ?_
            refine st_no rfl rfl rfl (by decide) ?_
            refine st_val (ex_pick_t rfl rfl) (by decide) trivial ?_
            have hq412 := Option.some.inj hq41
            refine wpF_end (r := [(2, u2), (3, (.pointer (some ⟨b11, 0, none⟩))), (4, (.pointer (some ⟨b16, 0, none⟩))), (23, u2), (24, (.int .i64 (p2.length : Int))), (25, (.int .i64 i23)), (47, (.bool true))]) ⟨rfl, rfl, rfl, rfl, rfl, rfl, rfl, trivial⟩ ?_
            subst hq412
            refine np_norm (fun a ha => ⟨ha, kp⟩)
          · rw [if_neg (by rw [t44]; decide)] at hq41
            refine st_val (ex_move rfl) (by decide) ⟨_, rfl, (congrArg (fun b => some (Value.bool b)) t44)⟩ ?_
            refine st_val (ex_field rfl Try.underlying29 rfl Try.sizeOf3) (by decide) ⟨_, rfl, (congrArg (fun b => some (Value.bool b)) t44)⟩ ?_
            refine st_val (ex_load1 rfl Try.isAgg3 (h17.cell rfl)) (by decide) ⟨_, rfl, (congrArg (fun b => some (Value.bool b)) t44)⟩ ?_
            obtain ⟨x45, hx45, hq41⟩ := bind_some hq41
            refine st_val (ex_sub rfl rfl hx45) (by decide) ⟨_, rfl, (congrArg (fun b => some (Value.bool b)) t44)⟩ ?_
            obtain ⟨x46, hx46, hq41⟩ := bind_some hq41
            refine st_op (by decide) ⟨_, rfl, (congrArg (fun b => some (Value.bool b)) t44)⟩ ?_
            refine wf_call (cS_l1All w22 _ x33 (h40.keep hB.keeps) 0 x45 x46 hx46) Try.call79 ⟨rfl, rfl, rfl, trivial⟩ ?_
            rintro e51 w47 ⟨rfl, k48⟩
            have s50 := k48.stp 999 o21
            refine ⟨_, rfl, ?_⟩
            replace h12 := h12.stp s50 (by decide)
            replace h17 := h17.stp s50 (by decide)
            replace hB := hB.stp s50 (by decide)
            replace kp := Keeps.trans kp k48
            refine st_val (ex_not rfl) (by decide) ⟨_, rfl, (congrArg (fun b => some (Value.bool b)) t44)⟩ ?_
            refine st_val (ex_pick_f (congrArg (fun b => some (Value.bool b)) t44) rfl) (by decide) trivial ?_
            refine st_val (ex_move rfl) (by decide) trivial ?_
            rcases Bool.eq_false_or_eq_true (!x46) with t52 | t52
            · rw [if_pos t52] at hq41
              refine st_no rfl rfl (by rw [t52]; rfl) (by decide) ?_
              refine st_no rfl rfl (by rw [t52]; rfl) (by decide) ?_
              refine st_no rfl rfl (by rw [t52]; rfl) (by decide) ?_
              refine st_no rfl rfl (by rw [t52]; rfl) (by decide) ?_
              refine st_val (ex_pick_t (congrArg (fun b => some (Value.bool b)) t52) rfl) (by decide) trivial ?_
              have hq412 := Option.some.inj hq41
              refine wpF_end (r := [(2, u2), (3, (.pointer (some ⟨b11, 0, none⟩))), (4, (.pointer (some ⟨b16, 0, none⟩))), (23, u2), (24, (.int .i64 (p2.length : Int))), (25, (.int .i64 i23)), (47, (.bool true))]) ⟨rfl, rfl, rfl, rfl, rfl, rfl, rfl, trivial⟩ ?_
              subst hq412
              refine np_norm (fun a ha => ⟨ha, kp⟩)
            · rw [if_neg (by rw [t52]; decide)] at hq41
              refine st_val (ex_loadA rfl Try.isAgg29 Try.sizeOf29 rfl h17.cells) (by decide) ⟨_, rfl, (congrArg (fun b => some (Value.bool b)) t52)⟩ ?_
              refine st_val (ex_move rfl) (by decide) ⟨_, rfl, (congrArg (fun b => some (Value.bool b)) t52)⟩ ?_
              obtain ⟨x53, hx53, hq41⟩ := bind_some hq41
              refine st_op (by decide) ⟨_, rfl, (congrArg (fun b => some (Value.bool b)) t52)⟩ ?_
              refine wf_call (cS_prNode fuel w47 _ p1 (⟨_, _, rfl, (h6.keep hB.keeps), (h8.keep hB.keeps)⟩) _ x33 (h40.keep hB.keeps) x53 hx53) Try.call115 ⟨rfl, rfl, trivial⟩ ?_
              rintro e58 w54 ⟨rfl, k55⟩
              have s57 := k55.stp 999 o21
              refine ⟨_, rfl, ?_⟩
              replace h12 := h12.stp s57 (by decide)
              replace h17 := h17.stp s57 (by decide)
              replace hB := hB.stp s57 (by decide)
              replace kp := Keeps.trans kp k55
              refine st_val (ex_not rfl) (by decide) ⟨_, rfl, (congrArg (fun b => some (Value.bool b)) t52)⟩ ?_
              refine st_val (ex_pick_f (congrArg (fun b => some (Value.bool b)) t52) rfl) (by decide) trivial ?_
              have hq412 := Option.some.inj hq41
              refine wpF_end (r := [(2, u2), (3, (.pointer (some ⟨b11, 0, none⟩))), (4, (.pointer (some ⟨b16, 0, none⟩))), (23, u2), (24, (.int .i64 (p2.length : Int))), (25, (.int .i64 i23)), (47, (.bool (!x53)))]) ⟨rfl, rfl, rfl, rfl, rfl, rfl, rfl, trivial⟩ ?_
              subst hq412
              refine np_norm (fun a ha => ⟨ha, kp⟩)
        rintro a61 w42 ⟨ha, k59⟩
        have s60 := k59.stp 999 o21
        replace h12 := h12.stp s60 (by decide)
        replace h17 := h17.stp s60 (by decide)
        replace hB := hB.stp s60 (by decide)
        refine wl_of ha ?_
        refine wpF_end (r := [(2, u2), (3, (.pointer (some ⟨b11, 0, none⟩))), (4, (.pointer (some ⟨b16, 0, none⟩))), (23, u2), (24, (.int .i64 (p2.length : Int))), (25, (.int .i64 i23)), (47, (.bool q41))]) ⟨rfl, rfl, rfl, rfl, rfl, rfl, rfl, trivial⟩ ?_
        refine nx ?_
        refine wpC_cond rfl (fun t62 => ?_) (fun t62 => ?_)
        · rw [if_pos t62] at b30
          refine wpC_seq ?_
          refine wpC_region ?_
          refine st_val (ex_assign rfl) (by decide) trivial ?_
          refine wpF_end (r := [(6, (.bool false))]) ⟨rfl, trivial⟩ ?_
          refine nx ?_
          refine wpC_ret ?_
          refine nb_ret ?_
          refine nt_ret ?_
          refine nt_ret ?_
          refine nb_ret ?_
          refine np_ret ?_
          have e63 := Option.some.inj b30
          subst e63
          refine fun a ha => ⟨_, n31, ?_⟩
          refine ret_post (P := Try.prog) (vs := [(.bool false)]) Try.results91 ⟨rfl, trivial⟩ ?_ a ha
          exact ⟨rfl, hB.keeps⟩
        · rw [if_neg (by rw [t62]; decide)] at b30
          refine wpC_skip ?_
          refine nb_norm ?_
          refine nx ?_
          refine wpC_region ?_
          refine st_val (ex_add rfl rfl (ck_in (by omega) (by omega))) (by decide) trivial ?_
          refine st_val (ex_move rfl) (by decide) trivial ?_
          refine wpF_end (r := [(2, u2), (3, (.pointer (some ⟨b11, 0, none⟩))), (4, (.pointer (some ⟨b16, 0, none⟩))), (23, u2), (24, (.int .i64 (p2.length : Int))), (25, (.int .i64 (i23 + 1)))]) ⟨rfl, rfl, rfl, rfl, rfl, rfl, trivial⟩ ?_
          refine nt_norm ?_
          have e64 := Option.some.inj b30
          subst e64
          refine to_k (r := [(2, u2), (3, (.pointer (some ⟨b11, 0, none⟩))), (4, (.pointer (some ⟨b16, 0, none⟩))), (23, u2), (24, (.int .i64 (p2.length : Int))), (25, (.int .i64 (i23 + 1)))]) ⟨rfl, rfl, rfl, rfl, rfl, rfl, trivial⟩ ?_
          intro a ha
          exact ⟨_, (by rw [← m27]; simp only [List.length_drop]; omega), i23 + 1, o21, n31, rfl, (by omega), ha, hB, h12, h17⟩
      · have r65 := forI_done t32 l25
        refine wp_of ha ?_
        refine wpC_seq ?_
        refine wpC_region ?_
        refine st_val (ex_lss rfl rfl) (by decide) trivial ?_
        refine wpF_end (r := [(2, u2), (3, (.pointer (some ⟨b11, 0, none⟩))), (4, (.pointer (some ⟨b16, 0, none⟩))), (23, u2), (24, (.int .i64 (p2.length : Int))), (25, (.int .i64 i23)), (26, (.bool (decide (i23 < (p2.length : Int)))))]) ⟨rfl, rfl, rfl, rfl, rfl, rfl, rfl, trivial⟩ ?_
        refine nx ?_
        refine wpC_seq ?_
        refine wpC_false (congrArg (fun b => some (Value.bool b)) (decide_eq_false t32)) ?_
        refine wpC_exit ?_
        refine nt_exit ?_
        refine nt_exit ?_
        refine nb_hit ?_
        refine np_norm ?_
        refine to_k (r := [(2, u2), (3, (.pointer (some ⟨b11, 0, none⟩))), (4, (.pointer (some ⟨b16, 0, none⟩)))]) ⟨rfl, rfl, rfl, trivial⟩ ?_
        intro a ha
        exact ⟨o21, r65, ha, hB, h12, h17⟩
    · rintro a w22 ⟨o21, rfl, ha, hB, h12, h17⟩
      dsimp only at hF
      refine ap_k ha ?_
      refine nx ?_
      refine wpC_seq ?_
      refine wpC_seq ?_
      refine wpC_region ?_
      refine st_val (ex_field rfl Try.underlying29 rfl Try.sizeOf22) (by decide) trivial ?_
      refine st_val (ex_load1 rfl Try.isAgg22 (h12.cell rfl)) (by decide) trivial ?_
      refine st_val (ex_lenR rfl h2 Try.underlying22) (by decide) trivial ?_
      refine st_val (ex_move rfl) (by decide) trivial ?_
      refine wpF_end (r := [(2, u2), (3, (.pointer (some ⟨b11, 0, none⟩))), (4, (.pointer (some ⟨b16, 0, none⟩))), (50, v1), (51, (.int .i64 (p0.Nodes.length : Int))), (52, (.int .i64 0))]) ⟨rfl, rfl, rfl, rfl, rfl, rfl, trivial⟩ ?_
      refine nx ?_
      obtain ⟨q69, hq69, hF⟩ := bind_some hF
      refine wpC_cutN (fun a w67 => ∃ (o66 : Tg), q69 = .inl () ∧ Fr a 106 [] ∧ Bs (fun _ => 1) o66 w w67) (fun a w' => ∃ r', q69 = .inr r' ∧ bodyPost Try.prog Try.f91 (pS_reRows w r') .ret a w') ?_ ?_ ?_
      · refine wpC_block ?_
        refine wpC_loop (fun (K : Nat) a w67 => ∃ (i68 : Int) (o66 : Tg), forI (fS_reRows_s2 p0 p1 p2) (p0.Nodes.drop i68.toNat) i68 () = some q69 ∧ (p0.Nodes.drop i68.toNat).length = K ∧ 0 ≤ i68 ∧ Fr a 106 [(2, u2), (3, (.pointer (some ⟨b11, 0, none⟩))), (4, (.pointer (some ⟨b16, 0, none⟩))), (50, v1), (51, (.int .i64 (p0.Nodes.length : Int))), (52, (.int .i64 i68))] ∧ Bs (fun _ => 1) o66 w w67 ∧ Bx w.heap.size 11 o66 w67 b11 29 [(.int .i64 p0.Labels), (.int .i64 p0.Degree), v1, v3] ∧ Bx w.heap.size 12 o66 w67 b16 29 [(.int .i64 p1.Labels), (.int .i64 p1.Degree), v5, v7]) _ (fun a ha => ⟨0, o21, hq69, rfl, Int.le_refl 0, ha.sub (r := [(2, u2), (3, (.pointer (some ⟨b11, 0, none⟩))), (4, (.pointer (some ⟨b16, 0, none⟩))), (50, v1), (51, (.int .i64 (p0.Nodes.length : Int))), (52, (.int .i64 0))]) ⟨rfl, rfl, rfl, rfl, rfl, rfl, trivial⟩, hB, h12, h17⟩) ?_
        rintro K73 a w67 ⟨i68, o66, l70, m72, z71, ha, hB, h12, h17⟩
        by_cases t77 : i68 < (p0.Nodes.length : Int)
        · obtain ⟨x78, q74, hx78, b75, n76⟩ := forI_cons z71 t77 l70
          have hle := h2.len_le
          dsimp only [fS_reRows_s2] at b75
          refine wp_of ha ?_
          refine wpC_seq ?_
          refine wpC_region ?_
          refine st_val (ex_lss rfl rfl) (by decide) trivial ?_
          refine wpF_end (r := [(2, u2), (3, (.pointer (some ⟨b11, 0, none⟩))), (4, (.pointer (some ⟨b16, 0, none⟩))), (50, v1), (51, (.int .i64 (p0.Nodes.length : Int))), (52, (.int .i64 i68)), (53, (.bool (decide (i68 < (p0.Nodes.length : Int)))))]) ⟨rfl, rfl, rfl, rfl, rfl, rfl, rfl, trivial⟩ ?_
          refine nx ?_
          refine wpC_seq ?_
          refine wpC_true (congrArg (fun b => some (Value.bool b)) (decide_eq_true t77)) ?_
          refine wpC_skip ?_
          refine nx ?_
          refine wpC_seq ?_
          refine wpC_block ?_
          refine wpC_seq ?_
          refine wpC_region ?_
          refine st_val (ex_move rfl) (by decide) trivial ?_
          refine st_op (by decide) trivial ?_
          refine wf_atZ h2 hx78 hB rfl rfl Try.underlying22 Try.sizeOf25 ?_
          intro b79 f80 c81 h82 h83
          obtain ⟨v84, rfl, h85⟩ := h83
          refine st_val (ex_load1 rfl Try.isAgg25 (cell_of_cells h82)) (by decide) trivial ?_
          refine st_val (ex_assign rfl) (by decide) trivial ?_
          refine st_val (ex_assign rfl) (by decide) trivial ?_
          refine wpF_end (r := [(2, u2), (3, (.pointer (some ⟨b11, 0, none⟩))), (4, (.pointer (some ⟨b16, 0, none⟩))), (9, (.int .i64 i68)), (10, v84), (50, v1), (51, (.int .i64 (p0.Nodes.length : Int))), (52, (.int .i64 i68))]) ⟨rfl, rfl, rfl, rfl, rfl, rfl, rfl, rfl, trivial⟩ ?_
          refine nx ?_
          refine wpC_seq ?_
          refine wpC_region ?_
          refine st_val (ex_field rfl Try.underlying29 rfl Try.sizeOf22) (by decide) trivial ?_
          refine st_val (ex_load1 rfl Try.isAgg22 (h12.cell rfl)) (by decide) trivial ?_
          refine st_val (ex_lenR rfl h2 Try.underlying22) (by decide) trivial ?_
          refine st_val (ex_move rfl) (by decide) trivial ?_
          refine wpF_end (r := [(2, u2), (3, (.pointer (some ⟨b11, 0, none⟩))), (4, (.pointer (some ⟨b16, 0, none⟩))), (9, (.int .i64 i68)), (10, v84), (50, v1), (51, (.int .i64 (p0.Nodes.length : Int))), (52, (.int .i64 i68)), (58, v1), (59, (.int .i64 (p0.Nodes.length : Int))), (60, (.int .i64 0))]) ⟨rfl, rfl, rfl, rfl, rfl, rfl, rfl, rfl, rfl, rfl, rfl, trivial⟩ ?_
          refine nx ?_
          obtain ⟨q89, hq89, b75⟩ := bind_some b75
          refine wpC_cutN (fun a w87 => ∃ (o86 : Tg), q89 = .inl () ∧ Fr a 106 [(2, u2), (3, (.pointer (some ⟨b11, 0, none⟩))), (4, (.pointer (some ⟨b16, 0, none⟩))), (50, v1), (51, (.int .i64 (p0.Nodes.length : Int))), (52, (.int .i64 i68))] ∧ Bs (fun _ => 1) o86 w w87 ∧ Bx w.heap.size 11 o86 w87 b11 29 [(.int .i64 p0.Labels), (.int .i64 p0.Degree), v1, v3] ∧ Bx w.heap.size 12 o86 w87 b16 29 [(.int .i64 p1.Labels), (.int .i64 p1.Degree), v5, v7]) (fun a w' => ∃ r', q89 = .inr r' ∧ bodyPost Try.prog Try.f91 (pS_reRows w r') .ret a w') ?_ ?_ ?_
          · refine wpC_block ?_
            refine wpC_loop (fun (K : Nat) a w87 => ∃ (i88 : Int) (o86 : Tg), forI (fS_reRows_s3 p0 p1 p2 i68 x78) (p0.Nodes.drop i88.toNat) i88 () = some q89 ∧ (p0.Nodes.drop i88.toNat).length = K ∧ 0 ≤ i88 ∧ Fr a 106 [(2, u2), (3, (.pointer (some ⟨b11, 0, none⟩))), (4, (.pointer (some ⟨b16, 0, none⟩))), (9, (.int .i64 i68)), (10, v84), (50, v1), (51, (.int .i64 (p0.Nodes.length : Int))), (52, (.int .i64 i68)), (58, v1), (59, (.int .i64 (p0.Nodes.length : Int))), (60, (.int .i64 i88))] ∧ Bs (fun _ => 1) o86 w w87 ∧ Bx w.heap.size 11 o86 w87 b11 29 [(.int .i64 p0.Labels), (.int .i64 p0.Degree), v1, v3] ∧ Bx w.heap.size 12 o86 w87 b16 29 [(.int .i64 p1.Labels), (.int .i64 p1.Degree), v5, v7]) _ (fun a ha => ⟨0, o66, hq89, rfl, Int.le_refl 0, ha.sub (r := [(2, u2), (3, (.pointer (some ⟨b11, 0, none⟩))), (4, (.pointer (some ⟨b16, 0, none⟩))), (9, (.int .i64 i68)), (10, v84), (50, v1), (51, (.int .i64 (p0.Nodes.length : Int))), (52, (.int .i64 i68)), (58, v1), (59, (.int .i64 (p0.Nodes.length : Int))), (60, (.int .i64 0))]) ⟨rfl, rfl, rfl, rfl, rfl, rfl, rfl, rfl, rfl, rfl, rfl, trivial⟩, hB, h12, h17⟩) ?_
            rintro K93 a w87 ⟨i88, o86, l90, m92, z91, ha, hB, h12, h17⟩
            by_cases t97 : i88 < (p0.Nodes.length : Int)
            · obtain ⟨x98, q94, hx98, b95, n96⟩ := forI_cons z91 t97 l90
              have hle := h2.len_le
              dsimp only [fS_reRows_s3] at b95
              refine wp_of ha ?_
              refine wpC_seq ?_
              refine wpC_region ?_
              refine st_val (ex_lss rfl rfl) (by decide) trivial ?_
              refine wpF_end (r := [(2, u2), (3, (.pointer (some ⟨b11, 0, none⟩))), (4, (.pointer (some ⟨b16, 0, none⟩))), (9, (.int .i64 i68)), (10, v84), (50, v1), (51, (.int .i64 (p0.Nodes.length : Int))), (52, (.int .i64 i68)), (58, v1), (59, (.int .i64 (p0.Nodes.length : Int))), (60, (.int .i64 i88)), (61, (.bool (decide (i88 < (p0.Nodes.length : Int)))))]) ⟨rfl, rfl, rfl, rfl, rfl, rfl, rfl, rfl, rfl, rfl, rfl, rfl, trivial⟩ ?_
              refine nx ?_
              refine wpC_seq ?_
              refine wpC_true (congrArg (fun b => some (Value.bool b)) (decide_eq_true t97)) ?_
              refine wpC_skip ?_
              refine nx ?_
              refine wpC_seq ?_
              refine wpC_block ?_
              refine wpC_seq ?_
              refine wpC_region ?_
              refine st_val (ex_move rfl) (by decide) trivial ?_
              refine st_op (by decide) trivial ?_
              refine wf_atZ h2 hx98 hB rfl rfl Try.underlying22 Try.sizeOf25 ?_
              intro b99 f100 c101 h102 h103
              obtain ⟨v104, rfl, h105⟩ := h103
              refine st_val (ex_load1 rfl Try.isAgg25 (cell_of_cells h102)) (by decide) trivial ?_
              refine st_val (ex_assign rfl) (by decide) trivial ?_
              refine st_val (ex_assign rfl) (by decide) trivial ?_
              refine wpF_end (r := [(2, u2), (3, (.pointer (some ⟨b11, 0, none⟩))), (4, (.pointer (some ⟨b16, 0, none⟩))), (9, (.int .i64 i68)), (10, v84), (11, (.int .i64 i88)), (12, v104), (50, v1), (51, (.int .i64 (p0.Nodes.length : Int))), (52, (.int .i64 i68)), (58, v1), (59, (.int .i64 (p0.Nodes.length : Int))), (60, (.int .i64 i88))]) ⟨rfl, rfl, rfl, rfl, rfl, rfl, rfl, rfl, rfl, rfl, rfl, rfl, rfl, trivial⟩ ?_
              refine nx ?_
              refine wpC_seq ?_
              refine wpC_region ?_
              refine st_val (ex_move rfl) (by decide) trivial ?_
              refine st_val (ex_lenR rfl h85 Try.underlying25) (by decide) trivial ?_
              refine st_val (ex_move rfl) (by decide) trivial ?_
              refine wpF_end (r := [(2, u2), (3, (.pointer (some ⟨b11, 0, none⟩))), (4, (.pointer (some ⟨b16, 0, none⟩))), (9, (.int .i64 i68)), (10, v84), (11, (.int .i64 i88)), (12, v104), (50, v1), (51, (.int .i64 (p0.Nodes.length : Int))), (52, (.int .i64 i68)), (58, v1), (59, (.int .i64 (p0.Nodes.length : Int))), (60, (.int .i64 i88)), (65, v84), (66, (.int .i64 (x78.length : Int))), (67, (.int .i64 0))]) ⟨rfl, rfl, rfl, rfl, rfl, rfl, rfl, rfl, rfl, rfl, rfl, rfl, rfl, rfl, rfl, rfl, trivial⟩ ?_
              refine nx ?_
              obtain ⟨q109, hq109, b95⟩ := bind_some b95
              refine wpC_cutN (fun a w107 => ∃ (o106 : Tg), q109 = .inl () ∧ Fr a 106 [(2, u2), (3, (.pointer (some ⟨b11, 0, none⟩))), (4, (.pointer (some ⟨b16, 0, none⟩))), (9, (.int .i64 i68)), (10, v84), (50, v1), (51, (.int .i64 (p0.Nodes.length : Int))), (52, (.int .i64 i68)), (58, v1), (59, (.int .i64 (p0.Nodes.length : Int))), (60, (.int .i64 i88))] ∧ Bs (fun _ => 1) o106 w w107 ∧ Bx w.heap.size 11 o106 w107 b11 29 [(.int .i64 p0.Labels), (.int .i64 p0.Degree), v1, v3] ∧ Bx w.heap.size 12 o106 w107 b16 29 [(.int .i64 p1.Labels), (.int .i64 p1.Degree), v5, v7]) (fun a w' => ∃ r', q109 = .inr r' ∧ bodyPost Try.prog Try.f91 (pS_reRows w r') .ret a w') ?_ ?_ ?_
              · refine wpC_block ?_
                refine wpC_loop (fun (K : Nat) a w107 => ∃ (i108 : Int) (o106 : Tg), forI (fS_reRows_s4 p0 p1 p2 i68 i88 x98) (x78.drop i108.toNat) i108 () = some q109 ∧ (x78.drop i108.toNat).length = K ∧ 0 ≤ i108 ∧ Fr a 106 [(2, u2), (3, (.pointer (some ⟨b11, 0, none⟩))), (4, (.pointer (some ⟨b16, 0, none⟩))), (9, (.int .i64 i68)), (10, v84), (11, (.int .i64 i88)), (12, v104), (50, v1), (51, (.int .i64 (p0.Nodes.length : Int))), (52, (.int .i64 i68)), (58, v1), (59, (.int .i64 (p0.Nodes.length : Int))), (60, (.int .i64 i88)), (65, v84), (66, (.int .i64 (x78.length : Int))), (67, (.int .i64 i108))] ∧ Bs (fun _ => 1) o106 w w107 ∧ Bx w.heap.size 11 o106 w107 b11 29 [(.int .i64 p0.Labels), (.int .i64 p0.Degree), v1, v3] ∧ Bx w.heap.size 12 o106 w107 b16 29 [(.int .i64 p1.Labels), (.int .i64 p1.Degree), v5, v7]) _ (fun a ha => ⟨0, o86, hq109, rfl, Int.le_refl 0, ha.sub (r := [(2, u2), (3, (.pointer (some ⟨b11, 0, none⟩))), (4, (.pointer (some ⟨b16, 0, none⟩))), (9, (.int .i64 i68)), (10, v84), (11, (.int .i64 i88)), (12, v104), (50, v1), (51, (.int .i64 (p0.Nodes.length : Int))), (52, (.int .i64 i68)), (58, v1), (59, (.int .i64 (p0.Nodes.length : Int))), (60, (.int .i64 i88)), (65, v84), (66, (.int .i64 (x78.length : Int))), (67, (.int .i64 0))]) ⟨rfl, rfl, rfl, rfl, rfl, rfl, rfl, rfl, rfl, rfl, rfl, rfl, rfl, rfl, rfl, rfl, trivial⟩, hB, h12, h17⟩) ?_
                rintro K113 a w107 ⟨i108, o106, l110, m112, z111, ha, hB, h12, h17⟩
                by_cases t117 : i108 < (x78.length : Int)
                · obtain ⟨x118, q114, hx118, b115, n116⟩ := forI_cons z111 t117 l110
                  have hle := h85.len_le
                  dsimp only [fS_reRows_s4] at b115
                  refine wp_of ha ?_
                  refine wpC_seq ?_
                  refine wpC_region ?_
                  refine st_val (ex_lss rfl rfl) (by decide) trivial ?_
                  refine wpF_end (r := [(2, u2), (3, (.pointer (some ⟨b11, 0, none⟩))), (4, (.pointer (some ⟨b16, 0, none⟩))), (9, (.int .i64 i68)), (10, v84), (11, (.int .i64 i88)), (12, v104), (50, v1), (51, (.int .i64 (p0.Nodes.length : Int))), (52, (.int .i64 i68)), (58, v1), (59, (.int .i64 (p0.Nodes.length : Int))), (60, (.int .i64 i88)), (65, v84), (66, (.int .i64 (x78.length : Int))), (67, (.int .i64 i108)), (68, (.bool (decide (i108 < (x78.length : Int)))))]) ⟨rfl, rfl, rfl, rfl, rfl, rfl, rfl, rfl, rfl, rfl, rfl, rfl, rfl, rfl, rfl, rfl, rfl, trivial⟩ ?_
                  refine nx ?_
                  refine wpC_seq ?_
                  refine wpC_true (congrArg (fun b => some (Value.bool b)) (decide_eq_true t117)) ?_
                  refine wpC_skip ?_
                  refine nx ?_
                  refine wpC_seq ?_
                  refine wpC_block ?_
                  refine wpC_seq ?_
                  refine wpC_region ?_
                  refine st_val (ex_move rfl) (by decide) trivial ?_
                  refine st_op (by decide) trivial ?_
                  refine wf_atZ h85 hx118 hB rfl rfl Try.underlying25 Try.sizeOf3 ?_
                  intro b119 f120 c121 h122 h123
                  cases h123
                  refine st_val (ex_load1 rfl Try.isAgg3 (cell_of_cells h122)) (by decide) trivial ?_
                  refine st_val (ex_assign rfl) (by decide) trivial ?_
                  refine st_val (ex_assign rfl) (by decide) trivial ?_
                  refine wpF_end (r := [(2, u2), (3, (.pointer (some ⟨b11, 0, none⟩))), (4, (.pointer (some ⟨b16, 0, none⟩))), (9, (.int .i64 i68)), (10, v84), (11, (.int .i64 i88)), (12, v104), (13, (.int .i64 i108)), (14, (.int .i64 x118)), (50, v1), (51, (.int .i64 (p0.Nodes.length : Int))), (52, (.int .i64 i68)), (58, v1), (59, (.int .i64 (p0.Nodes.length : Int))), (60, (.int .i64 i88)), (65, v84), (66, (.int .i64 (x78.length : Int))), (67, (.int .i64 i108))]) ⟨rfl, rfl, rfl, rfl, rfl, rfl, rfl, rfl, rfl, rfl, rfl, rfl, rfl, rfl, rfl, rfl, rfl, rfl, trivial⟩ ?_
                  refine nx ?_
                  refine wpC_seq ?_
                  refine wpC_region ?_
                  refine st_val (ex_move rfl) (by decide) trivial ?_
                  refine st_val (ex_lenR rfl h105 Try.underlying25) (by decide) trivial ?_
                  refine st_val (ex_move rfl) (by decide) trivial ?_
                  refine wpF_end (r := [(2, u2), (3, (.pointer (some ⟨b11, 0, none⟩))), (4, (.pointer (some ⟨b16, 0, none⟩))), (9, (.int .i64 i68)), (10, v84), (11, (.int .i64 i88)), (12, v104), (13, (.int .i64 i108)), (14, (.int .i64 x118)), (50, v1), (51, (.int .i64 (p0.Nodes.length : Int))), (52, (.int .i64 i68)), (58, v1), (59, (.int .i64 (p0.Nodes.length : Int))), (60, (.int .i64 i88)), (65, v84), (66, (.int .i64 (x78.length : Int))), (67, (.int .i64 i108)), (72, v104), (73, (.int .i64 (x98.length : Int))), (74, (.int .i64 0))]) ⟨rfl, rfl, rfl, rfl, rfl, rfl, rfl, rfl, rfl, rfl, rfl, rfl, rfl, rfl, rfl, rfl, rfl, rfl, rfl, rfl, rfl, trivial⟩ ?_
                  refine nx ?_
                  obtain ⟨q127, hq127, b115⟩ := bind_some b115
                  refine wpC_cutN (fun a w125 => ∃ (o124 : Tg), q127 = .inl () ∧ Fr a 106 [(2, u2), (3, (.pointer (some ⟨b11, 0, none⟩))), (4, (.pointer (some ⟨b16, 0, none⟩))), (9, (.int .i64 i68)), (10, v84), (11, (.int .i64 i88)), (12, v104), (50, v1), (51, (.int .i64 (p0.Nodes.length : Int))), (52, (.int .i64 i68)), (58, v1), (59, (.int .i64 (p0.Nodes.length : Int))), (60, (.int .i64 i88)), (65, v84), (66, (.int .i64 (x78.length : Int))), (67, (.int .i64 i108))] ∧ Bs (fun _ => 1) o124 w w125 ∧ Bx w.heap.size 11 o124 w125 b11 29 [(.int .i64 p0.Labels), (.int .i64 p0.Degree), v1, v3] ∧ Bx w.heap.size 12 o124 w125 b16 29 [(.int .i64 p1.Labels), (.int .i64 p1.Degree), v5, v7]) (fun a w' => ∃ r', q127 = .inr r' ∧ bodyPost Try.prog Try.f91 (pS_reRows w r') .ret a w') ?_ ?_ ?_
                  · refine wpC_block ?_
                    refine wpC_loop (fun (K : Nat) a w125 => ∃ (i126 : Int) (o124 : Tg), forI (fS_reRows_s5 p0 p1 p2 i68 i88 i108 x118) (x98.drop i126.toNat) i126 () = some q127 ∧ (x98.drop i126.toNat).length = K ∧ 0 ≤ i126 ∧ Fr a 106 [(2, u2), (3, (.pointer (some ⟨b11, 0, none⟩))), (4, (.pointer (some ⟨b16, 0, none⟩))), (9, (.int .i64 i68)), (10, v84), (11, (.int .i64 i88)), (12, v104), (13, (.int .i64 i108)), (14, (.int .i64 x118)), (50, v1), (51, (.int .i64 (p0.Nodes.length : Int))), (52, (.int .i64 i68)), (58, v1), (59, (.int .i64 (p0.Nodes.length : Int))), (60, (.int .i64 i88)), (65, v84), (66, (.int .i64 (x78.length : Int))), (67, (.int .i64 i108)), (72, v104), (73, (.int .i64 (x98.length : Int))), (74, (.int .i64 i126))] ∧ Bs (fun _ => 1) o124 w w125 ∧ Bx w.heap.size 11 o124 w125 b11 29 [(.int .i64 p0.Labels), (.int .i64 p0.Degree), v1, v3] ∧ Bx w.heap.size 12 o124 w125 b16 29 [(.int .i64 p1.Labels), (.int .i64 p1.Degree), v5, v7]) _ (fun a ha => ⟨0, o106, hq127, rfl, Int.le_refl 0, ha.sub (r := [(2, u2), (3, (.pointer (some ⟨b11, 0, none⟩))), (4, (.pointer (some ⟨b16, 0, none⟩))), (9, (.int .i64 i68)), (10, v84), (11, (.int .i64 i88)), (12, v104), (13, (.int .i64 i108)), (14, (.int .i64 x118)), (50, v1), (51, (.int .i64 (p0.Nodes.length : Int))), (52, (.int .i64 i68)), (58, v1), (59, (.int .i64 (p0.Nodes.length : Int))), (60, (.int .i64 i88)), (65, v84), (66, (.int .i64 (x78.length : Int))), (67, (.int .i64 i108)), (72, v104), (73, (.int .i64 (x98.length : Int))), (74, (.int .i64 0))]) ⟨rfl, rfl, rfl, rfl, rfl, rfl, rfl, rfl, rfl, rfl, rfl, rfl, rfl, rfl, rfl, rfl, rfl, rfl, rfl, rfl, rfl, trivial⟩, hB, h12, h17⟩) ?_
                    rintro K131 a w125 ⟨i126, o124, l128, m130, z129, ha, hB, h12, h17⟩
                    by_cases t135 : i126 < (x98.length : Int)
                    · obtain ⟨x136, q132, hx136, b133, n134⟩ := forI_cons z129 t135 l128
                      have hle := h105.len_le
                      dsimp only [fS_reRows_s5] at b133
                      refine wp_of ha ?_
                      refine wpC_seq ?_
                      refine wpC_region ?_
                      refine st_val (ex_lss rfl rfl) (by decide) trivial ?_
                      refine wpF_end (r := [(2, u2), (3, (.pointer (some ⟨b11, 0, none⟩))), (4, (.pointer (some ⟨b16, 0, none⟩))), (9, (.int .i64 i68)), (10, v84), (11, (.int .i64 i88)), (12, v104), (13, (.int .i64 i108)), (14, (.int .i64 x118)), (50, v1), (51, (.int .i64 (p0.Nodes.length : Int))), (52, (.int .i64 i68)), (58, v1), (59, (.int .i64 (p0.Nodes.length : Int))), (60, (.int .i64 i88)), (65, v84), (66, (.int .i64 (x78.length : Int))), (67, (.int .i64 i108)), (72, v104), (73, (.int .i64 (x98.length : Int))), (74, (.int .i64 i126)), (75, (.bool (decide (i126 < (x98.length : Int)))))]) ⟨rfl, rfl, rfl, rfl, rfl, rfl, rfl, rfl, rfl, rfl, rfl, rfl, rfl, rfl, rfl, rfl, rfl, rfl, rfl, rfl, rfl, rfl, trivial⟩ ?_
                      refine nx ?_
                      refine wpC_seq ?_
                      refine wpC_true (congrArg (fun b => some (Value.bool b)) (decide_eq_true t135)) ?_
                      refine wpC_skip ?_
                      refine nx ?_
                      refine wpC_seq ?_
                      refine wpC_block ?_
                      refine wpC_seq ?_
                      refine wpC_region ?_
                      refine st_val (ex_move rfl) (by decide) trivial ?_
                      refine st_op (by decide) trivial ?_
                      refine wf_atZ h105 hx136 hB rfl rfl Try.underlying25 Try.sizeOf3 ?_
                      intro b137 f138 c139 h140 h141
                      cases h141
                      refine st_val (ex_load1 rfl Try.isAgg3 (cell_of_cells h140)) (by decide) trivial ?_
                      refine st_val (ex_assign rfl) (by decide) trivial ?_
                      refine st_val (ex_assign rfl) (by decide) trivial ?_
                      refine wpF_end (r := [(2, u2), (3, (.pointer (some ⟨b11, 0, none⟩))), (4, (.pointer (some ⟨b16, 0, none⟩))), (9, (.int .i64 i68)), (10, v84), (11, (.int .i64 i88)), (12, v104), (13, (.int .i64 i108)), (14, (.int .i64 x118)), (15, (.int .i64 i126)), (16, (.int .i64 x136)), (50, v1), (51, (.int .i64 (p0.Nodes.length : Int))), (52, (.int .i64 i68)), (58, v1), (59, (.int .i64 (p0.Nodes.length : Int))), (60, (.int .i64 i88)), (65, v84), (66, (.int .i64 (x78.length : Int))), (67, (.int .i64 i108)), (72, v104), (73, (.int .i64 (x98.length : Int))), (74, (.int .i64 i126))]) ⟨rfl, rfl, rfl, rfl, rfl, rfl, rfl, rfl, rfl, rfl, rfl, rfl, rfl, rfl, rfl, rfl, rfl, rfl, rfl, rfl, rfl, rfl, rfl, trivial⟩ ?_
                      refine nx ?_
                      refine wpC_seq ?_
                      obtain ⟨q142, hq142, b133⟩ := bind_some b133
                      refine wpC_cutN (fun a145 w144 => ∃ o143 : Tg, Fr a145 106 [(2, u2), (3, (.pointer (some ⟨b11, 0, none⟩))), (4, (.pointer (some ⟨b16, 0, none⟩))), (9, (.int .i64 i68)), (10, v84), (11, (.int .i64 i88)), (12, v104), (13, (.int .i64 i108)), (14, (.int .i64 x118)), (50, v1), (51, (.int .i64 (p0.Nodes.length : Int))), (52, (.int .i64 i68)), (58, v1), (59, (.int .i64 (p0.Nodes.length : Int))), (60, (.int .i64 i88)), (65, v84), (66, (.int .i64 (x78.length : Int))), (67, (.int .i64 i108)), (72, v104), (73, (.int .i64 (x98.length : Int))), (74, (.int .i64 i126)), (101, (.bool q142))] ∧ Bs (fun _ => 1) o143 w w144 ∧ Bx w.heap.size 11 o143 w144 b11 29 [(.int .i64 p0.Labels), (.int .i64 p0.Degree), v1, v3] ∧ Bx w.heap.size 12 o143 w144 b16 29 [(.int .i64 p1.Labels), (.int .i64 p1.Degree), v5, v7]) (fun _ _ => False) ?_ ?_ (fun _ _ h => h.elim)
                      · obtain ⟨x146, hx146, hq142⟩ := bind_some hq142
                        rcases Bool.eq_false_or_eq_true (x146) with t152 | t152
                        · rw [if_pos t152] at hq142
                          obtain ⟨x153, hx153, hq142⟩ := bind_some hq142
                          obtain ⟨x159, hx159, hq142⟩ := bind_some hq142
                          obtain ⟨x162, hx162, hq142⟩ := bind_some hq142
                          obtain ⟨x168, hx168, hq142⟩ := bind_some hq142
                          refine wpC_drawn (o := o124) [(2, u2), (3, (.pointer (some ⟨b11, 0, none⟩))), (4, (.pointer (some ⟨b16, 0, none⟩))), (9, (.int .i64 i68)), (10, v84), (11, (.int .i64 i88)), (12, v104), (13, (.int .i64 i108)), (14, (.int .i64 x118)), (15, (.int .i64 i126)), (16, (.int .i64 x136)), (50, v1), (51, (.int .i64 (p0.Nodes.length : Int))), (52, (.int .i64 i68)), (58, v1), (59, (.int .i64 (p0.Nodes.length : Int))), (60, (.int .i64 i88)), (65, v84), (66, (.int .i64 (x78.length : Int))), (67, (.int .i64 i108)), (72, v104), (73, (.int .i64 (x98.length : Int))), (74, (.int .i64 i126))] [2, 3, 4, 9, 10, 11, 12, 13, 14, 15, 16, 50, 51, 52, 58, 59, 60, 65, 66, 67, 72, 73, 74] [79, 80, 81, 82, 83, 84, 85, 86, 87, 88, 89, 90, 91, 92, 93, 94, 95, 96, 97, 98] [[], [], [], [0, 1, 2], [3], [4], [4], [4], [4, 6, 7], [4, 8], [4], [4, 9, 10], [4, 11], [4], [4], [4, 13, 14], [4, 15], [4], [4, 16, 17], [4, 18]] [none, none, none, none, none, none, none, none, none, none, none, none, none, none, none, none, none, none, none, none] [999, 999, 999, 999, 999, 999, 999, 999, 999, 999, 999, 999, 999, 999, 999, 999, 999, 999, 999, 999] [0, 0, 0, 0, 0, 0, 0, 0, 0, 0, 0, 0, 0, 0, 0, 0, 0, 0, 0, 0] [999] [fun v _ _ => v = (.agg #[(.int .i64 p0.Labels), (.int .i64 p0.Degree), v1, v3]), fun v _ _ => v = (.int .i64 x118), fun v _ _ => v = (.int .i64 x136), fun v _ _ => v = (.bool x146), fun v _ _ => v = (.bool x146), fun v _ _ => v = (.agg #[(.int .i64 p1.Labels), (.int .i64 p1.Degree), v5, v7]), fun v _ _ => v = u2, fun v _ _ => v = (.int .i64 i68), fun v o w9 => ∃ vl, v = adr vl (i68.toNat * Rp.sz (List Int)) ∧ RdL zt w vl p2, fun v o w9 => RdL zt w v x153, fun v _ _ => v = (.int .i64 i108), fun v o w9 => ∃ vl, v = adr vl (i108.toNat * Rp.sz Int) ∧ RdL zt w vl x153, fun v _ _ => v = (.int .i64 x159), fun v _ _ => v = u2, fun v _ _ => v = (.int .i64 i88), fun v o w9 => ∃ vl, v = adr vl (i88.toNat * Rp.sz (List Int)) ∧ RdL zt w vl p2, fun v o w9 => RdL zt w v x162, fun v _ _ => v = (.int .i64 i126), fun v o w9 => ∃ vl, v = adr vl (i126.toNat * Rp.sz Int) ∧ RdL zt w vl x162, fun v _ _ => v = (.int .i64 x168)] (fun o8 w8 => Bs (fun _ => 1) o8 w w8 ∧ Bx w.heap.size 11 o8 w8 b11 29 [(.int .i64 p0.Labels), (.int .i64 p0.Degree), v1, v3] ∧ Bx w.heap.size 12 o8 w8 b16 29 [(.int .i64 p1.Labels), (.int .i64 p1.Degree), v5, v7]) follows_mixed (by kernel_rfl) rfl ⟨rfl, rfl, rfl, rfl, rfl, rfl, rfl, rfl, rfl, rfl, rfl, rfl, rfl, rfl, rfl, rfl, rfl, rfl, rfl, rfl, rfl, rfl, rfl, trivial⟩ ⟨hB, h12, h17⟩ ?_ ⟨st_eq _, st_eq _, st_eq _, st_eq _, st_eq _, st_eq _, st_eq _, st_eq _, fun _ _ _ _ _ _ h0 hb ⟨vl, e, h⟩ hs => ⟨vl, e, h⟩, fun _ _ _ _ _ _ h0 hb h hs => h, st_eq _, fun _ _ _ _ _ _ h0 hb ⟨vl, e, h⟩ hs => ⟨vl, e, h⟩, st_eq _, st_eq _, st_eq _, fun _ _ _ _ _ _ h0 hb ⟨vl, e, h⟩ hs => ⟨vl, e, h⟩, fun _ _ _ _ _ _ h0 hb h hs => h, st_eq _, fun _ _ _ _ _ _ h0 hb ⟨vl, e, h⟩ hs => ⟨vl, e, h⟩, st_eq _, trivial⟩ ?_ ?_
                          · rintro t9 o1 w1 o2 w2 ht9 ⟨hB, h12, h17⟩ hs9
                            have ht9 : t9 = 999 := by simpa using ht9
                            subst ht9
                            all_goals exact ⟨hB.stp hs9 (by decide), h12.stp hs9 (by decide), h17.stp hs9 (by decide)⟩
                          · refine ⟨?_, ?_, ?_, ?_, ?_, ?_, ?_, ?_, ?_, ?_, ?_, ?_, ?_, ?_, ?_, ?_, ?_, ?_, ?_, ?_, trivial⟩
                            · rintro o171 w172 a173 ha ⟨hB, h12, h17⟩ -
                              refine opS_of ha (trivial) ?_
                              refine op1_val (ex_loadA rfl Try.isAgg29 Try.sizeOf29 rfl h12.cells) ?_
                              exact ⟨_, Stp.refl _ _ _, rfl⟩
                            · rintro o174 w175 a176 ha ⟨hB, h12, h17⟩ -
                              refine opS_of ha (trivial) ?_
                              refine op1_val (ex_move rfl) ?_
                              exact ⟨_, Stp.refl _ _ _, rfl⟩
                            · rintro o177 w178 a179 ha ⟨hB, h12, h17⟩ -
                              refine opS_of ha (trivial) ?_
                              refine op1_val (ex_move rfl) ?_
                              exact ⟨_, Stp.refl _ _ _, rfl⟩
                            · rintro o180 w181 a182 ha ⟨hB, h12, h17⟩ ⟨r183, r184, r185, -⟩
                              have ha := Fr.cons (d := 79) ha r183
                              have ha := Fr.cons (d := 80) ha r184
                              have ha := Fr.cons (d := 81) ha r185
                              refine opS_of ha (trivial) ?_
                              refine wf_call (cS_prEdge w181 _ p0 (⟨_, _, rfl, (h2.keep hB.keeps), (h4.keep hB.keeps)⟩) x118 x136 x146 hx146) Try.call116 ⟨rfl, rfl, rfl, trivial⟩ ?_
                              rintro e190 w186 ⟨rfl, k187⟩
                              have s189 := k187.stp 999 o180
                              refine ⟨_, rfl, ?_⟩
                              replace h12 := h12.stp s189 (by decide)
                              replace h17 := h17.stp s189 (by decide)
                              replace hB := hB.stp s189 (by decide)
                              exact ⟨_, s189, rfl⟩
                            · rintro o191 w192 a193 ha ⟨hB, h12, h17⟩ ⟨r194, -⟩
                              have ha := Fr.cons (d := 82) ha r194
                              refine opS_of ha (trivial) ?_
                              refine op1_val (ex_move rfl) ?_
                              exact ⟨_, Stp.refl _ _ _, rfl⟩
                            · rintro o195 w196 a197 ha ⟨hB, h12, h17⟩ ⟨r198, -⟩
                              have ha := Fr.cons (d := 83) ha r198
                              refine opS_of ha (⟨_, rfl, (congrArg (fun b => some (Value.bool b)) t152)⟩) ?_
                              refine op1_val (ex_loadA rfl Try.isAgg29 Try.sizeOf29 rfl h17.cells) ?_
                              exact ⟨_, Stp.refl _ _ _, rfl⟩
                            · rintro o199 w200 a201 ha ⟨hB, h12, h17⟩ ⟨r202, -⟩
                              have ha := Fr.cons (d := 83) ha r202
                              refine opS_of ha (⟨_, rfl, (congrArg (fun b => some (Value.bool b)) t152)⟩) ?_
                              refine op1_val (ex_move rfl) ?_
                              exact ⟨_, Stp.refl _ _ _, rfl⟩
                            · rintro o203 w204 a205 ha ⟨hB, h12, h17⟩ ⟨r206, -⟩
                              have ha := Fr.cons (d := 83) ha r206
                              refine opS_of ha (⟨_, rfl, (congrArg (fun b => some (Value.bool b)) t152)⟩) ?_
                              refine op1_val (ex_move rfl) ?_
                              exact ⟨_, Stp.refl _ _ _, rfl⟩
                            · rintro o207 w208 a209 ha ⟨hB, h12, h17⟩ ⟨r210, r211, r212, -⟩
                              have ha := Fr.cons (d := 83) ha r210
                              have ha := Fr.cons (d := 85) ha r211
                              have ha := Fr.cons (d := 86) ha r212
                              refine opS_of ha (⟨_, rfl, (congrArg (fun b => some (Value.bool b)) t152)⟩) ?_
                              refine wd_indexR g2 hx153 rfl rfl Try.underlying22 Try.sizeOf25 ?_
                              exact ⟨_, Stp.refl _ _ _, ⟨_, rfl, g2⟩⟩
                            · rintro o213 w214 a215 ha ⟨hB, h12, h17⟩ ⟨r216, r217, -⟩
                              have ha := Fr.cons (d := 83) ha r216
                              obtain ⟨v218, e219, h220⟩ := r217
                              have ha := Fr.cons (d := 87) ha e219
                              refine opS_of ha (⟨_, rfl, (congrArg (fun b => some (Value.bool b)) t152)⟩) ?_
                              refine wd_load1Z h220 hx153 hB rfl rfl Try.isAgg25 ?_
                              intro c221 h222
                              obtain ⟨v223, e225, h224⟩ := h222
                              cases e225
                              exact ⟨_, Stp.refl _ _ _, h224⟩
                            · rintro o226 w227 a228 ha ⟨hB, h12, h17⟩ ⟨r229, -⟩
                              have ha := Fr.cons (d := 83) ha r229
                              refine opS_of ha (⟨_, rfl, (congrArg (fun b => some (Value.bool b)) t152)⟩) ?_
                              refine op1_val (ex_move rfl) ?_
                              exact ⟨_, Stp.refl _ _ _, rfl⟩
                            · rintro o230 w231 a232 ha ⟨hB, h12, h17⟩ ⟨r233, r234, r235, -⟩
                              have ha := Fr.cons (d := 83) ha r233
                              replace r234 : RdL zt w (a232.tmps.getD 88 undef) x153 := r234
                              generalize e237 : a232.tmps.getD 88 undef = v236 at r234
                              have ha := Fr.cons (d := 88) ha e237
                              have ha := Fr.cons (d := 89) ha r235
                              refine opS_of ha (⟨_, rfl, (congrArg (fun b => some (Value.bool b)) t152)⟩) ?_
                              refine wd_indexR r234 hx159 rfl rfl Try.underlying25 Try.sizeOf3 ?_
                              exact ⟨_, Stp.refl _ _ _, ⟨_, rfl, r234⟩⟩
                            · rintro o238 w239 a240 ha ⟨hB, h12, h17⟩ ⟨r241, r242, -⟩
                              have ha := Fr.cons (d := 83) ha r241
                              obtain ⟨v243, e244, h245⟩ := r242
                              have ha := Fr.cons (d := 90) ha e244
                              refine opS_of ha (⟨_, rfl, (congrArg (fun b => some (Value.bool b)) t152)⟩) ?_
                              refine wd_load1Z h245 hx159 hB rfl rfl Try.isAgg3 ?_
                              intro c246 h247
                              cases h247
                              exact ⟨_, Stp.refl _ _ _, rfl⟩
                            · rintro o248 w249 a250 ha ⟨hB, h12, h17⟩ ⟨r251, -⟩
                              have ha := Fr.cons (d := 83) ha r251
                              refine opS_of ha (⟨_, rfl, (congrArg (fun b => some (Value.bool b)) t152)⟩) ?_
                              refine op1_val (ex_move rfl) ?_
                              exact ⟨_, Stp.refl _ _ _, rfl⟩
                            · rintro o252 w253 a254 ha ⟨hB, h12, h17⟩ ⟨r255, -⟩
                              have ha := Fr.cons (d := 83) ha r255
                              refine opS_of ha (⟨_, rfl, (congrArg (fun b => some (Value.bool b)) t152)⟩) ?_
                              refine op1_val (ex_move rfl) ?_
                              exact ⟨_, Stp.refl _ _ _, rfl⟩
                            · rintro o256 w257 a258 ha ⟨hB, h12, h17⟩ ⟨r259, r260, r261, -⟩
                              have ha := Fr.cons (d := 83) ha r259
                              have ha := Fr.cons (d := 92) ha r260
                              have ha := Fr.cons (d := 93) ha r261
                              refine opS_of ha (⟨_, rfl, (congrArg (fun b => some (Value.bool b)) t152)⟩) ?_
                              refine wd_indexR g2 hx162 rfl rfl Try.underlying22 Try.sizeOf25 ?_
                              exact ⟨_, Stp.refl _ _ _, ⟨_, rfl, g2⟩⟩
                            · rintro o262 w263 a264 ha ⟨hB, h12, h17⟩ ⟨r265, r266, -⟩
                              have ha := Fr.cons (d := 83) ha r265
                              obtain ⟨v267, e268, h269⟩ := r266
                              have ha := Fr.cons (d := 94) ha e268
                              refine opS_of ha (⟨_, rfl, (congrArg (fun b => some (Value.bool b)) t152)⟩) ?_
                              refine wd_load1Z h269 hx162 hB rfl rfl Try.isAgg25 ?_
                              intro c270 h271
                              obtain ⟨v272, e274, h273⟩ := h271
                              cases e274
                              exact ⟨_, Stp.refl _ _ _, h273⟩
                            · rintro o275 w276 a277 ha ⟨hB, h12, h17⟩ ⟨r278, -⟩
                              have ha := Fr.cons (d := 83) ha r278
                              refine opS_of ha (⟨_, rfl, (congrArg (fun b => some (Value.bool b)) t152)⟩) ?_
                              refine op1_val (ex_move rfl) ?_
                              exact ⟨_, Stp.refl _ _ _, rfl⟩
                            · rintro o279 w280 a281 ha ⟨hB, h12, h17⟩ ⟨r282, r283, r284, -⟩
                              have ha := Fr.cons (d := 83) ha r282
                              replace r283 : RdL zt w (a281.tmps.getD 95 undef) x162 := r283
                              generalize e286 : a281.tmps.getD 95 undef = v285 at r283
                              have ha := Fr.cons (d := 95) ha e286
                              have ha := Fr.cons (d := 96) ha r284
                              refine opS_of ha (⟨_, rfl, (congrArg (fun b => some (Value.bool b)) t152)⟩) ?_
                              refine wd_indexR r283 hx168 rfl rfl Try.underlying25 Try.sizeOf3 ?_
                              exact ⟨_, Stp.refl _ _ _, ⟨_, rfl, r283⟩⟩
                            · rintro o287 w288 a289 ha ⟨hB, h12, h17⟩ ⟨r290, r291, -⟩
                              have ha := Fr.cons (d := 83) ha r290
                              obtain ⟨v292, e293, h294⟩ := r291
                              have ha := Fr.cons (d := 97) ha e293
                              refine opS_of ha (⟨_, rfl, (congrArg (fun b => some (Value.bool b)) t152)⟩) ?_
                              refine wd_load1Z h294 hx168 hB rfl rfl Try.isAgg3 ?_
                              intro c295 h296
                              cases h296
                              exact ⟨_, Stp.refl _ _ _, rfl⟩
                          rintro o297 w298 a299 ha ⟨hB, h12, h17⟩ ⟨-, -, -, -, r300, r301, -, -, -, -, -, -, r302, -, -, -, -, -, -, r303, -⟩
                          have ha := Fr.cons (d := 83) ha r300
                          have ha := Fr.cons (d := 84) ha r301
                          have ha := Fr.cons (d := 91) ha r302
                          have ha := Fr.cons (d := 98) ha r303
                          refine wl_of ha ?_
                          simp only [List.length_cons, List.length_nil, Nat.zero_add, Nat.reduceAdd, List.drop_succ_cons, List.drop_zero]
                          obtain ⟨x304, hx304, hq142⟩ := bind_some hq142
                          refine st_op (by decide) ⟨_, rfl, (congrArg (fun b => some (Value.bool b)) t152)⟩ ?_
                          refine wf_call (cS_prEdge w298 _ p1 (⟨_, _, rfl, (h6.keep hB.keeps), (h8.keep hB.keeps)⟩) x159 x168 x304 hx304) Try.call116 ⟨rfl, rfl, rfl, trivial⟩ ?_
                          rintro e309 w305 ⟨rfl, k306⟩
                          have s308 := k306.stp 999 o297
                          refine ⟨_, rfl, ?_⟩
                          replace h12 := h12.stp s308 (by decide)
                          replace h17 := h17.stp s308 (by decide)
                          replace hB := hB.stp s308 (by decide)
                          refine st_val (ex_not rfl) (by decide) ⟨_, rfl, (congrArg (fun b => some (Value.bool b)) t152)⟩ ?_
                          refine st_val (ex_pick_t (congrArg (fun b => some (Value.bool b)) t152) rfl) (by decide) trivial ?_
                          have e310 := Option.some.inj hq142
                          subst e310
                          refine wpF_end (r := [(2, u2), (3, (.pointer (some ⟨b11, 0, none⟩))), (4, (.pointer (some ⟨b16, 0, none⟩))), (9, (.int .i64 i68)), (10, v84), (11, (.int .i64 i88)), (12, v104), (13, (.int .i64 i108)), (14, (.int .i64 x118)), (50, v1), (51, (.int .i64 (p0.Nodes.length : Int))), (52, (.int .i64 i68)), (58, v1), (59, (.int .i64 (p0.Nodes.length : Int))), (60, (.int .i64 i88)), (65, v84), (66, (.int .i64 (x78.length : Int))), (67, (.int .i64 i108)), (72, v104), (73, (.int .i64 (x98.length : Int))), (74, (.int .i64 i126)), (101, (.bool (!x304)))]) ⟨rfl, rfl, rfl, rfl, rfl, rfl, rfl, rfl, rfl, rfl, rfl, rfl, rfl, rfl, rfl, rfl, rfl, rfl, rfl, rfl, rfl, rfl, trivial⟩ ?_
                          refine np_norm (fun a ha => ⟨o297, ha, hB, h12, h17⟩)
                        · rw [if_neg (by rw [t152]; decide)] at hq142
                          refine wpC_drawn (o := o124) [(2, u2), (3, (.pointer (some ⟨b11, 0, none⟩))), (4, (.pointer (some ⟨b16, 0, none⟩))), (9, (.int .i64 i68)), (10, v84), (11, (.int .i64 i88)), (12, v104), (13, (.int .i64 i108)), (14, (.int .i64 x118)), (15, (.int .i64 i126)), (16, (.int .i64 x136)), (50, v1), (51, (.int .i64 (p0.Nodes.length : Int))), (52, (.int .i64 i68)), (58, v1), (59, (.int .i64 (p0.Nodes.length : Int))), (60, (.int .i64 i88)), (65, v84), (66, (.int .i64 (x78.length : Int))), (67, (.int .i64 i108)), (72, v104), (73, (.int .i64 (x98.length : Int))), (74, (.int .i64 i126))] [2, 3, 4, 9, 10, 11, 12, 13, 14, 15, 16, 50, 51, 52, 58, 59, 60, 65, 66, 67, 72, 73, 74] [79, 80, 81, 82, 83, 84, 85, 86, 87, 88, 89, 90, 91, 92, 93, 94, 95, 96, 97, 98] [[], [], [], [0, 1, 2], [3], [4], [4], [4], [4], [4], [4], [4], [4], [4], [4], [4], [4], [4], [4], [4]] [none, none, none, none, none, none, none, none, none, none, none, none, none, none, none, none, none, none, none, none] [999, 999, 999, 999, 999, 999, 999, 999, 999, 999, 999, 999, 999, 999, 999, 999, 999, 999, 999, 999] [0, 0, 0, 0, 0, 0, 0, 0, 0, 0, 0, 0, 0, 0, 0, 0, 0, 0, 0, 0] [999] [fun v _ _ => v = (.agg #[(.int .i64 p0.Labels), (.int .i64 p0.Degree), v1, v3]), fun v _ _ => v = (.int .i64 x118), fun v _ _ => v = (.int .i64 x136), fun v _ _ => v = (.bool x146), fun v _ _ => v = (.bool x146), fun v _ _ => v = undef, fun v _ _ => v = undef, fun v _ _ => v = undef, fun v _ _ => v = undef, fun v _ _ => v = undef, fun v _ _ => v = undef, fun v _ _ => v = undef, fun v _ _ => v = undef, fun v _ _ => v = undef, fun v _ _ => v = undef, fun v _ _ => v = undef, fun v _ _ => v = undef, fun v _ _ => v = undef, fun v _ _ => v = undef, fun v _ _ => v = undef] (fun o8 w8 => Bs (fun _ => 1) o8 w w8 ∧ Bx w.heap.size 11 o8 w8 b11 29 [(.int .i64 p0.Labels), (.int .i64 p0.Degree), v1, v3] ∧ Bx w.heap.size 12 o8 w8 b16 29 [(.int .i64 p1.Labels), (.int .i64 p1.Degree), v5, v7]) follows_mixed (by kernel_rfl) rfl ⟨rfl, rfl, rfl, rfl, rfl, rfl, rfl, rfl, rfl, rfl, rfl, rfl, rfl, rfl, rfl, rfl, rfl, rfl, rfl, rfl, rfl, rfl, rfl, trivial⟩ ⟨hB, h12, h17⟩ ?_ ⟨st_eq _, st_eq _, st_eq _, st_eq _, st_eq _, st_eq _, st_eq _, st_eq _, st_eq _, st_eq _, st_eq _, st_eq _, st_eq _, st_eq _, st_eq _, st_eq _, st_eq _, st_eq _, st_eq _, st_eq _, trivial⟩ ?_ ?_
                          · rintro t9 o1 w1 o2 w2 ht9 ⟨hB, h12, h17⟩ hs9
                            have ht9 : t9 = 999 := by simpa using ht9
                            subst ht9
                            all_goals exact ⟨hB.stp hs9 (by decide), h12.stp hs9 (by decide), h17.stp hs9 (by decide)⟩
                          · refine ⟨?_, ?_, ?_, ?_, ?_, ?_, ?_, ?_, ?_, ?_, ?_, ?_, ?_, ?_, ?_, ?_, ?_, ?_, ?_, ?_, trivial⟩
                            · rintro o311 w312 a313 ha ⟨hB, h12, h17⟩ -
                              refine opS_of ha (trivial) ?_
                              refine op1_val (ex_loadA rfl Try.isAgg29 Try.sizeOf29 rfl h12.cells) ?_
                              exact ⟨_, Stp.refl _ _ _, rfl⟩
                            · rintro o314 w315 a316 ha ⟨hB, h12, h17⟩ -
                              refine opS_of ha (trivial) ?_
                              refine op1_val (ex_move rfl) ?_
                              exact ⟨_, Stp.refl _ _ _, rfl⟩
                            · rintro o317 w318 a319 ha ⟨hB, h12, h17⟩ -
                              refine opS_of ha (trivial) ?_
                              refine op1_val (ex_move rfl) ?_
                              exact ⟨_, Stp.refl _ _ _, rfl⟩
                            · rintro o320 w321 a322 ha ⟨hB, h12, h17⟩ ⟨r323, r324, r325, -⟩
                              have ha := Fr.cons (d := 79) ha r323
                              have ha := Fr.cons (d := 80) ha r324
                              have ha := Fr.cons (d := 81) ha r325
                              refine opS_of ha (trivial) ?_
                              refine wf_call (cS_prEdge w321 _ p0 (⟨_, _, rfl, (h2.keep hB.keeps), (h4.keep hB.keeps)⟩) x118 x136 x146 hx146) Try.call116 ⟨rfl, rfl, rfl, trivial⟩ ?_
                              rintro e330 w326 ⟨rfl, k327⟩
                              have s329 := k327.stp 999 o320
                              refine ⟨_, rfl, ?_⟩
                              replace h12 := h12.stp s329 (by decide)
                              replace h17 := h17.stp s329 (by decide)
                              replace hB := hB.stp s329 (by decide)
                              exact ⟨_, s329, rfl⟩
                            · rintro o331 w332 a333 ha ⟨hB, h12, h17⟩ ⟨r334, -⟩
                              have ha := Fr.cons (d := 82) ha r334
                              refine opS_of ha (trivial) ?_
                              refine op1_val (ex_move rfl) ?_
                              exact ⟨_, Stp.refl _ _ _, rfl⟩
                            · rintro o335 w336 a337 ha ⟨hB, h12, h17⟩ ⟨r338, -⟩
                              have ha := Fr.cons (d := 83) ha r338
                              exact opS_no ha rfl rfl rfl (by rw [t152]; rfl) ⟨_, Stp.refl _ _ _, rfl⟩
                            · rintro o339 w340 a341 ha ⟨hB, h12, h17⟩ ⟨r342, -⟩
                              have ha := Fr.cons (d := 83) ha r342
                              exact opS_no ha rfl rfl rfl (by rw [t152]; rfl) ⟨_, Stp.refl _ _ _, rfl⟩
                            · rintro o343 w344 a345 ha ⟨hB, h12, h17⟩ ⟨r346, -⟩
                              have ha := Fr.cons (d := 83) ha r346
                              exact opS_no ha rfl rfl rfl (by rw [t152]; rfl) ⟨_, Stp.refl _ _ _, rfl⟩
                            · rintro o347 w348 a349 ha ⟨hB, h12, h17⟩ ⟨r350, -⟩
                              have ha := Fr.cons (d := 83) ha r350
                              exact opS_no ha rfl rfl rfl (by rw [t152]; rfl) ⟨_, Stp.refl _ _ _, rfl⟩
                            · rintro o351 w352 a353 ha ⟨hB, h12, h17⟩ ⟨r354, -⟩
                              have ha := Fr.cons (d := 83) ha r354
                              exact opS_no ha rfl rfl rfl (by rw [t152]; rfl) ⟨_, Stp.refl _ _ _, rfl⟩
                            · rintro o355 w356 a357 ha ⟨hB, h12, h17⟩ ⟨r358, -⟩
                              have ha := Fr.cons (d := 83) ha r358
                              exact opS_no ha rfl rfl rfl (by rw [t152]; rfl) ⟨_, Stp.refl _ _ _, rfl⟩
                            · rintro o359 w360 a361 ha ⟨hB, h12, h17⟩ ⟨r362, -⟩
                              have ha := Fr.cons (d := 83) ha r362
                              exact opS_no ha rfl rfl rfl (by rw [t152]; rfl) ⟨_, Stp.refl _ _ _, rfl⟩
                            · rintro o363 w364 a365 ha ⟨hB, h12, h17⟩ ⟨r366, -⟩
                              have ha := Fr.cons (d := 83) ha r366
                              exact opS_no ha rfl rfl rfl (by rw [t152]; rfl) ⟨_, Stp.refl _ _ _, rfl⟩
                            · rintro o367 w368 a369 ha ⟨hB, h12, h17⟩ ⟨r370, -⟩
                              have ha := Fr.cons (d := 83) ha r370
                              exact opS_no ha rfl rfl rfl (by rw [t152]; rfl) ⟨_, Stp.refl _ _ _, rfl⟩
                            · rintro o371 w372 a373 ha ⟨hB, h12, h17⟩ ⟨r374, -⟩
                              have ha := Fr.cons (d := 83) ha r374
                              exact opS_no ha rfl rfl rfl (by rw [t152]; rfl) ⟨_, Stp.refl _ _ _, rfl⟩
                            · rintro o375 w376 a377 ha ⟨hB, h12, h17⟩ ⟨r378, -⟩
                              have ha := Fr.cons (d := 83) ha r378
                              exact opS_no ha rfl rfl rfl (by rw [t152]; rfl) ⟨_, Stp.refl _ _ _, rfl⟩
                            · rintro o379 w380 a381 ha ⟨hB, h12, h17⟩ ⟨r382, -⟩
                              have ha := Fr.cons (d := 83) ha r382
                              exact opS_no ha rfl rfl rfl (by rw [t152]; rfl) ⟨_, Stp.refl _ _ _, rfl⟩
                            · rintro o383 w384 a385 ha ⟨hB, h12, h17⟩ ⟨r386, -⟩
                              have ha := Fr.cons (d := 83) ha r386
                              exact opS_no ha rfl rfl rfl (by rw [t152]; rfl) ⟨_, Stp.refl _ _ _, rfl⟩
                            · rintro o387 w388 a389 ha ⟨hB, h12, h17⟩ ⟨r390, -⟩
                              have ha := Fr.cons (d := 83) ha r390
                              exact opS_no ha rfl rfl rfl (by rw [t152]; rfl) ⟨_, Stp.refl _ _ _, rfl⟩
                            · rintro o391 w392 a393 ha ⟨hB, h12, h17⟩ ⟨r394, -⟩
                              have ha := Fr.cons (d := 83) ha r394
                              exact opS_no ha rfl rfl rfl (by rw [t152]; rfl) ⟨_, Stp.refl _ _ _, rfl⟩
                          rintro o395 w396 a397 ha ⟨hB, h12, h17⟩ ⟨-, -, -, -, r398, r399, -, -, -, -, -, -, r400, -, -, -, -, -, -, r401, -⟩
                          have ha := Fr.cons (d := 83) ha r398
                          have ha := Fr.cons (d := 84) ha r399
                          have ha := Fr.cons (d := 91) ha r400
                          have ha := Fr.cons (d := 98) ha r401
                          refine wl_of ha ?_
                          simp only [List.length_cons, List.length_nil, Nat.zero_add, Nat.reduceAdd, List.drop_succ_cons, List.drop_zero]
                          refine st_no rfl rfl (by rw [t152]; rfl) (by decide) ?_
                          refine st_no rfl rfl (by rw [t152]; rfl) (by decide) ?_
                          refine st_val (ex_pick_f (congrArg (fun b => some (Value.bool b)) t152) rfl) (by decide) trivial ?_
                          have e402 := Option.some.inj hq142
                          subst e402
                          refine wpF_end (r := [(2, u2), (3, (.pointer (some ⟨b11, 0, none⟩))), (4, (.pointer (some ⟨b16, 0, none⟩))), (9, (.int .i64 i68)), (10, v84), (11, (.int .i64 i88)), (12, v104), (13, (.int .i64 i108)), (14, (.int .i64 x118)), (50, v1), (51, (.int .i64 (p0.Nodes.length : Int))), (52, (.int .i64 i68)), (58, v1), (59, (.int .i64 (p0.Nodes.length : Int))), (60, (.int .i64 i88)), (65, v84), (66, (.int .i64 (x78.length : Int))), (67, (.int .i64 i108)), (72, v104), (73, (.int .i64 (x98.length : Int))), (74, (.int .i64 i126)), (101, (.bool false))]) ⟨rfl, rfl, rfl, rfl, rfl, rfl, rfl, rfl, rfl, rfl, rfl, rfl, rfl, rfl, rfl, rfl, rfl, rfl, rfl, rfl, rfl, rfl, trivial⟩ ?_
                          refine np_norm (fun a ha => ⟨o395, ha, hB, h12, h17⟩)
                      rintro a403 w144 ⟨o143, ha, hB, h12, h17⟩
                      refine ap_k ha ?_
                      refine nx ?_
                      refine wpC_cond rfl (fun t404 => ?_) (fun t404 => ?_)
                      · rw [if_pos t404] at b133
                        refine wpC_seq ?_
                        refine wpC_region ?_
                        refine st_val (ex_assign rfl) (by decide) trivial ?_
                        refine wpF_end (r := [(6, (.bool false))]) ⟨rfl, trivial⟩ ?_
                        refine nx ?_
                        refine wpC_ret ?_
                        refine nb_ret ?_
                        refine nt_ret ?_
                        refine nt_ret ?_
                        refine nb_ret ?_
                        refine np_ret ?_
                        have e405 := Option.some.inj b133
                        subst e405
                        refine fun a ha => ⟨_, n134, ?_⟩
                        refine ret_post (P := Try.prog) (vs := [(.bool false)]) Try.results91 ⟨rfl, trivial⟩ ?_ a ha
                        exact ⟨rfl, hB.keeps⟩
                      · rw [if_neg (by rw [t404]; decide)] at b133
                        refine wpC_skip ?_
                        refine nb_norm ?_
                        refine nx ?_
                        refine wpC_region ?_
                        refine st_val (ex_add rfl rfl (ck_in (by omega) (by omega))) (by decide) trivial ?_
                        refine st_val (ex_move rfl) (by decide) trivial ?_
                        refine wpF_end (r := [(2, u2), (3, (.pointer (some ⟨b11, 0, none⟩))), (4, (.pointer (some ⟨b16, 0, none⟩))), (9, (.int .i64 i68)), (10, v84), (11, (.int .i64 i88)), (12, v104), (13, (.int .i64 i108)), (14, (.int .i64 x118)), (50, v1), (51, (.int .i64 (p0.Nodes.length : Int))), (52, (.int .i64 i68)), (58, v1), (59, (.int .i64 (p0.Nodes.length : Int))), (60, (.int .i64 i88)), (65, v84), (66, (.int .i64 (x78.length : Int))), (67, (.int .i64 i108)), (72, v104), (73, (.int .i64 (x98.length : Int))), (74, (.int .i64 (i126 + 1)))]) ⟨rfl, rfl, rfl, rfl, rfl, rfl, rfl, rfl, rfl, rfl, rfl, rfl, rfl, rfl, rfl, rfl, rfl, rfl, rfl, rfl, rfl, trivial⟩ ?_
                        refine nt_norm ?_
                        have e406 := Option.some.inj b133
                        subst e406
                        refine to_k (r := [(2, u2), (3, (.pointer (some ⟨b11, 0, none⟩))), (4, (.pointer (some ⟨b16, 0, none⟩))), (9, (.int .i64 i68)), (10, v84), (11, (.int .i64 i88)), (12, v104), (13, (.int .i64 i108)), (14, (.int .i64 x118)), (50, v1), (51, (.int .i64 (p0.Nodes.length : Int))), (52, (.int .i64 i68)), (58, v1), (59, (.int .i64 (p0.Nodes.length : Int))), (60, (.int .i64 i88)), (65, v84), (66, (.int .i64 (x78.length : Int))), (67, (.int .i64 i108)), (72, v104), (73, (.int .i64 (x98.length : Int))), (74, (.int .i64 (i126 + 1)))]) ⟨rfl, rfl, rfl, rfl, rfl, rfl, rfl, rfl, rfl, rfl, rfl, rfl, rfl, rfl, rfl, rfl, rfl, rfl, rfl, rfl, rfl, trivial⟩ ?_
                        intro a ha
                        exact ⟨_, (by rw [← m130]; simp only [List.length_drop]; omega), i126 + 1, o143, n134, rfl, (by omega), ha, hB, h12, h17⟩
                    · have r407 := forI_done t135 l128
                      refine wp_of ha ?_
                      refine wpC_seq ?_
                      refine wpC_region ?_
                      refine st_val (ex_lss rfl rfl) (by decide) trivial ?_
                      refine wpF_end (r := [(2, u2), (3, (.pointer (some ⟨b11, 0, none⟩))), (4, (.pointer (some ⟨b16, 0, none⟩))), (9, (.int .i64 i68)), (10, v84), (11, (.int .i64 i88)), (12, v104), (13, (.int .i64 i108)), (14, (.int .i64 x118)), (50, v1), (51, (.int .i64 (p0.Nodes.length : Int))), (52, (.int .i64 i68)), (58, v1), (59, (.int .i64 (p0.Nodes.length : Int))), (60, (.int .i64 i88)), (65, v84), (66, (.int .i64 (x78.length : Int))), (67, (.int .i64 i108)), (72, v104), (73, (.int .i64 (x98.length : Int))), (74, (.int .i64 i126)), (75, (.bool (decide (i126 < (x98.length : Int)))))]) ⟨rfl, rfl, rfl, rfl, rfl, rfl, rfl, rfl, rfl, rfl, rfl, rfl, rfl, rfl, rfl, rfl, rfl, rfl, rfl, rfl, rfl, rfl, trivial⟩ ?_
                      refine nx ?_
                      refine wpC_seq ?_
                      refine wpC_false (congrArg (fun b => some (Value.bool b)) (decide_eq_false t135)) ?_
                      refine wpC_exit ?_
                      refine nt_exit ?_
                      refine nt_exit ?_
                      refine nb_hit ?_
                      refine np_norm ?_
                      refine to_k (r := [(2, u2), (3, (.pointer (some ⟨b11, 0, none⟩))), (4, (.pointer (some ⟨b16, 0, none⟩))), (9, (.int .i64 i68)), (10, v84), (11, (.int .i64 i88)), (12, v104), (50, v1), (51, (.int .i64 (p0.Nodes.length : Int))), (52, (.int .i64 i68)), (58, v1), (59, (.int .i64 (p0.Nodes.length : Int))), (60, (.int .i64 i88)), (65, v84), (66, (.int .i64 (x78.length : Int))), (67, (.int .i64 i108))]) ⟨rfl, rfl, rfl, rfl, rfl, rfl, rfl, rfl, rfl, rfl, rfl, rfl, rfl, rfl, rfl, rfl, trivial⟩ ?_
                      intro a ha
                      exact ⟨o124, r407, ha, hB, h12, h17⟩
                  · rintro a w125 ⟨o124, rfl, ha, hB, h12, h17⟩
                    dsimp only at b115
                    refine ap_k ha ?_
                    refine nb_norm ?_
                    refine nx ?_
                    refine wpC_region ?_
                    refine st_val (ex_add rfl rfl (ck_in (by omega) (by omega))) (by decide) trivial ?_
                    refine st_val (ex_move rfl) (by decide) trivial ?_
                    refine wpF_end (r := [(2, u2), (3, (.pointer (some ⟨b11, 0, none⟩))), (4, (.pointer (some ⟨b16, 0, none⟩))), (9, (.int .i64 i68)), (10, v84), (11, (.int .i64 i88)), (12, v104), (50, v1), (51, (.int .i64 (p0.Nodes.length : Int))), (52, (.int .i64 i68)), (58, v1), (59, (.int .i64 (p0.Nodes.length : Int))), (60, (.int .i64 i88)), (65, v84), (66, (.int .i64 (x78.length : Int))), (67, (.int .i64 (i108 + 1)))]) ⟨rfl, rfl, rfl, rfl, rfl, rfl, rfl, rfl, rfl, rfl, rfl, rfl, rfl, rfl, rfl, rfl, trivial⟩ ?_
                    refine nt_norm ?_
                    have e408 := Option.some.inj b115
                    subst e408
                    refine to_k (r := [(2, u2), (3, (.pointer (some ⟨b11, 0, none⟩))), (4, (.pointer (some ⟨b16, 0, none⟩))), (9, (.int .i64 i68)), (10, v84), (11, (.int .i64 i88)), (12, v104), (50, v1), (51, (.int .i64 (p0.Nodes.length : Int))), (52, (.int .i64 i68)), (58, v1), (59, (.int .i64 (p0.Nodes.length : Int))), (60, (.int .i64 i88)), (65, v84), (66, (.int .i64 (x78.length : Int))), (67, (.int .i64 (i108 + 1)))]) ⟨rfl, rfl, rfl, rfl, rfl, rfl, rfl, rfl, rfl, rfl, rfl, rfl, rfl, rfl, rfl, rfl, trivial⟩ ?_
                    intro a ha
                    exact ⟨_, (by rw [← m112]; simp only [List.length_drop]; omega), i108 + 1, o124, n116, rfl, (by omega), ha, hB, h12, h17⟩
                  · rintro a w125 ⟨r', rfl, b409⟩
                    dsimp only at b115
                    have e410 := Option.some.inj b115
                    subst e410
                    exact ⟨_, n116, b409⟩
                · have r411 := forI_done t117 l110
                  refine wp_of ha ?_
                  refine wpC_seq ?_
                  refine wpC_region ?_
                  refine st_val (ex_lss rfl rfl) (by decide) trivial ?_
                  refine wpF_end (r := [(2, u2), (3, (.pointer (some ⟨b11, 0, none⟩))), (4, (.pointer (some ⟨b16, 0, none⟩))), (9, (.int .i64 i68)), (10, v84), (11, (.int .i64 i88)), (12, v104), (50, v1), (51, (.int .i64 (p0.Nodes.length : Int))), (52, (.int .i64 i68)), (58, v1), (59, (.int .i64 (p0.Nodes.length : Int))), (60, (.int .i64 i88)), (65, v84), (66, (.int .i64 (x78.length : Int))), (67, (.int .i64 i108)), (68, (.bool (decide (i108 < (x78.length : Int)))))]) ⟨rfl, rfl, rfl, rfl, rfl, rfl, rfl, rfl, rfl, rfl, rfl, rfl, rfl, rfl, rfl, rfl, rfl, trivial⟩ ?_
                  refine nx ?_
                  refine wpC_seq ?_
                  refine wpC_false (congrArg (fun b => some (Value.bool b)) (decide_eq_false t117)) ?_
                  refine wpC_exit ?_
                  refine nt_exit ?_
                  refine nt_exit ?_
                  refine nb_hit ?_
                  refine np_norm ?_
                  refine to_k (r := [(2, u2), (3, (.pointer (some ⟨b11, 0, none⟩))), (4, (.pointer (some ⟨b16, 0, none⟩))), (9, (.int .i64 i68)), (10, v84), (50, v1), (51, (.int .i64 (p0.Nodes.length : Int))), (52, (.int .i64 i68)), (58, v1), (59, (.int .i64 (p0.Nodes.length : Int))), (60, (.int .i64 i88))]) ⟨rfl, rfl, rfl, rfl, rfl, rfl, rfl, rfl, rfl, rfl, rfl, trivial⟩ ?_
                  intro a ha
                  exact ⟨o106, r411, ha, hB, h12, h17⟩
              · rintro a w107 ⟨o106, rfl, ha, hB, h12, h17⟩
                dsimp only at b95
                refine ap_k ha ?_
                refine nb_norm ?_
                refine nx ?_
                refine wpC_region ?_
                refine st_val (ex_add rfl rfl (ck_in (by omega) (by omega))) (by decide) trivial ?_
                refine st_val (ex_move rfl) (by decide) trivial ?_
                refine wpF_end (r := [(2, u2), (3, (.pointer (some ⟨b11, 0, none⟩))), (4, (.pointer (some ⟨b16, 0, none⟩))), (9, (.int .i64 i68)), (10, v84), (50, v1), (51, (.int .i64 (p0.Nodes.length : Int))), (52, (.int .i64 i68)), (58, v1), (59, (.int .i64 (p0.Nodes.length : Int))), (60, (.int .i64 (i88 + 1)))]) ⟨rfl, rfl, rfl, rfl, rfl, rfl, rfl, rfl, rfl, rfl, rfl, trivial⟩ ?_
                refine nt_norm ?_
                have e412 := Option.some.inj b95
                subst e412
                refine to_k (r := [(2, u2), (3, (.pointer (some ⟨b11, 0, none⟩))), (4, (.pointer (some ⟨b16, 0, none⟩))), (9, (.int .i64 i68)), (10, v84), (50, v1), (51, (.int .i64 (p0.Nodes.length : Int))), (52, (.int .i64 i68)), (58, v1), (59, (.int .i64 (p0.Nodes.length : Int))), (60, (.int .i64 (i88 + 1)))]) ⟨rfl, rfl, rfl, rfl, rfl, rfl, rfl, rfl, rfl, rfl, rfl, trivial⟩ ?_
                intro a ha
                exact ⟨_, (by rw [← m92]; simp only [List.length_drop]; omega), i88 + 1, o106, n96, rfl, (by omega), ha, hB, h12, h17⟩
              · rintro a w107 ⟨r', rfl, b413⟩
                dsimp only at b95
                have e414 := Option.some.inj b95
                subst e414
                exact ⟨_, n96, b413⟩
            · have r415 := forI_done t97 l90
              refine wp_of ha ?_
              refine wpC_seq ?_
              refine wpC_region ?_
              refine st_val (ex_lss rfl rfl) (by decide) trivial ?_
              refine wpF_end (r := [(2, u2), (3, (.pointer (some ⟨b11, 0, none⟩))), (4, (.pointer (some ⟨b16, 0, none⟩))), (9, (.int .i64 i68)), (10, v84), (50, v1), (51, (.int .i64 (p0.Nodes.length : Int))), (52, (.int .i64 i68)), (58, v1), (59, (.int .i64 (p0.Nodes.length : Int))), (60, (.int .i64 i88)), (61, (.bool (decide (i88 < (p0.Nodes.length : Int)))))]) ⟨rfl, rfl, rfl, rfl, rfl, rfl, rfl, rfl, rfl, rfl, rfl, rfl, trivial⟩ ?_
              refine nx ?_
              refine wpC_seq ?_
              refine wpC_false (congrArg (fun b => some (Value.bool b)) (decide_eq_false t97)) ?_
              refine wpC_exit ?_
              refine nt_exit ?_
              refine nt_exit ?_
              refine nb_hit ?_
              refine np_norm ?_
              refine to_k (r := [(2, u2), (3, (.pointer (some ⟨b11, 0, none⟩))), (4, (.pointer (some ⟨b16, 0, none⟩))), (50, v1), (51, (.int .i64 (p0.Nodes.length : Int))), (52, (.int .i64 i68))]) ⟨rfl, rfl, rfl, rfl, rfl, rfl, trivial⟩ ?_
              intro a ha
              exact ⟨o86, r415, ha, hB, h12, h17⟩
          · rintro a w87 ⟨o86, rfl, ha, hB, h12, h17⟩
            dsimp only at b75
            refine ap_k ha ?_
            refine nb_norm ?_
            refine nx ?_
            refine wpC_region ?_
            refine st_val (ex_add rfl rfl (ck_in (by omega) (by omega))) (by decide) trivial ?_
            refine st_val (ex_move rfl) (by decide) trivial ?_
            refine wpF_end (r := [(2, u2), (3, (.pointer (some ⟨b11, 0, none⟩))), (4, (.pointer (some ⟨b16, 0, none⟩))), (50, v1), (51, (.int .i64 (p0.Nodes.length : Int))), (52, (.int .i64 (i68 + 1)))]) ⟨rfl, rfl, rfl, rfl, rfl, rfl, trivial⟩ ?_
            refine nt_norm ?_
            have e416 := Option.some.inj b75
            subst e416
            refine to_k (r := [(2, u2), (3, (.pointer (some ⟨b11, 0, none⟩))), (4, (.pointer (some ⟨b16, 0, none⟩))), (50, v1), (51, (.int .i64 (p0.Nodes.length : Int))), (52, (.int .i64 (i68 + 1)))]) ⟨rfl, rfl, rfl, rfl, rfl, rfl, trivial⟩ ?_
            intro a ha
            exact ⟨_, (by rw [← m72]; simp only [List.length_drop]; omega), i68 + 1, o86, n76, rfl, (by omega), ha, hB, h12, h17⟩
          · rintro a w87 ⟨r', rfl, b417⟩
            dsimp only at b75
            have e418 := Option.some.inj b75
            subst e418
            exact ⟨_, n76, b417⟩
        · have r419 := forI_done t77 l70
          refine wp_of ha ?_
          refine wpC_seq ?_
          refine wpC_region ?_
          refine st_val (ex_lss rfl rfl) (by decide) trivial ?_
          refine wpF_end (r := [(2, u2), (3, (.pointer (some ⟨b11, 0, none⟩))), (4, (.pointer (some ⟨b16, 0, none⟩))), (50, v1), (51, (.int .i64 (p0.Nodes.length : Int))), (52, (.int .i64 i68)), (53, (.bool (decide (i68 < (p0.Nodes.length : Int)))))]) ⟨rfl, rfl, rfl, rfl, rfl, rfl, rfl, trivial⟩ ?_
          refine nx ?_
          refine wpC_seq ?_
          refine wpC_false (congrArg (fun b => some (Value.bool b)) (decide_eq_false t77)) ?_
          refine wpC_exit ?_
          refine nt_exit ?_
          refine nt_exit ?_
          refine nb_hit ?_
          refine np_norm ?_
          refine to_k (r := []) trivial ?_
          intro a ha
          exact ⟨o66, r419, ha, hB⟩
      · rintro a w67 ⟨o66, rfl, ha, hB⟩
        dsimp only at hF
        refine ap_k ha ?_
        refine nx ?_
        refine wpC_seq ?_
        refine wpC_region ?_
        refine st_val (ex_assign rfl) (by decide) trivial ?_
        refine wpF_end (r := [(6, (.bool true))]) ⟨rfl, trivial⟩ ?_
        refine nx ?_
        refine wpC_ret ?_
        have e420 := Option.some.inj hF
        subst e420
        refine ret_post (P := Try.prog) (vs := [(.bool true)]) Try.results91 ⟨rfl, trivial⟩ ?_
        exact ⟨rfl, hB.keeps⟩
      · rintro a w67 ⟨r', rfl, b421⟩
        dsimp only at hF
        have e422 := Option.some.inj hF
        subst e422
        exact b421
    · rintro a w22 ⟨r', rfl, b423⟩
      dsimp only at hF
      have e424 := Option.some.inj hF
      subst e424
      exact b423

def fS_IsConfigMap (fuel : Nat) (p0 : T_Problem) (p1 : T_Problem) (p2 : List (List Int)) : Option (Bool × Bool) :=
  (fS_reTwo fuel p0 p1) >>= fun x19 =>
  if !x19 then
    some (false, false)
  else
    (fS_reRows fuel p0 p1 p2) >>= fun x27 =>
    some (x27, true)

def pS_IsConfigMap (w : World) (r : Bool × Bool) : Ending → World → Prop := fun e w' => e = .returned (.tuple #[.bool r.1, .bool r.2]) ∧ Keeps w w'
set_option maxRecDepth 100000 in
set_option maxHeartbeats 2000000 in
theorem cS_IsConfigMap (fuel : Nat) (w : World) (u0 : List Value) (p0 : T_Problem) (g0 : Rp.rd zt w u0 p0) (u1 : List Value) (p1 : T_Problem) (g1 : Rp.rd zt w u1 p1) (u2 : Value) (p2 : List (List Int)) (g2 : RdL zt w u2 p2) (r : Bool × Bool) (hF : fS_IsConfigMap fuel p0 p1 p2 = some r) :
    Calls Try.prog 39 #[.agg u0.toArray, .agg u1.toArray, u2] w (pS_IsConfigMap w r) := by
  unfold fS_IsConfigMap at hF
  obtain ⟨v1, v3, rfl, h2, h4⟩ := g0
  obtain ⟨v5, v7, rfl, h6, h8⟩ := g1
  have hB : Bs (fun _ => 1) (col (fun _ => 1)) w w := Bs.start _ _
  refine calls_start (n := 16) (vs := [(.agg #[(.int .i64 p0.Labels), (.int .i64 p0.Degree), v1, v3]), (.agg #[(.int .i64 p1.Labels), (.int .i64 p1.Degree), v5, v7]), u2]) Try.func39 rfl rfl ?_
  refine wpC_seq ?_
  refine wpC_region ?_
  refine st_op (by decide) trivial ?_
  refine wf_box (o := (col (fun _ => 1))) w.heap.size 11 hB.keeps.size (cs := [(.int .i64 p0.Labels), (.int .i64 p0.Degree), v1, v3]) rfl rfl ?_
  intro o9 w10 b11 h12 s13
  replace hB := hB.stp s13 (by decide)
  refine st_op (by decide) trivial ?_
  refine wf_box (o := o9) w.heap.size 12 hB.keeps.size (cs := [(.int .i64 p1.Labels), (.int .i64 p1.Degree), v5, v7]) rfl rfl ?_
  intro o14 w15 b16 h17 s18
  replace h12 := h12.stp s18 (by decide)
  replace hB := hB.stp s18 (by decide)
  refine st_val (ex_assign rfl) (by decide) trivial ?_
  refine st_val (ex_assign rfl) (by decide) trivial ?_
  refine wpF_end (r := [(2, u2), (3, (.pointer (some ⟨b11, 0, none⟩))), (4, (.pointer (some ⟨b16, 0, none⟩)))]) ⟨rfl, rfl, rfl, trivial⟩ ?_
  refine nx ?_
  refine wpC_seq ?_
  refine wpC_seq ?_
  refine wpC_region ?_
  refine st_val (ex_loadA rfl Try.isAgg29 Try.sizeOf29 rfl h12.cells) (by decide) trivial ?_
  refine st_val (ex_loadA rfl Try.isAgg29 Try.sizeOf29 rfl h17.cells) (by decide) trivial ?_
  obtain ⟨x19, hx19, hF⟩ := bind_some hF
  refine st_op (by decide) trivial ?_
  refine wf_call (cS_reTwo fuel w15 _ p0 (⟨_, _, rfl, (h2.keep hB.keeps), (h4.keep hB.keeps)⟩) _ p1 (⟨_, _, rfl, (h6.keep hB.keeps), (h8.keep hB.keeps)⟩) x19 hx19) Try.call65 ⟨rfl, rfl, trivial⟩ ?_
  rintro e24 w20 ⟨rfl, k21⟩
  have s23 := k21.stp 999 o14
  refine ⟨_, rfl, ?_⟩
  replace h12 := h12.stp s23 (by decide)
  replace h17 := h17.stp s23 (by decide)
  replace hB := hB.stp s23 (by decide)
  refine st_val (ex_not rfl) (by decide) trivial ?_
  refine wpF_end (r := [(2, u2), (3, (.pointer (some ⟨b11, 0, none⟩))), (4, (.pointer (some ⟨b16, 0, none⟩))), (11, (.bool (!x19)))]) ⟨rfl, rfl, rfl, rfl, trivial⟩ ?_
  refine nx ?_
  refine wpC_cond rfl (fun t25 => ?_) (fun t25 => ?_)
  · rw [if_pos t25] at hF
    refine wpC_seq ?_
    refine wpC_region ?_
    refine st_val (ex_assign rfl) (by decide) trivial ?_
    refine st_val (ex_assign rfl) (by decide) trivial ?_
    refine wpF_end (r := [(6, (.bool false)), (7, (.bool false))]) ⟨rfl, rfl, trivial⟩ ?_
    refine nx ?_
    refine wpC_ret ?_
    refine nt_ret ?_
    have e26 := Option.some.inj hF
    subst e26
    refine ret_post (P := Try.prog) (vs := [(.bool false), (.bool false)]) Try.results39 ⟨rfl, rfl, trivial⟩ ?_
    exact ⟨rfl, hB.keeps⟩
  · rw [if_neg (by rw [t25]; decide)] at hF
    refine wpC_skip ?_
    refine nx ?_
    refine wpC_seq ?_
    refine wpC_region ?_
    refine st_val (ex_loadA rfl Try.isAgg29 Try.sizeOf29 rfl h12.cells) (by decide) trivial ?_
    refine st_val (ex_loadA rfl Try.isAgg29 Try.sizeOf29 rfl h17.cells) (by decide) trivial ?_
    refine st_val (ex_move rfl) (by decide) trivial ?_
    obtain ⟨x27, hx27, hF⟩ := bind_some hF
    refine st_op (by decide) trivial ?_
    refine wf_call (cS_reRows fuel w20 _ p0 (⟨_, _, rfl, (h2.keep hB.keeps), (h4.keep hB.keeps)⟩) _ p1 (⟨_, _, rfl, (h6.keep hB.keeps), (h8.keep hB.keeps)⟩) _ p2 (g2.keep hB.keeps) x27 hx27) Try.call91 ⟨rfl, rfl, rfl, trivial⟩ ?_
    rintro e32 w28 ⟨rfl, k29⟩
    have s31 := k29.stp 999 o14
    refine ⟨_, rfl, ?_⟩
    replace h12 := h12.stp s31 (by decide)
    replace h17 := h17.stp s31 (by decide)
    replace hB := hB.stp s31 (by decide)
    refine st_val (ex_assign rfl) (by decide) trivial ?_
    refine st_val (ex_assign rfl) (by decide) trivial ?_
    refine wpF_end (r := [(6, (.bool x27)), (7, (.bool true))]) ⟨rfl, rfl, trivial⟩ ?_
    refine nx ?_
    refine wpC_ret ?_
    have e33 := Option.some.inj hF
    subst e33
    refine ret_post (P := Try.prog) (vs := [(.bool x27), (.bool true)]) Try.results39 ⟨rfl, rfl, trivial⟩ ?_
    exact ⟨rfl, hB.keeps⟩

def fI_isConfigMap_s1 (fuel : Nat) (p0 : T_Problem) (p1 : T_Problem) : Int → (List Int) → ((List Int) × (List Int)) → Option (Lp ((List Int) × (List Int)) ((List Int) × (List Int)) Bool) := fun (i31 : Int) (x41 : List Int) (s : (List Int) × (List Int)) =>
  (
    if (x41.length : Int) != p1.Degree then
      some true
    else
      (fI_Problem_hasLabels p1 x41) >>= fun x53 =>
      if !x53 then
        some true
      else
        (fI_Problem_node fuel p1 x41) >>= fun x60 =>
        some (!x60)) >>= fun q49 =>
  if q49 then
    some (.ret false)
  else
    (ix p0.Nodes i31) >>= fun x71 =>
    (cat s.1 x71) >>= fun x79 =>
    (cat s.2 x41) >>= fun x85 =>
    some (.go (x79, x85))
def fI_isConfigMap_s3 (fuel : Nat) (p0 : T_Problem) (p1 : T_Problem) (y23 : List Int) (y26 : List Int) (i95 : Int) : Int → Option (Lp Int Int Bool) := fun (s : Int) =>
  if decide (s < (y23.length : Int)) then
    (
      (ix y23 i95) >>= fun x125 =>
      (ix y23 s) >>= fun x128 =>
      (fI_Problem_edge fuel p0 x125 x128) >>= fun x131 =>
      if x131 then
        (ix y26 i95) >>= fun x138 =>
        (ix y26 s) >>= fun x141 =>
        (fI_Problem_edge fuel p1 x138 x141) >>= fun x261 =>
        some (!x261)
      else
        some false) >>= fun q121 =>
    if q121 then
      some (.ret false)
    else
      (ck (s + 1)) >>= fun x373 =>
      some (.go x373)
  else
    some (.out s)
def fI_isConfigMap_s2 (fuel : Nat) (p0 : T_Problem) (p1 : T_Problem) (y23 : List Int) (y26 : List Int) : Int → Unit → Option (Lp Unit Unit Bool) := fun (i95 : Int) (s : Unit) =>
  (loopF (fI_isConfigMap_s3 fuel p0 p1 y23 y26 i95) fuel i95) >>= fun q110 =>
  match q110 with
  | .inl y107 =>
    some (.go ())
  | .inr r' => some (.ret r')
def fI_isConfigMap (fuel : Nat) (p0 : T_Problem) (p1 : T_Problem) (p2 : List (List Int)) : Option Bool :=
  if (p2.length : Int) != (p0.Nodes.length : Int) then
    some false
  else
    (forI (fI_isConfigMap_s1 fuel p0 p1) p2 0 ([], [])) >>= fun q32 =>
    match q32 with
    | .inl (y23, y26) =>
      ck (y23.length : Int) >>= fun _ =>
      (forN (fI_isConfigMap_s2 fuel p0 p1 y23 y26) ((y23.length : Int)).toNat 0 ()) >>= fun q96 =>
      match q96 with
      | .inl _ =>
        some true
      | .inr r' => some r'
    | .inr r' => some r'

def pI_isConfigMap (w : World) (r : Bool) : Ending → World → Prop := fun e w' => e = .returned (.bool r) ∧ Keeps w w'
set_option maxRecDepth 100000 in
set_option maxHeartbeats 2000000 in
theorem cI_isConfigMap (fuel : Nat) (w : World) (u0 : List Value) (p0 : T_Problem) (g0 : Rp.rd zt w u0 p0) (u1 : List Value) (p1 : T_Problem) (g1 : Rp.rd zt w u1 p1) (u2 : Value) (p2 : List (List Int)) (g2 : RdL zt w u2 p2) (r : Bool) (hF : fI_isConfigMap fuel p0 p1 p2 = some r) :
    Calls Try.prog 92 #[.agg u0.toArray, .agg u1.toArray, u2] w (pI_isConfigMap w r) := by
  unfold fI_isConfigMap at hF
  obtain ⟨v1, v3, rfl, h2, h4⟩ := g0
  obtain ⟨v5, v7, rfl, h6, h8⟩ := g1
  have hB : Bs (fun _ => 1) (col (fun _ => 1)) w w := Bs.start _ _
  refine calls_start (n := 90) (vs := [(.agg #[(.int .i64 p0.Labels), (.int .i64 p0.Degree), v1, v3]), (.agg #[(.int .i64 p1.Labels), (.int .i64 p1.Degree), v5, v7]), u2]) Try.func92 rfl rfl ?_
  refine wpC_seq ?_
  refine wpC_region ?_
  refine st_op (by decide) trivial ?_
  refine wf_box (o := (col (fun _ => 1))) w.heap.size 11 hB.keeps.size (cs := [(.int .i64 p0.Labels), (.int .i64 p0.Degree), v1, v3]) rfl rfl ?_
  intro o9 w10 b11 h12 s13
  replace hB := hB.stp s13 (by decide)
  refine st_op (by decide) trivial ?_
  refine wf_box (o := o9) w.heap.size 12 hB.keeps.size (cs := [(.int .i64 p1.Labels), (.int .i64 p1.Degree), v5, v7]) rfl rfl ?_
  intro o14 w15 b16 h17 s18
  replace h12 := h12.stp s18 (by decide)
  replace hB := hB.stp s18 (by decide)
  refine st_val (ex_assign rfl) (by decide) trivial ?_
  refine wpF_end (r := [(2, u2), (3, (.pointer (some ⟨b11, 0, none⟩))), (4, (.pointer (some ⟨b16, 0, none⟩)))]) ⟨rfl, rfl, rfl, trivial⟩ ?_
  refine nx ?_
  refine wpC_seq ?_
  refine wpC_seq ?_
  refine wpC_region ?_
  refine st_val (ex_move rfl) (by decide) trivial ?_
  refine st_val (ex_lenR rfl g2 Try.underlying22) (by decide) trivial ?_
  refine st_val (ex_field rfl Try.underlying29 rfl Try.sizeOf22) (by decide) trivial ?_
  refine st_val (ex_load1 rfl Try.isAgg22 (h12.cell rfl)) (by decide) trivial ?_
  refine st_val (ex_lenR rfl h2 Try.underlying22) (by decide) trivial ?_
  refine st_val (ex_neq rfl rfl) (by decide) trivial ?_
  refine wpF_end (r := [(2, u2), (3, (.pointer (some ⟨b11, 0, none⟩))), (4, (.pointer (some ⟨b16, 0, none⟩))), (18, (.bool ((p2.length : Int) != (p0.Nodes.length : Int))))]) ⟨rfl, rfl, rfl, rfl, trivial⟩ ?_
  refine nx ?_
  refine wpC_cond rfl (fun t19 => ?_) (fun t19 => ?_)
  · rw [if_pos t19] at hF
    refine wpC_seq ?_
    refine wpC_region ?_
    refine st_val (ex_assign rfl) (by decide) trivial ?_
    refine wpF_end (r := [(6, (.bool false))]) ⟨rfl, trivial⟩ ?_
    refine nx ?_
    refine wpC_ret ?_
    refine nt_ret ?_
    have e20 := Option.some.inj hF
    subst e20
    refine ret_post (P := Try.prog) (vs := [(.bool false)]) Try.results92 ⟨rfl, trivial⟩ ?_
    exact ⟨rfl, hB.keeps⟩
  · rw [if_neg (by rw [t19]; decide)] at hF
    refine wpC_skip ?_
    refine nx ?_
    refine wpC_seq ?_
    refine wpC_region ?_
    refine st_val (ex_assign rfl) (by decide) trivial ?_
    refine st_val (ex_assign rfl) (by decide) trivial ?_
    refine wpF_end (r := [(2, u2), (3, (.pointer (some ⟨b11, 0, none⟩))), (4, (.pointer (some ⟨b16, 0, none⟩))), (7, (.slice none 0 0)), (8, (.slice none 0 0))]) ⟨rfl, rfl, rfl, rfl, rfl, trivial⟩ ?_
    refine nx ?_
    refine wpC_seq ?_
    refine wpC_seq ?_
    refine wpC_region ?_
    refine st_val (ex_move rfl) (by decide) trivial ?_
    refine st_val (ex_lenR rfl g2 Try.underlying22) (by decide) trivial ?_
    refine st_val (ex_move rfl) (by decide) trivial ?_
    refine wpF_end (r := [(3, (.pointer (some ⟨b11, 0, none⟩))), (4, (.pointer (some ⟨b16, 0, none⟩))), (7, (.slice none 0 0)), (8, (.slice none 0 0)), (19, u2), (20, (.int .i64 (p2.length : Int))), (21, (.int .i64 0))]) ⟨rfl, rfl, rfl, rfl, rfl, rfl, rfl, trivial⟩ ?_
    refine nx ?_
    have h21 : Ow w.heap.size 3 13 o14 w15 (.slice none 0 0) ([] : List Int) := Ow.nil _ _ _ _ _
    have h22 : Ow w.heap.size 3 14 o14 w15 (.slice none 0 0) ([] : List Int) := Ow.nil _ _ _ _ _
    obtain ⟨q32, hq32, hF⟩ := bind_some hF
    refine wpC_cutN (fun a w30 => ∃ (y23 : List Int) (y26 : List Int) (v24 : Value) (v27 : Value) (o29 : Tg), q32 = .inl (y23, y26) ∧ Fr a 90 [(3, (.pointer (some ⟨b11, 0, none⟩))), (4, (.pointer (some ⟨b16, 0, none⟩))), (7, v24), (8, v27)] ∧ Bs (fun _ => 1) o29 w w30 ∧ Ow w.heap.size 3 13 o29 w30 v24 y23 ∧ Ow w.heap.size 3 14 o29 w30 v27 y26 ∧ Bx w.heap.size 11 o29 w30 b11 29 [(.int .i64 p0.Labels), (.int .i64 p0.Degree), v1, v3] ∧ Bx w.heap.size 12 o29 w30 b16 29 [(.int .i64 p1.Labels), (.int .i64 p1.Degree), v5, v7]) (fun a w' => ∃ r', q32 = .inr r' ∧ bodyPost Try.prog Try.f92 (pI_isConfigMap w r') .ret a w') ?_ ?_ ?_
    · refine wpC_block ?_
      refine wpC_loop (fun (K : Nat) a w30 => ∃ (i31 : Int) (y23 : List Int) (y26 : List Int) (v24 : Value) (v27 : Value) (o29 : Tg), forI (fI_isConfigMap_s1 fuel p0 p1) (p2.drop i31.toNat) i31 (y23, y26) = some q32 ∧ (p2.drop i31.toNat).length = K ∧ 0 ≤ i31 ∧ Fr a 90 [(3, (.pointer (some ⟨b11, 0, none⟩))), (4, (.pointer (some ⟨b16, 0, none⟩))), (7, v24), (8, v27), (19, u2), (20, (.int .i64 (p2.length : Int))), (21, (.int .i64 i31))] ∧ Bs (fun _ => 1) o29 w w30 ∧ Ow w.heap.size 3 13 o29 w30 v24 y23 ∧ Ow w.heap.size 3 14 o29 w30 v27 y26 ∧ Bx w.heap.size 11 o29 w30 b11 29 [(.int .i64 p0.Labels), (.int .i64 p0.Degree), v1, v3] ∧ Bx w.heap.size 12 o29 w30 b16 29 [(.int .i64 p1.Labels), (.int .i64 p1.Degree), v5, v7]) _ (fun a ha => ⟨0, [], [], (.slice none 0 0), (.slice none 0 0), o14, hq32, rfl, Int.le_refl 0, ha.sub (r := [(3, (.pointer (some ⟨b11, 0, none⟩))), (4, (.pointer (some ⟨b16, 0, none⟩))), (7, (.slice none 0 0)), (8, (.slice none 0 0)), (19, u2), (20, (.int .i64 (p2.length : Int))), (21, (.int .i64 0))]) ⟨rfl, rfl, rfl, rfl, rfl, rfl, rfl, trivial⟩, hB, h21, h22, h12, h17⟩) ?_
      rintro K36 a w30 ⟨i31, y23, y26, v24, v27, o29, l33, m35, z34, ha, hB, h25, h28, h12, h17⟩
      by_cases t40 : i31 < (p2.length : Int)
      · obtain ⟨x41, q37, hx41, b38, n39⟩ := forI_cons z34 t40 l33
        have hle := g2.len_le
        dsimp only [fI_isConfigMap_s1] at b38
        refine wp_of ha ?_
        refine wpC_seq ?_
        refine wpC_region ?_
        refine st_val (ex_lss rfl rfl) (by decide) trivial ?_
        refine wpF_end (r := [(3, (.pointer (some ⟨b11, 0, none⟩))), (4, (.pointer (some ⟨b16, 0, none⟩))), (7, v24), (8, v27), (19, u2), (20, (.int .i64 (p2.length : Int))), (21, (.int .i64 i31)), (22, (.bool (decide (i31 < (p2.length : Int)))))]) ⟨rfl, rfl, rfl, rfl, rfl, rfl, rfl, rfl, trivial⟩ ?_
        refine nx ?_
        refine wpC_seq ?_
        refine wpC_true (congrArg (fun b => some (Value.bool b)) (decide_eq_true t40)) ?_
        refine wpC_skip ?_
        refine nx ?_
        refine wpC_seq ?_
        refine wpC_block ?_
        refine wpC_seq ?_
        refine wpC_region ?_
        refine st_val (ex_move rfl) (by decide) trivial ?_
        refine st_op (by decide) trivial ?_
        refine wf_atZ g2 hx41 hB rfl rfl Try.underlying22 Try.sizeOf25 ?_
        intro b42 f43 c44 h45 h46
        obtain ⟨v47, rfl, h48⟩ := h46
        refine st_val (ex_load1 rfl Try.isAgg25 (cell_of_cells h45)) (by decide) trivial ?_
        refine st_val (ex_assign rfl) (by decide) trivial ?_
        refine st_val (ex_assign rfl) (by decide) trivial ?_
        refine wpF_end (r := [(3, (.pointer (some ⟨b11, 0, none⟩))), (4, (.pointer (some ⟨b16, 0, none⟩))), (7, v24), (8, v27), (9, (.int .i64 i31)), (10, v47), (19, u2), (20, (.int .i64 (p2.length : Int))), (21, (.int .i64 i31))]) ⟨rfl, rfl, rfl, rfl, rfl, rfl, rfl, rfl, rfl, trivial⟩ ?_
        refine nx ?_
        refine wpC_seq ?_
        refine wpC_seq ?_
        refine wpC_region ?_
        refine st_val (ex_move rfl) (by decide) trivial ?_
        refine st_val (ex_lenR rfl h48 Try.underlying25) (by decide) trivial ?_
        refine st_val (ex_field rfl Try.underlying29 rfl Try.sizeOf3) (by decide) trivial ?_
        refine st_val (ex_load1 rfl Try.isAgg3 (h17.cell rfl)) (by decide) trivial ?_
        refine st_val (ex_neq rfl rfl) (by decide) trivial ?_
        refine st_val (ex_move rfl) (by decide) trivial ?_
        obtain ⟨q49, hq49, b38⟩ := bind_some b38
        refine wpF_cutAt 11 (fun a51 w50 => Fr a51 90 [(3, (.pointer (some ⟨b11, 0, none⟩))), (4, (.pointer (some ⟨b16, 0, none⟩))), (7, v24), (8, v27), (9, (.int .i64 i31)), (10, v47), (19, u2), (20, (.int .i64 (p2.length : Int))), (21, (.int .i64 i31)), (42, (.bool q49))] ∧ Keeps w30 w50) ?_ ?_
        all_goals simp only [List.take_succ_cons, List.take_zero, List.drop_succ_cons, List.drop_zero]
        · have kp : Keeps w30 w30 := Keeps.refl _
          rcases Bool.eq_false_or_eq_true ((x41.length : Int) != p1.Degree) with t52 | t52
          · rw [if_pos t52] at hq49
            refine st_no rfl rfl (by rw [t52]; rfl) (by decide) ?_
            refine st_no rfl rfl (by rw [t52]; rfl) (by decide) ?_
            refine st_no rfl rfl (by rw [t52]; rfl) (by decide) ?_
            refine st_no rfl rfl (by rw [t52]; rfl) (by decide) ?_
            refine st_val (ex_pick_t (congrArg (fun b => some (Value.bool b)) t52) rfl) (by decide) trivial ?_
            refine st_val (ex_move rfl) (by decide) trivial ?_
            refine st_no rfl rfl rfl (by decide) ?_
            refine st_no rfl rfl rfl (by decide) ?_
            refine st_no rfl rfl rfl (by decide) ?_
            refine st_no rfl rfl rfl (by decide) ?_
            refine st_val (ex_pick_t rfl rfl) (by decide) trivial ?_
            have hq492 := Option.some.inj hq49
            refine wpF_end (r := [(3, (.pointer (some ⟨b11, 0, none⟩))), (4, (.pointer (some ⟨b16, 0, none⟩))), (7, v24), (8, v27), (9, (.int .i64 i31)), (10, v47), (19, u2), (20, (.int .i64 (p2.length : Int))), (21, (.int .i64 i31)), (42, (.bool true))]) ⟨rfl, rfl, rfl, rfl, rfl, rfl, rfl, rfl, rfl, rfl, trivial⟩ ?_
            subst hq492
            refine np_norm (fun a ha => ⟨ha, kp⟩)
          · rw [if_neg (by rw [t52]; decide)] at hq49
            refine st_val (ex_loadA rfl Try.isAgg29 Try.sizeOf29 rfl h17.cells) (by decide) ⟨_, rfl, (congrArg (fun b => some (Value.bool b)) t52)⟩ ?_
            refine st_val (ex_move rfl) (by decide) ⟨_, rfl, (congrArg (fun b => some (Value.bool b)) t52)⟩ ?_
            obtain ⟨x53, hx53, hq49⟩ := bind_some hq49
            refine st_op (by decide) ⟨_, rfl, (congrArg (fun b => some (Value.bool b)) t52)⟩ ?_
            refine wf_call (cI_Problem_hasLabels w30 _ p1 (⟨_, _, rfl, (h6.keep hB.keeps), (h8.keep hB.keeps)⟩) _ x41 (h48.keep hB.keeps) x53 hx53) Try.call83 ⟨rfl, rfl, trivial⟩ ?_
            rintro e58 w54 ⟨rfl, k55⟩
            have s57 := k55.stp 999 o29
            refine ⟨_, rfl, ?_⟩
            replace h25 := h25.stp s57 (by decide) (by decide)
            replace h28 := h28.stp s57 (by decide) (by decide)
            replace h12 := h12.stp s57 (by decide)
            replace h17 := h17.stp s57 (by decide)
            replace hB := hB.stp s57 (by decide)
            replace kp := Keeps.trans kp k55
            refine st_val (ex_not rfl) (by decide) ⟨_, rfl, (congrArg (fun b => some (Value.bool b)) t52)⟩ ?_
            refine st_val (ex_pick_f (congrArg (fun b => some (Value.bool b)) t52) rfl) (by decide) trivial ?_
            refine st_val (ex_move rfl) (by decide) trivial ?_
            rcases Bool.eq_false_or_eq_true (!x53) with t59 | t59
            · rw [if_pos t59] at hq49
              refine st_no rfl rfl (by rw [t59]; rfl) (by decide) ?_
              refine st_no rfl rfl (by rw [t59]; rfl) (by decide) ?_
              refine st_no rfl rfl (by rw [t59]; rfl) (by decide) ?_
              refine st_no rfl rfl (by rw [t59]; rfl) (by decide) ?_
              refine st_val (ex_pick_t (congrArg (fun b => some (Value.bool b)) t59) rfl) (by decide) trivial ?_
              have hq492 := Option.some.inj hq49
              refine wpF_end (r := [(3, (.pointer (some ⟨b11, 0, none⟩))), (4, (.pointer (some ⟨b16, 0, none⟩))), (7, v24), (8, v27), (9, (.int .i64 i31)), (10, v47), (19, u2), (20, (.int .i64 (p2.length : Int))), (21, (.int .i64 i31)), (42, (.bool true))]) ⟨rfl, rfl, rfl, rfl, rfl, rfl, rfl, rfl, rfl, rfl, trivial⟩ ?_
              subst hq492
              refine np_norm (fun a ha => ⟨ha, kp⟩)
            · rw [if_neg (by rw [t59]; decide)] at hq49
              refine st_val (ex_loadA rfl Try.isAgg29 Try.sizeOf29 rfl h17.cells) (by decide) ⟨_, rfl, (congrArg (fun b => some (Value.bool b)) t59)⟩ ?_
              refine st_val (ex_move rfl) (by decide) ⟨_, rfl, (congrArg (fun b => some (Value.bool b)) t59)⟩ ?_
              obtain ⟨x60, hx60, hq49⟩ := bind_some hq49
              refine st_op (by decide) ⟨_, rfl, (congrArg (fun b => some (Value.bool b)) t59)⟩ ?_
              refine wf_call (cI_Problem_node fuel w54 _ p1 (⟨_, _, rfl, (h6.keep hB.keeps), (h8.keep hB.keeps)⟩) _ x41 (h48.keep hB.keeps) x60 hx60) Try.call117 ⟨rfl, rfl, trivial⟩ ?_
              rintro e65 w61 ⟨rfl, k62⟩
              have s64 := k62.stp 999 o29
              refine ⟨_, rfl, ?_⟩
              replace h25 := h25.stp s64 (by decide) (by decide)
              replace h28 := h28.stp s64 (by decide) (by decide)
              replace h12 := h12.stp s64 (by decide)
              replace h17 := h17.stp s64 (by decide)
              replace hB := hB.stp s64 (by decide)
              replace kp := Keeps.trans kp k62
              refine st_val (ex_not rfl) (by decide) ⟨_, rfl, (congrArg (fun b => some (Value.bool b)) t59)⟩ ?_
              refine st_val (ex_pick_f (congrArg (fun b => some (Value.bool b)) t59) rfl) (by decide) trivial ?_
              have hq492 := Option.some.inj hq49
              refine wpF_end (r := [(3, (.pointer (some ⟨b11, 0, none⟩))), (4, (.pointer (some ⟨b16, 0, none⟩))), (7, v24), (8, v27), (9, (.int .i64 i31)), (10, v47), (19, u2), (20, (.int .i64 (p2.length : Int))), (21, (.int .i64 i31)), (42, (.bool (!x60)))]) ⟨rfl, rfl, rfl, rfl, rfl, rfl, rfl, rfl, rfl, rfl, trivial⟩ ?_
              subst hq492
              refine np_norm (fun a ha => ⟨ha, kp⟩)
        rintro a68 w50 ⟨ha, k66⟩
        have s67 := k66.stp 999 o29
        replace h25 := h25.stp s67 (by decide) (by decide)
        replace h28 := h28.stp s67 (by decide) (by decide)
        replace h12 := h12.stp s67 (by decide)
        replace h17 := h17.stp s67 (by decide)
        replace hB := hB.stp s67 (by decide)
        refine wl_of ha ?_
        refine wpF_end (r := [(3, (.pointer (some ⟨b11, 0, none⟩))), (4, (.pointer (some ⟨b16, 0, none⟩))), (7, v24), (8, v27), (9, (.int .i64 i31)), (10, v47), (19, u2), (20, (.int .i64 (p2.length : Int))), (21, (.int .i64 i31)), (42, (.bool q49))]) ⟨rfl, rfl, rfl, rfl, rfl, rfl, rfl, rfl, rfl, rfl, trivial⟩ ?_
        refine nx ?_
        refine wpC_cond rfl (fun t69 => ?_) (fun t69 => ?_)
        · rw [if_pos t69] at b38
          refine wpC_seq ?_
          refine wpC_region ?_
          refine st_val (ex_assign rfl) (by decide) trivial ?_
          refine wpF_end (r := [(6, (.bool false))]) ⟨rfl, trivial⟩ ?_
          refine nx ?_
          refine wpC_ret ?_
          refine nt_ret ?_
          refine nb_ret ?_
          refine nt_ret ?_
          refine nt_ret ?_
          refine nb_ret ?_
          refine np_ret ?_
          have e70 := Option.some.inj b38
          subst e70
          refine fun a ha => ⟨_, n39, ?_⟩
          refine ret_post (P := Try.prog) (vs := [(.bool false)]) Try.results92 ⟨rfl, trivial⟩ ?_ a ha
          exact ⟨rfl, hB.keeps⟩
        · rw [if_neg (by rw [t69]; decide)] at b38
          refine wpC_skip ?_
          refine nx ?_
          refine wpC_region ?_
          refine st_val (ex_move rfl) (by decide) trivial ?_
          refine st_val (ex_field rfl Try.underlying29 rfl Try.sizeOf22) (by decide) trivial ?_
          refine st_val (ex_load1 rfl Try.isAgg22 (h12.cell rfl)) (by decide) trivial ?_
          refine st_val (ex_move rfl) (by decide) trivial ?_
          obtain ⟨x71, hx71, b38⟩ := bind_some b38
          refine st_op (by decide) trivial ?_
          refine wf_atZ h2 hx71 hB rfl rfl Try.underlying22 Try.sizeOf25 ?_
          intro b72 f73 c74 h75 h76
          obtain ⟨v77, rfl, h78⟩ := h76
          refine st_val (ex_load1 rfl Try.isAgg25 (cell_of_cells h75)) (by decide) trivial ?_
          obtain ⟨x79, hx79, b38⟩ := bind_some b38
          refine st_op (by decide) trivial ?_
          refine wf_catZ h25 (h78.keep hB.keeps) hx79 (by decide) hB.keeps.size (fun _ _ h => h) rfl rfl Try.underlying25 info2_t_int_U rfl (by decide) ?_
          intro o80 w81 v82 h83 s84
          replace h28 := h28.stp s84 (by decide) (by decide)
          replace h12 := h12.stp s84 (by decide)
          replace h17 := h17.stp s84 (by decide)
          replace hB := hB.stp s84 (by decide)
          refine st_val (ex_move rfl) (by decide) trivial ?_
          refine st_val (ex_move rfl) (by decide) trivial ?_
          obtain ⟨x85, hx85, b38⟩ := bind_some b38
          refine st_op (by decide) trivial ?_
          refine wf_catZ h28 (h48.keep hB.keeps) hx85 (by decide) hB.keeps.size (fun _ _ h => h) rfl rfl Try.underlying25 info2_t_int_U rfl (by decide) ?_
          intro o86 w87 v88 h89 s90
          replace h83 := h83.stp s90 (by decide) (by decide)
          replace h12 := h12.stp s90 (by decide)
          replace h17 := h17.stp s90 (by decide)
          replace hB := hB.stp s90 (by decide)
          refine st_val (ex_assign rfl) (by decide) trivial ?_
          refine st_val (ex_assign rfl) (by decide) trivial ?_
          refine wpF_end (r := [(3, (.pointer (some ⟨b11, 0, none⟩))), (4, (.pointer (some ⟨b16, 0, none⟩))), (7, v82), (8, v88), (19, u2), (20, (.int .i64 (p2.length : Int))), (21, (.int .i64 i31))]) ⟨rfl, rfl, rfl, rfl, rfl, rfl, rfl, trivial⟩ ?_
          refine nb_norm ?_
          refine nx ?_
          refine wpC_region ?_
          refine st_val (ex_add rfl rfl (ck_in (by omega) (by omega))) (by decide) trivial ?_
          refine st_val (ex_move rfl) (by decide) trivial ?_
          refine wpF_end (r := [(3, (.pointer (some ⟨b11, 0, none⟩))), (4, (.pointer (some ⟨b16, 0, none⟩))), (7, v82), (8, v88), (19, u2), (20, (.int .i64 (p2.length : Int))), (21, (.int .i64 (i31 + 1)))]) ⟨rfl, rfl, rfl, rfl, rfl, rfl, rfl, trivial⟩ ?_
          refine nt_norm ?_
          have e91 := Option.some.inj b38
          subst e91
          refine to_k (r := [(3, (.pointer (some ⟨b11, 0, none⟩))), (4, (.pointer (some ⟨b16, 0, none⟩))), (7, v82), (8, v88), (19, u2), (20, (.int .i64 (p2.length : Int))), (21, (.int .i64 (i31 + 1)))]) ⟨rfl, rfl, rfl, rfl, rfl, rfl, rfl, trivial⟩ ?_
          intro a ha
          exact ⟨_, (by rw [← m35]; simp only [List.length_drop]; omega), i31 + 1, x79, x85, v82, v88, o86, n39, rfl, (by omega), ha, hB, h83, h89, h12, h17⟩
      · have r92 := forI_done t40 l33
        refine wp_of ha ?_
        refine wpC_seq ?_
        refine wpC_region ?_
        refine st_val (ex_lss rfl rfl) (by decide) trivial ?_
        refine wpF_end (r := [(3, (.pointer (some ⟨b11, 0, none⟩))), (4, (.pointer (some ⟨b16, 0, none⟩))), (7, v24), (8, v27), (19, u2), (20, (.int .i64 (p2.length : Int))), (21, (.int .i64 i31)), (22, (.bool (decide (i31 < (p2.length : Int)))))]) ⟨rfl, rfl, rfl, rfl, rfl, rfl, rfl, rfl, trivial⟩ ?_
        refine nx ?_
        refine wpC_seq ?_
        refine wpC_false (congrArg (fun b => some (Value.bool b)) (decide_eq_false t40)) ?_
        refine wpC_exit ?_
        refine nt_exit ?_
        refine nt_exit ?_
        refine nb_hit ?_
        refine np_norm ?_
        refine to_k (r := [(3, (.pointer (some ⟨b11, 0, none⟩))), (4, (.pointer (some ⟨b16, 0, none⟩))), (7, v24), (8, v27)]) ⟨rfl, rfl, rfl, rfl, trivial⟩ ?_
        intro a ha
        exact ⟨y23, y26, v24, v27, o29, r92, ha, hB, h25, h28, h12, h17⟩
    · rintro a w30 ⟨y23, y26, v24, v27, o29, rfl, ha, hB, h25, h28, h12, h17⟩
      dsimp only at hF
      refine ap_k ha ?_
      refine nx ?_
      refine wpC_seq ?_
      refine wpC_seq ?_
      refine wpC_region ?_
      refine st_val (ex_move rfl) (by decide) trivial ?_
      refine st_val (ex_lenO rfl h25 Try.underlying25) (by decide) trivial ?_
      refine st_val (ex_move rfl) (by decide) trivial ?_
      refine wpF_end (r := [(3, (.pointer (some ⟨b11, 0, none⟩))), (4, (.pointer (some ⟨b16, 0, none⟩))), (7, v24), (8, v27), (55, (.int .i64 (y23.length : Int))), (56, (.int .i64 0))]) ⟨rfl, rfl, rfl, rfl, rfl, rfl, trivial⟩ ?_
      refine nx ?_
      obtain ⟨u98, h97, hF⟩ := bind_some hF
      obtain ⟨-, h97a, h97b⟩ := ck_some h97
      obtain ⟨q96, hq96, hF⟩ := bind_some hF
      refine wpC_cutN (fun a w94 => ∃ (o93 : Tg), q96 = .inl () ∧ Fr a 90 [] ∧ Bs (fun _ => 1) o93 w w94) (fun a w' => ∃ r', q96 = .inr r' ∧ bodyPost Try.prog Try.f92 (pI_isConfigMap w r') .ret a w') ?_ ?_ ?_
      · refine wpC_block ?_
        refine wpC_loop (fun (K : Nat) a w94 => ∃ (i95 : Int) (o93 : Tg), forN (fI_isConfigMap_s2 fuel p0 p1 y23 y26) ((y23.length : Int) - i95).toNat i95 () = some q96 ∧ ((y23.length : Int) - i95).toNat = K ∧ 0 ≤ i95 ∧ Fr a 90 [(3, (.pointer (some ⟨b11, 0, none⟩))), (4, (.pointer (some ⟨b16, 0, none⟩))), (7, v24), (8, v27), (55, (.int .i64 (y23.length : Int))), (56, (.int .i64 i95))] ∧ Bs (fun _ => 1) o93 w w94 ∧ Ow w.heap.size 3 13 o93 w94 v24 y23 ∧ Ow w.heap.size 3 14 o93 w94 v27 y26 ∧ Bx w.heap.size 11 o93 w94 b11 29 [(.int .i64 p0.Labels), (.int .i64 p0.Degree), v1, v3] ∧ Bx w.heap.size 12 o93 w94 b16 29 [(.int .i64 p1.Labels), (.int .i64 p1.Degree), v5, v7]) _ (fun a ha => ⟨0, o29, (by rw [Int.sub_zero]; exact hq96), rfl, Int.le_refl 0, ha.sub (r := [(3, (.pointer (some ⟨b11, 0, none⟩))), (4, (.pointer (some ⟨b16, 0, none⟩))), (7, v24), (8, v27), (55, (.int .i64 (y23.length : Int))), (56, (.int .i64 0))]) ⟨rfl, rfl, rfl, rfl, rfl, rfl, trivial⟩, hB, h25, h28, h12, h17⟩) ?_
        rintro K102 a w94 ⟨i95, o93, l99, m101, z100, ha, hB, h25, h28, h12, h17⟩
        by_cases t106 : i95 < (y23.length : Int)
        · obtain ⟨q103, b104, n105⟩ := forN_cons t106 l99
          dsimp only [fI_isConfigMap_s2] at b104
          refine wp_of ha ?_
          refine wpC_seq ?_
          refine wpC_region ?_
          refine st_val (ex_lss rfl rfl) (by decide) trivial ?_
          refine wpF_end (r := [(3, (.pointer (some ⟨b11, 0, none⟩))), (4, (.pointer (some ⟨b16, 0, none⟩))), (7, v24), (8, v27), (55, (.int .i64 (y23.length : Int))), (56, (.int .i64 i95)), (57, (.bool (decide (i95 < (y23.length : Int)))))]) ⟨rfl, rfl, rfl, rfl, rfl, rfl, rfl, trivial⟩ ?_
          refine nx ?_
          refine wpC_seq ?_
          refine wpC_true (congrArg (fun b => some (Value.bool b)) (decide_eq_true t106)) ?_
          refine wpC_skip ?_
          refine nx ?_
          refine wpC_seq ?_
          refine wpC_block ?_
          refine wpC_seq ?_
          refine wpC_region ?_
          refine st_val (ex_move rfl) (by decide) trivial ?_
          refine st_val (ex_assign rfl) (by decide) trivial ?_
          refine wpF_end (r := [(3, (.pointer (some ⟨b11, 0, none⟩))), (4, (.pointer (some ⟨b16, 0, none⟩))), (7, v24), (8, v27), (11, (.int .i64 i95)), (55, (.int .i64 (y23.length : Int))), (56, (.int .i64 i95))]) ⟨rfl, rfl, rfl, rfl, rfl, rfl, rfl, trivial⟩ ?_
          refine nx ?_
          refine wpC_seq ?_
          refine wpC_region ?_
          refine st_val (ex_move rfl) (by decide) trivial ?_
          refine st_val (ex_assign rfl) (by decide) trivial ?_
          refine wpF_end (r := [(3, (.pointer (some ⟨b11, 0, none⟩))), (4, (.pointer (some ⟨b16, 0, none⟩))), (7, v24), (8, v27), (11, (.int .i64 i95)), (12, (.int .i64 i95)), (55, (.int .i64 (y23.length : Int))), (56, (.int .i64 i95))]) ⟨rfl, rfl, rfl, rfl, rfl, rfl, rfl, rfl, trivial⟩ ?_
          refine nx ?_
          obtain ⟨q110, hq110, b104⟩ := bind_some b104
          refine wpC_cutN (fun a w109 => ∃ (y107 : Int) (o108 : Tg), q110 = .inl y107 ∧ Fr a 90 [(3, (.pointer (some ⟨b11, 0, none⟩))), (4, (.pointer (some ⟨b16, 0, none⟩))), (7, v24), (8, v27), (55, (.int .i64 (y23.length : Int))), (56, (.int .i64 i95))] ∧ Bs (fun _ => 1) o108 w w109 ∧ Ow w.heap.size 3 13 o108 w109 v24 y23 ∧ Ow w.heap.size 3 14 o108 w109 v27 y26 ∧ Bx w.heap.size 11 o108 w109 b11 29 [(.int .i64 p0.Labels), (.int .i64 p0.Degree), v1, v3] ∧ Bx w.heap.size 12 o108 w109 b16 29 [(.int .i64 p1.Labels), (.int .i64 p1.Degree), v5, v7]) (fun a w' => ∃ r', q110 = .inr r' ∧ bodyPost Try.prog Try.f92 (pI_isConfigMap w r') .ret a w') ?_ ?_ ?_
          · refine wpC_block ?_
            refine wpC_loop (fun (K : Nat) a w109 => ∃ (y107 : Int) (o108 : Tg), loopF (fI_isConfigMap_s3 fuel p0 p1 y23 y26 i95) K y107 = some q110 ∧ Fr a 90 [(3, (.pointer (some ⟨b11, 0, none⟩))), (4, (.pointer (some ⟨b16, 0, none⟩))), (7, v24), (8, v27), (11, (.int .i64 i95)), (12, (.int .i64 y107)), (55, (.int .i64 (y23.length : Int))), (56, (.int .i64 i95))] ∧ Bs (fun _ => 1) o108 w w109 ∧ Ow w.heap.size 3 13 o108 w109 v24 y23 ∧ Ow w.heap.size 3 14 o108 w109 v27 y26 ∧ Bx w.heap.size 11 o108 w109 b11 29 [(.int .i64 p0.Labels), (.int .i64 p0.Degree), v1, v3] ∧ Bx w.heap.size 12 o108 w109 b16 29 [(.int .i64 p1.Labels), (.int .i64 p1.Degree), v5, v7]) fuel (fun a ha => ⟨i95, o93, hq110, ha.sub (r := [(3, (.pointer (some ⟨b11, 0, none⟩))), (4, (.pointer (some ⟨b16, 0, none⟩))), (7, v24), (8, v27), (11, (.int .i64 i95)), (12, (.int .i64 i95)), (55, (.int .i64 (y23.length : Int))), (56, (.int .i64 i95))]) ⟨rfl, rfl, rfl, rfl, rfl, rfl, rfl, rfl, trivial⟩, hB, h25, h28, h12, h17⟩) ?_
            rintro K114 a w109 ⟨y107, o108, l111, ha, hB, h25, h28, h12, h17⟩
            obtain ⟨K118, q115, e119, b116, n117⟩ := loopF_cons l111
            dsimp only [fI_isConfigMap_s3] at b116
            refine wp_of ha ?_
            refine wpC_seq ?_
            refine wpC_seq ?_
            refine wpC_region ?_
            refine st_val (ex_move rfl) (by decide) trivial ?_
            refine st_val (ex_move rfl) (by decide) trivial ?_
            refine st_val (ex_lenO rfl h25 Try.underlying25) (by decide) trivial ?_
            refine st_val (ex_lss rfl rfl) (by decide) trivial ?_
            refine wpF_end (r := [(3, (.pointer (some ⟨b11, 0, none⟩))), (4, (.pointer (some ⟨b16, 0, none⟩))), (7, v24), (8, v27), (11, (.int .i64 i95)), (12, (.int .i64 y107)), (55, (.int .i64 (y23.length : Int))), (56, (.int .i64 i95)), (63, (.bool (decide (y107 < (y23.length : Int)))))]) ⟨rfl, rfl, rfl, rfl, rfl, rfl, rfl, rfl, rfl, trivial⟩ ?_
            refine nx ?_
            refine wpC_cond rfl (fun t120 => ?_) (fun t120 => ?_)
            · rw [if_pos t120] at b116
              refine wpC_skip ?_
              refine nx ?_
              refine wpC_seq ?_
              refine wpC_block ?_
              refine wpC_seq ?_
              obtain ⟨q121, hq121, b116⟩ := bind_some b116
              refine wpC_cutN (fun a124 w123 => ∃ o122 : Tg, Fr a124 90 [(3, (.pointer (some ⟨b11, 0, none⟩))), (4, (.pointer (some ⟨b16, 0, none⟩))), (7, v24), (8, v27), (11, (.int .i64 i95)), (12, (.int .i64 y107)), (55, (.int .i64 (y23.length : Int))), (56, (.int .i64 i95)), (88, (.bool q121))] ∧ Bs (fun _ => 1) o122 w w123 ∧ Ow w.heap.size 3 13 o122 w123 v24 y23 ∧ Ow w.heap.size 3 14 o122 w123 v27 y26 ∧ Bx w.heap.size 11 o122 w123 b11 29 [(.int .i64 p0.Labels), (.int .i64 p0.Degree), v1, v3] ∧ Bx w.heap.size 12 o122 w123 b16 29 [(.int .i64 p1.Labels), (.int .i64 p1.Degree), v5, v7]) (fun _ _ => False) ?_ ?_ (fun _ _ h => h.elim)
              · obtain ⟨x125, hx125, hq121⟩ := bind_some hq121
                obtain ⟨x128, hx128, hq121⟩ := bind_some hq121
                obtain ⟨x131, hx131, hq121⟩ := bind_some hq121
                rcases Bool.eq_false_or_eq_true (x131) with t137 | t137
                · rw [if_pos t137] at hq121
                  obtain ⟨x138, hx138, hq121⟩ := bind_some hq121
                  obtain ⟨x141, hx141, hq121⟩ := bind_some hq121
                  refine wpC_drawn (o := o108) [(3, (.pointer (some ⟨b11, 0, none⟩))), (4, (.pointer (some ⟨b16, 0, none⟩))), (7, v24), (8, v27), (11, (.int .i64 i95)), (12, (.int .i64 y107)), (55, (.int .i64 (y23.length : Int))), (56, (.int .i64 i95))] [3, 4, 7, 8, 11, 12, 55, 56] [66, 67, 68, 69, 70, 71, 72, 73, 74, 75, 76, 77, 78, 79, 80, 81, 82, 83, 84, 85] [[], [], [], [1, 2], [3], [], [], [5, 6], [7], [0, 4, 8], [9], [10], [10], [10], [10, 12, 13], [10, 14], [10], [10], [10, 16, 17], [10, 18]] [none, none, none, none, none, none, none, none, none, none, none, none, none, none, none, none, none, none, none, none] [999, 999, 999, 999, 999, 999, 999, 999, 999, 999, 999, 999, 999, 999, 999, 999, 999, 999, 999, 999] [0, 0, 0, 13, 0, 0, 0, 13, 0, 0, 0, 0, 0, 0, 14, 0, 0, 0, 14, 0] [999] [fun v _ _ => v = (.agg #[(.int .i64 p0.Labels), (.int .i64 p0.Degree), v1, v3]), fun v _ _ => v = v24, fun v _ _ => v = (.int .i64 i95), fun v o w9 => ∃ vl, v = adr vl (i95.toNat * Rp.sz Int) ∧ Ow w.heap.size 3 13 o w9 vl y23, fun v _ _ => v = (.int .i64 x125), fun v _ _ => v = v24, fun v _ _ => v = (.int .i64 y107), fun v o w9 => ∃ vl, v = adr vl (y107.toNat * Rp.sz Int) ∧ Ow w.heap.size 3 13 o w9 vl y23, fun v _ _ => v = (.int .i64 x128), fun v _ _ => v = (.bool x131), fun v _ _ => v = (.bool x131), fun v _ _ => v = (.agg #[(.int .i64 p1.Labels), (.int .i64 p1.Degree), v5, v7]), fun v _ _ => v = v27, fun v _ _ => v = (.int .i64 i95), fun v o w9 => ∃ vl, v = adr vl (i95.toNat * Rp.sz Int) ∧ Ow w.heap.size 3 14 o w9 vl y26, fun v _ _ => v = (.int .i64 x138), fun v _ _ => v = v27, fun v _ _ => v = (.int .i64 y107), fun v o w9 => ∃ vl, v = adr vl (y107.toNat * Rp.sz Int) ∧ Ow w.heap.size 3 14 o w9 vl y26, fun v _ _ => v = (.int .i64 x141)] (fun o8 w8 => Bs (fun _ => 1) o8 w w8 ∧ Ow w.heap.size 3 13 o8 w8 v24 y23 ∧ Ow w.heap.size 3 14 o8 w8 v27 y26 ∧ Bx w.heap.size 11 o8 w8 b11 29 [(.int .i64 p0.Labels), (.int .i64 p0.Degree), v1, v3] ∧ Bx w.heap.size 12 o8 w8 b16 29 [(.int .i64 p1.Labels), (.int .i64 p1.Degree), v5, v7]) follows_mixed (by kernel_rfl) rfl ⟨rfl, rfl, rfl, rfl, rfl, rfl, rfl, rfl, trivial⟩ ⟨hB, h25, h28, h12, h17⟩ ?_ ⟨st_eq _, st_eq _, st_eq _, fun _ _ _ _ _ _ h0 hb ⟨vl, e, h⟩ hs => ⟨vl, e, h.stp hs h0.1 (Ne.symm hb)⟩, st_eq _, st_eq _, st_eq _, fun _ _ _ _ _ _ h0 hb ⟨vl, e, h⟩ hs => ⟨vl, e, h.stp hs h0.1 (Ne.symm hb)⟩, st_eq _, st_eq _, st_eq _, st_eq _, st_eq _, st_eq _, fun _ _ _ _ _ _ h0 hb ⟨vl, e, h⟩ hs => ⟨vl, e, h.stp hs h0.1 (Ne.symm hb)⟩, st_eq _, st_eq _, st_eq _, fun _ _ _ _ _ _ h0 hb ⟨vl, e, h⟩ hs => ⟨vl, e, h.stp hs h0.1 (Ne.symm hb)⟩, st_eq _, trivial⟩ ?_ ?_
                  · rintro t9 o1 w1 o2 w2 ht9 ⟨hB, h25, h28, h12, h17⟩ hs9
                    have ht9 : t9 = 999 := by simpa using ht9
                    subst ht9
                    all_goals exact ⟨hB.stp hs9 (by decide), h25.stp hs9 (by decide) (by decide), h28.stp hs9 (by decide) (by decide), h12.stp hs9 (by decide), h17.stp hs9 (by decide)⟩
                  · refine ⟨?_, ?_, ?_, ?_, ?_, ?_, ?_, ?_, ?_, ?_, ?_, ?_, ?_, ?_, ?_, ?_, ?_, ?_, ?_, ?_, trivial⟩
                    · rintro o144 w145 a146 ha ⟨hB, h25, h28, h12, h17⟩ -
                      refine opS_of ha (trivial) ?_
                      refine op1_val (ex_loadA rfl Try.isAgg29 Try.sizeOf29 rfl h12.cells) ?_
                      exact ⟨_, Stp.refl _ _ _, rfl⟩
                    · rintro o147 w148 a149 ha ⟨hB, h25, h28, h12, h17⟩ -
                      refine opS_of ha (trivial) ?_
                      refine op1_val (ex_move rfl) ?_
                      exact ⟨_, Stp.refl _ _ _, rfl⟩
                    · rintro o150 w151 a152 ha ⟨hB, h25, h28, h12, h17⟩ -
                      refine opS_of ha (trivial) ?_
                      refine op1_val (ex_move rfl) ?_
                      exact ⟨_, Stp.refl _ _ _, rfl⟩
                    · rintro o153 w154 a155 ha ⟨hB, h25, h28, h12, h17⟩ ⟨r156, r157, -⟩
                      have ha := Fr.cons (d := 67) ha r156
                      have ha := Fr.cons (d := 68) ha r157
                      refine opS_of ha (trivial) ?_
                      refine wd_indexW h25 hx125 rfl rfl Try.underlying25 Try.sizeOf3 ?_
                      exact ⟨_, Stp.refl _ _ _, ⟨_, rfl, h25⟩⟩
                    · rintro o158 w159 a160 ha ⟨hB, h25, h28, h12, h17⟩ ⟨r161, -⟩
                      obtain ⟨v162, e163, h164⟩ := r161
                      have ha := Fr.cons (d := 69) ha e163
                      refine opS_of ha (trivial) ?_
                      refine wd_load1W h164 hx125 rfl rfl Try.isAgg3 ?_
                      intro c165 h166
                      cases h166
                      exact ⟨_, Stp.refl _ _ _, rfl⟩
                    · rintro o167 w168 a169 ha ⟨hB, h25, h28, h12, h17⟩ -
                      refine opS_of ha (trivial) ?_
                      refine op1_val (ex_move rfl) ?_
                      exact ⟨_, Stp.refl _ _ _, rfl⟩
                    · rintro o170 w171 a172 ha ⟨hB, h25, h28, h12, h17⟩ -
                      refine opS_of ha (trivial) ?_
                      refine op1_val (ex_move rfl) ?_
                      exact ⟨_, Stp.refl _ _ _, rfl⟩
                    · rintro o173 w174 a175 ha ⟨hB, h25, h28, h12, h17⟩ ⟨r176, r177, -⟩
                      have ha := Fr.cons (d := 71) ha r176
                      have ha := Fr.cons (d := 72) ha r177
                      refine opS_of ha (trivial) ?_
                      refine wd_indexW h25 hx128 rfl rfl Try.underlying25 Try.sizeOf3 ?_
                      exact ⟨_, Stp.refl _ _ _, ⟨_, rfl, h25⟩⟩
                    · rintro o178 w179 a180 ha ⟨hB, h25, h28, h12, h17⟩ ⟨r181, -⟩
                      obtain ⟨v182, e183, h184⟩ := r181
                      have ha := Fr.cons (d := 73) ha e183
                      refine opS_of ha (trivial) ?_
                      refine wd_load1W h184 hx128 rfl rfl Try.isAgg3 ?_
                      intro c185 h186
                      cases h186
                      exact ⟨_, Stp.refl _ _ _, rfl⟩
                    · rintro o187 w188 a189 ha ⟨hB, h25, h28, h12, h17⟩ ⟨r190, r191, r192, -⟩
                      have ha := Fr.cons (d := 66) ha r190
                      have ha := Fr.cons (d := 70) ha r191
                      have ha := Fr.cons (d := 74) ha r192
                      refine opS_of ha (trivial) ?_
                      refine wf_call (cI_Problem_edge fuel w188 _ p0 (⟨_, _, rfl, (h2.keep hB.keeps), (h4.keep hB.keeps)⟩) x125 x128 x131 hx131) Try.call119 ⟨rfl, rfl, rfl, trivial⟩ ?_
                      rintro e197 w193 ⟨rfl, k194⟩
                      have s196 := k194.stp 999 o187
                      refine ⟨_, rfl, ?_⟩
                      replace h25 := h25.stp s196 (by decide) (by decide)
                      replace h28 := h28.stp s196 (by decide) (by decide)
                      replace h12 := h12.stp s196 (by decide)
                      replace h17 := h17.stp s196 (by decide)
                      replace hB := hB.stp s196 (by decide)
                      exact ⟨_, s196, rfl⟩
                    · rintro o198 w199 a200 ha ⟨hB, h25, h28, h12, h17⟩ ⟨r201, -⟩
                      have ha := Fr.cons (d := 75) ha r201
                      refine opS_of ha (trivial) ?_
                      refine op1_val (ex_move rfl) ?_
                      exact ⟨_, Stp.refl _ _ _, rfl⟩
                    · rintro o202 w203 a204 ha ⟨hB, h25, h28, h12, h17⟩ ⟨r205, -⟩
                      have ha := Fr.cons (d := 76) ha r205
                      refine opS_of ha (⟨_, rfl, (congrArg (fun b => some (Value.bool b)) t137)⟩) ?_
                      refine op1_val (ex_loadA rfl Try.isAgg29 Try.sizeOf29 rfl h17.cells) ?_
                      exact ⟨_, Stp.refl _ _ _, rfl⟩
                    · rintro o206 w207 a208 ha ⟨hB, h25, h28, h12, h17⟩ ⟨r209, -⟩
                      have ha := Fr.cons (d := 76) ha r209
                      refine opS_of ha (⟨_, rfl, (congrArg (fun b => some (Value.bool b)) t137)⟩) ?_
                      refine op1_val (ex_move rfl) ?_
                      exact ⟨_, Stp.refl _ _ _, rfl⟩
                    · rintro o210 w211 a212 ha ⟨hB, h25, h28, h12, h17⟩ ⟨r213, -⟩
                      have ha := Fr.cons (d := 76) ha r213
                      refine opS_of ha (⟨_, rfl, (congrArg (fun b => some (Value.bool b)) t137)⟩) ?_
                      refine op1_val (ex_move rfl) ?_
                      exact ⟨_, Stp.refl _ _ _, rfl⟩
                    · rintro o214 w215 a216 ha ⟨hB, h25, h28, h12, h17⟩ ⟨r217, r218, r219, -⟩
                      have ha := Fr.cons (d := 76) ha r217
                      have ha := Fr.cons (d := 78) ha r218
                      have ha := Fr.cons (d := 79) ha r219
                      refine opS_of ha (⟨_, rfl, (congrArg (fun b => some (Value.bool b)) t137)⟩) ?_
                      refine wd_indexW h28 hx138 rfl rfl Try.underlying25 Try.sizeOf3 ?_
                      exact ⟨_, Stp.refl _ _ _, ⟨_, rfl, h28⟩⟩
                    · rintro o220 w221 a222 ha ⟨hB, h25, h28, h12, h17⟩ ⟨r223, r224, -⟩
                      have ha := Fr.cons (d := 76) ha r223
                      obtain ⟨v225, e226, h227⟩ := r224
                      have ha := Fr.cons (d := 80) ha e226
                      refine opS_of ha (⟨_, rfl, (congrArg (fun b => some (Value.bool b)) t137)⟩) ?_
                      refine wd_load1W h227 hx138 rfl rfl Try.isAgg3 ?_
                      intro c228 h229
                      cases h229
                      exact ⟨_, Stp.refl _ _ _, rfl⟩
                    · rintro o230 w231 a232 ha ⟨hB, h25, h28, h12, h17⟩ ⟨r233, -⟩
                      have ha := Fr.cons (d := 76) ha r233
                      refine opS_of ha (⟨_, rfl, (congrArg (fun b => some (Value.bool b)) t137)⟩) ?_
                      refine op1_val (ex_move rfl) ?_
                      exact ⟨_, Stp.refl _ _ _, rfl⟩
                    · rintro o234 w235 a236 ha ⟨hB, h25, h28, h12, h17⟩ ⟨r237, -⟩
                      have ha := Fr.cons (d := 76) ha r237
                      refine opS_of ha (⟨_, rfl, (congrArg (fun b => some (Value.bool b)) t137)⟩) ?_
                      refine op1_val (ex_move rfl) ?_
                      exact ⟨_, Stp.refl _ _ _, rfl⟩
                    · rintro o238 w239 a240 ha ⟨hB, h25, h28, h12, h17⟩ ⟨r241, r242, r243, -⟩
                      have ha := Fr.cons (d := 76) ha r241
                      have ha := Fr.cons (d := 82) ha r242
                      have ha := Fr.cons (d := 83) ha r243
                      refine opS_of ha (⟨_, rfl, (congrArg (fun b => some (Value.bool b)) t137)⟩) ?_
                      refine wd_indexW h28 hx141 rfl rfl Try.underlying25 Try.sizeOf3 ?_
                      exact ⟨_, Stp.refl _ _ _, ⟨_, rfl, h28⟩⟩
                    · rintro o244 w245 a246 ha ⟨hB, h25, h28, h12, h17⟩ ⟨r247, r248, -⟩
                      have ha := Fr.cons (d := 76) ha r247
                      obtain ⟨v249, e250, h251⟩ := r248
                      have ha := Fr.cons (d := 84) ha e250
                      refine opS_of ha (⟨_, rfl, (congrArg (fun b => some (Value.bool b)) t137)⟩) ?_
                      refine wd_load1W h251 hx141 rfl rfl Try.isAgg3 ?_
                      intro c252 h253
                      cases h253
                      exact ⟨_, Stp.refl _ _ _, rfl⟩
                  rintro o254 w255 a256 ha ⟨hB, h25, h28, h12, h17⟩ ⟨-, -, -, -, -, -, -, -, -, -, r257, r258, -, -, -, r259, -, -, -, r260, -⟩
                  have ha := Fr.cons (d := 76) ha r257
                  have ha := Fr.cons (d := 77) ha r258
                  have ha := Fr.cons (d := 81) ha r259
                  have ha := Fr.cons (d := 85) ha r260
                  refine wl_of ha ?_
                  simp only [List.length_cons, List.length_nil, Nat.zero_add, Nat.reduceAdd, List.drop_succ_cons, List.drop_zero]
                  obtain ⟨x261, hx261, hq121⟩ := bind_some hq121
                  refine st_op (by decide) ⟨_, rfl, (congrArg (fun b => some (Value.bool b)) t137)⟩ ?_
                  refine wf_call (cI_Problem_edge fuel w255 _ p1 (⟨_, _, rfl, (h6.keep hB.keeps), (h8.keep hB.keeps)⟩) x138 x141 x261 hx261) Try.call119 ⟨rfl, rfl, rfl, trivial⟩ ?_
                  rintro e266 w262 ⟨rfl, k263⟩
                  have s265 := k263.stp 999 o254
                  refine ⟨_, rfl, ?_⟩
                  replace h25 := h25.stp s265 (by decide) (by decide)
                  replace h28 := h28.stp s265 (by decide) (by decide)
                  replace h12 := h12.stp s265 (by decide)
                  replace h17 := h17.stp s265 (by decide)
                  replace hB := hB.stp s265 (by decide)
                  refine st_val (ex_not rfl) (by decide) ⟨_, rfl, (congrArg (fun b => some (Value.bool b)) t137)⟩ ?_
                  refine st_val (ex_pick_t (congrArg (fun b => some (Value.bool b)) t137) rfl) (by decide) trivial ?_
                  have e267 := Option.some.inj hq121
                  subst e267
                  refine wpF_end (r := [(3, (.pointer (some ⟨b11, 0, none⟩))), (4, (.pointer (some ⟨b16, 0, none⟩))), (7, v24), (8, v27), (11, (.int .i64 i95)), (12, (.int .i64 y107)), (55, (.int .i64 (y23.length : Int))), (56, (.int .i64 i95)), (88, (.bool (!x261)))]) ⟨rfl, rfl, rfl, rfl, rfl, rfl, rfl, rfl, rfl, trivial⟩ ?_
                  refine np_norm (fun a ha => ⟨o254, ha, hB, h25, h28, h12, h17⟩)
                · rw [if_neg (by rw [t137]; decide)] at hq121
                  refine wpC_drawn (o := o108) [(3, (.pointer (some ⟨b11, 0, none⟩))), (4, (.pointer (some ⟨b16, 0, none⟩))), (7, v24), (8, v27), (11, (.int .i64 i95)), (12, (.int .i64 y107)), (55, (.int .i64 (y23.length : Int))), (56, (.int .i64 i95))] [3, 4, 7, 8, 11, 12, 55, 56] [66, 67, 68, 69, 70, 71, 72, 73, 74, 75, 76, 77, 78, 79, 80, 81, 82, 83, 84, 85] [[], [], [], [1, 2], [3], [], [], [5, 6], [7], [0, 4, 8], [9], [10], [10], [10], [10], [10], [10], [10], [10], [10]] [none, none, none, none, none, none, none, none, none, none, none, none, none, none, none, none, none, none, none, none] [999, 999, 999, 999, 999, 999, 999, 999, 999, 999, 999, 999, 999, 999, 999, 999, 999, 999, 999, 999] [0, 0, 0, 13, 0, 0, 0, 13, 0, 0, 0, 0, 0, 0, 0, 0, 0, 0, 0, 0] [999] [fun v _ _ => v = (.agg #[(.int .i64 p0.Labels), (.int .i64 p0.Degree), v1, v3]), fun v _ _ => v = v24, fun v _ _ => v = (.int .i64 i95), fun v o w9 => ∃ vl, v = adr vl (i95.toNat * Rp.sz Int) ∧ Ow w.heap.size 3 13 o w9 vl y23, fun v _ _ => v = (.int .i64 x125), fun v _ _ => v = v24, fun v _ _ => v = (.int .i64 y107), fun v o w9 => ∃ vl, v = adr vl (y107.toNat * Rp.sz Int) ∧ Ow w.heap.size 3 13 o w9 vl y23, fun v _ _ => v = (.int .i64 x128), fun v _ _ => v = (.bool x131), fun v _ _ => v = (.bool x131), fun v _ _ => v = undef, fun v _ _ => v = undef, fun v _ _ => v = undef, fun v _ _ => v = undef, fun v _ _ => v = undef, fun v _ _ => v = undef, fun v _ _ => v = undef, fun v _ _ => v = undef, fun v _ _ => v = undef] (fun o8 w8 => Bs (fun _ => 1) o8 w w8 ∧ Ow w.heap.size 3 13 o8 w8 v24 y23 ∧ Ow w.heap.size 3 14 o8 w8 v27 y26 ∧ Bx w.heap.size 11 o8 w8 b11 29 [(.int .i64 p0.Labels), (.int .i64 p0.Degree), v1, v3] ∧ Bx w.heap.size 12 o8 w8 b16 29 [(.int .i64 p1.Labels), (.int .i64 p1.Degree), v5, v7]) follows_mixed (by kernel_rfl) rfl ⟨rfl, rfl, rfl, rfl, rfl, rfl, rfl, rfl, trivial⟩ ⟨hB, h25, h28, h12, h17⟩ ?_ ⟨st_eq _, st_eq _, st_eq _, fun _ _ _ _ _ _ h0 hb ⟨vl, e, h⟩ hs => ⟨vl, e, h.stp hs h0.1 (Ne.symm hb)⟩, st_eq _, st_eq _, st_eq _, fun _ _ _ _ _ _ h0 hb ⟨vl, e, h⟩ hs => ⟨vl, e, h.stp hs h0.1 (Ne.symm hb)⟩, st_eq _, st_eq _, st_eq _, st_eq _, st_eq _, st_eq _, st_eq _, st_eq _, st_eq _, st_eq _, st_eq _, st_eq _, trivial⟩ ?_ ?_
                  · rintro t9 o1 w1 o2 w2 ht9 ⟨hB, h25, h28, h12, h17⟩ hs9
                    have ht9 : t9 = 999 := by simpa using ht9
                    subst ht9
                    all_goals exact ⟨hB.stp hs9 (by decide), h25.stp hs9 (by decide) (by decide), h28.stp hs9 (by decide) (by decide), h12.stp hs9 (by decide), h17.stp hs9 (by decide)⟩
                  · refine ⟨?_, ?_, ?_, ?_, ?_, ?_, ?_, ?_, ?_, ?_, ?_, ?_, ?_, ?_, ?_, ?_, ?_, ?_, ?_, ?_, trivial⟩
                    · rintro o268 w269 a270 ha ⟨hB, h25, h28, h12, h17⟩ -
                      refine opS_of ha (trivial) ?_
                      refine op1_val (ex_loadA rfl Try.isAgg29 Try.sizeOf29 rfl h12.cells) ?_
                      exact ⟨_, Stp.refl _ _ _, rfl⟩
                    · rintro o271 w272 a273 ha ⟨hB, h25, h28, h12, h17⟩ -
                      refine opS_of ha (trivial) ?_
                      refine op1_val (ex_move rfl) ?_
                      exact ⟨_, Stp.refl _ _ _, rfl⟩
                    · rintro o274 w275 a276 ha ⟨hB, h25, h28, h12, h17⟩ -
                      refine opS_of ha (trivial) ?_
                      refine op1_val (ex_move rfl) ?_
                      exact ⟨_, Stp.refl _ _ _, rfl⟩
                    · rintro o277 w278 a279 ha ⟨hB, h25, h28, h12, h17⟩ ⟨r280, r281, -⟩
                      have ha := Fr.cons (d := 67) ha r280
                      have ha := Fr.cons (d := 68) ha r281
                      refine opS_of ha (trivial) ?_
                      refine wd_indexW h25 hx125 rfl rfl Try.underlying25 Try.sizeOf3 ?_
                      exact ⟨_, Stp.refl _ _ _, ⟨_, rfl, h25⟩⟩
                    · rintro o282 w283 a284 ha ⟨hB, h25, h28, h12, h17⟩ ⟨r285, -⟩
                      obtain ⟨v286, e287, h288⟩ := r285
                      have ha := Fr.cons (d := 69) ha e287
                      refine opS_of ha (trivial) ?_
                      refine wd_load1W h288 hx125 rfl rfl Try.isAgg3 ?_
                      intro c289 h290
                      cases h290
                      exact ⟨_, Stp.refl _ _ _, rfl⟩
                    · rintro o291 w292 a293 ha ⟨hB, h25, h28, h12, h17⟩ -
                      refine opS_of ha (trivial) ?_
                      refine op1_val (ex_move rfl) ?_
                      exact ⟨_, Stp.refl _ _ _, rfl⟩
                    · rintro o294 w295 a296 ha ⟨hB, h25, h28, h12, h17⟩ -
                      refine opS_of ha (trivial) ?_
                      refine op1_val (ex_move rfl) ?_
                      exact ⟨_, Stp.refl _ _ _, rfl⟩
                    · rintro o297 w298 a299 ha ⟨hB, h25, h28, h12, h17⟩ ⟨r300, r301, -⟩
                      have ha := Fr.cons (d := 71) ha r300
                      have ha := Fr.cons (d := 72) ha r301
                      refine opS_of ha (trivial) ?_
                      refine wd_indexW h25 hx128 rfl rfl Try.underlying25 Try.sizeOf3 ?_
                      exact ⟨_, Stp.refl _ _ _, ⟨_, rfl, h25⟩⟩
                    · rintro o302 w303 a304 ha ⟨hB, h25, h28, h12, h17⟩ ⟨r305, -⟩
                      obtain ⟨v306, e307, h308⟩ := r305
                      have ha := Fr.cons (d := 73) ha e307
                      refine opS_of ha (trivial) ?_
                      refine wd_load1W h308 hx128 rfl rfl Try.isAgg3 ?_
                      intro c309 h310
                      cases h310
                      exact ⟨_, Stp.refl _ _ _, rfl⟩
                    · rintro o311 w312 a313 ha ⟨hB, h25, h28, h12, h17⟩ ⟨r314, r315, r316, -⟩
                      have ha := Fr.cons (d := 66) ha r314
                      have ha := Fr.cons (d := 70) ha r315
                      have ha := Fr.cons (d := 74) ha r316
                      refine opS_of ha (trivial) ?_
                      refine wf_call (cI_Problem_edge fuel w312 _ p0 (⟨_, _, rfl, (h2.keep hB.keeps), (h4.keep hB.keeps)⟩) x125 x128 x131 hx131) Try.call119 ⟨rfl, rfl, rfl, trivial⟩ ?_
                      rintro e321 w317 ⟨rfl, k318⟩
                      have s320 := k318.stp 999 o311
                      refine ⟨_, rfl, ?_⟩
                      replace h25 := h25.stp s320 (by decide) (by decide)
                      replace h28 := h28.stp s320 (by decide) (by decide)
                      replace h12 := h12.stp s320 (by decide)
                      replace h17 := h17.stp s320 (by decide)
                      replace hB := hB.stp s320 (by decide)
                      exact ⟨_, s320, rfl⟩
                    · rintro o322 w323 a324 ha ⟨hB, h25, h28, h12, h17⟩ ⟨r325, -⟩
                      have ha := Fr.cons (d := 75) ha r325
                      refine opS_of ha (trivial) ?_
                      refine op1_val (ex_move rfl) ?_
                      exact ⟨_, Stp.refl _ _ _, rfl⟩
                    · rintro o326 w327 a328 ha ⟨hB, h25, h28, h12, h17⟩ ⟨r329, -⟩
                      have ha := Fr.cons (d := 76) ha r329
                      exact opS_no ha rfl rfl rfl (by rw [t137]; rfl) ⟨_, Stp.refl _ _ _, rfl⟩
                    · rintro o330 w331 a332 ha ⟨hB, h25, h28, h12, h17⟩ ⟨r333, -⟩
                      have ha := Fr.cons (d := 76) ha r333
                      exact opS_no ha rfl rfl rfl (by rw [t137]; rfl) ⟨_, Stp.refl _ _ _, rfl⟩
                    · rintro o334 w335 a336 ha ⟨hB, h25, h28, h12, h17⟩ ⟨r337, -⟩
                      have ha := Fr.cons (d := 76) ha r337
                      exact opS_no ha rfl rfl rfl (by rw [t137]; rfl) ⟨_, Stp.refl _ _ _, rfl⟩
                    · rintro o338 w339 a340 ha ⟨hB, h25, h28, h12, h17⟩ ⟨r341, -⟩
                      have ha := Fr.cons (d := 76) ha r341
                      exact opS_no ha rfl rfl rfl (by rw [t137]; rfl) ⟨_, Stp.refl _ _ _, rfl⟩
                    · rintro o342 w343 a344 ha ⟨hB, h25, h28, h12, h17⟩ ⟨r345, -⟩
                      have ha := Fr.cons (d := 76) ha r345
                      exact opS_no ha rfl rfl rfl (by rw [t137]; rfl) ⟨_, Stp.refl _ _ _, rfl⟩
                    · rintro o346 w347 a348 ha ⟨hB, h25, h28, h12, h17⟩ ⟨r349, -⟩
                      have ha := Fr.cons (d := 76) ha r349
                      exact opS_no ha rfl rfl rfl (by rw [t137]; rfl) ⟨_, Stp.refl _ _ _, rfl⟩
                    · rintro o350 w351 a352 ha ⟨hB, h25, h28, h12, h17⟩ ⟨r353, -⟩
                      have ha := Fr.cons (d := 76) ha r353
                      exact opS_no ha rfl rfl rfl (by rw [t137]; rfl) ⟨_, Stp.refl _ _ _, rfl⟩
                    · rintro o354 w355 a356 ha ⟨hB, h25, h28, h12, h17⟩ ⟨r357, -⟩
                      have ha := Fr.cons (d := 76) ha r357
                      exact opS_no ha rfl rfl rfl (by rw [t137]; rfl) ⟨_, Stp.refl _ _ _, rfl⟩
                    · rintro o358 w359 a360 ha ⟨hB, h25, h28, h12, h17⟩ ⟨r361, -⟩
                      have ha := Fr.cons (d := 76) ha r361
                      exact opS_no ha rfl rfl rfl (by rw [t137]; rfl) ⟨_, Stp.refl _ _ _, rfl⟩
                  rintro o362 w363 a364 ha ⟨hB, h25, h28, h12, h17⟩ ⟨-, -, -, -, -, -, -, -, -, -, r365, r366, -, -, -, r367, -, -, -, r368, -⟩
                  have ha := Fr.cons (d := 76) ha r365
                  have ha := Fr.cons (d := 77) ha r366
                  have ha := Fr.cons (d := 81) ha r367
                  have ha := Fr.cons (d := 85) ha r368
                  refine wl_of ha ?_
                  simp only [List.length_cons, List.length_nil, Nat.zero_add, Nat.reduceAdd, List.drop_succ_cons, List.drop_zero]
                  refine st_no rfl rfl (by rw [t137]; rfl) (by decide) ?_
                  refine st_no rfl rfl (by rw [t137]; rfl) (by decide) ?_
                  refine st_val (ex_pick_f (congrArg (fun b => some (Value.bool b)) t137) rfl) (by decide) trivial ?_
                  have e369 := Option.some.inj hq121
                  subst e369
                  refine wpF_end (r := [(3, (.pointer (some ⟨b11, 0, none⟩))), (4, (.pointer (some ⟨b16, 0, none⟩))), (7, v24), (8, v27), (11, (.int .i64 i95)), (12, (.int .i64 y107)), (55, (.int .i64 (y23.length : Int))), (56, (.int .i64 i95)), (88, (.bool false))]) ⟨rfl, rfl, rfl, rfl, rfl, rfl, rfl, rfl, rfl, trivial⟩ ?_
                  refine np_norm (fun a ha => ⟨o362, ha, hB, h25, h28, h12, h17⟩)
              rintro a370 w123 ⟨o122, ha, hB, h25, h28, h12, h17⟩
              refine ap_k ha ?_
              refine nx ?_
              refine wpC_cond rfl (fun t371 => ?_) (fun t371 => ?_)
              · rw [if_pos t371] at b116
                refine wpC_seq ?_
                refine wpC_region ?_
                refine st_val (ex_assign rfl) (by decide) trivial ?_
                refine wpF_end (r := [(6, (.bool false))]) ⟨rfl, trivial⟩ ?_
                refine nx ?_
                refine wpC_ret ?_
                refine nb_ret ?_
                refine nt_ret ?_
                refine nt_ret ?_
                refine nb_ret ?_
                refine np_ret ?_
                have e372 := Option.some.inj b116
                subst e372
                refine fun a ha => ⟨_, n117, ?_⟩
                refine ret_post (P := Try.prog) (vs := [(.bool false)]) Try.results92 ⟨rfl, trivial⟩ ?_ a ha
                exact ⟨rfl, hB.keeps⟩
              · rw [if_neg (by rw [t371]; decide)] at b116
                refine wpC_skip ?_
                refine nb_norm ?_
                refine nx ?_
                refine wpC_region ?_
                refine st_val (ex_move rfl) (by decide) trivial ?_
                obtain ⟨x373, hx373, b116⟩ := bind_some b116
                refine st_val (ex_add rfl rfl hx373) (by decide) trivial ?_
                refine st_val (ex_assign rfl) (by decide) trivial ?_
                refine wpF_end (r := [(3, (.pointer (some ⟨b11, 0, none⟩))), (4, (.pointer (some ⟨b16, 0, none⟩))), (7, v24), (8, v27), (11, (.int .i64 i95)), (12, (.int .i64 x373)), (55, (.int .i64 (y23.length : Int))), (56, (.int .i64 i95))]) ⟨rfl, rfl, rfl, rfl, rfl, rfl, rfl, rfl, trivial⟩ ?_
                refine nt_norm ?_
                have e374 := Option.some.inj b116
                subst e374
                refine to_k (r := [(3, (.pointer (some ⟨b11, 0, none⟩))), (4, (.pointer (some ⟨b16, 0, none⟩))), (7, v24), (8, v27), (11, (.int .i64 i95)), (12, (.int .i64 x373)), (55, (.int .i64 (y23.length : Int))), (56, (.int .i64 i95))]) ⟨rfl, rfl, rfl, rfl, rfl, rfl, rfl, rfl, trivial⟩ ?_
                intro a ha
                exact ⟨K118, by omega, x373, o122, n117, ha, hB, h25, h28, h12, h17⟩
            · rw [if_neg (by rw [t120]; decide)] at b116
              refine wpC_exit ?_
              refine nt_exit ?_
              refine nt_exit ?_
              refine nb_hit ?_
              refine np_norm ?_
              have e375 := Option.some.inj b116
              subst e375
              refine to_k (r := [(3, (.pointer (some ⟨b11, 0, none⟩))), (4, (.pointer (some ⟨b16, 0, none⟩))), (7, v24), (8, v27), (55, (.int .i64 (y23.length : Int))), (56, (.int .i64 i95))]) ⟨rfl, rfl, rfl, rfl, rfl, rfl, trivial⟩ ?_
              intro a ha
              exact ⟨y107, o108, n117, ha, hB, h25, h28, h12, h17⟩
          · rintro a w109 ⟨y107, o108, rfl, ha, hB, h25, h28, h12, h17⟩
            dsimp only at b104
            refine ap_k ha ?_
            refine nb_norm ?_
            refine nx ?_
            refine wpC_region ?_
            refine st_val (ex_add rfl rfl (ck_in (by omega) (by omega))) (by decide) trivial ?_
            refine st_val (ex_move rfl) (by decide) trivial ?_
            refine wpF_end (r := [(3, (.pointer (some ⟨b11, 0, none⟩))), (4, (.pointer (some ⟨b16, 0, none⟩))), (7, v24), (8, v27), (55, (.int .i64 (y23.length : Int))), (56, (.int .i64 (i95 + 1)))]) ⟨rfl, rfl, rfl, rfl, rfl, rfl, trivial⟩ ?_
            refine nt_norm ?_
            have e376 := Option.some.inj b104
            subst e376
            refine to_k (r := [(3, (.pointer (some ⟨b11, 0, none⟩))), (4, (.pointer (some ⟨b16, 0, none⟩))), (7, v24), (8, v27), (55, (.int .i64 (y23.length : Int))), (56, (.int .i64 (i95 + 1)))]) ⟨rfl, rfl, rfl, rfl, rfl, rfl, trivial⟩ ?_
            intro a ha
            exact ⟨_, (by rw [← m101]; omega), i95 + 1, o108, n105, rfl, (by omega), ha, hB, h25, h28, h12, h17⟩
          · rintro a w109 ⟨r', rfl, b377⟩
            dsimp only at b104
            have e378 := Option.some.inj b104
            subst e378
            exact ⟨_, n105, b377⟩
        · have r379 := forN_done t106 l99
          refine wp_of ha ?_
          refine wpC_seq ?_
          refine wpC_region ?_
          refine st_val (ex_lss rfl rfl) (by decide) trivial ?_
          refine wpF_end (r := [(3, (.pointer (some ⟨b11, 0, none⟩))), (4, (.pointer (some ⟨b16, 0, none⟩))), (7, v24), (8, v27), (55, (.int .i64 (y23.length : Int))), (56, (.int .i64 i95)), (57, (.bool (decide (i95 < (y23.length : Int)))))]) ⟨rfl, rfl, rfl, rfl, rfl, rfl, rfl, trivial⟩ ?_
          refine nx ?_
          refine wpC_seq ?_
          refine wpC_false (congrArg (fun b => some (Value.bool b)) (decide_eq_false t106)) ?_
          refine wpC_exit ?_
          refine nt_exit ?_
          refine nt_exit ?_
          refine nb_hit ?_
          refine np_norm ?_
          refine to_k (r := []) trivial ?_
          intro a ha
          exact ⟨o93, r379, ha, hB⟩
      · rintro a w94 ⟨o93, rfl, ha, hB⟩
        dsimp only at hF
        refine ap_k ha ?_
        refine nx ?_
        refine wpC_seq ?_
        refine wpC_region ?_
        refine st_val (ex_assign rfl) (by decide) trivial ?_
        refine wpF_end (r := [(6, (.bool true))]) ⟨rfl, trivial⟩ ?_
        refine nx ?_
        refine wpC_ret ?_
        have e380 := Option.some.inj hF
        subst e380
        refine ret_post (P := Try.prog) (vs := [(.bool true)]) Try.results92 ⟨rfl, trivial⟩ ?_
        exact ⟨rfl, hB.keeps⟩
      · rintro a w94 ⟨r', rfl, b381⟩
        dsimp only at hF
        have e382 := Option.some.inj hF
        subst e382
        exact b381
    · rintro a w30 ⟨r', rfl, b383⟩
      dsimp only at hF
      have e384 := Option.some.inj hF
      subst e384
      exact b383

def fI_IsConfigMap (fuel : Nat) (p0 : T_Problem) (p1 : T_Problem) (p2 : List (List Int)) : Option (Bool × Bool) :=
  (fI_areProblems fuel p0 p1) >>= fun x19 =>
  if !x19 then
    some (false, false)
  else
    (fI_isConfigMap fuel p0 p1 p2) >>= fun x27 =>
    some (x27, true)

def pI_IsConfigMap (w : World) (r : Bool × Bool) : Ending → World → Prop := fun e w' => e = .returned (.tuple #[.bool r.1, .bool r.2]) ∧ Keeps w w'
set_option maxRecDepth 100000 in
set_option maxHeartbeats 2000000 in
theorem cI_IsConfigMap (fuel : Nat) (w : World) (u0 : List Value) (p0 : T_Problem) (g0 : Rp.rd zt w u0 p0) (u1 : List Value) (p1 : T_Problem) (g1 : Rp.rd zt w u1 p1) (u2 : Value) (p2 : List (List Int)) (g2 : RdL zt w u2 p2) (r : Bool × Bool) (hF : fI_IsConfigMap fuel p0 p1 p2 = some r) :
    Calls Try.prog 41 #[.agg u0.toArray, .agg u1.toArray, u2] w (pI_IsConfigMap w r) := by
  unfold fI_IsConfigMap at hF
  obtain ⟨v1, v3, rfl, h2, h4⟩ := g0
  obtain ⟨v5, v7, rfl, h6, h8⟩ := g1
  have hB : Bs (fun _ => 1) (col (fun _ => 1)) w w := Bs.start _ _
  refine calls_start (n := 16) (vs := [(.agg #[(.int .i64 p0.Labels), (.int .i64 p0.Degree), v1, v3]), (.agg #[(.int .i64 p1.Labels), (.int .i64 p1.Degree), v5, v7]), u2]) Try.func41 rfl rfl ?_
  refine wpC_seq ?_
  refine wpC_region ?_
  refine st_op (by decide) trivial ?_
  refine wf_box (o := (col (fun _ => 1))) w.heap.size 11 hB.keeps.size (cs := [(.int .i64 p0.Labels), (.int .i64 p0.Degree), v1, v3]) rfl rfl ?_
  intro o9 w10 b11 h12 s13
  replace hB := hB.stp s13 (by decide)
  refine st_op (by decide) trivial ?_
  refine wf_box (o := o9) w.heap.size 12 hB.keeps.size (cs := [(.int .i64 p1.Labels), (.int .i64 p1.Degree), v5, v7]) rfl rfl ?_
  intro o14 w15 b16 h17 s18
  replace h12 := h12.stp s18 (by decide)
  replace hB := hB.stp s18 (by decide)
  refine st_val (ex_assign rfl) (by decide) trivial ?_
  refine st_val (ex_assign rfl) (by decide) trivial ?_
  refine wpF_end (r := [(2, u2), (3, (.pointer (some ⟨b11, 0, none⟩))), (4, (.pointer (some ⟨b16, 0, none⟩)))]) ⟨rfl, rfl, rfl, trivial⟩ ?_
  refine nx ?_
  refine wpC_seq ?_
  refine wpC_seq ?_
  refine wpC_region ?_
  refine st_val (ex_loadA rfl Try.isAgg29 Try.sizeOf29 rfl h12.cells) (by decide) trivial ?_
  refine st_val (ex_loadA rfl Try.isAgg29 Try.sizeOf29 rfl h17.cells) (by decide) trivial ?_
  obtain ⟨x19, hx19, hF⟩ := bind_some hF
  refine st_op (by decide) trivial ?_
  refine wf_call (cI_areProblems fuel w15 _ p0 (⟨_, _, rfl, (h2.keep hB.keeps), (h4.keep hB.keeps)⟩) _ p1 (⟨_, _, rfl, (h6.keep hB.keeps), (h8.keep hB.keeps)⟩) x19 hx19) Try.call67 ⟨rfl, rfl, trivial⟩ ?_
  rintro e24 w20 ⟨rfl, k21⟩
  have s23 := k21.stp 999 o14
  refine ⟨_, rfl, ?_⟩
  replace h12 := h12.stp s23 (by decide)
  replace h17 := h17.stp s23 (by decide)
  replace hB := hB.stp s23 (by decide)
  refine st_val (ex_not rfl) (by decide) trivial ?_
  refine wpF_end (r := [(2, u2), (3, (.pointer (some ⟨b11, 0, none⟩))), (4, (.pointer (some ⟨b16, 0, none⟩))), (11, (.bool (!x19)))]) ⟨rfl, rfl, rfl, rfl, trivial⟩ ?_
  refine nx ?_
  refine wpC_cond rfl (fun t25 => ?_) (fun t25 => ?_)
  · rw [if_pos t25] at hF
    refine wpC_seq ?_
    refine wpC_region ?_
    refine st_val (ex_assign rfl) (by decide) trivial ?_
    refine st_val (ex_assign rfl) (by decide) trivial ?_
    refine wpF_end (r := [(6, (.bool false)), (7, (.bool false))]) ⟨rfl, rfl, trivial⟩ ?_
    refine nx ?_
    refine wpC_ret ?_
    refine nt_ret ?_
    have e26 := Option.some.inj hF
    subst e26
    refine ret_post (P := Try.prog) (vs := [(.bool false), (.bool false)]) Try.results41 ⟨rfl, rfl, trivial⟩ ?_
    exact ⟨rfl, hB.keeps⟩
  · rw [if_neg (by rw [t25]; decide)] at hF
    refine wpC_skip ?_
    refine nx ?_
    refine wpC_seq ?_
    refine wpC_region ?_
    refine st_val (ex_loadA rfl Try.isAgg29 Try.sizeOf29 rfl h12.cells) (by decide) trivial ?_
    refine st_val (ex_loadA rfl Try.isAgg29 Try.sizeOf29 rfl h17.cells) (by decide) trivial ?_
    refine st_val (ex_move rfl) (by decide) trivial ?_
    obtain ⟨x27, hx27, hF⟩ := bind_some hF
    refine st_op (by decide) trivial ?_
    refine wf_call (cI_isConfigMap fuel w20 _ p0 (⟨_, _, rfl, (h2.keep hB.keeps), (h4.keep hB.keeps)⟩) _ p1 (⟨_, _, rfl, (h6.keep hB.keeps), (h8.keep hB.keeps)⟩) _ p2 (g2.keep hB.keeps) x27 hx27) Try.call92 ⟨rfl, rfl, rfl, trivial⟩ ?_
    rintro e32 w28 ⟨rfl, k29⟩
    have s31 := k29.stp 999 o14
    refine ⟨_, rfl, ?_⟩
    replace h12 := h12.stp s31 (by decide)
    replace h17 := h17.stp s31 (by decide)
    replace hB := hB.stp s31 (by decide)
    refine st_val (ex_assign rfl) (by decide) trivial ?_
    refine st_val (ex_assign rfl) (by decide) trivial ?_
    refine wpF_end (r := [(6, (.bool x27)), (7, (.bool true))]) ⟨rfl, rfl, trivial⟩ ?_
    refine nx ?_
    refine wpC_ret ?_
    have e33 := Option.some.inj hF
    subst e33
    refine ret_post (P := Try.prog) (vs := [(.bool x27), (.bool true)]) Try.results41 ⟨rfl, rfl, trivial⟩ ?_
    exact ⟨rfl, hB.keeps⟩

end Go.Proofs.Ytiejigogmnkjdaa
