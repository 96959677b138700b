/- impl.componentsOf, impl.AutomorphismCount: plain functions, and the walks that show that the program computes them (printed by gen.py). -/
import Derived.Test.YtijaojnaamkinaaGAp
import Derived.Test.YtijaojnaamkinaaGNc
import Derived.Test.YtijaojnaamkinaaKpz
import Derived.Test.YtijaojnaamkinaaSkx
import Derived.Test.YtijaojnaamkinaaSort
namespace Go.Proofs.Ytijaojnaamkinaa
open Go.RowKit
set_option linter.unusedSimpArgs false
set_option linter.unusedVariables false

theorem info2_t_bool_Apb : Inf Try.prog 4 (.bool false) 1 1 := by unfold Inf; kernel_rfl

theorem info2_t_impl_component_Apb : Inf Try.prog 106 (.agg #[(.slice none 0 0), (.slice none 0 0), (.int .i64 0), (.int .i64 0)]) 4 64 := by unfold Inf; kernel_rfl

theorem info1_t_impl_component_Apb : (Try.prog.info? 106).map (·.size) = some 4 := by kernel_rfl

def fI_componentsOf_s2 (fuel : Nat) (p0 : T_Network) : Int → Int → ((List Bool) × (List Int) × (List Int) × Int) → Option (Lp ((List Bool) × (List Int) × (List Int) × Int) ((List Bool) × (List Int) × (List Int) × Int) (List T_component)) := fun (i91 : Int) (x101 : Int) (s : (List Bool) × (List Int) × (List Int) × Int) =>
  (ix s.1 x101) >>= fun x107 =>
  (st s.1 x101 true) >>= fun x116 =>
  (fI_codeFrom fuel p0 x101) >>= fun x118 =>
  (fX_slices_Compare_int_int x118.1 s.2.1) >>= fun x130 =>
  (
    if s.2.2.1.isEmpty then
      some true
    else
      some (decide (x130 < 0))) >>= fun q136 =>
  if q136 then
    (nem x118.2) >>= fun x149 =>
    some (.go (x116, x118.1, x118.2, 1))
  else
    if x130 == 0 then
      (ck (s.2.2.2 + 1)) >>= fun x158 =>
      some (.go (x116, s.2.1, s.2.2.1, x158))
    else
      some (.go (x116, s.2.1, s.2.2.1, s.2.2.2))
def fI_componentsOf_s1 (fuel : Nat) (p0 : T_Network) : Int → ((List T_component) × (List Bool)) → Option (Lp ((List T_component) × (List Bool)) ((List T_component) × (List Bool)) (List T_component)) := fun (i26 : Int) (s : (List T_component) × (List Bool)) =>
  (ix s.2 i26) >>= fun x38 =>
  if x38 then
    some (.go (s.1, s.2))
  else
    (fI_codeFrom fuel p0 i26) >>= fun x46 =>
    (srtO x46.2) >>= fun x64 =>
    (forI (fI_componentsOf_s2 fuel p0) x64 0 (s.2, [], [], 0)) >>= fun q92 =>
    match q92 with
    | .inl (y78, y80, y84, y88) =>
      (push s.1 (⟨y80, y84, i26, y88⟩ : T_component)) >>= fun x173 =>
      some (.go (x173, y78))
    | .inr _ => none
def fI_componentsOf (fuel : Nat) (p0 : T_Network) : Option (List T_component) :=
  (mk (Rz.z : Bool) (p0.Ends.length : Int)) >>= fun x12 =>
  ck (p0.Ends.length : Int) >>= fun _ =>
  (forN (fI_componentsOf_s1 fuel p0) ((p0.Ends.length : Int)).toNat 0 ([], x12)) >>= fun q27 =>
  match q27 with
  | .inl (y19, y22) =>
    (srtC y19) >>= fun x181 =>
    some x181
  | .inr _ => none

def pI_componentsOf (oo : Tg) (t : Nat) (w : World) (r : List T_component) : Ending → World → Prop := fun e w' => ∃ (v0 : Value) (o' : Tg), e = .returned (v0) ∧ Ow w.heap.size 106 t o' w' v0 r ∧ Keeps w w' ∧ ∀ b, b < w.heap.size → o' b = oo b
set_option maxRecDepth 100000 in
set_option maxHeartbeats 2000000 in
theorem cI_componentsOf (fuel : Nat) (w : World) (oo : Tg) (t : Nat) (ht : 2 ≤ t) (u0 : List Value) (p0 : T_Network) (g0 : Rp.rd zt w u0 p0) (r : List T_component) (hF : fI_componentsOf fuel p0 = some r) :
    Calls Try.prog 87 #[.agg u0.toArray] w (pI_componentsOf oo t w r) := by
  unfold fI_componentsOf at hF
  obtain ⟨v1, v3, v5, rfl, h2, h4, h6⟩ := g0
  have hB : Bs oo (col oo) w w := Bs.start _ _
  refine calls_start (n := 86) (vs := [(.agg #[v1, v3, v5])]) Try.func87 rfl rfl ?_
  generalize col oo = o at *
  refine wpC_seq ?_
  refine wpC_region ?_
  refine st_op (by decide) trivial ?_
  refine wf_box (o := o) w.heap.size 11 hB.keeps.size (cs := [v1, v3, v5]) rfl rfl ?_
  intro o7 w8 b9 h10 s11
  replace hB := hB.stp s11 (by decide)
  refine st_val (ex_assign rfl) (by decide) trivial ?_
  refine wpF_end (r := [(1, (.pointer (some ⟨b9, 0, none⟩)))]) ⟨rfl, trivial⟩ ?_
  refine nx ?_
  refine wpC_seq ?_
  refine wpC_region ?_
  refine st_val (ex_assign rfl) (by decide) trivial ?_
  refine wpF_end (r := [(1, (.pointer (some ⟨b9, 0, none⟩))), (3, (.slice none 0 0))]) ⟨rfl, rfl, trivial⟩ ?_
  refine nx ?_
  refine wpC_seq ?_
  refine wpC_region ?_
  refine st_val (ex_field rfl Try.underlying31 rfl Try.sizeOf29) (by decide) trivial ?_
  refine st_val (ex_load1 rfl Try.isAgg29 (h10.cell rfl)) (by decide) trivial ?_
  refine st_val (ex_lenR rfl h2 Try.underlying29) (by decide) trivial ?_
  obtain ⟨x12, hx12, hF⟩ := bind_some hF
  refine st_op (by decide) trivial ?_
  refine wf_make (o := o7) w.heap.size 12 hB.keeps.size hx12 rfl rfl Try.underlying129 info2_t_bool_Apb rfl (by decide) ?_
  intro o13 w14 v15 h16 s17
  replace h10 := h10.stp s17 (by decide)
  replace hB := hB.stp s17 (by decide)
  refine st_val (ex_assign rfl) (by decide) trivial ?_
  refine wpF_end (r := [(1, (.pointer (some ⟨b9, 0, none⟩))), (3, (.slice none 0 0)), (4, v15)]) ⟨rfl, rfl, rfl, trivial⟩ ?_
  refine nx ?_
  refine wpC_seq ?_
  refine wpC_seq ?_
  refine wpC_region ?_
  refine st_val (ex_field rfl Try.underlying31 rfl Try.sizeOf29) (by decide) trivial ?_
  refine st_val (ex_load1 rfl Try.isAgg29 (h10.cell rfl)) (by decide) trivial ?_
  refine st_val (ex_lenR rfl h2 Try.underlying29) (by decide) trivial ?_
  refine st_val (ex_move rfl) (by decide) trivial ?_
  refine wpF_end (r := [(1, (.pointer (some ⟨b9, 0, none⟩))), (3, (.slice none 0 0)), (4, v15), (20, (.int .i64 (p0.Ends.length : Int))), (21, (.int .i64 0))]) ⟨rfl, rfl, rfl, rfl, rfl, trivial⟩ ?_
  refine nx ?_
  have h18 : Ow w.heap.size 106 13 o13 w14 (.slice none 0 0) ([] : List T_component) := Ow.nil _ _ _ _ _
  obtain ⟨u29, h28, hF⟩ := bind_some hF
  obtain ⟨-, h28a, h28b⟩ := ck_some h28
  obtain ⟨q27, hq27, hF⟩ := bind_some hF
  refine wpC_cutN (fun a w25 => ∃ (y19 : List T_component) (y22 : List Bool) (v20 : Value) (o24 : Tg), q27 = .inl (y19, y22) ∧ Fr a 86 [(3, v20)] ∧ Bs oo o24 w w25 ∧ Ow w.heap.size 106 13 o24 w25 v20 y19) (fun _ _ => False) ?_ ?_ ?_
  · refine wpC_block ?_
    refine wpC_loop (fun (K : Nat) a w25 => ∃ (i26 : Int) (y19 : List T_component) (y22 : List Bool) (v20 : Value) (o24 : Tg), forN (fI_componentsOf_s1 fuel p0) ((p0.Ends.length : Int) - i26).toNat i26 (y19, y22) = some q27 ∧ ((p0.Ends.length : Int) - i26).toNat = K ∧ 0 ≤ i26 ∧ Fr a 86 [(1, (.pointer (some ⟨b9, 0, none⟩))), (3, v20), (4, v15), (20, (.int .i64 (p0.Ends.length : Int))), (21, (.int .i64 i26))] ∧ Bs oo o24 w w25 ∧ Ow w.heap.size 106 13 o24 w25 v20 y19 ∧ Ow w.heap.size 4 12 o24 w25 v15 y22 ∧ Bx w.heap.size 11 o24 w25 b9 31 [v1, v3, v5]) _ (fun a ha => ⟨0, [], x12, (.slice none 0 0), o13, (by rw [Int.sub_zero]; exact hq27), rfl, Int.le_refl 0, ha.sub (r := [(1, (.pointer (some ⟨b9, 0, none⟩))), (3, (.slice none 0 0)), (4, v15), (20, (.int .i64 (p0.Ends.length : Int))), (21, (.int .i64 0))]) ⟨rfl, rfl, rfl, rfl, rfl, trivial⟩, hB, h18, h16, h10⟩) ?_
    rintro K33 a w25 ⟨i26, y19, y22, v20, o24, l30, m32, z31, ha, hB, h21, h23, h10⟩
    by_cases t37 : i26 < (p0.Ends.length : Int)
    · obtain ⟨q34, b35, n36⟩ := forN_cons t37 l30
      dsimp only [fI_componentsOf_s1] at b35
      refine wp_of ha ?_
      refine wpC_seq ?_
      refine wpC_region ?_
      refine st_val (ex_lss rfl rfl) (by decide) trivial ?_
      refine wpF_end (r := [(1, (.pointer (some ⟨b9, 0, none⟩))), (3, v20), (4, v15), (20, (.int .i64 (p0.Ends.length : Int))), (21, (.int .i64 i26)), (22, (.bool (decide (i26 < (p0.Ends.length : Int)))))]) ⟨rfl, rfl, rfl, rfl, rfl, rfl, trivial⟩ ?_
      refine nx ?_
      refine wpC_seq ?_
      refine wpC_true (congrArg (fun b => some (Value.bool b)) (decide_eq_true t37)) ?_
      refine wpC_skip ?_
      refine nx ?_
      refine wpC_seq ?_
      refine wpC_block ?_
      refine wpC_seq ?_
      refine wpC_region ?_
      refine st_val (ex_move rfl) (by decide) trivial ?_
      refine st_val (ex_assign rfl) (by decide) trivial ?_
      refine wpF_end (r := [(1, (.pointer (some ⟨b9, 0, none⟩))), (3, v20), (4, v15), (5, (.int .i64 i26)), (20, (.int .i64 (p0.Ends.length : Int))), (21, (.int .i64 i26))]) ⟨rfl, rfl, rfl, rfl, rfl, rfl, trivial⟩ ?_
      refine nx ?_
      refine wpC_seq ?_
      refine wpC_seq ?_
      refine wpC_region ?_
      refine st_val (ex_move rfl) (by decide) trivial ?_
      refine st_val (ex_move rfl) (by decide) trivial ?_
      obtain ⟨x38, hx38, b35⟩ := bind_some b35
      refine st_op (by decide) trivial ?_
      refine wf_atW h23 hx38 rfl rfl Try.underlying129 Try.sizeOf4 ?_
      intro b39 f40 c41 h42 h43
      cases h43
      refine st_val (ex_load1 rfl Try.isAgg4 (cell_of_cells h42)) (by decide) trivial ?_
      refine wpF_end (r := [(1, (.pointer (some ⟨b9, 0, none⟩))), (3, v20), (4, v15), (5, (.int .i64 i26)), (20, (.int .i64 (p0.Ends.length : Int))), (21, (.int .i64 i26)), (27, (.bool x38))]) ⟨rfl, rfl, rfl, rfl, rfl, rfl, rfl, trivial⟩ ?_
      refine nx ?_
      refine wpC_cond rfl (fun t44 => ?_) (fun t44 => ?_)
      · rw [if_pos t44] at b35
        refine wpC_exit ?_
        refine nt_exit ?_
        refine nb_hit ?_
        refine nx ?_
        refine wpC_region ?_
        refine st_val (ex_add rfl rfl (ck_in (by omega) (by omega))) (by decide) trivial ?_
        refine st_val (ex_move rfl) (by decide) trivial ?_
        refine wpF_end (r := [(1, (.pointer (some ⟨b9, 0, none⟩))), (3, v20), (4, v15), (20, (.int .i64 (p0.Ends.length : Int))), (21, (.int .i64 (i26 + 1)))]) ⟨rfl, rfl, rfl, rfl, rfl, trivial⟩ ?_
        refine nt_norm ?_
        have e45 := Option.some.inj b35
        subst e45
        refine to_k (r := [(1, (.pointer (some ⟨b9, 0, none⟩))), (3, v20), (4, v15), (20, (.int .i64 (p0.Ends.length : Int))), (21, (.int .i64 (i26 + 1)))]) ⟨rfl, rfl, rfl, rfl, rfl, trivial⟩ ?_
        intro a ha
        exact ⟨_, (by rw [← m32]; omega), i26 + 1, y19, y22, v20, o24, n36, rfl, (by omega), ha, hB, h21, h23, h10⟩
      · rw [if_neg (by rw [t44]; decide)] at b35
        refine wpC_skip ?_
        refine nx ?_
        refine wpC_seq ?_
        refine wpC_region ?_
        refine st_val (ex_loadA rfl Try.isAgg31 Try.sizeOf31 rfl h10.cells) (by decide) trivial ?_
        refine st_val (ex_move rfl) (by decide) trivial ?_
        obtain ⟨x46, hx46, b35⟩ := bind_some b35
        refine st_op (by decide) trivial ?_
        refine wf_call (cIb_codeFrom fuel w25 o24 14 (by decide) _ p0 (⟨_, _, _, rfl, (h2.keep hB.keeps), (h4.keep hB.keeps), (h6.keep hB.keeps)⟩) i26 x46 hx46) Try.call67 ⟨rfl, rfl, trivial⟩ ?_
        rintro e56 w47 ⟨v48, v51, o57, rfl, h49, h52, k53, k54⟩
        have s55 := k53.stp' 14 k54
        replace h52 := h52.mono hB.keeps.size
        have h50 := h49.rd
        refine ⟨_, rfl, ?_⟩
        replace h21 := h21.stp s55 (by decide) (by decide)
        replace h23 := h23.stp s55 (by decide) (by decide)
        replace h10 := h10.stp s55 (by decide)
        replace hB := hB.stp s55 (by decide)
        refine st_val (ex_move rfl) (by decide) trivial ?_
        refine st_val (ex_extract rfl rfl) (by decide) trivial ?_
        refine st_val (ex_extract rfl rfl) (by decide) trivial ?_
        refine st_val (ex_assign rfl) (by decide) trivial ?_
        refine st_val (ex_assign rfl) (by decide) trivial ?_
        refine wpF_end (r := [(1, (.pointer (some ⟨b9, 0, none⟩))), (3, v20), (4, v15), (5, (.int .i64 i26)), (7, v51), (20, (.int .i64 (p0.Ends.length : Int))), (21, (.int .i64 i26))]) ⟨rfl, rfl, rfl, rfl, rfl, rfl, rfl, trivial⟩ ?_
        refine nx ?_
        refine wpC_seq ?_
        refine wpC_region ?_
        refine st_val (ex_move rfl) (by decide) trivial ?_
        obtain ⟨x64, hx64, b35⟩ := bind_some b35
        refine st_op (by decide) trivial ?_
        refine wf_call (cX_Sort h52 hx64) Try.call122 ⟨rfl, trivial⟩ ?_
        rintro e59 w58 ⟨rfl, h65, s62⟩
        refine ⟨_, rfl, ?_⟩
        replace h21 := h21.stp s62 (by decide) (by decide)
        replace h23 := h23.stp s62 (by decide) (by decide)
        replace h10 := h10.stp s62 (by decide)
        replace hB := hB.stp s62 (by decide)
        refine wpF_end (r := [(1, (.pointer (some ⟨b9, 0, none⟩))), (3, v20), (4, v15), (5, (.int .i64 i26)), (7, v51), (20, (.int .i64 (p0.Ends.length : Int))), (21, (.int .i64 i26))]) ⟨rfl, rfl, rfl, rfl, rfl, rfl, rfl, trivial⟩ ?_
        refine nx ?_
        refine wpC_seq ?_
        refine wpC_region ?_
        refine st_val (ex_move rfl) (by decide) trivial ?_
        refine st_val (ex_build (vs := [(2, (.int .i64 i26))]) (cs := [(.slice none 0 0), (.slice none 0 0), (.int .i64 i26), (.int .i64 0)]) ⟨rfl, rfl, trivial⟩ (by kernel_rfl)) (by decide) trivial ?_
        refine st_op (by decide) trivial ?_
        refine wf_alloc (o := o57) w.heap.size 15 hB.keeps.size (cs := [(.slice none 0 0), (.slice none 0 0), (.int .i64 0), (.int .i64 0)]) Try.zeroValue106 rfl ?_
        intro o66 w67 b68 h69 s70
        replace h21 := h21.stp s70 (by decide) (by decide)
        replace h23 := h23.stp s70 (by decide) (by decide)
        replace h65 := h65.stp s70 (by decide) (by decide)
        replace h10 := h10.stp s70 (by decide)
        replace hB := hB.stp s70 (by decide)
        refine st_op0 trivial ?_
        refine wf_storeA h69 rfl rfl rfl info1_t_impl_component_Apb (by intro c hc; simp only [List.mem_cons, List.not_mem_nil, or_false] at hc; rcases hc with rfl | rfl | rfl | rfl <;> first | rfl) ?_
        intro w71 h73 s72
        replace h21 := h21.stp s72 (by decide) (by decide)
        replace h23 := h23.stp s72 (by decide) (by decide)
        replace h65 := h65.stp s72 (by decide) (by decide)
        replace h10 := h10.stp s72 (by decide)
        replace hB := hB.stp s72 (by decide)
        refine wpF_end (r := [(1, (.pointer (some ⟨b9, 0, none⟩))), (3, v20), (4, v15), (7, v51), (8, (.pointer (some ⟨b68, 0, none⟩))), (20, (.int .i64 (p0.Ends.length : Int))), (21, (.int .i64 i26))]) ⟨rfl, rfl, rfl, rfl, rfl, rfl, rfl, trivial⟩ ?_
        refine nx ?_
        refine wpC_seq ?_
        refine wpC_seq ?_
        refine wpC_region ?_
        refine st_val (ex_move rfl) (by decide) trivial ?_
        refine st_val (ex_lenO rfl h65 Try.underlying23) (by decide) trivial ?_
        refine st_val (ex_move rfl) (by decide) trivial ?_
        refine wpF_end (r := [(1, (.pointer (some ⟨b9, 0, none⟩))), (3, v20), (4, v15), (8, (.pointer (some ⟨b68, 0, none⟩))), (20, (.int .i64 (p0.Ends.length : Int))), (21, (.int .i64 i26)), (38, v51), (39, (.int .i64 (x64.length : Int))), (40, (.int .i64 0))]) ⟨rfl, rfl, rfl, rfl, rfl, rfl, rfl, rfl, rfl, trivial⟩ ?_
        refine nx ?_
        have h74 : RdL o66 w71 (.slice none 0 0) ([] : List Int) := RdL.nil _ _
        have h75 : Of 3 o66 w71 (.slice none 0 0) ([] : List Int) := Of.nil _ _ _
        have h76 : Ow w.heap.size 3 16 o66 w71 (.slice none 0 0) ([] : List Int) := Ow.nil _ _ _ _ _
        have h77 : isnil (.slice none 0 0) = ([] : List Int).isEmpty := rfl
        obtain ⟨q92, hq92, b35⟩ := bind_some b35
        refine wpC_cutN (fun a w90 => ∃ (y78 : List Bool) (y80 : List Int) (y84 : List Int) (y88 : Int) (v81 : Value) (v85 : Value) (o89 : Tg), q92 = .inl (y78, y80, y84, y88) ∧ Fr a 86 [(1, (.pointer (some ⟨b9, 0, none⟩))), (3, v20), (4, v15), (8, (.pointer (some ⟨b68, 0, none⟩))), (20, (.int .i64 (p0.Ends.length : Int))), (21, (.int .i64 i26))] ∧ Bs oo o89 w w90 ∧ Ow w.heap.size 106 13 o89 w90 v20 y19 ∧ Ow w.heap.size 4 12 o89 w90 v15 y78 ∧ Bx w.heap.size 11 o89 w90 b9 31 [v1, v3, v5] ∧ Bx w.heap.size 15 o89 w90 b68 106 [v81, v85, (.int .i64 i26), (.int .i64 y88)] ∧ RdL o89 w90 v81 y80 ∧ Of 3 o89 w90 v81 y80 ∧ Ow w.heap.size 3 16 o89 w90 v85 y84 ∧ isnil v85 = (y84 : List Int).isEmpty) (fun _ _ => False) ?_ ?_ ?_
        · refine wpC_block ?_
          refine wpC_loop (fun (K : Nat) a w90 => ∃ (i91 : Int) (y78 : List Bool) (y80 : List Int) (y84 : List Int) (y88 : Int) (v81 : Value) (v85 : Value) (o89 : Tg), forI (fI_componentsOf_s2 fuel p0) (x64.drop i91.toNat) i91 (y78, y80, y84, y88) = some q92 ∧ (x64.drop i91.toNat).length = K ∧ 0 ≤ i91 ∧ Fr a 86 [(1, (.pointer (some ⟨b9, 0, none⟩))), (3, v20), (4, v15), (8, (.pointer (some ⟨b68, 0, none⟩))), (20, (.int .i64 (p0.Ends.length : Int))), (21, (.int .i64 i26)), (38, v51), (39, (.int .i64 (x64.length : Int))), (40, (.int .i64 i91))] ∧ Bs oo o89 w w90 ∧ Ow w.heap.size 106 13 o89 w90 v20 y19 ∧ Ow w.heap.size 4 12 o89 w90 v15 y78 ∧ Ow w.heap.size 3 14 o89 w90 v51 x64 ∧ Bx w.heap.size 11 o89 w90 b9 31 [v1, v3, v5] ∧ Bx w.heap.size 15 o89 w90 b68 106 [v81, v85, (.int .i64 i26), (.int .i64 y88)] ∧ RdL o89 w90 v81 y80 ∧ Of 3 o89 w90 v81 y80 ∧ Ow w.heap.size 3 16 o89 w90 v85 y84 ∧ isnil v85 = (y84 : List Int).isEmpty) _ (fun a ha => ⟨0, y22, [], [], 0, (.slice none 0 0), (.slice none 0 0), o66, hq92, rfl, Int.le_refl 0, ha.sub (r := [(1, (.pointer (some ⟨b9, 0, none⟩))), (3, v20), (4, v15), (8, (.pointer (some ⟨b68, 0, none⟩))), (20, (.int .i64 (p0.Ends.length : Int))), (21, (.int .i64 i26)), (38, v51), (39, (.int .i64 (x64.length : Int))), (40, (.int .i64 0))]) ⟨rfl, rfl, rfl, rfl, rfl, rfl, rfl, rfl, rfl, trivial⟩, hB, h21, h23, h65, h10, h73, h74, h75, h76, h77⟩) ?_
          rintro K96 a w90 ⟨i91, y78, y80, y84, y88, v81, v85, o89, l93, m95, z94, ha, hB, h21, h79, h65, h10, h73, h82, h83, h86, h87⟩
          by_cases t100 : i91 < (x64.length : Int)
          · obtain ⟨x101, q97, hx101, b98, n99⟩ := forI_cons z94 t100 l93
            have hle := h65.len_le
            dsimp only [fI_componentsOf_s2] at b98
            refine wp_of ha ?_
            refine wpC_seq ?_
            refine wpC_region ?_
            refine st_val (ex_lss rfl rfl) (by decide) trivial ?_
            refine wpF_end (r := [(1, (.pointer (some ⟨b9, 0, none⟩))), (3, v20), (4, v15), (8, (.pointer (some ⟨b68, 0, none⟩))), (20, (.int .i64 (p0.Ends.length : Int))), (21, (.int .i64 i26)), (38, v51), (39, (.int .i64 (x64.length : Int))), (40, (.int .i64 i91)), (41, (.bool (decide (i91 < (x64.length : Int)))))]) ⟨rfl, rfl, rfl, rfl, rfl, rfl, rfl, rfl, rfl, rfl, trivial⟩ ?_
            refine nx ?_
            refine wpC_seq ?_
            refine wpC_true (congrArg (fun b => some (Value.bool b)) (decide_eq_true t100)) ?_
            refine wpC_skip ?_
            refine nx ?_
            refine wpC_seq ?_
            refine wpC_block ?_
            refine wpC_seq ?_
            refine wpC_region ?_
            refine st_op (by decide) trivial ?_
            refine wf_atW h65 hx101 rfl rfl Try.underlying23 Try.sizeOf3 ?_
            intro b102 f103 c104 h105 h106
            cases h106
            refine st_val (ex_load1 rfl Try.isAgg3 (cell_of_cells h105)) (by decide) trivial ?_
            refine st_val (ex_assign rfl) (by decide) trivial ?_
            refine wpF_end (r := [(1, (.pointer (some ⟨b9, 0, none⟩))), (3, v20), (4, v15), (8, (.pointer (some ⟨b68, 0, none⟩))), (10, (.int .i64 x101)), (20, (.int .i64 (p0.Ends.length : Int))), (21, (.int .i64 i26)), (38, v51), (39, (.int .i64 (x64.length : Int))), (40, (.int .i64 i91))]) ⟨rfl, rfl, rfl, rfl, rfl, rfl, rfl, rfl, rfl, rfl, trivial⟩ ?_
            refine nx ?_
            refine wpC_seq ?_
            refine wpC_region ?_
            refine st_val (ex_move rfl) (by decide) trivial ?_
            refine st_val (ex_move rfl) (by decide) trivial ?_
            obtain ⟨x107, hx107, b98⟩ := bind_some b98
            refine st_op (by decide) trivial ?_
            refine wf_atP h79 hx107 rfl rfl Try.underlying129 Try.sizeOf4 ?_
            intro b108 c110 h113 h111 h112
            cases h112
            obtain ⟨x116, hx116, b98⟩ := bind_some b98
            refine st_op0 trivial ?_
            refine wf_storeW h79 h113 hx116 rfl (by decide) rfl rfl rfl Try.sizeOf4 rfl ?_
            intro w114 h117 s115
            replace h21 := h21.stp s115 (by decide) (by decide)
            replace h65 := h65.stp s115 (by decide) (by decide)
            replace h10 := h10.stp s115 (by decide)
            replace h73 := h73.stp s115 (by decide)
            replace h82 := h82.stp s115 (by decide)
            replace h83 := h83.stp s115 (by decide)
            replace h86 := h86.stp s115 (by decide) (by decide)
            replace hB := hB.stp s115 (by decide)
            refine wpF_end (r := [(1, (.pointer (some ⟨b9, 0, none⟩))), (3, v20), (4, v15), (8, (.pointer (some ⟨b68, 0, none⟩))), (10, (.int .i64 x101)), (20, (.int .i64 (p0.Ends.length : Int))), (21, (.int .i64 i26)), (38, v51), (39, (.int .i64 (x64.length : Int))), (40, (.int .i64 i91))]) ⟨rfl, rfl, rfl, rfl, rfl, rfl, rfl, rfl, rfl, rfl, trivial⟩ ?_
            refine nx ?_
            refine wpC_seq ?_
            refine wpC_region ?_
            refine st_val (ex_loadA rfl Try.isAgg31 Try.sizeOf31 rfl h10.cells) (by decide) trivial ?_
            refine st_val (ex_move rfl) (by decide) trivial ?_
            obtain ⟨x118, hx118, b98⟩ := bind_some b98
            refine st_op (by decide) trivial ?_
            refine wf_call (cIb_codeFrom fuel w114 o89 17 (by decide) _ p0 (⟨_, _, _, rfl, (h2.keep hB.keeps), (h4.keep hB.keeps), (h6.keep hB.keeps)⟩) x101 x118 hx118) Try.call67 ⟨rfl, rfl, trivial⟩ ?_
            rintro e128 w119 ⟨v120, v123, o129, rfl, h121, h124, k125, k126⟩
            have s127 := k125.stp' 17 k126
            replace h124 := h124.mono hB.keeps.size
            have h122 := h121.rd
            refine ⟨_, rfl, ?_⟩
            replace h21 := h21.stp s127 (by decide) (by decide)
            replace h117 := h117.stp s127 (by decide) (by decide)
            replace h65 := h65.stp s127 (by decide) (by decide)
            replace h10 := h10.stp s127 (by decide)
            replace h73 := h73.stp s127 (by decide)
            replace h82 := h82.stp s127 (by decide)
            replace h83 := h83.stp s127 (by decide)
            replace h86 := h86.stp s127 (by decide) (by decide)
            replace hB := hB.stp s127 (by decide)
            refine st_val (ex_move rfl) (by decide) trivial ?_
            refine st_val (ex_extract rfl rfl) (by decide) trivial ?_
            refine st_val (ex_extract rfl rfl) (by decide) trivial ?_
            refine st_val (ex_assign rfl) (by decide) trivial ?_
            refine st_val (ex_assign rfl) (by decide) trivial ?_
            refine wpF_end (r := [(1, (.pointer (some ⟨b9, 0, none⟩))), (3, v20), (4, v15), (8, (.pointer (some ⟨b68, 0, none⟩))), (11, v120), (12, v123), (20, (.int .i64 (p0.Ends.length : Int))), (21, (.int .i64 i26)), (38, v51), (39, (.int .i64 (x64.length : Int))), (40, (.int .i64 i91))]) ⟨rfl, rfl, rfl, rfl, rfl, rfl, rfl, rfl, rfl, rfl, rfl, trivial⟩ ?_
            refine nx ?_
            refine wpC_seq ?_
            refine wpC_region ?_
            refine st_val (ex_move rfl) (by decide) trivial ?_
            refine st_val (ex_field rfl Try.underlying106 rfl Try.sizeOf23) (by decide) trivial ?_
            refine st_val (ex_load1 rfl Try.isAgg23 (h73.cell rfl)) (by decide) trivial ?_
            obtain ⟨x130, hx130, b98⟩ := bind_some b98
            refine st_op (by decide) trivial ?_
            refine wf_call (cX_slices_Compare_int_int w119 _ x118.1 h122.z _ y80 h82.z x130 hx130) Try.call107 ⟨rfl, rfl, trivial⟩ ?_
            rintro e135 w131 ⟨rfl, k132⟩
            have s134 := k132.stp 999 o129
            refine ⟨_, rfl, ?_⟩
            replace h21 := h21.stp s134 (by decide) (by decide)
            replace h117 := h117.stp s134 (by decide) (by decide)
            replace h122 := h122.stp s134 (by decide)
            replace h121 := h121.stp s134 (by decide)
            replace h124 := h124.stp s134 (by decide) (by decide)
            replace h65 := h65.stp s134 (by decide) (by decide)
            replace h82 := h82.stp s134 (by decide)
            replace h83 := h83.stp s134 (by decide)
            replace h10 := h10.stp s134 (by decide)
            replace h73 := h73.stp s134 (by decide)
            replace h86 := h86.stp s134 (by decide) (by decide)
            replace hB := hB.stp s134 (by decide)
            refine st_val (ex_assign rfl) (by decide) trivial ?_
            refine wpF_end (r := [(1, (.pointer (some ⟨b9, 0, none⟩))), (3, v20), (4, v15), (8, (.pointer (some ⟨b68, 0, none⟩))), (11, v120), (12, v123), (13, (.int .i64 x130)), (20, (.int .i64 (p0.Ends.length : Int))), (21, (.int .i64 i26)), (38, v51), (39, (.int .i64 (x64.length : Int))), (40, (.int .i64 i91))]) ⟨rfl, rfl, rfl, rfl, rfl, rfl, rfl, rfl, rfl, rfl, rfl, rfl, trivial⟩ ?_
            refine nx ?_
            refine wpC_block ?_
            refine wpC_seq ?_
            refine wpC_region ?_
            refine st_val (ex_field rfl Try.underlying106 rfl Try.sizeOf23) (by decide) trivial ?_
            refine st_val (ex_load1 rfl Try.isAgg23 (h73.cell rfl)) (by decide) trivial ?_
            refine st_val (ex_eqlnilX h87 h86.z rfl rfl Try.underlying23) (by decide) trivial ?_
            refine st_val (ex_move rfl) (by decide) trivial ?_
            obtain ⟨q136, hq136, b98⟩ := bind_some b98
            refine wpF_cutAt 3 (fun a138 w137 => Fr a138 86 [(1, (.pointer (some ⟨b9, 0, none⟩))), (3, v20), (4, v15), (8, (.pointer (some ⟨b68, 0, none⟩))), (11, v120), (12, v123), (13, (.int .i64 x130)), (20, (.int .i64 (p0.Ends.length : Int))), (21, (.int .i64 i26)), (38, v51), (39, (.int .i64 (x64.length : Int))), (40, (.int .i64 i91)), (64, (.bool q136))] ∧ Keeps w131 w137) ?_ ?_
            all_goals simp only [List.take_succ_cons, List.take_zero, List.drop_succ_cons, List.drop_zero]
            · have kp : Keeps w131 w131 := Keeps.refl _
              rcases Bool.eq_false_or_eq_true (y84.isEmpty) with t139 | t139
              · rw [if_pos t139] at hq136
                refine st_no rfl rfl (by rw [t139]; rfl) (by decide) ?_
                refine st_no rfl rfl (by rw [t139]; rfl) (by decide) ?_
                refine st_val (ex_pick_t (congrArg (fun b => some (Value.bool b)) t139) rfl) (by decide) trivial ?_
                have hq1362 := Option.some.inj hq136
                refine wpF_end (r := [(1, (.pointer (some ⟨b9, 0, none⟩))), (3, v20), (4, v15), (8, (.pointer (some ⟨b68, 0, none⟩))), (11, v120), (12, v123), (13, (.int .i64 x130)), (20, (.int .i64 (p0.Ends.length : Int))), (21, (.int .i64 i26)), (38, v51), (39, (.int .i64 (x64.length : Int))), (40, (.int .i64 i91)), (64, (.bool true))]) ⟨rfl, rfl, rfl, rfl, rfl, rfl, rfl, rfl, rfl, rfl, rfl, rfl, rfl, trivial⟩ ?_
                subst hq1362
                refine np_norm (fun a ha => ⟨ha, kp⟩)
              · rw [if_neg (by rw [t139]; decide)] at hq136
                refine st_val (ex_move rfl) (by decide) ⟨_, rfl, (congrArg (fun b => some (Value.bool b)) t139)⟩ ?_
                refine st_val (ex_lss rfl rfl) (by decide) ⟨_, rfl, (congrArg (fun b => some (Value.bool b)) t139)⟩ ?_
                refine st_val (ex_pick_f (congrArg (fun b => some (Value.bool b)) t139) rfl) (by decide) trivial ?_
                have hq1362 := Option.some.inj hq136
                refine wpF_end (r := [(1, (.pointer (some ⟨b9, 0, none⟩))), (3, v20), (4, v15), (8, (.pointer (some ⟨b68, 0, none⟩))), (11, v120), (12, v123), (13, (.int .i64 x130)), (20, (.int .i64 (p0.Ends.length : Int))), (21, (.int .i64 i26)), (38, v51), (39, (.int .i64 (x64.length : Int))), (40, (.int .i64 i91)), (64, (.bool (decide (x130 < 0))))]) ⟨rfl, rfl, rfl, rfl, rfl, rfl, rfl, rfl, rfl, rfl, rfl, rfl, rfl, trivial⟩ ?_
                subst hq1362
                refine np_norm (fun a ha => ⟨ha, kp⟩)
            rintro a142 w137 ⟨ha, k140⟩
            have s141 := k140.stp 999 o129
            replace h21 := h21.stp s141 (by decide) (by decide)
            replace h117 := h117.stp s141 (by decide) (by decide)
            replace h122 := h122.stp s141 (by decide)
            replace h121 := h121.stp s141 (by decide)
            replace h124 := h124.stp s141 (by decide) (by decide)
            replace h65 := h65.stp s141 (by decide) (by decide)
            replace h10 := h10.stp s141 (by decide)
            replace h73 := h73.stp s141 (by decide)
            replace h82 := h82.stp s141 (by decide)
            replace h83 := h83.stp s141 (by decide)
            replace h86 := h86.stp s141 (by decide) (by decide)
            replace hB := hB.stp s141 (by decide)
            refine wl_of ha ?_
            refine st_val (ex_assign rfl) (by decide) trivial ?_
            refine wpF_end (r := [(1, (.pointer (some ⟨b9, 0, none⟩))), (3, v20), (4, v15), (8, (.pointer (some ⟨b68, 0, none⟩))), (11, v120), (12, v123), (13, (.int .i64 x130)), (20, (.int .i64 (p0.Ends.length : Int))), (21, (.int .i64 i26)), (38, v51), (39, (.int .i64 (x64.length : Int))), (40, (.int .i64 i91)), (57, (.bool q136))]) ⟨rfl, rfl, rfl, rfl, rfl, rfl, rfl, rfl, rfl, rfl, rfl, rfl, rfl, trivial⟩ ?_
            refine nx ?_
            refine wpC_cond rfl (fun t143 => ?_) (fun t143 => ?_)
            · rw [if_pos t143] at b98
              refine wpC_region ?_
              refine st_val (ex_move rfl) (by decide) trivial ?_
              refine st_val (ex_move rfl) (by decide) trivial ?_
              refine st_val (ex_field rfl Try.underlying106 rfl Try.sizeOf23) (by decide) trivial ?_
              refine st_op0 trivial ?_
              refine wf_storeB h73 rfl rfl (of_decide_eq_true rfl) Try.sizeOf23 h122.cells1 h122.one1 ?_
              intro w144 h146 s145
              replace h21 := h21.stp s145 (by decide) (by decide)
              replace h117 := h117.stp s145 (by decide) (by decide)
              replace h122 := h122.stp s145 (by decide)
              replace h121 := h121.stp s145 (by decide)
              replace h124 := h124.stp s145 (by decide) (by decide)
              replace h65 := h65.stp s145 (by decide) (by decide)
              replace h10 := h10.stp s145 (by decide)
              replace h82 := h82.stp s145 (by decide)
              replace h83 := h83.stp s145 (by decide)
              replace h86 := h86.stp s145 (by decide) (by decide)
              replace hB := hB.stp s145 (by decide)
              replace h146 : Bx w.heap.size 15 o129 w144 b68 106 [v120, v85, (.int .i64 i26), (.int .i64 y88)] := h146
              refine st_val (ex_field rfl Try.underlying106 rfl Try.sizeOf23) (by decide) trivial ?_
              obtain ⟨x149, hx149, b98⟩ := bind_some b98
              have h150 := nx_of h124.z hx149
              refine st_op0 trivial ?_
              refine wf_storeB h146 rfl rfl (of_decide_eq_true rfl) Try.sizeOf23 h124.cells1 h124.one1 ?_
              intro w147 h151 s148
              replace h21 := h21.stp s148 (by decide) (by decide)
              replace h117 := h117.stp s148 (by decide) (by decide)
              replace h122 := h122.stp s148 (by decide)
              replace h121 := h121.stp s148 (by decide)
              replace h124 := h124.stp s148 (by decide) (by decide)
              replace h65 := h65.stp s148 (by decide) (by decide)
              replace h10 := h10.stp s148 (by decide)
              replace h86 := h86.stp s148 (by decide) (by decide)
              replace hB := hB.stp s148 (by decide)
              replace h151 : Bx w.heap.size 15 o129 w147 b68 106 [v120, v123, (.int .i64 i26), (.int .i64 y88)] := h151
              refine st_val (ex_field rfl Try.underlying106 rfl Try.sizeOf3) (by decide) trivial ?_
              refine st_op0 trivial ?_
              refine wf_storeB h151 rfl rfl (of_decide_eq_true rfl) Try.sizeOf3 rfl rfl ?_
              intro w152 h154 s153
              replace h21 := h21.stp s153 (by decide) (by decide)
              replace h117 := h117.stp s153 (by decide) (by decide)
              replace h122 := h122.stp s153 (by decide)
              replace h121 := h121.stp s153 (by decide)
              replace h124 := h124.stp s153 (by decide) (by decide)
              replace h65 := h65.stp s153 (by decide) (by decide)
              replace h10 := h10.stp s153 (by decide)
              replace hB := hB.stp s153 (by decide)
              replace h154 : Bx w.heap.size 15 o129 w152 b68 106 [v120, v123, (.int .i64 i26), (.int .i64 1)] := h154
              refine wpF_end (r := [(1, (.pointer (some ⟨b9, 0, none⟩))), (3, v20), (4, v15), (8, (.pointer (some ⟨b68, 0, none⟩))), (20, (.int .i64 (p0.Ends.length : Int))), (21, (.int .i64 i26)), (38, v51), (39, (.int .i64 (x64.length : Int))), (40, (.int .i64 i91))]) ⟨rfl, rfl, rfl, rfl, rfl, rfl, rfl, rfl, rfl, trivial⟩ ?_
              refine nb_norm ?_
              refine nb_norm ?_
              refine nx ?_
              refine wpC_region ?_
              refine st_val (ex_add rfl rfl (ck_in (by omega) (by omega))) (by decide) trivial ?_
              refine st_val (ex_move rfl) (by decide) trivial ?_
              refine wpF_end (r := [(1, (.pointer (some ⟨b9, 0, none⟩))), (3, v20), (4, v15), (8, (.pointer (some ⟨b68, 0, none⟩))), (20, (.int .i64 (p0.Ends.length : Int))), (21, (.int .i64 i26)), (38, v51), (39, (.int .i64 (x64.length : Int))), (40, (.int .i64 (i91 + 1)))]) ⟨rfl, rfl, rfl, rfl, rfl, rfl, rfl, rfl, rfl, trivial⟩ ?_
              refine nt_norm ?_
              have e155 := Option.some.inj b98
              subst e155
              replace h21 := h21.rtg_ne (k := 17) (k' := 16) (by decide) (by decide) (by decide)
              replace h117 := h117.rtg_ne (k := 17) (k' := 16) (by decide) (by decide) (by decide)
              replace h65 := h65.rtg_ne (k := 17) (k' := 16) (by decide) (by decide) (by decide)
              replace h10 := h10.rtg_ne (k := 17) (k' := 16) (by decide) (by decide)
              replace h154 := h154.rtg_ne (k := 17) (k' := 16) (by decide) (by decide)
              replace h122 := h122.rtg 17 16 (by decide)
              replace h121 := h121.rtg (k := 17) (k' := 16) (by decide) (by decide) (by decide)
              replace h124 := h124.rtg 16 (by decide)
              replace hB := hB.rtg 17 16 (by decide) (by decide)
              generalize (rtg 17 16 o129) = o156 at *
              refine to_k (r := [(1, (.pointer (some ⟨b9, 0, none⟩))), (3, v20), (4, v15), (8, (.pointer (some ⟨b68, 0, none⟩))), (20, (.int .i64 (p0.Ends.length : Int))), (21, (.int .i64 i26)), (38, v51), (39, (.int .i64 (x64.length : Int))), (40, (.int .i64 (i91 + 1)))]) ⟨rfl, rfl, rfl, rfl, rfl, rfl, rfl, rfl, rfl, trivial⟩ ?_
              intro a ha
              exact ⟨_, (by rw [← m95]; simp only [List.length_drop]; omega), i91 + 1, x116, x118.1, x118.2, 1, v120, v123, o156, n99, rfl, (by omega), ha, hB, h21, h117, h65, h10, h154, h122, h121, h124, h150⟩
            · rw [if_neg (by rw [t143]; decide)] at b98
              refine wpC_seq ?_
              refine wpC_region ?_
              refine st_val (ex_move rfl) (by decide) trivial ?_
              refine st_val (ex_eql rfl rfl) (by decide) trivial ?_
              refine st_val (ex_assign rfl) (by decide) trivial ?_
              refine wpF_end (r := [(1, (.pointer (some ⟨b9, 0, none⟩))), (3, v20), (4, v15), (8, (.pointer (some ⟨b68, 0, none⟩))), (20, (.int .i64 (p0.Ends.length : Int))), (21, (.int .i64 i26)), (38, v51), (39, (.int .i64 (x64.length : Int))), (40, (.int .i64 i91)), (70, (.bool (x130 == 0)))]) ⟨rfl, rfl, rfl, rfl, rfl, rfl, rfl, rfl, rfl, rfl, trivial⟩ ?_
              refine nx ?_
              refine wpC_cond rfl (fun t157 => ?_) (fun t157 => ?_)
              · rw [if_pos t157] at b98
                refine wpC_region ?_
                refine st_val (ex_field rfl Try.underlying106 rfl Try.sizeOf3) (by decide) trivial ?_
                refine st_val (ex_load1 rfl Try.isAgg3 (h73.cell rfl)) (by decide) trivial ?_
                obtain ⟨x158, hx158, b98⟩ := bind_some b98
                refine st_val (ex_add rfl rfl hx158) (by decide) trivial ?_
                refine st_val (ex_field rfl Try.underlying106 rfl Try.sizeOf3) (by decide) trivial ?_
                refine st_op0 trivial ?_
                refine wf_storeB h73 rfl rfl (of_decide_eq_true rfl) Try.sizeOf3 rfl rfl ?_
                intro w159 h161 s160
                replace h21 := h21.stp s160 (by decide) (by decide)
                replace h117 := h117.stp s160 (by decide) (by decide)
                replace h65 := h65.stp s160 (by decide) (by decide)
                replace h10 := h10.stp s160 (by decide)
                replace h82 := h82.stp s160 (by decide)
                replace h83 := h83.stp s160 (by decide)
                replace h86 := h86.stp s160 (by decide) (by decide)
                replace hB := hB.stp s160 (by decide)
                replace h161 : Bx w.heap.size 15 o129 w159 b68 106 [v81, v85, (.int .i64 i26), (.int .i64 x158)] := h161
                refine wpF_end (r := [(1, (.pointer (some ⟨b9, 0, none⟩))), (3, v20), (4, v15), (8, (.pointer (some ⟨b68, 0, none⟩))), (20, (.int .i64 (p0.Ends.length : Int))), (21, (.int .i64 i26)), (38, v51), (39, (.int .i64 (x64.length : Int))), (40, (.int .i64 i91))]) ⟨rfl, rfl, rfl, rfl, rfl, rfl, rfl, rfl, rfl, trivial⟩ ?_
                refine nb_norm ?_
                refine nb_norm ?_
                refine nx ?_
                refine wpC_region ?_
                refine st_val (ex_add rfl rfl (ck_in (by omega) (by omega))) (by decide) trivial ?_
                refine st_val (ex_move rfl) (by decide) trivial ?_
                refine wpF_end (r := [(1, (.pointer (some ⟨b9, 0, none⟩))), (3, v20), (4, v15), (8, (.pointer (some ⟨b68, 0, none⟩))), (20, (.int .i64 (p0.Ends.length : Int))), (21, (.int .i64 i26)), (38, v51), (39, (.int .i64 (x64.length : Int))), (40, (.int .i64 (i91 + 1)))]) ⟨rfl, rfl, rfl, rfl, rfl, rfl, rfl, rfl, rfl, trivial⟩ ?_
                refine nt_norm ?_
                have e162 := Option.some.inj b98
                subst e162
                refine to_k (r := [(1, (.pointer (some ⟨b9, 0, none⟩))), (3, v20), (4, v15), (8, (.pointer (some ⟨b68, 0, none⟩))), (20, (.int .i64 (p0.Ends.length : Int))), (21, (.int .i64 i26)), (38, v51), (39, (.int .i64 (x64.length : Int))), (40, (.int .i64 (i91 + 1)))]) ⟨rfl, rfl, rfl, rfl, rfl, rfl, rfl, rfl, rfl, trivial⟩ ?_
                intro a ha
                exact ⟨_, (by rw [← m95]; simp only [List.length_drop]; omega), i91 + 1, x116, y80, y84, x158, v81, v85, o129, n99, rfl, (by omega), ha, hB, h21, h117, h65, h10, h161, h82, h83, h86, h87⟩
              · rw [if_neg (by rw [t157]; decide)] at b98
                refine wpC_skip ?_
                refine nb_norm ?_
                refine nb_norm ?_
                refine nx ?_
                refine wpC_region ?_
                refine st_val (ex_add rfl rfl (ck_in (by omega) (by omega))) (by decide) trivial ?_
                refine st_val (ex_move rfl) (by decide) trivial ?_
                refine wpF_end (r := [(1, (.pointer (some ⟨b9, 0, none⟩))), (3, v20), (4, v15), (8, (.pointer (some ⟨b68, 0, none⟩))), (20, (.int .i64 (p0.Ends.length : Int))), (21, (.int .i64 i26)), (38, v51), (39, (.int .i64 (x64.length : Int))), (40, (.int .i64 (i91 + 1)))]) ⟨rfl, rfl, rfl, rfl, rfl, rfl, rfl, rfl, rfl, trivial⟩ ?_
                refine nt_norm ?_
                have e163 := Option.some.inj b98
                subst e163
                refine to_k (r := [(1, (.pointer (some ⟨b9, 0, none⟩))), (3, v20), (4, v15), (8, (.pointer (some ⟨b68, 0, none⟩))), (20, (.int .i64 (p0.Ends.length : Int))), (21, (.int .i64 i26)), (38, v51), (39, (.int .i64 (x64.length : Int))), (40, (.int .i64 (i91 + 1)))]) ⟨rfl, rfl, rfl, rfl, rfl, rfl, rfl, rfl, rfl, trivial⟩ ?_
                intro a ha
                exact ⟨_, (by rw [← m95]; simp only [List.length_drop]; omega), i91 + 1, x116, y80, y84, y88, v81, v85, o129, n99, rfl, (by omega), ha, hB, h21, h117, h65, h10, h73, h82, h83, h86, h87⟩
          · have r164 := forI_done t100 l93
            refine wp_of ha ?_
            refine wpC_seq ?_
            refine wpC_region ?_
            refine st_val (ex_lss rfl rfl) (by decide) trivial ?_
            refine wpF_end (r := [(1, (.pointer (some ⟨b9, 0, none⟩))), (3, v20), (4, v15), (8, (.pointer (some ⟨b68, 0, none⟩))), (20, (.int .i64 (p0.Ends.length : Int))), (21, (.int .i64 i26)), (38, v51), (39, (.int .i64 (x64.length : Int))), (40, (.int .i64 i91)), (41, (.bool (decide (i91 < (x64.length : Int)))))]) ⟨rfl, rfl, rfl, rfl, rfl, rfl, rfl, rfl, rfl, rfl, trivial⟩ ?_
            refine nx ?_
            refine wpC_seq ?_
            refine wpC_false (congrArg (fun b => some (Value.bool b)) (decide_eq_false t100)) ?_
            refine wpC_exit ?_
            refine nt_exit ?_
            refine nt_exit ?_
            refine nb_hit ?_
            refine np_norm ?_
            refine to_k (r := [(1, (.pointer (some ⟨b9, 0, none⟩))), (3, v20), (4, v15), (8, (.pointer (some ⟨b68, 0, none⟩))), (20, (.int .i64 (p0.Ends.length : Int))), (21, (.int .i64 i26))]) ⟨rfl, rfl, rfl, rfl, rfl, rfl, trivial⟩ ?_
            intro a ha
            exact ⟨y78, y80, y84, y88, v81, v85, o89, r164, ha, hB, h21, h79, h10, h73, h82, h83, h86, h87⟩
        · rintro a w90 ⟨y78, y80, y84, y88, v81, v85, o89, rfl, ha, hB, h21, h79, h10, h73, h82, h83, h86, h87⟩
          dsimp only at b35
          refine ap_k ha ?_
          refine nx ?_
          refine wpC_region ?_
          refine st_val (ex_move rfl) (by decide) trivial ?_
          refine st_val (ex_loadA rfl Try.isAgg106 Try.sizeOf106 rfl h73.cells) (by decide) trivial ?_
          replace h21 := h21.frz_ne (j := 16) (by decide)
          replace h79 := h79.frz_ne (j := 16) (by decide)
          replace h82 := h82.frz 16
          replace h83 := h83.frz 16 (by decide)
          have h165 := h86.frzF
          replace h86 := h86.frz
          replace h10 := h10.frz_ne (j := 16) (by decide)
          replace h73 := h73.frz_ne (j := 16) (by decide)
          replace hB := hB.frz 16 (by decide)
          generalize (frz 16 o89) = o166 at *
          refine st_op (by decide) trivial ?_
          refine wf_litR (α := T_component) (o := o166) (cs := [v81, v85, (.int .i64 i26), (.int .i64 y88)]) (xs := ([(⟨y80, y84, i26, y88⟩ : T_component)] : List T_component)) (vs := [(0, (.agg #[v81, v85, (.int .i64 i26), (.int .i64 y88)]))]) ⟨[v81, v85, (.int .i64 i26), (.int .i64 y88)], _, rfl, ⟨_, _, rfl, h82, h86⟩, rfl⟩ rfl ⟨rfl, rfl, trivial⟩ Try.underlying103 Try.sizeOf106 Try.zeroValue106 (by decide) (fillS 4 rfl rfl (by decide)) (by simp) ?_
          intro o167 w168 v169 h170 s171 k172
          replace h21 := h21.stp s171 (by decide) (by decide)
          replace h79 := h79.stp s171 (by decide) (by decide)
          replace h82 := h82.stp s171 (by decide)
          replace h83 := h83.stp s171 (by decide)
          replace h86 := h86.stp s171 (by decide)
          replace h165 := h165.stp s171 (by decide)
          replace h10 := h10.stp s171 (by decide)
          replace h73 := h73.stp s171 (by decide)
          replace hB := hB.stp s171 (by decide)
          obtain ⟨x173, hx173, b35⟩ := bind_some b35
          refine st_op (by decide) trivial ?_
          refine wf_cat h21 h170 (push_cat hx173) (by decide) hB.keeps.size rfl rfl Try.underlying103 info2_t_impl_component_Apb rfl (by decide) ?_
          intro o174 w175 v176 h177 s178
          replace h79 := h79.stp s178 (by decide) (by decide)
          replace h82 := h82.stp s178 (by decide)
          replace h83 := h83.stp s178 (by decide)
          replace h86 := h86.stp s178 (by decide)
          replace h165 := h165.stp s178 (by decide)
          replace h170 := h170.stp s178 (by decide)
          replace h10 := h10.stp s178 (by decide)
          replace h73 := h73.stp s178 (by decide)
          replace hB := hB.stp s178 (by decide)
          refine st_val (ex_assign rfl) (by decide) trivial ?_
          refine wpF_end (r := [(1, (.pointer (some ⟨b9, 0, none⟩))), (3, v176), (4, v15), (20, (.int .i64 (p0.Ends.length : Int))), (21, (.int .i64 i26))]) ⟨rfl, rfl, rfl, rfl, rfl, trivial⟩ ?_
          refine nb_norm ?_
          refine nx ?_
          refine wpC_region ?_
          refine st_val (ex_add rfl rfl (ck_in (by omega) (by omega))) (by decide) trivial ?_
          refine st_val (ex_move rfl) (by decide) trivial ?_
          refine wpF_end (r := [(1, (.pointer (some ⟨b9, 0, none⟩))), (3, v176), (4, v15), (20, (.int .i64 (p0.Ends.length : Int))), (21, (.int .i64 (i26 + 1)))]) ⟨rfl, rfl, rfl, rfl, rfl, trivial⟩ ?_
          refine nt_norm ?_
          have e179 := Option.some.inj b35
          subst e179
          refine to_k (r := [(1, (.pointer (some ⟨b9, 0, none⟩))), (3, v176), (4, v15), (20, (.int .i64 (p0.Ends.length : Int))), (21, (.int .i64 (i26 + 1)))]) ⟨rfl, rfl, rfl, rfl, rfl, trivial⟩ ?_
          intro a ha
          exact ⟨_, (by rw [← m32]; omega), i26 + 1, x173, y78, v176, o174, n36, rfl, (by omega), ha, hB, h177, h79, h10⟩
        · exact fun _ _ h => h.elim
    · have r180 := forN_done t37 l30
      refine wp_of ha ?_
      refine wpC_seq ?_
      refine wpC_region ?_
      refine st_val (ex_lss rfl rfl) (by decide) trivial ?_
      refine wpF_end (r := [(1, (.pointer (some ⟨b9, 0, none⟩))), (3, v20), (4, v15), (20, (.int .i64 (p0.Ends.length : Int))), (21, (.int .i64 i26)), (22, (.bool (decide (i26 < (p0.Ends.length : Int)))))]) ⟨rfl, rfl, rfl, rfl, rfl, rfl, trivial⟩ ?_
      refine nx ?_
      refine wpC_seq ?_
      refine wpC_false (congrArg (fun b => some (Value.bool b)) (decide_eq_false t37)) ?_
      refine wpC_exit ?_
      refine nt_exit ?_
      refine nt_exit ?_
      refine nb_hit ?_
      refine np_norm ?_
      refine to_k (r := [(3, v20)]) ⟨rfl, trivial⟩ ?_
      intro a ha
      exact ⟨y19, y22, v20, o24, r180, ha, hB, h21⟩
  · rintro a w25 ⟨y19, y22, v20, o24, rfl, ha, hB, h21⟩
    dsimp only at hF
    refine ap_k ha ?_
    refine nx ?_
    refine wpC_seq ?_
    refine wpC_region ?_
    refine st_val (ex_move rfl) (by decide) trivial ?_
    obtain ⟨x181, hx181, hF⟩ := bind_some hF
    refine st_op (by decide) trivial ?_
    refine wf_call (cX_SortFuncC h21 (by decide) hx181) Try.call123 ⟨rfl, rfl, trivial⟩ ?_
    rintro e183 w182 ⟨rfl, h184, s185⟩
    refine ⟨_, rfl, ?_⟩
    replace hB := hB.stp s185 (by decide)
    refine wpF_end (r := [(3, v20)]) ⟨rfl, trivial⟩ ?_
    refine nx ?_
    refine wpC_seq ?_
    refine wpC_region ?_
    refine st_val (ex_move rfl) (by decide) trivial ?_
    refine st_val (ex_assign rfl) (by decide) trivial ?_
    refine wpF_end (r := [(2, v20)]) ⟨rfl, trivial⟩ ?_
    refine nx ?_
    refine wpC_ret ?_
    have e186 := Option.some.inj hF
    subst e186
    refine ret_post (P := Try.prog) (vs := [v20]) Try.results87 ⟨rfl, trivial⟩ ?_
    exact ⟨_, rt oo o24 w.heap.size 13 t, rfl, h184.rt hB (by decide) t, hB.keeps, rt_old _ _ _ _ _⟩
  · exact fun _ _ h => h.elim

def fI_AutomorphismCount_s1 (x20 : List T_component) : Int → T_component → (Int × Int) → Option (Lp (Int × Int) (Int × Int) (Int × Bool)) := fun (i33 : Int) (x43 : T_component) (s : Int × Int) =>
  (ck (s.2 + 1)) >>= fun x61 =>
  (
    if i33 == 0 then
      some true
    else
      (ck (i33 - 1)) >>= fun x117 =>
      (ix x20 x117) >>= fun x118 =>
      (fX_slices_Equal_int_int x118.code x43.code) >>= fun x198 =>
      some (!x198)) >>= fun q62 =>
  if q62 then
    (ck (x43.roots * 1)) >>= fun x207 =>
    (ck (s.1 * x207)) >>= fun x208 =>
    if decide (x208 > 1000000000000) then
      some (.ret (0, false))
    else
      some (.go (x208, 1))
  else
    (ck (x43.roots * x61)) >>= fun x212 =>
    (ck (s.1 * x212)) >>= fun x213 =>
    if decide (x213 > 1000000000000) then
      some (.ret (0, false))
    else
      some (.go (x213, x61))
def fI_AutomorphismCount (fuel : Nat) (p0 : T_Network) : Option (Int × Bool) :=
  (fI_IsNetwork p0) >>= fun x12 =>
  if !x12 then
    some (0, false)
  else
    (fI_componentsOf fuel p0) >>= fun x20 =>
    (forI (fI_AutomorphismCount_s1 x20) x20 0 (1, 0)) >>= fun q34 =>
    match q34 with
    | .inl (y29, y30) =>
      some (y29, true)
    | .inr r' => some r'

def pI_AutomorphismCount (w : World) (r : Int × Bool) : Ending → World → Prop := fun e w' => e = .returned (.tuple #[.int .i64 r.1, .bool r.2]) ∧ Keeps w w'
set_option maxRecDepth 100000 in
set_option maxHeartbeats 2000000 in
theorem cI_AutomorphismCount (fuel : Nat) (w : World) (u0 : List Value) (p0 : T_Network) (g0 : Rp.rd zt w u0 p0) (r : Int × Bool) (hF : fI_AutomorphismCount fuel p0 = some r) :
    Calls Try.prog 52 #[.agg u0.toArray] w (pI_AutomorphismCount w r) := by
  unfold fI_AutomorphismCount at hF
  obtain ⟨v1, v3, v5, rfl, h2, h4, h6⟩ := g0
  have hB : Bs (fun _ => 1) (col (fun _ => 1)) w w := Bs.start _ _
  refine calls_start (n := 47) (vs := [(.agg #[v1, v3, v5])]) Try.func52 rfl rfl ?_
  refine wpC_seq ?_
  refine wpC_region ?_
  refine st_op (by decide) trivial ?_
  refine wf_box (o := (col (fun _ => 1))) w.heap.size 11 hB.keeps.size (cs := [v1, v3, v5]) rfl rfl ?_
  intro o7 w8 b9 h10 s11
  replace hB := hB.stp s11 (by decide)
  refine st_val (ex_assign rfl) (by decide) trivial ?_
  refine st_val (ex_assign rfl) (by decide) trivial ?_
  refine wpF_end (r := [(1, (.pointer (some ⟨b9, 0, none⟩)))]) ⟨rfl, trivial⟩ ?_
  refine nx ?_
  refine wpC_seq ?_
  refine wpC_seq ?_
  refine wpC_region ?_
  refine st_val (ex_loadA rfl Try.isAgg31 Try.sizeOf31 rfl h10.cells) (by decide) trivial ?_
  obtain ⟨x12, hx12, hF⟩ := bind_some hF
  refine st_op (by decide) trivial ?_
  refine wf_call (cI_IsNetwork w8 _ p0 (⟨_, _, _, rfl, (h2.keep hB.keeps), (h4.keep hB.keeps), (h6.keep hB.keeps)⟩) x12 hx12) Try.call65 ⟨rfl, trivial⟩ ?_
  rintro e17 w13 ⟨rfl, k14⟩
  have s16 := k14.stp 999 o7
  refine ⟨_, rfl, ?_⟩
  replace h10 := h10.stp s16 (by decide)
  replace hB := hB.stp s16 (by decide)
  refine st_val (ex_not rfl) (by decide) trivial ?_
  refine wpF_end (r := [(1, (.pointer (some ⟨b9, 0, none⟩))), (11, (.bool (!x12)))]) ⟨rfl, rfl, trivial⟩ ?_
  refine nx ?_
  refine wpC_cond rfl (fun t18 => ?_) (fun t18 => ?_)
  · rw [if_pos t18] at hF
    refine wpC_seq ?_
    refine wpC_region ?_
    refine st_val (ex_assign rfl) (by decide) trivial ?_
    refine st_val (ex_assign rfl) (by decide) trivial ?_
    refine wpF_end (r := [(2, (.int .i64 0)), (3, (.bool false))]) ⟨rfl, rfl, trivial⟩ ?_
    refine nx ?_
    refine wpC_ret ?_
    refine nt_ret ?_
    have e19 := Option.some.inj hF
    subst e19
    refine ret_post (P := Try.prog) (vs := [(.int .i64 0), (.bool false)]) Try.results52 ⟨rfl, rfl, trivial⟩ ?_
    exact ⟨rfl, hB.keeps⟩
  · rw [if_neg (by rw [t18]; decide)] at hF
    refine wpC_skip ?_
    refine nx ?_
    refine wpC_seq ?_
    refine wpC_region ?_
    refine st_val (ex_assign rfl) (by decide) trivial ?_
    refine st_val (ex_assign rfl) (by decide) trivial ?_
    refine wpF_end (r := [(1, (.pointer (some ⟨b9, 0, none⟩))), (4, (.int .i64 1)), (5, (.int .i64 0))]) ⟨rfl, rfl, rfl, trivial⟩ ?_
    refine nx ?_
    refine wpC_seq ?_
    refine wpC_region ?_
    refine st_val (ex_loadA rfl Try.isAgg31 Try.sizeOf31 rfl h10.cells) (by decide) trivial ?_
    obtain ⟨x20, hx20, hF⟩ := bind_some hF
    refine st_op (by decide) trivial ?_
    refine wf_call (cI_componentsOf fuel w13 o7 13 (by decide) _ p0 (⟨_, _, _, rfl, (h2.keep hB.keeps), (h4.keep hB.keeps), (h6.keep hB.keeps)⟩) x20 hx20) Try.call87 ⟨rfl, trivial⟩ ?_
    rintro e27 w21 ⟨v22, o28, rfl, h23, k24, k25⟩
    have s26 := k24.stp' 13 k25
    replace h23 := h23.mono hB.keeps.size
    refine ⟨_, rfl, ?_⟩
    replace h10 := h10.stp s26 (by decide)
    replace hB := hB.stp s26 (by decide)
    refine st_val (ex_assign rfl) (by decide) trivial ?_
    refine wpF_end (r := [(4, (.int .i64 1)), (5, (.int .i64 0)), (6, v22)]) ⟨rfl, rfl, rfl, trivial⟩ ?_
    refine nx ?_
    refine wpC_seq ?_
    refine wpC_seq ?_
    refine wpC_region ?_
    refine st_val (ex_move rfl) (by decide) trivial ?_
    refine st_val (ex_lenO rfl h23 Try.underlying103) (by decide) trivial ?_
    refine st_val (ex_move rfl) (by decide) trivial ?_
    refine wpF_end (r := [(4, (.int .i64 1)), (5, (.int .i64 0)), (6, v22), (14, v22), (15, (.int .i64 (x20.length : Int))), (16, (.int .i64 0))]) ⟨rfl, rfl, rfl, rfl, rfl, rfl, trivial⟩ ?_
    refine nx ?_
    obtain ⟨q34, hq34, hF⟩ := bind_some hF
    refine wpC_cutN (fun a w32 => ∃ (y29 : Int) (y30 : Int) (o31 : Tg), q34 = .inl (y29, y30) ∧ Fr a 47 [(4, (.int .i64 y29))] ∧ Bs (fun _ => 1) o31 w w32) (fun a w' => ∃ r', q34 = .inr r' ∧ bodyPost Try.prog Try.f52 (pI_AutomorphismCount w r') .ret a w') ?_ ?_ ?_
    · refine wpC_block ?_
      refine wpC_loop (fun (K : Nat) a w32 => ∃ (i33 : Int) (y29 : Int) (y30 : Int) (o31 : Tg), forI (fI_AutomorphismCount_s1 x20) (x20.drop i33.toNat) i33 (y29, y30) = some q34 ∧ (x20.drop i33.toNat).length = K ∧ 0 ≤ i33 ∧ Fr a 47 [(4, (.int .i64 y29)), (5, (.int .i64 y30)), (6, v22), (14, v22), (15, (.int .i64 (x20.length : Int))), (16, (.int .i64 i33))] ∧ Bs (fun _ => 1) o31 w w32 ∧ Ow w.heap.size 106 13 o31 w32 v22 x20) _ (fun a ha => ⟨0, 1, 0, o28, hq34, rfl, Int.le_refl 0, ha.sub (r := [(4, (.int .i64 1)), (5, (.int .i64 0)), (6, v22), (14, v22), (15, (.int .i64 (x20.length : Int))), (16, (.int .i64 0))]) ⟨rfl, rfl, rfl, rfl, rfl, rfl, trivial⟩, hB, h23⟩) ?_
      rintro K38 a w32 ⟨i33, y29, y30, o31, l35, m37, z36, ha, hB, h23⟩
      by_cases t42 : i33 < (x20.length : Int)
      · obtain ⟨x43, q39, hx43, b40, n41⟩ := forI_cons z36 t42 l35
        have hle := h23.len_le
        dsimp only [fI_AutomorphismCount_s1] at b40
        refine wp_of ha ?_
        refine wpC_seq ?_
        refine wpC_region ?_
        refine st_val (ex_lss rfl rfl) (by decide) trivial ?_
        refine wpF_end (r := [(4, (.int .i64 y29)), (5, (.int .i64 y30)), (6, v22), (14, v22), (15, (.int .i64 (x20.length : Int))), (16, (.int .i64 i33)), (17, (.bool (decide (i33 < (x20.length : Int)))))]) ⟨rfl, rfl, rfl, rfl, rfl, rfl, rfl, trivial⟩ ?_
        refine nx ?_
        refine wpC_seq ?_
        refine wpC_true (congrArg (fun b => some (Value.bool b)) (decide_eq_true t42)) ?_
        refine wpC_skip ?_
        refine nx ?_
        refine wpC_seq ?_
        refine wpC_block ?_
        refine wpC_seq ?_
        refine wpC_region ?_
        refine st_val (ex_move rfl) (by decide) trivial ?_
        refine st_op (by decide) trivial ?_
        refine wf_atW h23 hx43 rfl rfl Try.underlying103 Try.sizeOf106 ?_
        intro b44 f45 c46 h47 h48
        obtain ⟨v49, v51, rfl, h50, h52⟩ := h48
        refine st_val (ex_loadA rfl Try.isAgg106 Try.sizeOf106 rfl h47) (by decide) trivial ?_
        refine st_op (by decide) trivial ?_
        refine wf_alloc (o := o31) w.heap.size 14 hB.keeps.size (cs := [(.slice none 0 0), (.slice none 0 0), (.int .i64 0), (.int .i64 0)]) Try.zeroValue106 rfl ?_
        intro o53 w54 b55 h56 s57
        replace h23 := h23.stp s57 (by decide) (by decide)
        replace h50 := h50.stp s57 (by decide)
        replace h52 := h52.stp s57 (by decide)
        replace hB := hB.stp s57 (by decide)
        refine st_val (ex_assign rfl) (by decide) trivial ?_
        refine st_op0 trivial ?_
        refine wf_storeA h56 rfl rfl rfl info1_t_impl_component_Apb (by intro c hc; simp only [List.mem_cons, List.not_mem_nil, or_false] at hc; rcases hc with rfl | rfl | rfl | rfl <;> first | rfl | exact h50.one1 | exact h52.one1) ?_
        intro w58 h60 s59
        replace h23 := h23.stp s59 (by decide) (by decide)
        replace h50 := h50.stp s59 (by decide)
        replace h52 := h52.stp s59 (by decide)
        replace hB := hB.stp s59 (by decide)
        refine wpF_end (r := [(4, (.int .i64 y29)), (5, (.int .i64 y30)), (6, v22), (7, (.int .i64 i33)), (8, (.pointer (some ⟨b55, 0, none⟩))), (14, v22), (15, (.int .i64 (x20.length : Int))), (16, (.int .i64 i33))]) ⟨rfl, rfl, rfl, rfl, rfl, rfl, rfl, rfl, trivial⟩ ?_
        refine nx ?_
        refine wpC_seq ?_
        refine wpC_region ?_
        refine st_val (ex_move rfl) (by decide) trivial ?_
        obtain ⟨x61, hx61, b40⟩ := bind_some b40
        refine st_val (ex_add rfl rfl hx61) (by decide) trivial ?_
        refine st_val (ex_assign rfl) (by decide) trivial ?_
        refine wpF_end (r := [(4, (.int .i64 y29)), (5, (.int .i64 x61)), (6, v22), (7, (.int .i64 i33)), (8, (.pointer (some ⟨b55, 0, none⟩))), (14, v22), (15, (.int .i64 (x20.length : Int))), (16, (.int .i64 i33))]) ⟨rfl, rfl, rfl, rfl, rfl, rfl, rfl, rfl, trivial⟩ ?_
        refine nx ?_
        refine wpC_seq ?_
        refine wpC_seq ?_
        obtain ⟨q62, hq62, b40⟩ := bind_some b40
        refine wpC_cutN (fun a65 w64 => ∃ o63 : Tg, Fr a65 47 [(4, (.int .i64 y29)), (5, (.int .i64 x61)), (6, v22), (8, (.pointer (some ⟨b55, 0, none⟩))), (14, v22), (15, (.int .i64 (x20.length : Int))), (16, (.int .i64 i33)), (36, (.bool q62))] ∧ Bs (fun _ => 1) o63 w w64 ∧ Ow w.heap.size 106 13 o63 w64 v22 x20 ∧ Bx w.heap.size 14 o63 w64 b55 106 [v49, v51, (.int .i64 x43.least), (.int .i64 x43.roots)] ∧ RdL o63 w64 v49 (x43.code : List Int) ∧ RdL o63 w64 v51 (x43.walk : List Int)) (fun _ _ => False) ?_ ?_ (fun _ _ h => h.elim)
        · rcases Bool.eq_false_or_eq_true (i33 == 0) with t66 | t66
          · rw [if_pos t66] at hq62
            refine wpC_drawn (o := o53) [(4, (.int .i64 y29)), (5, (.int .i64 x61)), (6, v22), (7, (.int .i64 i33)), (8, (.pointer (some ⟨b55, 0, none⟩))), (14, v22), (15, (.int .i64 (x20.length : Int))), (16, (.int .i64 i33))] [4, 5, 6, 7, 8, 14, 15, 16] [23, 24, 25, 26, 27, 28, 29, 30, 31, 32, 33] [[], [0], [1], [2], [2], [2], [2], [2], [2], [2], [2]] [none, none, none, none, none, none, none, none, none, none, none] [999, 999, 999, 999, 999, 999, 999, 999, 999, 999, 999] [0, 0, 0, 0, 0, 0, 0, 0, 0, 0, 0] [999] [fun v _ _ => v = (.int .i64 i33), fun v _ _ => v = (.bool (i33 == 0)), fun v _ _ => v = (.bool (i33 == 0)), fun v _ _ => v = undef, fun v _ _ => v = undef, fun v _ _ => v = undef, fun v _ _ => v = undef, fun v _ _ => v = undef, fun v _ _ => v = undef, fun v _ _ => v = undef, fun v _ _ => v = undef] (fun o8 w8 => Bs (fun _ => 1) o8 w w8 ∧ Ow w.heap.size 106 13 o8 w8 v22 x20 ∧ Bx w.heap.size 14 o8 w8 b55 106 [v49, v51, (.int .i64 x43.least), (.int .i64 x43.roots)] ∧ RdL o8 w8 v49 (x43.code : List Int) ∧ RdL o8 w8 v51 (x43.walk : List Int)) follows_mixed (by kernel_rfl) rfl ⟨rfl, rfl, rfl, rfl, rfl, rfl, rfl, rfl, trivial⟩ ⟨hB, h23, h60, h50, h52⟩ ?_ ⟨st_eq _, st_eq _, st_eq _, st_eq _, st_eq _, st_eq _, st_eq _, st_eq _, st_eq _, st_eq _, st_eq _, trivial⟩ ?_ ?_
            · rintro t9 o1 w1 o2 w2 ht9 ⟨hB, h23, h60, h50, h52⟩ hs9
              have ht9 : t9 = 999 := by simpa using ht9
              subst ht9
              all_goals exact ⟨hB.stp hs9 (by decide), h23.stp hs9 (by decide) (by decide), h60.stp hs9 (by decide), h50.stp hs9 (by decide), h52.stp hs9 (by decide)⟩
            · refine ⟨?_, ?_, ?_, ?_, ?_, ?_, ?_, ?_, ?_, ?_, ?_, trivial⟩
              · rintro o67 w68 a69 ha ⟨hB, h23, h60, h50, h52⟩ -
                refine opS_of ha (trivial) ?_
                refine op1_val (ex_move rfl) ?_
                exact ⟨_, Stp.refl _ _ _, rfl⟩
              · rintro o70 w71 a72 ha ⟨hB, h23, h60, h50, h52⟩ ⟨r73, -⟩
                have ha := Fr.cons (d := 23) ha r73
                refine opS_of ha (trivial) ?_
                refine op1_val (ex_eql rfl rfl) ?_
                exact ⟨_, Stp.refl _ _ _, rfl⟩
              · rintro o74 w75 a76 ha ⟨hB, h23, h60, h50, h52⟩ ⟨r77, -⟩
                have ha := Fr.cons (d := 24) ha r77
                refine opS_of ha (trivial) ?_
                refine op1_val (ex_move rfl) ?_
                exact ⟨_, Stp.refl _ _ _, rfl⟩
              · rintro o78 w79 a80 ha ⟨hB, h23, h60, h50, h52⟩ ⟨r81, -⟩
                have ha := Fr.cons (d := 25) ha r81
                exact opS_no ha rfl rfl rfl (by rw [t66]; rfl) ⟨_, Stp.refl _ _ _, rfl⟩
              · rintro o82 w83 a84 ha ⟨hB, h23, h60, h50, h52⟩ ⟨r85, -⟩
                have ha := Fr.cons (d := 25) ha r85
                exact opS_no ha rfl rfl rfl (by rw [t66]; rfl) ⟨_, Stp.refl _ _ _, rfl⟩
              · rintro o86 w87 a88 ha ⟨hB, h23, h60, h50, h52⟩ ⟨r89, -⟩
                have ha := Fr.cons (d := 25) ha r89
                exact opS_no ha rfl rfl rfl (by rw [t66]; rfl) ⟨_, Stp.refl _ _ _, rfl⟩
              · rintro o90 w91 a92 ha ⟨hB, h23, h60, h50, h52⟩ ⟨r93, -⟩
                have ha := Fr.cons (d := 25) ha r93
                exact opS_no ha rfl rfl rfl (by rw [t66]; rfl) ⟨_, Stp.refl _ _ _, rfl⟩
              · rintro o94 w95 a96 ha ⟨hB, h23, h60, h50, h52⟩ ⟨r97, -⟩
                have ha := Fr.cons (d := 25) ha r97
                exact opS_no ha rfl rfl rfl (by rw [t66]; rfl) ⟨_, Stp.refl _ _ _, rfl⟩
              · rintro o98 w99 a100 ha ⟨hB, h23, h60, h50, h52⟩ ⟨r101, -⟩
                have ha := Fr.cons (d := 25) ha r101
                exact opS_no ha rfl rfl rfl (by rw [t66]; rfl) ⟨_, Stp.refl _ _ _, rfl⟩
              · rintro o102 w103 a104 ha ⟨hB, h23, h60, h50, h52⟩ ⟨r105, -⟩
                have ha := Fr.cons (d := 25) ha r105
                exact opS_no ha rfl rfl rfl (by rw [t66]; rfl) ⟨_, Stp.refl _ _ _, rfl⟩
              · rintro o106 w107 a108 ha ⟨hB, h23, h60, h50, h52⟩ ⟨r109, -⟩
                have ha := Fr.cons (d := 25) ha r109
                exact opS_no ha rfl rfl rfl (by rw [t66]; rfl) ⟨_, Stp.refl _ _ _, rfl⟩
            rintro o110 w111 a112 ha ⟨hB, h23, h60, h50, h52⟩ ⟨-, -, r113, -, -, -, -, -, r114, -, r115, -⟩
            have ha := Fr.cons (d := 25) ha r113
            have ha := Fr.cons (d := 31) ha r114
            have ha := Fr.cons (d := 33) ha r115
            refine wl_of ha ?_
            simp only [List.length_cons, List.length_nil, Nat.zero_add, Nat.reduceAdd, List.drop_succ_cons, List.drop_zero]
            refine st_no rfl rfl (by rw [t66]; rfl) (by decide) ?_
            refine st_no rfl rfl (by rw [t66]; rfl) (by decide) ?_
            refine st_val (ex_pick_t (congrArg (fun b => some (Value.bool b)) t66) rfl) (by decide) trivial ?_
            have e116 := Option.some.inj hq62
            subst e116
            refine wpF_end (r := [(4, (.int .i64 y29)), (5, (.int .i64 x61)), (6, v22), (8, (.pointer (some ⟨b55, 0, none⟩))), (14, v22), (15, (.int .i64 (x20.length : Int))), (16, (.int .i64 i33)), (36, (.bool true))]) ⟨rfl, rfl, rfl, rfl, rfl, rfl, rfl, rfl, trivial⟩ ?_
            refine np_norm (fun a ha => ⟨o110, ha, hB, h23, h60, h50, h52⟩)
          · rw [if_neg (by rw [t66]; decide)] at hq62
            obtain ⟨x117, hx117, hq62⟩ := bind_some hq62
            obtain ⟨x118, hx118, hq62⟩ := bind_some hq62
            refine wpC_drawn (o := o53) [(4, (.int .i64 y29)), (5, (.int .i64 x61)), (6, v22), (7, (.int .i64 i33)), (8, (.pointer (some ⟨b55, 0, none⟩))), (14, v22), (15, (.int .i64 (x20.length : Int))), (16, (.int .i64 i33))] [4, 5, 6, 7, 8, 14, 15, 16] [23, 24, 25, 26, 27, 28, 29, 30, 31, 32, 33] [[], [0], [1], [2], [2], [2, 4], [2, 3, 5], [2, 6], [2, 7], [2], [2, 9]] [none, none, none, none, none, none, none, none, none, none, none] [999, 999, 999, 999, 999, 999, 999, 999, 999, 999, 999] [0, 0, 0, 0, 0, 0, 13, 13, 0, 0, 0] [999] [fun v _ _ => v = (.int .i64 i33), fun v _ _ => v = (.bool (i33 == 0)), fun v _ _ => v = (.bool (i33 == 0)), fun v _ _ => v = v22, fun v _ _ => v = (.int .i64 i33), fun v _ _ => v = (.int .i64 x117), fun v o w9 => ∃ vl, v = adr vl (x117.toNat * Rp.sz T_component) ∧ Ow w.heap.size 106 13 o w9 vl x20, fun v o w9 => ∃ vl, v = adr vl (x117.toNat * Rp.sz T_component + 0) ∧ Ow w.heap.size 106 13 o w9 vl x20, fun v o w9 => RdL o w9 v (x118.code : List Int), fun v _ _ => v = (.pointer (some ⟨b55, 0 + 0, none⟩)), fun v _ _ => v = v49] (fun o8 w8 => Bs (fun _ => 1) o8 w w8 ∧ Ow w.heap.size 106 13 o8 w8 v22 x20 ∧ Bx w.heap.size 14 o8 w8 b55 106 [v49, v51, (.int .i64 x43.least), (.int .i64 x43.roots)] ∧ RdL o8 w8 v49 (x43.code : List Int) ∧ RdL o8 w8 v51 (x43.walk : List Int)) follows_mixed (by kernel_rfl) rfl ⟨rfl, rfl, rfl, rfl, rfl, rfl, rfl, rfl, trivial⟩ ⟨hB, h23, h60, h50, h52⟩ ?_ ⟨st_eq _, st_eq _, st_eq _, st_eq _, st_eq _, st_eq _, fun _ _ _ _ _ _ h0 hb ⟨vl, e, h⟩ hs => ⟨vl, e, h.stp hs h0.1 (Ne.symm hb)⟩, fun _ _ _ _ _ _ h0 hb ⟨vl, e, h⟩ hs => ⟨vl, e, h.stp hs h0.1 (Ne.symm hb)⟩, fun _ _ _ _ _ _ h0 hb h hs => h.stp hs h0.1, st_eq _, st_eq _, trivial⟩ ?_ ?_
            · rintro t9 o1 w1 o2 w2 ht9 ⟨hB, h23, h60, h50, h52⟩ hs9
              have ht9 : t9 = 999 := by simpa using ht9
              subst ht9
              all_goals exact ⟨hB.stp hs9 (by decide), h23.stp hs9 (by decide) (by decide), h60.stp hs9 (by decide), h50.stp hs9 (by decide), h52.stp hs9 (by decide)⟩
            · refine ⟨?_, ?_, ?_, ?_, ?_, ?_, ?_, ?_, ?_, ?_, ?_, trivial⟩
              · rintro o127 w128 a129 ha ⟨hB, h23, h60, h50, h52⟩ -
                refine opS_of ha (trivial) ?_
                refine op1_val (ex_move rfl) ?_
                exact ⟨_, Stp.refl _ _ _, rfl⟩
              · rintro o130 w131 a132 ha ⟨hB, h23, h60, h50, h52⟩ ⟨r133, -⟩
                have ha := Fr.cons (d := 23) ha r133
                refine opS_of ha (trivial) ?_
                refine op1_val (ex_eql rfl rfl) ?_
                exact ⟨_, Stp.refl _ _ _, rfl⟩
              · rintro o134 w135 a136 ha ⟨hB, h23, h60, h50, h52⟩ ⟨r137, -⟩
                have ha := Fr.cons (d := 24) ha r137
                refine opS_of ha (trivial) ?_
                refine op1_val (ex_move rfl) ?_
                exact ⟨_, Stp.refl _ _ _, rfl⟩
              · rintro o138 w139 a140 ha ⟨hB, h23, h60, h50, h52⟩ ⟨r141, -⟩
                have ha := Fr.cons (d := 25) ha r141
                refine opS_of ha (⟨_, rfl, (congrArg (fun b => some (Value.bool b)) t66)⟩) ?_
                refine op1_val (ex_move rfl) ?_
                exact ⟨_, Stp.refl _ _ _, rfl⟩
              · rintro o142 w143 a144 ha ⟨hB, h23, h60, h50, h52⟩ ⟨r145, -⟩
                have ha := Fr.cons (d := 25) ha r145
                refine opS_of ha (⟨_, rfl, (congrArg (fun b => some (Value.bool b)) t66)⟩) ?_
                refine op1_val (ex_move rfl) ?_
                exact ⟨_, Stp.refl _ _ _, rfl⟩
              · rintro o146 w147 a148 ha ⟨hB, h23, h60, h50, h52⟩ ⟨r149, r150, -⟩
                have ha := Fr.cons (d := 25) ha r149
                have ha := Fr.cons (d := 27) ha r150
                refine opS_of ha (⟨_, rfl, (congrArg (fun b => some (Value.bool b)) t66)⟩) ?_
                refine op1_val (ex_sub rfl rfl hx117) ?_
                exact ⟨_, Stp.refl _ _ _, rfl⟩
              · rintro o151 w152 a153 ha ⟨hB, h23, h60, h50, h52⟩ ⟨r154, r155, r156, -⟩
                have ha := Fr.cons (d := 25) ha r154
                have ha := Fr.cons (d := 26) ha r155
                have ha := Fr.cons (d := 28) ha r156
                refine opS_of ha (⟨_, rfl, (congrArg (fun b => some (Value.bool b)) t66)⟩) ?_
                refine wd_indexW h23 hx118 rfl rfl Try.underlying103 Try.sizeOf106 ?_
                exact ⟨_, Stp.refl _ _ _, ⟨_, rfl, h23⟩⟩
              · rintro o157 w158 a159 ha ⟨hB, h23, h60, h50, h52⟩ ⟨r160, r161, -⟩
                have ha := Fr.cons (d := 25) ha r160
                obtain ⟨v162, e163, h164⟩ := r161
                have ha := Fr.cons (d := 29) ha e163
                refine opS_of ha (⟨_, rfl, (congrArg (fun b => some (Value.bool b)) t66)⟩) ?_
                refine wd_field (RdL.plc h164.z hx118) rfl Try.underlying106 rfl Try.sizeOf23 ?_
                exact ⟨_, Stp.refl _ _ _, ⟨_, rfl, h164⟩⟩
              · rintro o165 w166 a167 ha ⟨hB, h23, h60, h50, h52⟩ ⟨r168, r169, -⟩
                have ha := Fr.cons (d := 25) ha r168
                obtain ⟨v170, e171, h172⟩ := r169
                have ha := Fr.cons (d := 30) ha e171
                refine opS_of ha (⟨_, rfl, (congrArg (fun b => some (Value.bool b)) t66)⟩) ?_
                refine wd_loadFW h172 hx118 (of_decide_eq_true rfl) rfl Try.isAgg23 ?_
                intro c173 c174 h175 h176
                obtain ⟨v177, v179, rfl, h178, h180⟩ := h175
                replace h176 : some v177 = some c174 := h176
                cases h176
                exact ⟨_, Stp.refl _ _ _, h178⟩
              · rintro o181 w182 a183 ha ⟨hB, h23, h60, h50, h52⟩ ⟨r184, -⟩
                have ha := Fr.cons (d := 25) ha r184
                refine opS_of ha (⟨_, rfl, (congrArg (fun b => some (Value.bool b)) t66)⟩) ?_
                refine op1_val (ex_field rfl Try.underlying106 rfl Try.sizeOf23) ?_
                exact ⟨_, Stp.refl _ _ _, rfl⟩
              · rintro o185 w186 a187 ha ⟨hB, h23, h60, h50, h52⟩ ⟨r188, r189, -⟩
                have ha := Fr.cons (d := 25) ha r188
                have ha := Fr.cons (d := 32) ha r189
                refine opS_of ha (⟨_, rfl, (congrArg (fun b => some (Value.bool b)) t66)⟩) ?_
                refine op1_val (ex_load1 rfl Try.isAgg23 (h60.cell rfl)) ?_
                exact ⟨_, Stp.refl _ _ _, rfl⟩
            rintro o190 w191 a192 ha ⟨hB, h23, h60, h50, h52⟩ ⟨-, -, r193, -, -, -, -, -, r194, -, r195, -⟩
            have ha := Fr.cons (d := 25) ha r193
            replace r194 : RdL o190 w191 (a192.tmps.getD 31 undef) (x118.code : List Int) := r194
            generalize e197 : a192.tmps.getD 31 undef = v196 at r194
            have ha := Fr.cons (d := 31) ha e197
            have ha := Fr.cons (d := 33) ha r195
            refine wl_of ha ?_
            simp only [List.length_cons, List.length_nil, Nat.zero_add, Nat.reduceAdd, List.drop_succ_cons, List.drop_zero]
            obtain ⟨x198, hx198, hq62⟩ := bind_some hq62
            refine st_op (by decide) ⟨_, rfl, (congrArg (fun b => some (Value.bool b)) t66)⟩ ?_
            refine wf_call (cX_slices_Equal_int_int w191 _ x118.code r194.z _ x43.code h50.z x198 hx198) Try.call88 ⟨rfl, rfl, trivial⟩ ?_
            rintro e203 w199 ⟨rfl, k200⟩
            have s202 := k200.stp 999 o190
            refine ⟨_, rfl, ?_⟩
            replace h23 := h23.stp s202 (by decide) (by decide)
            replace r194 := r194.stp s202 (by decide)
            replace h50 := h50.stp s202 (by decide)
            replace h60 := h60.stp s202 (by decide)
            replace h52 := h52.stp s202 (by decide)
            replace hB := hB.stp s202 (by decide)
            refine st_val (ex_not rfl) (by decide) ⟨_, rfl, (congrArg (fun b => some (Value.bool b)) t66)⟩ ?_
            refine st_val (ex_pick_f (congrArg (fun b => some (Value.bool b)) t66) rfl) (by decide) trivial ?_
            have e204 := Option.some.inj hq62
            subst e204
            refine wpF_end (r := [(4, (.int .i64 y29)), (5, (.int .i64 x61)), (6, v22), (8, (.pointer (some ⟨b55, 0, none⟩))), (14, v22), (15, (.int .i64 (x20.length : Int))), (16, (.int .i64 i33)), (36, (.bool (!x198)))]) ⟨rfl, rfl, rfl, rfl, rfl, rfl, rfl, rfl, trivial⟩ ?_
            refine np_norm (fun a ha => ⟨o190, ha, hB, h23, h60, h50, h52⟩)
        rintro a205 w64 ⟨o63, ha, hB, h23, h60, h50, h52⟩
        refine ap_k ha ?_
        refine nx ?_
        refine wpC_cond rfl (fun t206 => ?_) (fun t206 => ?_)
        · rw [if_pos t206] at b40
          refine wpC_region ?_
          refine st_val (ex_assign rfl) (by decide) trivial ?_
          refine wpF_end (r := [(4, (.int .i64 y29)), (5, (.int .i64 1)), (6, v22), (8, (.pointer (some ⟨b55, 0, none⟩))), (14, v22), (15, (.int .i64 (x20.length : Int))), (16, (.int .i64 i33))]) ⟨rfl, rfl, rfl, rfl, rfl, rfl, rfl, trivial⟩ ?_
          refine nx ?_
          refine wpC_seq ?_
          refine wpC_region ?_
          refine st_val (ex_move rfl) (by decide) trivial ?_
          refine st_val (ex_field rfl Try.underlying106 rfl Try.sizeOf3) (by decide) trivial ?_
          refine st_val (ex_load1 rfl Try.isAgg3 (h60.cell rfl)) (by decide) trivial ?_
          refine st_val (ex_move rfl) (by decide) trivial ?_
          obtain ⟨x207, hx207, b40⟩ := bind_some b40
          refine st_val (ex_mul rfl rfl hx207) (by decide) trivial ?_
          obtain ⟨x208, hx208, b40⟩ := bind_some b40
          refine st_val (ex_mul rfl rfl hx208) (by decide) trivial ?_
          refine st_val (ex_assign rfl) (by decide) trivial ?_
          refine wpF_end (r := [(4, (.int .i64 x208)), (5, (.int .i64 1)), (6, v22), (14, v22), (15, (.int .i64 (x20.length : Int))), (16, (.int .i64 i33))]) ⟨rfl, rfl, rfl, rfl, rfl, rfl, trivial⟩ ?_
          refine nx ?_
          refine wpC_seq ?_
          refine wpC_region ?_
          refine st_val (ex_move rfl) (by decide) trivial ?_
          refine st_val (ex_gtr rfl rfl) (by decide) trivial ?_
          refine wpF_end (r := [(4, (.int .i64 x208)), (5, (.int .i64 1)), (6, v22), (14, v22), (15, (.int .i64 (x20.length : Int))), (16, (.int .i64 i33)), (44, (.bool (decide (x208 > 1000000000000))))]) ⟨rfl, rfl, rfl, rfl, rfl, rfl, rfl, trivial⟩ ?_
          refine nx ?_
          refine wpC_cond rfl (fun t209 => ?_) (fun t209 => ?_)
          · rw [if_pos t209] at b40
            refine wpC_seq ?_
            refine wpC_region ?_
            refine st_val (ex_assign rfl) (by decide) trivial ?_
            refine st_val (ex_assign rfl) (by decide) trivial ?_
            refine wpF_end (r := [(2, (.int .i64 0)), (3, (.bool false))]) ⟨rfl, rfl, trivial⟩ ?_
            refine nx ?_
            refine wpC_ret ?_
            refine nb_ret ?_
            refine nt_ret ?_
            refine nt_ret ?_
            refine nb_ret ?_
            refine np_ret ?_
            have e210 := Option.some.inj b40
            subst e210
            refine fun a ha => ⟨_, n41, ?_⟩
            refine ret_post (P := Try.prog) (vs := [(.int .i64 0), (.bool false)]) Try.results52 ⟨rfl, rfl, trivial⟩ ?_ a ha
            exact ⟨rfl, hB.keeps⟩
          · rw [if_neg (by rw [t209]; decide)] at b40
            refine wpC_skip ?_
            refine nb_norm ?_
            refine nx ?_
            refine wpC_region ?_
            refine st_val (ex_add rfl rfl (ck_in (by omega) (by omega))) (by decide) trivial ?_
            refine st_val (ex_move rfl) (by decide) trivial ?_
            refine wpF_end (r := [(4, (.int .i64 x208)), (5, (.int .i64 1)), (6, v22), (14, v22), (15, (.int .i64 (x20.length : Int))), (16, (.int .i64 (i33 + 1)))]) ⟨rfl, rfl, rfl, rfl, rfl, rfl, trivial⟩ ?_
            refine nt_norm ?_
            have e211 := Option.some.inj b40
            subst e211
            refine to_k (r := [(4, (.int .i64 x208)), (5, (.int .i64 1)), (6, v22), (14, v22), (15, (.int .i64 (x20.length : Int))), (16, (.int .i64 (i33 + 1)))]) ⟨rfl, rfl, rfl, rfl, rfl, rfl, trivial⟩ ?_
            intro a ha
            exact ⟨_, (by rw [← m37]; simp only [List.length_drop]; omega), i33 + 1, x208, 1, o63, n41, rfl, (by omega), ha, hB, h23⟩
        · rw [if_neg (by rw [t206]; decide)] at b40
          refine wpC_skip ?_
          refine nx ?_
          refine wpC_seq ?_
          refine wpC_region ?_
          refine st_val (ex_move rfl) (by decide) trivial ?_
          refine st_val (ex_field rfl Try.underlying106 rfl Try.sizeOf3) (by decide) trivial ?_
          refine st_val (ex_load1 rfl Try.isAgg3 (h60.cell rfl)) (by decide) trivial ?_
          refine st_val (ex_move rfl) (by decide) trivial ?_
          obtain ⟨x212, hx212, b40⟩ := bind_some b40
          refine st_val (ex_mul rfl rfl hx212) (by decide) trivial ?_
          obtain ⟨x213, hx213, b40⟩ := bind_some b40
          refine st_val (ex_mul rfl rfl hx213) (by decide) trivial ?_
          refine st_val (ex_assign rfl) (by decide) trivial ?_
          refine wpF_end (r := [(4, (.int .i64 x213)), (5, (.int .i64 x61)), (6, v22), (14, v22), (15, (.int .i64 (x20.length : Int))), (16, (.int .i64 i33))]) ⟨rfl, rfl, rfl, rfl, rfl, rfl, trivial⟩ ?_
          refine nx ?_
          refine wpC_seq ?_
          refine wpC_region ?_
          refine st_val (ex_move rfl) (by decide) trivial ?_
          refine st_val (ex_gtr rfl rfl) (by decide) trivial ?_
          refine wpF_end (r := [(4, (.int .i64 x213)), (5, (.int .i64 x61)), (6, v22), (14, v22), (15, (.int .i64 (x20.length : Int))), (16, (.int .i64 i33)), (44, (.bool (decide (x213 > 1000000000000))))]) ⟨rfl, rfl, rfl, rfl, rfl, rfl, rfl, trivial⟩ ?_
          refine nx ?_
          refine wpC_cond rfl (fun t214 => ?_) (fun t214 => ?_)
          · rw [if_pos t214] at b40
            refine wpC_seq ?_
            refine wpC_region ?_
            refine st_val (ex_assign rfl) (by decide) trivial ?_
            refine st_val (ex_assign rfl) (by decide) trivial ?_
            refine wpF_end (r := [(2, (.int .i64 0)), (3, (.bool false))]) ⟨rfl, rfl, trivial⟩ ?_
            refine nx ?_
            refine wpC_ret ?_
            refine nb_ret ?_
            refine nt_ret ?_
            refine nt_ret ?_
            refine nb_ret ?_
            refine np_ret ?_
            have e215 := Option.some.inj b40
            subst e215
            refine fun a ha => ⟨_, n41, ?_⟩
            refine ret_post (P := Try.prog) (vs := [(.int .i64 0), (.bool false)]) Try.results52 ⟨rfl, rfl, trivial⟩ ?_ a ha
            exact ⟨rfl, hB.keeps⟩
          · rw [if_neg (by rw [t214]; decide)] at b40
            refine wpC_skip ?_
            refine nb_norm ?_
            refine nx ?_
            refine wpC_region ?_
            refine st_val (ex_add rfl rfl (ck_in (by omega) (by omega))) (by decide) trivial ?_
            refine st_val (ex_move rfl) (by decide) trivial ?_
            refine wpF_end (r := [(4, (.int .i64 x213)), (5, (.int .i64 x61)), (6, v22), (14, v22), (15, (.int .i64 (x20.length : Int))), (16, (.int .i64 (i33 + 1)))]) ⟨rfl, rfl, rfl, rfl, rfl, rfl, trivial⟩ ?_
            refine nt_norm ?_
            have e216 := Option.some.inj b40
            subst e216
            refine to_k (r := [(4, (.int .i64 x213)), (5, (.int .i64 x61)), (6, v22), (14, v22), (15, (.int .i64 (x20.length : Int))), (16, (.int .i64 (i33 + 1)))]) ⟨rfl, rfl, rfl, rfl, rfl, rfl, trivial⟩ ?_
            intro a ha
            exact ⟨_, (by rw [← m37]; simp only [List.length_drop]; omega), i33 + 1, x213, x61, o63, n41, rfl, (by omega), ha, hB, h23⟩
      · have r217 := forI_done t42 l35
        refine wp_of ha ?_
        refine wpC_seq ?_
        refine wpC_region ?_
        refine st_val (ex_lss rfl rfl) (by decide) trivial ?_
        refine wpF_end (r := [(4, (.int .i64 y29)), (5, (.int .i64 y30)), (6, v22), (14, v22), (15, (.int .i64 (x20.length : Int))), (16, (.int .i64 i33)), (17, (.bool (decide (i33 < (x20.length : Int)))))]) ⟨rfl, rfl, rfl, rfl, rfl, rfl, rfl, trivial⟩ ?_
        refine nx ?_
        refine wpC_seq ?_
        refine wpC_false (congrArg (fun b => some (Value.bool b)) (decide_eq_false t42)) ?_
        refine wpC_exit ?_
        refine nt_exit ?_
        refine nt_exit ?_
        refine nb_hit ?_
        refine np_norm ?_
        refine to_k (r := [(4, (.int .i64 y29))]) ⟨rfl, trivial⟩ ?_
        intro a ha
        exact ⟨y29, y30, o31, r217, ha, hB⟩
    · rintro a w32 ⟨y29, y30, o31, rfl, ha, hB⟩
      dsimp only at hF
      refine ap_k ha ?_
      refine nx ?_
      refine wpC_seq ?_
      refine wpC_region ?_
      refine st_val (ex_move rfl) (by decide) trivial ?_
      refine st_val (ex_assign rfl) (by decide) trivial ?_
      refine st_val (ex_assign rfl) (by decide) trivial ?_
      refine wpF_end (r := [(2, (.int .i64 y29)), (3, (.bool true))]) ⟨rfl, rfl, trivial⟩ ?_
      refine nx ?_
      refine wpC_ret ?_
      have e218 := Option.some.inj hF
      subst e218
      refine ret_post (P := Try.prog) (vs := [(.int .i64 y29), (.bool true)]) Try.results52 ⟨rfl, rfl, trivial⟩ ?_
      exact ⟨rfl, hB.keeps⟩
    · rintro a w32 ⟨r', rfl, b219⟩
      dsimp only at hF
      have e220 := Option.some.inj hF
      subst e220
      exact b219

end Go.Proofs.Ytijaojnaamkinaa
