/- spec.isFind, spec.isSame, spec.IsomorphismOf, spec.SameNetworks, spec.ImagesOf, impl.isomorphism, impl.IsomorphismOf, impl.SameNetworks, impl.ImagesOf: plain functions, and the walks that show that the program computes them (printed by gen.py). -/
import Derived.Test.YtijaojnaamkinaaGNc
import Derived.Test.YtijaojnaamkinaaRpt
import Derived.Test.YtijaojnaamkinaaKds
namespace Go.Proofs.Ytijaojnaamkinaa
open Go.RowKit
set_option linter.unusedSimpArgs false
set_option linter.unusedVariables false

theorem info2_t_int_Ni : Inf Try.prog 3 (.int .i64 0) 1 8 := by unfold Inf; kernel_rfl

theorem info2_t_bool_Ni : Inf Try.prog 4 (.bool false) 1 1 := by unfold Inf; kernel_rfl

def fS_isFind_s1 : Int → (List Int) → Option (Lp (List Int) (List Int) ((List Int) × Bool)) := fun (i35 : Int) (s : List Int) =>
  (ix s i35) >>= fun x47 =>
  (st s i35 (-1)) >>= fun x56 =>
  some (.go x56)
def fS_isFind_s4 (x126 : List Int) : Int → Int → (List Int) → Option (Lp (List Int) (List Int) ((List Int) × Bool)) := fun (i155 : Int) (x165 : Int) (s : List Int) =>
  (ix x126 i155) >>= fun x171 =>
  (ix s x165) >>= fun x177 =>
  (st s x165 x171) >>= fun x186 =>
  some (.go x186)
def fS_isFind_s3 (fuel : Nat) (p1 : T_Network) (x84 : List Int) (x93 : List Int) : Int → (List Int) → Option (Lp (List Int) (List Int) ((List Int) × Bool)) := fun (i106 : Int) (s : List Int) =>
  (fS_l1Has s i106) >>= fun x118 =>
  if x118 then
    some (.go s)
  else
    (fS_isWalk fuel p1 i106) >>= fun x126 =>
    (fS_isCode p1 x126) >>= fun x135 =>
    (fS_l1Same x93 x135) >>= fun x144 =>
    if x144 then
      (forI (fS_isFind_s4 x126) x84 0 s) >>= fun q156 =>
      match q156 with
      | .inl y151 =>
        some (.out y151)
      | .inr _ => none
    else
      some (.go s)
def fS_isFind_s2 (fuel : Nat) (p0 : T_Network) (p1 : T_Network) : Int → (List Int) → Option (Lp (List Int) (List Int) ((List Int) × Bool)) := fun (i64 : Int) (s : List Int) =>
  (ix s i64) >>= fun x76 =>
  if decide (x76 ≥ 0) then
    some (.go s)
  else
    (fS_isWalk fuel p0 i64) >>= fun x84 =>
    (fS_isCode p0 x84) >>= fun x93 =>
    ck (p1.Ends.length : Int) >>= fun _ =>
    (forN (fS_isFind_s3 fuel p1 x84 x93) ((p1.Ends.length : Int)).toNat 0 s) >>= fun q107 =>
    match q107 with
    | .inl y102 =>
      (ix y102 i64) >>= fun x193 =>
      if decide (x193 < 0) then
        some (.ret ([], false))
      else
        some (.go y102)
    | .inr _ => none
def fS_isFind (fuel : Nat) (p0 : T_Network) (p1 : T_Network) : Option ((List Int) × Bool) :=
  if (p0.Ends.length : Int) != (p1.Ends.length : Int) then
    some ([], false)
  else
    (mk (Rz.z : Int) (p0.Ends.length : Int)) >>= fun x25 =>
    ck (x25.length : Int) >>= fun _ =>
    (forN (fS_isFind_s1) ((x25.length : Int)).toNat 0 x25) >>= fun q36 =>
    match q36 with
    | .inl y31 =>
      ck (y31.length : Int) >>= fun _ =>
      (forN (fS_isFind_s2 fuel p0 p1) ((y31.length : Int)).toNat 0 y31) >>= fun q65 =>
      match q65 with
      | .inl y60 =>
        some (y60, true)
      | .inr r' => some r'
    | .inr _ => none

def pS_isFind (oo : Tg) (t : Nat) (w : World) (r : (List Int) × Bool) : Ending → World → Prop := fun e w' => ∃ (v0 : Value) (o' : Tg), e = .returned (.tuple #[v0, .bool r.2]) ∧ Ow w.heap.size 3 t o' w' v0 r.1 ∧ Keeps w w' ∧ ∀ b, b < w.heap.size → o' b = oo b
set_option maxRecDepth 100000 in
set_option maxHeartbeats 2000000 in
theorem cS_isFind (fuel : Nat) (w : World) (oo : Tg) (t : Nat) (ht : 2 ≤ t) (u0 : List Value) (p0 : T_Network) (g0 : Rp.rd zt w u0 p0) (u1 : List Value) (p1 : T_Network) (g1 : Rp.rd zt w u1 p1) (r : (List Int) × Bool) (hF : fS_isFind fuel p0 p1 = some r) :
    Calls Try.prog 85 #[.agg u0.toArray, .agg u1.toArray] w (pS_isFind oo t w r) := by
  unfold fS_isFind at hF
  obtain ⟨v1, v3, v5, rfl, h2, h4, h6⟩ := g0
  obtain ⟨v7, v9, v11, rfl, h8, h10, h12⟩ := g1
  have hB : Bs oo (col oo) w w := Bs.start _ _
  refine calls_start (n := 91) (vs := [(.agg #[v1, v3, v5]), (.agg #[v7, v9, v11])]) Try.func85 rfl rfl ?_
  generalize col oo = o at *
  refine wpC_seq ?_
  refine wpC_region ?_
  refine st_op (by decide) trivial ?_
  refine wf_box (o := o) w.heap.size 11 hB.keeps.size (cs := [v1, v3, v5]) rfl rfl ?_
  intro o13 w14 b15 h16 s17
  replace hB := hB.stp s17 (by decide)
  refine st_op (by decide) trivial ?_
  refine wf_box (o := o13) w.heap.size 12 hB.keeps.size (cs := [v7, v9, v11]) rfl rfl ?_
  intro o18 w19 b20 h21 s22
  replace h16 := h16.stp s22 (by decide)
  replace hB := hB.stp s22 (by decide)
  refine st_val (ex_assign rfl) (by decide) trivial ?_
  refine st_val (ex_assign rfl) (by decide) trivial ?_
  refine wpF_end (r := [(2, (.pointer (some ⟨b15, 0, none⟩))), (3, (.pointer (some ⟨b20, 0, none⟩)))]) ⟨rfl, rfl, trivial⟩ ?_
  refine nx ?_
  refine wpC_seq ?_
  refine wpC_seq ?_
  refine wpC_region ?_
  refine st_val (ex_field rfl Try.underlying31 rfl Try.sizeOf29) (by decide) trivial ?_
  refine st_val (ex_load1 rfl Try.isAgg29 (h16.cell rfl)) (by decide) trivial ?_
  refine st_val (ex_lenR rfl h2 Try.underlying29) (by decide) trivial ?_
  refine st_val (ex_field rfl Try.underlying31 rfl Try.sizeOf29) (by decide) trivial ?_
  refine st_val (ex_load1 rfl Try.isAgg29 (h21.cell rfl)) (by decide) trivial ?_
  refine st_val (ex_lenR rfl h8 Try.underlying29) (by decide) trivial ?_
  refine st_val (ex_neq rfl rfl) (by decide) trivial ?_
  refine wpF_end (r := [(2, (.pointer (some ⟨b15, 0, none⟩))), (3, (.pointer (some ⟨b20, 0, none⟩))), (21, (.bool ((p0.Ends.length : Int) != (p1.Ends.length : Int))))]) ⟨rfl, rfl, rfl, trivial⟩ ?_
  refine nx ?_
  refine wpC_cond rfl (fun t23 => ?_) (fun t23 => ?_)
  · rw [if_pos t23] at hF
    refine wpC_seq ?_
    refine wpC_region ?_
    refine st_val (ex_assign rfl) (by decide) trivial ?_
    refine st_val (ex_assign rfl) (by decide) trivial ?_
    refine wpF_end (r := [(4, (.slice none 0 0)), (5, (.bool false))]) ⟨rfl, rfl, trivial⟩ ?_
    refine nx ?_
    refine wpC_ret ?_
    refine nt_ret ?_
    have e24 := Option.some.inj hF
    subst e24
    refine ret_post (P := Try.prog) (vs := [(.slice none 0 0), (.bool false)]) Try.results85 ⟨rfl, rfl, trivial⟩ ?_
    exact ⟨_, rt oo o18 w.heap.size 9 t, rfl, (Ow.nil _ _ _ _ _), hB.keeps, rt_old _ _ _ _ _⟩
  · rw [if_neg (by rw [t23]; decide)] at hF
    refine wpC_skip ?_
    refine nx ?_
    refine wpC_seq ?_
    refine wpC_region ?_
    refine st_val (ex_field rfl Try.underlying31 rfl Try.sizeOf29) (by decide) trivial ?_
    refine st_val (ex_load1 rfl Try.isAgg29 (h16.cell rfl)) (by decide) trivial ?_
    refine st_val (ex_lenR rfl h2 Try.underlying29) (by decide) trivial ?_
    obtain ⟨x25, hx25, hF⟩ := bind_some hF
    refine st_op (by decide) trivial ?_
    refine wf_make (o := o18) w.heap.size 13 hB.keeps.size hx25 rfl rfl Try.underlying23 info2_t_int_Ni rfl (by decide) ?_
    intro o26 w27 v28 h29 s30
    replace h16 := h16.stp s30 (by decide)
    replace h21 := h21.stp s30 (by decide)
    replace hB := hB.stp s30 (by decide)
    refine st_val (ex_assign rfl) (by decide) trivial ?_
    refine wpF_end (r := [(2, (.pointer (some ⟨b15, 0, none⟩))), (3, (.pointer (some ⟨b20, 0, none⟩))), (6, v28)]) ⟨rfl, rfl, rfl, trivial⟩ ?_
    refine nx ?_
    refine wpC_seq ?_
    refine wpC_seq ?_
    refine wpC_region ?_
    refine st_val (ex_move rfl) (by decide) trivial ?_
    refine st_val (ex_lenO rfl h29 Try.underlying23) (by decide) trivial ?_
    refine st_val (ex_move rfl) (by decide) trivial ?_
    refine wpF_end (r := [(2, (.pointer (some ⟨b15, 0, none⟩))), (3, (.pointer (some ⟨b20, 0, none⟩))), (6, v28), (27, (.int .i64 (x25.length : Int))), (28, (.int .i64 0))]) ⟨rfl, rfl, rfl, rfl, rfl, trivial⟩ ?_
    refine nx ?_
    obtain ⟨u38, h37, hF⟩ := bind_some hF
    obtain ⟨-, h37a, h37b⟩ := ck_some h37
    obtain ⟨q36, hq36, hF⟩ := bind_some hF
    refine wpC_cutN (fun a w34 => ∃ (y31 : List Int) (o33 : Tg), q36 = .inl y31 ∧ Fr a 91 [(2, (.pointer (some ⟨b15, 0, none⟩))), (3, (.pointer (some ⟨b20, 0, none⟩))), (6, v28)] ∧ Bs oo o33 w w34 ∧ Ow w.heap.size 3 13 o33 w34 v28 y31 ∧ Bx w.heap.size 11 o33 w34 b15 31 [v1, v3, v5] ∧ Bx w.heap.size 12 o33 w34 b20 31 [v7, v9, v11]) (fun _ _ => False) ?_ ?_ ?_
    · refine wpC_block ?_
      refine wpC_loop (fun (K : Nat) a w34 => ∃ (i35 : Int) (y31 : List Int) (o33 : Tg), forN (fS_isFind_s1) ((x25.length : Int) - i35).toNat i35 y31 = some q36 ∧ ((x25.length : Int) - i35).toNat = K ∧ 0 ≤ i35 ∧ Fr a 91 [(2, (.pointer (some ⟨b15, 0, none⟩))), (3, (.pointer (some ⟨b20, 0, none⟩))), (6, v28), (27, (.int .i64 (x25.length : Int))), (28, (.int .i64 i35))] ∧ Bs oo o33 w w34 ∧ Ow w.heap.size 3 13 o33 w34 v28 y31 ∧ Bx w.heap.size 11 o33 w34 b15 31 [v1, v3, v5] ∧ Bx w.heap.size 12 o33 w34 b20 31 [v7, v9, v11]) _ (fun a ha => ⟨0, x25, o26, (by rw [Int.sub_zero]; exact hq36), rfl, Int.le_refl 0, ha.sub (r := [(2, (.pointer (some ⟨b15, 0, none⟩))), (3, (.pointer (some ⟨b20, 0, none⟩))), (6, v28), (27, (.int .i64 (x25.length : Int))), (28, (.int .i64 0))]) ⟨rfl, rfl, rfl, rfl, rfl, trivial⟩, hB, h29, h16, h21⟩) ?_
      rintro K42 a w34 ⟨i35, y31, o33, l39, m41, z40, ha, hB, h32, h16, h21⟩
      by_cases t46 : i35 < (x25.length : Int)
      · obtain ⟨q43, b44, n45⟩ := forN_cons t46 l39
        dsimp only [fS_isFind_s1] at b44
        refine wp_of ha ?_
        refine wpC_seq ?_
        refine wpC_region ?_
        refine st_val (ex_lss rfl rfl) (by decide) trivial ?_
        refine wpF_end (r := [(2, (.pointer (some ⟨b15, 0, none⟩))), (3, (.pointer (some ⟨b20, 0, none⟩))), (6, v28), (27, (.int .i64 (x25.length : Int))), (28, (.int .i64 i35)), (29, (.bool (decide (i35 < (x25.length : Int)))))]) ⟨rfl, rfl, rfl, rfl, rfl, rfl, trivial⟩ ?_
        refine nx ?_
        refine wpC_seq ?_
        refine wpC_true (congrArg (fun b => some (Value.bool b)) (decide_eq_true t46)) ?_
        refine wpC_skip ?_
        refine nx ?_
        refine wpC_seq ?_
        refine wpC_block ?_
        refine wpC_seq ?_
        refine wpC_region ?_
        refine st_val (ex_move rfl) (by decide) trivial ?_
        refine st_val (ex_assign rfl) (by decide) trivial ?_
        refine wpF_end (r := [(2, (.pointer (some ⟨b15, 0, none⟩))), (3, (.pointer (some ⟨b20, 0, none⟩))), (6, v28), (7, (.int .i64 i35)), (27, (.int .i64 (x25.length : Int))), (28, (.int .i64 i35))]) ⟨rfl, rfl, rfl, rfl, rfl, rfl, trivial⟩ ?_
        refine nx ?_
        refine wpC_region ?_
        refine st_val (ex_move rfl) (by decide) trivial ?_
        refine st_val (ex_move rfl) (by decide) trivial ?_
        obtain ⟨x47, hx47, b44⟩ := bind_some b44
        refine st_op (by decide) trivial ?_
        refine wf_atP h32 hx47 rfl rfl Try.underlying23 Try.sizeOf3 ?_
        intro b48 c50 h53 h51 h52
        cases h52
        obtain ⟨x56, hx56, b44⟩ := bind_some b44
        refine st_op0 trivial ?_
        refine wf_storeW h32 h53 hx56 rfl (by decide) rfl rfl rfl Try.sizeOf3 rfl ?_
        intro w54 h57 s55
        replace h16 := h16.stp s55 (by decide)
        replace h21 := h21.stp s55 (by decide)
        replace hB := hB.stp s55 (by decide)
        refine wpF_end (r := [(2, (.pointer (some ⟨b15, 0, none⟩))), (3, (.pointer (some ⟨b20, 0, none⟩))), (6, v28), (27, (.int .i64 (x25.length : Int))), (28, (.int .i64 i35))]) ⟨rfl, rfl, rfl, rfl, rfl, trivial⟩ ?_
        refine nb_norm ?_
        refine nx ?_
        refine wpC_region ?_
        refine st_val (ex_add rfl rfl (ck_in (by omega) (by omega))) (by decide) trivial ?_
        refine st_val (ex_move rfl) (by decide) trivial ?_
        refine wpF_end (r := [(2, (.pointer (some ⟨b15, 0, none⟩))), (3, (.pointer (some ⟨b20, 0, none⟩))), (6, v28), (27, (.int .i64 (x25.length : Int))), (28, (.int .i64 (i35 + 1)))]) ⟨rfl, rfl, rfl, rfl, rfl, trivial⟩ ?_
        refine nt_norm ?_
        have e58 := Option.some.inj b44
        subst e58
        refine to_k (r := [(2, (.pointer (some ⟨b15, 0, none⟩))), (3, (.pointer (some ⟨b20, 0, none⟩))), (6, v28), (27, (.int .i64 (x25.length : Int))), (28, (.int .i64 (i35 + 1)))]) ⟨rfl, rfl, rfl, rfl, rfl, trivial⟩ ?_
        intro a ha
        exact ⟨_, (by rw [← m41]; omega), i35 + 1, x56, o33, n45, rfl, (by omega), ha, hB, h57, h16, h21⟩
      · have r59 := forN_done t46 l39
        refine wp_of ha ?_
        refine wpC_seq ?_
        refine wpC_region ?_
        refine st_val (ex_lss rfl rfl) (by decide) trivial ?_
        refine wpF_end (r := [(2, (.pointer (some ⟨b15, 0, none⟩))), (3, (.pointer (some ⟨b20, 0, none⟩))), (6, v28), (27, (.int .i64 (x25.length : Int))), (28, (.int .i64 i35)), (29, (.bool (decide (i35 < (x25.length : Int)))))]) ⟨rfl, rfl, rfl, rfl, rfl, rfl, trivial⟩ ?_
        refine nx ?_
        refine wpC_seq ?_
        refine wpC_false (congrArg (fun b => some (Value.bool b)) (decide_eq_false t46)) ?_
        refine wpC_exit ?_
        refine nt_exit ?_
        refine nt_exit ?_
        refine nb_hit ?_
        refine np_norm ?_
        refine to_k (r := [(2, (.pointer (some ⟨b15, 0, none⟩))), (3, (.pointer (some ⟨b20, 0, none⟩))), (6, v28)]) ⟨rfl, rfl, rfl, trivial⟩ ?_
        intro a ha
        exact ⟨y31, o33, r59, ha, hB, h32, h16, h21⟩
    · rintro a w34 ⟨y31, o33, rfl, ha, hB, h32, h16, h21⟩
      dsimp only at hF
      refine ap_k ha ?_
      refine nx ?_
      refine wpC_seq ?_
      refine wpC_seq ?_
      refine wpC_region ?_
      refine st_val (ex_move rfl) (by decide) trivial ?_
      refine st_val (ex_lenO rfl h32 Try.underlying23) (by decide) trivial ?_
      refine st_val (ex_move rfl) (by decide) trivial ?_
      refine wpF_end (r := [(2, (.pointer (some ⟨b15, 0, none⟩))), (3, (.pointer (some ⟨b20, 0, none⟩))), (6, v28), (36, (.int .i64 (y31.length : Int))), (37, (.int .i64 0))]) ⟨rfl, rfl, rfl, rfl, rfl, trivial⟩ ?_
      refine nx ?_
      obtain ⟨u67, h66, hF⟩ := bind_some hF
      obtain ⟨-, h66a, h66b⟩ := ck_some h66
      obtain ⟨q65, hq65, hF⟩ := bind_some hF
      refine wpC_cutN (fun a w63 => ∃ (y60 : List Int) (o62 : Tg), q65 = .inl y60 ∧ Fr a 91 [(6, v28)] ∧ Bs oo o62 w w63 ∧ Ow w.heap.size 3 13 o62 w63 v28 y60) (fun a w' => ∃ r', q65 = .inr r' ∧ bodyPost Try.prog Try.f85 (pS_isFind oo t w r') .ret a w') ?_ ?_ ?_
      · refine wpC_block ?_
        refine wpC_loop (fun (K : Nat) a w63 => ∃ (i64 : Int) (y60 : List Int) (o62 : Tg), forN (fS_isFind_s2 fuel p0 p1) ((y31.length : Int) - i64).toNat i64 y60 = some q65 ∧ ((y31.length : Int) - i64).toNat = K ∧ 0 ≤ i64 ∧ Fr a 91 [(2, (.pointer (some ⟨b15, 0, none⟩))), (3, (.pointer (some ⟨b20, 0, none⟩))), (6, v28), (36, (.int .i64 (y31.length : Int))), (37, (.int .i64 i64))] ∧ Bs oo o62 w w63 ∧ Ow w.heap.size 3 13 o62 w63 v28 y60 ∧ Bx w.heap.size 11 o62 w63 b15 31 [v1, v3, v5] ∧ Bx w.heap.size 12 o62 w63 b20 31 [v7, v9, v11]) _ (fun a ha => ⟨0, y31, o33, (by rw [Int.sub_zero]; exact hq65), rfl, Int.le_refl 0, ha.sub (r := [(2, (.pointer (some ⟨b15, 0, none⟩))), (3, (.pointer (some ⟨b20, 0, none⟩))), (6, v28), (36, (.int .i64 (y31.length : Int))), (37, (.int .i64 0))]) ⟨rfl, rfl, rfl, rfl, rfl, trivial⟩, hB, h32, h16, h21⟩) ?_
        rintro K71 a w63 ⟨i64, y60, o62, l68, m70, z69, ha, hB, h61, h16, h21⟩
        by_cases t75 : i64 < (y31.length : Int)
        · obtain ⟨q72, b73, n74⟩ := forN_cons t75 l68
          dsimp only [fS_isFind_s2] at b73
          refine wp_of ha ?_
          refine wpC_seq ?_
          refine wpC_region ?_
          refine st_val (ex_lss rfl rfl) (by decide) trivial ?_
          refine wpF_end (r := [(2, (.pointer (some ⟨b15, 0, none⟩))), (3, (.pointer (some ⟨b20, 0, none⟩))), (6, v28), (36, (.int .i64 (y31.length : Int))), (37, (.int .i64 i64)), (38, (.bool (decide (i64 < (y31.length : Int)))))]) ⟨rfl, rfl, rfl, rfl, rfl, rfl, trivial⟩ ?_
          refine nx ?_
          refine wpC_seq ?_
          refine wpC_true (congrArg (fun b => some (Value.bool b)) (decide_eq_true t75)) ?_
          refine wpC_skip ?_
          refine nx ?_
          refine wpC_seq ?_
          refine wpC_block ?_
          refine wpC_seq ?_
          refine wpC_region ?_
          refine st_val (ex_move rfl) (by decide) trivial ?_
          refine st_val (ex_assign rfl) (by decide) trivial ?_
          refine wpF_end (r := [(2, (.pointer (some ⟨b15, 0, none⟩))), (3, (.pointer (some ⟨b20, 0, none⟩))), (6, v28), (8, (.int .i64 i64)), (36, (.int .i64 (y31.length : Int))), (37, (.int .i64 i64))]) ⟨rfl, rfl, rfl, rfl, rfl, rfl, trivial⟩ ?_
          refine nx ?_
          refine wpC_seq ?_
          refine wpC_seq ?_
          refine wpC_region ?_
          refine st_val (ex_move rfl) (by decide) trivial ?_
          refine st_val (ex_move rfl) (by decide) trivial ?_
          obtain ⟨x76, hx76, b73⟩ := bind_some b73
          refine st_op (by decide) trivial ?_
          refine wf_atW h61 hx76 rfl rfl Try.underlying23 Try.sizeOf3 ?_
          intro b77 f78 c79 h80 h81
          cases h81
          refine st_val (ex_load1 rfl Try.isAgg3 (cell_of_cells h80)) (by decide) trivial ?_
          refine st_val (ex_geq rfl rfl) (by decide) trivial ?_
          refine wpF_end (r := [(2, (.pointer (some ⟨b15, 0, none⟩))), (3, (.pointer (some ⟨b20, 0, none⟩))), (6, v28), (8, (.int .i64 i64)), (36, (.int .i64 (y31.length : Int))), (37, (.int .i64 i64)), (44, (.bool (decide (x76 ≥ 0))))]) ⟨rfl, rfl, rfl, rfl, rfl, rfl, rfl, trivial⟩ ?_
          refine nx ?_
          refine wpC_cond rfl (fun t82 => ?_) (fun t82 => ?_)
          · rw [if_pos t82] at b73
            refine wpC_exit ?_
            refine nt_exit ?_
            refine nb_hit ?_
            refine nx ?_
            refine wpC_region ?_
            refine st_val (ex_add rfl rfl (ck_in (by omega) (by omega))) (by decide) trivial ?_
            refine st_val (ex_move rfl) (by decide) trivial ?_
            refine wpF_end (r := [(2, (.pointer (some ⟨b15, 0, none⟩))), (3, (.pointer (some ⟨b20, 0, none⟩))), (6, v28), (36, (.int .i64 (y31.length : Int))), (37, (.int .i64 (i64 + 1)))]) ⟨rfl, rfl, rfl, rfl, rfl, trivial⟩ ?_
            refine nt_norm ?_
            have e83 := Option.some.inj b73
            subst e83
            refine to_k (r := [(2, (.pointer (some ⟨b15, 0, none⟩))), (3, (.pointer (some ⟨b20, 0, none⟩))), (6, v28), (36, (.int .i64 (y31.length : Int))), (37, (.int .i64 (i64 + 1)))]) ⟨rfl, rfl, rfl, rfl, rfl, trivial⟩ ?_
            intro a ha
            exact ⟨_, (by rw [← m70]; omega), i64 + 1, y60, o62, n74, rfl, (by omega), ha, hB, h61, h16, h21⟩
          · rw [if_neg (by rw [t82]; decide)] at b73
            refine wpC_skip ?_
            refine nx ?_
            refine wpC_seq ?_
            refine wpC_region ?_
            refine st_val (ex_loadA rfl Try.isAgg31 Try.sizeOf31 rfl h16.cells) (by decide) trivial ?_
            refine st_val (ex_move rfl) (by decide) trivial ?_
            obtain ⟨x84, hx84, b73⟩ := bind_some b73
            refine st_op (by decide) trivial ?_
            refine wf_call (cS_isWalk fuel w63 o62 14 (by decide) _ p0 (⟨_, _, _, rfl, (h2.keep hB.keeps), (h4.keep hB.keeps), (h6.keep hB.keeps)⟩) i64 x84 hx84) Try.call63 ⟨rfl, rfl, trivial⟩ ?_
            rintro e91 w85 ⟨v86, o92, rfl, h87, k88, k89⟩
            have s90 := k88.stp' 14 k89
            replace h87 := h87.mono hB.keeps.size
            refine ⟨_, rfl, ?_⟩
            replace h61 := h61.stp s90 (by decide) (by decide)
            replace h16 := h16.stp s90 (by decide)
            replace h21 := h21.stp s90 (by decide)
            replace hB := hB.stp s90 (by decide)
            refine st_val (ex_assign rfl) (by decide) trivial ?_
            refine wpF_end (r := [(2, (.pointer (some ⟨b15, 0, none⟩))), (3, (.pointer (some ⟨b20, 0, none⟩))), (6, v28), (8, (.int .i64 i64)), (9, v86), (36, (.int .i64 (y31.length : Int))), (37, (.int .i64 i64))]) ⟨rfl, rfl, rfl, rfl, rfl, rfl, rfl, trivial⟩ ?_
            refine nx ?_
            refine wpC_seq ?_
            refine wpC_region ?_
            refine st_val (ex_loadA rfl Try.isAgg31 Try.sizeOf31 rfl h16.cells) (by decide) trivial ?_
            refine st_val (ex_move rfl) (by decide) trivial ?_
            obtain ⟨x93, hx93, b73⟩ := bind_some b73
            refine st_op (by decide) trivial ?_
            refine wf_call (cS_isCode w85 o92 15 (by decide) _ p0 (⟨_, _, _, rfl, (h2.keep hB.keeps), (h4.keep hB.keeps), (h6.keep hB.keeps)⟩) _ x84 h87.z x93 hx93) Try.call64 ⟨rfl, rfl, trivial⟩ ?_
            rintro e100 w94 ⟨v95, o101, rfl, h96, k97, k98⟩
            have s99 := k97.stp' 15 k98
            replace h96 := h96.mono hB.keeps.size
            refine ⟨_, rfl, ?_⟩
            replace h61 := h61.stp s99 (by decide) (by decide)
            replace h87 := h87.stp s99 (by decide) (by decide)
            replace h16 := h16.stp s99 (by decide)
            replace h21 := h21.stp s99 (by decide)
            replace hB := hB.stp s99 (by decide)
            refine st_val (ex_assign rfl) (by decide) trivial ?_
            refine wpF_end (r := [(2, (.pointer (some ⟨b15, 0, none⟩))), (3, (.pointer (some ⟨b20, 0, none⟩))), (6, v28), (8, (.int .i64 i64)), (9, v86), (10, v95), (36, (.int .i64 (y31.length : Int))), (37, (.int .i64 i64))]) ⟨rfl, rfl, rfl, rfl, rfl, rfl, rfl, rfl, trivial⟩ ?_
            refine nx ?_
            refine wpC_seq ?_
            refine wpC_seq ?_
            refine wpC_region ?_
            refine st_val (ex_field rfl Try.underlying31 rfl Try.sizeOf29) (by decide) trivial ?_
            refine st_val (ex_load1 rfl Try.isAgg29 (h21.cell rfl)) (by decide) trivial ?_
            refine st_val (ex_lenR rfl h8 Try.underlying29) (by decide) trivial ?_
            refine st_val (ex_move rfl) (by decide) trivial ?_
            refine wpF_end (r := [(2, (.pointer (some ⟨b15, 0, none⟩))), (3, (.pointer (some ⟨b20, 0, none⟩))), (6, v28), (8, (.int .i64 i64)), (9, v86), (10, v95), (36, (.int .i64 (y31.length : Int))), (37, (.int .i64 i64)), (53, (.int .i64 (p1.Ends.length : Int))), (54, (.int .i64 0))]) ⟨rfl, rfl, rfl, rfl, rfl, rfl, rfl, rfl, rfl, rfl, trivial⟩ ?_
            refine nx ?_
            obtain ⟨u109, h108, b73⟩ := bind_some b73
            obtain ⟨-, h108a, h108b⟩ := ck_some h108
            obtain ⟨q107, hq107, b73⟩ := bind_some b73
            refine wpC_cutN (fun a w105 => ∃ (y102 : List Int) (o104 : Tg), q107 = .inl y102 ∧ Fr a 91 [(2, (.pointer (some ⟨b15, 0, none⟩))), (3, (.pointer (some ⟨b20, 0, none⟩))), (6, v28), (8, (.int .i64 i64)), (36, (.int .i64 (y31.length : Int))), (37, (.int .i64 i64))] ∧ Bs oo o104 w w105 ∧ Ow w.heap.size 3 13 o104 w105 v28 y102 ∧ Bx w.heap.size 11 o104 w105 b15 31 [v1, v3, v5] ∧ Bx w.heap.size 12 o104 w105 b20 31 [v7, v9, v11]) (fun _ _ => False) ?_ ?_ ?_
            · refine wpC_block ?_
              refine wpC_loop (fun (K : Nat) a w105 => ∃ (i106 : Int) (y102 : List Int) (o104 : Tg), forN (fS_isFind_s3 fuel p1 x84 x93) ((p1.Ends.length : Int) - i106).toNat i106 y102 = some q107 ∧ ((p1.Ends.length : Int) - i106).toNat = K ∧ 0 ≤ i106 ∧ Fr a 91 [(2, (.pointer (some ⟨b15, 0, none⟩))), (3, (.pointer (some ⟨b20, 0, none⟩))), (6, v28), (8, (.int .i64 i64)), (9, v86), (10, v95), (36, (.int .i64 (y31.length : Int))), (37, (.int .i64 i64)), (53, (.int .i64 (p1.Ends.length : Int))), (54, (.int .i64 i106))] ∧ Bs oo o104 w w105 ∧ Ow w.heap.size 3 13 o104 w105 v28 y102 ∧ Ow w.heap.size 3 14 o104 w105 v86 x84 ∧ Ow w.heap.size 3 15 o104 w105 v95 x93 ∧ Bx w.heap.size 11 o104 w105 b15 31 [v1, v3, v5] ∧ Bx w.heap.size 12 o104 w105 b20 31 [v7, v9, v11]) _ (fun a ha => ⟨0, y60, o101, (by rw [Int.sub_zero]; exact hq107), rfl, Int.le_refl 0, ha.sub (r := [(2, (.pointer (some ⟨b15, 0, none⟩))), (3, (.pointer (some ⟨b20, 0, none⟩))), (6, v28), (8, (.int .i64 i64)), (9, v86), (10, v95), (36, (.int .i64 (y31.length : Int))), (37, (.int .i64 i64)), (53, (.int .i64 (p1.Ends.length : Int))), (54, (.int .i64 0))]) ⟨rfl, rfl, rfl, rfl, rfl, rfl, rfl, rfl, rfl, rfl, trivial⟩, hB, h61, h87, h96, h16, h21⟩) ?_
              rintro K113 a w105 ⟨i106, y102, o104, l110, m112, z111, ha, hB, h103, h87, h96, h16, h21⟩
              by_cases t117 : i106 < (p1.Ends.length : Int)
              · obtain ⟨q114, b115, n116⟩ := forN_cons t117 l110
                dsimp only [fS_isFind_s3] at b115
                refine wp_of ha ?_
                refine wpC_seq ?_
                refine wpC_region ?_
                refine st_val (ex_lss rfl rfl) (by decide) trivial ?_
                refine wpF_end (r := [(2, (.pointer (some ⟨b15, 0, none⟩))), (3, (.pointer (some ⟨b20, 0, none⟩))), (6, v28), (8, (.int .i64 i64)), (9, v86), (10, v95), (36, (.int .i64 (y31.length : Int))), (37, (.int .i64 i64)), (53, (.int .i64 (p1.Ends.length : Int))), (54, (.int .i64 i106)), (55, (.bool (decide (i106 < (p1.Ends.length : Int)))))]) ⟨rfl, rfl, rfl, rfl, rfl, rfl, rfl, rfl, rfl, rfl, rfl, trivial⟩ ?_
                refine nx ?_
                refine wpC_seq ?_
                refine wpC_true (congrArg (fun b => some (Value.bool b)) (decide_eq_true t117)) ?_
                refine wpC_skip ?_
                refine nx ?_
                refine wpC_seq ?_
                refine wpC_block ?_
                refine wpC_seq ?_
                refine wpC_region ?_
                refine st_val (ex_move rfl) (by decide) trivial ?_
                refine st_val (ex_assign rfl) (by decide) trivial ?_
                refine wpF_end (r := [(2, (.pointer (some ⟨b15, 0, none⟩))), (3, (.pointer (some ⟨b20, 0, none⟩))), (6, v28), (8, (.int .i64 i64)), (9, v86), (10, v95), (11, (.int .i64 i106)), (36, (.int .i64 (y31.length : Int))), (37, (.int .i64 i64)), (53, (.int .i64 (p1.Ends.length : Int))), (54, (.int .i64 i106))]) ⟨rfl, rfl, rfl, rfl, rfl, rfl, rfl, rfl, rfl, rfl, rfl, trivial⟩ ?_
                refine nx ?_
                refine wpC_seq ?_
                refine wpC_seq ?_
                refine wpC_region ?_
                refine st_val (ex_move rfl) (by decide) trivial ?_
                refine st_val (ex_move rfl) (by decide) trivial ?_
                obtain ⟨x118, hx118, b115⟩ := bind_some b115
                refine st_op (by decide) trivial ?_
                refine wf_call (cS_l1Has w105 _ y102 h103.z i106 x118 hx118) Try.call94 ⟨rfl, rfl, trivial⟩ ?_
                rintro e123 w119 ⟨rfl, k120⟩
                have s122 := k120.stp 999 o104
                refine ⟨_, rfl, ?_⟩
                replace h103 := h103.stp s122 (by decide) (by decide)
                replace h87 := h87.stp s122 (by decide) (by decide)
                replace h96 := h96.stp s122 (by decide) (by decide)
                replace h16 := h16.stp s122 (by decide)
                replace h21 := h21.stp s122 (by decide)
                replace hB := hB.stp s122 (by decide)
                refine wpF_end (r := [(2, (.pointer (some ⟨b15, 0, none⟩))), (3, (.pointer (some ⟨b20, 0, none⟩))), (6, v28), (8, (.int .i64 i64)), (9, v86), (10, v95), (11, (.int .i64 i106)), (36, (.int .i64 (y31.length : Int))), (37, (.int .i64 i64)), (53, (.int .i64 (p1.Ends.length : Int))), (54, (.int .i64 i106)), (59, (.bool x118))]) ⟨rfl, rfl, rfl, rfl, rfl, rfl, rfl, rfl, rfl, rfl, rfl, rfl, trivial⟩ ?_
                refine nx ?_
                refine wpC_cond rfl (fun t124 => ?_) (fun t124 => ?_)
                · rw [if_pos t124] at b115
                  refine wpC_exit ?_
                  refine nt_exit ?_
                  refine nb_hit ?_
                  refine nx ?_
                  refine wpC_region ?_
                  refine st_val (ex_add rfl rfl (ck_in (by omega) (by omega))) (by decide) trivial ?_
                  refine st_val (ex_move rfl) (by decide) trivial ?_
                  refine wpF_end (r := [(2, (.pointer (some ⟨b15, 0, none⟩))), (3, (.pointer (some ⟨b20, 0, none⟩))), (6, v28), (8, (.int .i64 i64)), (9, v86), (10, v95), (36, (.int .i64 (y31.length : Int))), (37, (.int .i64 i64)), (53, (.int .i64 (p1.Ends.length : Int))), (54, (.int .i64 (i106 + 1)))]) ⟨rfl, rfl, rfl, rfl, rfl, rfl, rfl, rfl, rfl, rfl, trivial⟩ ?_
                  refine nt_norm ?_
                  have e125 := Option.some.inj b115
                  subst e125
                  refine to_k (r := [(2, (.pointer (some ⟨b15, 0, none⟩))), (3, (.pointer (some ⟨b20, 0, none⟩))), (6, v28), (8, (.int .i64 i64)), (9, v86), (10, v95), (36, (.int .i64 (y31.length : Int))), (37, (.int .i64 i64)), (53, (.int .i64 (p1.Ends.length : Int))), (54, (.int .i64 (i106 + 1)))]) ⟨rfl, rfl, rfl, rfl, rfl, rfl, rfl, rfl, rfl, rfl, trivial⟩ ?_
                  intro a ha
                  exact ⟨_, (by rw [← m112]; omega), i106 + 1, y102, o104, n116, rfl, (by omega), ha, hB, h103, h87, h96, h16, h21⟩
                · rw [if_neg (by rw [t124]; decide)] at b115
                  refine wpC_skip ?_
                  refine nx ?_
                  refine wpC_seq ?_
                  refine wpC_region ?_
                  refine st_val (ex_loadA rfl Try.isAgg31 Try.sizeOf31 rfl h21.cells) (by decide) trivial ?_
                  refine st_val (ex_move rfl) (by decide) trivial ?_
                  obtain ⟨x126, hx126, b115⟩ := bind_some b115
                  refine st_op (by decide) trivial ?_
                  refine wf_call (cS_isWalk fuel w119 o104 17 (by decide) _ p1 (⟨_, _, _, rfl, (h8.keep hB.keeps), (h10.keep hB.keeps), (h12.keep hB.keeps)⟩) i106 x126 hx126) Try.call63 ⟨rfl, rfl, trivial⟩ ?_
                  rintro e133 w127 ⟨v128, o134, rfl, h129, k130, k131⟩
                  have s132 := k130.stp' 17 k131
                  replace h129 := h129.mono hB.keeps.size
                  refine ⟨_, rfl, ?_⟩
                  replace h103 := h103.stp s132 (by decide) (by decide)
                  replace h87 := h87.stp s132 (by decide) (by decide)
                  replace h96 := h96.stp s132 (by decide) (by decide)
                  replace h16 := h16.stp s132 (by decide)
                  replace h21 := h21.stp s132 (by decide)
                  replace hB := hB.stp s132 (by decide)
                  refine st_val (ex_assign rfl) (by decide) trivial ?_
                  refine wpF_end (r := [(2, (.pointer (some ⟨b15, 0, none⟩))), (3, (.pointer (some ⟨b20, 0, none⟩))), (6, v28), (8, (.int .i64 i64)), (9, v86), (10, v95), (12, v128), (36, (.int .i64 (y31.length : Int))), (37, (.int .i64 i64)), (53, (.int .i64 (p1.Ends.length : Int))), (54, (.int .i64 i106))]) ⟨rfl, rfl, rfl, rfl, rfl, rfl, rfl, rfl, rfl, rfl, rfl, trivial⟩ ?_
                  refine nx ?_
                  refine wpC_seq ?_
                  refine wpC_region ?_
                  refine st_val (ex_move rfl) (by decide) trivial ?_
                  refine st_val (ex_loadA rfl Try.isAgg31 Try.sizeOf31 rfl h21.cells) (by decide) trivial ?_
                  refine st_val (ex_move rfl) (by decide) trivial ?_
                  obtain ⟨x135, hx135, b115⟩ := bind_some b115
                  refine st_op (by decide) trivial ?_
                  refine wf_call (cS_isCode w127 o134 18 (by decide) _ p1 (⟨_, _, _, rfl, (h8.keep hB.keeps), (h10.keep hB.keeps), (h12.keep hB.keeps)⟩) _ x126 h129.z x135 hx135) Try.call64 ⟨rfl, rfl, trivial⟩ ?_
                  rintro e142 w136 ⟨v137, o143, rfl, h138, k139, k140⟩
                  have s141 := k139.stp' 18 k140
                  replace h138 := h138.mono hB.keeps.size
                  refine ⟨_, rfl, ?_⟩
                  replace h103 := h103.stp s141 (by decide) (by decide)
                  replace h87 := h87.stp s141 (by decide) (by decide)
                  replace h96 := h96.stp s141 (by decide) (by decide)
                  replace h129 := h129.stp s141 (by decide) (by decide)
                  replace h16 := h16.stp s141 (by decide)
                  replace h21 := h21.stp s141 (by decide)
                  replace hB := hB.stp s141 (by decide)
                  obtain ⟨x144, hx144, b115⟩ := bind_some b115
                  refine st_op (by decide) trivial ?_
                  refine wf_call (cS_l1Same w136 _ x93 h96.z _ x135 h138.z x144 hx144) Try.call56 ⟨rfl, rfl, trivial⟩ ?_
                  rintro e149 w145 ⟨rfl, k146⟩
                  have s148 := k146.stp 999 o143
                  refine ⟨_, rfl, ?_⟩
                  replace h103 := h103.stp s148 (by decide) (by decide)
                  replace h87 := h87.stp s148 (by decide) (by decide)
                  replace h96 := h96.stp s148 (by decide) (by decide)
                  replace h129 := h129.stp s148 (by decide) (by decide)
                  replace h138 := h138.stp s148 (by decide) (by decide)
                  replace h16 := h16.stp s148 (by decide)
                  replace h21 := h21.stp s148 (by decide)
                  replace hB := hB.stp s148 (by decide)
                  refine wpF_end (r := [(2, (.pointer (some ⟨b15, 0, none⟩))), (3, (.pointer (some ⟨b20, 0, none⟩))), (6, v28), (8, (.int .i64 i64)), (9, v86), (10, v95), (12, v128), (36, (.int .i64 (y31.length : Int))), (37, (.int .i64 i64)), (53, (.int .i64 (p1.Ends.length : Int))), (54, (.int .i64 i106)), (67, (.bool x144))]) ⟨rfl, rfl, rfl, rfl, rfl, rfl, rfl, rfl, rfl, rfl, rfl, rfl, trivial⟩ ?_
                  refine nx ?_
                  refine wpC_cond rfl (fun t150 => ?_) (fun t150 => ?_)
                  · rw [if_pos t150] at b115
                    refine wpC_seq ?_
                    refine wpC_seq ?_
                    refine wpC_region ?_
                    refine st_val (ex_move rfl) (by decide) trivial ?_
                    refine st_val (ex_lenO rfl h87 Try.underlying23) (by decide) trivial ?_
                    refine st_val (ex_move rfl) (by decide) trivial ?_
                    refine wpF_end (r := [(2, (.pointer (some ⟨b15, 0, none⟩))), (3, (.pointer (some ⟨b20, 0, none⟩))), (6, v28), (8, (.int .i64 i64)), (12, v128), (36, (.int .i64 (y31.length : Int))), (37, (.int .i64 i64)), (68, v86), (69, (.int .i64 (x84.length : Int))), (70, (.int .i64 0))]) ⟨rfl, rfl, rfl, rfl, rfl, rfl, rfl, rfl, rfl, rfl, trivial⟩ ?_
                    refine nx ?_
                    obtain ⟨q156, hq156, b115⟩ := bind_some b115
                    refine wpC_cutN (fun a w154 => ∃ (y151 : List Int) (o153 : Tg), q156 = .inl y151 ∧ Fr a 91 [(2, (.pointer (some ⟨b15, 0, none⟩))), (3, (.pointer (some ⟨b20, 0, none⟩))), (6, v28), (8, (.int .i64 i64)), (36, (.int .i64 (y31.length : Int))), (37, (.int .i64 i64))] ∧ Bs oo o153 w w154 ∧ Ow w.heap.size 3 13 o153 w154 v28 y151 ∧ Bx w.heap.size 11 o153 w154 b15 31 [v1, v3, v5] ∧ Bx w.heap.size 12 o153 w154 b20 31 [v7, v9, v11]) (fun _ _ => False) ?_ ?_ ?_
                    · refine wpC_block ?_
                      refine wpC_loop (fun (K : Nat) a w154 => ∃ (i155 : Int) (y151 : List Int) (o153 : Tg), forI (fS_isFind_s4 x126) (x84.drop i155.toNat) i155 y151 = some q156 ∧ (x84.drop i155.toNat).length = K ∧ 0 ≤ i155 ∧ Fr a 91 [(2, (.pointer (some ⟨b15, 0, none⟩))), (3, (.pointer (some ⟨b20, 0, none⟩))), (6, v28), (8, (.int .i64 i64)), (12, v128), (36, (.int .i64 (y31.length : Int))), (37, (.int .i64 i64)), (68, v86), (69, (.int .i64 (x84.length : Int))), (70, (.int .i64 i155))] ∧ Bs oo o153 w w154 ∧ Ow w.heap.size 3 13 o153 w154 v28 y151 ∧ Ow w.heap.size 3 17 o153 w154 v128 x126 ∧ Ow w.heap.size 3 14 o153 w154 v86 x84 ∧ Bx w.heap.size 11 o153 w154 b15 31 [v1, v3, v5] ∧ Bx w.heap.size 12 o153 w154 b20 31 [v7, v9, v11]) _ (fun a ha => ⟨0, y102, o143, hq156, rfl, Int.le_refl 0, ha.sub (r := [(2, (.pointer (some ⟨b15, 0, none⟩))), (3, (.pointer (some ⟨b20, 0, none⟩))), (6, v28), (8, (.int .i64 i64)), (12, v128), (36, (.int .i64 (y31.length : Int))), (37, (.int .i64 i64)), (68, v86), (69, (.int .i64 (x84.length : Int))), (70, (.int .i64 0))]) ⟨rfl, rfl, rfl, rfl, rfl, rfl, rfl, rfl, rfl, rfl, trivial⟩, hB, h103, h129, h87, h16, h21⟩) ?_
                      rintro K160 a w154 ⟨i155, y151, o153, l157, m159, z158, ha, hB, h152, h129, h87, h16, h21⟩
                      by_cases t164 : i155 < (x84.length : Int)
                      · obtain ⟨x165, q161, hx165, b162, n163⟩ := forI_cons z158 t164 l157
                        have hle := h87.len_le
                        dsimp only [fS_isFind_s4] at b162
                        refine wp_of ha ?_
                        refine wpC_seq ?_
                        refine wpC_region ?_
                        refine st_val (ex_lss rfl rfl) (by decide) trivial ?_
                        refine wpF_end (r := [(2, (.pointer (some ⟨b15, 0, none⟩))), (3, (.pointer (some ⟨b20, 0, none⟩))), (6, v28), (8, (.int .i64 i64)), (12, v128), (36, (.int .i64 (y31.length : Int))), (37, (.int .i64 i64)), (68, v86), (69, (.int .i64 (x84.length : Int))), (70, (.int .i64 i155)), (71, (.bool (decide (i155 < (x84.length : Int)))))]) ⟨rfl, rfl, rfl, rfl, rfl, rfl, rfl, rfl, rfl, rfl, rfl, trivial⟩ ?_
                        refine nx ?_
                        refine wpC_seq ?_
                        refine wpC_true (congrArg (fun b => some (Value.bool b)) (decide_eq_true t164)) ?_
                        refine wpC_skip ?_
                        refine nx ?_
                        refine wpC_seq ?_
                        refine wpC_block ?_
                        refine wpC_seq ?_
                        refine wpC_region ?_
                        refine st_val (ex_move rfl) (by decide) trivial ?_
                        refine st_op (by decide) trivial ?_
                        refine wf_atW h87 hx165 rfl rfl Try.underlying23 Try.sizeOf3 ?_
                        intro b166 f167 c168 h169 h170
                        cases h170
                        refine st_val (ex_load1 rfl Try.isAgg3 (cell_of_cells h169)) (by decide) trivial ?_
                        refine st_val (ex_assign rfl) (by decide) trivial ?_
                        refine st_val (ex_assign rfl) (by decide) trivial ?_
                        refine wpF_end (r := [(2, (.pointer (some ⟨b15, 0, none⟩))), (3, (.pointer (some ⟨b20, 0, none⟩))), (6, v28), (8, (.int .i64 i64)), (12, v128), (13, (.int .i64 i155)), (14, (.int .i64 x165)), (36, (.int .i64 (y31.length : Int))), (37, (.int .i64 i64)), (68, v86), (69, (.int .i64 (x84.length : Int))), (70, (.int .i64 i155))]) ⟨rfl, rfl, rfl, rfl, rfl, rfl, rfl, rfl, rfl, rfl, rfl, rfl, trivial⟩ ?_
                        refine nx ?_
                        refine wpC_region ?_
                        refine st_val (ex_move rfl) (by decide) trivial ?_
                        refine st_val (ex_move rfl) (by decide) trivial ?_
                        refine st_val (ex_move rfl) (by decide) trivial ?_
                        refine st_val (ex_move rfl) (by decide) trivial ?_
                        obtain ⟨x171, hx171, b162⟩ := bind_some b162
                        refine st_op (by decide) trivial ?_
                        refine wf_atW h129 hx171 rfl rfl Try.underlying23 Try.sizeOf3 ?_
                        intro b172 f173 c174 h175 h176
                        cases h176
                        refine st_val (ex_load1 rfl Try.isAgg3 (cell_of_cells h175)) (by decide) trivial ?_
                        obtain ⟨x177, hx177, b162⟩ := bind_some b162
                        refine st_op (by decide) trivial ?_
                        refine wf_atP h152 hx177 rfl rfl Try.underlying23 Try.sizeOf3 ?_
                        intro b178 c180 h183 h181 h182
                        cases h182
                        obtain ⟨x186, hx186, b162⟩ := bind_some b162
                        refine st_op0 trivial ?_
                        refine wf_storeW h152 h183 hx186 rfl (by decide) rfl rfl rfl Try.sizeOf3 rfl ?_
                        intro w184 h187 s185
                        replace h129 := h129.stp s185 (by decide) (by decide)
                        replace h87 := h87.stp s185 (by decide) (by decide)
                        replace h16 := h16.stp s185 (by decide)
                        replace h21 := h21.stp s185 (by decide)
                        replace hB := hB.stp s185 (by decide)
                        refine wpF_end (r := [(2, (.pointer (some ⟨b15, 0, none⟩))), (3, (.pointer (some ⟨b20, 0, none⟩))), (6, v28), (8, (.int .i64 i64)), (12, v128), (36, (.int .i64 (y31.length : Int))), (37, (.int .i64 i64)), (68, v86), (69, (.int .i64 (x84.length : Int))), (70, (.int .i64 i155))]) ⟨rfl, rfl, rfl, rfl, rfl, rfl, rfl, rfl, rfl, rfl, trivial⟩ ?_
                        refine nb_norm ?_
                        refine nx ?_
                        refine wpC_region ?_
                        refine st_val (ex_add rfl rfl (ck_in (by omega) (by omega))) (by decide) trivial ?_
                        refine st_val (ex_move rfl) (by decide) trivial ?_
                        refine wpF_end (r := [(2, (.pointer (some ⟨b15, 0, none⟩))), (3, (.pointer (some ⟨b20, 0, none⟩))), (6, v28), (8, (.int .i64 i64)), (12, v128), (36, (.int .i64 (y31.length : Int))), (37, (.int .i64 i64)), (68, v86), (69, (.int .i64 (x84.length : Int))), (70, (.int .i64 (i155 + 1)))]) ⟨rfl, rfl, rfl, rfl, rfl, rfl, rfl, rfl, rfl, rfl, trivial⟩ ?_
                        refine nt_norm ?_
                        have e188 := Option.some.inj b162
                        subst e188
                        refine to_k (r := [(2, (.pointer (some ⟨b15, 0, none⟩))), (3, (.pointer (some ⟨b20, 0, none⟩))), (6, v28), (8, (.int .i64 i64)), (12, v128), (36, (.int .i64 (y31.length : Int))), (37, (.int .i64 i64)), (68, v86), (69, (.int .i64 (x84.length : Int))), (70, (.int .i64 (i155 + 1)))]) ⟨rfl, rfl, rfl, rfl, rfl, rfl, rfl, rfl, rfl, rfl, trivial⟩ ?_
                        intro a ha
                        exact ⟨_, (by rw [← m159]; simp only [List.length_drop]; omega), i155 + 1, x186, o153, n163, rfl, (by omega), ha, hB, h187, h129, h87, h16, h21⟩
                      · have r189 := forI_done t164 l157
                        refine wp_of ha ?_
                        refine wpC_seq ?_
                        refine wpC_region ?_
                        refine st_val (ex_lss rfl rfl) (by decide) trivial ?_
                        refine wpF_end (r := [(2, (.pointer (some ⟨b15, 0, none⟩))), (3, (.pointer (some ⟨b20, 0, none⟩))), (6, v28), (8, (.int .i64 i64)), (12, v128), (36, (.int .i64 (y31.length : Int))), (37, (.int .i64 i64)), (68, v86), (69, (.int .i64 (x84.length : Int))), (70, (.int .i64 i155)), (71, (.bool (decide (i155 < (x84.length : Int)))))]) ⟨rfl, rfl, rfl, rfl, rfl, rfl, rfl, rfl, rfl, rfl, rfl, trivial⟩ ?_
                        refine nx ?_
                        refine wpC_seq ?_
                        refine wpC_false (congrArg (fun b => some (Value.bool b)) (decide_eq_false t164)) ?_
                        refine wpC_exit ?_
                        refine nt_exit ?_
                        refine nt_exit ?_
                        refine nb_hit ?_
                        refine np_norm ?_
                        refine to_k (r := [(2, (.pointer (some ⟨b15, 0, none⟩))), (3, (.pointer (some ⟨b20, 0, none⟩))), (6, v28), (8, (.int .i64 i64)), (36, (.int .i64 (y31.length : Int))), (37, (.int .i64 i64))]) ⟨rfl, rfl, rfl, rfl, rfl, rfl, trivial⟩ ?_
                        intro a ha
                        exact ⟨y151, o153, r189, ha, hB, h152, h16, h21⟩
                    · rintro a w154 ⟨y151, o153, rfl, ha, hB, h152, h16, h21⟩
                      dsimp only at b115
                      refine ap_k ha ?_
                      refine nx ?_
                      refine wpC_exit ?_
                      refine nb_miss (by decide) ?_
                      refine nt_exit ?_
                      refine nt_exit ?_
                      refine nb_hit ?_
                      refine np_norm ?_
                      have e190 := Option.some.inj b115
                      subst e190
                      refine to_k (r := [(2, (.pointer (some ⟨b15, 0, none⟩))), (3, (.pointer (some ⟨b20, 0, none⟩))), (6, v28), (8, (.int .i64 i64)), (36, (.int .i64 (y31.length : Int))), (37, (.int .i64 i64))]) ⟨rfl, rfl, rfl, rfl, rfl, rfl, trivial⟩ ?_
                      intro a ha
                      exact ⟨y151, o153, n116, ha, hB, h152, h16, h21⟩
                    · exact fun _ _ h => h.elim
                  · rw [if_neg (by rw [t150]; decide)] at b115
                    refine wpC_skip ?_
                    refine nb_norm ?_
                    refine nx ?_
                    refine wpC_region ?_
                    refine st_val (ex_add rfl rfl (ck_in (by omega) (by omega))) (by decide) trivial ?_
                    refine st_val (ex_move rfl) (by decide) trivial ?_
                    refine wpF_end (r := [(2, (.pointer (some ⟨b15, 0, none⟩))), (3, (.pointer (some ⟨b20, 0, none⟩))), (6, v28), (8, (.int .i64 i64)), (9, v86), (10, v95), (36, (.int .i64 (y31.length : Int))), (37, (.int .i64 i64)), (53, (.int .i64 (p1.Ends.length : Int))), (54, (.int .i64 (i106 + 1)))]) ⟨rfl, rfl, rfl, rfl, rfl, rfl, rfl, rfl, rfl, rfl, trivial⟩ ?_
                    refine nt_norm ?_
                    have e191 := Option.some.inj b115
                    subst e191
                    refine to_k (r := [(2, (.pointer (some ⟨b15, 0, none⟩))), (3, (.pointer (some ⟨b20, 0, none⟩))), (6, v28), (8, (.int .i64 i64)), (9, v86), (10, v95), (36, (.int .i64 (y31.length : Int))), (37, (.int .i64 i64)), (53, (.int .i64 (p1.Ends.length : Int))), (54, (.int .i64 (i106 + 1)))]) ⟨rfl, rfl, rfl, rfl, rfl, rfl, rfl, rfl, rfl, rfl, trivial⟩ ?_
                    intro a ha
                    exact ⟨_, (by rw [← m112]; omega), i106 + 1, y102, o143, n116, rfl, (by omega), ha, hB, h103, h87, h96, h16, h21⟩
              · have r192 := forN_done t117 l110
                refine wp_of ha ?_
                refine wpC_seq ?_
                refine wpC_region ?_
                refine st_val (ex_lss rfl rfl) (by decide) trivial ?_
                refine wpF_end (r := [(2, (.pointer (some ⟨b15, 0, none⟩))), (3, (.pointer (some ⟨b20, 0, none⟩))), (6, v28), (8, (.int .i64 i64)), (9, v86), (10, v95), (36, (.int .i64 (y31.length : Int))), (37, (.int .i64 i64)), (53, (.int .i64 (p1.Ends.length : Int))), (54, (.int .i64 i106)), (55, (.bool (decide (i106 < (p1.Ends.length : Int)))))]) ⟨rfl, rfl, rfl, rfl, rfl, rfl, rfl, rfl, rfl, rfl, rfl, trivial⟩ ?_
                refine nx ?_
                refine wpC_seq ?_
                refine wpC_false (congrArg (fun b => some (Value.bool b)) (decide_eq_false t117)) ?_
                refine wpC_exit ?_
                refine nt_exit ?_
                refine nt_exit ?_
                refine nb_hit ?_
                refine np_norm ?_
                refine to_k (r := [(2, (.pointer (some ⟨b15, 0, none⟩))), (3, (.pointer (some ⟨b20, 0, none⟩))), (6, v28), (8, (.int .i64 i64)), (36, (.int .i64 (y31.length : Int))), (37, (.int .i64 i64))]) ⟨rfl, rfl, rfl, rfl, rfl, rfl, trivial⟩ ?_
                intro a ha
                exact ⟨y102, o104, r192, ha, hB, h103, h16, h21⟩
            · rintro a w105 ⟨y102, o104, rfl, ha, hB, h103, h16, h21⟩
              dsimp only at b73
              refine ap_k ha ?_
              refine nx ?_
              refine wpC_seq ?_
              refine wpC_region ?_
              refine st_val (ex_move rfl) (by decide) trivial ?_
              refine st_val (ex_move rfl) (by decide) trivial ?_
              obtain ⟨x193, hx193, b73⟩ := bind_some b73
              refine st_op (by decide) trivial ?_
              refine wf_atW h103 hx193 rfl rfl Try.underlying23 Try.sizeOf3 ?_
              intro b194 f195 c196 h197 h198
              cases h198
              refine st_val (ex_load1 rfl Try.isAgg3 (cell_of_cells h197)) (by decide) trivial ?_
              refine st_val (ex_lss rfl rfl) (by decide) trivial ?_
              refine wpF_end (r := [(2, (.pointer (some ⟨b15, 0, none⟩))), (3, (.pointer (some ⟨b20, 0, none⟩))), (6, v28), (36, (.int .i64 (y31.length : Int))), (37, (.int .i64 i64)), (88, (.bool (decide (x193 < 0))))]) ⟨rfl, rfl, rfl, rfl, rfl, rfl, trivial⟩ ?_
              refine nx ?_
              refine wpC_cond rfl (fun t199 => ?_) (fun t199 => ?_)
              · rw [if_pos t199] at b73
                refine wpC_seq ?_
                refine wpC_region ?_
                refine st_val (ex_assign rfl) (by decide) trivial ?_
                refine st_val (ex_assign rfl) (by decide) trivial ?_
                refine wpF_end (r := [(4, (.slice none 0 0)), (5, (.bool false))]) ⟨rfl, rfl, trivial⟩ ?_
                refine nx ?_
                refine wpC_ret ?_
                refine nb_ret ?_
                refine nt_ret ?_
                refine nt_ret ?_
                refine nb_ret ?_
                refine np_ret ?_
                have e200 := Option.some.inj b73
                subst e200
                refine fun a ha => ⟨_, n74, ?_⟩
                refine ret_post (P := Try.prog) (vs := [(.slice none 0 0), (.bool false)]) Try.results85 ⟨rfl, rfl, trivial⟩ ?_ a ha
                exact ⟨_, rt oo o104 w.heap.size 9 t, rfl, (Ow.nil _ _ _ _ _), hB.keeps, rt_old _ _ _ _ _⟩
              · rw [if_neg (by rw [t199]; decide)] at b73
                refine wpC_skip ?_
                refine nb_norm ?_
                refine nx ?_
                refine wpC_region ?_
                refine st_val (ex_add rfl rfl (ck_in (by omega) (by omega))) (by decide) trivial ?_
                refine st_val (ex_move rfl) (by decide) trivial ?_
                refine wpF_end (r := [(2, (.pointer (some ⟨b15, 0, none⟩))), (3, (.pointer (some ⟨b20, 0, none⟩))), (6, v28), (36, (.int .i64 (y31.length : Int))), (37, (.int .i64 (i64 + 1)))]) ⟨rfl, rfl, rfl, rfl, rfl, trivial⟩ ?_
                refine nt_norm ?_
                have e201 := Option.some.inj b73
                subst e201
                refine to_k (r := [(2, (.pointer (some ⟨b15, 0, none⟩))), (3, (.pointer (some ⟨b20, 0, none⟩))), (6, v28), (36, (.int .i64 (y31.length : Int))), (37, (.int .i64 (i64 + 1)))]) ⟨rfl, rfl, rfl, rfl, rfl, trivial⟩ ?_
                intro a ha
                exact ⟨_, (by rw [← m70]; omega), i64 + 1, y102, o104, n74, rfl, (by omega), ha, hB, h103, h16, h21⟩
            · exact fun _ _ h => h.elim
        · have r202 := forN_done t75 l68
          refine wp_of ha ?_
          refine wpC_seq ?_
          refine wpC_region ?_
          refine st_val (ex_lss rfl rfl) (by decide) trivial ?_
          refine wpF_end (r := [(2, (.pointer (some ⟨b15, 0, none⟩))), (3, (.pointer (some ⟨b20, 0, none⟩))), (6, v28), (36, (.int .i64 (y31.length : Int))), (37, (.int .i64 i64)), (38, (.bool (decide (i64 < (y31.length : Int)))))]) ⟨rfl, rfl, rfl, rfl, rfl, rfl, trivial⟩ ?_
          refine nx ?_
          refine wpC_seq ?_
          refine wpC_false (congrArg (fun b => some (Value.bool b)) (decide_eq_false t75)) ?_
          refine wpC_exit ?_
          refine nt_exit ?_
          refine nt_exit ?_
          refine nb_hit ?_
          refine np_norm ?_
          refine to_k (r := [(6, v28)]) ⟨rfl, trivial⟩ ?_
          intro a ha
          exact ⟨y60, o62, r202, ha, hB, h61⟩
      · rintro a w63 ⟨y60, o62, rfl, ha, hB, h61⟩
        dsimp only at hF
        refine ap_k ha ?_
        refine nx ?_
        refine wpC_seq ?_
        refine wpC_region ?_
        refine st_val (ex_move rfl) (by decide) trivial ?_
        refine st_val (ex_assign rfl) (by decide) trivial ?_
        refine st_val (ex_assign rfl) (by decide) trivial ?_
        refine wpF_end (r := [(4, v28), (5, (.bool true))]) ⟨rfl, rfl, trivial⟩ ?_
        refine nx ?_
        refine wpC_ret ?_
        have e203 := Option.some.inj hF
        subst e203
        refine ret_post (P := Try.prog) (vs := [v28, (.bool true)]) Try.results85 ⟨rfl, rfl, trivial⟩ ?_
        exact ⟨_, rt oo o62 w.heap.size 13 t, rfl, h61.rt hB (by decide) t, hB.keeps, rt_old _ _ _ _ _⟩
      · rintro a w63 ⟨r', rfl, b204⟩
        dsimp only at hF
        have e205 := Option.some.inj hF
        subst e205
        exact b204
    · exact fun _ _ h => h.elim

def fS_isSame (fuel : Nat) (p0 : T_Network) (p1 : T_Network) : Option Bool :=
  (fS_isFind fuel p0 p1) >>= fun x23 =>
  some x23.2

def pS_isSame (w : World) (r : Bool) : Ending → World → Prop := fun e w' => e = .returned (.bool r) ∧ Keeps w w'
set_option maxRecDepth 100000 in
set_option maxHeartbeats 2000000 in
theorem cS_isSame (fuel : Nat) (w : World) (u0 : List Value) (p0 : T_Network) (g0 : Rp.rd zt w u0 p0) (u1 : List Value) (p1 : T_Network) (g1 : Rp.rd zt w u1 p1) (r : Bool) (hF : fS_isSame fuel p0 p1 = some r) :
    Calls Try.prog 83 #[.agg u0.toArray, .agg u1.toArray] w (pS_isSame w r) := by
  unfold fS_isSame at hF
  obtain ⟨v1, v3, v5, rfl, h2, h4, h6⟩ := g0
  obtain ⟨v7, v9, v11, rfl, h8, h10, h12⟩ := g1
  have hB : Bs (fun _ => 1) (col (fun _ => 1)) w w := Bs.start _ _
  refine calls_start (n := 14) (vs := [(.agg #[v1, v3, v5]), (.agg #[v7, v9, v11])]) Try.func83 rfl rfl ?_
  refine wpC_seq ?_
  refine wpC_region ?_
  refine st_op (by decide) trivial ?_
  refine wf_box (o := (col (fun _ => 1))) w.heap.size 11 hB.keeps.size (cs := [v1, v3, v5]) rfl rfl ?_
  intro o13 w14 b15 h16 s17
  replace hB := hB.stp s17 (by decide)
  refine st_op (by decide) trivial ?_
  refine wf_box (o := o13) w.heap.size 12 hB.keeps.size (cs := [v7, v9, v11]) rfl rfl ?_
  intro o18 w19 b20 h21 s22
  replace h16 := h16.stp s22 (by decide)
  replace hB := hB.stp s22 (by decide)
  refine st_val (ex_assign rfl) (by decide) trivial ?_
  refine wpF_end (r := [(2, (.pointer (some ⟨b15, 0, none⟩))), (3, (.pointer (some ⟨b20, 0, none⟩)))]) ⟨rfl, rfl, trivial⟩ ?_
  refine nx ?_
  refine wpC_seq ?_
  refine wpC_region ?_
  refine st_val (ex_loadA rfl Try.isAgg31 Try.sizeOf31 rfl h16.cells) (by decide) trivial ?_
  refine st_val (ex_loadA rfl Try.isAgg31 Try.sizeOf31 rfl h21.cells) (by decide) trivial ?_
  obtain ⟨x23, hx23, hF⟩ := bind_some hF
  refine st_op (by decide) trivial ?_
  refine wf_call (cS_isFind fuel w19 o18 13 (by decide) _ p0 (⟨_, _, _, rfl, (h2.keep hB.keeps), (h4.keep hB.keeps), (h6.keep hB.keeps)⟩) _ p1 (⟨_, _, _, rfl, (h8.keep hB.keeps), (h10.keep hB.keeps), (h12.keep hB.keeps)⟩) x23 hx23) Try.call85 ⟨rfl, rfl, trivial⟩ ?_
  rintro e30 w24 ⟨v25, o31, rfl, h26, k27, k28⟩
  have s29 := k27.stp' 13 k28
  replace h26 := h26.mono hB.keeps.size
  refine ⟨_, rfl, ?_⟩
  replace h16 := h16.stp s29 (by decide)
  replace h21 := h21.stp s29 (by decide)
  replace hB := hB.stp s29 (by decide)
  refine st_val (ex_move rfl) (by decide) trivial ?_
  refine st_val (ex_extract rfl rfl) (by decide) trivial ?_
  refine st_val (ex_extract rfl rfl) (by decide) trivial ?_
  refine st_val (ex_assign rfl) (by decide) trivial ?_
  refine st_val (ex_assign rfl) (by decide) trivial ?_
  refine wpF_end (r := [(6, (.bool x23.2))]) ⟨rfl, trivial⟩ ?_
  refine nx ?_
  refine wpC_seq ?_
  refine wpC_region ?_
  refine st_val (ex_move rfl) (by decide) trivial ?_
  refine st_val (ex_assign rfl) (by decide) trivial ?_
  refine wpF_end (r := [(4, (.bool x23.2))]) ⟨rfl, trivial⟩ ?_
  refine nx ?_
  refine wpC_ret ?_
  have e32 := Option.some.inj hF
  subst e32
  refine ret_post (P := Try.prog) (vs := [(.bool x23.2)]) Try.results83 ⟨rfl, trivial⟩ ?_
  exact ⟨rfl, hB.keeps⟩

def fS_IsomorphismOf (fuel : Nat) (p0 : T_Network) (p1 : T_Network) : Option ((List Int) × Bool) :=
  (fS_neGood p0) >>= fun x23 =>
  (
    if !x23 then
      some true
    else
      (fS_neGood p1) >>= fun x33 =>
      some (!x33)) >>= fun q29 =>
  if q29 then
    some ([], false)
  else
    (fS_isFind fuel p0 p1) >>= fun x44 =>
    some (x44.1, x44.2)

def pS_IsomorphismOf (oo : Tg) (t : Nat) (w : World) (r : (List Int) × Bool) : Ending → World → Prop := fun e w' => ∃ (v0 : Value) (o' : Tg), e = .returned (.tuple #[v0, .bool r.2]) ∧ Ow w.heap.size 3 t o' w' v0 r.1 ∧ Keeps w w' ∧ ∀ b, b < w.heap.size → o' b = oo b
set_option maxRecDepth 100000 in
set_option maxHeartbeats 2000000 in
theorem cS_IsomorphismOf (fuel : Nat) (w : World) (oo : Tg) (t : Nat) (ht : 2 ≤ t) (u0 : List Value) (p0 : T_Network) (g0 : Rp.rd zt w u0 p0) (u1 : List Value) (p1 : T_Network) (g1 : Rp.rd zt w u1 p1) (r : (List Int) × Bool) (hF : fS_IsomorphismOf fuel p0 p1 = some r) :
    Calls Try.prog 47 #[.agg u0.toArray, .agg u1.toArray] w (pS_IsomorphismOf oo t w r) := by
  unfold fS_IsomorphismOf at hF
  obtain ⟨v1, v3, v5, rfl, h2, h4, h6⟩ := g0
  obtain ⟨v7, v9, v11, rfl, h8, h10, h12⟩ := g1
  have hB : Bs oo (col oo) w w := Bs.start _ _
  refine calls_start (n := 19) (vs := [(.agg #[v1, v3, v5]), (.agg #[v7, v9, v11])]) Try.func47 rfl rfl ?_
  generalize col oo = o at *
  refine wpC_seq ?_
  refine wpC_region ?_
  refine st_op (by decide) trivial ?_
  refine wf_box (o := o) w.heap.size 11 hB.keeps.size (cs := [v1, v3, v5]) rfl rfl ?_
  intro o13 w14 b15 h16 s17
  replace hB := hB.stp s17 (by decide)
  refine st_op (by decide) trivial ?_
  refine wf_box (o := o13) w.heap.size 12 hB.keeps.size (cs := [v7, v9, v11]) rfl rfl ?_
  intro o18 w19 b20 h21 s22
  replace h16 := h16.stp s22 (by decide)
  replace hB := hB.stp s22 (by decide)
  refine st_val (ex_assign rfl) (by decide) trivial ?_
  refine st_val (ex_assign rfl) (by decide) trivial ?_
  refine wpF_end (r := [(2, (.pointer (some ⟨b15, 0, none⟩))), (3, (.pointer (some ⟨b20, 0, none⟩)))]) ⟨rfl, rfl, trivial⟩ ?_
  refine nx ?_
  refine wpC_seq ?_
  refine wpC_seq ?_
  refine wpC_region ?_
  refine st_val (ex_loadA rfl Try.isAgg31 Try.sizeOf31 rfl h16.cells) (by decide) trivial ?_
  obtain ⟨x23, hx23, hF⟩ := bind_some hF
  refine st_op (by decide) trivial ?_
  refine wf_call (cS_neGood w19 _ p0 (⟨_, _, _, rfl, (h2.keep hB.keeps), (h4.keep hB.keeps), (h6.keep hB.keeps)⟩) x23 hx23) Try.call76 ⟨rfl, trivial⟩ ?_
  rintro e28 w24 ⟨rfl, k25⟩
  have s27 := k25.stp 999 o18
  refine ⟨_, rfl, ?_⟩
  replace h16 := h16.stp s27 (by decide)
  replace h21 := h21.stp s27 (by decide)
  replace hB := hB.stp s27 (by decide)
  refine st_val (ex_not rfl) (by decide) trivial ?_
  refine st_val (ex_move rfl) (by decide) trivial ?_
  obtain ⟨q29, hq29, hF⟩ := bind_some hF
  refine wpF_cutAt 4 (fun a31 w30 => Fr a31 19 [(2, (.pointer (some ⟨b15, 0, none⟩))), (3, (.pointer (some ⟨b20, 0, none⟩))), (13, (.bool q29))] ∧ Keeps w24 w30) ?_ ?_
  all_goals simp only [List.take_succ_cons, List.take_zero, List.drop_succ_cons, List.drop_zero]
  · have kp : Keeps w24 w24 := Keeps.refl _
    rcases Bool.eq_false_or_eq_true (!x23) with t32 | t32
    · rw [if_pos t32] at hq29
      refine st_no rfl rfl (by rw [t32]; rfl) (by decide) ?_
      refine st_no rfl rfl (by rw [t32]; rfl) (by decide) ?_
      refine st_no rfl rfl (by rw [t32]; rfl) (by decide) ?_
      refine st_val (ex_pick_t (congrArg (fun b => some (Value.bool b)) t32) rfl) (by decide) trivial ?_
      have hq292 := Option.some.inj hq29
      refine wpF_end (r := [(2, (.pointer (some ⟨b15, 0, none⟩))), (3, (.pointer (some ⟨b20, 0, none⟩))), (13, (.bool true))]) ⟨rfl, rfl, rfl, trivial⟩ ?_
      subst hq292
      refine np_norm (fun a ha => ⟨ha, kp⟩)
    · rw [if_neg (by rw [t32]; decide)] at hq29
      refine st_val (ex_loadA rfl Try.isAgg31 Try.sizeOf31 rfl h21.cells) (by decide) ⟨_, rfl, (congrArg (fun b => some (Value.bool b)) t32)⟩ ?_
      obtain ⟨x33, hx33, hq29⟩ := bind_some hq29
      refine st_op (by decide) ⟨_, rfl, (congrArg (fun b => some (Value.bool b)) t32)⟩ ?_
      refine wf_call (cS_neGood w24 _ p1 (⟨_, _, _, rfl, (h8.keep hB.keeps), (h10.keep hB.keeps), (h12.keep hB.keeps)⟩) x33 hx33) Try.call76 ⟨rfl, trivial⟩ ?_
      rintro e38 w34 ⟨rfl, k35⟩
      have s37 := k35.stp 999 o18
      refine ⟨_, rfl, ?_⟩
      replace h16 := h16.stp s37 (by decide)
      replace h21 := h21.stp s37 (by decide)
      replace hB := hB.stp s37 (by decide)
      replace kp := Keeps.trans kp k35
      refine st_val (ex_not rfl) (by decide) ⟨_, rfl, (congrArg (fun b => some (Value.bool b)) t32)⟩ ?_
      refine st_val (ex_pick_f (congrArg (fun b => some (Value.bool b)) t32) rfl) (by decide) trivial ?_
      have hq292 := Option.some.inj hq29
      refine wpF_end (r := [(2, (.pointer (some ⟨b15, 0, none⟩))), (3, (.pointer (some ⟨b20, 0, none⟩))), (13, (.bool (!x33)))]) ⟨rfl, rfl, rfl, trivial⟩ ?_
      subst hq292
      refine np_norm (fun a ha => ⟨ha, kp⟩)
  rintro a41 w30 ⟨ha, k39⟩
  have s40 := k39.stp 999 o18
  replace h16 := h16.stp s40 (by decide)
  replace h21 := h21.stp s40 (by decide)
  replace hB := hB.stp s40 (by decide)
  refine wl_of ha ?_
  refine wpF_end (r := [(2, (.pointer (some ⟨b15, 0, none⟩))), (3, (.pointer (some ⟨b20, 0, none⟩))), (13, (.bool q29))]) ⟨rfl, rfl, rfl, trivial⟩ ?_
  refine nx ?_
  refine wpC_cond rfl (fun t42 => ?_) (fun t42 => ?_)
  · rw [if_pos t42] at hF
    refine wpC_seq ?_
    refine wpC_region ?_
    refine st_val (ex_assign rfl) (by decide) trivial ?_
    refine st_val (ex_assign rfl) (by decide) trivial ?_
    refine wpF_end (r := [(4, (.slice none 0 0)), (5, (.bool false))]) ⟨rfl, rfl, trivial⟩ ?_
    refine nx ?_
    refine wpC_ret ?_
    refine nt_ret ?_
    have e43 := Option.some.inj hF
    subst e43
    refine ret_post (P := Try.prog) (vs := [(.slice none 0 0), (.bool false)]) Try.results47 ⟨rfl, rfl, trivial⟩ ?_
    exact ⟨_, rt oo o18 w.heap.size 9 t, rfl, (Ow.nil _ _ _ _ _), hB.keeps, rt_old _ _ _ _ _⟩
  · rw [if_neg (by rw [t42]; decide)] at hF
    refine wpC_skip ?_
    refine nx ?_
    refine wpC_seq ?_
    refine wpC_region ?_
    refine st_val (ex_loadA rfl Try.isAgg31 Try.sizeOf31 rfl h16.cells) (by decide) trivial ?_
    refine st_val (ex_loadA rfl Try.isAgg31 Try.sizeOf31 rfl h21.cells) (by decide) trivial ?_
    obtain ⟨x44, hx44, hF⟩ := bind_some hF
    refine st_op (by decide) trivial ?_
    refine wf_call (cS_isFind fuel w30 o18 15 (by decide) _ p0 (⟨_, _, _, rfl, (h2.keep hB.keeps), (h4.keep hB.keeps), (h6.keep hB.keeps)⟩) _ p1 (⟨_, _, _, rfl, (h8.keep hB.keeps), (h10.keep hB.keeps), (h12.keep hB.keeps)⟩) x44 hx44) Try.call85 ⟨rfl, rfl, trivial⟩ ?_
    rintro e51 w45 ⟨v46, o52, rfl, h47, k48, k49⟩
    have s50 := k48.stp' 15 k49
    replace h47 := h47.mono hB.keeps.size
    refine ⟨_, rfl, ?_⟩
    replace h16 := h16.stp s50 (by decide)
    replace h21 := h21.stp s50 (by decide)
    replace hB := hB.stp s50 (by decide)
    refine st_val (ex_extract rfl rfl) (by decide) trivial ?_
    refine st_val (ex_extract rfl rfl) (by decide) trivial ?_
    refine st_val (ex_assign rfl) (by decide) trivial ?_
    refine st_val (ex_assign rfl) (by decide) trivial ?_
    refine wpF_end (r := [(4, v46), (5, (.bool x44.2))]) ⟨rfl, rfl, trivial⟩ ?_
    refine nx ?_
    refine wpC_ret ?_
    have e53 := Option.some.inj hF
    subst e53
    refine ret_post (P := Try.prog) (vs := [v46, (.bool x44.2)]) Try.results47 ⟨rfl, rfl, trivial⟩ ?_
    exact ⟨_, rt oo o52 w.heap.size 15 t, rfl, h47.rt hB (by decide) t, hB.keeps, rt_old _ _ _ _ _⟩

def fS_SameNetworks (fuel : Nat) (p0 : T_Network) (p1 : T_Network) : Option (Bool × Bool) :=
  (fS_neGood p0) >>= fun x23 =>
  (
    if !x23 then
      some true
    else
      (fS_neGood p1) >>= fun x33 =>
      some (!x33)) >>= fun q29 =>
  if q29 then
    some (false, false)
  else
    (fS_isSame fuel p0 p1) >>= fun x44 =>
    some (x44, true)

def fS_ImagesOf_s1 (fuel : Nat) (p2 : T_Network) (x52 : List Int) : Int → (List Int) → Option (Lp (List Int) (List Int) ((List Int) × Bool)) := fun (i67 : Int) (s : List Int) =>
  (fS_isFrom fuel p2 i67) >>= fun x79 =>
  (fS_l1Same x52 x79) >>= fun x88 =>
  if x88 then
    (push s i67) >>= fun x101 =>
    some (.go x101)
  else
    some (.go s)
def fS_ImagesOf (fuel : Nat) (p0 : T_Network) (p1 : Int) (p2 : T_Network) : Option ((List Int) × Bool) :=
  (fS_neNode p0 p1) >>= fun x23 =>
  (
    if !x23 then
      some true
    else
      (fS_neGood p2) >>= fun x33 =>
      some (!x33)) >>= fun q29 =>
  if q29 then
    some ([], false)
  else
    (fS_isSame fuel p0 p2) >>= fun x44 =>
    if !x44 then
      some ([], true)
    else
      (fS_isFrom fuel p0 p1) >>= fun x52 =>
      ck (p2.Ends.length : Int) >>= fun _ =>
      (forN (fS_ImagesOf_s1 fuel p2 x52) ((p2.Ends.length : Int)).toNat 0 []) >>= fun q68 =>
      match q68 with
      | .inl y62 =>
        some (y62, true)
      | .inr _ => none

def pS_ImagesOf (oo : Tg) (t : Nat) (w : World) (r : (List Int) × Bool) : Ending → World → Prop := fun e w' => ∃ (v0 : Value) (o' : Tg), e = .returned (.tuple #[v0, .bool r.2]) ∧ Ow w.heap.size 3 t o' w' v0 r.1 ∧ Keeps w w' ∧ ∀ b, b < w.heap.size → o' b = oo b
set_option maxRecDepth 100000 in
set_option maxHeartbeats 2000000 in
theorem cS_ImagesOf (fuel : Nat) (w : World) (oo : Tg) (t : Nat) (ht : 2 ≤ t) (u0 : List Value) (p0 : T_Network) (g0 : Rp.rd zt w u0 p0) (p1 : Int) (u2 : List Value) (p2 : T_Network) (g2 : Rp.rd zt w u2 p2) (r : (List Int) × Bool) (hF : fS_ImagesOf fuel p0 p1 p2 = some r) :
    Calls Try.prog 49 #[.agg u0.toArray, .int .i64 p1, .agg u2.toArray] w (pS_ImagesOf oo t w r) := by
  unfold fS_ImagesOf at hF
  obtain ⟨v1, v3, v5, rfl, h2, h4, h6⟩ := g0
  obtain ⟨v7, v9, v11, rfl, h8, h10, h12⟩ := g2
  have hB : Bs oo (col oo) w w := Bs.start _ _
  refine calls_start (n := 44) (vs := [(.agg #[v1, v3, v5]), (.int .i64 p1), (.agg #[v7, v9, v11])]) Try.func49 rfl rfl ?_
  generalize col oo = o at *
  refine wpC_seq ?_
  refine wpC_region ?_
  refine st_op (by decide) trivial ?_
  refine wf_box (o := o) w.heap.size 11 hB.keeps.size (cs := [v1, v3, v5]) rfl rfl ?_
  intro o13 w14 b15 h16 s17
  replace hB := hB.stp s17 (by decide)
  refine st_op (by decide) trivial ?_
  refine wf_box (o := o13) w.heap.size 12 hB.keeps.size (cs := [v7, v9, v11]) rfl rfl ?_
  intro o18 w19 b20 h21 s22
  replace h16 := h16.stp s22 (by decide)
  replace hB := hB.stp s22 (by decide)
  refine st_val (ex_assign rfl) (by decide) trivial ?_
  refine st_val (ex_assign rfl) (by decide) trivial ?_
  refine wpF_end (r := [(1, (.int .i64 p1)), (3, (.pointer (some ⟨b15, 0, none⟩))), (5, (.pointer (some ⟨b20, 0, none⟩)))]) ⟨rfl, rfl, rfl, trivial⟩ ?_
  refine nx ?_
  refine wpC_seq ?_
  refine wpC_seq ?_
  refine wpC_region ?_
  refine st_val (ex_loadA rfl Try.isAgg31 Try.sizeOf31 rfl h16.cells) (by decide) trivial ?_
  refine st_val (ex_move rfl) (by decide) trivial ?_
  obtain ⟨x23, hx23, hF⟩ := bind_some hF
  refine st_op (by decide) trivial ?_
  refine wf_call (cS_neNode w19 _ p0 (⟨_, _, _, rfl, (h2.keep hB.keeps), (h4.keep hB.keeps), (h6.keep hB.keeps)⟩) p1 x23 hx23) Try.call55 ⟨rfl, rfl, trivial⟩ ?_
  rintro e28 w24 ⟨rfl, k25⟩
  have s27 := k25.stp 999 o18
  refine ⟨_, rfl, ?_⟩
  replace h16 := h16.stp s27 (by decide)
  replace h21 := h21.stp s27 (by decide)
  replace hB := hB.stp s27 (by decide)
  refine st_val (ex_not rfl) (by decide) trivial ?_
  refine st_val (ex_move rfl) (by decide) trivial ?_
  obtain ⟨q29, hq29, hF⟩ := bind_some hF
  refine wpF_cutAt 4 (fun a31 w30 => Fr a31 44 [(1, (.int .i64 p1)), (3, (.pointer (some ⟨b15, 0, none⟩))), (5, (.pointer (some ⟨b20, 0, none⟩))), (19, (.bool q29))] ∧ Keeps w24 w30) ?_ ?_
  all_goals simp only [List.take_succ_cons, List.take_zero, List.drop_succ_cons, List.drop_zero]
  · have kp : Keeps w24 w24 := Keeps.refl _
    rcases Bool.eq_false_or_eq_true (!x23) with t32 | t32
    · rw [if_pos t32] at hq29
      refine st_no rfl rfl (by rw [t32]; rfl) (by decide) ?_
      refine st_no rfl rfl (by rw [t32]; rfl) (by decide) ?_
      refine st_no rfl rfl (by rw [t32]; rfl) (by decide) ?_
      refine st_val (ex_pick_t (congrArg (fun b => some (Value.bool b)) t32) rfl) (by decide) trivial ?_
      have hq292 := Option.some.inj hq29
      refine wpF_end (r := [(1, (.int .i64 p1)), (3, (.pointer (some ⟨b15, 0, none⟩))), (5, (.pointer (some ⟨b20, 0, none⟩))), (19, (.bool true))]) ⟨rfl, rfl, rfl, rfl, trivial⟩ ?_
      subst hq292
      refine np_norm (fun a ha => ⟨ha, kp⟩)
    · rw [if_neg (by rw [t32]; decide)] at hq29
      refine st_val (ex_loadA rfl Try.isAgg31 Try.sizeOf31 rfl h21.cells) (by decide) ⟨_, rfl, (congrArg (fun b => some (Value.bool b)) t32)⟩ ?_
      obtain ⟨x33, hx33, hq29⟩ := bind_some hq29
      refine st_op (by decide) ⟨_, rfl, (congrArg (fun b => some (Value.bool b)) t32)⟩ ?_
      refine wf_call (cS_neGood w24 _ p2 (⟨_, _, _, rfl, (h8.keep hB.keeps), (h10.keep hB.keeps), (h12.keep hB.keeps)⟩) x33 hx33) Try.call76 ⟨rfl, trivial⟩ ?_
      rintro e38 w34 ⟨rfl, k35⟩
      have s37 := k35.stp 999 o18
      refine ⟨_, rfl, ?_⟩
      replace h16 := h16.stp s37 (by decide)
      replace h21 := h21.stp s37 (by decide)
      replace hB := hB.stp s37 (by decide)
      replace kp := Keeps.trans kp k35
      refine st_val (ex_not rfl) (by decide) ⟨_, rfl, (congrArg (fun b => some (Value.bool b)) t32)⟩ ?_
      refine st_val (ex_pick_f (congrArg (fun b => some (Value.bool b)) t32) rfl) (by decide) trivial ?_
      have hq292 := Option.some.inj hq29
      refine wpF_end (r := [(1, (.int .i64 p1)), (3, (.pointer (some ⟨b15, 0, none⟩))), (5, (.pointer (some ⟨b20, 0, none⟩))), (19, (.bool (!x33)))]) ⟨rfl, rfl, rfl, rfl, trivial⟩ ?_
      subst hq292
      refine np_norm (fun a ha => ⟨ha, kp⟩)
  rintro a41 w30 ⟨ha, k39⟩
  have s40 := k39.stp 999 o18
  replace h16 := h16.stp s40 (by decide)
  replace h21 := h21.stp s40 (by decide)
  replace hB := hB.stp s40 (by decide)
  refine wl_of ha ?_
  refine wpF_end (r := [(1, (.int .i64 p1)), (3, (.pointer (some ⟨b15, 0, none⟩))), (5, (.pointer (some ⟨b20, 0, none⟩))), (19, (.bool q29))]) ⟨rfl, rfl, rfl, rfl, trivial⟩ ?_
  refine nx ?_
  refine wpC_cond rfl (fun t42 => ?_) (fun t42 => ?_)
  · rw [if_pos t42] at hF
    refine wpC_seq ?_
    refine wpC_region ?_
    refine st_val (ex_assign rfl) (by decide) trivial ?_
    refine st_val (ex_assign rfl) (by decide) trivial ?_
    refine wpF_end (r := [(6, (.slice none 0 0)), (7, (.bool false))]) ⟨rfl, rfl, trivial⟩ ?_
    refine nx ?_
    refine wpC_ret ?_
    refine nt_ret ?_
    have e43 := Option.some.inj hF
    subst e43
    refine ret_post (P := Try.prog) (vs := [(.slice none 0 0), (.bool false)]) Try.results49 ⟨rfl, rfl, trivial⟩ ?_
    exact ⟨_, rt oo o18 w.heap.size 9 t, rfl, (Ow.nil _ _ _ _ _), hB.keeps, rt_old _ _ _ _ _⟩
  · rw [if_neg (by rw [t42]; decide)] at hF
    refine wpC_skip ?_
    refine nx ?_
    refine wpC_seq ?_
    refine wpC_seq ?_
    refine wpC_region ?_
    refine st_val (ex_loadA rfl Try.isAgg31 Try.sizeOf31 rfl h16.cells) (by decide) trivial ?_
    refine st_val (ex_loadA rfl Try.isAgg31 Try.sizeOf31 rfl h21.cells) (by decide) trivial ?_
    obtain ⟨x44, hx44, hF⟩ := bind_some hF
    refine st_op (by decide) trivial ?_
    refine wf_call (cS_isSame fuel w30 _ p0 (⟨_, _, _, rfl, (h2.keep hB.keeps), (h4.keep hB.keeps), (h6.keep hB.keeps)⟩) _ p2 (⟨_, _, _, rfl, (h8.keep hB.keeps), (h10.keep hB.keeps), (h12.keep hB.keeps)⟩) x44 hx44) Try.call83 ⟨rfl, rfl, trivial⟩ ?_
    rintro e49 w45 ⟨rfl, k46⟩
    have s48 := k46.stp 999 o18
    refine ⟨_, rfl, ?_⟩
    replace h16 := h16.stp s48 (by decide)
    replace h21 := h21.stp s48 (by decide)
    replace hB := hB.stp s48 (by decide)
    refine st_val (ex_not rfl) (by decide) trivial ?_
    refine wpF_end (r := [(1, (.int .i64 p1)), (3, (.pointer (some ⟨b15, 0, none⟩))), (5, (.pointer (some ⟨b20, 0, none⟩))), (23, (.bool (!x44)))]) ⟨rfl, rfl, rfl, rfl, trivial⟩ ?_
    refine nx ?_
    refine wpC_cond rfl (fun t50 => ?_) (fun t50 => ?_)
    · rw [if_pos t50] at hF
      refine wpC_seq ?_
      refine wpC_region ?_
      refine st_val (ex_assign rfl) (by decide) trivial ?_
      refine st_val (ex_assign rfl) (by decide) trivial ?_
      refine wpF_end (r := [(6, (.slice none 0 0)), (7, (.bool true))]) ⟨rfl, rfl, trivial⟩ ?_
      refine nx ?_
      refine wpC_ret ?_
      refine nt_ret ?_
      have e51 := Option.some.inj hF
      subst e51
      refine ret_post (P := Try.prog) (vs := [(.slice none 0 0), (.bool true)]) Try.results49 ⟨rfl, rfl, trivial⟩ ?_
      exact ⟨_, rt oo o18 w.heap.size 9 t, rfl, (Ow.nil _ _ _ _ _), hB.keeps, rt_old _ _ _ _ _⟩
    · rw [if_neg (by rw [t50]; decide)] at hF
      refine wpC_skip ?_
      refine nx ?_
      refine wpC_seq ?_
      refine wpC_region ?_
      refine st_val (ex_assign rfl) (by decide) trivial ?_
      refine wpF_end (r := [(1, (.int .i64 p1)), (3, (.pointer (some ⟨b15, 0, none⟩))), (5, (.pointer (some ⟨b20, 0, none⟩))), (8, (.slice none 0 0))]) ⟨rfl, rfl, rfl, rfl, trivial⟩ ?_
      refine nx ?_
      refine wpC_seq ?_
      refine wpC_region ?_
      refine st_val (ex_loadA rfl Try.isAgg31 Try.sizeOf31 rfl h16.cells) (by decide) trivial ?_
      refine st_val (ex_move rfl) (by decide) trivial ?_
      obtain ⟨x52, hx52, hF⟩ := bind_some hF
      refine st_op (by decide) trivial ?_
      refine wf_call (cS_isFrom fuel w45 o18 16 (by decide) _ p0 (⟨_, _, _, rfl, (h2.keep hB.keeps), (h4.keep hB.keeps), (h6.keep hB.keeps)⟩) p1 x52 hx52) Try.call57 ⟨rfl, rfl, trivial⟩ ?_
      rintro e59 w53 ⟨v54, o60, rfl, h55, k56, k57⟩
      have s58 := k56.stp' 16 k57
      replace h55 := h55.mono hB.keeps.size
      refine ⟨_, rfl, ?_⟩
      replace h16 := h16.stp s58 (by decide)
      replace h21 := h21.stp s58 (by decide)
      replace hB := hB.stp s58 (by decide)
      refine st_val (ex_assign rfl) (by decide) trivial ?_
      refine wpF_end (r := [(5, (.pointer (some ⟨b20, 0, none⟩))), (8, (.slice none 0 0)), (9, v54)]) ⟨rfl, rfl, rfl, trivial⟩ ?_
      refine nx ?_
      refine wpC_seq ?_
      refine wpC_seq ?_
      refine wpC_region ?_
      refine st_val (ex_field rfl Try.underlying31 rfl Try.sizeOf29) (by decide) trivial ?_
      refine st_val (ex_load1 rfl Try.isAgg29 (h21.cell rfl)) (by decide) trivial ?_
      refine st_val (ex_lenR rfl h8 Try.underlying29) (by decide) trivial ?_
      refine st_val (ex_move rfl) (by decide) trivial ?_
      refine wpF_end (r := [(5, (.pointer (some ⟨b20, 0, none⟩))), (8, (.slice none 0 0)), (9, v54), (29, (.int .i64 (p2.Ends.length : Int))), (30, (.int .i64 0))]) ⟨rfl, rfl, rfl, rfl, rfl, trivial⟩ ?_
      refine nx ?_
      have h61 : Ow w.heap.size 3 17 o60 w53 (.slice none 0 0) ([] : List Int) := Ow.nil _ _ _ _ _
      obtain ⟨u70, h69, hF⟩ := bind_some hF
      obtain ⟨-, h69a, h69b⟩ := ck_some h69
      obtain ⟨q68, hq68, hF⟩ := bind_some hF
      refine wpC_cutN (fun a w66 => ∃ (y62 : List Int) (v63 : Value) (o65 : Tg), q68 = .inl y62 ∧ Fr a 44 [(8, v63)] ∧ Bs oo o65 w w66 ∧ Ow w.heap.size 3 17 o65 w66 v63 y62) (fun _ _ => False) ?_ ?_ ?_
      · refine wpC_block ?_
        refine wpC_loop (fun (K : Nat) a w66 => ∃ (i67 : Int) (y62 : List Int) (v63 : Value) (o65 : Tg), forN (fS_ImagesOf_s1 fuel p2 x52) ((p2.Ends.length : Int) - i67).toNat i67 y62 = some q68 ∧ ((p2.Ends.length : Int) - i67).toNat = K ∧ 0 ≤ i67 ∧ Fr a 44 [(5, (.pointer (some ⟨b20, 0, none⟩))), (8, v63), (9, v54), (29, (.int .i64 (p2.Ends.length : Int))), (30, (.int .i64 i67))] ∧ Bs oo o65 w w66 ∧ Ow w.heap.size 3 17 o65 w66 v63 y62 ∧ Ow w.heap.size 3 16 o65 w66 v54 x52 ∧ Bx w.heap.size 12 o65 w66 b20 31 [v7, v9, v11]) _ (fun a ha => ⟨0, [], (.slice none 0 0), o60, (by rw [Int.sub_zero]; exact hq68), rfl, Int.le_refl 0, ha.sub (r := [(5, (.pointer (some ⟨b20, 0, none⟩))), (8, (.slice none 0 0)), (9, v54), (29, (.int .i64 (p2.Ends.length : Int))), (30, (.int .i64 0))]) ⟨rfl, rfl, rfl, rfl, rfl, trivial⟩, hB, h61, h55, h21⟩) ?_
        rintro K74 a w66 ⟨i67, y62, v63, o65, l71, m73, z72, ha, hB, h64, h55, h21⟩
        by_cases t78 : i67 < (p2.Ends.length : Int)
        · obtain ⟨q75, b76, n77⟩ := forN_cons t78 l71
          dsimp only [fS_ImagesOf_s1] at b76
          refine wp_of ha ?_
          refine wpC_seq ?_
          refine wpC_region ?_
          refine st_val (ex_lss rfl rfl) (by decide) trivial ?_
          refine wpF_end (r := [(5, (.pointer (some ⟨b20, 0, none⟩))), (8, v63), (9, v54), (29, (.int .i64 (p2.Ends.length : Int))), (30, (.int .i64 i67)), (31, (.bool (decide (i67 < (p2.Ends.length : Int)))))]) ⟨rfl, rfl, rfl, rfl, rfl, rfl, trivial⟩ ?_
          refine nx ?_
          refine wpC_seq ?_
          refine wpC_true (congrArg (fun b => some (Value.bool b)) (decide_eq_true t78)) ?_
          refine wpC_skip ?_
          refine nx ?_
          refine wpC_seq ?_
          refine wpC_block ?_
          refine wpC_seq ?_
          refine wpC_region ?_
          refine st_val (ex_move rfl) (by decide) trivial ?_
          refine st_val (ex_assign rfl) (by decide) trivial ?_
          refine wpF_end (r := [(5, (.pointer (some ⟨b20, 0, none⟩))), (8, v63), (9, v54), (10, (.int .i64 i67)), (29, (.int .i64 (p2.Ends.length : Int))), (30, (.int .i64 i67))]) ⟨rfl, rfl, rfl, rfl, rfl, rfl, trivial⟩ ?_
          refine nx ?_
          refine wpC_seq ?_
          refine wpC_region ?_
          refine st_val (ex_move rfl) (by decide) trivial ?_
          refine st_val (ex_loadA rfl Try.isAgg31 Try.sizeOf31 rfl h21.cells) (by decide) trivial ?_
          refine st_val (ex_move rfl) (by decide) trivial ?_
          obtain ⟨x79, hx79, b76⟩ := bind_some b76
          refine st_op (by decide) trivial ?_
          refine wf_call (cS_isFrom fuel w66 o65 18 (by decide) _ p2 (⟨_, _, _, rfl, (h8.keep hB.keeps), (h10.keep hB.keeps), (h12.keep hB.keeps)⟩) i67 x79 hx79) Try.call57 ⟨rfl, rfl, trivial⟩ ?_
          rintro e86 w80 ⟨v81, o87, rfl, h82, k83, k84⟩
          have s85 := k83.stp' 18 k84
          replace h82 := h82.mono hB.keeps.size
          refine ⟨_, rfl, ?_⟩
          replace h64 := h64.stp s85 (by decide) (by decide)
          replace h55 := h55.stp s85 (by decide) (by decide)
          replace h21 := h21.stp s85 (by decide)
          replace hB := hB.stp s85 (by decide)
          obtain ⟨x88, hx88, b76⟩ := bind_some b76
          refine st_op (by decide) trivial ?_
          refine wf_call (cS_l1Same w80 _ x52 h55.z _ x79 h82.z x88 hx88) Try.call56 ⟨rfl, rfl, trivial⟩ ?_
          rintro e93 w89 ⟨rfl, k90⟩
          have s92 := k90.stp 999 o87
          refine ⟨_, rfl, ?_⟩
          replace h64 := h64.stp s92 (by decide) (by decide)
          replace h55 := h55.stp s92 (by decide) (by decide)
          replace h82 := h82.stp s92 (by decide) (by decide)
          replace h21 := h21.stp s92 (by decide)
          replace hB := hB.stp s92 (by decide)
          refine wpF_end (r := [(5, (.pointer (some ⟨b20, 0, none⟩))), (8, v63), (9, v54), (10, (.int .i64 i67)), (29, (.int .i64 (p2.Ends.length : Int))), (30, (.int .i64 i67)), (37, (.bool x88))]) ⟨rfl, rfl, rfl, rfl, rfl, rfl, rfl, trivial⟩ ?_
          refine nx ?_
          refine wpC_cond rfl (fun t94 => ?_) (fun t94 => ?_)
          · rw [if_pos t94] at b76
            refine wpC_region ?_
            refine st_val (ex_move rfl) (by decide) trivial ?_
            refine st_val (ex_move rfl) (by decide) trivial ?_
            refine st_op (by decide) trivial ?_
            refine wf_litR (o := o87) (cs := [(.int .i64 i67)]) (xs := ([i67] : List Int)) (vs := [(0, (.int .i64 i67))]) ⟨_, _, rfl, rfl, rfl⟩ rfl ⟨rfl, rfl, trivial⟩ Try.underlying23 Try.sizeOf3 Try.zeroValue3 (by decide) (fill1 rfl) (by simp) ?_
            intro o95 w96 v97 h98 s99 k100
            replace h64 := h64.stp s99 (by decide) (by decide)
            replace h55 := h55.stp s99 (by decide) (by decide)
            replace h21 := h21.stp s99 (by decide)
            replace hB := hB.stp s99 (by decide)
            obtain ⟨x101, hx101, b76⟩ := bind_some b76
            refine st_op (by decide) trivial ?_
            refine wf_cat h64 h98 (push_cat hx101) (by decide) hB.keeps.size rfl rfl Try.underlying23 info2_t_int_Ni rfl (by decide) ?_
            intro o102 w103 v104 h105 s106
            replace h55 := h55.stp s106 (by decide) (by decide)
            replace h98 := h98.stp s106 (by decide)
            replace h21 := h21.stp s106 (by decide)
            replace hB := hB.stp s106 (by decide)
            refine st_val (ex_assign rfl) (by decide) trivial ?_
            refine wpF_end (r := [(5, (.pointer (some ⟨b20, 0, none⟩))), (8, v104), (9, v54), (29, (.int .i64 (p2.Ends.length : Int))), (30, (.int .i64 i67))]) ⟨rfl, rfl, rfl, rfl, rfl, trivial⟩ ?_
            refine nb_norm ?_
            refine nx ?_
            refine wpC_region ?_
            refine st_val (ex_add rfl rfl (ck_in (by omega) (by omega))) (by decide) trivial ?_
            refine st_val (ex_move rfl) (by decide) trivial ?_
            refine wpF_end (r := [(5, (.pointer (some ⟨b20, 0, none⟩))), (8, v104), (9, v54), (29, (.int .i64 (p2.Ends.length : Int))), (30, (.int .i64 (i67 + 1)))]) ⟨rfl, rfl, rfl, rfl, rfl, trivial⟩ ?_
            refine nt_norm ?_
            have e107 := Option.some.inj b76
            subst e107
            refine to_k (r := [(5, (.pointer (some ⟨b20, 0, none⟩))), (8, v104), (9, v54), (29, (.int .i64 (p2.Ends.length : Int))), (30, (.int .i64 (i67 + 1)))]) ⟨rfl, rfl, rfl, rfl, rfl, trivial⟩ ?_
            intro a ha
            exact ⟨_, (by rw [← m73]; omega), i67 + 1, x101, v104, o102, n77, rfl, (by omega), ha, hB, h105, h55, h21⟩
          · rw [if_neg (by rw [t94]; decide)] at b76
            refine wpC_skip ?_
            refine nb_norm ?_
            refine nx ?_
            refine wpC_region ?_
            refine st_val (ex_add rfl rfl (ck_in (by omega) (by omega))) (by decide) trivial ?_
            refine st_val (ex_move rfl) (by decide) trivial ?_
            refine wpF_end (r := [(5, (.pointer (some ⟨b20, 0, none⟩))), (8, v63), (9, v54), (29, (.int .i64 (p2.Ends.length : Int))), (30, (.int .i64 (i67 + 1)))]) ⟨rfl, rfl, rfl, rfl, rfl, trivial⟩ ?_
            refine nt_norm ?_
            have e108 := Option.some.inj b76
            subst e108
            refine to_k (r := [(5, (.pointer (some ⟨b20, 0, none⟩))), (8, v63), (9, v54), (29, (.int .i64 (p2.Ends.length : Int))), (30, (.int .i64 (i67 + 1)))]) ⟨rfl, rfl, rfl, rfl, rfl, trivial⟩ ?_
            intro a ha
            exact ⟨_, (by rw [← m73]; omega), i67 + 1, y62, v63, o87, n77, rfl, (by omega), ha, hB, h64, h55, h21⟩
        · have r109 := forN_done t78 l71
          refine wp_of ha ?_
          refine wpC_seq ?_
          refine wpC_region ?_
          refine st_val (ex_lss rfl rfl) (by decide) trivial ?_
          refine wpF_end (r := [(5, (.pointer (some ⟨b20, 0, none⟩))), (8, v63), (9, v54), (29, (.int .i64 (p2.Ends.length : Int))), (30, (.int .i64 i67)), (31, (.bool (decide (i67 < (p2.Ends.length : Int)))))]) ⟨rfl, rfl, rfl, rfl, rfl, rfl, trivial⟩ ?_
          refine nx ?_
          refine wpC_seq ?_
          refine wpC_false (congrArg (fun b => some (Value.bool b)) (decide_eq_false t78)) ?_
          refine wpC_exit ?_
          refine nt_exit ?_
          refine nt_exit ?_
          refine nb_hit ?_
          refine np_norm ?_
          refine to_k (r := [(8, v63)]) ⟨rfl, trivial⟩ ?_
          intro a ha
          exact ⟨y62, v63, o65, r109, ha, hB, h64⟩
      · rintro a w66 ⟨y62, v63, o65, rfl, ha, hB, h64⟩
        dsimp only at hF
        refine ap_k ha ?_
        refine nx ?_
        refine wpC_seq ?_
        refine wpC_region ?_
        refine st_val (ex_move rfl) (by decide) trivial ?_
        refine st_val (ex_assign rfl) (by decide) trivial ?_
        refine st_val (ex_assign rfl) (by decide) trivial ?_
        refine wpF_end (r := [(6, v63), (7, (.bool true))]) ⟨rfl, rfl, trivial⟩ ?_
        refine nx ?_
        refine wpC_ret ?_
        have e110 := Option.some.inj hF
        subst e110
        refine ret_post (P := Try.prog) (vs := [v63, (.bool true)]) Try.results49 ⟨rfl, rfl, trivial⟩ ?_
        exact ⟨_, rt oo o65 w.heap.size 17 t, rfl, h64.rt hB (by decide) t, hB.keeps, rt_old _ _ _ _ _⟩
      · exact fun _ _ h => h.elim

def fI_isomorphism_s3 (x110 : (List Int) × (List Int)) : Int → Int → ((List Int) × (List Bool)) → Option (Lp ((List Int) × (List Bool)) ((List Int) × (List Bool)) (List Int)) := fun (i136 : Int) (x146 : Int) (s : (List Int) × (List Bool)) =>
  (ix x110.2 i136) >>= fun x152 =>
  (ix x110.2 i136) >>= fun x155 =>
  (ix s.1 x146) >>= fun x158 =>
  (st s.1 x146 x155) >>= fun x166 =>
  (ix s.2 x152) >>= fun x168 =>
  (st s.2 x152 true) >>= fun x176 =>
  some (.go (x166, x176))
def fI_isomorphism_s2 (fuel : Nat) (p1 : T_Network) (x72 : (List Int) × (List Int)) : Int → ((List Int) × (List Bool)) → Option (Lp ((List Int) × (List Bool)) ((List Int) × (List Bool)) (List Int)) := fun (i90 : Int) (s : (List Int) × (List Bool)) =>
  (ix s.2 i90) >>= fun x102 =>
  if x102 then
    some (.go (s.1, s.2))
  else
    (fI_codeFrom fuel p1 i90) >>= fun x110 =>
    (fX_slices_Equal_int_int x72.1 x110.1) >>= fun x122 =>
    if !x122 then
      some (.go (s.1, s.2))
    else
      (forI (fI_isomorphism_s3 x110) x72.2 0 (s.1, s.2)) >>= fun q137 =>
      match q137 with
      | .inl (y130, y132) =>
        some (.out (y130, y132))
      | .inr _ => none
def fI_isomorphism_s1 (fuel : Nat) (p0 : T_Network) (p1 : T_Network) : Int → ((List Int) × (List Bool)) → Option (Lp ((List Int) × (List Bool)) ((List Int) × (List Bool)) (List Int)) := fun (i52 : Int) (s : (List Int) × (List Bool)) =>
  (ix s.1 i52) >>= fun x64 =>
  if decide (x64 ≥ 0) then
    some (.go (s.1, s.2))
  else
    (fI_codeFrom fuel p0 i52) >>= fun x72 =>
    ck (p1.Ends.length : Int) >>= fun _ =>
    (forN (fI_isomorphism_s2 fuel p1 x72) ((p1.Ends.length : Int)).toNat 0 (s.1, s.2)) >>= fun q91 =>
    match q91 with
    | .inl (y84, y86) =>
      (ix y84 i52) >>= fun x277 =>
      if decide (x277 < 0) then
        some (.ret [])
      else
        some (.go (y84, y86))
    | .inr _ => none
def fI_isomorphism (fuel : Nat) (p0 : T_Network) (p1 : T_Network) : Option (List Int) :=
  if (p0.Ends.length : Int) != (p1.Ends.length : Int) then
    some []
  else
    (repO ([(-1)] : List Int) (p0.Ends.length : Int)) >>= fun x37 =>
    (mk (Rz.z : Bool) (p1.Ends.length : Int)) >>= fun x40 =>
    ck (p0.Ends.length : Int) >>= fun _ =>
    (forN (fI_isomorphism_s1 fuel p0 p1) ((p0.Ends.length : Int)).toNat 0 (x37, x40)) >>= fun q53 =>
    match q53 with
    | .inl (y46, y48) =>
      (nem y46) >>= fun x287 =>
      some y46
    | .inr r' => some r'

def pI_isomorphism (oo : Tg) (t : Nat) (w : World) (r : List Int) : Ending → World → Prop := fun e w' => ∃ (v0 : Value) (o' : Tg), e = .returned (v0) ∧ Ow w.heap.size 3 t o' w' v0 r ∧ isnil v0 = r.isEmpty ∧ Keeps w w' ∧ ∀ b, b < w.heap.size → o' b = oo b
set_option maxRecDepth 100000 in
set_option maxHeartbeats 2000000 in
theorem cI_isomorphism (fuel : Nat) (w : World) (oo : Tg) (t : Nat) (ht : 2 ≤ t) (u0 : List Value) (p0 : T_Network) (g0 : Rp.rd zt w u0 p0) (u1 : List Value) (p1 : T_Network) (g1 : Rp.rd zt w u1 p1) (r : List Int) (hF : fI_isomorphism fuel p0 p1 = some r) :
    Calls Try.prog 84 #[.agg u0.toArray, .agg u1.toArray] w (pI_isomorphism oo t w r) := by
  unfold fI_isomorphism at hF
  obtain ⟨v1, v3, v5, rfl, h2, h4, h6⟩ := g0
  obtain ⟨v7, v9, v11, rfl, h8, h10, h12⟩ := g1
  have hB : Bs oo (col oo) w w := Bs.start _ _
  refine calls_start (n := 97) (vs := [(.agg #[v1, v3, v5]), (.agg #[v7, v9, v11])]) Try.func84 rfl rfl ?_
  generalize col oo = o at *
  refine wpC_seq ?_
  refine wpC_region ?_
  refine st_op (by decide) trivial ?_
  refine wf_box (o := o) w.heap.size 11 hB.keeps.size (cs := [v1, v3, v5]) rfl rfl ?_
  intro o13 w14 b15 h16 s17
  replace hB := hB.stp s17 (by decide)
  refine st_op (by decide) trivial ?_
  refine wf_box (o := o13) w.heap.size 12 hB.keeps.size (cs := [v7, v9, v11]) rfl rfl ?_
  intro o18 w19 b20 h21 s22
  replace h16 := h16.stp s22 (by decide)
  replace hB := hB.stp s22 (by decide)
  refine st_val (ex_assign rfl) (by decide) trivial ?_
  refine wpF_end (r := [(2, (.pointer (some ⟨b15, 0, none⟩))), (3, (.pointer (some ⟨b20, 0, none⟩)))]) ⟨rfl, rfl, trivial⟩ ?_
  refine nx ?_
  refine wpC_seq ?_
  refine wpC_seq ?_
  refine wpC_region ?_
  refine st_val (ex_field rfl Try.underlying31 rfl Try.sizeOf29) (by decide) trivial ?_
  refine st_val (ex_load1 rfl Try.isAgg29 (h16.cell rfl)) (by decide) trivial ?_
  refine st_val (ex_lenR rfl h2 Try.underlying29) (by decide) trivial ?_
  refine st_val (ex_field rfl Try.underlying31 rfl Try.sizeOf29) (by decide) trivial ?_
  refine st_val (ex_load1 rfl Try.isAgg29 (h21.cell rfl)) (by decide) trivial ?_
  refine st_val (ex_lenR rfl h8 Try.underlying29) (by decide) trivial ?_
  refine st_val (ex_neq rfl rfl) (by decide) trivial ?_
  refine wpF_end (r := [(2, (.pointer (some ⟨b15, 0, none⟩))), (3, (.pointer (some ⟨b20, 0, none⟩))), (21, (.bool ((p0.Ends.length : Int) != (p1.Ends.length : Int))))]) ⟨rfl, rfl, rfl, trivial⟩ ?_
  refine nx ?_
  refine wpC_cond rfl (fun t23 => ?_) (fun t23 => ?_)
  · rw [if_pos t23] at hF
    refine wpC_seq ?_
    refine wpC_region ?_
    refine st_val (ex_assign rfl) (by decide) trivial ?_
    refine wpF_end (r := [(4, (.slice none 0 0))]) ⟨rfl, trivial⟩ ?_
    refine nx ?_
    refine wpC_ret ?_
    refine nt_ret ?_
    have e24 := Option.some.inj hF
    subst e24
    refine ret_post (P := Try.prog) (vs := [(.slice none 0 0)]) Try.results84 ⟨rfl, trivial⟩ ?_
    exact ⟨_, rt oo o18 w.heap.size 9 t, rfl, (Ow.nil _ _ _ _ _), rfl, hB.keeps, rt_old _ _ _ _ _⟩
  · rw [if_neg (by rw [t23]; decide)] at hF
    refine wpC_skip ?_
    refine nx ?_
    refine wpC_seq ?_
    refine wpC_region ?_
    refine st_op (by decide) trivial ?_
    refine wf_litR (o := o18) (cs := [(.int .i64 (-1))]) (xs := ([(-1)] : List Int)) (vs := [(0, (.int .i64 (-1)))]) ⟨_, _, rfl, rfl, rfl⟩ rfl ⟨rfl, rfl, trivial⟩ Try.underlying23 Try.sizeOf3 Try.zeroValue3 (by decide) (fill1 rfl) (by simp) ?_
    intro o25 w26 v27 h28 s29 k30
    replace h16 := h16.stp s29 (by decide)
    replace h21 := h21.stp s29 (by decide)
    replace hB := hB.stp s29 (by decide)
    refine st_val (ex_field rfl Try.underlying31 rfl Try.sizeOf29) (by decide) trivial ?_
    refine st_val (ex_load1 rfl Try.isAgg29 (h16.cell rfl)) (by decide) trivial ?_
    refine st_val (ex_lenR rfl h2 Try.underlying29) (by decide) trivial ?_
    obtain ⟨x37, hx37, hF⟩ := bind_some hF
    refine st_op (by decide) trivial ?_
    refine wf_call (cX_Repeat w26 o25 13 v27 ([(-1)] : List Int) h28.z (p0.Ends.length : Int) x37 hx37) Try.call119 ⟨rfl, rfl, trivial⟩ ?_
    rintro e32 w31 ⟨v38, o36, rfl, h39, k33, k34⟩
    have s35 := k33.stp' 13 k34
    replace h39 := h39.mono hB.keeps.size
    refine ⟨_, rfl, ?_⟩
    replace h28 := h28.stp s35 (by decide)
    replace h16 := h16.stp s35 (by decide)
    replace h21 := h21.stp s35 (by decide)
    replace hB := hB.stp s35 (by decide)
    refine st_val (ex_assign rfl) (by decide) trivial ?_
    refine wpF_end (r := [(2, (.pointer (some ⟨b15, 0, none⟩))), (3, (.pointer (some ⟨b20, 0, none⟩))), (5, v38)]) ⟨rfl, rfl, rfl, trivial⟩ ?_
    refine nx ?_
    refine wpC_seq ?_
    refine wpC_region ?_
    refine st_val (ex_field rfl Try.underlying31 rfl Try.sizeOf29) (by decide) trivial ?_
    refine st_val (ex_load1 rfl Try.isAgg29 (h21.cell rfl)) (by decide) trivial ?_
    refine st_val (ex_lenR rfl h8 Try.underlying29) (by decide) trivial ?_
    obtain ⟨x40, hx40, hF⟩ := bind_some hF
    refine st_op (by decide) trivial ?_
    refine wf_make (o := o36) w.heap.size 14 hB.keeps.size hx40 rfl rfl Try.underlying129 info2_t_bool_Ni rfl (by decide) ?_
    intro o41 w42 v43 h44 s45
    replace h39 := h39.stp s45 (by decide) (by decide)
    replace h16 := h16.stp s45 (by decide)
    replace h21 := h21.stp s45 (by decide)
    replace hB := hB.stp s45 (by decide)
    refine st_val (ex_assign rfl) (by decide) trivial ?_
    refine wpF_end (r := [(2, (.pointer (some ⟨b15, 0, none⟩))), (3, (.pointer (some ⟨b20, 0, none⟩))), (5, v38), (6, v43)]) ⟨rfl, rfl, rfl, rfl, trivial⟩ ?_
    refine nx ?_
    refine wpC_seq ?_
    refine wpC_seq ?_
    refine wpC_region ?_
    refine st_val (ex_field rfl Try.underlying31 rfl Try.sizeOf29) (by decide) trivial ?_
    refine st_val (ex_load1 rfl Try.isAgg29 (h16.cell rfl)) (by decide) trivial ?_
    refine st_val (ex_lenR rfl h2 Try.underlying29) (by decide) trivial ?_
    refine st_val (ex_move rfl) (by decide) trivial ?_
    refine wpF_end (r := [(2, (.pointer (some ⟨b15, 0, none⟩))), (3, (.pointer (some ⟨b20, 0, none⟩))), (5, v38), (6, v43), (33, (.int .i64 (p0.Ends.length : Int))), (34, (.int .i64 0))]) ⟨rfl, rfl, rfl, rfl, rfl, rfl, trivial⟩ ?_
    refine nx ?_
    obtain ⟨u55, h54, hF⟩ := bind_some hF
    obtain ⟨-, h54a, h54b⟩ := ck_some h54
    obtain ⟨q53, hq53, hF⟩ := bind_some hF
    refine wpC_cutN (fun a w51 => ∃ (y46 : List Int) (y48 : List Bool) (o50 : Tg), q53 = .inl (y46, y48) ∧ Fr a 97 [(5, v38)] ∧ Bs oo o50 w w51 ∧ Ow w.heap.size 3 13 o50 w51 v38 y46) (fun a w' => ∃ r', q53 = .inr r' ∧ bodyPost Try.prog Try.f84 (pI_isomorphism oo t w r') .ret a w') ?_ ?_ ?_
    · refine wpC_block ?_
      refine wpC_loop (fun (K : Nat) a w51 => ∃ (i52 : Int) (y46 : List Int) (y48 : List Bool) (o50 : Tg), forN (fI_isomorphism_s1 fuel p0 p1) ((p0.Ends.length : Int) - i52).toNat i52 (y46, y48) = some q53 ∧ ((p0.Ends.length : Int) - i52).toNat = K ∧ 0 ≤ i52 ∧ Fr a 97 [(2, (.pointer (some ⟨b15, 0, none⟩))), (3, (.pointer (some ⟨b20, 0, none⟩))), (5, v38), (6, v43), (33, (.int .i64 (p0.Ends.length : Int))), (34, (.int .i64 i52))] ∧ Bs oo o50 w w51 ∧ Ow w.heap.size 3 13 o50 w51 v38 y46 ∧ Ow w.heap.size 4 14 o50 w51 v43 y48 ∧ Bx w.heap.size 11 o50 w51 b15 31 [v1, v3, v5] ∧ Bx w.heap.size 12 o50 w51 b20 31 [v7, v9, v11]) _ (fun a ha => ⟨0, x37, x40, o41, (by rw [Int.sub_zero]; exact hq53), rfl, Int.le_refl 0, ha.sub (r := [(2, (.pointer (some ⟨b15, 0, none⟩))), (3, (.pointer (some ⟨b20, 0, none⟩))), (5, v38), (6, v43), (33, (.int .i64 (p0.Ends.length : Int))), (34, (.int .i64 0))]) ⟨rfl, rfl, rfl, rfl, rfl, rfl, trivial⟩, hB, h39, h44, h16, h21⟩) ?_
      rintro K59 a w51 ⟨i52, y46, y48, o50, l56, m58, z57, ha, hB, h47, h49, h16, h21⟩
      by_cases t63 : i52 < (p0.Ends.length : Int)
      · obtain ⟨q60, b61, n62⟩ := forN_cons t63 l56
        dsimp only [fI_isomorphism_s1] at b61
        refine wp_of ha ?_
        refine wpC_seq ?_
        refine wpC_region ?_
        refine st_val (ex_lss rfl rfl) (by decide) trivial ?_
        refine wpF_end (r := [(2, (.pointer (some ⟨b15, 0, none⟩))), (3, (.pointer (some ⟨b20, 0, none⟩))), (5, v38), (6, v43), (33, (.int .i64 (p0.Ends.length : Int))), (34, (.int .i64 i52)), (35, (.bool (decide (i52 < (p0.Ends.length : Int)))))]) ⟨rfl, rfl, rfl, rfl, rfl, rfl, rfl, trivial⟩ ?_
        refine nx ?_
        refine wpC_seq ?_
        refine wpC_true (congrArg (fun b => some (Value.bool b)) (decide_eq_true t63)) ?_
        refine wpC_skip ?_
        refine nx ?_
        refine wpC_seq ?_
        refine wpC_block ?_
        refine wpC_seq ?_
        refine wpC_region ?_
        refine st_val (ex_move rfl) (by decide) trivial ?_
        refine st_val (ex_assign rfl) (by decide) trivial ?_
        refine wpF_end (r := [(2, (.pointer (some ⟨b15, 0, none⟩))), (3, (.pointer (some ⟨b20, 0, none⟩))), (5, v38), (6, v43), (7, (.int .i64 i52)), (33, (.int .i64 (p0.Ends.length : Int))), (34, (.int .i64 i52))]) ⟨rfl, rfl, rfl, rfl, rfl, rfl, rfl, trivial⟩ ?_
        refine nx ?_
        refine wpC_seq ?_
        refine wpC_seq ?_
        refine wpC_region ?_
        refine st_val (ex_move rfl) (by decide) trivial ?_
        refine st_val (ex_move rfl) (by decide) trivial ?_
        obtain ⟨x64, hx64, b61⟩ := bind_some b61
        refine st_op (by decide) trivial ?_
        refine wf_atW h47 hx64 rfl rfl Try.underlying23 Try.sizeOf3 ?_
        intro b65 f66 c67 h68 h69
        cases h69
        refine st_val (ex_load1 rfl Try.isAgg3 (cell_of_cells h68)) (by decide) trivial ?_
        refine st_val (ex_geq rfl rfl) (by decide) trivial ?_
        refine wpF_end (r := [(2, (.pointer (some ⟨b15, 0, none⟩))), (3, (.pointer (some ⟨b20, 0, none⟩))), (5, v38), (6, v43), (7, (.int .i64 i52)), (33, (.int .i64 (p0.Ends.length : Int))), (34, (.int .i64 i52)), (41, (.bool (decide (x64 ≥ 0))))]) ⟨rfl, rfl, rfl, rfl, rfl, rfl, rfl, rfl, trivial⟩ ?_
        refine nx ?_
        refine wpC_cond rfl (fun t70 => ?_) (fun t70 => ?_)
        · rw [if_pos t70] at b61
          refine wpC_exit ?_
          refine nt_exit ?_
          refine nb_hit ?_
          refine nx ?_
          refine wpC_region ?_
          refine st_val (ex_add rfl rfl (ck_in (by omega) (by omega))) (by decide) trivial ?_
          refine st_val (ex_move rfl) (by decide) trivial ?_
          refine wpF_end (r := [(2, (.pointer (some ⟨b15, 0, none⟩))), (3, (.pointer (some ⟨b20, 0, none⟩))), (5, v38), (6, v43), (33, (.int .i64 (p0.Ends.length : Int))), (34, (.int .i64 (i52 + 1)))]) ⟨rfl, rfl, rfl, rfl, rfl, rfl, trivial⟩ ?_
          refine nt_norm ?_
          have e71 := Option.some.inj b61
          subst e71
          refine to_k (r := [(2, (.pointer (some ⟨b15, 0, none⟩))), (3, (.pointer (some ⟨b20, 0, none⟩))), (5, v38), (6, v43), (33, (.int .i64 (p0.Ends.length : Int))), (34, (.int .i64 (i52 + 1)))]) ⟨rfl, rfl, rfl, rfl, rfl, rfl, trivial⟩ ?_
          intro a ha
          exact ⟨_, (by rw [← m58]; omega), i52 + 1, y46, y48, o50, n62, rfl, (by omega), ha, hB, h47, h49, h16, h21⟩
        · rw [if_neg (by rw [t70]; decide)] at b61
          refine wpC_skip ?_
          refine nx ?_
          refine wpC_seq ?_
          refine wpC_region ?_
          refine st_val (ex_loadA rfl Try.isAgg31 Try.sizeOf31 rfl h16.cells) (by decide) trivial ?_
          refine st_val (ex_move rfl) (by decide) trivial ?_
          obtain ⟨x72, hx72, b61⟩ := bind_some b61
          refine st_op (by decide) trivial ?_
          refine wf_call (cI_codeFrom fuel w51 o50 15 (by decide) _ p0 (⟨_, _, _, rfl, (h2.keep hB.keeps), (h4.keep hB.keeps), (h6.keep hB.keeps)⟩) i52 x72 hx72) Try.call67 ⟨rfl, rfl, trivial⟩ ?_
          rintro e82 w73 ⟨v74, v76, o83, rfl, h75, h77, k79, k80⟩
          have s81 := k79.stp' 15 k80
          replace h75 := h75.mono hB.keeps.size
          have h78 := h77.rd
          refine ⟨_, rfl, ?_⟩
          replace h47 := h47.stp s81 (by decide) (by decide)
          replace h49 := h49.stp s81 (by decide) (by decide)
          replace h16 := h16.stp s81 (by decide)
          replace h21 := h21.stp s81 (by decide)
          replace hB := hB.stp s81 (by decide)
          refine st_val (ex_move rfl) (by decide) trivial ?_
          refine st_val (ex_extract rfl rfl) (by decide) trivial ?_
          refine st_val (ex_extract rfl rfl) (by decide) trivial ?_
          refine st_val (ex_assign rfl) (by decide) trivial ?_
          refine st_val (ex_assign rfl) (by decide) trivial ?_
          refine wpF_end (r := [(2, (.pointer (some ⟨b15, 0, none⟩))), (3, (.pointer (some ⟨b20, 0, none⟩))), (5, v38), (6, v43), (7, (.int .i64 i52)), (8, v74), (9, v76), (33, (.int .i64 (p0.Ends.length : Int))), (34, (.int .i64 i52))]) ⟨rfl, rfl, rfl, rfl, rfl, rfl, rfl, rfl, rfl, trivial⟩ ?_
          refine nx ?_
          refine wpC_seq ?_
          refine wpC_seq ?_
          refine wpC_region ?_
          refine st_val (ex_field rfl Try.underlying31 rfl Try.sizeOf29) (by decide) trivial ?_
          refine st_val (ex_load1 rfl Try.isAgg29 (h21.cell rfl)) (by decide) trivial ?_
          refine st_val (ex_lenR rfl h8 Try.underlying29) (by decide) trivial ?_
          refine st_val (ex_move rfl) (by decide) trivial ?_
          refine wpF_end (r := [(2, (.pointer (some ⟨b15, 0, none⟩))), (3, (.pointer (some ⟨b20, 0, none⟩))), (5, v38), (6, v43), (7, (.int .i64 i52)), (8, v74), (9, v76), (33, (.int .i64 (p0.Ends.length : Int))), (34, (.int .i64 i52)), (50, (.int .i64 (p1.Ends.length : Int))), (51, (.int .i64 0))]) ⟨rfl, rfl, rfl, rfl, rfl, rfl, rfl, rfl, rfl, rfl, rfl, trivial⟩ ?_
          refine nx ?_
          obtain ⟨u93, h92, b61⟩ := bind_some b61
          obtain ⟨-, h92a, h92b⟩ := ck_some h92
          obtain ⟨q91, hq91, b61⟩ := bind_some b61
          refine wpC_cutN (fun a w89 => ∃ (y84 : List Int) (y86 : List Bool) (o88 : Tg), q91 = .inl (y84, y86) ∧ Fr a 97 [(2, (.pointer (some ⟨b15, 0, none⟩))), (3, (.pointer (some ⟨b20, 0, none⟩))), (5, v38), (6, v43), (7, (.int .i64 i52)), (33, (.int .i64 (p0.Ends.length : Int))), (34, (.int .i64 i52))] ∧ Bs oo o88 w w89 ∧ Ow w.heap.size 3 13 o88 w89 v38 y84 ∧ Ow w.heap.size 4 14 o88 w89 v43 y86 ∧ Bx w.heap.size 11 o88 w89 b15 31 [v1, v3, v5] ∧ Bx w.heap.size 12 o88 w89 b20 31 [v7, v9, v11]) (fun _ _ => False) ?_ ?_ ?_
          · refine wpC_block ?_
            refine wpC_loop (fun (K : Nat) a w89 => ∃ (i90 : Int) (y84 : List Int) (y86 : List Bool) (o88 : Tg), forN (fI_isomorphism_s2 fuel p1 x72) ((p1.Ends.length : Int) - i90).toNat i90 (y84, y86) = some q91 ∧ ((p1.Ends.length : Int) - i90).toNat = K ∧ 0 ≤ i90 ∧ Fr a 97 [(2, (.pointer (some ⟨b15, 0, none⟩))), (3, (.pointer (some ⟨b20, 0, none⟩))), (5, v38), (6, v43), (7, (.int .i64 i52)), (8, v74), (9, v76), (33, (.int .i64 (p0.Ends.length : Int))), (34, (.int .i64 i52)), (50, (.int .i64 (p1.Ends.length : Int))), (51, (.int .i64 i90))] ∧ Bs oo o88 w w89 ∧ Ow w.heap.size 3 13 o88 w89 v38 y84 ∧ Ow w.heap.size 4 14 o88 w89 v43 y86 ∧ Ow w.heap.size 3 15 o88 w89 v74 (x72.1 : List Int) ∧ RdL o88 w89 v76 (x72.2 : List Int) ∧ Of 3 o88 w89 v76 (x72.2 : List Int) ∧ Bx w.heap.size 11 o88 w89 b15 31 [v1, v3, v5] ∧ Bx w.heap.size 12 o88 w89 b20 31 [v7, v9, v11]) _ (fun a ha => ⟨0, y46, y48, o83, (by rw [Int.sub_zero]; exact hq91), rfl, Int.le_refl 0, ha.sub (r := [(2, (.pointer (some ⟨b15, 0, none⟩))), (3, (.pointer (some ⟨b20, 0, none⟩))), (5, v38), (6, v43), (7, (.int .i64 i52)), (8, v74), (9, v76), (33, (.int .i64 (p0.Ends.length : Int))), (34, (.int .i64 i52)), (50, (.int .i64 (p1.Ends.length : Int))), (51, (.int .i64 0))]) ⟨rfl, rfl, rfl, rfl, rfl, rfl, rfl, rfl, rfl, rfl, rfl, trivial⟩, hB, h47, h49, h75, h78, h77, h16, h21⟩) ?_
            rintro K97 a w89 ⟨i90, y84, y86, o88, l94, m96, z95, ha, hB, h85, h87, h75, h78, h77, h16, h21⟩
            by_cases t101 : i90 < (p1.Ends.length : Int)
            · obtain ⟨q98, b99, n100⟩ := forN_cons t101 l94
              dsimp only [fI_isomorphism_s2] at b99
              refine wp_of ha ?_
              refine wpC_seq ?_
              refine wpC_region ?_
              refine st_val (ex_lss rfl rfl) (by decide) trivial ?_
              refine wpF_end (r := [(2, (.pointer (some ⟨b15, 0, none⟩))), (3, (.pointer (some ⟨b20, 0, none⟩))), (5, v38), (6, v43), (7, (.int .i64 i52)), (8, v74), (9, v76), (33, (.int .i64 (p0.Ends.length : Int))), (34, (.int .i64 i52)), (50, (.int .i64 (p1.Ends.length : Int))), (51, (.int .i64 i90)), (52, (.bool (decide (i90 < (p1.Ends.length : Int)))))]) ⟨rfl, rfl, rfl, rfl, rfl, rfl, rfl, rfl, rfl, rfl, rfl, rfl, trivial⟩ ?_
              refine nx ?_
              refine wpC_seq ?_
              refine wpC_true (congrArg (fun b => some (Value.bool b)) (decide_eq_true t101)) ?_
              refine wpC_skip ?_
              refine nx ?_
              refine wpC_seq ?_
              refine wpC_block ?_
              refine wpC_seq ?_
              refine wpC_region ?_
              refine st_val (ex_move rfl) (by decide) trivial ?_
              refine st_val (ex_assign rfl) (by decide) trivial ?_
              refine wpF_end (r := [(2, (.pointer (some ⟨b15, 0, none⟩))), (3, (.pointer (some ⟨b20, 0, none⟩))), (5, v38), (6, v43), (7, (.int .i64 i52)), (8, v74), (9, v76), (10, (.int .i64 i90)), (33, (.int .i64 (p0.Ends.length : Int))), (34, (.int .i64 i52)), (50, (.int .i64 (p1.Ends.length : Int))), (51, (.int .i64 i90))]) ⟨rfl, rfl, rfl, rfl, rfl, rfl, rfl, rfl, rfl, rfl, rfl, rfl, trivial⟩ ?_
              refine nx ?_
              refine wpC_seq ?_
              refine wpC_seq ?_
              refine wpC_region ?_
              refine st_val (ex_move rfl) (by decide) trivial ?_
              refine st_val (ex_move rfl) (by decide) trivial ?_
              obtain ⟨x102, hx102, b99⟩ := bind_some b99
              refine st_op (by decide) trivial ?_
              refine wf_atW h87 hx102 rfl rfl Try.underlying129 Try.sizeOf4 ?_
              intro b103 f104 c105 h106 h107
              cases h107
              refine st_val (ex_load1 rfl Try.isAgg4 (cell_of_cells h106)) (by decide) trivial ?_
              refine wpF_end (r := [(2, (.pointer (some ⟨b15, 0, none⟩))), (3, (.pointer (some ⟨b20, 0, none⟩))), (5, v38), (6, v43), (7, (.int .i64 i52)), (8, v74), (9, v76), (10, (.int .i64 i90)), (33, (.int .i64 (p0.Ends.length : Int))), (34, (.int .i64 i52)), (50, (.int .i64 (p1.Ends.length : Int))), (51, (.int .i64 i90)), (57, (.bool x102))]) ⟨rfl, rfl, rfl, rfl, rfl, rfl, rfl, rfl, rfl, rfl, rfl, rfl, rfl, trivial⟩ ?_
              refine nx ?_
              refine wpC_cond rfl (fun t108 => ?_) (fun t108 => ?_)
              · rw [if_pos t108] at b99
                refine wpC_exit ?_
                refine nt_exit ?_
                refine nb_hit ?_
                refine nx ?_
                refine wpC_region ?_
                refine st_val (ex_add rfl rfl (ck_in (by omega) (by omega))) (by decide) trivial ?_
                refine st_val (ex_move rfl) (by decide) trivial ?_
                refine wpF_end (r := [(2, (.pointer (some ⟨b15, 0, none⟩))), (3, (.pointer (some ⟨b20, 0, none⟩))), (5, v38), (6, v43), (7, (.int .i64 i52)), (8, v74), (9, v76), (33, (.int .i64 (p0.Ends.length : Int))), (34, (.int .i64 i52)), (50, (.int .i64 (p1.Ends.length : Int))), (51, (.int .i64 (i90 + 1)))]) ⟨rfl, rfl, rfl, rfl, rfl, rfl, rfl, rfl, rfl, rfl, rfl, trivial⟩ ?_
                refine nt_norm ?_
                have e109 := Option.some.inj b99
                subst e109
                refine to_k (r := [(2, (.pointer (some ⟨b15, 0, none⟩))), (3, (.pointer (some ⟨b20, 0, none⟩))), (5, v38), (6, v43), (7, (.int .i64 i52)), (8, v74), (9, v76), (33, (.int .i64 (p0.Ends.length : Int))), (34, (.int .i64 i52)), (50, (.int .i64 (p1.Ends.length : Int))), (51, (.int .i64 (i90 + 1)))]) ⟨rfl, rfl, rfl, rfl, rfl, rfl, rfl, rfl, rfl, rfl, rfl, trivial⟩ ?_
                intro a ha
                exact ⟨_, (by rw [← m96]; omega), i90 + 1, y84, y86, o88, n100, rfl, (by omega), ha, hB, h85, h87, h75, h78, h77, h16, h21⟩
              · rw [if_neg (by rw [t108]; decide)] at b99
                refine wpC_skip ?_
                refine nx ?_
                refine wpC_seq ?_
                refine wpC_region ?_
                refine st_val (ex_loadA rfl Try.isAgg31 Try.sizeOf31 rfl h21.cells) (by decide) trivial ?_
                refine st_val (ex_move rfl) (by decide) trivial ?_
                obtain ⟨x110, hx110, b99⟩ := bind_some b99
                refine st_op (by decide) trivial ?_
                refine wf_call (cI_codeFrom fuel w89 o88 16 (by decide) _ p1 (⟨_, _, _, rfl, (h8.keep hB.keeps), (h10.keep hB.keeps), (h12.keep hB.keeps)⟩) i90 x110 hx110) Try.call67 ⟨rfl, rfl, trivial⟩ ?_
                rintro e120 w111 ⟨v112, v114, o121, rfl, h113, h115, k117, k118⟩
                have s119 := k117.stp' 16 k118
                replace h113 := h113.mono hB.keeps.size
                have h116 := h115.rd
                refine ⟨_, rfl, ?_⟩
                replace h85 := h85.stp s119 (by decide) (by decide)
                replace h87 := h87.stp s119 (by decide) (by decide)
                replace h75 := h75.stp s119 (by decide) (by decide)
                replace h78 := h78.stp s119 (by decide)
                replace h77 := h77.stp s119 (by decide)
                replace h16 := h16.stp s119 (by decide)
                replace h21 := h21.stp s119 (by decide)
                replace hB := hB.stp s119 (by decide)
                refine st_val (ex_move rfl) (by decide) trivial ?_
                refine st_val (ex_extract rfl rfl) (by decide) trivial ?_
                refine st_val (ex_extract rfl rfl) (by decide) trivial ?_
                refine st_val (ex_assign rfl) (by decide) trivial ?_
                refine st_val (ex_assign rfl) (by decide) trivial ?_
                refine wpF_end (r := [(2, (.pointer (some ⟨b15, 0, none⟩))), (3, (.pointer (some ⟨b20, 0, none⟩))), (5, v38), (6, v43), (7, (.int .i64 i52)), (8, v74), (9, v76), (11, v112), (12, v114), (33, (.int .i64 (p0.Ends.length : Int))), (34, (.int .i64 i52)), (50, (.int .i64 (p1.Ends.length : Int))), (51, (.int .i64 i90))]) ⟨rfl, rfl, rfl, rfl, rfl, rfl, rfl, rfl, rfl, rfl, rfl, rfl, rfl, trivial⟩ ?_
                refine nx ?_
                refine wpC_seq ?_
                refine wpC_seq ?_
                refine wpC_region ?_
                refine st_val (ex_move rfl) (by decide) trivial ?_
                refine st_val (ex_move rfl) (by decide) trivial ?_
                obtain ⟨x122, hx122, b99⟩ := bind_some b99
                refine st_op (by decide) trivial ?_
                refine wf_call (cX_slices_Equal_int_int w111 _ x72.1 h75.z _ x110.1 h113.z x122 hx122) Try.call88 ⟨rfl, rfl, trivial⟩ ?_
                rintro e127 w123 ⟨rfl, k124⟩
                have s126 := k124.stp 999 o121
                refine ⟨_, rfl, ?_⟩
                replace h85 := h85.stp s126 (by decide) (by decide)
                replace h87 := h87.stp s126 (by decide) (by decide)
                replace h75 := h75.stp s126 (by decide) (by decide)
                replace h78 := h78.stp s126 (by decide)
                replace h77 := h77.stp s126 (by decide)
                replace h113 := h113.stp s126 (by decide) (by decide)
                replace h116 := h116.stp s126 (by decide)
                replace h115 := h115.stp s126 (by decide)
                replace h16 := h16.stp s126 (by decide)
                replace h21 := h21.stp s126 (by decide)
                replace hB := hB.stp s126 (by decide)
                refine st_val (ex_not rfl) (by decide) trivial ?_
                refine wpF_end (r := [(2, (.pointer (some ⟨b15, 0, none⟩))), (3, (.pointer (some ⟨b20, 0, none⟩))), (5, v38), (6, v43), (7, (.int .i64 i52)), (8, v74), (9, v76), (12, v114), (33, (.int .i64 (p0.Ends.length : Int))), (34, (.int .i64 i52)), (50, (.int .i64 (p1.Ends.length : Int))), (51, (.int .i64 i90)), (67, (.bool (!x122)))]) ⟨rfl, rfl, rfl, rfl, rfl, rfl, rfl, rfl, rfl, rfl, rfl, rfl, rfl, trivial⟩ ?_
                refine nx ?_
                refine wpC_cond rfl (fun t128 => ?_) (fun t128 => ?_)
                · rw [if_pos t128] at b99
                  refine wpC_exit ?_
                  refine nt_exit ?_
                  refine nb_hit ?_
                  refine nx ?_
                  refine wpC_region ?_
                  refine st_val (ex_add rfl rfl (ck_in (by omega) (by omega))) (by decide) trivial ?_
                  refine st_val (ex_move rfl) (by decide) trivial ?_
                  refine wpF_end (r := [(2, (.pointer (some ⟨b15, 0, none⟩))), (3, (.pointer (some ⟨b20, 0, none⟩))), (5, v38), (6, v43), (7, (.int .i64 i52)), (8, v74), (9, v76), (33, (.int .i64 (p0.Ends.length : Int))), (34, (.int .i64 i52)), (50, (.int .i64 (p1.Ends.length : Int))), (51, (.int .i64 (i90 + 1)))]) ⟨rfl, rfl, rfl, rfl, rfl, rfl, rfl, rfl, rfl, rfl, rfl, trivial⟩ ?_
                  refine nt_norm ?_
                  have e129 := Option.some.inj b99
                  subst e129
                  refine to_k (r := [(2, (.pointer (some ⟨b15, 0, none⟩))), (3, (.pointer (some ⟨b20, 0, none⟩))), (5, v38), (6, v43), (7, (.int .i64 i52)), (8, v74), (9, v76), (33, (.int .i64 (p0.Ends.length : Int))), (34, (.int .i64 i52)), (50, (.int .i64 (p1.Ends.length : Int))), (51, (.int .i64 (i90 + 1)))]) ⟨rfl, rfl, rfl, rfl, rfl, rfl, rfl, rfl, rfl, rfl, rfl, trivial⟩ ?_
                  intro a ha
                  exact ⟨_, (by rw [← m96]; omega), i90 + 1, y84, y86, o121, n100, rfl, (by omega), ha, hB, h85, h87, h75, h78, h77, h16, h21⟩
                · rw [if_neg (by rw [t128]; decide)] at b99
                  refine wpC_skip ?_
                  refine nx ?_
                  refine wpC_seq ?_
                  refine wpC_seq ?_
                  refine wpC_region ?_
                  refine st_val (ex_move rfl) (by decide) trivial ?_
                  refine st_val (ex_lenR rfl h78 Try.underlying23) (by decide) trivial ?_
                  refine st_val (ex_move rfl) (by decide) trivial ?_
                  refine wpF_end (r := [(2, (.pointer (some ⟨b15, 0, none⟩))), (3, (.pointer (some ⟨b20, 0, none⟩))), (5, v38), (6, v43), (7, (.int .i64 i52)), (12, v114), (33, (.int .i64 (p0.Ends.length : Int))), (34, (.int .i64 i52)), (68, v76), (69, (.int .i64 (x72.2.length : Int))), (70, (.int .i64 0))]) ⟨rfl, rfl, rfl, rfl, rfl, rfl, rfl, rfl, rfl, rfl, rfl, trivial⟩ ?_
                  refine nx ?_
                  obtain ⟨q137, hq137, b99⟩ := bind_some b99
                  refine wpC_cutN (fun a w135 => ∃ (y130 : List Int) (y132 : List Bool) (o134 : Tg), q137 = .inl (y130, y132) ∧ Fr a 97 [(2, (.pointer (some ⟨b15, 0, none⟩))), (3, (.pointer (some ⟨b20, 0, none⟩))), (5, v38), (6, v43), (7, (.int .i64 i52)), (33, (.int .i64 (p0.Ends.length : Int))), (34, (.int .i64 i52))] ∧ Bs oo o134 w w135 ∧ Ow w.heap.size 3 13 o134 w135 v38 y130 ∧ Ow w.heap.size 4 14 o134 w135 v43 y132 ∧ Bx w.heap.size 11 o134 w135 b15 31 [v1, v3, v5] ∧ Bx w.heap.size 12 o134 w135 b20 31 [v7, v9, v11]) (fun _ _ => False) ?_ ?_ ?_
                  · refine wpC_block ?_
                    refine wpC_loop (fun (K : Nat) a w135 => ∃ (i136 : Int) (y130 : List Int) (y132 : List Bool) (o134 : Tg), forI (fI_isomorphism_s3 x110) (x72.2.drop i136.toNat) i136 (y130, y132) = some q137 ∧ (x72.2.drop i136.toNat).length = K ∧ 0 ≤ i136 ∧ Fr a 97 [(2, (.pointer (some ⟨b15, 0, none⟩))), (3, (.pointer (some ⟨b20, 0, none⟩))), (5, v38), (6, v43), (7, (.int .i64 i52)), (12, v114), (33, (.int .i64 (p0.Ends.length : Int))), (34, (.int .i64 i52)), (68, v76), (69, (.int .i64 (x72.2.length : Int))), (70, (.int .i64 i136))] ∧ Bs oo o134 w w135 ∧ Ow w.heap.size 3 13 o134 w135 v38 y130 ∧ Ow w.heap.size 4 14 o134 w135 v43 y132 ∧ RdL o134 w135 v114 (x110.2 : List Int) ∧ Of 3 o134 w135 v114 (x110.2 : List Int) ∧ RdL o134 w135 v76 (x72.2 : List Int) ∧ Of 3 o134 w135 v76 (x72.2 : List Int) ∧ Bx w.heap.size 11 o134 w135 b15 31 [v1, v3, v5] ∧ Bx w.heap.size 12 o134 w135 b20 31 [v7, v9, v11]) _ (fun a ha => ⟨0, y84, y86, o121, hq137, rfl, Int.le_refl 0, ha.sub (r := [(2, (.pointer (some ⟨b15, 0, none⟩))), (3, (.pointer (some ⟨b20, 0, none⟩))), (5, v38), (6, v43), (7, (.int .i64 i52)), (12, v114), (33, (.int .i64 (p0.Ends.length : Int))), (34, (.int .i64 i52)), (68, v76), (69, (.int .i64 (x72.2.length : Int))), (70, (.int .i64 0))]) ⟨rfl, rfl, rfl, rfl, rfl, rfl, rfl, rfl, rfl, rfl, rfl, trivial⟩, hB, h85, h87, h116, h115, h78, h77, h16, h21⟩) ?_
                    rintro K141 a w135 ⟨i136, y130, y132, o134, l138, m140, z139, ha, hB, h131, h133, h116, h115, h78, h77, h16, h21⟩
                    by_cases t145 : i136 < (x72.2.length : Int)
                    · obtain ⟨x146, q142, hx146, b143, n144⟩ := forI_cons z139 t145 l138
                      have hle := h78.len_le
                      dsimp only [fI_isomorphism_s3] at b143
                      refine wp_of ha ?_
                      refine wpC_seq ?_
                      refine wpC_region ?_
                      refine st_val (ex_lss rfl rfl) (by decide) trivial ?_
                      refine wpF_end (r := [(2, (.pointer (some ⟨b15, 0, none⟩))), (3, (.pointer (some ⟨b20, 0, none⟩))), (5, v38), (6, v43), (7, (.int .i64 i52)), (12, v114), (33, (.int .i64 (p0.Ends.length : Int))), (34, (.int .i64 i52)), (68, v76), (69, (.int .i64 (x72.2.length : Int))), (70, (.int .i64 i136)), (71, (.bool (decide (i136 < (x72.2.length : Int)))))]) ⟨rfl, rfl, rfl, rfl, rfl, rfl, rfl, rfl, rfl, rfl, rfl, rfl, trivial⟩ ?_
                      refine nx ?_
                      refine wpC_seq ?_
                      refine wpC_true (congrArg (fun b => some (Value.bool b)) (decide_eq_true t145)) ?_
                      refine wpC_skip ?_
                      refine nx ?_
                      refine wpC_seq ?_
                      refine wpC_block ?_
                      refine wpC_seq ?_
                      refine wpC_region ?_
                      refine st_val (ex_move rfl) (by decide) trivial ?_
                      refine st_op (by decide) trivial ?_
                      refine wf_atO h78 hx146 rfl rfl Try.underlying23 Try.sizeOf3 ?_
                      intro b147 f148 c149 h150 h151
                      cases h151
                      refine st_val (ex_load1 rfl Try.isAgg3 (cell_of_cells h150)) (by decide) trivial ?_
                      refine st_val (ex_assign rfl) (by decide) trivial ?_
                      refine st_val (ex_assign rfl) (by decide) trivial ?_
                      refine wpF_end (r := [(2, (.pointer (some ⟨b15, 0, none⟩))), (3, (.pointer (some ⟨b20, 0, none⟩))), (5, v38), (6, v43), (7, (.int .i64 i52)), (12, v114), (13, (.int .i64 i136)), (14, (.int .i64 x146)), (33, (.int .i64 (p0.Ends.length : Int))), (34, (.int .i64 i52)), (68, v76), (69, (.int .i64 (x72.2.length : Int))), (70, (.int .i64 i136))]) ⟨rfl, rfl, rfl, rfl, rfl, rfl, rfl, rfl, rfl, rfl, rfl, rfl, rfl, trivial⟩ ?_
                      refine nx ?_
                      obtain ⟨x152, hx152, b143⟩ := bind_some b143
                      obtain ⟨x155, hx155, b143⟩ := bind_some b143
                      obtain ⟨x158, hx158, b143⟩ := bind_some b143
                      obtain ⟨x166, hx166, b143⟩ := bind_some b143
                      obtain ⟨x168, hx168, b143⟩ := bind_some b143
                      obtain ⟨x176, hx176, b143⟩ := bind_some b143
                      refine wpC_drawnS (o := o134) [(2, (.pointer (some ⟨b15, 0, none⟩))), (3, (.pointer (some ⟨b20, 0, none⟩))), (5, v38), (6, v43), (7, (.int .i64 i52)), (12, v114), (13, (.int .i64 i136)), (14, (.int .i64 x146)), (33, (.int .i64 (p0.Ends.length : Int))), (34, (.int .i64 i52)), (68, v76), (69, (.int .i64 (x72.2.length : Int))), (70, (.int .i64 i136))] [2, 3, 5, 6, 7, 12, 13, 14, 33, 34, 68, 69, 70] [75, 76, 77, 78, 79, 80, 81, 82, 83, 84, 85, 86, 1000012, 87, 1000014] [[], [], [], [], [], [3, 4], [5], [], [], [7, 8], [9], [0, 1], [10, 11], [2, 6], [13]] [none, none, none, none, none, none, none, none, none, none, none, none, none, none, none] [999, 999, 999, 999, 999, 999, 999, 999, 999, 999, 999, 999, 13, 999, 14] [0, 0, 0, 0, 0, 0, 0, 0, 0, 0, 0, 0, 13, 0, 14] [13, 14, 999] [12, 14] [13, 14] [[0, 1], [0, 1], [1], [1], [1], [1], [0, 1], [0, 1], [0, 1], [0, 1], [0, 1], [0, 1], [0, 1], [1], [1]] [false, false, false, false, false, false, false, false, false, false, false, false, true, false, true] [fun v _ _ => v = v38, fun v _ _ => v = (.int .i64 x146), fun v _ _ => v = v43, fun v _ _ => v = v114, fun v _ _ => v = (.int .i64 i136), fun v o w9 => ∃ vl, v = adr vl (i136.toNat * Rp.sz Int) ∧ RdL o w9 vl (x110.2 : List Int), fun v _ _ => v = (.int .i64 x152), fun v _ _ => v = v114, fun v _ _ => v = (.int .i64 i136), fun v o w9 => ∃ vl, v = adr vl (i136.toNat * Rp.sz Int) ∧ RdL o w9 vl (x110.2 : List Int), fun v _ _ => v = (.int .i64 x155), fun v _ _ => ∃ b : Nat, v38.ownBlock = some b ∧ v = .pointer (some ⟨b, 0 + x146.toNat * Rp.sz Int, none⟩), fun _ o w9 => Ow w.heap.size 3 13 o w9 v38 x166, fun v _ _ => ∃ b : Nat, v43.ownBlock = some b ∧ v = .pointer (some ⟨b, 0 + x152.toNat * Rp.sz Bool, none⟩), fun _ o w9 => Ow w.heap.size 4 14 o w9 v43 x176] [fun _ o w9 => Ow w.heap.size 3 13 o w9 v38 y130, fun _ o w9 => Ow w.heap.size 4 14 o w9 v43 y132] (fun o8 w8 => Bs oo o8 w w8 ∧ RdL o8 w8 v114 (x110.2 : List Int) ∧ Of 3 o8 w8 v114 (x110.2 : List Int) ∧ RdL o8 w8 v76 (x72.2 : List Int) ∧ Of 3 o8 w8 v76 (x72.2 : List Int) ∧ Bx w.heap.size 11 o8 w8 b15 31 [v1, v3, v5] ∧ Bx w.heap.size 12 o8 w8 b20 31 [v7, v9, v11]) follows_mixed (by kernel_rfl) rfl ⟨rfl, rfl, rfl, rfl, rfl, rfl, rfl, rfl, rfl, rfl, rfl, rfl, rfl, trivial⟩ ⟨hB, h116, h115, h78, h77, h16, h21⟩ ⟨h131, h133, trivial⟩ ?_ ⟨st_eq _, st_eq _, st_eq _, st_eq _, st_eq _, fun _ _ _ _ _ _ h0 hb ⟨vl, e, h⟩ hs => ⟨vl, e, h.stp hs h0.1⟩, st_eq _, st_eq _, st_eq _, fun _ _ _ _ _ _ h0 hb ⟨vl, e, h⟩ hs => ⟨vl, e, h.stp hs h0.1⟩, st_eq _, fun _ _ _ _ _ _ _ _ h _ => h, fun _ _ _ _ _ _ h0 hb h hs => h.stp hs h0.1 (Ne.symm hb), fun _ _ _ _ _ _ _ _ h _ => h, fun _ _ _ _ _ _ h0 hb h hs => h.stp hs h0.1 (Ne.symm hb), trivial⟩ ⟨fun _ _ _ _ _ _ h0 hb h hs => h.stp hs h0.1 (Ne.symm hb), fun _ _ _ _ _ _ h0 hb h hs => h.stp hs h0.1 (Ne.symm hb), trivial⟩ ⟨trivial, trivial, trivial, trivial, trivial, trivial, trivial, trivial, trivial, trivial, trivial, trivial, fun _ _ _ _ h => h, trivial, fun _ _ _ _ h => h, trivial⟩ ?_ ?_
                      · rintro t9 o1 w1 o2 w2 ht9 ⟨hB, h116, h115, h78, h77, h16, h21⟩ hs9
                        have ht9 : t9 = 13 ∨ t9 = 14 ∨ t9 = 999 := by simpa using ht9
                        rcases ht9 with rfl | rfl | rfl
                        all_goals exact ⟨hB.stp hs9 (by decide), h116.stp hs9 (by decide), h115.stp hs9 (by decide), h78.stp hs9 (by decide), h77.stp hs9 (by decide), h16.stp hs9 (by decide), h21.stp hs9 (by decide)⟩
                      · refine ⟨?_, ?_, ?_, ?_, ?_, ?_, ?_, ?_, ?_, ?_, ?_, ?_, ?_, ?_, ?_, trivial⟩
                        · rintro o178 w179 a180 ha ⟨hB, h116, h115, h78, h77, h16, h21⟩ ⟨h131, h133, -⟩ -
                          refine opS_of ha (trivial) ?_
                          refine op1_val (ex_move rfl) ?_
                          exact ⟨_, Stp.refl _ _ _, rfl⟩
                        · rintro o181 w182 a183 ha ⟨hB, h116, h115, h78, h77, h16, h21⟩ ⟨h131, h133, -⟩ -
                          refine opS_of ha (trivial) ?_
                          refine op1_val (ex_move rfl) ?_
                          exact ⟨_, Stp.refl _ _ _, rfl⟩
                        · rintro o184 w185 a186 ha ⟨hB, h116, h115, h78, h77, h16, h21⟩ ⟨h133, -⟩ -
                          refine opS_of ha (trivial) ?_
                          refine op1_val (ex_move rfl) ?_
                          exact ⟨_, Stp.refl _ _ _, rfl⟩
                        · rintro o187 w188 a189 ha ⟨hB, h116, h115, h78, h77, h16, h21⟩ ⟨h133, -⟩ -
                          refine opS_of ha (trivial) ?_
                          refine op1_val (ex_move rfl) ?_
                          exact ⟨_, Stp.refl _ _ _, rfl⟩
                        · rintro o190 w191 a192 ha ⟨hB, h116, h115, h78, h77, h16, h21⟩ ⟨h133, -⟩ -
                          refine opS_of ha (trivial) ?_
                          refine op1_val (ex_move rfl) ?_
                          exact ⟨_, Stp.refl _ _ _, rfl⟩
                        · rintro o193 w194 a195 ha ⟨hB, h116, h115, h78, h77, h16, h21⟩ ⟨h133, -⟩ ⟨r196, r197, -⟩
                          have ha := Fr.cons (d := 78) ha r196
                          have ha := Fr.cons (d := 79) ha r197
                          refine opS_of ha (trivial) ?_
                          refine wd_indexR h116 hx152 rfl rfl Try.underlying23 Try.sizeOf3 ?_
                          exact ⟨_, Stp.refl _ _ _, ⟨_, rfl, h116⟩⟩
                        · rintro o198 w199 a200 ha ⟨hB, h116, h115, h78, h77, h16, h21⟩ ⟨h131, h133, -⟩ ⟨r201, -⟩
                          obtain ⟨v202, e203, h204⟩ := r201
                          have ha := Fr.cons (d := 80) ha e203
                          refine opS_of ha (trivial) ?_
                          refine wd_load1 h204 hx152 rfl rfl Try.isAgg3 ?_
                          intro c205 h206
                          cases h206
                          exact ⟨_, Stp.refl _ _ _, rfl⟩
                        · rintro o207 w208 a209 ha ⟨hB, h116, h115, h78, h77, h16, h21⟩ ⟨h131, h133, -⟩ -
                          refine opS_of ha (trivial) ?_
                          refine op1_val (ex_move rfl) ?_
                          exact ⟨_, Stp.refl _ _ _, rfl⟩
                        · rintro o210 w211 a212 ha ⟨hB, h116, h115, h78, h77, h16, h21⟩ ⟨h131, h133, -⟩ -
                          refine opS_of ha (trivial) ?_
                          refine op1_val (ex_move rfl) ?_
                          exact ⟨_, Stp.refl _ _ _, rfl⟩
                        · rintro o213 w214 a215 ha ⟨hB, h116, h115, h78, h77, h16, h21⟩ ⟨h131, h133, -⟩ ⟨r216, r217, -⟩
                          have ha := Fr.cons (d := 82) ha r216
                          have ha := Fr.cons (d := 83) ha r217
                          refine opS_of ha (trivial) ?_
                          refine wd_indexR h116 hx155 rfl rfl Try.underlying23 Try.sizeOf3 ?_
                          exact ⟨_, Stp.refl _ _ _, ⟨_, rfl, h116⟩⟩
                        · rintro o218 w219 a220 ha ⟨hB, h116, h115, h78, h77, h16, h21⟩ ⟨h131, h133, -⟩ ⟨r221, -⟩
                          obtain ⟨v222, e223, h224⟩ := r221
                          have ha := Fr.cons (d := 84) ha e223
                          refine opS_of ha (trivial) ?_
                          refine wd_load1 h224 hx155 rfl rfl Try.isAgg3 ?_
                          intro c225 h226
                          cases h226
                          exact ⟨_, Stp.refl _ _ _, rfl⟩
                        · rintro o227 w228 a229 ha ⟨hB, h116, h115, h78, h77, h16, h21⟩ ⟨h131, h133, -⟩ ⟨r230, r231, -⟩
                          have ha := Fr.cons (d := 75) ha r230
                          have ha := Fr.cons (d := 76) ha r231
                          refine opS_of ha (trivial) ?_
                          refine wf_atP h131 hx158 rfl rfl Try.underlying23 Try.sizeOf3 ?_
                          intro b232 c233 h234 h235 h236
                          exact ⟨_, Stp.refl _ _ _, ⟨_, h234, rfl⟩⟩
                        · rintro o237 w238 a239 ha ⟨hB, h116, h115, h78, h77, h16, h21⟩ ⟨h131, h133, -⟩ ⟨r240, r241, -⟩
                          have ha := Fr.cons (d := 85) ha r240
                          obtain ⟨b242, h243, e244⟩ := r241
                          have ha := Fr.cons (d := 86) ha e244
                          refine opS_of ha (trivial) ?_
                          refine wf_storeW h131 h243 hx166 rfl (by decide) rfl rfl rfl Try.sizeOf3 rfl ?_
                          intro w245 h247 s246
                          replace h133 := h133.stp s246 (by decide) (by decide)
                          replace h116 := h116.stp s246 (by decide)
                          replace h115 := h115.stp s246 (by decide)
                          replace h78 := h78.stp s246 (by decide)
                          replace h77 := h77.stp s246 (by decide)
                          replace h16 := h16.stp s246 (by decide)
                          replace h21 := h21.stp s246 (by decide)
                          replace hB := hB.stp s246 (by decide)
                          exact ⟨_, s246, h247⟩
                        · rintro o248 w249 a250 ha ⟨hB, h116, h115, h78, h77, h16, h21⟩ ⟨h133, -⟩ ⟨r251, r252, -⟩
                          have ha := Fr.cons (d := 77) ha r251
                          have ha := Fr.cons (d := 81) ha r252
                          refine opS_of ha (trivial) ?_
                          refine wf_atP h133 hx168 rfl rfl Try.underlying129 Try.sizeOf4 ?_
                          intro b253 c254 h255 h256 h257
                          exact ⟨_, Stp.refl _ _ _, ⟨_, h255, rfl⟩⟩
                        · rintro o258 w259 a260 ha ⟨hB, h116, h115, h78, h77, h16, h21⟩ ⟨h133, -⟩ ⟨r261, -⟩
                          obtain ⟨b262, h263, e264⟩ := r261
                          have ha := Fr.cons (d := 87) ha e264
                          refine opS_of ha (trivial) ?_
                          refine wf_storeW h133 h263 hx176 rfl (by decide) rfl rfl rfl Try.sizeOf4 rfl ?_
                          intro w265 h267 s266
                          replace h116 := h116.stp s266 (by decide)
                          replace h115 := h115.stp s266 (by decide)
                          replace h78 := h78.stp s266 (by decide)
                          replace h77 := h77.stp s266 (by decide)
                          replace h16 := h16.stp s266 (by decide)
                          replace h21 := h21.stp s266 (by decide)
                          replace hB := hB.stp s266 (by decide)
                          exact ⟨_, s266, h267⟩
                      rintro o268 w269 a270 ha ⟨hB, h116, h115, h78, h77, h16, h21⟩ ⟨-, -, -, -, -, -, -, -, -, -, -, -, h271, -, h272, -⟩
                      refine wl_of ha ?_
                      refine wpF_end (r := [(2, (.pointer (some ⟨b15, 0, none⟩))), (3, (.pointer (some ⟨b20, 0, none⟩))), (5, v38), (6, v43), (7, (.int .i64 i52)), (12, v114), (33, (.int .i64 (p0.Ends.length : Int))), (34, (.int .i64 i52)), (68, v76), (69, (.int .i64 (x72.2.length : Int))), (70, (.int .i64 i136))]) ⟨rfl, rfl, rfl, rfl, rfl, rfl, rfl, rfl, rfl, rfl, rfl, trivial⟩ ?_
                      refine nb_norm ?_
                      refine nx ?_
                      refine wpC_region ?_
                      refine st_val (ex_add rfl rfl (ck_in (by omega) (by omega))) (by decide) trivial ?_
                      refine st_val (ex_move rfl) (by decide) trivial ?_
                      refine wpF_end (r := [(2, (.pointer (some ⟨b15, 0, none⟩))), (3, (.pointer (some ⟨b20, 0, none⟩))), (5, v38), (6, v43), (7, (.int .i64 i52)), (12, v114), (33, (.int .i64 (p0.Ends.length : Int))), (34, (.int .i64 i52)), (68, v76), (69, (.int .i64 (x72.2.length : Int))), (70, (.int .i64 (i136 + 1)))]) ⟨rfl, rfl, rfl, rfl, rfl, rfl, rfl, rfl, rfl, rfl, rfl, trivial⟩ ?_
                      refine nt_norm ?_
                      have e273 := Option.some.inj b143
                      subst e273
                      refine to_k (r := [(2, (.pointer (some ⟨b15, 0, none⟩))), (3, (.pointer (some ⟨b20, 0, none⟩))), (5, v38), (6, v43), (7, (.int .i64 i52)), (12, v114), (33, (.int .i64 (p0.Ends.length : Int))), (34, (.int .i64 i52)), (68, v76), (69, (.int .i64 (x72.2.length : Int))), (70, (.int .i64 (i136 + 1)))]) ⟨rfl, rfl, rfl, rfl, rfl, rfl, rfl, rfl, rfl, rfl, rfl, trivial⟩ ?_
                      intro a ha
                      exact ⟨_, (by rw [← m140]; simp only [List.length_drop]; omega), i136 + 1, x166, x176, o268, n144, rfl, (by omega), ha, hB, h271, h272, h116, h115, h78, h77, h16, h21⟩
                    · have r274 := forI_done t145 l138
                      refine wp_of ha ?_
                      refine wpC_seq ?_
                      refine wpC_region ?_
                      refine st_val (ex_lss rfl rfl) (by decide) trivial ?_
                      refine wpF_end (r := [(2, (.pointer (some ⟨b15, 0, none⟩))), (3, (.pointer (some ⟨b20, 0, none⟩))), (5, v38), (6, v43), (7, (.int .i64 i52)), (12, v114), (33, (.int .i64 (p0.Ends.length : Int))), (34, (.int .i64 i52)), (68, v76), (69, (.int .i64 (x72.2.length : Int))), (70, (.int .i64 i136)), (71, (.bool (decide (i136 < (x72.2.length : Int)))))]) ⟨rfl, rfl, rfl, rfl, rfl, rfl, rfl, rfl, rfl, rfl, rfl, rfl, trivial⟩ ?_
                      refine nx ?_
                      refine wpC_seq ?_
                      refine wpC_false (congrArg (fun b => some (Value.bool b)) (decide_eq_false t145)) ?_
                      refine wpC_exit ?_
                      refine nt_exit ?_
                      refine nt_exit ?_
                      refine nb_hit ?_
                      refine np_norm ?_
                      refine to_k (r := [(2, (.pointer (some ⟨b15, 0, none⟩))), (3, (.pointer (some ⟨b20, 0, none⟩))), (5, v38), (6, v43), (7, (.int .i64 i52)), (33, (.int .i64 (p0.Ends.length : Int))), (34, (.int .i64 i52))]) ⟨rfl, rfl, rfl, rfl, rfl, rfl, rfl, trivial⟩ ?_
                      intro a ha
                      exact ⟨y130, y132, o134, r274, ha, hB, h131, h133, h16, h21⟩
                  · rintro a w135 ⟨y130, y132, o134, rfl, ha, hB, h131, h133, h16, h21⟩
                    dsimp only at b99
                    refine ap_k ha ?_
                    refine nx ?_
                    refine wpC_exit ?_
                    refine nb_miss (by decide) ?_
                    refine nt_exit ?_
                    refine nt_exit ?_
                    refine nb_hit ?_
                    refine np_norm ?_
                    have e275 := Option.some.inj b99
                    subst e275
                    refine to_k (r := [(2, (.pointer (some ⟨b15, 0, none⟩))), (3, (.pointer (some ⟨b20, 0, none⟩))), (5, v38), (6, v43), (7, (.int .i64 i52)), (33, (.int .i64 (p0.Ends.length : Int))), (34, (.int .i64 i52))]) ⟨rfl, rfl, rfl, rfl, rfl, rfl, rfl, trivial⟩ ?_
                    intro a ha
                    exact ⟨y130, y132, o134, n100, ha, hB, h131, h133, h16, h21⟩
                  · exact fun _ _ h => h.elim
            · have r276 := forN_done t101 l94
              refine wp_of ha ?_
              refine wpC_seq ?_
              refine wpC_region ?_
              refine st_val (ex_lss rfl rfl) (by decide) trivial ?_
              refine wpF_end (r := [(2, (.pointer (some ⟨b15, 0, none⟩))), (3, (.pointer (some ⟨b20, 0, none⟩))), (5, v38), (6, v43), (7, (.int .i64 i52)), (8, v74), (9, v76), (33, (.int .i64 (p0.Ends.length : Int))), (34, (.int .i64 i52)), (50, (.int .i64 (p1.Ends.length : Int))), (51, (.int .i64 i90)), (52, (.bool (decide (i90 < (p1.Ends.length : Int)))))]) ⟨rfl, rfl, rfl, rfl, rfl, rfl, rfl, rfl, rfl, rfl, rfl, rfl, trivial⟩ ?_
              refine nx ?_
              refine wpC_seq ?_
              refine wpC_false (congrArg (fun b => some (Value.bool b)) (decide_eq_false t101)) ?_
              refine wpC_exit ?_
              refine nt_exit ?_
              refine nt_exit ?_
              refine nb_hit ?_
              refine np_norm ?_
              refine to_k (r := [(2, (.pointer (some ⟨b15, 0, none⟩))), (3, (.pointer (some ⟨b20, 0, none⟩))), (5, v38), (6, v43), (7, (.int .i64 i52)), (33, (.int .i64 (p0.Ends.length : Int))), (34, (.int .i64 i52))]) ⟨rfl, rfl, rfl, rfl, rfl, rfl, rfl, trivial⟩ ?_
              intro a ha
              exact ⟨y84, y86, o88, r276, ha, hB, h85, h87, h16, h21⟩
          · rintro a w89 ⟨y84, y86, o88, rfl, ha, hB, h85, h87, h16, h21⟩
            dsimp only at b61
            refine ap_k ha ?_
            refine nx ?_
            refine wpC_seq ?_
            refine wpC_region ?_
            refine st_val (ex_move rfl) (by decide) trivial ?_
            refine st_val (ex_move rfl) (by decide) trivial ?_
            obtain ⟨x277, hx277, b61⟩ := bind_some b61
            refine st_op (by decide) trivial ?_
            refine wf_atW h85 hx277 rfl rfl Try.underlying23 Try.sizeOf3 ?_
            intro b278 f279 c280 h281 h282
            cases h282
            refine st_val (ex_load1 rfl Try.isAgg3 (cell_of_cells h281)) (by decide) trivial ?_
            refine st_val (ex_lss rfl rfl) (by decide) trivial ?_
            refine wpF_end (r := [(2, (.pointer (some ⟨b15, 0, none⟩))), (3, (.pointer (some ⟨b20, 0, none⟩))), (5, v38), (6, v43), (33, (.int .i64 (p0.Ends.length : Int))), (34, (.int .i64 i52)), (94, (.bool (decide (x277 < 0))))]) ⟨rfl, rfl, rfl, rfl, rfl, rfl, rfl, trivial⟩ ?_
            refine nx ?_
            refine wpC_cond rfl (fun t283 => ?_) (fun t283 => ?_)
            · rw [if_pos t283] at b61
              refine wpC_seq ?_
              refine wpC_region ?_
              refine st_val (ex_assign rfl) (by decide) trivial ?_
              refine wpF_end (r := [(4, (.slice none 0 0))]) ⟨rfl, trivial⟩ ?_
              refine nx ?_
              refine wpC_ret ?_
              refine nb_ret ?_
              refine nt_ret ?_
              refine nt_ret ?_
              refine nb_ret ?_
              refine np_ret ?_
              have e284 := Option.some.inj b61
              subst e284
              refine fun a ha => ⟨_, n62, ?_⟩
              refine ret_post (P := Try.prog) (vs := [(.slice none 0 0)]) Try.results84 ⟨rfl, trivial⟩ ?_ a ha
              exact ⟨_, rt oo o88 w.heap.size 9 t, rfl, (Ow.nil _ _ _ _ _), rfl, hB.keeps, rt_old _ _ _ _ _⟩
            · rw [if_neg (by rw [t283]; decide)] at b61
              refine wpC_skip ?_
              refine nb_norm ?_
              refine nx ?_
              refine wpC_region ?_
              refine st_val (ex_add rfl rfl (ck_in (by omega) (by omega))) (by decide) trivial ?_
              refine st_val (ex_move rfl) (by decide) trivial ?_
              refine wpF_end (r := [(2, (.pointer (some ⟨b15, 0, none⟩))), (3, (.pointer (some ⟨b20, 0, none⟩))), (5, v38), (6, v43), (33, (.int .i64 (p0.Ends.length : Int))), (34, (.int .i64 (i52 + 1)))]) ⟨rfl, rfl, rfl, rfl, rfl, rfl, trivial⟩ ?_
              refine nt_norm ?_
              have e285 := Option.some.inj b61
              subst e285
              refine to_k (r := [(2, (.pointer (some ⟨b15, 0, none⟩))), (3, (.pointer (some ⟨b20, 0, none⟩))), (5, v38), (6, v43), (33, (.int .i64 (p0.Ends.length : Int))), (34, (.int .i64 (i52 + 1)))]) ⟨rfl, rfl, rfl, rfl, rfl, rfl, trivial⟩ ?_
              intro a ha
              exact ⟨_, (by rw [← m58]; omega), i52 + 1, y84, y86, o88, n62, rfl, (by omega), ha, hB, h85, h87, h16, h21⟩
          · exact fun _ _ h => h.elim
      · have r286 := forN_done t63 l56
        refine wp_of ha ?_
        refine wpC_seq ?_
        refine wpC_region ?_
        refine st_val (ex_lss rfl rfl) (by decide) trivial ?_
        refine wpF_end (r := [(2, (.pointer (some ⟨b15, 0, none⟩))), (3, (.pointer (some ⟨b20, 0, none⟩))), (5, v38), (6, v43), (33, (.int .i64 (p0.Ends.length : Int))), (34, (.int .i64 i52)), (35, (.bool (decide (i52 < (p0.Ends.length : Int)))))]) ⟨rfl, rfl, rfl, rfl, rfl, rfl, rfl, trivial⟩ ?_
        refine nx ?_
        refine wpC_seq ?_
        refine wpC_false (congrArg (fun b => some (Value.bool b)) (decide_eq_false t63)) ?_
        refine wpC_exit ?_
        refine nt_exit ?_
        refine nt_exit ?_
        refine nb_hit ?_
        refine np_norm ?_
        refine to_k (r := [(5, v38)]) ⟨rfl, trivial⟩ ?_
        intro a ha
        exact ⟨y46, y48, o50, r286, ha, hB, h47⟩
    · rintro a w51 ⟨y46, y48, o50, rfl, ha, hB, h47⟩
      dsimp only at hF
      refine ap_k ha ?_
      refine nx ?_
      refine wpC_seq ?_
      refine wpC_region ?_
      refine st_val (ex_move rfl) (by decide) trivial ?_
      refine st_val (ex_assign rfl) (by decide) trivial ?_
      refine wpF_end (r := [(4, v38)]) ⟨rfl, trivial⟩ ?_
      refine nx ?_
      refine wpC_ret ?_
      obtain ⟨x287, hx287, hF⟩ := bind_some hF
      have e288 := Option.some.inj hF
      subst e288
      refine ret_post (P := Try.prog) (vs := [v38]) Try.results84 ⟨rfl, trivial⟩ ?_
      exact ⟨_, rt oo o50 w.heap.size 13 t, rfl, h47.rt hB (by decide) t, (nx_of h47.z hx287), hB.keeps, rt_old _ _ _ _ _⟩
    · rintro a w51 ⟨r', rfl, b289⟩
      dsimp only at hF
      have e290 := Option.some.inj hF
      subst e290
      exact b289

def fI_IsomorphismOf (fuel : Nat) (p0 : T_Network) (p1 : T_Network) : Option ((List Int) × Bool) :=
  (fI_IsNetwork p0) >>= fun x23 =>
  (
    if !x23 then
      some true
    else
      (fI_IsNetwork p1) >>= fun x33 =>
      some (!x33)) >>= fun q29 =>
  if q29 then
    some ([], false)
  else
    (fI_isomorphism fuel p0 p1) >>= fun x44 =>
    some (x44, !x44.isEmpty)

def pI_IsomorphismOf (oo : Tg) (t : Nat) (w : World) (r : (List Int) × Bool) : Ending → World → Prop := fun e w' => ∃ (v0 : Value) (o' : Tg), e = .returned (.tuple #[v0, .bool r.2]) ∧ Ow w.heap.size 3 t o' w' v0 r.1 ∧ Keeps w w' ∧ ∀ b, b < w.heap.size → o' b = oo b
set_option maxRecDepth 100000 in
set_option maxHeartbeats 2000000 in
theorem cI_IsomorphismOf (fuel : Nat) (w : World) (oo : Tg) (t : Nat) (ht : 2 ≤ t) (u0 : List Value) (p0 : T_Network) (g0 : Rp.rd zt w u0 p0) (u1 : List Value) (p1 : T_Network) (g1 : Rp.rd zt w u1 p1) (r : (List Int) × Bool) (hF : fI_IsomorphismOf fuel p0 p1 = some r) :
    Calls Try.prog 48 #[.agg u0.toArray, .agg u1.toArray] w (pI_IsomorphismOf oo t w r) := by
  unfold fI_IsomorphismOf at hF
  obtain ⟨v1, v3, v5, rfl, h2, h4, h6⟩ := g0
  obtain ⟨v7, v9, v11, rfl, h8, h10, h12⟩ := g1
  have hB : Bs oo (col oo) w w := Bs.start _ _
  refine calls_start (n := 21) (vs := [(.agg #[v1, v3, v5]), (.agg #[v7, v9, v11])]) Try.func48 rfl rfl ?_
  generalize col oo = o at *
  refine wpC_seq ?_
  refine wpC_region ?_
  refine st_op (by decide) trivial ?_
  refine wf_box (o := o) w.heap.size 11 hB.keeps.size (cs := [v1, v3, v5]) rfl rfl ?_
  intro o13 w14 b15 h16 s17
  replace hB := hB.stp s17 (by decide)
  refine st_op (by decide) trivial ?_
  refine wf_box (o := o13) w.heap.size 12 hB.keeps.size (cs := [v7, v9, v11]) rfl rfl ?_
  intro o18 w19 b20 h21 s22
  replace h16 := h16.stp s22 (by decide)
  replace hB := hB.stp s22 (by decide)
  refine st_val (ex_assign rfl) (by decide) trivial ?_
  refine st_val (ex_assign rfl) (by decide) trivial ?_
  refine wpF_end (r := [(2, (.pointer (some ⟨b15, 0, none⟩))), (3, (.pointer (some ⟨b20, 0, none⟩)))]) ⟨rfl, rfl, trivial⟩ ?_
  refine nx ?_
  refine wpC_seq ?_
  refine wpC_seq ?_
  refine wpC_region ?_
  refine st_val (ex_loadA rfl Try.isAgg31 Try.sizeOf31 rfl h16.cells) (by decide) trivial ?_
  obtain ⟨x23, hx23, hF⟩ := bind_some hF
  refine st_op (by decide) trivial ?_
  refine wf_call (cI_IsNetwork w19 _ p0 (⟨_, _, _, rfl, (h2.keep hB.keeps), (h4.keep hB.keeps), (h6.keep hB.keeps)⟩) x23 hx23) Try.call65 ⟨rfl, trivial⟩ ?_
  rintro e28 w24 ⟨rfl, k25⟩
  have s27 := k25.stp 999 o18
  refine ⟨_, rfl, ?_⟩
  replace h16 := h16.stp s27 (by decide)
  replace h21 := h21.stp s27 (by decide)
  replace hB := hB.stp s27 (by decide)
  refine st_val (ex_not rfl) (by decide) trivial ?_
  refine st_val (ex_move rfl) (by decide) trivial ?_
  obtain ⟨q29, hq29, hF⟩ := bind_some hF
  refine wpF_cutAt 4 (fun a31 w30 => Fr a31 21 [(2, (.pointer (some ⟨b15, 0, none⟩))), (3, (.pointer (some ⟨b20, 0, none⟩))), (14, (.bool q29))] ∧ Keeps w24 w30) ?_ ?_
  all_goals simp only [List.take_succ_cons, List.take_zero, List.drop_succ_cons, List.drop_zero]
  · have kp : Keeps w24 w24 := Keeps.refl _
    rcases Bool.eq_false_or_eq_true (!x23) with t32 | t32
    · rw [if_pos t32] at hq29
      refine st_no rfl rfl (by rw [t32]; rfl) (by decide) ?_
      refine st_no rfl rfl (by rw [t32]; rfl) (by decide) ?_
      refine st_no rfl rfl (by rw [t32]; rfl) (by decide) ?_
      refine st_val (ex_pick_t (congrArg (fun b => some (Value.bool b)) t32) rfl) (by decide) trivial ?_
      have hq292 := Option.some.inj hq29
      refine wpF_end (r := [(2, (.pointer (some ⟨b15, 0, none⟩))), (3, (.pointer (some ⟨b20, 0, none⟩))), (14, (.bool true))]) ⟨rfl, rfl, rfl, trivial⟩ ?_
      subst hq292
      refine np_norm (fun a ha => ⟨ha, kp⟩)
    · rw [if_neg (by rw [t32]; decide)] at hq29
      refine st_val (ex_loadA rfl Try.isAgg31 Try.sizeOf31 rfl h21.cells) (by decide) ⟨_, rfl, (congrArg (fun b => some (Value.bool b)) t32)⟩ ?_
      obtain ⟨x33, hx33, hq29⟩ := bind_some hq29
      refine st_op (by decide) ⟨_, rfl, (congrArg (fun b => some (Value.bool b)) t32)⟩ ?_
      refine wf_call (cI_IsNetwork w24 _ p1 (⟨_, _, _, rfl, (h8.keep hB.keeps), (h10.keep hB.keeps), (h12.keep hB.keeps)⟩) x33 hx33) Try.call65 ⟨rfl, trivial⟩ ?_
      rintro e38 w34 ⟨rfl, k35⟩
      have s37 := k35.stp 999 o18
      refine ⟨_, rfl, ?_⟩
      replace h16 := h16.stp s37 (by decide)
      replace h21 := h21.stp s37 (by decide)
      replace hB := hB.stp s37 (by decide)
      replace kp := Keeps.trans kp k35
      refine st_val (ex_not rfl) (by decide) ⟨_, rfl, (congrArg (fun b => some (Value.bool b)) t32)⟩ ?_
      refine st_val (ex_pick_f (congrArg (fun b => some (Value.bool b)) t32) rfl) (by decide) trivial ?_
      have hq292 := Option.some.inj hq29
      refine wpF_end (r := [(2, (.pointer (some ⟨b15, 0, none⟩))), (3, (.pointer (some ⟨b20, 0, none⟩))), (14, (.bool (!x33)))]) ⟨rfl, rfl, rfl, trivial⟩ ?_
      subst hq292
      refine np_norm (fun a ha => ⟨ha, kp⟩)
  rintro a41 w30 ⟨ha, k39⟩
  have s40 := k39.stp 999 o18
  replace h16 := h16.stp s40 (by decide)
  replace h21 := h21.stp s40 (by decide)
  replace hB := hB.stp s40 (by decide)
  refine wl_of ha ?_
  refine wpF_end (r := [(2, (.pointer (some ⟨b15, 0, none⟩))), (3, (.pointer (some ⟨b20, 0, none⟩))), (14, (.bool q29))]) ⟨rfl, rfl, rfl, trivial⟩ ?_
  refine nx ?_
  refine wpC_cond rfl (fun t42 => ?_) (fun t42 => ?_)
  · rw [if_pos t42] at hF
    refine wpC_seq ?_
    refine wpC_region ?_
    refine st_val (ex_assign rfl) (by decide) trivial ?_
    refine st_val (ex_assign rfl) (by decide) trivial ?_
    refine wpF_end (r := [(4, (.slice none 0 0)), (5, (.bool false))]) ⟨rfl, rfl, trivial⟩ ?_
    refine nx ?_
    refine wpC_ret ?_
    refine nt_ret ?_
    have e43 := Option.some.inj hF
    subst e43
    refine ret_post (P := Try.prog) (vs := [(.slice none 0 0), (.bool false)]) Try.results48 ⟨rfl, rfl, trivial⟩ ?_
    exact ⟨_, rt oo o18 w.heap.size 9 t, rfl, (Ow.nil _ _ _ _ _), hB.keeps, rt_old _ _ _ _ _⟩
  · rw [if_neg (by rw [t42]; decide)] at hF
    refine wpC_skip ?_
    refine nx ?_
    refine wpC_seq ?_
    refine wpC_region ?_
    refine st_val (ex_loadA rfl Try.isAgg31 Try.sizeOf31 rfl h16.cells) (by decide) trivial ?_
    refine st_val (ex_loadA rfl Try.isAgg31 Try.sizeOf31 rfl h21.cells) (by decide) trivial ?_
    obtain ⟨x44, hx44, hF⟩ := bind_some hF
    refine st_op (by decide) trivial ?_
    refine wf_call (cI_isomorphism fuel w30 o18 15 (by decide) _ p0 (⟨_, _, _, rfl, (h2.keep hB.keeps), (h4.keep hB.keeps), (h6.keep hB.keeps)⟩) _ p1 (⟨_, _, _, rfl, (h8.keep hB.keeps), (h10.keep hB.keeps), (h12.keep hB.keeps)⟩) x44 hx44) Try.call84 ⟨rfl, rfl, trivial⟩ ?_
    rintro e52 w45 ⟨v46, o53, rfl, h47, n48, k49, k50⟩
    have s51 := k49.stp' 15 k50
    replace h47 := h47.mono hB.keeps.size
    refine ⟨_, rfl, ?_⟩
    replace h16 := h16.stp s51 (by decide)
    replace h21 := h21.stp s51 (by decide)
    replace hB := hB.stp s51 (by decide)
    refine st_val (ex_assign rfl) (by decide) trivial ?_
    refine wpF_end (r := [(6, v46)]) ⟨rfl, trivial⟩ ?_
    refine nx ?_
    refine wpC_seq ?_
    refine wpC_region ?_
    refine st_val (ex_move rfl) (by decide) trivial ?_
    refine st_val (ex_move rfl) (by decide) trivial ?_
    refine st_val (ex_neqnil n48 h47.z rfl rfl Try.underlying23) (by decide) trivial ?_
    refine st_val (ex_assign rfl) (by decide) trivial ?_
    refine st_val (ex_assign rfl) (by decide) trivial ?_
    refine wpF_end (r := [(4, v46), (5, (.bool (!x44.isEmpty)))]) ⟨rfl, rfl, trivial⟩ ?_
    refine nx ?_
    refine wpC_ret ?_
    have e54 := Option.some.inj hF
    subst e54
    refine ret_post (P := Try.prog) (vs := [v46, (.bool (!x44.isEmpty))]) Try.results48 ⟨rfl, rfl, trivial⟩ ?_
    exact ⟨_, rt oo o53 w.heap.size 15 t, rfl, h47.rt hB (by decide) t, hB.keeps, rt_old _ _ _ _ _⟩

def fI_SameNetworks (fuel : Nat) (p0 : T_Network) (p1 : T_Network) : Option (Bool × Bool) :=
  (fI_IsNetwork p0) >>= fun x23 =>
  (
    if !x23 then
      some true
    else
      (fI_IsNetwork p1) >>= fun x33 =>
      some (!x33)) >>= fun q29 =>
  if q29 then
    some (false, false)
  else
    (fI_isomorphism fuel p0 p1) >>= fun x44 =>
    some (!x44.isEmpty, true)

def fI_ImagesOf_s1 (fuel : Nat) (p0 : T_Network) (p1 : Int) (p2 : T_Network) : Int → (List Int) → Option (Lp (List Int) (List Int) ((List Int) × Bool)) := fun (i69 : Int) (s : List Int) =>
  (fI_sameCodes fuel p0 p1 p2 i69) >>= fun x81 =>
  if x81 then
    (push s i69) >>= fun x94 =>
    some (.go x94)
  else
    some (.go s)
def fI_ImagesOf (fuel : Nat) (p0 : T_Network) (p1 : Int) (p2 : T_Network) : Option ((List Int) × Bool) :=
  (fI_IsNetwork p0) >>= fun x23 =>
  (
    if !x23 then
      some true
    else
      (fI_IsNetwork p2) >>= fun x33 =>
      if !x33 then
        some true
      else
        (fI_Network_hasNode p0 p1) >>= fun x40 =>
        some (!x40)) >>= fun q29 =>
  if q29 then
    some ([], false)
  else
    (fI_isomorphism fuel p0 p2) >>= fun x51 =>
    if x51.isEmpty then
      some ([], true)
    else
      ck (p2.Ends.length : Int) >>= fun _ =>
      (forN (fI_ImagesOf_s1 fuel p0 p1 p2) ((p2.Ends.length : Int)).toNat 0 []) >>= fun q70 =>
      match q70 with
      | .inl y64 =>
        some (y64, true)
      | .inr _ => none

def pI_ImagesOf (oo : Tg) (t : Nat) (w : World) (r : (List Int) × Bool) : Ending → World → Prop := fun e w' => ∃ (v0 : Value) (o' : Tg), e = .returned (.tuple #[v0, .bool r.2]) ∧ Ow w.heap.size 3 t o' w' v0 r.1 ∧ Keeps w w' ∧ ∀ b, b < w.heap.size → o' b = oo b
set_option maxRecDepth 100000 in
set_option maxHeartbeats 2000000 in
theorem cI_ImagesOf (fuel : Nat) (w : World) (oo : Tg) (t : Nat) (ht : 2 ≤ t) (u0 : List Value) (p0 : T_Network) (g0 : Rp.rd zt w u0 p0) (p1 : Int) (u2 : List Value) (p2 : T_Network) (g2 : Rp.rd zt w u2 p2) (r : (List Int) × Bool) (hF : fI_ImagesOf fuel p0 p1 p2 = some r) :
    Calls Try.prog 50 #[.agg u0.toArray, .int .i64 p1, .agg u2.toArray] w (pI_ImagesOf oo t w r) := by
  unfold fI_ImagesOf at hF
  obtain ⟨v1, v3, v5, rfl, h2, h4, h6⟩ := g0
  obtain ⟨v7, v9, v11, rfl, h8, h10, h12⟩ := g2
  have hB : Bs oo (col oo) w w := Bs.start _ _
  refine calls_start (n := 46) (vs := [(.agg #[v1, v3, v5]), (.int .i64 p1), (.agg #[v7, v9, v11])]) Try.func50 rfl rfl ?_
  generalize col oo = o at *
  refine wpC_seq ?_
  refine wpC_region ?_
  refine st_op (by decide) trivial ?_
  refine wf_box (o := o) w.heap.size 11 hB.keeps.size (cs := [v1, v3, v5]) rfl rfl ?_
  intro o13 w14 b15 h16 s17
  replace hB := hB.stp s17 (by decide)
  refine st_op (by decide) trivial ?_
  refine wf_box (o := o13) w.heap.size 12 hB.keeps.size (cs := [v7, v9, v11]) rfl rfl ?_
  intro o18 w19 b20 h21 s22
  replace h16 := h16.stp s22 (by decide)
  replace hB := hB.stp s22 (by decide)
  refine st_val (ex_assign rfl) (by decide) trivial ?_
  refine st_val (ex_assign rfl) (by decide) trivial ?_
  refine wpF_end (r := [(1, (.int .i64 p1)), (3, (.pointer (some ⟨b15, 0, none⟩))), (5, (.pointer (some ⟨b20, 0, none⟩)))]) ⟨rfl, rfl, rfl, trivial⟩ ?_
  refine nx ?_
  refine wpC_seq ?_
  refine wpC_seq ?_
  refine wpC_region ?_
  refine st_val (ex_loadA rfl Try.isAgg31 Try.sizeOf31 rfl h16.cells) (by decide) trivial ?_
  obtain ⟨x23, hx23, hF⟩ := bind_some hF
  refine st_op (by decide) trivial ?_
  refine wf_call (cI_IsNetwork w19 _ p0 (⟨_, _, _, rfl, (h2.keep hB.keeps), (h4.keep hB.keeps), (h6.keep hB.keeps)⟩) x23 hx23) Try.call65 ⟨rfl, trivial⟩ ?_
  rintro e28 w24 ⟨rfl, k25⟩
  have s27 := k25.stp 999 o18
  refine ⟨_, rfl, ?_⟩
  replace h16 := h16.stp s27 (by decide)
  replace h21 := h21.stp s27 (by decide)
  replace hB := hB.stp s27 (by decide)
  refine st_val (ex_not rfl) (by decide) trivial ?_
  refine st_val (ex_move rfl) (by decide) trivial ?_
  obtain ⟨q29, hq29, hF⟩ := bind_some hF
  refine wpF_cutAt 10 (fun a31 w30 => Fr a31 46 [(1, (.int .i64 p1)), (3, (.pointer (some ⟨b15, 0, none⟩))), (5, (.pointer (some ⟨b20, 0, none⟩))), (23, (.bool q29))] ∧ Keeps w24 w30) ?_ ?_
  all_goals simp only [List.take_succ_cons, List.take_zero, List.drop_succ_cons, List.drop_zero]
  · have kp : Keeps w24 w24 := Keeps.refl _
    rcases Bool.eq_false_or_eq_true (!x23) with t32 | t32
    · rw [if_pos t32] at hq29
      refine st_no rfl rfl (by rw [t32]; rfl) (by decide) ?_
      refine st_no rfl rfl (by rw [t32]; rfl) (by decide) ?_
      refine st_no rfl rfl (by rw [t32]; rfl) (by decide) ?_
      refine st_val (ex_pick_t (congrArg (fun b => some (Value.bool b)) t32) rfl) (by decide) trivial ?_
      refine st_val (ex_move rfl) (by decide) trivial ?_
      refine st_no rfl rfl rfl (by decide) ?_
      refine st_no rfl rfl rfl (by decide) ?_
      refine st_no rfl rfl rfl (by decide) ?_
      refine st_no rfl rfl rfl (by decide) ?_
      refine st_val (ex_pick_t rfl rfl) (by decide) trivial ?_
      have hq292 := Option.some.inj hq29
      refine wpF_end (r := [(1, (.int .i64 p1)), (3, (.pointer (some ⟨b15, 0, none⟩))), (5, (.pointer (some ⟨b20, 0, none⟩))), (23, (.bool true))]) ⟨rfl, rfl, rfl, rfl, trivial⟩ ?_
      subst hq292
      refine np_norm (fun a ha => ⟨ha, kp⟩)
    · rw [if_neg (by rw [t32]; decide)] at hq29
      refine st_val (ex_loadA rfl Try.isAgg31 Try.sizeOf31 rfl h21.cells) (by decide) ⟨_, rfl, (congrArg (fun b => some (Value.bool b)) t32)⟩ ?_
      obtain ⟨x33, hx33, hq29⟩ := bind_some hq29
      refine st_op (by decide) ⟨_, rfl, (congrArg (fun b => some (Value.bool b)) t32)⟩ ?_
      refine wf_call (cI_IsNetwork w24 _ p2 (⟨_, _, _, rfl, (h8.keep hB.keeps), (h10.keep hB.keeps), (h12.keep hB.keeps)⟩) x33 hx33) Try.call65 ⟨rfl, trivial⟩ ?_
      rintro e38 w34 ⟨rfl, k35⟩
      have s37 := k35.stp 999 o18
      refine ⟨_, rfl, ?_⟩
      replace h16 := h16.stp s37 (by decide)
      replace h21 := h21.stp s37 (by decide)
      replace hB := hB.stp s37 (by decide)
      replace kp := Keeps.trans kp k35
      refine st_val (ex_not rfl) (by decide) ⟨_, rfl, (congrArg (fun b => some (Value.bool b)) t32)⟩ ?_
      refine st_val (ex_pick_f (congrArg (fun b => some (Value.bool b)) t32) rfl) (by decide) trivial ?_
      refine st_val (ex_move rfl) (by decide) trivial ?_
      rcases Bool.eq_false_or_eq_true (!x33) with t39 | t39
      · rw [if_pos t39] at hq29
        refine st_no rfl rfl (by rw [t39]; rfl) (by decide) ?_
        refine st_no rfl rfl (by rw [t39]; rfl) (by decide) ?_
        refine st_no rfl rfl (by rw [t39]; rfl) (by decide) ?_
        refine st_no rfl rfl (by rw [t39]; rfl) (by decide) ?_
        refine st_val (ex_pick_t (congrArg (fun b => some (Value.bool b)) t39) rfl) (by decide) trivial ?_
        have hq292 := Option.some.inj hq29
        refine wpF_end (r := [(1, (.int .i64 p1)), (3, (.pointer (some ⟨b15, 0, none⟩))), (5, (.pointer (some ⟨b20, 0, none⟩))), (23, (.bool true))]) ⟨rfl, rfl, rfl, rfl, trivial⟩ ?_
        subst hq292
        refine np_norm (fun a ha => ⟨ha, kp⟩)
      · rw [if_neg (by rw [t39]; decide)] at hq29
        refine st_val (ex_loadA rfl Try.isAgg31 Try.sizeOf31 rfl h16.cells) (by decide) ⟨_, rfl, (congrArg (fun b => some (Value.bool b)) t39)⟩ ?_
        refine st_val (ex_move rfl) (by decide) ⟨_, rfl, (congrArg (fun b => some (Value.bool b)) t39)⟩ ?_
        obtain ⟨x40, hx40, hq29⟩ := bind_some hq29
        refine st_op (by decide) ⟨_, rfl, (congrArg (fun b => some (Value.bool b)) t39)⟩ ?_
        refine wf_call (cI_Network_hasNode w34 _ p0 (⟨_, _, _, rfl, (h2.keep hB.keeps), (h4.keep hB.keeps), (h6.keep hB.keeps)⟩) p1 x40 hx40) Try.call66 ⟨rfl, rfl, trivial⟩ ?_
        rintro e45 w41 ⟨rfl, k42⟩
        have s44 := k42.stp 999 o18
        refine ⟨_, rfl, ?_⟩
        replace h16 := h16.stp s44 (by decide)
        replace h21 := h21.stp s44 (by decide)
        replace hB := hB.stp s44 (by decide)
        replace kp := Keeps.trans kp k42
        refine st_val (ex_not rfl) (by decide) ⟨_, rfl, (congrArg (fun b => some (Value.bool b)) t39)⟩ ?_
        refine st_val (ex_pick_f (congrArg (fun b => some (Value.bool b)) t39) rfl) (by decide) trivial ?_
        have hq292 := Option.some.inj hq29
        refine wpF_end (r := [(1, (.int .i64 p1)), (3, (.pointer (some ⟨b15, 0, none⟩))), (5, (.pointer (some ⟨b20, 0, none⟩))), (23, (.bool (!x40)))]) ⟨rfl, rfl, rfl, rfl, trivial⟩ ?_
        subst hq292
        refine np_norm (fun a ha => ⟨ha, kp⟩)
  rintro a48 w30 ⟨ha, k46⟩
  have s47 := k46.stp 999 o18
  replace h16 := h16.stp s47 (by decide)
  replace h21 := h21.stp s47 (by decide)
  replace hB := hB.stp s47 (by decide)
  refine wl_of ha ?_
  refine wpF_end (r := [(1, (.int .i64 p1)), (3, (.pointer (some ⟨b15, 0, none⟩))), (5, (.pointer (some ⟨b20, 0, none⟩))), (23, (.bool q29))]) ⟨rfl, rfl, rfl, rfl, trivial⟩ ?_
  refine nx ?_
  refine wpC_cond rfl (fun t49 => ?_) (fun t49 => ?_)
  · rw [if_pos t49] at hF
    refine wpC_seq ?_
    refine wpC_region ?_
    refine st_val (ex_assign rfl) (by decide) trivial ?_
    refine st_val (ex_assign rfl) (by decide) trivial ?_
    refine wpF_end (r := [(6, (.slice none 0 0)), (7, (.bool false))]) ⟨rfl, rfl, trivial⟩ ?_
    refine nx ?_
    refine wpC_ret ?_
    refine nt_ret ?_
    have e50 := Option.some.inj hF
    subst e50
    refine ret_post (P := Try.prog) (vs := [(.slice none 0 0), (.bool false)]) Try.results50 ⟨rfl, rfl, trivial⟩ ?_
    exact ⟨_, rt oo o18 w.heap.size 9 t, rfl, (Ow.nil _ _ _ _ _), hB.keeps, rt_old _ _ _ _ _⟩
  · rw [if_neg (by rw [t49]; decide)] at hF
    refine wpC_skip ?_
    refine nx ?_
    refine wpC_seq ?_
    refine wpC_region ?_
    refine st_val (ex_assign rfl) (by decide) trivial ?_
    refine wpF_end (r := [(1, (.int .i64 p1)), (3, (.pointer (some ⟨b15, 0, none⟩))), (5, (.pointer (some ⟨b20, 0, none⟩))), (8, (.slice none 0 0))]) ⟨rfl, rfl, rfl, rfl, trivial⟩ ?_
    refine nx ?_
    refine wpC_seq ?_
    refine wpC_seq ?_
    refine wpC_region ?_
    refine st_val (ex_loadA rfl Try.isAgg31 Try.sizeOf31 rfl h16.cells) (by decide) trivial ?_
    refine st_val (ex_loadA rfl Try.isAgg31 Try.sizeOf31 rfl h21.cells) (by decide) trivial ?_
    obtain ⟨x51, hx51, hF⟩ := bind_some hF
    refine st_op (by decide) trivial ?_
    refine wf_call (cI_isomorphism fuel w30 o18 16 (by decide) _ p0 (⟨_, _, _, rfl, (h2.keep hB.keeps), (h4.keep hB.keeps), (h6.keep hB.keeps)⟩) _ p2 (⟨_, _, _, rfl, (h8.keep hB.keeps), (h10.keep hB.keeps), (h12.keep hB.keeps)⟩) x51 hx51) Try.call84 ⟨rfl, rfl, trivial⟩ ?_
    rintro e59 w52 ⟨v53, o60, rfl, h54, n55, k56, k57⟩
    have s58 := k56.stp' 16 k57
    replace h54 := h54.mono hB.keeps.size
    refine ⟨_, rfl, ?_⟩
    replace h16 := h16.stp s58 (by decide)
    replace h21 := h21.stp s58 (by decide)
    replace hB := hB.stp s58 (by decide)
    refine st_val (ex_eqlnil h54.z rfl rfl Try.underlying23) (by decide) trivial ?_
    refine wpF_end (r := [(1, (.int .i64 p1)), (3, (.pointer (some ⟨b15, 0, none⟩))), (5, (.pointer (some ⟨b20, 0, none⟩))), (8, (.slice none 0 0)), (27, (.bool (isnil v53)))]) ⟨rfl, rfl, rfl, rfl, rfl, trivial⟩ ?_
    refine nx ?_
    refine wpC_cond rfl (fun t61 => ?_) (fun t61 => ?_)
    · replace t61 := n55.symm.trans t61
      rw [if_pos t61] at hF
      refine wpC_seq ?_
      refine wpC_region ?_
      refine st_val (ex_move rfl) (by decide) trivial ?_
      refine st_val (ex_assign rfl) (by decide) trivial ?_
      refine st_val (ex_assign rfl) (by decide) trivial ?_
      refine wpF_end (r := [(6, (.slice none 0 0)), (7, (.bool true))]) ⟨rfl, rfl, trivial⟩ ?_
      refine nx ?_
      refine wpC_ret ?_
      refine nt_ret ?_
      have e62 := Option.some.inj hF
      subst e62
      refine ret_post (P := Try.prog) (vs := [(.slice none 0 0), (.bool true)]) Try.results50 ⟨rfl, rfl, trivial⟩ ?_
      exact ⟨_, rt oo o60 w.heap.size 9 t, rfl, (Ow.nil _ _ _ _ _), hB.keeps, rt_old _ _ _ _ _⟩
    · replace t61 := n55.symm.trans t61
      rw [if_neg (by rw [t61]; decide)] at hF
      refine wpC_skip ?_
      refine nx ?_
      refine wpC_seq ?_
      refine wpC_seq ?_
      refine wpC_region ?_
      refine st_val (ex_field rfl Try.underlying31 rfl Try.sizeOf29) (by decide) trivial ?_
      refine st_val (ex_load1 rfl Try.isAgg29 (h21.cell rfl)) (by decide) trivial ?_
      refine st_val (ex_lenR rfl h8 Try.underlying29) (by decide) trivial ?_
      refine st_val (ex_move rfl) (by decide) trivial ?_
      refine wpF_end (r := [(1, (.int .i64 p1)), (3, (.pointer (some ⟨b15, 0, none⟩))), (5, (.pointer (some ⟨b20, 0, none⟩))), (8, (.slice none 0 0)), (31, (.int .i64 (p2.Ends.length : Int))), (32, (.int .i64 0))]) ⟨rfl, rfl, rfl, rfl, rfl, rfl, trivial⟩ ?_
      refine nx ?_
      have h63 : Ow w.heap.size 3 17 o60 w52 (.slice none 0 0) ([] : List Int) := Ow.nil _ _ _ _ _
      obtain ⟨u72, h71, hF⟩ := bind_some hF
      obtain ⟨-, h71a, h71b⟩ := ck_some h71
      obtain ⟨q70, hq70, hF⟩ := bind_some hF
      refine wpC_cutN (fun a w68 => ∃ (y64 : List Int) (v65 : Value) (o67 : Tg), q70 = .inl y64 ∧ Fr a 46 [(8, v65)] ∧ Bs oo o67 w w68 ∧ Ow w.heap.size 3 17 o67 w68 v65 y64) (fun _ _ => False) ?_ ?_ ?_
      · refine wpC_block ?_
        refine wpC_loop (fun (K : Nat) a w68 => ∃ (i69 : Int) (y64 : List Int) (v65 : Value) (o67 : Tg), forN (fI_ImagesOf_s1 fuel p0 p1 p2) ((p2.Ends.length : Int) - i69).toNat i69 y64 = some q70 ∧ ((p2.Ends.length : Int) - i69).toNat = K ∧ 0 ≤ i69 ∧ Fr a 46 [(1, (.int .i64 p1)), (3, (.pointer (some ⟨b15, 0, none⟩))), (5, (.pointer (some ⟨b20, 0, none⟩))), (8, v65), (31, (.int .i64 (p2.Ends.length : Int))), (32, (.int .i64 i69))] ∧ Bs oo o67 w w68 ∧ Ow w.heap.size 3 17 o67 w68 v65 y64 ∧ Bx w.heap.size 11 o67 w68 b15 31 [v1, v3, v5] ∧ Bx w.heap.size 12 o67 w68 b20 31 [v7, v9, v11]) _ (fun a ha => ⟨0, [], (.slice none 0 0), o60, (by rw [Int.sub_zero]; exact hq70), rfl, Int.le_refl 0, ha.sub (r := [(1, (.int .i64 p1)), (3, (.pointer (some ⟨b15, 0, none⟩))), (5, (.pointer (some ⟨b20, 0, none⟩))), (8, (.slice none 0 0)), (31, (.int .i64 (p2.Ends.length : Int))), (32, (.int .i64 0))]) ⟨rfl, rfl, rfl, rfl, rfl, rfl, trivial⟩, hB, h63, h16, h21⟩) ?_
        rintro K76 a w68 ⟨i69, y64, v65, o67, l73, m75, z74, ha, hB, h66, h16, h21⟩
        by_cases t80 : i69 < (p2.Ends.length : Int)
        · obtain ⟨q77, b78, n79⟩ := forN_cons t80 l73
          dsimp only [fI_ImagesOf_s1] at b78
          refine wp_of ha ?_
          refine wpC_seq ?_
          refine wpC_region ?_
          refine st_val (ex_lss rfl rfl) (by decide) trivial ?_
          refine wpF_end (r := [(1, (.int .i64 p1)), (3, (.pointer (some ⟨b15, 0, none⟩))), (5, (.pointer (some ⟨b20, 0, none⟩))), (8, v65), (31, (.int .i64 (p2.Ends.length : Int))), (32, (.int .i64 i69)), (33, (.bool (decide (i69 < (p2.Ends.length : Int)))))]) ⟨rfl, rfl, rfl, rfl, rfl, rfl, rfl, trivial⟩ ?_
          refine nx ?_
          refine wpC_seq ?_
          refine wpC_true (congrArg (fun b => some (Value.bool b)) (decide_eq_true t80)) ?_
          refine wpC_skip ?_
          refine nx ?_
          refine wpC_seq ?_
          refine wpC_block ?_
          refine wpC_seq ?_
          refine wpC_region ?_
          refine st_val (ex_move rfl) (by decide) trivial ?_
          refine st_val (ex_assign rfl) (by decide) trivial ?_
          refine wpF_end (r := [(1, (.int .i64 p1)), (3, (.pointer (some ⟨b15, 0, none⟩))), (5, (.pointer (some ⟨b20, 0, none⟩))), (8, v65), (9, (.int .i64 i69)), (31, (.int .i64 (p2.Ends.length : Int))), (32, (.int .i64 i69))]) ⟨rfl, rfl, rfl, rfl, rfl, rfl, rfl, trivial⟩ ?_
          refine nx ?_
          refine wpC_seq ?_
          refine wpC_region ?_
          refine st_val (ex_loadA rfl Try.isAgg31 Try.sizeOf31 rfl h16.cells) (by decide) trivial ?_
          refine st_val (ex_move rfl) (by decide) trivial ?_
          refine st_val (ex_loadA rfl Try.isAgg31 Try.sizeOf31 rfl h21.cells) (by decide) trivial ?_
          refine st_val (ex_move rfl) (by decide) trivial ?_
          obtain ⟨x81, hx81, b78⟩ := bind_some b78
          refine st_op (by decide) trivial ?_
          refine wf_call (cI_sameCodes fuel w68 _ p0 (⟨_, _, _, rfl, (h2.keep hB.keeps), (h4.keep hB.keeps), (h6.keep hB.keeps)⟩) p1 _ p2 (⟨_, _, _, rfl, (h8.keep hB.keeps), (h10.keep hB.keeps), (h12.keep hB.keeps)⟩) i69 x81 hx81) Try.call61 ⟨rfl, rfl, rfl, rfl, trivial⟩ ?_
          rintro e86 w82 ⟨rfl, k83⟩
          have s85 := k83.stp 999 o67
          refine ⟨_, rfl, ?_⟩
          replace h66 := h66.stp s85 (by decide) (by decide)
          replace h16 := h16.stp s85 (by decide)
          replace h21 := h21.stp s85 (by decide)
          replace hB := hB.stp s85 (by decide)
          refine wpF_end (r := [(1, (.int .i64 p1)), (3, (.pointer (some ⟨b15, 0, none⟩))), (5, (.pointer (some ⟨b20, 0, none⟩))), (8, v65), (9, (.int .i64 i69)), (31, (.int .i64 (p2.Ends.length : Int))), (32, (.int .i64 i69)), (39, (.bool x81))]) ⟨rfl, rfl, rfl, rfl, rfl, rfl, rfl, rfl, trivial⟩ ?_
          refine nx ?_
          refine wpC_cond rfl (fun t87 => ?_) (fun t87 => ?_)
          · rw [if_pos t87] at b78
            refine wpC_region ?_
            refine st_val (ex_move rfl) (by decide) trivial ?_
            refine st_val (ex_move rfl) (by decide) trivial ?_
            refine st_op (by decide) trivial ?_
            refine wf_litR (o := o67) (cs := [(.int .i64 i69)]) (xs := ([i69] : List Int)) (vs := [(0, (.int .i64 i69))]) ⟨_, _, rfl, rfl, rfl⟩ rfl ⟨rfl, rfl, trivial⟩ Try.underlying23 Try.sizeOf3 Try.zeroValue3 (by decide) (fill1 rfl) (by simp) ?_
            intro o88 w89 v90 h91 s92 k93
            replace h66 := h66.stp s92 (by decide) (by decide)
            replace h16 := h16.stp s92 (by decide)
            replace h21 := h21.stp s92 (by decide)
            replace hB := hB.stp s92 (by decide)
            obtain ⟨x94, hx94, b78⟩ := bind_some b78
            refine st_op (by decide) trivial ?_
            refine wf_cat h66 h91 (push_cat hx94) (by decide) hB.keeps.size rfl rfl Try.underlying23 info2_t_int_Ni rfl (by decide) ?_
            intro o95 w96 v97 h98 s99
            replace h91 := h91.stp s99 (by decide)
            replace h16 := h16.stp s99 (by decide)
            replace h21 := h21.stp s99 (by decide)
            replace hB := hB.stp s99 (by decide)
            refine st_val (ex_assign rfl) (by decide) trivial ?_
            refine wpF_end (r := [(1, (.int .i64 p1)), (3, (.pointer (some ⟨b15, 0, none⟩))), (5, (.pointer (some ⟨b20, 0, none⟩))), (8, v97), (31, (.int .i64 (p2.Ends.length : Int))), (32, (.int .i64 i69))]) ⟨rfl, rfl, rfl, rfl, rfl, rfl, trivial⟩ ?_
            refine nb_norm ?_
            refine nx ?_
            refine wpC_region ?_
            refine st_val (ex_add rfl rfl (ck_in (by omega) (by omega))) (by decide) trivial ?_
            refine st_val (ex_move rfl) (by decide) trivial ?_
            refine wpF_end (r := [(1, (.int .i64 p1)), (3, (.pointer (some ⟨b15, 0, none⟩))), (5, (.pointer (some ⟨b20, 0, none⟩))), (8, v97), (31, (.int .i64 (p2.Ends.length : Int))), (32, (.int .i64 (i69 + 1)))]) ⟨rfl, rfl, rfl, rfl, rfl, rfl, trivial⟩ ?_
            refine nt_norm ?_
            have e100 := Option.some.inj b78
            subst e100
            refine to_k (r := [(1, (.int .i64 p1)), (3, (.pointer (some ⟨b15, 0, none⟩))), (5, (.pointer (some ⟨b20, 0, none⟩))), (8, v97), (31, (.int .i64 (p2.Ends.length : Int))), (32, (.int .i64 (i69 + 1)))]) ⟨rfl, rfl, rfl, rfl, rfl, rfl, trivial⟩ ?_
            intro a ha
            exact ⟨_, (by rw [← m75]; omega), i69 + 1, x94, v97, o95, n79, rfl, (by omega), ha, hB, h98, h16, h21⟩
          · rw [if_neg (by rw [t87]; decide)] at b78
            refine wpC_skip ?_
            refine nb_norm ?_
            refine nx ?_
            refine wpC_region ?_
            refine st_val (ex_add rfl rfl (ck_in (by omega) (by omega))) (by decide) trivial ?_
            refine st_val (ex_move rfl) (by decide) trivial ?_
            refine wpF_end (r := [(1, (.int .i64 p1)), (3, (.pointer (some ⟨b15, 0, none⟩))), (5, (.pointer (some ⟨b20, 0, none⟩))), (8, v65), (31, (.int .i64 (p2.Ends.length : Int))), (32, (.int .i64 (i69 + 1)))]) ⟨rfl, rfl, rfl, rfl, rfl, rfl, trivial⟩ ?_
            refine nt_norm ?_
            have e101 := Option.some.inj b78
            subst e101
            refine to_k (r := [(1, (.int .i64 p1)), (3, (.pointer (some ⟨b15, 0, none⟩))), (5, (.pointer (some ⟨b20, 0, none⟩))), (8, v65), (31, (.int .i64 (p2.Ends.length : Int))), (32, (.int .i64 (i69 + 1)))]) ⟨rfl, rfl, rfl, rfl, rfl, rfl, trivial⟩ ?_
            intro a ha
            exact ⟨_, (by rw [← m75]; omega), i69 + 1, y64, v65, o67, n79, rfl, (by omega), ha, hB, h66, h16, h21⟩
        · have r102 := forN_done t80 l73
          refine wp_of ha ?_
          refine wpC_seq ?_
          refine wpC_region ?_
          refine st_val (ex_lss rfl rfl) (by decide) trivial ?_
          refine wpF_end (r := [(1, (.int .i64 p1)), (3, (.pointer (some ⟨b15, 0, none⟩))), (5, (.pointer (some ⟨b20, 0, none⟩))), (8, v65), (31, (.int .i64 (p2.Ends.length : Int))), (32, (.int .i64 i69)), (33, (.bool (decide (i69 < (p2.Ends.length : Int)))))]) ⟨rfl, rfl, rfl, rfl, rfl, rfl, rfl, trivial⟩ ?_
          refine nx ?_
          refine wpC_seq ?_
          refine wpC_false (congrArg (fun b => some (Value.bool b)) (decide_eq_false t80)) ?_
          refine wpC_exit ?_
          refine nt_exit ?_
          refine nt_exit ?_
          refine nb_hit ?_
          refine np_norm ?_
          refine to_k (r := [(8, v65)]) ⟨rfl, trivial⟩ ?_
          intro a ha
          exact ⟨y64, v65, o67, r102, ha, hB, h66⟩
      · rintro a w68 ⟨y64, v65, o67, rfl, ha, hB, h66⟩
        dsimp only at hF
        refine ap_k ha ?_
        refine nx ?_
        refine wpC_seq ?_
        refine wpC_region ?_
        refine st_val (ex_move rfl) (by decide) trivial ?_
        refine st_val (ex_assign rfl) (by decide) trivial ?_
        refine st_val (ex_assign rfl) (by decide) trivial ?_
        refine wpF_end (r := [(6, v65), (7, (.bool true))]) ⟨rfl, rfl, trivial⟩ ?_
        refine nx ?_
        refine wpC_ret ?_
        have e103 := Option.some.inj hF
        subst e103
        refine ret_post (P := Try.prog) (vs := [v65, (.bool true)]) Try.results50 ⟨rfl, rfl, trivial⟩ ?_
        exact ⟨_, rt oo o67 w.heap.size 17 t, rfl, h66.rt hB (by decide) t, hB.keeps, rt_old _ _ _ _ _⟩
      · exact fun _ _ h => h.elim

end Go.Proofs.Ytijaojnaamkinaa
