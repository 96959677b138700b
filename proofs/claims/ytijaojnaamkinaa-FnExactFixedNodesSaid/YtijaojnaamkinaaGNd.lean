/- spec.isOrbits, impl.orbitsOf$1, impl.orbitsOf, spec.OrbitsOf, impl.OrbitsOf, spec.FixedNodes, impl.FixedNodes: plain functions, and the walks that show that the program computes them (printed by gen.py). -/
import Derived.Test.YtijaojnaamkinaaGNc
import Derived.Test.YtijaojnaamkinaaGIx
namespace Go.Proofs.Ytijaojnaamkinaa
open Go.RowKit
set_option linter.unusedSimpArgs false
set_option linter.unusedVariables false

theorem info2_t_int_Nd : Inf Try.prog 3 (.int .i64 0) 1 8 := by unfold Inf; kernel_rfl

theorem info2_t_Lint_Nd : Inf Try.prog 23 (.slice none 0 0) 1 24 := by unfold Inf; kernel_rfl

def fS_isOrbits_s2 (i29 : Int) (x56 : List (List Int)) : (List Int) → Option (Lp (List Int) (List Int) (List Int)) := fun (s : List Int) =>
  (ix s i29) >>= fun x81 =>
  (ix x56 x81) >>= fun x84 =>
  (ix x56 i29) >>= fun x92 =>
  (fS_l1Same x84 x92) >>= fun x158 =>
  if !x158 then
    (ix s i29) >>= fun x165 =>
    (ck (x165 + 1)) >>= fun x171 =>
    (ix s i29) >>= fun x172 =>
    (st s i29 x171) >>= fun x181 =>
    some (.go x181)
  else
    some (.out s)
def fS_isOrbits_s1 (fuel : Nat) (p0 : T_Network) : Int → ((List (List Int)) × (List Int)) → Option (Lp ((List (List Int)) × (List Int)) ((List (List Int)) × (List Int)) (List Int)) := fun (i29 : Int) (s : (List (List Int)) × (List Int)) =>
  (fS_isFrom fuel p0 i29) >>= fun x41 =>
  (push s.1 x41) >>= fun x56 =>
  (loopF (fS_isOrbits_s2 i29 x56) fuel s.2) >>= fun q71 =>
  match q71 with
  | .inl y67 =>
    some (.go (x56, y67))
  | .inr _ => none
def fS_isOrbits (fuel : Nat) (p0 : T_Network) : Option (List Int) :=
  (mk (Rz.z : Int) (p0.Ends.length : Int)) >>= fun x12 =>
  ck (p0.Ends.length : Int) >>= fun _ =>
  (forN (fS_isOrbits_s1 fuel p0) ((p0.Ends.length : Int)).toNat 0 ([], x12)) >>= fun q30 =>
  match q30 with
  | .inl (y20, y25) =>
    some y25
  | .inr _ => none

def pS_isOrbits (oo : Tg) (t : Nat) (w : World) (r : List Int) : Ending → World → Prop := fun e w' => ∃ (v0 : Value) (o' : Tg), e = .returned (v0) ∧ Ow w.heap.size 3 t o' w' v0 r ∧ Keeps w w' ∧ ∀ b, b < w.heap.size → o' b = oo b
set_option maxRecDepth 100000 in
set_option maxHeartbeats 2000000 in
theorem cS_isOrbits (fuel : Nat) (w : World) (oo : Tg) (t : Nat) (ht : 2 ≤ t) (u0 : List Value) (p0 : T_Network) (g0 : Rp.rd zt w u0 p0) (r : List Int) (hF : fS_isOrbits fuel p0 = some r) :
    Calls Try.prog 77 #[.agg u0.toArray] w (pS_isOrbits oo t w r) := by
  unfold fS_isOrbits at hF
  obtain ⟨v1, v3, v5, rfl, h2, h4, h6⟩ := g0
  have hB : Bs oo (col oo) w w := Bs.start _ _
  refine calls_start (n := 43) (vs := [(.agg #[v1, v3, v5])]) Try.func77 rfl rfl ?_
  generalize col oo = o at *
  refine wpC_seq ?_
  refine wpC_region ?_
  refine st_op (by decide) trivial ?_
  refine wf_box (o := o) w.heap.size 11 hB.keeps.size (cs := [v1, v3, v5]) rfl rfl ?_
  intro o7 w8 b9 h10 s11
  replace hB := hB.stp s11 (by decide)
  refine st_val (ex_assign rfl) (by decide) trivial ?_
  refine wpF_end (r := [(1, (.pointer (some ⟨b9, 0, none⟩)))]) ⟨rfl, trivial⟩ ?_
  refine nx ?_
  refine wpC_seq ?_
  refine wpC_region ?_
  refine st_val (ex_assign rfl) (by decide) trivial ?_
  refine wpF_end (r := [(1, (.pointer (some ⟨b9, 0, none⟩))), (3, (.slice none 0 0))]) ⟨rfl, rfl, trivial⟩ ?_
  refine nx ?_
  refine wpC_seq ?_
  refine wpC_region ?_
  refine st_val (ex_field rfl Try.underlying31 rfl Try.sizeOf29) (by decide) trivial ?_
  refine st_val (ex_load1 rfl Try.isAgg29 (h10.cell rfl)) (by decide) trivial ?_
  refine st_val (ex_lenR rfl h2 Try.underlying29) (by decide) trivial ?_
  obtain ⟨x12, hx12, hF⟩ := bind_some hF
  refine st_op (by decide) trivial ?_
  refine wf_make (o := o7) w.heap.size 12 hB.keeps.size hx12 rfl rfl Try.underlying23 info2_t_int_Nd rfl (by decide) ?_
  intro o13 w14 v15 h16 s17
  replace h10 := h10.stp s17 (by decide)
  replace hB := hB.stp s17 (by decide)
  refine st_val (ex_assign rfl) (by decide) trivial ?_
  refine wpF_end (r := [(1, (.pointer (some ⟨b9, 0, none⟩))), (3, (.slice none 0 0)), (4, v15)]) ⟨rfl, rfl, rfl, trivial⟩ ?_
  refine nx ?_
  refine wpC_seq ?_
  refine wpC_seq ?_
  refine wpC_region ?_
  refine st_val (ex_field rfl Try.underlying31 rfl Try.sizeOf29) (by decide) trivial ?_
  refine st_val (ex_load1 rfl Try.isAgg29 (h10.cell rfl)) (by decide) trivial ?_
  refine st_val (ex_lenR rfl h2 Try.underlying29) (by decide) trivial ?_
  refine st_val (ex_move rfl) (by decide) trivial ?_
  refine wpF_end (r := [(1, (.pointer (some ⟨b9, 0, none⟩))), (3, (.slice none 0 0)), (4, v15), (12, (.int .i64 (p0.Ends.length : Int))), (13, (.int .i64 0))]) ⟨rfl, rfl, rfl, rfl, rfl, trivial⟩ ?_
  refine nx ?_
  have h18 : Ow w.heap.size 23 13 o13 w14 (.slice none 0 0) ([] : List Hv) := Ow.nil _ _ _ _ _
  have h19 : Rws w.heap.size 3 14 o13 w14 [] ([] : List (List Int)) := Rws.nil _ _ _ _ _
  obtain ⟨u32, h31, hF⟩ := bind_some hF
  obtain ⟨-, h31a, h31b⟩ := ck_some h31
  obtain ⟨q30, hq30, hF⟩ := bind_some hF
  refine wpC_cutN (fun a w28 => ∃ (y20 : List (List Int)) (y25 : List Int) (v21 : Value) (g24 : List Hv) (o27 : Tg), q30 = .inl (y20, y25) ∧ Fr a 43 [(4, v15)] ∧ Bs oo o27 w w28 ∧ Ow w.heap.size 3 12 o27 w28 v15 y25) (fun _ _ => False) ?_ ?_ ?_
  · refine wpC_block ?_
    refine wpC_loop (fun (K : Nat) a w28 => ∃ (i29 : Int) (y20 : List (List Int)) (y25 : List Int) (v21 : Value) (g24 : List Hv) (o27 : Tg), forN (fS_isOrbits_s1 fuel p0) ((p0.Ends.length : Int) - i29).toNat i29 (y20, y25) = some q30 ∧ ((p0.Ends.length : Int) - i29).toNat = K ∧ 0 ≤ i29 ∧ Fr a 43 [(1, (.pointer (some ⟨b9, 0, none⟩))), (3, v21), (4, v15), (12, (.int .i64 (p0.Ends.length : Int))), (13, (.int .i64 i29))] ∧ Bs oo o27 w w28 ∧ Ow w.heap.size 23 13 o27 w28 v21 g24 ∧ Rws w.heap.size 3 14 o27 w28 g24 y20 ∧ Ow w.heap.size 3 12 o27 w28 v15 y25 ∧ Bx w.heap.size 11 o27 w28 b9 31 [v1, v3, v5]) _ (fun a ha => ⟨0, [], x12, (.slice none 0 0), [], o13, (by rw [Int.sub_zero]; exact hq30), rfl, Int.le_refl 0, ha.sub (r := [(1, (.pointer (some ⟨b9, 0, none⟩))), (3, (.slice none 0 0)), (4, v15), (12, (.int .i64 (p0.Ends.length : Int))), (13, (.int .i64 0))]) ⟨rfl, rfl, rfl, rfl, rfl, trivial⟩, hB, h18, h19, h16, h10⟩) ?_
    rintro K36 a w28 ⟨i29, y20, y25, v21, g24, o27, l33, m35, z34, ha, hB, h22, h23, h26, h10⟩
    by_cases t40 : i29 < (p0.Ends.length : Int)
    · obtain ⟨q37, b38, n39⟩ := forN_cons t40 l33
      dsimp only [fS_isOrbits_s1] at b38
      refine wp_of ha ?_
      refine wpC_seq ?_
      refine wpC_region ?_
      refine st_val (ex_lss rfl rfl) (by decide) trivial ?_
      refine wpF_end (r := [(1, (.pointer (some ⟨b9, 0, none⟩))), (3, v21), (4, v15), (12, (.int .i64 (p0.Ends.length : Int))), (13, (.int .i64 i29)), (14, (.bool (decide (i29 < (p0.Ends.length : Int)))))]) ⟨rfl, rfl, rfl, rfl, rfl, rfl, trivial⟩ ?_
      refine nx ?_
      refine wpC_seq ?_
      refine wpC_true (congrArg (fun b => some (Value.bool b)) (decide_eq_true t40)) ?_
      refine wpC_skip ?_
      refine nx ?_
      refine wpC_seq ?_
      refine wpC_block ?_
      refine wpC_seq ?_
      refine wpC_region ?_
      refine st_val (ex_move rfl) (by decide) trivial ?_
      refine st_val (ex_assign rfl) (by decide) trivial ?_
      refine wpF_end (r := [(1, (.pointer (some ⟨b9, 0, none⟩))), (3, v21), (4, v15), (5, (.int .i64 i29)), (12, (.int .i64 (p0.Ends.length : Int))), (13, (.int .i64 i29))]) ⟨rfl, rfl, rfl, rfl, rfl, rfl, trivial⟩ ?_
      refine nx ?_
      refine wpC_seq ?_
      refine wpC_region ?_
      refine st_val (ex_move rfl) (by decide) trivial ?_
      refine st_val (ex_loadA rfl Try.isAgg31 Try.sizeOf31 rfl h10.cells) (by decide) trivial ?_
      refine st_val (ex_move rfl) (by decide) trivial ?_
      obtain ⟨x41, hx41, b38⟩ := bind_some b38
      refine st_op (by decide) trivial ?_
      refine wf_call (cS_isFrom fuel w28 o27 15 (by decide) _ p0 (⟨_, _, _, rfl, (h2.keep hB.keeps), (h4.keep hB.keeps), (h6.keep hB.keeps)⟩) i29 x41 hx41) Try.call57 ⟨rfl, rfl, trivial⟩ ?_
      rintro e48 w42 ⟨v43, o49, rfl, h44, k45, k46⟩
      have s47 := k45.stp' 15 k46
      replace h44 := h44.mono hB.keeps.size
      refine ⟨_, rfl, ?_⟩
      replace h22 := h22.stp s47 (by decide) (by decide)
      replace h23 := h23.stp s47 (by decide) (by decide)
      replace h26 := h26.stp s47 (by decide) (by decide)
      replace h10 := h10.stp s47 (by decide)
      replace hB := hB.stp s47 (by decide)
      refine st_op (by decide) trivial ?_
      refine wf_litR (o := o49) (cs := [v43]) (xs := ([⟨v43⟩] : List Hv)) (vs := [(0, v43)]) ⟨_, _, rfl, rd_hv h44, rfl⟩ rfl ⟨rfl, rfl, trivial⟩ Try.underlying41 Try.sizeOf23 Try.zeroValue23 (by decide) (fill1 h44.cells1) (by simp) ?_
      intro o50 w51 v52 h53 s54 k55
      replace h22 := h22.stp s54 (by decide) (by decide)
      replace h23 := h23.stp s54 (by decide) (by decide)
      replace h26 := h26.stp s54 (by decide) (by decide)
      replace h44 := h44.stp s54 (by decide) (by decide)
      replace h10 := h10.stp s54 (by decide)
      replace hB := hB.stp s54 (by decide)
      obtain ⟨x56, hx56, b38⟩ := bind_some b38
      obtain ⟨h57, h58⟩ := h23.pushV hx56 v43
      refine st_op (by decide) trivial ?_
      refine wf_cat h22 h53 (push_cat h57) (by decide) hB.keeps.size rfl rfl Try.underlying41 info2_t_Lint_Nd rfl (by decide) ?_
      intro o59 w60 v61 h62 s63
      replace h23 := h23.stp s63 (by decide) (by decide)
      replace h26 := h26.stp s63 (by decide) (by decide)
      replace h44 := h44.stp s63 (by decide) (by decide)
      replace h10 := h10.stp s63 (by decide)
      replace hB := hB.stp s63 (by decide)
      have h64 := h23.push h44 (by decide) (by decide)
      rw [← h58] at h64
      clear h23 h44
      have r65 := mrg_rc 15 14 o59
      replace h26 := h26.rc r65 (by decide) (by decide)
      replace h62 := h62.rc r65 (by decide) (by decide)
      replace h10 := h10.rc r65 (by decide)
      replace hB := hB.rc r65 (by decide)
      generalize mrg 15 14 o59 = o66 at *
      refine st_val (ex_assign rfl) (by decide) trivial ?_
      refine wpF_end (r := [(1, (.pointer (some ⟨b9, 0, none⟩))), (3, v61), (4, v15), (5, (.int .i64 i29)), (12, (.int .i64 (p0.Ends.length : Int))), (13, (.int .i64 i29))]) ⟨rfl, rfl, rfl, rfl, rfl, rfl, trivial⟩ ?_
      refine nx ?_
      obtain ⟨q71, hq71, b38⟩ := bind_some b38
      refine wpC_cutN (fun a w70 => ∃ (y67 : List Int) (o69 : Tg), q71 = .inl y67 ∧ Fr a 43 [(1, (.pointer (some ⟨b9, 0, none⟩))), (3, v61), (4, v15), (12, (.int .i64 (p0.Ends.length : Int))), (13, (.int .i64 i29))] ∧ Bs oo o69 w w70 ∧ Ow w.heap.size 23 13 o69 w70 v61 ((g24 ++ [⟨v43⟩]) : List Hv) ∧ Rws w.heap.size 3 14 o69 w70 ((g24 ++ [⟨v43⟩]) : List Hv) x56 ∧ Ow w.heap.size 3 12 o69 w70 v15 y67 ∧ Bx w.heap.size 11 o69 w70 b9 31 [v1, v3, v5]) (fun _ _ => False) ?_ ?_ ?_
      · refine wpC_block ?_
        refine wpC_loop (fun (K : Nat) a w70 => ∃ (y67 : List Int) (o69 : Tg), loopF (fS_isOrbits_s2 i29 x56) K y67 = some q71 ∧ Fr a 43 [(1, (.pointer (some ⟨b9, 0, none⟩))), (3, v61), (4, v15), (5, (.int .i64 i29)), (12, (.int .i64 (p0.Ends.length : Int))), (13, (.int .i64 i29))] ∧ Bs oo o69 w w70 ∧ Ow w.heap.size 23 13 o69 w70 v61 ((g24 ++ [⟨v43⟩]) : List Hv) ∧ Rws w.heap.size 3 14 o69 w70 ((g24 ++ [⟨v43⟩]) : List Hv) x56 ∧ Ow w.heap.size 3 12 o69 w70 v15 y67 ∧ Bx w.heap.size 11 o69 w70 b9 31 [v1, v3, v5]) fuel (fun a ha => ⟨y25, o66, hq71, ha.sub (r := [(1, (.pointer (some ⟨b9, 0, none⟩))), (3, v61), (4, v15), (5, (.int .i64 i29)), (12, (.int .i64 (p0.Ends.length : Int))), (13, (.int .i64 i29))]) ⟨rfl, rfl, rfl, rfl, rfl, rfl, trivial⟩, hB, h62, h64, h26, h10⟩) ?_
        rintro K75 a w70 ⟨y67, o69, l72, ha, hB, h62, h64, h68, h10⟩
        obtain ⟨K79, q76, e80, b77, n78⟩ := loopF_cons l72
        dsimp only [fS_isOrbits_s2] at b77
        refine wp_of ha ?_
        refine wpC_seq ?_
        refine wpC_seq ?_
        obtain ⟨x81, hx81, b77⟩ := bind_some b77
        obtain ⟨x84, hx84, b77⟩ := bind_some b77
        obtain ⟨v85, h86, h87, h88⟩ := h64.ix hx84
        obtain ⟨x92, hx92, b77⟩ := bind_some b77
        obtain ⟨v93, h94, h95, h96⟩ := h64.ix hx92
        refine wpC_drawn (o := o69) [(1, (.pointer (some ⟨b9, 0, none⟩))), (3, v61), (4, v15), (5, (.int .i64 i29)), (12, (.int .i64 (p0.Ends.length : Int))), (13, (.int .i64 i29))] [1, 3, 4, 5, 12, 13] [22, 23, 24, 25, 26, 27, 28, 29, 30, 31, 32] [[], [], [], [1, 2], [3], [0, 4], [5], [], [], [7, 8], [9]] [none, none, none, none, none, none, none, none, none, none, none] [999, 999, 999, 999, 999, 999, 999, 999, 999, 999, 999] [0, 0, 0, 12, 0, 0, 0, 0, 0, 0, 0] [999] [fun v _ _ => v = v61, fun v _ _ => v = v15, fun v _ _ => v = (.int .i64 i29), fun v o w9 => ∃ vl, v = adr vl (i29.toNat * Rp.sz Int) ∧ Ow w.heap.size 3 12 o w9 vl y67, fun v _ _ => v = (.int .i64 x81), fun v _ _ => v = adr v61 (x81.toNat * Rp.sz Hv), fun v _ _ => v = v85, fun v _ _ => v = v61, fun v _ _ => v = (.int .i64 i29), fun v _ _ => v = adr v61 (i29.toNat * Rp.sz Hv), fun v _ _ => v = v93] (fun o8 w8 => Bs oo o8 w w8 ∧ Ow w.heap.size 23 13 o8 w8 v61 ((g24 ++ [⟨v43⟩]) : List Hv) ∧ Rws w.heap.size 3 14 o8 w8 ((g24 ++ [⟨v43⟩]) : List Hv) x56 ∧ Ow w.heap.size 3 12 o8 w8 v15 y67 ∧ Bx w.heap.size 11 o8 w8 b9 31 [v1, v3, v5]) follows_mixed (by kernel_rfl) rfl ⟨rfl, rfl, rfl, rfl, rfl, rfl, trivial⟩ ⟨hB, h62, h64, h68, h10⟩ ?_ ⟨st_eq _, st_eq _, st_eq _, fun _ _ _ _ _ _ h0 hb ⟨vl, e, h⟩ hs => ⟨vl, e, h.stp hs h0.1 (Ne.symm hb)⟩, st_eq _, st_eq _, st_eq _, st_eq _, st_eq _, st_eq _, st_eq _, trivial⟩ ?_ ?_
        · rintro t9 o1 w1 o2 w2 ht9 ⟨hB, h62, h64, h68, h10⟩ hs9
          have ht9 : t9 = 999 := by simpa using ht9
          subst ht9
          all_goals exact ⟨hB.stp hs9 (by decide), h62.stp hs9 (by decide) (by decide), h64.stp hs9 (by decide) (by decide), h68.stp hs9 (by decide) (by decide), h10.stp hs9 (by decide)⟩
        · refine ⟨?_, ?_, ?_, ?_, ?_, ?_, ?_, ?_, ?_, ?_, ?_, trivial⟩
          · rintro o100 w101 a102 ha ⟨hB, h62, h64, h68, h10⟩ -
            refine opS_of ha (trivial) ?_
            refine op1_val (ex_move rfl) ?_
            exact ⟨_, Stp.refl _ _ _, rfl⟩
          · rintro o103 w104 a105 ha ⟨hB, h62, h64, h68, h10⟩ -
            refine opS_of ha (trivial) ?_
            refine op1_val (ex_move rfl) ?_
            exact ⟨_, Stp.refl _ _ _, rfl⟩
          · rintro o106 w107 a108 ha ⟨hB, h62, h64, h68, h10⟩ -
            refine opS_of ha (trivial) ?_
            refine op1_val (ex_move rfl) ?_
            exact ⟨_, Stp.refl _ _ _, rfl⟩
          · rintro o109 w110 a111 ha ⟨hB, h62, h64, h68, h10⟩ ⟨r112, r113, -⟩
            have ha := Fr.cons (d := 23) ha r112
            have ha := Fr.cons (d := 24) ha r113
            refine opS_of ha (trivial) ?_
            refine wd_indexW h68 hx81 rfl rfl Try.underlying23 Try.sizeOf3 ?_
            exact ⟨_, Stp.refl _ _ _, ⟨_, rfl, h68⟩⟩
          · rintro o114 w115 a116 ha ⟨hB, h62, h64, h68, h10⟩ ⟨r117, -⟩
            obtain ⟨v118, e119, h120⟩ := r117
            have ha := Fr.cons (d := 25) ha e119
            refine opS_of ha (trivial) ?_
            refine wd_load1W h120 hx81 rfl rfl Try.isAgg3 ?_
            intro c121 h122
            cases h122
            exact ⟨_, Stp.refl _ _ _, rfl⟩
          · rintro o123 w124 a125 ha ⟨hB, h62, h64, h68, h10⟩ ⟨r126, r127, -⟩
            have ha := Fr.cons (d := 22) ha r126
            have ha := Fr.cons (d := 26) ha r127
            refine opS_of ha (trivial) ?_
            refine wd_indexW h62 h86 rfl rfl Try.underlying41 Try.sizeOf23 ?_
            exact ⟨_, Stp.refl _ _ _, rfl⟩
          · rintro o128 w129 a130 ha ⟨hB, h62, h64, h68, h10⟩ ⟨r131, -⟩
            have ha := Fr.cons (d := 27) ha r131
            refine opS_of ha (trivial) ?_
            refine wd_load1W h62 h86 rfl rfl Try.isAgg23 ?_
            intro c132 h133
            obtain ⟨e134, -⟩ := h133
            cases e134
            exact ⟨_, Stp.refl _ _ _, rfl⟩
          · rintro o135 w136 a137 ha ⟨hB, h62, h64, h68, h10⟩ -
            refine opS_of ha (trivial) ?_
            refine op1_val (ex_move rfl) ?_
            exact ⟨_, Stp.refl _ _ _, rfl⟩
          · rintro o138 w139 a140 ha ⟨hB, h62, h64, h68, h10⟩ -
            refine opS_of ha (trivial) ?_
            refine op1_val (ex_move rfl) ?_
            exact ⟨_, Stp.refl _ _ _, rfl⟩
          · rintro o141 w142 a143 ha ⟨hB, h62, h64, h68, h10⟩ ⟨r144, r145, -⟩
            have ha := Fr.cons (d := 29) ha r144
            have ha := Fr.cons (d := 30) ha r145
            refine opS_of ha (trivial) ?_
            refine wd_indexW h62 h94 rfl rfl Try.underlying41 Try.sizeOf23 ?_
            exact ⟨_, Stp.refl _ _ _, rfl⟩
          · rintro o146 w147 a148 ha ⟨hB, h62, h64, h68, h10⟩ ⟨r149, -⟩
            have ha := Fr.cons (d := 31) ha r149
            refine opS_of ha (trivial) ?_
            refine wd_load1W h62 h94 rfl rfl Try.isAgg23 ?_
            intro c150 h151
            obtain ⟨e152, -⟩ := h151
            cases e152
            exact ⟨_, Stp.refl _ _ _, rfl⟩
        rintro o153 w154 a155 ha ⟨hB, h62, h64, h68, h10⟩ ⟨-, -, -, -, -, -, r156, -, -, -, r157, -⟩
        have ha := Fr.cons (d := 28) ha r156
        have ha := Fr.cons (d := 32) ha r157
        refine wl_of ha ?_
        simp only [List.length_cons, List.length_nil, Nat.zero_add, Nat.reduceAdd, List.drop_succ_cons, List.drop_zero]
        obtain ⟨x158, hx158, b77⟩ := bind_some b77
        refine st_op (by decide) trivial ?_
        refine wf_call (cS_l1Same w154 _ x84 (h64.at h87 h88).z _ x92 (h64.at h95 h96).z x158 hx158) Try.call56 ⟨rfl, rfl, trivial⟩ ?_
        rintro e163 w159 ⟨rfl, k160⟩
        have s162 := k160.stp 999 o153
        refine ⟨_, rfl, ?_⟩
        replace h62 := h62.stp s162 (by decide) (by decide)
        replace h64 := h64.stp s162 (by decide) (by decide)
        replace h68 := h68.stp s162 (by decide) (by decide)
        replace h10 := h10.stp s162 (by decide)
        replace hB := hB.stp s162 (by decide)
        refine st_val (ex_not rfl) (by decide) trivial ?_
        refine wpF_end (r := [(1, (.pointer (some ⟨b9, 0, none⟩))), (3, v61), (4, v15), (5, (.int .i64 i29)), (12, (.int .i64 (p0.Ends.length : Int))), (13, (.int .i64 i29)), (34, (.bool (!x158)))]) ⟨rfl, rfl, rfl, rfl, rfl, rfl, rfl, trivial⟩ ?_
        refine nx ?_
        refine wpC_cond rfl (fun t164 => ?_) (fun t164 => ?_)
        · rw [if_pos t164] at b77
          refine wpC_skip ?_
          refine nx ?_
          refine wpC_block ?_
          refine wpC_region ?_
          refine st_val (ex_move rfl) (by decide) trivial ?_
          refine st_val (ex_move rfl) (by decide) trivial ?_
          obtain ⟨x165, hx165, b77⟩ := bind_some b77
          refine st_op (by decide) trivial ?_
          refine wf_atW h68 hx165 rfl rfl Try.underlying23 Try.sizeOf3 ?_
          intro b166 f167 c168 h169 h170
          cases h170
          refine st_val (ex_load1 rfl Try.isAgg3 (cell_of_cells h169)) (by decide) trivial ?_
          obtain ⟨x171, hx171, b77⟩ := bind_some b77
          refine st_val (ex_add rfl rfl hx171) (by decide) trivial ?_
          obtain ⟨x172, hx172, b77⟩ := bind_some b77
          refine st_op (by decide) trivial ?_
          refine wf_atP h68 hx172 rfl rfl Try.underlying23 Try.sizeOf3 ?_
          intro b173 c175 h178 h176 h177
          cases h177
          obtain ⟨x181, hx181, b77⟩ := bind_some b77
          refine st_op0 trivial ?_
          refine wf_storeW h68 h178 hx181 rfl (by decide) rfl rfl rfl Try.sizeOf3 rfl ?_
          intro w179 h182 s180
          replace h62 := h62.stp s180 (by decide) (by decide)
          replace h64 := h64.stp s180 (by decide) (by decide)
          replace h10 := h10.stp s180 (by decide)
          replace hB := hB.stp s180 (by decide)
          refine wpF_end (r := [(1, (.pointer (some ⟨b9, 0, none⟩))), (3, v61), (4, v15), (5, (.int .i64 i29)), (12, (.int .i64 (p0.Ends.length : Int))), (13, (.int .i64 i29))]) ⟨rfl, rfl, rfl, rfl, rfl, rfl, trivial⟩ ?_
          refine nb_norm ?_
          refine nt_norm ?_
          have e183 := Option.some.inj b77
          subst e183
          refine to_k (r := [(1, (.pointer (some ⟨b9, 0, none⟩))), (3, v61), (4, v15), (5, (.int .i64 i29)), (12, (.int .i64 (p0.Ends.length : Int))), (13, (.int .i64 i29))]) ⟨rfl, rfl, rfl, rfl, rfl, rfl, trivial⟩ ?_
          intro a ha
          exact ⟨K79, by omega, x181, o153, n78, ha, hB, h62, h64, h182, h10⟩
        · rw [if_neg (by rw [t164]; decide)] at b77
          refine wpC_exit ?_
          refine nt_exit ?_
          refine nt_exit ?_
          refine nb_hit ?_
          refine np_norm ?_
          have e184 := Option.some.inj b77
          subst e184
          refine to_k (r := [(1, (.pointer (some ⟨b9, 0, none⟩))), (3, v61), (4, v15), (12, (.int .i64 (p0.Ends.length : Int))), (13, (.int .i64 i29))]) ⟨rfl, rfl, rfl, rfl, rfl, trivial⟩ ?_
          intro a ha
          exact ⟨y67, o153, n78, ha, hB, h62, h64, h68, h10⟩
      · rintro a w70 ⟨y67, o69, rfl, ha, hB, h62, h64, h68, h10⟩
        dsimp only at b38
        refine ap_k ha ?_
        refine nb_norm ?_
        refine nx ?_
        refine wpC_region ?_
        refine st_val (ex_add rfl rfl (ck_in (by omega) (by omega))) (by decide) trivial ?_
        refine st_val (ex_move rfl) (by decide) trivial ?_
        refine wpF_end (r := [(1, (.pointer (some ⟨b9, 0, none⟩))), (3, v61), (4, v15), (12, (.int .i64 (p0.Ends.length : Int))), (13, (.int .i64 (i29 + 1)))]) ⟨rfl, rfl, rfl, rfl, rfl, trivial⟩ ?_
        refine nt_norm ?_
        have e185 := Option.some.inj b38
        subst e185
        refine to_k (r := [(1, (.pointer (some ⟨b9, 0, none⟩))), (3, v61), (4, v15), (12, (.int .i64 (p0.Ends.length : Int))), (13, (.int .i64 (i29 + 1)))]) ⟨rfl, rfl, rfl, rfl, rfl, trivial⟩ ?_
        intro a ha
        exact ⟨_, (by rw [← m35]; omega), i29 + 1, x56, y67, v61, (g24 ++ [⟨v43⟩]), o69, n39, rfl, (by omega), ha, hB, h62, h64, h68, h10⟩
      · exact fun _ _ h => h.elim
    · have r186 := forN_done t40 l33
      refine wp_of ha ?_
      refine wpC_seq ?_
      refine wpC_region ?_
      refine st_val (ex_lss rfl rfl) (by decide) trivial ?_
      refine wpF_end (r := [(1, (.pointer (some ⟨b9, 0, none⟩))), (3, v21), (4, v15), (12, (.int .i64 (p0.Ends.length : Int))), (13, (.int .i64 i29)), (14, (.bool (decide (i29 < (p0.Ends.length : Int)))))]) ⟨rfl, rfl, rfl, rfl, rfl, rfl, trivial⟩ ?_
      refine nx ?_
      refine wpC_seq ?_
      refine wpC_false (congrArg (fun b => some (Value.bool b)) (decide_eq_false t40)) ?_
      refine wpC_exit ?_
      refine nt_exit ?_
      refine nt_exit ?_
      refine nb_hit ?_
      refine np_norm ?_
      refine to_k (r := [(4, v15)]) ⟨rfl, trivial⟩ ?_
      intro a ha
      exact ⟨y20, y25, v21, g24, o27, r186, ha, hB, h26⟩
  · rintro a w28 ⟨y20, y25, v21, g24, o27, rfl, ha, hB, h26⟩
    dsimp only at hF
    refine ap_k ha ?_
    refine nx ?_
    refine wpC_seq ?_
    refine wpC_region ?_
    refine st_val (ex_move rfl) (by decide) trivial ?_
    refine st_val (ex_assign rfl) (by decide) trivial ?_
    refine wpF_end (r := [(2, v15)]) ⟨rfl, trivial⟩ ?_
    refine nx ?_
    refine wpC_ret ?_
    have e187 := Option.some.inj hF
    subst e187
    refine ret_post (P := Try.prog) (vs := [v15]) Try.results77 ⟨rfl, trivial⟩ ?_
    exact ⟨_, rt oo o27 w.heap.size 12 t, rfl, h26.rt hB (by decide) t, hB.keeps, rt_old _ _ _ _ _⟩
  · exact fun _ _ h => h.elim

def fI_orbitsOf_1 (p0 : List Int) (p1 : List Int) : Option Bool :=
  (fX_slices_Equal_int_int p0 p1) >>= fun x3 =>
  some x3

def pI_orbitsOf_1 (w : World) (r : Bool) : Ending → World → Prop := fun e w' => e = .returned (.bool r) ∧ Keeps w w'
set_option maxRecDepth 100000 in
set_option maxHeartbeats 2000000 in
theorem cI_orbitsOf_1 (w : World) (u0 : Value) (p0 : List Int) (g0 : RdL zt w u0 p0) (b1 : Nat) (u1 : List Value) (p1 : List Int) (k1 : Cells w b1 0 u1) (g1 : Rp.rd zt w u1 p1) (r : Bool) (hF : fI_orbitsOf_1 p0 p1 = some r) :
    Calls Try.prog 112 #[u0, .pointer (some ⟨b1, 0, none⟩)] w (pI_orbitsOf_1 w r) := by
  unfold fI_orbitsOf_1 at hF
  have g1k := g1
  obtain ⟨v1, rfl, h2⟩ := g1
  have hB : Bs (fun _ => 1) (col (fun _ => 1)) w w := Bs.start _ _
  refine calls_start (n := 7) (vs := [u0, (.pointer (some ⟨b1, 0, none⟩))]) Try.func112 rfl rfl ?_
  refine wpC_seq ?_
  refine wpC_region ?_
  refine st_val (ex_assign rfl) (by decide) trivial ?_
  refine wpF_end (r := [(0, u0), (1, (.pointer (some ⟨b1, 0, none⟩)))]) ⟨rfl, rfl, trivial⟩ ?_
  refine nx ?_
  refine wpC_seq ?_
  refine wpC_region ?_
  refine st_val (ex_move rfl) (by decide) trivial ?_
  refine st_val (ex_load1 rfl Try.isAgg23 (cell_of_cells (k1.keep hB.keeps))) (by decide) trivial ?_
  obtain ⟨x3, hx3, hF⟩ := bind_some hF
  refine st_op (by decide) trivial ?_
  refine wf_call (cX_slices_Equal_int_int w _ p0 (g0.keep hB.keeps) _ p1 (h2.keep hB.keeps) x3 hx3) Try.call88 ⟨rfl, rfl, trivial⟩ ?_
  rintro e8 w4 ⟨rfl, k5⟩
  have s7 := k5.stp 999 (col (fun _ => 1))
  refine ⟨_, rfl, ?_⟩
  replace hB := hB.stp s7 (by decide)
  refine st_val (ex_assign rfl) (by decide) trivial ?_
  refine wpF_end (r := [(3, (.bool x3))]) ⟨rfl, trivial⟩ ?_
  refine nx ?_
  refine wpC_ret ?_
  have e9 := Option.some.inj hF
  subst e9
  refine ret_post (P := Try.prog) (vs := [(.bool x3)]) Try.results112 ⟨rfl, trivial⟩ ?_
  exact ⟨rfl, hB.keeps⟩

def fI_orbitsOf_s1 (fuel : Nat) (p0 : T_Network) : Int → ((List (List Int)) × (List Int)) → Option (Lp ((List (List Int)) × (List Int)) ((List (List Int)) × (List Int)) (List Int)) := fun (i29 : Int) (s : (List (List Int)) × (List Int)) =>
  (fI_codeFrom fuel p0 i29) >>= fun x41 =>
  (fX_slices_IndexFunc_LLint_int s.1 (fun z61 => fI_orbitsOf_1 z61 x41.1)) >>= fun x64 =>
  (ix s.2 i29) >>= fun x70 =>
  (st s.2 i29 x64) >>= fun x79 =>
  (ix x79 i29) >>= fun x81 =>
  if decide (x81 < 0) then
    (ix x79 i29) >>= fun x88 =>
    (st x79 i29 i29) >>= fun x97 =>
    (push s.1 x41.1) >>= fun x105 =>
    some (.go (x105, x97))
  else
    (push s.1 x41.1) >>= fun x123 =>
    some (.go (x123, x79))
def fI_orbitsOf (fuel : Nat) (p0 : T_Network) : Option (List Int) :=
  (mk (Rz.z : Int) (p0.Ends.length : Int)) >>= fun x12 =>
  ck (p0.Ends.length : Int) >>= fun _ =>
  (forN (fI_orbitsOf_s1 fuel p0) ((p0.Ends.length : Int)).toNat 0 ([], x12)) >>= fun q30 =>
  match q30 with
  | .inl (y20, y25) =>
    some y25
  | .inr _ => none

def pI_orbitsOf (oo : Tg) (t : Nat) (w : World) (r : List Int) : Ending → World → Prop := fun e w' => ∃ (v0 : Value) (o' : Tg), e = .returned (v0) ∧ Ow w.heap.size 3 t o' w' v0 r ∧ Keeps w w' ∧ ∀ b, b < w.heap.size → o' b = oo b
set_option maxRecDepth 100000 in
set_option maxHeartbeats 2000000 in
theorem cI_orbitsOf (fuel : Nat) (w : World) (oo : Tg) (t : Nat) (ht : 2 ≤ t) (u0 : List Value) (p0 : T_Network) (g0 : Rp.rd zt w u0 p0) (r : List Int) (hF : fI_orbitsOf fuel p0 = some r) :
    Calls Try.prog 78 #[.agg u0.toArray] w (pI_orbitsOf oo t w r) := by
  unfold fI_orbitsOf at hF
  obtain ⟨v1, v3, v5, rfl, h2, h4, h6⟩ := g0
  have hB : Bs oo (col oo) w w := Bs.start _ _
  refine calls_start (n := 45) (vs := [(.agg #[v1, v3, v5])]) Try.func78 rfl rfl ?_
  generalize col oo = o at *
  refine wpC_seq ?_
  refine wpC_region ?_
  refine st_op (by decide) trivial ?_
  refine wf_box (o := o) w.heap.size 11 hB.keeps.size (cs := [v1, v3, v5]) rfl rfl ?_
  intro o7 w8 b9 h10 s11
  replace hB := hB.stp s11 (by decide)
  refine st_val (ex_assign rfl) (by decide) trivial ?_
  refine wpF_end (r := [(1, (.pointer (some ⟨b9, 0, none⟩)))]) ⟨rfl, trivial⟩ ?_
  refine nx ?_
  refine wpC_seq ?_
  refine wpC_region ?_
  refine st_val (ex_assign rfl) (by decide) trivial ?_
  refine wpF_end (r := [(1, (.pointer (some ⟨b9, 0, none⟩))), (3, (.slice none 0 0))]) ⟨rfl, rfl, trivial⟩ ?_
  refine nx ?_
  refine wpC_seq ?_
  refine wpC_region ?_
  refine st_val (ex_field rfl Try.underlying31 rfl Try.sizeOf29) (by decide) trivial ?_
  refine st_val (ex_load1 rfl Try.isAgg29 (h10.cell rfl)) (by decide) trivial ?_
  refine st_val (ex_lenR rfl h2 Try.underlying29) (by decide) trivial ?_
  obtain ⟨x12, hx12, hF⟩ := bind_some hF
  refine st_op (by decide) trivial ?_
  refine wf_make (o := o7) w.heap.size 12 hB.keeps.size hx12 rfl rfl Try.underlying23 info2_t_int_Nd rfl (by decide) ?_
  intro o13 w14 v15 h16 s17
  replace h10 := h10.stp s17 (by decide)
  replace hB := hB.stp s17 (by decide)
  refine st_val (ex_assign rfl) (by decide) trivial ?_
  refine wpF_end (r := [(1, (.pointer (some ⟨b9, 0, none⟩))), (3, (.slice none 0 0)), (4, v15)]) ⟨rfl, rfl, rfl, trivial⟩ ?_
  refine nx ?_
  refine wpC_seq ?_
  refine wpC_seq ?_
  refine wpC_region ?_
  refine st_val (ex_field rfl Try.underlying31 rfl Try.sizeOf29) (by decide) trivial ?_
  refine st_val (ex_load1 rfl Try.isAgg29 (h10.cell rfl)) (by decide) trivial ?_
  refine st_val (ex_lenR rfl h2 Try.underlying29) (by decide) trivial ?_
  refine st_val (ex_move rfl) (by decide) trivial ?_
  refine wpF_end (r := [(1, (.pointer (some ⟨b9, 0, none⟩))), (3, (.slice none 0 0)), (4, v15), (14, (.int .i64 (p0.Ends.length : Int))), (15, (.int .i64 0))]) ⟨rfl, rfl, rfl, rfl, rfl, trivial⟩ ?_
  refine nx ?_
  have h18 : Ow w.heap.size 23 13 o13 w14 (.slice none 0 0) ([] : List Hv) := Ow.nil _ _ _ _ _
  have h19 : Rws w.heap.size 3 14 o13 w14 [] ([] : List (List Int)) := Rws.nil _ _ _ _ _
  obtain ⟨u32, h31, hF⟩ := bind_some hF
  obtain ⟨-, h31a, h31b⟩ := ck_some h31
  obtain ⟨q30, hq30, hF⟩ := bind_some hF
  refine wpC_cutN (fun a w28 => ∃ (y20 : List (List Int)) (y25 : List Int) (v21 : Value) (g24 : List Hv) (o27 : Tg), q30 = .inl (y20, y25) ∧ Fr a 45 [(4, v15)] ∧ Bs oo o27 w w28 ∧ Ow w.heap.size 3 12 o27 w28 v15 y25) (fun _ _ => False) ?_ ?_ ?_
  · refine wpC_block ?_
    refine wpC_loop (fun (K : Nat) a w28 => ∃ (i29 : Int) (y20 : List (List Int)) (y25 : List Int) (v21 : Value) (g24 : List Hv) (o27 : Tg), forN (fI_orbitsOf_s1 fuel p0) ((p0.Ends.length : Int) - i29).toNat i29 (y20, y25) = some q30 ∧ ((p0.Ends.length : Int) - i29).toNat = K ∧ 0 ≤ i29 ∧ Fr a 45 [(1, (.pointer (some ⟨b9, 0, none⟩))), (3, v21), (4, v15), (14, (.int .i64 (p0.Ends.length : Int))), (15, (.int .i64 i29))] ∧ Bs oo o27 w w28 ∧ Ow w.heap.size 23 13 o27 w28 v21 g24 ∧ Rws w.heap.size 3 14 o27 w28 g24 y20 ∧ Ow w.heap.size 3 12 o27 w28 v15 y25 ∧ Bx w.heap.size 11 o27 w28 b9 31 [v1, v3, v5]) _ (fun a ha => ⟨0, [], x12, (.slice none 0 0), [], o13, (by rw [Int.sub_zero]; exact hq30), rfl, Int.le_refl 0, ha.sub (r := [(1, (.pointer (some ⟨b9, 0, none⟩))), (3, (.slice none 0 0)), (4, v15), (14, (.int .i64 (p0.Ends.length : Int))), (15, (.int .i64 0))]) ⟨rfl, rfl, rfl, rfl, rfl, trivial⟩, hB, h18, h19, h16, h10⟩) ?_
    rintro K36 a w28 ⟨i29, y20, y25, v21, g24, o27, l33, m35, z34, ha, hB, h22, h23, h26, h10⟩
    by_cases t40 : i29 < (p0.Ends.length : Int)
    · obtain ⟨q37, b38, n39⟩ := forN_cons t40 l33
      dsimp only [fI_orbitsOf_s1] at b38
      refine wp_of ha ?_
      refine wpC_seq ?_
      refine wpC_region ?_
      refine st_val (ex_lss rfl rfl) (by decide) trivial ?_
      refine wpF_end (r := [(1, (.pointer (some ⟨b9, 0, none⟩))), (3, v21), (4, v15), (14, (.int .i64 (p0.Ends.length : Int))), (15, (.int .i64 i29)), (16, (.bool (decide (i29 < (p0.Ends.length : Int)))))]) ⟨rfl, rfl, rfl, rfl, rfl, rfl, trivial⟩ ?_
      refine nx ?_
      refine wpC_seq ?_
      refine wpC_true (congrArg (fun b => some (Value.bool b)) (decide_eq_true t40)) ?_
      refine wpC_skip ?_
      refine nx ?_
      refine wpC_seq ?_
      refine wpC_block ?_
      refine wpC_seq ?_
      refine wpC_region ?_
      refine st_val (ex_move rfl) (by decide) trivial ?_
      refine st_val (ex_assign rfl) (by decide) trivial ?_
      refine wpF_end (r := [(1, (.pointer (some ⟨b9, 0, none⟩))), (3, v21), (4, v15), (5, (.int .i64 i29)), (14, (.int .i64 (p0.Ends.length : Int))), (15, (.int .i64 i29))]) ⟨rfl, rfl, rfl, rfl, rfl, rfl, trivial⟩ ?_
      refine nx ?_
      refine wpC_seq ?_
      refine wpC_region ?_
      refine st_val (ex_loadA rfl Try.isAgg31 Try.sizeOf31 rfl h10.cells) (by decide) trivial ?_
      refine st_val (ex_move rfl) (by decide) trivial ?_
      obtain ⟨x41, hx41, b38⟩ := bind_some b38
      refine st_op (by decide) trivial ?_
      refine wf_call (cI_codeFrom fuel w28 o27 15 (by decide) _ p0 (⟨_, _, _, rfl, (h2.keep hB.keeps), (h4.keep hB.keeps), (h6.keep hB.keeps)⟩) i29 x41 hx41) Try.call67 ⟨rfl, rfl, trivial⟩ ?_
      rintro e51 w42 ⟨v43, v45, o52, rfl, h44, h46, k48, k49⟩
      have s50 := k48.stp' 15 k49
      replace h44 := h44.mono hB.keeps.size
      have h47 := h46.rd
      refine ⟨_, rfl, ?_⟩
      replace h22 := h22.stp s50 (by decide) (by decide)
      replace h23 := h23.stp s50 (by decide) (by decide)
      replace h26 := h26.stp s50 (by decide) (by decide)
      replace h10 := h10.stp s50 (by decide)
      replace hB := hB.stp s50 (by decide)
      refine st_val (ex_move rfl) (by decide) trivial ?_
      refine st_val (ex_extract rfl rfl) (by decide) trivial ?_
      refine st_val (ex_extract rfl rfl) (by decide) trivial ?_
      refine st_op (by decide) trivial ?_
      refine wf_alloc (o := o52) w.heap.size 16 hB.keeps.size (cs := [(.slice none 0 0)]) Try.zeroValue23 rfl ?_
      intro o53 w54 b55 h56 s57
      replace h22 := h22.stp s57 (by decide) (by decide)
      replace h23 := h23.stp s57 (by decide) (by decide)
      replace h26 := h26.stp s57 (by decide) (by decide)
      replace h44 := h44.stp s57 (by decide) (by decide)
      replace h47 := h47.stp s57 (by decide)
      replace h46 := h46.stp s57 (by decide)
      replace h10 := h10.stp s57 (by decide)
      replace hB := hB.stp s57 (by decide)
      refine st_op0 trivial ?_
      refine wf_storeB h56 rfl rfl (of_decide_eq_true rfl) Try.sizeOf23 h44.cells1 h44.one1 ?_
      intro w58 h60 s59
      replace h22 := h22.stp s59 (by decide) (by decide)
      replace h23 := h23.stp s59 (by decide) (by decide)
      replace h26 := h26.stp s59 (by decide) (by decide)
      replace h44 := h44.stp s59 (by decide) (by decide)
      replace h47 := h47.stp s59 (by decide)
      replace h46 := h46.stp s59 (by decide)
      replace h10 := h10.stp s59 (by decide)
      replace hB := hB.stp s59 (by decide)
      replace h60 : Bx w.heap.size 16 o53 w58 b55 23 [v43] := h60
      refine st_val (ex_assign rfl) (by decide) trivial ?_
      refine wpF_end (r := [(1, (.pointer (some ⟨b9, 0, none⟩))), (3, v21), (4, v15), (5, (.int .i64 i29)), (6, (.pointer (some ⟨b55, 0, none⟩))), (14, (.int .i64 (p0.Ends.length : Int))), (15, (.int .i64 i29))]) ⟨rfl, rfl, rfl, rfl, rfl, rfl, rfl, trivial⟩ ?_
      refine nx ?_
      refine wpC_seq ?_
      refine wpC_region ?_
      refine st_val (ex_move rfl) (by decide) trivial ?_
      refine st_val (ex_move rfl) (by decide) trivial ?_
      refine st_val (ex_move rfl) (by decide) trivial ?_
      refine st_val (ex_func (vs := [(.pointer (some ⟨b55, 0, none⟩))]) ⟨rfl, trivial⟩) (by decide) trivial ?_
      obtain ⟨x64, hx64, b38⟩ := bind_some b38
      refine st_op (by decide) trivial ?_
      refine wf_call (cX_slices_IndexFunc_LLint_int w58 _ y20 (h23.z h22) _ (fun z61 => fI_orbitsOf_1 z61 x41.1) (show FnV Try.prog w58 (.func (.func 112) #[] #[(.pointer (some ⟨b55, 0, none⟩))]) (fun z61 => fI_orbitsOf_1 z61 x41.1) from ⟨_, _, rfl, Try.call112, fun ww vs xx rr kk hok hG => by (obtain ⟨v62, rfl, h63⟩ := hok; exact cI_orbitsOf_1 ww _ xx h63 b55 _ x41.1 ((h60.cells).keep kk) (Rp.keep ((show Rp.rd zt w58 [v43] (x41.1 : List Int) from rd_list h44.z)) kk) rr hG)⟩) x64 hx64) Try.call111 ⟨rfl, rfl, trivial⟩ ?_
      rintro e69 w65 ⟨rfl, k66⟩
      have s68 := k66.stp 999 o53
      refine ⟨_, rfl, ?_⟩
      replace h22 := h22.stp s68 (by decide) (by decide)
      replace h23 := h23.stp s68 (by decide) (by decide)
      replace h26 := h26.stp s68 (by decide) (by decide)
      replace h10 := h10.stp s68 (by decide)
      replace h60 := h60.stp s68 (by decide)
      replace h44 := h44.stp s68 (by decide) (by decide)
      replace hB := hB.stp s68 (by decide)
      obtain ⟨x70, hx70, b38⟩ := bind_some b38
      refine st_op (by decide) trivial ?_
      refine wf_atP h26 hx70 rfl rfl Try.underlying23 Try.sizeOf3 ?_
      intro b71 c73 h76 h74 h75
      cases h75
      obtain ⟨x79, hx79, b38⟩ := bind_some b38
      refine st_op0 trivial ?_
      refine wf_storeW h26 h76 hx79 rfl (by decide) rfl rfl rfl Try.sizeOf3 rfl ?_
      intro w77 h80 s78
      replace h22 := h22.stp s78 (by decide) (by decide)
      replace h23 := h23.stp s78 (by decide) (by decide)
      replace h10 := h10.stp s78 (by decide)
      replace h60 := h60.stp s78 (by decide)
      replace h44 := h44.stp s78 (by decide) (by decide)
      replace hB := hB.stp s78 (by decide)
      refine wpF_end (r := [(1, (.pointer (some ⟨b9, 0, none⟩))), (3, v21), (4, v15), (5, (.int .i64 i29)), (6, (.pointer (some ⟨b55, 0, none⟩))), (14, (.int .i64 (p0.Ends.length : Int))), (15, (.int .i64 i29))]) ⟨rfl, rfl, rfl, rfl, rfl, rfl, rfl, trivial⟩ ?_
      refine nx ?_
      refine wpC_seq ?_
      refine wpC_seq ?_
      refine wpC_region ?_
      refine st_val (ex_move rfl) (by decide) trivial ?_
      refine st_val (ex_move rfl) (by decide) trivial ?_
      obtain ⟨x81, hx81, b38⟩ := bind_some b38
      refine st_op (by decide) trivial ?_
      refine wf_atW h80 hx81 rfl rfl Try.underlying23 Try.sizeOf3 ?_
      intro b82 f83 c84 h85 h86
      cases h86
      refine st_val (ex_load1 rfl Try.isAgg3 (cell_of_cells h85)) (by decide) trivial ?_
      refine st_val (ex_lss rfl rfl) (by decide) trivial ?_
      refine wpF_end (r := [(1, (.pointer (some ⟨b9, 0, none⟩))), (3, v21), (4, v15), (5, (.int .i64 i29)), (6, (.pointer (some ⟨b55, 0, none⟩))), (14, (.int .i64 (p0.Ends.length : Int))), (15, (.int .i64 i29)), (34, (.bool (decide (x81 < 0))))]) ⟨rfl, rfl, rfl, rfl, rfl, rfl, rfl, rfl, trivial⟩ ?_
      refine nx ?_
      refine wpC_cond rfl (fun t87 => ?_) (fun t87 => ?_)
      · rw [if_pos t87] at b38
        refine wpC_region ?_
        refine st_val (ex_move rfl) (by decide) trivial ?_
        refine st_val (ex_move rfl) (by decide) trivial ?_
        refine st_val (ex_move rfl) (by decide) trivial ?_
        obtain ⟨x88, hx88, b38⟩ := bind_some b38
        refine st_op (by decide) trivial ?_
        refine wf_atP h80 hx88 rfl rfl Try.underlying23 Try.sizeOf3 ?_
        intro b89 c91 h94 h92 h93
        cases h93
        obtain ⟨x97, hx97, b38⟩ := bind_some b38
        refine st_op0 trivial ?_
        refine wf_storeW h80 h94 hx97 rfl (by decide) rfl rfl rfl Try.sizeOf3 rfl ?_
        intro w95 h98 s96
        replace h22 := h22.stp s96 (by decide) (by decide)
        replace h23 := h23.stp s96 (by decide) (by decide)
        replace h10 := h10.stp s96 (by decide)
        replace h60 := h60.stp s96 (by decide)
        replace h44 := h44.stp s96 (by decide) (by decide)
        replace hB := hB.stp s96 (by decide)
        refine wpF_end (r := [(1, (.pointer (some ⟨b9, 0, none⟩))), (3, v21), (4, v15), (6, (.pointer (some ⟨b55, 0, none⟩))), (14, (.int .i64 (p0.Ends.length : Int))), (15, (.int .i64 i29))]) ⟨rfl, rfl, rfl, rfl, rfl, rfl, trivial⟩ ?_
        refine nx ?_
        refine wpC_region ?_
        refine st_val (ex_move rfl) (by decide) trivial ?_
        refine st_val (ex_load1 rfl Try.isAgg23 (h60.cell rfl)) (by decide) trivial ?_
        refine st_op (by decide) trivial ?_
        refine wf_litR (o := o53) (cs := [v43]) (xs := ([⟨v43⟩] : List Hv)) (vs := [(0, v43)]) ⟨_, _, rfl, rd_hv h44, rfl⟩ rfl ⟨rfl, rfl, trivial⟩ Try.underlying41 Try.sizeOf23 Try.zeroValue23 (by decide) (fill1 h44.cells1) (by simp) ?_
        intro o99 w100 v101 h102 s103 k104
        replace h22 := h22.stp s103 (by decide) (by decide)
        replace h23 := h23.stp s103 (by decide) (by decide)
        replace h98 := h98.stp s103 (by decide) (by decide)
        replace h44 := h44.stp s103 (by decide) (by decide)
        replace h10 := h10.stp s103 (by decide)
        replace h60 := h60.stp s103 (by decide)
        replace hB := hB.stp s103 (by decide)
        obtain ⟨x105, hx105, b38⟩ := bind_some b38
        obtain ⟨h106, h107⟩ := h23.pushV hx105 v43
        refine st_op (by decide) trivial ?_
        refine wf_cat h22 h102 (push_cat h106) (by decide) hB.keeps.size rfl rfl Try.underlying41 info2_t_Lint_Nd rfl (by decide) ?_
        intro o108 w109 v110 h111 s112
        replace h23 := h23.stp s112 (by decide) (by decide)
        replace h98 := h98.stp s112 (by decide) (by decide)
        replace h44 := h44.stp s112 (by decide) (by decide)
        replace h10 := h10.stp s112 (by decide)
        replace h60 := h60.stp s112 (by decide)
        replace hB := hB.stp s112 (by decide)
        have h113 := h23.push h44 (by decide) (by decide)
        rw [← h107] at h113
        clear h23 h44
        have r114 := mrg_rc 15 14 o108
        replace h98 := h98.rc r114 (by decide) (by decide)
        replace h111 := h111.rc r114 (by decide) (by decide)
        replace h10 := h10.rc r114 (by decide)
        replace h60 := h60.rc r114 (by decide)
        replace hB := hB.rc r114 (by decide)
        generalize mrg 15 14 o108 = o115 at *
        refine st_val (ex_assign rfl) (by decide) trivial ?_
        refine wpF_end (r := [(1, (.pointer (some ⟨b9, 0, none⟩))), (3, v110), (4, v15), (14, (.int .i64 (p0.Ends.length : Int))), (15, (.int .i64 i29))]) ⟨rfl, rfl, rfl, rfl, rfl, trivial⟩ ?_
        refine nb_norm ?_
        refine nx ?_
        refine wpC_region ?_
        refine st_val (ex_add rfl rfl (ck_in (by omega) (by omega))) (by decide) trivial ?_
        refine st_val (ex_move rfl) (by decide) trivial ?_
        refine wpF_end (r := [(1, (.pointer (some ⟨b9, 0, none⟩))), (3, v110), (4, v15), (14, (.int .i64 (p0.Ends.length : Int))), (15, (.int .i64 (i29 + 1)))]) ⟨rfl, rfl, rfl, rfl, rfl, trivial⟩ ?_
        refine nt_norm ?_
        have e116 := Option.some.inj b38
        subst e116
        refine to_k (r := [(1, (.pointer (some ⟨b9, 0, none⟩))), (3, v110), (4, v15), (14, (.int .i64 (p0.Ends.length : Int))), (15, (.int .i64 (i29 + 1)))]) ⟨rfl, rfl, rfl, rfl, rfl, trivial⟩ ?_
        intro a ha
        exact ⟨_, (by rw [← m35]; omega), i29 + 1, x105, x97, v110, (g24 ++ [⟨v43⟩]), o115, n39, rfl, (by omega), ha, hB, h111, h113, h98, h10⟩
      · rw [if_neg (by rw [t87]; decide)] at b38
        refine wpC_skip ?_
        refine nx ?_
        refine wpC_region ?_
        refine st_val (ex_move rfl) (by decide) trivial ?_
        refine st_val (ex_load1 rfl Try.isAgg23 (h60.cell rfl)) (by decide) trivial ?_
        refine st_op (by decide) trivial ?_
        refine wf_litR (o := o53) (cs := [v43]) (xs := ([⟨v43⟩] : List Hv)) (vs := [(0, v43)]) ⟨_, _, rfl, rd_hv h44, rfl⟩ rfl ⟨rfl, rfl, trivial⟩ Try.underlying41 Try.sizeOf23 Try.zeroValue23 (by decide) (fill1 h44.cells1) (by simp) ?_
        intro o117 w118 v119 h120 s121 k122
        replace h22 := h22.stp s121 (by decide) (by decide)
        replace h23 := h23.stp s121 (by decide) (by decide)
        replace h80 := h80.stp s121 (by decide) (by decide)
        replace h44 := h44.stp s121 (by decide) (by decide)
        replace h10 := h10.stp s121 (by decide)
        replace h60 := h60.stp s121 (by decide)
        replace hB := hB.stp s121 (by decide)
        obtain ⟨x123, hx123, b38⟩ := bind_some b38
        obtain ⟨h124, h125⟩ := h23.pushV hx123 v43
        refine st_op (by decide) trivial ?_
        refine wf_cat h22 h120 (push_cat h124) (by decide) hB.keeps.size rfl rfl Try.underlying41 info2_t_Lint_Nd rfl (by decide) ?_
        intro o126 w127 v128 h129 s130
        replace h23 := h23.stp s130 (by decide) (by decide)
        replace h80 := h80.stp s130 (by decide) (by decide)
        replace h44 := h44.stp s130 (by decide) (by decide)
        replace h10 := h10.stp s130 (by decide)
        replace h60 := h60.stp s130 (by decide)
        replace hB := hB.stp s130 (by decide)
        have h131 := h23.push h44 (by decide) (by decide)
        rw [← h125] at h131
        clear h23 h44
        have r132 := mrg_rc 15 14 o126
        replace h80 := h80.rc r132 (by decide) (by decide)
        replace h129 := h129.rc r132 (by decide) (by decide)
        replace h10 := h10.rc r132 (by decide)
        replace h60 := h60.rc r132 (by decide)
        replace hB := hB.rc r132 (by decide)
        generalize mrg 15 14 o126 = o133 at *
        refine st_val (ex_assign rfl) (by decide) trivial ?_
        refine wpF_end (r := [(1, (.pointer (some ⟨b9, 0, none⟩))), (3, v128), (4, v15), (14, (.int .i64 (p0.Ends.length : Int))), (15, (.int .i64 i29))]) ⟨rfl, rfl, rfl, rfl, rfl, trivial⟩ ?_
        refine nb_norm ?_
        refine nx ?_
        refine wpC_region ?_
        refine st_val (ex_add rfl rfl (ck_in (by omega) (by omega))) (by decide) trivial ?_
        refine st_val (ex_move rfl) (by decide) trivial ?_
        refine wpF_end (r := [(1, (.pointer (some ⟨b9, 0, none⟩))), (3, v128), (4, v15), (14, (.int .i64 (p0.Ends.length : Int))), (15, (.int .i64 (i29 + 1)))]) ⟨rfl, rfl, rfl, rfl, rfl, trivial⟩ ?_
        refine nt_norm ?_
        have e134 := Option.some.inj b38
        subst e134
        refine to_k (r := [(1, (.pointer (some ⟨b9, 0, none⟩))), (3, v128), (4, v15), (14, (.int .i64 (p0.Ends.length : Int))), (15, (.int .i64 (i29 + 1)))]) ⟨rfl, rfl, rfl, rfl, rfl, trivial⟩ ?_
        intro a ha
        exact ⟨_, (by rw [← m35]; omega), i29 + 1, x123, x79, v128, (g24 ++ [⟨v43⟩]), o133, n39, rfl, (by omega), ha, hB, h129, h131, h80, h10⟩
    · have r135 := forN_done t40 l33
      refine wp_of ha ?_
      refine wpC_seq ?_
      refine wpC_region ?_
      refine st_val (ex_lss rfl rfl) (by decide) trivial ?_
      refine wpF_end (r := [(1, (.pointer (some ⟨b9, 0, none⟩))), (3, v21), (4, v15), (14, (.int .i64 (p0.Ends.length : Int))), (15, (.int .i64 i29)), (16, (.bool (decide (i29 < (p0.Ends.length : Int)))))]) ⟨rfl, rfl, rfl, rfl, rfl, rfl, trivial⟩ ?_
      refine nx ?_
      refine wpC_seq ?_
      refine wpC_false (congrArg (fun b => some (Value.bool b)) (decide_eq_false t40)) ?_
      refine wpC_exit ?_
      refine nt_exit ?_
      refine nt_exit ?_
      refine nb_hit ?_
      refine np_norm ?_
      refine to_k (r := [(4, v15)]) ⟨rfl, trivial⟩ ?_
      intro a ha
      exact ⟨y20, y25, v21, g24, o27, r135, ha, hB, h26⟩
  · rintro a w28 ⟨y20, y25, v21, g24, o27, rfl, ha, hB, h26⟩
    dsimp only at hF
    refine ap_k ha ?_
    refine nx ?_
    refine wpC_seq ?_
    refine wpC_region ?_
    refine st_val (ex_move rfl) (by decide) trivial ?_
    refine st_val (ex_assign rfl) (by decide) trivial ?_
    refine wpF_end (r := [(2, v15)]) ⟨rfl, trivial⟩ ?_
    refine nx ?_
    refine wpC_ret ?_
    have e136 := Option.some.inj hF
    subst e136
    refine ret_post (P := Try.prog) (vs := [v15]) Try.results78 ⟨rfl, trivial⟩ ?_
    exact ⟨_, rt oo o27 w.heap.size 12 t, rfl, h26.rt hB (by decide) t, hB.keeps, rt_old _ _ _ _ _⟩
  · exact fun _ _ h => h.elim

def fS_OrbitsOf (fuel : Nat) (p0 : T_Network) : Option ((List Int) × Bool) :=
  (fS_neGood p0) >>= fun x12 =>
  if !x12 then
    some ([], false)
  else
    (fS_isOrbits fuel p0) >>= fun x20 =>
    some (x20, true)

def pS_OrbitsOf (oo : Tg) (t : Nat) (w : World) (r : (List Int) × Bool) : Ending → World → Prop := fun e w' => ∃ (v0 : Value) (o' : Tg), e = .returned (.tuple #[v0, .bool r.2]) ∧ Ow w.heap.size 3 t o' w' v0 r.1 ∧ Keeps w w' ∧ ∀ b, b < w.heap.size → o' b = oo b
set_option maxRecDepth 100000 in
set_option maxHeartbeats 2000000 in
theorem cS_OrbitsOf (fuel : Nat) (w : World) (oo : Tg) (t : Nat) (ht : 2 ≤ t) (u0 : List Value) (p0 : T_Network) (g0 : Rp.rd zt w u0 p0) (r : (List Int) × Bool) (hF : fS_OrbitsOf fuel p0 = some r) :
    Calls Try.prog 33 #[.agg u0.toArray] w (pS_OrbitsOf oo t w r) := by
  unfold fS_OrbitsOf at hF
  obtain ⟨v1, v3, v5, rfl, h2, h4, h6⟩ := g0
  have hB : Bs oo (col oo) w w := Bs.start _ _
  refine calls_start (n := 9) (vs := [(.agg #[v1, v3, v5])]) Try.func33 rfl rfl ?_
  generalize col oo = o at *
  refine wpC_seq ?_
  refine wpC_region ?_
  refine st_op (by decide) trivial ?_
  refine wf_box (o := o) w.heap.size 11 hB.keeps.size (cs := [v1, v3, v5]) rfl rfl ?_
  intro o7 w8 b9 h10 s11
  replace hB := hB.stp s11 (by decide)
  refine st_val (ex_assign rfl) (by decide) trivial ?_
  refine st_val (ex_assign rfl) (by decide) trivial ?_
  refine wpF_end (r := [(1, (.pointer (some ⟨b9, 0, none⟩)))]) ⟨rfl, trivial⟩ ?_
  refine nx ?_
  refine wpC_seq ?_
  refine wpC_seq ?_
  refine wpC_region ?_
  refine st_val (ex_loadA rfl Try.isAgg31 Try.sizeOf31 rfl h10.cells) (by decide) trivial ?_
  obtain ⟨x12, hx12, hF⟩ := bind_some hF
  refine st_op (by decide) trivial ?_
  refine wf_call (cS_neGood w8 _ p0 (⟨_, _, _, rfl, (h2.keep hB.keeps), (h4.keep hB.keeps), (h6.keep hB.keeps)⟩) x12 hx12) Try.call76 ⟨rfl, trivial⟩ ?_
  rintro e17 w13 ⟨rfl, k14⟩
  have s16 := k14.stp 999 o7
  refine ⟨_, rfl, ?_⟩
  replace h10 := h10.stp s16 (by decide)
  replace hB := hB.stp s16 (by decide)
  refine st_val (ex_not rfl) (by decide) trivial ?_
  refine wpF_end (r := [(1, (.pointer (some ⟨b9, 0, none⟩))), (6, (.bool (!x12)))]) ⟨rfl, rfl, trivial⟩ ?_
  refine nx ?_
  refine wpC_cond rfl (fun t18 => ?_) (fun t18 => ?_)
  · rw [if_pos t18] at hF
    refine wpC_seq ?_
    refine wpC_region ?_
    refine st_val (ex_assign rfl) (by decide) trivial ?_
    refine st_val (ex_assign rfl) (by decide) trivial ?_
    refine wpF_end (r := [(2, (.slice none 0 0)), (3, (.bool false))]) ⟨rfl, rfl, trivial⟩ ?_
    refine nx ?_
    refine wpC_ret ?_
    refine nt_ret ?_
    have e19 := Option.some.inj hF
    subst e19
    refine ret_post (P := Try.prog) (vs := [(.slice none 0 0), (.bool false)]) Try.results33 ⟨rfl, rfl, trivial⟩ ?_
    exact ⟨_, rt oo o7 w.heap.size 9 t, rfl, (Ow.nil _ _ _ _ _), hB.keeps, rt_old _ _ _ _ _⟩
  · rw [if_neg (by rw [t18]; decide)] at hF
    refine wpC_skip ?_
    refine nx ?_
    refine wpC_seq ?_
    refine wpC_region ?_
    refine st_val (ex_loadA rfl Try.isAgg31 Try.sizeOf31 rfl h10.cells) (by decide) trivial ?_
    obtain ⟨x20, hx20, hF⟩ := bind_some hF
    refine st_op (by decide) trivial ?_
    refine wf_call (cS_isOrbits fuel w13 o7 13 (by decide) _ p0 (⟨_, _, _, rfl, (h2.keep hB.keeps), (h4.keep hB.keeps), (h6.keep hB.keeps)⟩) x20 hx20) Try.call77 ⟨rfl, trivial⟩ ?_
    rintro e27 w21 ⟨v22, o28, rfl, h23, k24, k25⟩
    have s26 := k24.stp' 13 k25
    replace h23 := h23.mono hB.keeps.size
    refine ⟨_, rfl, ?_⟩
    replace h10 := h10.stp s26 (by decide)
    replace hB := hB.stp s26 (by decide)
    refine st_val (ex_assign rfl) (by decide) trivial ?_
    refine st_val (ex_assign rfl) (by decide) trivial ?_
    refine wpF_end (r := [(2, v22), (3, (.bool true))]) ⟨rfl, rfl, trivial⟩ ?_
    refine nx ?_
    refine wpC_ret ?_
    have e29 := Option.some.inj hF
    subst e29
    refine ret_post (P := Try.prog) (vs := [v22, (.bool true)]) Try.results33 ⟨rfl, rfl, trivial⟩ ?_
    exact ⟨_, rt oo o28 w.heap.size 13 t, rfl, h23.rt hB (by decide) t, hB.keeps, rt_old _ _ _ _ _⟩

def fI_OrbitsOf (fuel : Nat) (p0 : T_Network) : Option ((List Int) × Bool) :=
  (fI_IsNetwork p0) >>= fun x12 =>
  if !x12 then
    some ([], false)
  else
    (fI_orbitsOf fuel p0) >>= fun x20 =>
    some (x20, true)

def pI_OrbitsOf (oo : Tg) (t : Nat) (w : World) (r : (List Int) × Bool) : Ending → World → Prop := fun e w' => ∃ (v0 : Value) (o' : Tg), e = .returned (.tuple #[v0, .bool r.2]) ∧ Ow w.heap.size 3 t o' w' v0 r.1 ∧ Keeps w w' ∧ ∀ b, b < w.heap.size → o' b = oo b
set_option maxRecDepth 100000 in
set_option maxHeartbeats 2000000 in
theorem cI_OrbitsOf (fuel : Nat) (w : World) (oo : Tg) (t : Nat) (ht : 2 ≤ t) (u0 : List Value) (p0 : T_Network) (g0 : Rp.rd zt w u0 p0) (r : (List Int) × Bool) (hF : fI_OrbitsOf fuel p0 = some r) :
    Calls Try.prog 34 #[.agg u0.toArray] w (pI_OrbitsOf oo t w r) := by
  unfold fI_OrbitsOf at hF
  obtain ⟨v1, v3, v5, rfl, h2, h4, h6⟩ := g0
  have hB : Bs oo (col oo) w w := Bs.start _ _
  refine calls_start (n := 9) (vs := [(.agg #[v1, v3, v5])]) Try.func34 rfl rfl ?_
  generalize col oo = o at *
  refine wpC_seq ?_
  refine wpC_region ?_
  refine st_op (by decide) trivial ?_
  refine wf_box (o := o) w.heap.size 11 hB.keeps.size (cs := [v1, v3, v5]) rfl rfl ?_
  intro o7 w8 b9 h10 s11
  replace hB := hB.stp s11 (by decide)
  refine st_val (ex_assign rfl) (by decide) trivial ?_
  refine st_val (ex_assign rfl) (by decide) trivial ?_
  refine wpF_end (r := [(1, (.pointer (some ⟨b9, 0, none⟩)))]) ⟨rfl, trivial⟩ ?_
  refine nx ?_
  refine wpC_seq ?_
  refine wpC_seq ?_
  refine wpC_region ?_
  refine st_val (ex_loadA rfl Try.isAgg31 Try.sizeOf31 rfl h10.cells) (by decide) trivial ?_
  obtain ⟨x12, hx12, hF⟩ := bind_some hF
  refine st_op (by decide) trivial ?_
  refine wf_call (cI_IsNetwork w8 _ p0 (⟨_, _, _, rfl, (h2.keep hB.keeps), (h4.keep hB.keeps), (h6.keep hB.keeps)⟩) x12 hx12) Try.call65 ⟨rfl, trivial⟩ ?_
  rintro e17 w13 ⟨rfl, k14⟩
  have s16 := k14.stp 999 o7
  refine ⟨_, rfl, ?_⟩
  replace h10 := h10.stp s16 (by decide)
  replace hB := hB.stp s16 (by decide)
  refine st_val (ex_not rfl) (by decide) trivial ?_
  refine wpF_end (r := [(1, (.pointer (some ⟨b9, 0, none⟩))), (6, (.bool (!x12)))]) ⟨rfl, rfl, trivial⟩ ?_
  refine nx ?_
  refine wpC_cond rfl (fun t18 => ?_) (fun t18 => ?_)
  · rw [if_pos t18] at hF
    refine wpC_seq ?_
    refine wpC_region ?_
    refine st_val (ex_assign rfl) (by decide) trivial ?_
    refine st_val (ex_assign rfl) (by decide) trivial ?_
    refine wpF_end (r := [(2, (.slice none 0 0)), (3, (.bool false))]) ⟨rfl, rfl, trivial⟩ ?_
    refine nx ?_
    refine wpC_ret ?_
    refine nt_ret ?_
    have e19 := Option.some.inj hF
    subst e19
    refine ret_post (P := Try.prog) (vs := [(.slice none 0 0), (.bool false)]) Try.results34 ⟨rfl, rfl, trivial⟩ ?_
    exact ⟨_, rt oo o7 w.heap.size 9 t, rfl, (Ow.nil _ _ _ _ _), hB.keeps, rt_old _ _ _ _ _⟩
  · rw [if_neg (by rw [t18]; decide)] at hF
    refine wpC_skip ?_
    refine nx ?_
    refine wpC_seq ?_
    refine wpC_region ?_
    refine st_val (ex_loadA rfl Try.isAgg31 Try.sizeOf31 rfl h10.cells) (by decide) trivial ?_
    obtain ⟨x20, hx20, hF⟩ := bind_some hF
    refine st_op (by decide) trivial ?_
    refine wf_call (cI_orbitsOf fuel w13 o7 13 (by decide) _ p0 (⟨_, _, _, rfl, (h2.keep hB.keeps), (h4.keep hB.keeps), (h6.keep hB.keeps)⟩) x20 hx20) Try.call78 ⟨rfl, trivial⟩ ?_
    rintro e27 w21 ⟨v22, o28, rfl, h23, k24, k25⟩
    have s26 := k24.stp' 13 k25
    replace h23 := h23.mono hB.keeps.size
    refine ⟨_, rfl, ?_⟩
    replace h10 := h10.stp s26 (by decide)
    replace hB := hB.stp s26 (by decide)
    refine st_val (ex_assign rfl) (by decide) trivial ?_
    refine st_val (ex_assign rfl) (by decide) trivial ?_
    refine wpF_end (r := [(2, v22), (3, (.bool true))]) ⟨rfl, rfl, trivial⟩ ?_
    refine nx ?_
    refine wpC_ret ?_
    have e29 := Option.some.inj hF
    subst e29
    refine ret_post (P := Try.prog) (vs := [v22, (.bool true)]) Try.results34 ⟨rfl, rfl, trivial⟩ ?_
    exact ⟨_, rt oo o28 w.heap.size 13 t, rfl, h23.rt hB (by decide) t, hB.keeps, rt_old _ _ _ _ _⟩

def fS_FixedNodes_s2 (i35 : Int) (x45 : Int) : Int → Int → Bool → Option (Lp Bool Bool ((List Int) × Bool)) := fun (i54 : Int) (x64 : Int) (s : Bool) =>
  (
    if s then
      if i54 == i35 then
        some true
      else
        some (x64 != x45)
    else
      some false) >>= fun q70 =>
  some (.go q70)
def fS_FixedNodes_s1 (x20 : List Int) : Int → Int → (List Int) → Option (Lp (List Int) (List Int) ((List Int) × Bool)) := fun (i35 : Int) (x45 : Int) (s : List Int) =>
  (forI (fS_FixedNodes_s2 i35 x45) x20 0 (x45 == i35)) >>= fun q55 =>
  match q55 with
  | .inl y51 =>
    if y51 then
      (push s i35) >>= fun x87 =>
      some (.go x87)
    else
      some (.go s)
  | .inr _ => none
def fS_FixedNodes (fuel : Nat) (p0 : T_Network) : Option ((List Int) × Bool) :=
  (fS_neGood p0) >>= fun x12 =>
  if !x12 then
    some ([], false)
  else
    (fS_isOrbits fuel p0) >>= fun x20 =>
    (forI (fS_FixedNodes_s1 x20) x20 0 []) >>= fun q36 =>
    match q36 with
    | .inl y30 =>
      some (y30, true)
    | .inr _ => none

def pS_FixedNodes (oo : Tg) (t : Nat) (w : World) (r : (List Int) × Bool) : Ending → World → Prop := fun e w' => ∃ (v0 : Value) (o' : Tg), e = .returned (.tuple #[v0, .bool r.2]) ∧ Ow w.heap.size 3 t o' w' v0 r.1 ∧ Keeps w w' ∧ ∀ b, b < w.heap.size → o' b = oo b
set_option maxRecDepth 100000 in
set_option maxHeartbeats 2000000 in
theorem cS_FixedNodes (fuel : Nat) (w : World) (oo : Tg) (t : Nat) (ht : 2 ≤ t) (u0 : List Value) (p0 : T_Network) (g0 : Rp.rd zt w u0 p0) (r : (List Int) × Bool) (hF : fS_FixedNodes fuel p0 = some r) :
    Calls Try.prog 35 #[.agg u0.toArray] w (pS_FixedNodes oo t w r) := by
  unfold fS_FixedNodes at hF
  obtain ⟨v1, v3, v5, rfl, h2, h4, h6⟩ := g0
  have hB : Bs oo (col oo) w w := Bs.start _ _
  refine calls_start (n := 52) (vs := [(.agg #[v1, v3, v5])]) Try.func35 rfl rfl ?_
  generalize col oo = o at *
  refine wpC_seq ?_
  refine wpC_region ?_
  refine st_op (by decide) trivial ?_
  refine wf_box (o := o) w.heap.size 11 hB.keeps.size (cs := [v1, v3, v5]) rfl rfl ?_
  intro o7 w8 b9 h10 s11
  replace hB := hB.stp s11 (by decide)
  refine st_val (ex_assign rfl) (by decide) trivial ?_
  refine st_val (ex_assign rfl) (by decide) trivial ?_
  refine wpF_end (r := [(1, (.pointer (some ⟨b9, 0, none⟩)))]) ⟨rfl, trivial⟩ ?_
  refine nx ?_
  refine wpC_seq ?_
  refine wpC_seq ?_
  refine wpC_region ?_
  refine st_val (ex_loadA rfl Try.isAgg31 Try.sizeOf31 rfl h10.cells) (by decide) trivial ?_
  obtain ⟨x12, hx12, hF⟩ := bind_some hF
  refine st_op (by decide) trivial ?_
  refine wf_call (cS_neGood w8 _ p0 (⟨_, _, _, rfl, (h2.keep hB.keeps), (h4.keep hB.keeps), (h6.keep hB.keeps)⟩) x12 hx12) Try.call76 ⟨rfl, trivial⟩ ?_
  rintro e17 w13 ⟨rfl, k14⟩
  have s16 := k14.stp 999 o7
  refine ⟨_, rfl, ?_⟩
  replace h10 := h10.stp s16 (by decide)
  replace hB := hB.stp s16 (by decide)
  refine st_val (ex_not rfl) (by decide) trivial ?_
  refine wpF_end (r := [(1, (.pointer (some ⟨b9, 0, none⟩))), (13, (.bool (!x12)))]) ⟨rfl, rfl, trivial⟩ ?_
  refine nx ?_
  refine wpC_cond rfl (fun t18 => ?_) (fun t18 => ?_)
  · rw [if_pos t18] at hF
    refine wpC_seq ?_
    refine wpC_region ?_
    refine st_val (ex_assign rfl) (by decide) trivial ?_
    refine st_val (ex_assign rfl) (by decide) trivial ?_
    refine wpF_end (r := [(2, (.slice none 0 0)), (3, (.bool false))]) ⟨rfl, rfl, trivial⟩ ?_
    refine nx ?_
    refine wpC_ret ?_
    refine nt_ret ?_
    have e19 := Option.some.inj hF
    subst e19
    refine ret_post (P := Try.prog) (vs := [(.slice none 0 0), (.bool false)]) Try.results35 ⟨rfl, rfl, trivial⟩ ?_
    exact ⟨_, rt oo o7 w.heap.size 9 t, rfl, (Ow.nil _ _ _ _ _), hB.keeps, rt_old _ _ _ _ _⟩
  · rw [if_neg (by rw [t18]; decide)] at hF
    refine wpC_skip ?_
    refine nx ?_
    refine wpC_seq ?_
    refine wpC_region ?_
    refine st_val (ex_loadA rfl Try.isAgg31 Try.sizeOf31 rfl h10.cells) (by decide) trivial ?_
    obtain ⟨x20, hx20, hF⟩ := bind_some hF
    refine st_op (by decide) trivial ?_
    refine wf_call (cS_isOrbits fuel w13 o7 13 (by decide) _ p0 (⟨_, _, _, rfl, (h2.keep hB.keeps), (h4.keep hB.keeps), (h6.keep hB.keeps)⟩) x20 hx20) Try.call77 ⟨rfl, trivial⟩ ?_
    rintro e27 w21 ⟨v22, o28, rfl, h23, k24, k25⟩
    have s26 := k24.stp' 13 k25
    replace h23 := h23.mono hB.keeps.size
    refine ⟨_, rfl, ?_⟩
    replace h10 := h10.stp s26 (by decide)
    replace hB := hB.stp s26 (by decide)
    refine st_val (ex_assign rfl) (by decide) trivial ?_
    refine wpF_end (r := [(4, v22)]) ⟨rfl, trivial⟩ ?_
    refine nx ?_
    refine wpC_seq ?_
    refine wpC_region ?_
    refine st_val (ex_assign rfl) (by decide) trivial ?_
    refine wpF_end (r := [(4, v22), (5, (.slice none 0 0))]) ⟨rfl, rfl, trivial⟩ ?_
    refine nx ?_
    refine wpC_seq ?_
    refine wpC_seq ?_
    refine wpC_region ?_
    refine st_val (ex_move rfl) (by decide) trivial ?_
    refine st_val (ex_lenO rfl h23 Try.underlying23) (by decide) trivial ?_
    refine st_val (ex_move rfl) (by decide) trivial ?_
    refine wpF_end (r := [(4, v22), (5, (.slice none 0 0)), (16, v22), (17, (.int .i64 (x20.length : Int))), (18, (.int .i64 0))]) ⟨rfl, rfl, rfl, rfl, rfl, trivial⟩ ?_
    refine nx ?_
    have h29 : Ow w.heap.size 3 14 o28 w21 (.slice none 0 0) ([] : List Int) := Ow.nil _ _ _ _ _
    obtain ⟨q36, hq36, hF⟩ := bind_some hF
    refine wpC_cutN (fun a w34 => ∃ (y30 : List Int) (v31 : Value) (o33 : Tg), q36 = .inl y30 ∧ Fr a 52 [(5, v31)] ∧ Bs oo o33 w w34 ∧ Ow w.heap.size 3 14 o33 w34 v31 y30) (fun _ _ => False) ?_ ?_ ?_
    · refine wpC_block ?_
      refine wpC_loop (fun (K : Nat) a w34 => ∃ (i35 : Int) (y30 : List Int) (v31 : Value) (o33 : Tg), forI (fS_FixedNodes_s1 x20) (x20.drop i35.toNat) i35 y30 = some q36 ∧ (x20.drop i35.toNat).length = K ∧ 0 ≤ i35 ∧ Fr a 52 [(4, v22), (5, v31), (16, v22), (17, (.int .i64 (x20.length : Int))), (18, (.int .i64 i35))] ∧ Bs oo o33 w w34 ∧ Ow w.heap.size 3 13 o33 w34 v22 x20 ∧ Ow w.heap.size 3 14 o33 w34 v31 y30) _ (fun a ha => ⟨0, [], (.slice none 0 0), o28, hq36, rfl, Int.le_refl 0, ha.sub (r := [(4, v22), (5, (.slice none 0 0)), (16, v22), (17, (.int .i64 (x20.length : Int))), (18, (.int .i64 0))]) ⟨rfl, rfl, rfl, rfl, rfl, trivial⟩, hB, h23, h29⟩) ?_
      rintro K40 a w34 ⟨i35, y30, v31, o33, l37, m39, z38, ha, hB, h23, h32⟩
      by_cases t44 : i35 < (x20.length : Int)
      · obtain ⟨x45, q41, hx45, b42, n43⟩ := forI_cons z38 t44 l37
        have hle := h23.len_le
        dsimp only [fS_FixedNodes_s1] at b42
        refine wp_of ha ?_
        refine wpC_seq ?_
        refine wpC_region ?_
        refine st_val (ex_lss rfl rfl) (by decide) trivial ?_
        refine wpF_end (r := [(4, v22), (5, v31), (16, v22), (17, (.int .i64 (x20.length : Int))), (18, (.int .i64 i35)), (19, (.bool (decide (i35 < (x20.length : Int)))))]) ⟨rfl, rfl, rfl, rfl, rfl, rfl, trivial⟩ ?_
        refine nx ?_
        refine wpC_seq ?_
        refine wpC_true (congrArg (fun b => some (Value.bool b)) (decide_eq_true t44)) ?_
        refine wpC_skip ?_
        refine nx ?_
        refine wpC_seq ?_
        refine wpC_block ?_
        refine wpC_seq ?_
        refine wpC_region ?_
        refine st_val (ex_move rfl) (by decide) trivial ?_
        refine st_op (by decide) trivial ?_
        refine wf_atW h23 hx45 rfl rfl Try.underlying23 Try.sizeOf3 ?_
        intro b46 f47 c48 h49 h50
        cases h50
        refine st_val (ex_load1 rfl Try.isAgg3 (cell_of_cells h49)) (by decide) trivial ?_
        refine st_val (ex_assign rfl) (by decide) trivial ?_
        refine st_val (ex_assign rfl) (by decide) trivial ?_
        refine wpF_end (r := [(4, v22), (5, v31), (6, (.int .i64 i35)), (7, (.int .i64 x45)), (16, v22), (17, (.int .i64 (x20.length : Int))), (18, (.int .i64 i35))]) ⟨rfl, rfl, rfl, rfl, rfl, rfl, rfl, trivial⟩ ?_
        refine nx ?_
        refine wpC_seq ?_
        refine wpC_region ?_
        refine st_val (ex_move rfl) (by decide) trivial ?_
        refine st_val (ex_move rfl) (by decide) trivial ?_
        refine st_val (ex_eql rfl rfl) (by decide) trivial ?_
        refine st_val (ex_assign rfl) (by decide) trivial ?_
        refine wpF_end (r := [(4, v22), (5, v31), (6, (.int .i64 i35)), (7, (.int .i64 x45)), (8, (.bool (x45 == i35))), (16, v22), (17, (.int .i64 (x20.length : Int))), (18, (.int .i64 i35))]) ⟨rfl, rfl, rfl, rfl, rfl, rfl, rfl, rfl, trivial⟩ ?_
        refine nx ?_
        refine wpC_seq ?_
        refine wpC_seq ?_
        refine wpC_region ?_
        refine st_val (ex_move rfl) (by decide) trivial ?_
        refine st_val (ex_lenO rfl h23 Try.underlying23) (by decide) trivial ?_
        refine st_val (ex_move rfl) (by decide) trivial ?_
        refine wpF_end (r := [(4, v22), (5, v31), (6, (.int .i64 i35)), (7, (.int .i64 x45)), (8, (.bool (x45 == i35))), (16, v22), (17, (.int .i64 (x20.length : Int))), (18, (.int .i64 i35)), (26, v22), (27, (.int .i64 (x20.length : Int))), (28, (.int .i64 0))]) ⟨rfl, rfl, rfl, rfl, rfl, rfl, rfl, rfl, rfl, rfl, rfl, trivial⟩ ?_
        refine nx ?_
        obtain ⟨q55, hq55, b42⟩ := bind_some b42
        refine wpC_cutN (fun a w53 => ∃ (y51 : Bool) (o52 : Tg), q55 = .inl y51 ∧ Fr a 52 [(4, v22), (5, v31), (6, (.int .i64 i35)), (8, (.bool y51)), (16, v22), (17, (.int .i64 (x20.length : Int))), (18, (.int .i64 i35))] ∧ Bs oo o52 w w53 ∧ Ow w.heap.size 3 13 o52 w53 v22 x20 ∧ Ow w.heap.size 3 14 o52 w53 v31 y30) (fun _ _ => False) ?_ ?_ ?_
        · refine wpC_block ?_
          refine wpC_loop (fun (K : Nat) a w53 => ∃ (i54 : Int) (y51 : Bool) (o52 : Tg), forI (fS_FixedNodes_s2 i35 x45) (x20.drop i54.toNat) i54 y51 = some q55 ∧ (x20.drop i54.toNat).length = K ∧ 0 ≤ i54 ∧ Fr a 52 [(4, v22), (5, v31), (6, (.int .i64 i35)), (7, (.int .i64 x45)), (8, (.bool y51)), (16, v22), (17, (.int .i64 (x20.length : Int))), (18, (.int .i64 i35)), (26, v22), (27, (.int .i64 (x20.length : Int))), (28, (.int .i64 i54))] ∧ Bs oo o52 w w53 ∧ Ow w.heap.size 3 13 o52 w53 v22 x20 ∧ Ow w.heap.size 3 14 o52 w53 v31 y30) _ (fun a ha => ⟨0, x45 == i35, o33, hq55, rfl, Int.le_refl 0, ha.sub (r := [(4, v22), (5, v31), (6, (.int .i64 i35)), (7, (.int .i64 x45)), (8, (.bool (x45 == i35))), (16, v22), (17, (.int .i64 (x20.length : Int))), (18, (.int .i64 i35)), (26, v22), (27, (.int .i64 (x20.length : Int))), (28, (.int .i64 0))]) ⟨rfl, rfl, rfl, rfl, rfl, rfl, rfl, rfl, rfl, rfl, rfl, trivial⟩, hB, h23, h32⟩) ?_
          rintro K59 a w53 ⟨i54, y51, o52, l56, m58, z57, ha, hB, h23, h32⟩
          by_cases t63 : i54 < (x20.length : Int)
          · obtain ⟨x64, q60, hx64, b61, n62⟩ := forI_cons z57 t63 l56
            have hle := h23.len_le
            dsimp only [fS_FixedNodes_s2] at b61
            refine wp_of ha ?_
            refine wpC_seq ?_
            refine wpC_region ?_
            refine st_val (ex_lss rfl rfl) (by decide) trivial ?_
            refine wpF_end (r := [(4, v22), (5, v31), (6, (.int .i64 i35)), (7, (.int .i64 x45)), (8, (.bool y51)), (16, v22), (17, (.int .i64 (x20.length : Int))), (18, (.int .i64 i35)), (26, v22), (27, (.int .i64 (x20.length : Int))), (28, (.int .i64 i54)), (29, (.bool (decide (i54 < (x20.length : Int)))))]) ⟨rfl, rfl, rfl, rfl, rfl, rfl, rfl, rfl, rfl, rfl, rfl, rfl, trivial⟩ ?_
            refine nx ?_
            refine wpC_seq ?_
            refine wpC_true (congrArg (fun b => some (Value.bool b)) (decide_eq_true t63)) ?_
            refine wpC_skip ?_
            refine nx ?_
            refine wpC_seq ?_
            refine wpC_block ?_
            refine wpC_seq ?_
            refine wpC_region ?_
            refine st_val (ex_move rfl) (by decide) trivial ?_
            refine st_op (by decide) trivial ?_
            refine wf_atW h23 hx64 rfl rfl Try.underlying23 Try.sizeOf3 ?_
            intro b65 f66 c67 h68 h69
            cases h69
            refine st_val (ex_load1 rfl Try.isAgg3 (cell_of_cells h68)) (by decide) trivial ?_
            refine st_val (ex_assign rfl) (by decide) trivial ?_
            refine st_val (ex_assign rfl) (by decide) trivial ?_
            refine wpF_end (r := [(4, v22), (5, v31), (6, (.int .i64 i35)), (7, (.int .i64 x45)), (8, (.bool y51)), (9, (.int .i64 i54)), (10, (.int .i64 x64)), (16, v22), (17, (.int .i64 (x20.length : Int))), (18, (.int .i64 i35)), (26, v22), (27, (.int .i64 (x20.length : Int))), (28, (.int .i64 i54))]) ⟨rfl, rfl, rfl, rfl, rfl, rfl, rfl, rfl, rfl, rfl, rfl, rfl, rfl, trivial⟩ ?_
            refine nx ?_
            refine wpC_region ?_
            refine st_val (ex_move rfl) (by decide) trivial ?_
            refine st_val (ex_move rfl) (by decide) trivial ?_
            obtain ⟨q70, hq70, b61⟩ := bind_some b61
            refine wpF_cutAt 9 (fun a72 w71 => Fr a72 52 [(4, v22), (5, v31), (6, (.int .i64 i35)), (7, (.int .i64 x45)), (8, (.bool y51)), (16, v22), (17, (.int .i64 (x20.length : Int))), (18, (.int .i64 i35)), (26, v22), (27, (.int .i64 (x20.length : Int))), (28, (.int .i64 i54)), (43, (.bool q70))] ∧ Keeps w53 w71) ?_ ?_
            all_goals simp only [List.take_succ_cons, List.take_zero, List.drop_succ_cons, List.drop_zero]
            · have kp : Keeps w53 w53 := Keeps.refl _
              rcases Bool.eq_false_or_eq_true (y51) with t73 | t73
              · rw [if_pos t73] at hq70
                refine st_val (ex_move rfl) (by decide) ⟨_, rfl, (congrArg (fun b => some (Value.bool b)) t73)⟩ ?_
                refine st_val (ex_move rfl) (by decide) ⟨_, rfl, (congrArg (fun b => some (Value.bool b)) t73)⟩ ?_
                refine st_val (ex_eql rfl rfl) (by decide) ⟨_, rfl, (congrArg (fun b => some (Value.bool b)) t73)⟩ ?_
                refine st_val (ex_move rfl) (by decide) ⟨_, rfl, (congrArg (fun b => some (Value.bool b)) t73)⟩ ?_
                rcases Bool.eq_false_or_eq_true (i54 == i35) with t74 | t74
                · rw [if_pos t74] at hq70
                  refine st_no rfl rfl (by rw [t74]; rfl) (by decide) ?_
                  refine st_no rfl rfl (by rw [t74]; rfl) (by decide) ?_
                  refine st_no rfl rfl (by rw [t74]; rfl) (by decide) ?_
                  refine st_val (ex_pick_t (congrArg (fun b => some (Value.bool b)) t74) rfl) (by decide) ⟨_, rfl, (congrArg (fun b => some (Value.bool b)) t73)⟩ ?_
                  refine st_val (ex_pick_t (congrArg (fun b => some (Value.bool b)) t73) rfl) (by decide) trivial ?_
                  have hq702 := Option.some.inj hq70
                  refine wpF_end (r := [(4, v22), (5, v31), (6, (.int .i64 i35)), (7, (.int .i64 x45)), (8, (.bool y51)), (16, v22), (17, (.int .i64 (x20.length : Int))), (18, (.int .i64 i35)), (26, v22), (27, (.int .i64 (x20.length : Int))), (28, (.int .i64 i54)), (43, (.bool true))]) ⟨rfl, rfl, rfl, rfl, rfl, rfl, rfl, rfl, rfl, rfl, rfl, rfl, trivial⟩ ?_
                  subst hq702
                  refine np_norm (fun a ha => ⟨ha, kp⟩)
                · rw [if_neg (by rw [t74]; decide)] at hq70
                  refine st_val (ex_move rfl) (by decide) ⟨_, rfl, (congrArg (fun b => some (Value.bool b)) t74)⟩ ?_
                  refine st_val (ex_move rfl) (by decide) ⟨_, rfl, (congrArg (fun b => some (Value.bool b)) t74)⟩ ?_
                  refine st_val (ex_neq rfl rfl) (by decide) ⟨_, rfl, (congrArg (fun b => some (Value.bool b)) t74)⟩ ?_
                  refine st_val (ex_pick_f (congrArg (fun b => some (Value.bool b)) t74) rfl) (by decide) ⟨_, rfl, (congrArg (fun b => some (Value.bool b)) t73)⟩ ?_
                  refine st_val (ex_pick_t (congrArg (fun b => some (Value.bool b)) t73) rfl) (by decide) trivial ?_
                  have hq702 := Option.some.inj hq70
                  refine wpF_end (r := [(4, v22), (5, v31), (6, (.int .i64 i35)), (7, (.int .i64 x45)), (8, (.bool y51)), (16, v22), (17, (.int .i64 (x20.length : Int))), (18, (.int .i64 i35)), (26, v22), (27, (.int .i64 (x20.length : Int))), (28, (.int .i64 i54)), (43, (.bool (x64 != x45)))]) ⟨rfl, rfl, rfl, rfl, rfl, rfl, rfl, rfl, rfl, rfl, rfl, rfl, trivial⟩ ?_
                  subst hq702
                  refine np_norm (fun a ha => ⟨ha, kp⟩)
              · rw [if_neg (by rw [t73]; decide)] at hq70
                refine st_no rfl rfl (by rw [t73]; rfl) (by decide) ?_
                refine st_no rfl rfl (by rw [t73]; rfl) (by decide) ?_
                refine st_no rfl rfl (by rw [t73]; rfl) (by decide) ?_
                refine st_no rfl rfl (by rw [t73]; rfl) (by decide) ?_
                refine st_no2 rfl rfl (by decide) ?_
                refine st_no2 rfl rfl (by decide) ?_
                refine st_no2 rfl rfl (by decide) ?_
                refine st_no rfl rfl (by rw [t73]; rfl) (by decide) ?_
                refine st_val (ex_pick_f (congrArg (fun b => some (Value.bool b)) t73) rfl) (by decide) trivial ?_
                have hq702 := Option.some.inj hq70
                refine wpF_end (r := [(4, v22), (5, v31), (6, (.int .i64 i35)), (7, (.int .i64 x45)), (8, (.bool y51)), (16, v22), (17, (.int .i64 (x20.length : Int))), (18, (.int .i64 i35)), (26, v22), (27, (.int .i64 (x20.length : Int))), (28, (.int .i64 i54)), (43, (.bool false))]) ⟨rfl, rfl, rfl, rfl, rfl, rfl, rfl, rfl, rfl, rfl, rfl, rfl, trivial⟩ ?_
                subst hq702
                refine np_norm (fun a ha => ⟨ha, kp⟩)
            rintro a77 w71 ⟨ha, k75⟩
            have s76 := k75.stp 999 o52
            replace h23 := h23.stp s76 (by decide) (by decide)
            replace h32 := h32.stp s76 (by decide) (by decide)
            replace hB := hB.stp s76 (by decide)
            refine wl_of ha ?_
            refine st_val (ex_assign rfl) (by decide) trivial ?_
            refine wpF_end (r := [(4, v22), (5, v31), (6, (.int .i64 i35)), (7, (.int .i64 x45)), (8, (.bool q70)), (16, v22), (17, (.int .i64 (x20.length : Int))), (18, (.int .i64 i35)), (26, v22), (27, (.int .i64 (x20.length : Int))), (28, (.int .i64 i54))]) ⟨rfl, rfl, rfl, rfl, rfl, rfl, rfl, rfl, rfl, rfl, rfl, trivial⟩ ?_
            refine nb_norm ?_
            refine nx ?_
            refine wpC_region ?_
            refine st_val (ex_add rfl rfl (ck_in (by omega) (by omega))) (by decide) trivial ?_
            refine st_val (ex_move rfl) (by decide) trivial ?_
            refine wpF_end (r := [(4, v22), (5, v31), (6, (.int .i64 i35)), (7, (.int .i64 x45)), (8, (.bool q70)), (16, v22), (17, (.int .i64 (x20.length : Int))), (18, (.int .i64 i35)), (26, v22), (27, (.int .i64 (x20.length : Int))), (28, (.int .i64 (i54 + 1)))]) ⟨rfl, rfl, rfl, rfl, rfl, rfl, rfl, rfl, rfl, rfl, rfl, trivial⟩ ?_
            refine nt_norm ?_
            have e78 := Option.some.inj b61
            subst e78
            refine to_k (r := [(4, v22), (5, v31), (6, (.int .i64 i35)), (7, (.int .i64 x45)), (8, (.bool q70)), (16, v22), (17, (.int .i64 (x20.length : Int))), (18, (.int .i64 i35)), (26, v22), (27, (.int .i64 (x20.length : Int))), (28, (.int .i64 (i54 + 1)))]) ⟨rfl, rfl, rfl, rfl, rfl, rfl, rfl, rfl, rfl, rfl, rfl, trivial⟩ ?_
            intro a ha
            exact ⟨_, (by rw [← m58]; simp only [List.length_drop]; omega), i54 + 1, q70, o52, n62, rfl, (by omega), ha, hB, h23, h32⟩
          · have r79 := forI_done t63 l56
            refine wp_of ha ?_
            refine wpC_seq ?_
            refine wpC_region ?_
            refine st_val (ex_lss rfl rfl) (by decide) trivial ?_
            refine wpF_end (r := [(4, v22), (5, v31), (6, (.int .i64 i35)), (7, (.int .i64 x45)), (8, (.bool y51)), (16, v22), (17, (.int .i64 (x20.length : Int))), (18, (.int .i64 i35)), (26, v22), (27, (.int .i64 (x20.length : Int))), (28, (.int .i64 i54)), (29, (.bool (decide (i54 < (x20.length : Int)))))]) ⟨rfl, rfl, rfl, rfl, rfl, rfl, rfl, rfl, rfl, rfl, rfl, rfl, trivial⟩ ?_
            refine nx ?_
            refine wpC_seq ?_
            refine wpC_false (congrArg (fun b => some (Value.bool b)) (decide_eq_false t63)) ?_
            refine wpC_exit ?_
            refine nt_exit ?_
            refine nt_exit ?_
            refine nb_hit ?_
            refine np_norm ?_
            refine to_k (r := [(4, v22), (5, v31), (6, (.int .i64 i35)), (8, (.bool y51)), (16, v22), (17, (.int .i64 (x20.length : Int))), (18, (.int .i64 i35))]) ⟨rfl, rfl, rfl, rfl, rfl, rfl, rfl, trivial⟩ ?_
            intro a ha
            exact ⟨y51, o52, r79, ha, hB, h23, h32⟩
        · rintro a w53 ⟨y51, o52, rfl, ha, hB, h23, h32⟩
          dsimp only at b42
          refine ap_k ha ?_
          refine nx ?_
          refine wpC_seq ?_
          refine wpC_region ?_
          refine st_val (ex_move rfl) (by decide) trivial ?_
          refine wpF_end (r := [(4, v22), (5, v31), (6, (.int .i64 i35)), (16, v22), (17, (.int .i64 (x20.length : Int))), (18, (.int .i64 i35)), (45, (.bool y51))]) ⟨rfl, rfl, rfl, rfl, rfl, rfl, rfl, trivial⟩ ?_
          refine nx ?_
          refine wpC_cond rfl (fun t80 => ?_) (fun t80 => ?_)
          · rw [if_pos t80] at b42
            refine wpC_region ?_
            refine st_val (ex_move rfl) (by decide) trivial ?_
            refine st_val (ex_move rfl) (by decide) trivial ?_
            refine st_op (by decide) trivial ?_
            refine wf_litR (o := o52) (cs := [(.int .i64 i35)]) (xs := ([i35] : List Int)) (vs := [(0, (.int .i64 i35))]) ⟨_, _, rfl, rfl, rfl⟩ rfl ⟨rfl, rfl, trivial⟩ Try.underlying23 Try.sizeOf3 Try.zeroValue3 (by decide) (fill1 rfl) (by simp) ?_
            intro o81 w82 v83 h84 s85 k86
            replace h23 := h23.stp s85 (by decide) (by decide)
            replace h32 := h32.stp s85 (by decide) (by decide)
            replace hB := hB.stp s85 (by decide)
            obtain ⟨x87, hx87, b42⟩ := bind_some b42
            refine st_op (by decide) trivial ?_
            refine wf_cat h32 h84 (push_cat hx87) (by decide) hB.keeps.size rfl rfl Try.underlying23 info2_t_int_Nd rfl (by decide) ?_
            intro o88 w89 v90 h91 s92
            replace h23 := h23.stp s92 (by decide) (by decide)
            replace h84 := h84.stp s92 (by decide)
            replace hB := hB.stp s92 (by decide)
            refine st_val (ex_assign rfl) (by decide) trivial ?_
            refine wpF_end (r := [(4, v22), (5, v90), (16, v22), (17, (.int .i64 (x20.length : Int))), (18, (.int .i64 i35))]) ⟨rfl, rfl, rfl, rfl, rfl, trivial⟩ ?_
            refine nb_norm ?_
            refine nx ?_
            refine wpC_region ?_
            refine st_val (ex_add rfl rfl (ck_in (by omega) (by omega))) (by decide) trivial ?_
            refine st_val (ex_move rfl) (by decide) trivial ?_
            refine wpF_end (r := [(4, v22), (5, v90), (16, v22), (17, (.int .i64 (x20.length : Int))), (18, (.int .i64 (i35 + 1)))]) ⟨rfl, rfl, rfl, rfl, rfl, trivial⟩ ?_
            refine nt_norm ?_
            have e93 := Option.some.inj b42
            subst e93
            refine to_k (r := [(4, v22), (5, v90), (16, v22), (17, (.int .i64 (x20.length : Int))), (18, (.int .i64 (i35 + 1)))]) ⟨rfl, rfl, rfl, rfl, rfl, trivial⟩ ?_
            intro a ha
            exact ⟨_, (by rw [← m39]; simp only [List.length_drop]; omega), i35 + 1, x87, v90, o88, n43, rfl, (by omega), ha, hB, h23, h91⟩
          · rw [if_neg (by rw [t80]; decide)] at b42
            refine wpC_skip ?_
            refine nb_norm ?_
            refine nx ?_
            refine wpC_region ?_
            refine st_val (ex_add rfl rfl (ck_in (by omega) (by omega))) (by decide) trivial ?_
            refine st_val (ex_move rfl) (by decide) trivial ?_
            refine wpF_end (r := [(4, v22), (5, v31), (16, v22), (17, (.int .i64 (x20.length : Int))), (18, (.int .i64 (i35 + 1)))]) ⟨rfl, rfl, rfl, rfl, rfl, trivial⟩ ?_
            refine nt_norm ?_
            have e94 := Option.some.inj b42
            subst e94
            refine to_k (r := [(4, v22), (5, v31), (16, v22), (17, (.int .i64 (x20.length : Int))), (18, (.int .i64 (i35 + 1)))]) ⟨rfl, rfl, rfl, rfl, rfl, trivial⟩ ?_
            intro a ha
            exact ⟨_, (by rw [← m39]; simp only [List.length_drop]; omega), i35 + 1, y30, v31, o52, n43, rfl, (by omega), ha, hB, h23, h32⟩
        · exact fun _ _ h => h.elim
      · have r95 := forI_done t44 l37
        refine wp_of ha ?_
        refine wpC_seq ?_
        refine wpC_region ?_
        refine st_val (ex_lss rfl rfl) (by decide) trivial ?_
        refine wpF_end (r := [(4, v22), (5, v31), (16, v22), (17, (.int .i64 (x20.length : Int))), (18, (.int .i64 i35)), (19, (.bool (decide (i35 < (x20.length : Int)))))]) ⟨rfl, rfl, rfl, rfl, rfl, rfl, trivial⟩ ?_
        refine nx ?_
        refine wpC_seq ?_
        refine wpC_false (congrArg (fun b => some (Value.bool b)) (decide_eq_false t44)) ?_
        refine wpC_exit ?_
        refine nt_exit ?_
        refine nt_exit ?_
        refine nb_hit ?_
        refine np_norm ?_
        refine to_k (r := [(5, v31)]) ⟨rfl, trivial⟩ ?_
        intro a ha
        exact ⟨y30, v31, o33, r95, ha, hB, h32⟩
    · rintro a w34 ⟨y30, v31, o33, rfl, ha, hB, h32⟩
      dsimp only at hF
      refine ap_k ha ?_
      refine nx ?_
      refine wpC_seq ?_
      refine wpC_region ?_
      refine st_val (ex_move rfl) (by decide) trivial ?_
      refine st_val (ex_assign rfl) (by decide) trivial ?_
      refine st_val (ex_assign rfl) (by decide) trivial ?_
      refine wpF_end (r := [(2, v31), (3, (.bool true))]) ⟨rfl, rfl, trivial⟩ ?_
      refine nx ?_
      refine wpC_ret ?_
      have e96 := Option.some.inj hF
      subst e96
      refine ret_post (P := Try.prog) (vs := [v31, (.bool true)]) Try.results35 ⟨rfl, rfl, trivial⟩ ?_
      exact ⟨_, rt oo o33 w.heap.size 14 t, rfl, h32.rt hB (by decide) t, hB.keeps, rt_old _ _ _ _ _⟩
    · exact fun _ _ h => h.elim

def fI_FixedNodes_s1 : Int → Int → (List (Int × Int)) → Option (Lp (List (Int × Int)) (List (Int × Int)) ((List Int) × Bool)) := fun (i38 : Int) (x48 : Int) (s : List (Int × Int)) =>
  (mgo s x48) >>= fun x54 =>
  (ck (x54.1 + 1)) >>= fun x55 =>
  (mput s x48 x55) >>= fun x56 =>
  some (.go x56)
def fI_FixedNodes_s2 (y34 : List (Int × Int)) : Int → Int → (List Int) → Option (Lp (List Int) (List Int) ((List Int) × Bool)) := fun (i68 : Int) (x78 : Int) (s : List Int) =>
  (mgo y34 x78) >>= fun x84 =>
  if x84.1 == 1 then
    (push s i68) >>= fun x92 =>
    some (.go x92)
  else
    some (.go s)
def fI_FixedNodes (fuel : Nat) (p0 : T_Network) : Option ((List Int) × Bool) :=
  (fI_IsNetwork p0) >>= fun x12 =>
  if !x12 then
    some ([], false)
  else
    (fI_orbitsOf fuel p0) >>= fun x25 =>
    (forI (fI_FixedNodes_s1) x25 0 ([] : List (Int × Int))) >>= fun q39 =>
    match q39 with
    | .inl y34 =>
      (forI (fI_FixedNodes_s2 y34) x25 0 []) >>= fun q69 =>
      match q69 with
      | .inl y63 =>
        some (y63, true)
      | .inr _ => none
    | .inr _ => none

def pI_FixedNodes (oo : Tg) (t : Nat) (w : World) (r : (List Int) × Bool) : Ending → World → Prop := fun e w' => ∃ (v0 : Value) (o' : Tg), e = .returned (.tuple #[v0, .bool r.2]) ∧ Ow w.heap.size 3 t o' w' v0 r.1 ∧ Keeps w w' ∧ ∀ b, b < w.heap.size → o' b = oo b
set_option maxRecDepth 100000 in
set_option maxHeartbeats 2000000 in
theorem cI_FixedNodes (fuel : Nat) (w : World) (oo : Tg) (t : Nat) (ht : 2 ≤ t) (u0 : List Value) (p0 : T_Network) (g0 : Rp.rd zt w u0 p0) (r : (List Int) × Bool) (hF : fI_FixedNodes fuel p0 = some r) :
    Calls Try.prog 36 #[.agg u0.toArray] w (pI_FixedNodes oo t w r) := by
  unfold fI_FixedNodes at hF
  obtain ⟨v1, v3, v5, rfl, h2, h4, h6⟩ := g0
  have hB : Bs oo (col oo) w w := Bs.start _ _
  refine calls_start (n := 45) (vs := [(.agg #[v1, v3, v5])]) Try.func36 rfl rfl ?_
  generalize col oo = o at *
  refine wpC_seq ?_
  refine wpC_region ?_
  refine st_op (by decide) trivial ?_
  refine wf_box (o := o) w.heap.size 11 hB.keeps.size (cs := [v1, v3, v5]) rfl rfl ?_
  intro o7 w8 b9 h10 s11
  replace hB := hB.stp s11 (by decide)
  refine st_val (ex_assign rfl) (by decide) trivial ?_
  refine st_val (ex_assign rfl) (by decide) trivial ?_
  refine wpF_end (r := [(1, (.pointer (some ⟨b9, 0, none⟩)))]) ⟨rfl, trivial⟩ ?_
  refine nx ?_
  refine wpC_seq ?_
  refine wpC_seq ?_
  refine wpC_region ?_
  refine st_val (ex_loadA rfl Try.isAgg31 Try.sizeOf31 rfl h10.cells) (by decide) trivial ?_
  obtain ⟨x12, hx12, hF⟩ := bind_some hF
  refine st_op (by decide) trivial ?_
  refine wf_call (cI_IsNetwork w8 _ p0 (⟨_, _, _, rfl, (h2.keep hB.keeps), (h4.keep hB.keeps), (h6.keep hB.keeps)⟩) x12 hx12) Try.call65 ⟨rfl, trivial⟩ ?_
  rintro e17 w13 ⟨rfl, k14⟩
  have s16 := k14.stp 999 o7
  refine ⟨_, rfl, ?_⟩
  replace h10 := h10.stp s16 (by decide)
  replace hB := hB.stp s16 (by decide)
  refine st_val (ex_not rfl) (by decide) trivial ?_
  refine wpF_end (r := [(1, (.pointer (some ⟨b9, 0, none⟩))), (13, (.bool (!x12)))]) ⟨rfl, rfl, trivial⟩ ?_
  refine nx ?_
  refine wpC_cond rfl (fun t18 => ?_) (fun t18 => ?_)
  · rw [if_pos t18] at hF
    refine wpC_seq ?_
    refine wpC_region ?_
    refine st_val (ex_assign rfl) (by decide) trivial ?_
    refine st_val (ex_assign rfl) (by decide) trivial ?_
    refine wpF_end (r := [(2, (.slice none 0 0)), (3, (.bool false))]) ⟨rfl, rfl, trivial⟩ ?_
    refine nx ?_
    refine wpC_ret ?_
    refine nt_ret ?_
    have e19 := Option.some.inj hF
    subst e19
    refine ret_post (P := Try.prog) (vs := [(.slice none 0 0), (.bool false)]) Try.results36 ⟨rfl, rfl, trivial⟩ ?_
    exact ⟨_, rt oo o7 w.heap.size 9 t, rfl, (Ow.nil _ _ _ _ _), hB.keeps, rt_old _ _ _ _ _⟩
  · rw [if_neg (by rw [t18]; decide)] at hF
    refine wpC_skip ?_
    refine nx ?_
    refine wpC_seq ?_
    refine wpC_region ?_
    refine st_op (by decide) trivial ?_
    refine wf_makeMap (o := o7) w.heap.size 13 hB.keeps.size ?_
    intro o20 w21 v22 h23 s24
    replace h10 := h10.stp s24 (by decide)
    replace hB := hB.stp s24 (by decide)
    refine st_val (ex_assign rfl) (by decide) trivial ?_
    refine wpF_end (r := [(1, (.pointer (some ⟨b9, 0, none⟩))), (4, v22)]) ⟨rfl, rfl, trivial⟩ ?_
    refine nx ?_
    refine wpC_seq ?_
    refine wpC_region ?_
    refine st_val (ex_loadA rfl Try.isAgg31 Try.sizeOf31 rfl h10.cells) (by decide) trivial ?_
    obtain ⟨x25, hx25, hF⟩ := bind_some hF
    refine st_op (by decide) trivial ?_
    refine wf_call (cI_orbitsOf fuel w21 o20 14 (by decide) _ p0 (⟨_, _, _, rfl, (h2.keep hB.keeps), (h4.keep hB.keeps), (h6.keep hB.keeps)⟩) x25 hx25) Try.call78 ⟨rfl, trivial⟩ ?_
    rintro e32 w26 ⟨v27, o33, rfl, h28, k29, k30⟩
    have s31 := k29.stp' 14 k30
    replace h28 := h28.mono hB.keeps.size
    refine ⟨_, rfl, ?_⟩
    replace h23 := h23.stp s31 (by decide) (by decide)
    replace h10 := h10.stp s31 (by decide)
    replace hB := hB.stp s31 (by decide)
    refine st_val (ex_assign rfl) (by decide) trivial ?_
    refine wpF_end (r := [(4, v22), (5, v27)]) ⟨rfl, rfl, trivial⟩ ?_
    refine nx ?_
    refine wpC_seq ?_
    refine wpC_seq ?_
    refine wpC_region ?_
    refine st_val (ex_move rfl) (by decide) trivial ?_
    refine st_val (ex_lenO rfl h28 Try.underlying23) (by decide) trivial ?_
    refine st_val (ex_move rfl) (by decide) trivial ?_
    refine wpF_end (r := [(4, v22), (5, v27), (17, v27), (18, (.int .i64 (x25.length : Int))), (19, (.int .i64 0))]) ⟨rfl, rfl, rfl, rfl, rfl, trivial⟩ ?_
    refine nx ?_
    obtain ⟨q39, hq39, hF⟩ := bind_some hF
    refine wpC_cutN (fun a w37 => ∃ (y34 : List (Int × Int)) (o36 : Tg), q39 = .inl y34 ∧ Fr a 45 [(4, v22), (5, v27)] ∧ Bs oo o36 w w37 ∧ Mo w.heap.size 13 o36 w37 v22 y34 ∧ Ow w.heap.size 3 14 o36 w37 v27 x25) (fun _ _ => False) ?_ ?_ ?_
    · refine wpC_block ?_
      refine wpC_loop (fun (K : Nat) a w37 => ∃ (i38 : Int) (y34 : List (Int × Int)) (o36 : Tg), forI (fI_FixedNodes_s1) (x25.drop i38.toNat) i38 y34 = some q39 ∧ (x25.drop i38.toNat).length = K ∧ 0 ≤ i38 ∧ Fr a 45 [(4, v22), (5, v27), (17, v27), (18, (.int .i64 (x25.length : Int))), (19, (.int .i64 i38))] ∧ Bs oo o36 w w37 ∧ Mo w.heap.size 13 o36 w37 v22 y34 ∧ Ow w.heap.size 3 14 o36 w37 v27 x25) _ (fun a ha => ⟨0, ([] : List (Int × Int)), o33, hq39, rfl, Int.le_refl 0, ha.sub (r := [(4, v22), (5, v27), (17, v27), (18, (.int .i64 (x25.length : Int))), (19, (.int .i64 0))]) ⟨rfl, rfl, rfl, rfl, rfl, trivial⟩, hB, h23, h28⟩) ?_
      rintro K43 a w37 ⟨i38, y34, o36, l40, m42, z41, ha, hB, h35, h28⟩
      by_cases t47 : i38 < (x25.length : Int)
      · obtain ⟨x48, q44, hx48, b45, n46⟩ := forI_cons z41 t47 l40
        have hle := h28.len_le
        dsimp only [fI_FixedNodes_s1] at b45
        refine wp_of ha ?_
        refine wpC_seq ?_
        refine wpC_region ?_
        refine st_val (ex_lss rfl rfl) (by decide) trivial ?_
        refine wpF_end (r := [(4, v22), (5, v27), (17, v27), (18, (.int .i64 (x25.length : Int))), (19, (.int .i64 i38)), (20, (.bool (decide (i38 < (x25.length : Int)))))]) ⟨rfl, rfl, rfl, rfl, rfl, rfl, trivial⟩ ?_
        refine nx ?_
        refine wpC_seq ?_
        refine wpC_true (congrArg (fun b => some (Value.bool b)) (decide_eq_true t47)) ?_
        refine wpC_skip ?_
        refine nx ?_
        refine wpC_seq ?_
        refine wpC_block ?_
        refine wpC_seq ?_
        refine wpC_region ?_
        refine st_op (by decide) trivial ?_
        refine wf_atW h28 hx48 rfl rfl Try.underlying23 Try.sizeOf3 ?_
        intro b49 f50 c51 h52 h53
        cases h53
        refine st_val (ex_load1 rfl Try.isAgg3 (cell_of_cells h52)) (by decide) trivial ?_
        refine st_val (ex_assign rfl) (by decide) trivial ?_
        refine wpF_end (r := [(4, v22), (5, v27), (7, (.int .i64 x48)), (17, v27), (18, (.int .i64 (x25.length : Int))), (19, (.int .i64 i38))]) ⟨rfl, rfl, rfl, rfl, rfl, rfl, trivial⟩ ?_
        refine nx ?_
        refine wpC_region ?_
        refine st_val (ex_move rfl) (by decide) trivial ?_
        refine st_val (ex_move rfl) (by decide) trivial ?_
        obtain ⟨x54, hx54, b45⟩ := bind_some b45
        refine st_val (ex_look h35 hx54 rfl rfl Try.underlying95) (by decide) trivial ?_
        obtain ⟨x55, hx55, b45⟩ := bind_some b45
        refine st_val (ex_add rfl rfl hx55) (by decide) trivial ?_
        obtain ⟨x56, hx56, b45⟩ := bind_some b45
        refine st_op0 trivial ?_
        refine wf_mapPut h35 hx56 rfl rfl rfl Try.underlying95 ?_
        intro w57 h58 s59
        replace h28 := h28.stp s59 (by decide) (by decide)
        replace hB := hB.stp s59 (by decide)
        refine wpF_end (r := [(4, v22), (5, v27), (17, v27), (18, (.int .i64 (x25.length : Int))), (19, (.int .i64 i38))]) ⟨rfl, rfl, rfl, rfl, rfl, trivial⟩ ?_
        refine nb_norm ?_
        refine nx ?_
        refine wpC_region ?_
        refine st_val (ex_add rfl rfl (ck_in (by omega) (by omega))) (by decide) trivial ?_
        refine st_val (ex_move rfl) (by decide) trivial ?_
        refine wpF_end (r := [(4, v22), (5, v27), (17, v27), (18, (.int .i64 (x25.length : Int))), (19, (.int .i64 (i38 + 1)))]) ⟨rfl, rfl, rfl, rfl, rfl, trivial⟩ ?_
        refine nt_norm ?_
        have e60 := Option.some.inj b45
        subst e60
        refine to_k (r := [(4, v22), (5, v27), (17, v27), (18, (.int .i64 (x25.length : Int))), (19, (.int .i64 (i38 + 1)))]) ⟨rfl, rfl, rfl, rfl, rfl, trivial⟩ ?_
        intro a ha
        exact ⟨_, (by rw [← m42]; simp only [List.length_drop]; omega), i38 + 1, x56, o36, n46, rfl, (by omega), ha, hB, h58, h28⟩
      · have r61 := forI_done t47 l40
        refine wp_of ha ?_
        refine wpC_seq ?_
        refine wpC_region ?_
        refine st_val (ex_lss rfl rfl) (by decide) trivial ?_
        refine wpF_end (r := [(4, v22), (5, v27), (17, v27), (18, (.int .i64 (x25.length : Int))), (19, (.int .i64 i38)), (20, (.bool (decide (i38 < (x25.length : Int)))))]) ⟨rfl, rfl, rfl, rfl, rfl, rfl, trivial⟩ ?_
        refine nx ?_
        refine wpC_seq ?_
        refine wpC_false (congrArg (fun b => some (Value.bool b)) (decide_eq_false t47)) ?_
        refine wpC_exit ?_
        refine nt_exit ?_
        refine nt_exit ?_
        refine nb_hit ?_
        refine np_norm ?_
        refine to_k (r := [(4, v22), (5, v27)]) ⟨rfl, rfl, trivial⟩ ?_
        intro a ha
        exact ⟨y34, o36, r61, ha, hB, h35, h28⟩
    · rintro a w37 ⟨y34, o36, rfl, ha, hB, h35, h28⟩
      dsimp only at hF
      refine ap_k ha ?_
      refine nx ?_
      refine wpC_seq ?_
      refine wpC_region ?_
      refine st_val (ex_assign rfl) (by decide) trivial ?_
      refine wpF_end (r := [(4, v22), (5, v27), (8, (.slice none 0 0))]) ⟨rfl, rfl, rfl, trivial⟩ ?_
      refine nx ?_
      refine wpC_seq ?_
      refine wpC_seq ?_
      refine wpC_region ?_
      refine st_val (ex_move rfl) (by decide) trivial ?_
      refine st_val (ex_lenO rfl h28 Try.underlying23) (by decide) trivial ?_
      refine st_val (ex_move rfl) (by decide) trivial ?_
      refine wpF_end (r := [(4, v22), (8, (.slice none 0 0)), (28, v27), (29, (.int .i64 (x25.length : Int))), (30, (.int .i64 0))]) ⟨rfl, rfl, rfl, rfl, rfl, trivial⟩ ?_
      refine nx ?_
      have h62 : Ow w.heap.size 3 15 o36 w37 (.slice none 0 0) ([] : List Int) := Ow.nil _ _ _ _ _
      obtain ⟨q69, hq69, hF⟩ := bind_some hF
      refine wpC_cutN (fun a w67 => ∃ (y63 : List Int) (v64 : Value) (o66 : Tg), q69 = .inl y63 ∧ Fr a 45 [(8, v64)] ∧ Bs oo o66 w w67 ∧ Ow w.heap.size 3 15 o66 w67 v64 y63) (fun _ _ => False) ?_ ?_ ?_
      · refine wpC_block ?_
        refine wpC_loop (fun (K : Nat) a w67 => ∃ (i68 : Int) (y63 : List Int) (v64 : Value) (o66 : Tg), forI (fI_FixedNodes_s2 y34) (x25.drop i68.toNat) i68 y63 = some q69 ∧ (x25.drop i68.toNat).length = K ∧ 0 ≤ i68 ∧ Fr a 45 [(4, v22), (8, v64), (28, v27), (29, (.int .i64 (x25.length : Int))), (30, (.int .i64 i68))] ∧ Bs oo o66 w w67 ∧ Mo w.heap.size 13 o66 w67 v22 y34 ∧ Ow w.heap.size 3 15 o66 w67 v64 y63 ∧ Ow w.heap.size 3 14 o66 w67 v27 x25) _ (fun a ha => ⟨0, [], (.slice none 0 0), o36, hq69, rfl, Int.le_refl 0, ha.sub (r := [(4, v22), (8, (.slice none 0 0)), (28, v27), (29, (.int .i64 (x25.length : Int))), (30, (.int .i64 0))]) ⟨rfl, rfl, rfl, rfl, rfl, trivial⟩, hB, h35, h62, h28⟩) ?_
        rintro K73 a w67 ⟨i68, y63, v64, o66, l70, m72, z71, ha, hB, h35, h65, h28⟩
        by_cases t77 : i68 < (x25.length : Int)
        · obtain ⟨x78, q74, hx78, b75, n76⟩ := forI_cons z71 t77 l70
          have hle := h28.len_le
          dsimp only [fI_FixedNodes_s2] at b75
          refine wp_of ha ?_
          refine wpC_seq ?_
          refine wpC_region ?_
          refine st_val (ex_lss rfl rfl) (by decide) trivial ?_
          refine wpF_end (r := [(4, v22), (8, v64), (28, v27), (29, (.int .i64 (x25.length : Int))), (30, (.int .i64 i68)), (31, (.bool (decide (i68 < (x25.length : Int)))))]) ⟨rfl, rfl, rfl, rfl, rfl, rfl, trivial⟩ ?_
          refine nx ?_
          refine wpC_seq ?_
          refine wpC_true (congrArg (fun b => some (Value.bool b)) (decide_eq_true t77)) ?_
          refine wpC_skip ?_
          refine nx ?_
          refine wpC_seq ?_
          refine wpC_block ?_
          refine wpC_seq ?_
          refine wpC_region ?_
          refine st_val (ex_move rfl) (by decide) trivial ?_
          refine st_op (by decide) trivial ?_
          refine wf_atW h28 hx78 rfl rfl Try.underlying23 Try.sizeOf3 ?_
          intro b79 f80 c81 h82 h83
          cases h83
          refine st_val (ex_load1 rfl Try.isAgg3 (cell_of_cells h82)) (by decide) trivial ?_
          refine st_val (ex_assign rfl) (by decide) trivial ?_
          refine st_val (ex_assign rfl) (by decide) trivial ?_
          refine wpF_end (r := [(4, v22), (8, v64), (9, (.int .i64 i68)), (10, (.int .i64 x78)), (28, v27), (29, (.int .i64 (x25.length : Int))), (30, (.int .i64 i68))]) ⟨rfl, rfl, rfl, rfl, rfl, rfl, rfl, trivial⟩ ?_
          refine nx ?_
          refine wpC_seq ?_
          refine wpC_region ?_
          refine st_val (ex_move rfl) (by decide) trivial ?_
          refine st_val (ex_move rfl) (by decide) trivial ?_
          obtain ⟨x84, hx84, b75⟩ := bind_some b75
          refine st_val (ex_look h35 hx84 rfl rfl Try.underlying95) (by decide) trivial ?_
          refine st_val (ex_eql rfl rfl) (by decide) trivial ?_
          refine wpF_end (r := [(4, v22), (8, v64), (9, (.int .i64 i68)), (28, v27), (29, (.int .i64 (x25.length : Int))), (30, (.int .i64 i68)), (38, (.bool (x84.1 == 1)))]) ⟨rfl, rfl, rfl, rfl, rfl, rfl, rfl, trivial⟩ ?_
          refine nx ?_
          refine wpC_cond rfl (fun t85 => ?_) (fun t85 => ?_)
          · rw [if_pos t85] at b75
            refine wpC_region ?_
            refine st_val (ex_move rfl) (by decide) trivial ?_
            refine st_val (ex_move rfl) (by decide) trivial ?_
            refine st_op (by decide) trivial ?_
            refine wf_litR (o := o66) (cs := [(.int .i64 i68)]) (xs := ([i68] : List Int)) (vs := [(0, (.int .i64 i68))]) ⟨_, _, rfl, rfl, rfl⟩ rfl ⟨rfl, rfl, trivial⟩ Try.underlying23 Try.sizeOf3 Try.zeroValue3 (by decide) (fill1 rfl) (by simp) ?_
            intro o86 w87 v88 h89 s90 k91
            replace h35 := h35.stp s90 (by decide) (by decide)
            replace h65 := h65.stp s90 (by decide) (by decide)
            replace h28 := h28.stp s90 (by decide) (by decide)
            replace hB := hB.stp s90 (by decide)
            obtain ⟨x92, hx92, b75⟩ := bind_some b75
            refine st_op (by decide) trivial ?_
            refine wf_cat h65 h89 (push_cat hx92) (by decide) hB.keeps.size rfl rfl Try.underlying23 info2_t_int_Nd rfl (by decide) ?_
            intro o93 w94 v95 h96 s97
            replace h35 := h35.stp s97 (by decide) (by decide)
            replace h28 := h28.stp s97 (by decide) (by decide)
            replace h89 := h89.stp s97 (by decide)
            replace hB := hB.stp s97 (by decide)
            refine st_val (ex_assign rfl) (by decide) trivial ?_
            refine wpF_end (r := [(4, v22), (8, v95), (28, v27), (29, (.int .i64 (x25.length : Int))), (30, (.int .i64 i68))]) ⟨rfl, rfl, rfl, rfl, rfl, trivial⟩ ?_
            refine nb_norm ?_
            refine nx ?_
            refine wpC_region ?_
            refine st_val (ex_add rfl rfl (ck_in (by omega) (by omega))) (by decide) trivial ?_
            refine st_val (ex_move rfl) (by decide) trivial ?_
            refine wpF_end (r := [(4, v22), (8, v95), (28, v27), (29, (.int .i64 (x25.length : Int))), (30, (.int .i64 (i68 + 1)))]) ⟨rfl, rfl, rfl, rfl, rfl, trivial⟩ ?_
            refine nt_norm ?_
            have e98 := Option.some.inj b75
            subst e98
            refine to_k (r := [(4, v22), (8, v95), (28, v27), (29, (.int .i64 (x25.length : Int))), (30, (.int .i64 (i68 + 1)))]) ⟨rfl, rfl, rfl, rfl, rfl, trivial⟩ ?_
            intro a ha
            exact ⟨_, (by rw [← m72]; simp only [List.length_drop]; omega), i68 + 1, x92, v95, o93, n76, rfl, (by omega), ha, hB, h35, h96, h28⟩
          · rw [if_neg (by rw [t85]; decide)] at b75
            refine wpC_skip ?_
            refine nb_norm ?_
            refine nx ?_
            refine wpC_region ?_
            refine st_val (ex_add rfl rfl (ck_in (by omega) (by omega))) (by decide) trivial ?_
            refine st_val (ex_move rfl) (by decide) trivial ?_
            refine wpF_end (r := [(4, v22), (8, v64), (28, v27), (29, (.int .i64 (x25.length : Int))), (30, (.int .i64 (i68 + 1)))]) ⟨rfl, rfl, rfl, rfl, rfl, trivial⟩ ?_
            refine nt_norm ?_
            have e99 := Option.some.inj b75
            subst e99
            refine to_k (r := [(4, v22), (8, v64), (28, v27), (29, (.int .i64 (x25.length : Int))), (30, (.int .i64 (i68 + 1)))]) ⟨rfl, rfl, rfl, rfl, rfl, trivial⟩ ?_
            intro a ha
            exact ⟨_, (by rw [← m72]; simp only [List.length_drop]; omega), i68 + 1, y63, v64, o66, n76, rfl, (by omega), ha, hB, h35, h65, h28⟩
        · have r100 := forI_done t77 l70
          refine wp_of ha ?_
          refine wpC_seq ?_
          refine wpC_region ?_
          refine st_val (ex_lss rfl rfl) (by decide) trivial ?_
          refine wpF_end (r := [(4, v22), (8, v64), (28, v27), (29, (.int .i64 (x25.length : Int))), (30, (.int .i64 i68)), (31, (.bool (decide (i68 < (x25.length : Int)))))]) ⟨rfl, rfl, rfl, rfl, rfl, rfl, trivial⟩ ?_
          refine nx ?_
          refine wpC_seq ?_
          refine wpC_false (congrArg (fun b => some (Value.bool b)) (decide_eq_false t77)) ?_
          refine wpC_exit ?_
          refine nt_exit ?_
          refine nt_exit ?_
          refine nb_hit ?_
          refine np_norm ?_
          refine to_k (r := [(8, v64)]) ⟨rfl, trivial⟩ ?_
          intro a ha
          exact ⟨y63, v64, o66, r100, ha, hB, h65⟩
      · rintro a w67 ⟨y63, v64, o66, rfl, ha, hB, h65⟩
        dsimp only at hF
        refine ap_k ha ?_
        refine nx ?_
        refine wpC_seq ?_
        refine wpC_region ?_
        refine st_val (ex_move rfl) (by decide) trivial ?_
        refine st_val (ex_assign rfl) (by decide) trivial ?_
        refine st_val (ex_assign rfl) (by decide) trivial ?_
        refine wpF_end (r := [(2, v64), (3, (.bool true))]) ⟨rfl, rfl, trivial⟩ ?_
        refine nx ?_
        refine wpC_ret ?_
        have e101 := Option.some.inj hF
        subst e101
        refine ret_post (P := Try.prog) (vs := [v64, (.bool true)]) Try.results36 ⟨rfl, rfl, trivial⟩ ?_
        exact ⟨_, rt oo o66 w.heap.size 15 t, rfl, h65.rt hB (by decide) t, hB.keeps, rt_old _ _ _ _ _⟩
      · exact fun _ _ h => h.elim
    · exact fun _ _ h => h.elim

end Go.Proofs.Ytijaojnaamkinaa
