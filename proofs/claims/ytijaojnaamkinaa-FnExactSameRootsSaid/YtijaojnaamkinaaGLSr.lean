/- laws.FnExactSameRoots: plain functions, and the walks that show that the program computes them (printed by gen.py). -/
import Derived.Test.YtijaojnaamkinaaGNc
import Derived.Test.YtijaojnaamkinaaGNz
namespace Go.Proofs.Ytijaojnaamkinaa
open Go.RowKit
set_option linter.unusedSimpArgs false
set_option linter.unusedVariables false

theorem info1_t_impl_Network_LSr : (Try.prog.info? 31).map (·.size) = some 3 := by kernel_rfl

def fL_FnExactSameRoots (fuel : Nat) (p0 : T_Network) (p1 : Int) (p2 : T_Network) (p3 : Int) : Option Bool :=
  (fL_szNetwork fuel p0 1048576) >>= fun x23 =>
  if decide (x23 < 0) then
    some true
  else
    (fL_szNetwork fuel p2 x23) >>= fun x31 =>
    if decide (x31 < 0) then
      some true
    else
      (fL_toNetwork fuel p0) >>= fun x39 =>
      (fL_toNetwork fuel p2) >>= fun x57 =>
      (fS_SameRoots fuel x39 p1 x57 p3) >>= fun x75 =>
      (fL_toNetwork fuel p0) >>= fun x186 =>
      (fL_toNetwork fuel p2) >>= fun x212 =>
      (fI_SameRoots fuel x186 p1 x212 p3) >>= fun x238 =>
      (
        if x238.1 != x75.1 then
          some true
        else
          some (x238.2 != x75.2)) >>= fun q244 =>
      if q244 then
        some false
      else
        (fL_toNetwork fuel p0) >>= fun x253 =>
        (fL_eqNetwork fuel x186 x253) >>= fun x312 =>
        if !x312 then
          some false
        else
          (fL_toNetwork fuel p2) >>= fun x320 =>
          (fL_eqNetwork fuel x212 x320) >>= fun x379 =>
          if !x379 then
            some false
          else
            some true

def pL_FnExactSameRoots (w : World) (r : Bool) : Ending → World → Prop := fun e w' => e = .returned (.bool r) ∧ Keeps w w'
set_option maxRecDepth 100000 in
set_option maxHeartbeats 2000000 in
theorem cL_FnExactSameRoots (fuel : Nat) (w : World) (u0 : List Value) (p0 : T_Network) (g0 : Rp.rd zt w u0 p0) (p1 : Int) (u2 : List Value) (p2 : T_Network) (g2 : Rp.rd zt w u2 p2) (p3 : Int) (r : Bool) (hF : fL_FnExactSameRoots fuel p0 p1 p2 p3 = some r) :
    Calls Try.prog 3 #[.agg u0.toArray, .int .i64 p1, .agg u2.toArray, .int .i64 p3] w (pL_FnExactSameRoots w r) := by
  unfold fL_FnExactSameRoots at hF
  obtain ⟨v1, v3, v5, rfl, h2, h4, h6⟩ := g0
  obtain ⟨v7, v9, v11, rfl, h8, h10, h12⟩ := g2
  have hB : Bs (fun _ => 1) (col (fun _ => 1)) w w := Bs.start _ _
  refine calls_start (n := 66) (vs := [(.agg #[v1, v3, v5]), (.int .i64 p1), (.agg #[v7, v9, v11]), (.int .i64 p3)]) Try.func3 rfl rfl ?_
  refine wpC_seq ?_
  refine wpC_region ?_
  refine st_op (by decide) trivial ?_
  refine wf_box (o := (col (fun _ => 1))) w.heap.size 11 hB.keeps.size (cs := [v1, v3, v5]) rfl rfl ?_
  intro o13 w14 b15 h16 s17
  replace hB := hB.stp s17 (by decide)
  refine st_op (by decide) trivial ?_
  refine wf_box (o := o13) w.heap.size 12 hB.keeps.size (cs := [v7, v9, v11]) rfl rfl ?_
  intro o18 w19 b20 h21 s22
  replace h16 := h16.stp s22 (by decide)
  replace hB := hB.stp s22 (by decide)
  refine st_val (ex_assign rfl) (by decide) trivial ?_
  refine wpF_end (r := [(1, (.int .i64 p1)), (3, (.int .i64 p3)), (4, (.pointer (some ⟨b15, 0, none⟩))), (6, (.pointer (some ⟨b20, 0, none⟩)))]) ⟨rfl, rfl, rfl, rfl, trivial⟩ ?_
  refine nx ?_
  refine wpC_seq ?_
  refine wpC_region ?_
  refine st_val (ex_assign rfl) (by decide) trivial ?_
  refine wpF_end (r := [(1, (.int .i64 p1)), (3, (.int .i64 p3)), (4, (.pointer (some ⟨b15, 0, none⟩))), (6, (.pointer (some ⟨b20, 0, none⟩))), (9, (.int .i64 1048576))]) ⟨rfl, rfl, rfl, rfl, rfl, trivial⟩ ?_
  refine nx ?_
  refine wpC_seq ?_
  refine wpC_region ?_
  refine st_val (ex_loadA rfl Try.isAgg25 Try.sizeOf25 rfl h16.cells) (by decide) trivial ?_
  refine st_val (ex_move rfl) (by decide) trivial ?_
  obtain ⟨x23, hx23, hF⟩ := bind_some hF
  refine st_op (by decide) trivial ?_
  refine wf_call (cL_szNetwork fuel w19 _ p0 (⟨_, _, _, rfl, (h2.keep hB.keeps), (h4.keep hB.keeps), (h6.keep hB.keeps)⟩) 1048576 x23 hx23) Try.call13 ⟨rfl, rfl, trivial⟩ ?_
  rintro e28 w24 ⟨rfl, k25⟩
  have s27 := k25.stp 999 o18
  refine ⟨_, rfl, ?_⟩
  replace h16 := h16.stp s27 (by decide)
  replace h21 := h21.stp s27 (by decide)
  replace hB := hB.stp s27 (by decide)
  refine st_val (ex_assign rfl) (by decide) trivial ?_
  refine wpF_end (r := [(1, (.int .i64 p1)), (3, (.int .i64 p3)), (4, (.pointer (some ⟨b15, 0, none⟩))), (6, (.pointer (some ⟨b20, 0, none⟩))), (9, (.int .i64 x23))]) ⟨rfl, rfl, rfl, rfl, rfl, trivial⟩ ?_
  refine nx ?_
  refine wpC_seq ?_
  refine wpC_seq ?_
  refine wpC_region ?_
  refine st_val (ex_move rfl) (by decide) trivial ?_
  refine st_val (ex_lss rfl rfl) (by decide) trivial ?_
  refine wpF_end (r := [(1, (.int .i64 p1)), (3, (.int .i64 p3)), (4, (.pointer (some ⟨b15, 0, none⟩))), (6, (.pointer (some ⟨b20, 0, none⟩))), (9, (.int .i64 x23)), (20, (.bool (decide (x23 < 0))))]) ⟨rfl, rfl, rfl, rfl, rfl, rfl, trivial⟩ ?_
  refine nx ?_
  refine wpC_cond rfl (fun t29 => ?_) (fun t29 => ?_)
  · rw [if_pos t29] at hF
    refine wpC_seq ?_
    refine wpC_region ?_
    refine st_val (ex_assign rfl) (by decide) trivial ?_
    refine wpF_end (r := [(8, (.bool true))]) ⟨rfl, trivial⟩ ?_
    refine nx ?_
    refine wpC_ret ?_
    refine nt_ret ?_
    have e30 := Option.some.inj hF
    subst e30
    refine ret_post (P := Try.prog) (vs := [(.bool true)]) Try.results3 ⟨rfl, trivial⟩ ?_
    exact ⟨rfl, hB.keeps⟩
  · rw [if_neg (by rw [t29]; decide)] at hF
    refine wpC_skip ?_
    refine nx ?_
    refine wpC_seq ?_
    refine wpC_region ?_
    refine st_val (ex_loadA rfl Try.isAgg25 Try.sizeOf25 rfl h21.cells) (by decide) trivial ?_
    refine st_val (ex_move rfl) (by decide) trivial ?_
    obtain ⟨x31, hx31, hF⟩ := bind_some hF
    refine st_op (by decide) trivial ?_
    refine wf_call (cL_szNetwork fuel w24 _ p2 (⟨_, _, _, rfl, (h8.keep hB.keeps), (h10.keep hB.keeps), (h12.keep hB.keeps)⟩) x23 x31 hx31) Try.call13 ⟨rfl, rfl, trivial⟩ ?_
    rintro e36 w32 ⟨rfl, k33⟩
    have s35 := k33.stp 999 o18
    refine ⟨_, rfl, ?_⟩
    replace h16 := h16.stp s35 (by decide)
    replace h21 := h21.stp s35 (by decide)
    replace hB := hB.stp s35 (by decide)
    refine st_val (ex_assign rfl) (by decide) trivial ?_
    refine wpF_end (r := [(1, (.int .i64 p1)), (3, (.int .i64 p3)), (4, (.pointer (some ⟨b15, 0, none⟩))), (6, (.pointer (some ⟨b20, 0, none⟩))), (9, (.int .i64 x31))]) ⟨rfl, rfl, rfl, rfl, rfl, trivial⟩ ?_
    refine nx ?_
    refine wpC_seq ?_
    refine wpC_seq ?_
    refine wpC_region ?_
    refine st_val (ex_move rfl) (by decide) trivial ?_
    refine st_val (ex_lss rfl rfl) (by decide) trivial ?_
    refine wpF_end (r := [(1, (.int .i64 p1)), (3, (.int .i64 p3)), (4, (.pointer (some ⟨b15, 0, none⟩))), (6, (.pointer (some ⟨b20, 0, none⟩))), (25, (.bool (decide (x31 < 0))))]) ⟨rfl, rfl, rfl, rfl, rfl, trivial⟩ ?_
    refine nx ?_
    refine wpC_cond rfl (fun t37 => ?_) (fun t37 => ?_)
    · rw [if_pos t37] at hF
      refine wpC_seq ?_
      refine wpC_region ?_
      refine st_val (ex_assign rfl) (by decide) trivial ?_
      refine wpF_end (r := [(8, (.bool true))]) ⟨rfl, trivial⟩ ?_
      refine nx ?_
      refine wpC_ret ?_
      refine nt_ret ?_
      have e38 := Option.some.inj hF
      subst e38
      refine ret_post (P := Try.prog) (vs := [(.bool true)]) Try.results3 ⟨rfl, trivial⟩ ?_
      exact ⟨rfl, hB.keeps⟩
    · rw [if_neg (by rw [t37]; decide)] at hF
      refine wpC_skip ?_
      refine nx ?_
      refine wpC_seq ?_
      obtain ⟨x39, hx39, hF⟩ := bind_some hF
      obtain ⟨x57, hx57, hF⟩ := bind_some hF
      obtain ⟨x75, hx75, hF⟩ := bind_some hF
      refine wpC_drawn (o := o18) [(1, (.int .i64 p1)), (3, (.int .i64 p3)), (4, (.pointer (some ⟨b15, 0, none⟩))), (6, (.pointer (some ⟨b20, 0, none⟩)))] [1, 3, 4, 6] [27, 28, 29, 30, 31, 32, 33, 26, 34, 35, 10] [[], [0], [], [], [3], [], [1, 2, 4, 5], [6], [7], [7], [8]] [none, none, none, none, none, none, none, none, none, none, none] [999, 999, 999, 999, 999, 999, 999, 999, 999, 999, 999] [0, 0, 0, 0, 0, 0, 0, 0, 0, 0, 0] [999] [fun v _ _ => v = (.agg #[v1, v3, v5]), fun v o w9 => ∃ (c : List Value), v = .agg c.toArray ∧ Rp.rd o w9 c x39, fun v _ _ => v = (.int .i64 p1), fun v _ _ => v = (.agg #[v7, v9, v11]), fun v o w9 => ∃ (c : List Value), v = .agg c.toArray ∧ Rp.rd o w9 c x57, fun v _ _ => v = (.int .i64 p3), fun v _ _ => v = (.tuple #[(.bool x75.1), (.bool x75.2)]), fun v _ _ => v = (.tuple #[(.bool x75.1), (.bool x75.2)]), fun v _ _ => v = (.bool x75.1), fun v _ _ => v = (.bool x75.2), fun v _ _ => v = (.bool x75.1)] (fun o8 w8 => Bs (fun _ => 1) o8 w w8 ∧ Bx w.heap.size 11 o8 w8 b15 25 [v1, v3, v5] ∧ Bx w.heap.size 12 o8 w8 b20 25 [v7, v9, v11]) follows_mixed (by kernel_rfl) rfl ⟨rfl, rfl, rfl, rfl, trivial⟩ ⟨hB, h16, h21⟩ ?_ ⟨st_eq _, fun _ _ _ _ _ _ h0 hb ⟨c, e, h⟩ hs => ⟨c, e, Rp.stp h hs h0.1⟩, st_eq _, st_eq _, fun _ _ _ _ _ _ h0 hb ⟨c, e, h⟩ hs => ⟨c, e, Rp.stp h hs h0.1⟩, st_eq _, st_eq _, st_eq _, st_eq _, st_eq _, st_eq _, trivial⟩ ?_ ?_
      · rintro t9 o1 w1 o2 w2 ht9 ⟨hB, h16, h21⟩ hs9
        have ht9 : t9 = 999 := by simpa using ht9
        subst ht9
        all_goals exact ⟨hB.stp hs9 (by decide), h16.stp hs9 (by decide), h21.stp hs9 (by decide)⟩
      · refine ⟨?_, ?_, ?_, ?_, ?_, ?_, ?_, ?_, ?_, ?_, ?_, trivial⟩
        · rintro o81 w82 a83 ha ⟨hB, h16, h21⟩ -
          refine opS_of ha (trivial) ?_
          refine op1_val (ex_loadA rfl Try.isAgg25 Try.sizeOf25 rfl h16.cells) ?_
          exact ⟨_, Stp.refl _ _ _, rfl⟩
        · rintro o84 w85 a86 ha ⟨hB, h16, h21⟩ ⟨r87, -⟩
          have ha := Fr.cons (d := 27) ha r87
          refine opS_of ha (trivial) ?_
          refine wf_call (cL_toNetwork fuel w85 o84 18 (by decide) _ p0 (⟨_, _, _, rfl, (h2.keep hB.keeps), (h4.keep hB.keeps), (h6.keep hB.keeps)⟩) x39 hx39) Try.call15 ⟨rfl, trivial⟩ ?_
          rintro e97 w88 ⟨c89, o98, rfl, h90, h91, h92, h93, k94, k95⟩
          have s96 := k94.stp' 999 k95
          refine ⟨_, rfl, ?_⟩
          obtain ⟨v99, v101, v103, rfl, h100, h102, h104⟩ := h90
          replace h91 : Dz 110 115 o98 w88 v99 x39.Ends := h91
          replace h92 : Of 3 o98 w88 v101 x39.Ids := h92
          replace h93 : Of 3 o98 w88 v103 x39.Inputs := h93
          replace h16 := h16.stp s96 (by decide)
          replace h21 := h21.stp s96 (by decide)
          replace hB := hB.stp s96 (by decide)
          exact ⟨_, s96, ⟨_, rfl, ⟨_, _, _, rfl, h100, h102, h104⟩⟩⟩
        · rintro o105 w106 a107 ha ⟨hB, h16, h21⟩ -
          refine opS_of ha (trivial) ?_
          refine op1_val (ex_move rfl) ?_
          exact ⟨_, Stp.refl _ _ _, rfl⟩
        · rintro o108 w109 a110 ha ⟨hB, h16, h21⟩ -
          refine opS_of ha (trivial) ?_
          refine op1_val (ex_loadA rfl Try.isAgg25 Try.sizeOf25 rfl h21.cells) ?_
          exact ⟨_, Stp.refl _ _ _, rfl⟩
        · rintro o111 w112 a113 ha ⟨hB, h16, h21⟩ ⟨r114, -⟩
          have ha := Fr.cons (d := 30) ha r114
          refine opS_of ha (trivial) ?_
          refine wf_call (cL_toNetwork fuel w112 o111 19 (by decide) _ p2 (⟨_, _, _, rfl, (h8.keep hB.keeps), (h10.keep hB.keeps), (h12.keep hB.keeps)⟩) x57 hx57) Try.call15 ⟨rfl, trivial⟩ ?_
          rintro e124 w115 ⟨c116, o125, rfl, h117, h118, h119, h120, k121, k122⟩
          have s123 := k121.stp' 999 k122
          refine ⟨_, rfl, ?_⟩
          obtain ⟨v126, v128, v130, rfl, h127, h129, h131⟩ := h117
          replace h118 : Dz 110 115 o125 w115 v126 x57.Ends := h118
          replace h119 : Of 3 o125 w115 v128 x57.Ids := h119
          replace h120 : Of 3 o125 w115 v130 x57.Inputs := h120
          replace h16 := h16.stp s123 (by decide)
          replace h21 := h21.stp s123 (by decide)
          replace hB := hB.stp s123 (by decide)
          exact ⟨_, s123, ⟨_, rfl, ⟨_, _, _, rfl, h127, h129, h131⟩⟩⟩
        · rintro o132 w133 a134 ha ⟨hB, h16, h21⟩ -
          refine opS_of ha (trivial) ?_
          refine op1_val (ex_move rfl) ?_
          exact ⟨_, Stp.refl _ _ _, rfl⟩
        · rintro o135 w136 a137 ha ⟨hB, h16, h21⟩ ⟨r138, r139, r140, r141, -⟩
          obtain ⟨c142, e143, h144⟩ := r138
          obtain ⟨v145, v147, v149, rfl, h146, h148, h150⟩ := h144
          have ha := Fr.cons (d := 28) ha e143
          have ha := Fr.cons (d := 29) ha r139
          obtain ⟨c151, e152, h153⟩ := r140
          obtain ⟨v154, v156, v158, rfl, h155, h157, h159⟩ := h153
          have ha := Fr.cons (d := 31) ha e152
          have ha := Fr.cons (d := 32) ha r141
          refine opS_of ha (trivial) ?_
          refine wf_call (cS_SameRoots fuel w136 _ x39 (⟨_, _, _, rfl, h146.z, h148.z, h150.z⟩) p1 _ x57 (⟨_, _, _, rfl, h155.z, h157.z, h159.z⟩) p3 x75 hx75) Try.call14 ⟨rfl, rfl, rfl, rfl, trivial⟩ ?_
          rintro e164 w160 ⟨rfl, k161⟩
          have s163 := k161.stp 999 o135
          refine ⟨_, rfl, ?_⟩
          replace h146 := h146.stp s163 (by decide)
          replace h148 := h148.stp s163 (by decide)
          replace h150 := h150.stp s163 (by decide)
          replace h155 := h155.stp s163 (by decide)
          replace h157 := h157.stp s163 (by decide)
          replace h159 := h159.stp s163 (by decide)
          replace h16 := h16.stp s163 (by decide)
          replace h21 := h21.stp s163 (by decide)
          replace hB := hB.stp s163 (by decide)
          exact ⟨_, s163, rfl⟩
        · rintro o165 w166 a167 ha ⟨hB, h16, h21⟩ ⟨r168, -⟩
          have ha := Fr.cons (d := 33) ha r168
          refine opS_of ha (trivial) ?_
          refine op1_val (ex_move rfl) ?_
          exact ⟨_, Stp.refl _ _ _, rfl⟩
        · rintro o169 w170 a171 ha ⟨hB, h16, h21⟩ ⟨r172, -⟩
          have ha := Fr.cons (d := 26) ha r172
          refine opS_of ha (trivial) ?_
          refine op1_val (ex_extract rfl rfl) ?_
          exact ⟨_, Stp.refl _ _ _, rfl⟩
        · rintro o173 w174 a175 ha ⟨hB, h16, h21⟩ ⟨r176, -⟩
          have ha := Fr.cons (d := 26) ha r176
          refine opS_of ha (trivial) ?_
          refine op1_val (ex_extract rfl rfl) ?_
          exact ⟨_, Stp.refl _ _ _, rfl⟩
        · rintro o177 w178 a179 ha ⟨hB, h16, h21⟩ ⟨r180, -⟩
          have ha := Fr.cons (d := 34) ha r180
          refine opS_of ha (trivial) ?_
          refine op1_val (ex_assign rfl) ?_
          exact ⟨_, Stp.refl _ _ _, rfl⟩
      rintro o181 w182 a183 ha ⟨hB, h16, h21⟩ ⟨-, -, -, -, -, -, -, -, -, r184, r185, -⟩
      have ha := Fr.cons (d := 35) ha r184
      have ha := Fr.cons (d := 10) ha r185
      refine wl_of ha ?_
      simp only [List.length_cons, List.length_nil, Nat.zero_add, Nat.reduceAdd, List.drop_succ_cons, List.drop_zero]
      refine st_val (ex_assign rfl) (by decide) trivial ?_
      refine wpF_end (r := [(1, (.int .i64 p1)), (3, (.int .i64 p3)), (4, (.pointer (some ⟨b15, 0, none⟩))), (6, (.pointer (some ⟨b20, 0, none⟩))), (10, (.bool x75.1)), (11, (.bool x75.2))]) ⟨rfl, rfl, rfl, rfl, rfl, rfl, trivial⟩ ?_
      refine nx ?_
      refine wpC_seq ?_
      refine wpC_region ?_
      refine st_val (ex_loadA rfl Try.isAgg25 Try.sizeOf25 rfl h16.cells) (by decide) trivial ?_
      obtain ⟨x186, hx186, hF⟩ := bind_some hF
      refine st_op (by decide) trivial ?_
      refine wf_call (cL_toNetwork fuel w182 o181 21 (by decide) _ p0 (⟨_, _, _, rfl, (h2.keep hB.keeps), (h4.keep hB.keeps), (h6.keep hB.keeps)⟩) x186 hx186) Try.call15 ⟨rfl, trivial⟩ ?_
      rintro e196 w187 ⟨c188, o197, rfl, h189, h190, h191, h192, k193, k194⟩
      have s195 := k193.stp' 21 k194
      refine ⟨_, rfl, ?_⟩
      obtain ⟨v198, v200, v202, rfl, h199, h201, h203⟩ := h189
      replace h190 : Dz 110 115 o197 w187 v198 x186.Ends := h190
      replace h191 : Of 3 o197 w187 v200 x186.Ids := h191
      replace h192 : Of 3 o197 w187 v202 x186.Inputs := h192
      replace h16 := h16.stp s195 (by decide)
      replace h21 := h21.stp s195 (by decide)
      replace hB := hB.stp s195 (by decide)
      refine st_op (by decide) trivial ?_
      refine wf_alloc (o := o197) w.heap.size 22 hB.keeps.size (cs := [(.slice none 0 0), (.slice none 0 0), (.slice none 0 0)]) Try.zeroValue31 rfl ?_
      intro o204 w205 b206 h207 s208
      replace h199 := h199.stp s208 (by decide)
      replace h190 := h190.stp s208 (by decide)
      replace h201 := h201.stp s208 (by decide)
      replace h191 := h191.stp s208 (by decide)
      replace h203 := h203.stp s208 (by decide)
      replace h192 := h192.stp s208 (by decide)
      replace h16 := h16.stp s208 (by decide)
      replace h21 := h21.stp s208 (by decide)
      replace hB := hB.stp s208 (by decide)
      refine st_op0 trivial ?_
      refine wf_storeA h207 rfl rfl rfl info1_t_impl_Network_LSr (by intro c hc; simp only [List.mem_cons, List.not_mem_nil, or_false] at hc; rcases hc with rfl | rfl | rfl <;> first | rfl | exact h199.one1 | exact h201.one1 | exact h203.one1) ?_
      intro w209 h211 s210
      replace h199 := h199.stp s210 (by decide)
      replace h190 := h190.stp s210 (by decide)
      replace h201 := h201.stp s210 (by decide)
      replace h191 := h191.stp s210 (by decide)
      replace h203 := h203.stp s210 (by decide)
      replace h192 := h192.stp s210 (by decide)
      replace h16 := h16.stp s210 (by decide)
      replace h21 := h21.stp s210 (by decide)
      replace hB := hB.stp s210 (by decide)
      refine wpF_end (r := [(1, (.int .i64 p1)), (3, (.int .i64 p3)), (4, (.pointer (some ⟨b15, 0, none⟩))), (6, (.pointer (some ⟨b20, 0, none⟩))), (10, (.bool x75.1)), (11, (.bool x75.2)), (12, (.pointer (some ⟨b206, 0, none⟩)))]) ⟨rfl, rfl, rfl, rfl, rfl, rfl, rfl, trivial⟩ ?_
      refine nx ?_
      refine wpC_seq ?_
      refine wpC_region ?_
      refine st_val (ex_loadA rfl Try.isAgg25 Try.sizeOf25 rfl h21.cells) (by decide) trivial ?_
      obtain ⟨x212, hx212, hF⟩ := bind_some hF
      refine st_op (by decide) trivial ?_
      refine wf_call (cL_toNetwork fuel w209 o204 23 (by decide) _ p2 (⟨_, _, _, rfl, (h8.keep hB.keeps), (h10.keep hB.keeps), (h12.keep hB.keeps)⟩) x212 hx212) Try.call15 ⟨rfl, trivial⟩ ?_
      rintro e222 w213 ⟨c214, o223, rfl, h215, h216, h217, h218, k219, k220⟩
      have s221 := k219.stp' 23 k220
      refine ⟨_, rfl, ?_⟩
      obtain ⟨v224, v226, v228, rfl, h225, h227, h229⟩ := h215
      replace h216 : Dz 110 115 o223 w213 v224 x212.Ends := h216
      replace h217 : Of 3 o223 w213 v226 x212.Ids := h217
      replace h218 : Of 3 o223 w213 v228 x212.Inputs := h218
      replace h16 := h16.stp s221 (by decide)
      replace h21 := h21.stp s221 (by decide)
      replace h211 := h211.stp s221 (by decide)
      replace h199 := h199.stp s221 (by decide)
      replace h190 := h190.stp s221 (by decide)
      replace h201 := h201.stp s221 (by decide)
      replace h191 := h191.stp s221 (by decide)
      replace h203 := h203.stp s221 (by decide)
      replace h192 := h192.stp s221 (by decide)
      replace hB := hB.stp s221 (by decide)
      refine st_op (by decide) trivial ?_
      refine wf_alloc (o := o223) w.heap.size 24 hB.keeps.size (cs := [(.slice none 0 0), (.slice none 0 0), (.slice none 0 0)]) Try.zeroValue31 rfl ?_
      intro o230 w231 b232 h233 s234
      replace h225 := h225.stp s234 (by decide)
      replace h216 := h216.stp s234 (by decide)
      replace h227 := h227.stp s234 (by decide)
      replace h217 := h217.stp s234 (by decide)
      replace h229 := h229.stp s234 (by decide)
      replace h218 := h218.stp s234 (by decide)
      replace h16 := h16.stp s234 (by decide)
      replace h21 := h21.stp s234 (by decide)
      replace h211 := h211.stp s234 (by decide)
      replace h199 := h199.stp s234 (by decide)
      replace h190 := h190.stp s234 (by decide)
      replace h201 := h201.stp s234 (by decide)
      replace h191 := h191.stp s234 (by decide)
      replace h203 := h203.stp s234 (by decide)
      replace h192 := h192.stp s234 (by decide)
      replace hB := hB.stp s234 (by decide)
      refine st_op0 trivial ?_
      refine wf_storeA h233 rfl rfl rfl info1_t_impl_Network_LSr (by intro c hc; simp only [List.mem_cons, List.not_mem_nil, or_false] at hc; rcases hc with rfl | rfl | rfl <;> first | rfl | exact h225.one1 | exact h227.one1 | exact h229.one1) ?_
      intro w235 h237 s236
      replace h225 := h225.stp s236 (by decide)
      replace h216 := h216.stp s236 (by decide)
      replace h227 := h227.stp s236 (by decide)
      replace h217 := h217.stp s236 (by decide)
      replace h229 := h229.stp s236 (by decide)
      replace h218 := h218.stp s236 (by decide)
      replace h16 := h16.stp s236 (by decide)
      replace h21 := h21.stp s236 (by decide)
      replace h211 := h211.stp s236 (by decide)
      replace h199 := h199.stp s236 (by decide)
      replace h190 := h190.stp s236 (by decide)
      replace h201 := h201.stp s236 (by decide)
      replace h191 := h191.stp s236 (by decide)
      replace h203 := h203.stp s236 (by decide)
      replace h192 := h192.stp s236 (by decide)
      replace hB := hB.stp s236 (by decide)
      refine wpF_end (r := [(1, (.int .i64 p1)), (3, (.int .i64 p3)), (4, (.pointer (some ⟨b15, 0, none⟩))), (6, (.pointer (some ⟨b20, 0, none⟩))), (10, (.bool x75.1)), (11, (.bool x75.2)), (12, (.pointer (some ⟨b206, 0, none⟩))), (13, (.pointer (some ⟨b232, 0, none⟩)))]) ⟨rfl, rfl, rfl, rfl, rfl, rfl, rfl, rfl, trivial⟩ ?_
      refine nx ?_
      refine wpC_seq ?_
      refine wpC_region ?_
      refine st_val (ex_loadA rfl Try.isAgg31 Try.sizeOf31 rfl h211.cells) (by decide) trivial ?_
      refine st_val (ex_move rfl) (by decide) trivial ?_
      refine st_val (ex_loadA rfl Try.isAgg31 Try.sizeOf31 rfl h237.cells) (by decide) trivial ?_
      refine st_val (ex_move rfl) (by decide) trivial ?_
      obtain ⟨x238, hx238, hF⟩ := bind_some hF
      refine st_op (by decide) trivial ?_
      refine wf_call (cI_SameRoots fuel w235 _ x186 (⟨_, _, _, rfl, h199.z, h201.z, h203.z⟩) p1 _ x212 (⟨_, _, _, rfl, h225.z, h227.z, h229.z⟩) p3 x238 hx238) Try.call16 ⟨rfl, rfl, rfl, rfl, trivial⟩ ?_
      rintro e243 w239 ⟨rfl, k240⟩
      have s242 := k240.stp 999 o230
      refine ⟨_, rfl, ?_⟩
      replace h199 := h199.stp s242 (by decide)
      replace h190 := h190.stp s242 (by decide)
      replace h201 := h201.stp s242 (by decide)
      replace h191 := h191.stp s242 (by decide)
      replace h203 := h203.stp s242 (by decide)
      replace h192 := h192.stp s242 (by decide)
      replace h225 := h225.stp s242 (by decide)
      replace h216 := h216.stp s242 (by decide)
      replace h227 := h227.stp s242 (by decide)
      replace h217 := h217.stp s242 (by decide)
      replace h229 := h229.stp s242 (by decide)
      replace h218 := h218.stp s242 (by decide)
      replace h16 := h16.stp s242 (by decide)
      replace h21 := h21.stp s242 (by decide)
      replace h211 := h211.stp s242 (by decide)
      replace h237 := h237.stp s242 (by decide)
      replace hB := hB.stp s242 (by decide)
      refine st_val (ex_move rfl) (by decide) trivial ?_
      refine st_val (ex_extract rfl rfl) (by decide) trivial ?_
      refine st_val (ex_extract rfl rfl) (by decide) trivial ?_
      refine st_val (ex_assign rfl) (by decide) trivial ?_
      refine st_val (ex_assign rfl) (by decide) trivial ?_
      refine wpF_end (r := [(4, (.pointer (some ⟨b15, 0, none⟩))), (6, (.pointer (some ⟨b20, 0, none⟩))), (10, (.bool x75.1)), (11, (.bool x75.2)), (12, (.pointer (some ⟨b206, 0, none⟩))), (13, (.pointer (some ⟨b232, 0, none⟩))), (14, (.bool x238.1)), (15, (.bool x238.2))]) ⟨rfl, rfl, rfl, rfl, rfl, rfl, rfl, rfl, trivial⟩ ?_
      refine nx ?_
      refine wpC_seq ?_
      refine wpC_seq ?_
      refine wpC_region ?_
      refine st_val (ex_move rfl) (by decide) trivial ?_
      refine st_val (ex_move rfl) (by decide) trivial ?_
      refine st_val (ex_bneq rfl rfl Try.underlying4) (by decide) trivial ?_
      refine st_val (ex_move rfl) (by decide) trivial ?_
      obtain ⟨q244, hq244, hF⟩ := bind_some hF
      refine wpF_cutAt 4 (fun a246 w245 => Fr a246 66 [(4, (.pointer (some ⟨b15, 0, none⟩))), (6, (.pointer (some ⟨b20, 0, none⟩))), (12, (.pointer (some ⟨b206, 0, none⟩))), (13, (.pointer (some ⟨b232, 0, none⟩))), (55, (.bool q244))] ∧ Keeps w239 w245) ?_ ?_
      all_goals simp only [List.take_succ_cons, List.take_zero, List.drop_succ_cons, List.drop_zero]
      · have kp : Keeps w239 w239 := Keeps.refl _
        rcases Bool.eq_false_or_eq_true (x238.1 != x75.1) with t247 | t247
        · rw [if_pos t247] at hq244
          refine st_no rfl rfl (by rw [t247]; rfl) (by decide) ?_
          refine st_no rfl rfl (by rw [t247]; rfl) (by decide) ?_
          refine st_no rfl rfl (by rw [t247]; rfl) (by decide) ?_
          refine st_val (ex_pick_t (congrArg (fun b => some (Value.bool b)) t247) rfl) (by decide) trivial ?_
          have hq2442 := Option.some.inj hq244
          refine wpF_end (r := [(4, (.pointer (some ⟨b15, 0, none⟩))), (6, (.pointer (some ⟨b20, 0, none⟩))), (12, (.pointer (some ⟨b206, 0, none⟩))), (13, (.pointer (some ⟨b232, 0, none⟩))), (55, (.bool true))]) ⟨rfl, rfl, rfl, rfl, rfl, trivial⟩ ?_
          subst hq2442
          refine np_norm (fun a ha => ⟨ha, kp⟩)
        · rw [if_neg (by rw [t247]; decide)] at hq244
          refine st_val (ex_move rfl) (by decide) ⟨_, rfl, (congrArg (fun b => some (Value.bool b)) t247)⟩ ?_
          refine st_val (ex_move rfl) (by decide) ⟨_, rfl, (congrArg (fun b => some (Value.bool b)) t247)⟩ ?_
          refine st_val (ex_bneq rfl rfl Try.underlying4) (by decide) ⟨_, rfl, (congrArg (fun b => some (Value.bool b)) t247)⟩ ?_
          refine st_val (ex_pick_f (congrArg (fun b => some (Value.bool b)) t247) rfl) (by decide) trivial ?_
          have hq2442 := Option.some.inj hq244
          refine wpF_end (r := [(4, (.pointer (some ⟨b15, 0, none⟩))), (6, (.pointer (some ⟨b20, 0, none⟩))), (12, (.pointer (some ⟨b206, 0, none⟩))), (13, (.pointer (some ⟨b232, 0, none⟩))), (55, (.bool (x238.2 != x75.2)))]) ⟨rfl, rfl, rfl, rfl, rfl, trivial⟩ ?_
          subst hq2442
          refine np_norm (fun a ha => ⟨ha, kp⟩)
      rintro a250 w245 ⟨ha, k248⟩
      have s249 := k248.stp 999 o230
      replace h16 := h16.stp s249 (by decide)
      replace h21 := h21.stp s249 (by decide)
      replace h211 := h211.stp s249 (by decide)
      replace h199 := h199.stp s249 (by decide)
      replace h190 := h190.stp s249 (by decide)
      replace h201 := h201.stp s249 (by decide)
      replace h191 := h191.stp s249 (by decide)
      replace h203 := h203.stp s249 (by decide)
      replace h192 := h192.stp s249 (by decide)
      replace h237 := h237.stp s249 (by decide)
      replace h225 := h225.stp s249 (by decide)
      replace h216 := h216.stp s249 (by decide)
      replace h227 := h227.stp s249 (by decide)
      replace h217 := h217.stp s249 (by decide)
      replace h229 := h229.stp s249 (by decide)
      replace h218 := h218.stp s249 (by decide)
      replace hB := hB.stp s249 (by decide)
      refine wl_of ha ?_
      refine wpF_end (r := [(4, (.pointer (some ⟨b15, 0, none⟩))), (6, (.pointer (some ⟨b20, 0, none⟩))), (12, (.pointer (some ⟨b206, 0, none⟩))), (13, (.pointer (some ⟨b232, 0, none⟩))), (55, (.bool q244))]) ⟨rfl, rfl, rfl, rfl, rfl, trivial⟩ ?_
      refine nx ?_
      refine wpC_cond rfl (fun t251 => ?_) (fun t251 => ?_)
      · rw [if_pos t251] at hF
        refine wpC_seq ?_
        refine wpC_region ?_
        refine st_val (ex_assign rfl) (by decide) trivial ?_
        refine wpF_end (r := [(8, (.bool false))]) ⟨rfl, trivial⟩ ?_
        refine nx ?_
        refine wpC_ret ?_
        refine nt_ret ?_
        have e252 := Option.some.inj hF
        subst e252
        refine ret_post (P := Try.prog) (vs := [(.bool false)]) Try.results3 ⟨rfl, trivial⟩ ?_
        exact ⟨rfl, hB.keeps⟩
      · rw [if_neg (by rw [t251]; decide)] at hF
        refine wpC_skip ?_
        refine nx ?_
        refine wpC_seq ?_
        refine wpC_seq ?_
        obtain ⟨x253, hx253, hF⟩ := bind_some hF
        refine wpC_drawn (o := o230) [(4, (.pointer (some ⟨b15, 0, none⟩))), (6, (.pointer (some ⟨b20, 0, none⟩))), (12, (.pointer (some ⟨b206, 0, none⟩))), (13, (.pointer (some ⟨b232, 0, none⟩)))] [4, 6, 12, 13] [56, 57, 58] [[], [], [1]] [none, none, none] [999, 999, 999] [0, 0, 0] [999] [fun v _ _ => v = (.agg #[v198, v200, v202]), fun v _ _ => v = (.agg #[v1, v3, v5]), fun v o w9 => ∃ (c : List Value), v = .agg c.toArray ∧ Rp.rd o w9 c x253] (fun o8 w8 => Bs (fun _ => 1) o8 w w8 ∧ Bx w.heap.size 11 o8 w8 b15 25 [v1, v3, v5] ∧ Bx w.heap.size 12 o8 w8 b20 25 [v7, v9, v11] ∧ Bx w.heap.size 22 o8 w8 b206 31 [v198, v200, v202] ∧ RdL o8 w8 v198 (x186.Ends : List (List T_End)) ∧ Dz 110 115 o8 w8 v198 (x186.Ends : List (List T_End)) ∧ RdL o8 w8 v200 (x186.Ids : List Int) ∧ Of 3 o8 w8 v200 (x186.Ids : List Int) ∧ RdL o8 w8 v202 (x186.Inputs : List Int) ∧ Of 3 o8 w8 v202 (x186.Inputs : List Int) ∧ Bx w.heap.size 24 o8 w8 b232 31 [v224, v226, v228] ∧ RdL o8 w8 v224 (x212.Ends : List (List T_End)) ∧ Dz 110 115 o8 w8 v224 (x212.Ends : List (List T_End)) ∧ RdL o8 w8 v226 (x212.Ids : List Int) ∧ Of 3 o8 w8 v226 (x212.Ids : List Int) ∧ RdL o8 w8 v228 (x212.Inputs : List Int) ∧ Of 3 o8 w8 v228 (x212.Inputs : List Int)) follows_mixed (by kernel_rfl) rfl ⟨rfl, rfl, rfl, rfl, trivial⟩ ⟨hB, h16, h21, h211, h199, h190, h201, h191, h203, h192, h237, h225, h216, h227, h217, h229, h218⟩ ?_ ⟨st_eq _, st_eq _, fun _ _ _ _ _ _ h0 hb ⟨c, e, h⟩ hs => ⟨c, e, Rp.stp h hs h0.1⟩, trivial⟩ ?_ ?_
        · rintro t9 o1 w1 o2 w2 ht9 ⟨hB, h16, h21, h211, h199, h190, h201, h191, h203, h192, h237, h225, h216, h227, h217, h229, h218⟩ hs9
          have ht9 : t9 = 999 := by simpa using ht9
          subst ht9
          all_goals exact ⟨hB.stp hs9 (by decide), h16.stp hs9 (by decide), h21.stp hs9 (by decide), h211.stp hs9 (by decide), h199.stp hs9 (by decide), h190.stp hs9 (by decide), h201.stp hs9 (by decide), h191.stp hs9 (by decide), h203.stp hs9 (by decide), h192.stp hs9 (by decide), h237.stp hs9 (by decide), h225.stp hs9 (by decide), h216.stp hs9 (by decide), h227.stp hs9 (by decide), h217.stp hs9 (by decide), h229.stp hs9 (by decide), h218.stp hs9 (by decide)⟩
        · refine ⟨?_, ?_, ?_, trivial⟩
          · rintro o271 w272 a273 ha ⟨hB, h16, h21, h211, h199, h190, h201, h191, h203, h192, h237, h225, h216, h227, h217, h229, h218⟩ -
            refine opS_of ha (trivial) ?_
            refine op1_val (ex_loadA rfl Try.isAgg31 Try.sizeOf31 rfl h211.cells) ?_
            exact ⟨_, Stp.refl _ _ _, rfl⟩
          · rintro o274 w275 a276 ha ⟨hB, h16, h21, h211, h199, h190, h201, h191, h203, h192, h237, h225, h216, h227, h217, h229, h218⟩ -
            refine opS_of ha (trivial) ?_
            refine op1_val (ex_loadA rfl Try.isAgg25 Try.sizeOf25 rfl h16.cells) ?_
            exact ⟨_, Stp.refl _ _ _, rfl⟩
          · rintro o277 w278 a279 ha ⟨hB, h16, h21, h211, h199, h190, h201, h191, h203, h192, h237, h225, h216, h227, h217, h229, h218⟩ ⟨r280, -⟩
            have ha := Fr.cons (d := 57) ha r280
            refine opS_of ha (trivial) ?_
            refine wf_call (cL_toNetwork fuel w278 o277 27 (by decide) _ p0 (⟨_, _, _, rfl, (h2.keep hB.keeps), (h4.keep hB.keeps), (h6.keep hB.keeps)⟩) x253 hx253) Try.call15 ⟨rfl, trivial⟩ ?_
            rintro e290 w281 ⟨c282, o291, rfl, h283, h284, h285, h286, k287, k288⟩
            have s289 := k287.stp' 999 k288
            refine ⟨_, rfl, ?_⟩
            obtain ⟨v292, v294, v296, rfl, h293, h295, h297⟩ := h283
            replace h284 : Dz 110 115 o291 w281 v292 x253.Ends := h284
            replace h285 : Of 3 o291 w281 v294 x253.Ids := h285
            replace h286 : Of 3 o291 w281 v296 x253.Inputs := h286
            replace h16 := h16.stp s289 (by decide)
            replace h21 := h21.stp s289 (by decide)
            replace h211 := h211.stp s289 (by decide)
            replace h199 := h199.stp s289 (by decide)
            replace h190 := h190.stp s289 (by decide)
            replace h201 := h201.stp s289 (by decide)
            replace h191 := h191.stp s289 (by decide)
            replace h203 := h203.stp s289 (by decide)
            replace h192 := h192.stp s289 (by decide)
            replace h237 := h237.stp s289 (by decide)
            replace h225 := h225.stp s289 (by decide)
            replace h216 := h216.stp s289 (by decide)
            replace h227 := h227.stp s289 (by decide)
            replace h217 := h217.stp s289 (by decide)
            replace h229 := h229.stp s289 (by decide)
            replace h218 := h218.stp s289 (by decide)
            replace hB := hB.stp s289 (by decide)
            exact ⟨_, s289, ⟨_, rfl, ⟨_, _, _, rfl, h293, h295, h297⟩⟩⟩
        rintro o298 w299 a300 ha ⟨hB, h16, h21, h211, h199, h190, h201, h191, h203, h192, h237, h225, h216, h227, h217, h229, h218⟩ ⟨r301, -, r302, -⟩
        have ha := Fr.cons (d := 56) ha r301
        obtain ⟨c303, e304, h305⟩ := r302
        obtain ⟨v306, v308, v310, rfl, h307, h309, h311⟩ := h305
        have ha := Fr.cons (d := 58) ha e304
        refine wl_of ha ?_
        simp only [List.length_cons, List.length_nil, Nat.zero_add, Nat.reduceAdd, List.drop_succ_cons, List.drop_zero]
        obtain ⟨x312, hx312, hF⟩ := bind_some hF
        refine st_op (by decide) trivial ?_
        refine wf_call (cL_eqNetwork fuel w299 _ x186 (⟨_, _, _, rfl, h199.z, h201.z, h203.z⟩) _ x253 (⟨_, _, _, rfl, h307.z, h309.z, h311.z⟩) x312 hx312) Try.call17 ⟨rfl, rfl, trivial⟩ ?_
        rintro e317 w313 ⟨rfl, k314⟩
        have s316 := k314.stp 999 o298
        refine ⟨_, rfl, ?_⟩
        replace h199 := h199.stp s316 (by decide)
        replace h190 := h190.stp s316 (by decide)
        replace h201 := h201.stp s316 (by decide)
        replace h191 := h191.stp s316 (by decide)
        replace h203 := h203.stp s316 (by decide)
        replace h192 := h192.stp s316 (by decide)
        replace h307 := h307.stp s316 (by decide)
        replace h309 := h309.stp s316 (by decide)
        replace h311 := h311.stp s316 (by decide)
        replace h16 := h16.stp s316 (by decide)
        replace h21 := h21.stp s316 (by decide)
        replace h211 := h211.stp s316 (by decide)
        replace h237 := h237.stp s316 (by decide)
        replace h225 := h225.stp s316 (by decide)
        replace h216 := h216.stp s316 (by decide)
        replace h227 := h227.stp s316 (by decide)
        replace h217 := h217.stp s316 (by decide)
        replace h229 := h229.stp s316 (by decide)
        replace h218 := h218.stp s316 (by decide)
        replace hB := hB.stp s316 (by decide)
        refine st_val (ex_not rfl) (by decide) trivial ?_
        refine wpF_end (r := [(6, (.pointer (some ⟨b20, 0, none⟩))), (13, (.pointer (some ⟨b232, 0, none⟩))), (60, (.bool (!x312)))]) ⟨rfl, rfl, rfl, trivial⟩ ?_
        refine nx ?_
        refine wpC_cond rfl (fun t318 => ?_) (fun t318 => ?_)
        · rw [if_pos t318] at hF
          refine wpC_seq ?_
          refine wpC_region ?_
          refine st_val (ex_assign rfl) (by decide) trivial ?_
          refine wpF_end (r := [(8, (.bool false))]) ⟨rfl, trivial⟩ ?_
          refine nx ?_
          refine wpC_ret ?_
          refine nt_ret ?_
          have e319 := Option.some.inj hF
          subst e319
          refine ret_post (P := Try.prog) (vs := [(.bool false)]) Try.results3 ⟨rfl, trivial⟩ ?_
          exact ⟨rfl, hB.keeps⟩
        · rw [if_neg (by rw [t318]; decide)] at hF
          refine wpC_skip ?_
          refine nx ?_
          refine wpC_seq ?_
          refine wpC_seq ?_
          obtain ⟨x320, hx320, hF⟩ := bind_some hF
          refine wpC_drawn (o := o298) [(6, (.pointer (some ⟨b20, 0, none⟩))), (13, (.pointer (some ⟨b232, 0, none⟩)))] [6, 13] [61, 62, 63] [[], [], [1]] [none, none, none] [999, 999, 999] [0, 0, 0] [999] [fun v _ _ => v = (.agg #[v224, v226, v228]), fun v _ _ => v = (.agg #[v7, v9, v11]), fun v o w9 => ∃ (c : List Value), v = .agg c.toArray ∧ Rp.rd o w9 c x320] (fun o8 w8 => Bs (fun _ => 1) o8 w w8 ∧ Bx w.heap.size 12 o8 w8 b20 25 [v7, v9, v11] ∧ Bx w.heap.size 24 o8 w8 b232 31 [v224, v226, v228] ∧ RdL o8 w8 v224 (x212.Ends : List (List T_End)) ∧ Dz 110 115 o8 w8 v224 (x212.Ends : List (List T_End)) ∧ RdL o8 w8 v226 (x212.Ids : List Int) ∧ Of 3 o8 w8 v226 (x212.Ids : List Int) ∧ RdL o8 w8 v228 (x212.Inputs : List Int) ∧ Of 3 o8 w8 v228 (x212.Inputs : List Int)) follows_mixed (by kernel_rfl) rfl ⟨rfl, rfl, trivial⟩ ⟨hB, h21, h237, h225, h216, h227, h217, h229, h218⟩ ?_ ⟨st_eq _, st_eq _, fun _ _ _ _ _ _ h0 hb ⟨c, e, h⟩ hs => ⟨c, e, Rp.stp h hs h0.1⟩, trivial⟩ ?_ ?_
          · rintro t9 o1 w1 o2 w2 ht9 ⟨hB, h21, h237, h225, h216, h227, h217, h229, h218⟩ hs9
            have ht9 : t9 = 999 := by simpa using ht9
            subst ht9
            all_goals exact ⟨hB.stp hs9 (by decide), h21.stp hs9 (by decide), h237.stp hs9 (by decide), h225.stp hs9 (by decide), h216.stp hs9 (by decide), h227.stp hs9 (by decide), h217.stp hs9 (by decide), h229.stp hs9 (by decide), h218.stp hs9 (by decide)⟩
          · refine ⟨?_, ?_, ?_, trivial⟩
            · rintro o338 w339 a340 ha ⟨hB, h21, h237, h225, h216, h227, h217, h229, h218⟩ -
              refine opS_of ha (trivial) ?_
              refine op1_val (ex_loadA rfl Try.isAgg31 Try.sizeOf31 rfl h237.cells) ?_
              exact ⟨_, Stp.refl _ _ _, rfl⟩
            · rintro o341 w342 a343 ha ⟨hB, h21, h237, h225, h216, h227, h217, h229, h218⟩ -
              refine opS_of ha (trivial) ?_
              refine op1_val (ex_loadA rfl Try.isAgg25 Try.sizeOf25 rfl h21.cells) ?_
              exact ⟨_, Stp.refl _ _ _, rfl⟩
            · rintro o344 w345 a346 ha ⟨hB, h21, h237, h225, h216, h227, h217, h229, h218⟩ ⟨r347, -⟩
              have ha := Fr.cons (d := 62) ha r347
              refine opS_of ha (trivial) ?_
              refine wf_call (cL_toNetwork fuel w345 o344 30 (by decide) _ p2 (⟨_, _, _, rfl, (h8.keep hB.keeps), (h10.keep hB.keeps), (h12.keep hB.keeps)⟩) x320 hx320) Try.call15 ⟨rfl, trivial⟩ ?_
              rintro e357 w348 ⟨c349, o358, rfl, h350, h351, h352, h353, k354, k355⟩
              have s356 := k354.stp' 999 k355
              refine ⟨_, rfl, ?_⟩
              obtain ⟨v359, v361, v363, rfl, h360, h362, h364⟩ := h350
              replace h351 : Dz 110 115 o358 w348 v359 x320.Ends := h351
              replace h352 : Of 3 o358 w348 v361 x320.Ids := h352
              replace h353 : Of 3 o358 w348 v363 x320.Inputs := h353
              replace h21 := h21.stp s356 (by decide)
              replace h237 := h237.stp s356 (by decide)
              replace h225 := h225.stp s356 (by decide)
              replace h216 := h216.stp s356 (by decide)
              replace h227 := h227.stp s356 (by decide)
              replace h217 := h217.stp s356 (by decide)
              replace h229 := h229.stp s356 (by decide)
              replace h218 := h218.stp s356 (by decide)
              replace hB := hB.stp s356 (by decide)
              exact ⟨_, s356, ⟨_, rfl, ⟨_, _, _, rfl, h360, h362, h364⟩⟩⟩
          rintro o365 w366 a367 ha ⟨hB, h21, h237, h225, h216, h227, h217, h229, h218⟩ ⟨r368, -, r369, -⟩
          have ha := Fr.cons (d := 61) ha r368
          obtain ⟨c370, e371, h372⟩ := r369
          obtain ⟨v373, v375, v377, rfl, h374, h376, h378⟩ := h372
          have ha := Fr.cons (d := 63) ha e371
          refine wl_of ha ?_
          simp only [List.length_cons, List.length_nil, Nat.zero_add, Nat.reduceAdd, List.drop_succ_cons, List.drop_zero]
          obtain ⟨x379, hx379, hF⟩ := bind_some hF
          refine st_op (by decide) trivial ?_
          refine wf_call (cL_eqNetwork fuel w366 _ x212 (⟨_, _, _, rfl, h225.z, h227.z, h229.z⟩) _ x320 (⟨_, _, _, rfl, h374.z, h376.z, h378.z⟩) x379 hx379) Try.call17 ⟨rfl, rfl, trivial⟩ ?_
          rintro e384 w380 ⟨rfl, k381⟩
          have s383 := k381.stp 999 o365
          refine ⟨_, rfl, ?_⟩
          replace h225 := h225.stp s383 (by decide)
          replace h216 := h216.stp s383 (by decide)
          replace h227 := h227.stp s383 (by decide)
          replace h217 := h217.stp s383 (by decide)
          replace h229 := h229.stp s383 (by decide)
          replace h218 := h218.stp s383 (by decide)
          replace h374 := h374.stp s383 (by decide)
          replace h376 := h376.stp s383 (by decide)
          replace h378 := h378.stp s383 (by decide)
          replace h21 := h21.stp s383 (by decide)
          replace h237 := h237.stp s383 (by decide)
          replace hB := hB.stp s383 (by decide)
          refine st_val (ex_not rfl) (by decide) trivial ?_
          refine wpF_end (r := [(65, (.bool (!x379)))]) ⟨rfl, trivial⟩ ?_
          refine nx ?_
          refine wpC_cond rfl (fun t385 => ?_) (fun t385 => ?_)
          · rw [if_pos t385] at hF
            refine wpC_seq ?_
            refine wpC_region ?_
            refine st_val (ex_assign rfl) (by decide) trivial ?_
            refine wpF_end (r := [(8, (.bool false))]) ⟨rfl, trivial⟩ ?_
            refine nx ?_
            refine wpC_ret ?_
            refine nt_ret ?_
            have e386 := Option.some.inj hF
            subst e386
            refine ret_post (P := Try.prog) (vs := [(.bool false)]) Try.results3 ⟨rfl, trivial⟩ ?_
            exact ⟨rfl, hB.keeps⟩
          · rw [if_neg (by rw [t385]; decide)] at hF
            refine wpC_skip ?_
            refine nx ?_
            refine wpC_seq ?_
            refine wpC_region ?_
            refine st_val (ex_assign rfl) (by decide) trivial ?_
            refine wpF_end (r := [(8, (.bool true))]) ⟨rfl, trivial⟩ ?_
            refine nx ?_
            refine wpC_ret ?_
            have e387 := Option.some.inj hF
            subst e387
            refine ret_post (P := Try.prog) (vs := [(.bool true)]) Try.results3 ⟨rfl, trivial⟩ ?_
            exact ⟨rfl, hB.keeps⟩

end Go.Proofs.Ytijaojnaamkinaa
