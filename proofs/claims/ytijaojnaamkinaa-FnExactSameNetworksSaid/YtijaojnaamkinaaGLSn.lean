/- laws.FnExactSameNetworks: plain functions, and the walks that show that the program computes them (printed by gen.py). -/
import Derived.Test.YtijaojnaamkinaaGNi
import Derived.Test.YtijaojnaamkinaaGNz
namespace Go.Proofs.Ytijaojnaamkinaa
open Go.RowKit
set_option linter.unusedSimpArgs false
set_option linter.unusedVariables false

theorem info1_t_impl_Network_LSn : (Try.prog.info? 31).map (·.size) = some 3 := by kernel_rfl

def fL_FnExactSameNetworks (fuel : Nat) (p0 : T_Network) (p1 : T_Network) : Option Bool :=
  (fL_szNetwork fuel p0 1048576) >>= fun x23 =>
  if decide (x23 < 0) then
    some true
  else
    (fL_szNetwork fuel p1 x23) >>= fun x31 =>
    if decide (x31 < 0) then
      some true
    else
      (fL_toNetwork fuel p0) >>= fun x39 =>
      (fL_toNetwork fuel p1) >>= fun x57 =>
      (fS_SameNetworks fuel x39 x57) >>= fun x75 =>
      (fL_toNetwork fuel p0) >>= fun x178 =>
      (fL_toNetwork fuel p1) >>= fun x204 =>
      (fI_SameNetworks fuel x178 x204) >>= fun x230 =>
      (
        if x230.1 != x75.1 then
          some true
        else
          some (x230.2 != x75.2)) >>= fun q236 =>
      if q236 then
        some false
      else
        (fL_toNetwork fuel p0) >>= fun x245 =>
        (fL_eqNetwork fuel x178 x245) >>= fun x304 =>
        if !x304 then
          some false
        else
          (fL_toNetwork fuel p1) >>= fun x312 =>
          (fL_eqNetwork fuel x204 x312) >>= fun x371 =>
          if !x371 then
            some false
          else
            some true

def pL_FnExactSameNetworks (w : World) (r : Bool) : Ending → World → Prop := fun e w' => e = .returned (.bool r) ∧ Keeps w w'
set_option maxRecDepth 100000 in
set_option maxHeartbeats 2000000 in
theorem cL_FnExactSameNetworks (fuel : Nat) (w : World) (u0 : List Value) (p0 : T_Network) (g0 : Rp.rd zt w u0 p0) (u1 : List Value) (p1 : T_Network) (g1 : Rp.rd zt w u1 p1) (r : Bool) (hF : fL_FnExactSameNetworks fuel p0 p1 = some r) :
    Calls Try.prog 9 #[.agg u0.toArray, .agg u1.toArray] w (pL_FnExactSameNetworks w r) := by
  unfold fL_FnExactSameNetworks at hF
  obtain ⟨v1, v3, v5, rfl, h2, h4, h6⟩ := g0
  obtain ⟨v7, v9, v11, rfl, h8, h10, h12⟩ := g1
  have hB : Bs (fun _ => 1) (col (fun _ => 1)) w w := Bs.start _ _
  refine calls_start (n := 58) (vs := [(.agg #[v1, v3, v5]), (.agg #[v7, v9, v11])]) Try.func9 rfl rfl ?_
  refine wpC_seq ?_
  refine wpC_region ?_
  refine st_op (by decide) trivial ?_
  refine wf_box (o := (col (fun _ => 1))) w.heap.size 11 hB.keeps.size (cs := [v1, v3, v5]) rfl rfl ?_
  intro o13 w14 b15 h16 s17
  replace hB := hB.stp s17 (by decide)
  refine st_op (by decide) trivial ?_
  refine wf_box (o := o13) w.heap.size 12 hB.keeps.size (cs := [v7, v9, v11]) rfl rfl ?_
  intro o18 w19 b20 h21 s22
  replace h16 := h16.stp s22 (by decide)
  replace hB := hB.stp s22 (by decide)
  refine st_val (ex_assign rfl) (by decide) trivial ?_
  refine wpF_end (r := [(2, (.pointer (some ⟨b15, 0, none⟩))), (3, (.pointer (some ⟨b20, 0, none⟩)))]) ⟨rfl, rfl, trivial⟩ ?_
  refine nx ?_
  refine wpC_seq ?_
  refine wpC_region ?_
  refine st_val (ex_assign rfl) (by decide) trivial ?_
  refine wpF_end (r := [(2, (.pointer (some ⟨b15, 0, none⟩))), (3, (.pointer (some ⟨b20, 0, none⟩))), (5, (.int .i64 1048576))]) ⟨rfl, rfl, rfl, trivial⟩ ?_
  refine nx ?_
  refine wpC_seq ?_
  refine wpC_region ?_
  refine st_val (ex_loadA rfl Try.isAgg25 Try.sizeOf25 rfl h16.cells) (by decide) trivial ?_
  refine st_val (ex_move rfl) (by decide) trivial ?_
  obtain ⟨x23, hx23, hF⟩ := bind_some hF
  refine st_op (by decide) trivial ?_
  refine wf_call (cL_szNetwork fuel w19 _ p0 (⟨_, _, _, rfl, (h2.keep hB.keeps), (h4.keep hB.keeps), (h6.keep hB.keeps)⟩) 1048576 x23 hx23) Try.call13 ⟨rfl, rfl, trivial⟩ ?_
  rintro e28 w24 ⟨rfl, k25⟩
  have s27 := k25.stp 999 o18
  refine ⟨_, rfl, ?_⟩
  replace h16 := h16.stp s27 (by decide)
  replace h21 := h21.stp s27 (by decide)
  replace hB := hB.stp s27 (by decide)
  refine st_val (ex_assign rfl) (by decide) trivial ?_
  refine wpF_end (r := [(2, (.pointer (some ⟨b15, 0, none⟩))), (3, (.pointer (some ⟨b20, 0, none⟩))), (5, (.int .i64 x23))]) ⟨rfl, rfl, rfl, trivial⟩ ?_
  refine nx ?_
  refine wpC_seq ?_
  refine wpC_seq ?_
  refine wpC_region ?_
  refine st_val (ex_move rfl) (by decide) trivial ?_
  refine st_val (ex_lss rfl rfl) (by decide) trivial ?_
  refine wpF_end (r := [(2, (.pointer (some ⟨b15, 0, none⟩))), (3, (.pointer (some ⟨b20, 0, none⟩))), (5, (.int .i64 x23)), (16, (.bool (decide (x23 < 0))))]) ⟨rfl, rfl, rfl, rfl, trivial⟩ ?_
  refine nx ?_
  refine wpC_cond rfl (fun t29 => ?_) (fun t29 => ?_)
  · rw [if_pos t29] at hF
    refine wpC_seq ?_
    refine wpC_region ?_
    refine st_val (ex_assign rfl) (by decide) trivial ?_
    refine wpF_end (r := [(4, (.bool true))]) ⟨rfl, trivial⟩ ?_
    refine nx ?_
    refine wpC_ret ?_
    refine nt_ret ?_
    have e30 := Option.some.inj hF
    subst e30
    refine ret_post (P := Try.prog) (vs := [(.bool true)]) Try.results9 ⟨rfl, trivial⟩ ?_
    exact ⟨rfl, hB.keeps⟩
  · rw [if_neg (by rw [t29]; decide)] at hF
    refine wpC_skip ?_
    refine nx ?_
    refine wpC_seq ?_
    refine wpC_region ?_
    refine st_val (ex_loadA rfl Try.isAgg25 Try.sizeOf25 rfl h21.cells) (by decide) trivial ?_
    refine st_val (ex_move rfl) (by decide) trivial ?_
    obtain ⟨x31, hx31, hF⟩ := bind_some hF
    refine st_op (by decide) trivial ?_
    refine wf_call (cL_szNetwork fuel w24 _ p1 (⟨_, _, _, rfl, (h8.keep hB.keeps), (h10.keep hB.keeps), (h12.keep hB.keeps)⟩) x23 x31 hx31) Try.call13 ⟨rfl, rfl, trivial⟩ ?_
    rintro e36 w32 ⟨rfl, k33⟩
    have s35 := k33.stp 999 o18
    refine ⟨_, rfl, ?_⟩
    replace h16 := h16.stp s35 (by decide)
    replace h21 := h21.stp s35 (by decide)
    replace hB := hB.stp s35 (by decide)
    refine st_val (ex_assign rfl) (by decide) trivial ?_
    refine wpF_end (r := [(2, (.pointer (some ⟨b15, 0, none⟩))), (3, (.pointer (some ⟨b20, 0, none⟩))), (5, (.int .i64 x31))]) ⟨rfl, rfl, rfl, trivial⟩ ?_
    refine nx ?_
    refine wpC_seq ?_
    refine wpC_seq ?_
    refine wpC_region ?_
    refine st_val (ex_move rfl) (by decide) trivial ?_
    refine st_val (ex_lss rfl rfl) (by decide) trivial ?_
    refine wpF_end (r := [(2, (.pointer (some ⟨b15, 0, none⟩))), (3, (.pointer (some ⟨b20, 0, none⟩))), (21, (.bool (decide (x31 < 0))))]) ⟨rfl, rfl, rfl, trivial⟩ ?_
    refine nx ?_
    refine wpC_cond rfl (fun t37 => ?_) (fun t37 => ?_)
    · rw [if_pos t37] at hF
      refine wpC_seq ?_
      refine wpC_region ?_
      refine st_val (ex_assign rfl) (by decide) trivial ?_
      refine wpF_end (r := [(4, (.bool true))]) ⟨rfl, trivial⟩ ?_
      refine nx ?_
      refine wpC_ret ?_
      refine nt_ret ?_
      have e38 := Option.some.inj hF
      subst e38
      refine ret_post (P := Try.prog) (vs := [(.bool true)]) Try.results9 ⟨rfl, trivial⟩ ?_
      exact ⟨rfl, hB.keeps⟩
    · rw [if_neg (by rw [t37]; decide)] at hF
      refine wpC_skip ?_
      refine nx ?_
      refine wpC_seq ?_
      obtain ⟨x39, hx39, hF⟩ := bind_some hF
      obtain ⟨x57, hx57, hF⟩ := bind_some hF
      obtain ⟨x75, hx75, hF⟩ := bind_some hF
      refine wpC_drawn (o := o18) [(2, (.pointer (some ⟨b15, 0, none⟩))), (3, (.pointer (some ⟨b20, 0, none⟩)))] [2, 3] [23, 24, 25, 26, 27, 22, 28, 29, 6] [[], [0], [], [2], [1, 3], [4], [5], [5], [6]] [none, none, none, none, none, none, none, none, none] [999, 999, 999, 999, 999, 999, 999, 999, 999] [0, 0, 0, 0, 0, 0, 0, 0, 0] [999] [fun v _ _ => v = (.agg #[v1, v3, v5]), fun v o w9 => ∃ (c : List Value), v = .agg c.toArray ∧ Rp.rd o w9 c x39, fun v _ _ => v = (.agg #[v7, v9, v11]), fun v o w9 => ∃ (c : List Value), v = .agg c.toArray ∧ Rp.rd o w9 c x57, fun v _ _ => v = (.tuple #[(.bool x75.1), (.bool x75.2)]), fun v _ _ => v = (.tuple #[(.bool x75.1), (.bool x75.2)]), fun v _ _ => v = (.bool x75.1), fun v _ _ => v = (.bool x75.2), fun v _ _ => v = (.bool x75.1)] (fun o8 w8 => Bs (fun _ => 1) o8 w w8 ∧ Bx w.heap.size 11 o8 w8 b15 25 [v1, v3, v5] ∧ Bx w.heap.size 12 o8 w8 b20 25 [v7, v9, v11]) follows_mixed (by kernel_rfl) rfl ⟨rfl, rfl, trivial⟩ ⟨hB, h16, h21⟩ ?_ ⟨st_eq _, fun _ _ _ _ _ _ h0 hb ⟨c, e, h⟩ hs => ⟨c, e, Rp.stp h hs h0.1⟩, st_eq _, fun _ _ _ _ _ _ h0 hb ⟨c, e, h⟩ hs => ⟨c, e, Rp.stp h hs h0.1⟩, st_eq _, st_eq _, st_eq _, st_eq _, st_eq _, trivial⟩ ?_ ?_
      · rintro t9 o1 w1 o2 w2 ht9 ⟨hB, h16, h21⟩ hs9
        have ht9 : t9 = 999 := by simpa using ht9
        subst ht9
        all_goals exact ⟨hB.stp hs9 (by decide), h16.stp hs9 (by decide), h21.stp hs9 (by decide)⟩
      · refine ⟨?_, ?_, ?_, ?_, ?_, ?_, ?_, ?_, ?_, trivial⟩
        · rintro o81 w82 a83 ha ⟨hB, h16, h21⟩ -
          refine opS_of ha (trivial) ?_
          refine op1_val (ex_loadA rfl Try.isAgg25 Try.sizeOf25 rfl h16.cells) ?_
          exact ⟨_, Stp.refl _ _ _, rfl⟩
        · rintro o84 w85 a86 ha ⟨hB, h16, h21⟩ ⟨r87, -⟩
          have ha := Fr.cons (d := 23) ha r87
          refine opS_of ha (trivial) ?_
          refine wf_call (cL_toNetwork fuel w85 o84 18 (by decide) _ p0 (⟨_, _, _, rfl, (h2.keep hB.keeps), (h4.keep hB.keeps), (h6.keep hB.keeps)⟩) x39 hx39) Try.call15 ⟨rfl, trivial⟩ ?_
          rintro e97 w88 ⟨c89, o98, rfl, h90, h91, h92, h93, k94, k95⟩
          have s96 := k94.stp' 999 k95
          refine ⟨_, rfl, ?_⟩
          obtain ⟨v99, v101, v103, rfl, h100, h102, h104⟩ := h90
          replace h91 : Dz 110 115 o98 w88 v99 x39.Ends := h91
          replace h92 : Of 3 o98 w88 v101 x39.Ids := h92
          replace h93 : Of 3 o98 w88 v103 x39.Inputs := h93
          replace h16 := h16.stp s96 (by decide)
          replace h21 := h21.stp s96 (by decide)
          replace hB := hB.stp s96 (by decide)
          exact ⟨_, s96, ⟨_, rfl, ⟨_, _, _, rfl, h100, h102, h104⟩⟩⟩
        · rintro o105 w106 a107 ha ⟨hB, h16, h21⟩ -
          refine opS_of ha (trivial) ?_
          refine op1_val (ex_loadA rfl Try.isAgg25 Try.sizeOf25 rfl h21.cells) ?_
          exact ⟨_, Stp.refl _ _ _, rfl⟩
        · rintro o108 w109 a110 ha ⟨hB, h16, h21⟩ ⟨r111, -⟩
          have ha := Fr.cons (d := 25) ha r111
          refine opS_of ha (trivial) ?_
          refine wf_call (cL_toNetwork fuel w109 o108 19 (by decide) _ p1 (⟨_, _, _, rfl, (h8.keep hB.keeps), (h10.keep hB.keeps), (h12.keep hB.keeps)⟩) x57 hx57) Try.call15 ⟨rfl, trivial⟩ ?_
          rintro e121 w112 ⟨c113, o122, rfl, h114, h115, h116, h117, k118, k119⟩
          have s120 := k118.stp' 999 k119
          refine ⟨_, rfl, ?_⟩
          obtain ⟨v123, v125, v127, rfl, h124, h126, h128⟩ := h114
          replace h115 : Dz 110 115 o122 w112 v123 x57.Ends := h115
          replace h116 : Of 3 o122 w112 v125 x57.Ids := h116
          replace h117 : Of 3 o122 w112 v127 x57.Inputs := h117
          replace h16 := h16.stp s120 (by decide)
          replace h21 := h21.stp s120 (by decide)
          replace hB := hB.stp s120 (by decide)
          exact ⟨_, s120, ⟨_, rfl, ⟨_, _, _, rfl, h124, h126, h128⟩⟩⟩
        · rintro o129 w130 a131 ha ⟨hB, h16, h21⟩ ⟨r132, r133, -⟩
          obtain ⟨c134, e135, h136⟩ := r132
          obtain ⟨v137, v139, v141, rfl, h138, h140, h142⟩ := h136
          have ha := Fr.cons (d := 24) ha e135
          obtain ⟨c143, e144, h145⟩ := r133
          obtain ⟨v146, v148, v150, rfl, h147, h149, h151⟩ := h145
          have ha := Fr.cons (d := 26) ha e144
          refine opS_of ha (trivial) ?_
          refine wf_call (cS_SameNetworks fuel w130 _ x39 (⟨_, _, _, rfl, h138.z, h140.z, h142.z⟩) _ x57 (⟨_, _, _, rfl, h147.z, h149.z, h151.z⟩) x75 hx75) Try.call45 ⟨rfl, rfl, trivial⟩ ?_
          rintro e156 w152 ⟨rfl, k153⟩
          have s155 := k153.stp 999 o129
          refine ⟨_, rfl, ?_⟩
          replace h138 := h138.stp s155 (by decide)
          replace h140 := h140.stp s155 (by decide)
          replace h142 := h142.stp s155 (by decide)
          replace h147 := h147.stp s155 (by decide)
          replace h149 := h149.stp s155 (by decide)
          replace h151 := h151.stp s155 (by decide)
          replace h16 := h16.stp s155 (by decide)
          replace h21 := h21.stp s155 (by decide)
          replace hB := hB.stp s155 (by decide)
          exact ⟨_, s155, rfl⟩
        · rintro o157 w158 a159 ha ⟨hB, h16, h21⟩ ⟨r160, -⟩
          have ha := Fr.cons (d := 27) ha r160
          refine opS_of ha (trivial) ?_
          refine op1_val (ex_move rfl) ?_
          exact ⟨_, Stp.refl _ _ _, rfl⟩
        · rintro o161 w162 a163 ha ⟨hB, h16, h21⟩ ⟨r164, -⟩
          have ha := Fr.cons (d := 22) ha r164
          refine opS_of ha (trivial) ?_
          refine op1_val (ex_extract rfl rfl) ?_
          exact ⟨_, Stp.refl _ _ _, rfl⟩
        · rintro o165 w166 a167 ha ⟨hB, h16, h21⟩ ⟨r168, -⟩
          have ha := Fr.cons (d := 22) ha r168
          refine opS_of ha (trivial) ?_
          refine op1_val (ex_extract rfl rfl) ?_
          exact ⟨_, Stp.refl _ _ _, rfl⟩
        · rintro o169 w170 a171 ha ⟨hB, h16, h21⟩ ⟨r172, -⟩
          have ha := Fr.cons (d := 28) ha r172
          refine opS_of ha (trivial) ?_
          refine op1_val (ex_assign rfl) ?_
          exact ⟨_, Stp.refl _ _ _, rfl⟩
      rintro o173 w174 a175 ha ⟨hB, h16, h21⟩ ⟨-, -, -, -, -, -, -, r176, r177, -⟩
      have ha := Fr.cons (d := 29) ha r176
      have ha := Fr.cons (d := 6) ha r177
      refine wl_of ha ?_
      simp only [List.length_cons, List.length_nil, Nat.zero_add, Nat.reduceAdd, List.drop_succ_cons, List.drop_zero]
      refine st_val (ex_assign rfl) (by decide) trivial ?_
      refine wpF_end (r := [(2, (.pointer (some ⟨b15, 0, none⟩))), (3, (.pointer (some ⟨b20, 0, none⟩))), (6, (.bool x75.1)), (7, (.bool x75.2))]) ⟨rfl, rfl, rfl, rfl, trivial⟩ ?_
      refine nx ?_
      refine wpC_seq ?_
      refine wpC_region ?_
      refine st_val (ex_loadA rfl Try.isAgg25 Try.sizeOf25 rfl h16.cells) (by decide) trivial ?_
      obtain ⟨x178, hx178, hF⟩ := bind_some hF
      refine st_op (by decide) trivial ?_
      refine wf_call (cL_toNetwork fuel w174 o173 21 (by decide) _ p0 (⟨_, _, _, rfl, (h2.keep hB.keeps), (h4.keep hB.keeps), (h6.keep hB.keeps)⟩) x178 hx178) Try.call15 ⟨rfl, trivial⟩ ?_
      rintro e188 w179 ⟨c180, o189, rfl, h181, h182, h183, h184, k185, k186⟩
      have s187 := k185.stp' 21 k186
      refine ⟨_, rfl, ?_⟩
      obtain ⟨v190, v192, v194, rfl, h191, h193, h195⟩ := h181
      replace h182 : Dz 110 115 o189 w179 v190 x178.Ends := h182
      replace h183 : Of 3 o189 w179 v192 x178.Ids := h183
      replace h184 : Of 3 o189 w179 v194 x178.Inputs := h184
      replace h16 := h16.stp s187 (by decide)
      replace h21 := h21.stp s187 (by decide)
      replace hB := hB.stp s187 (by decide)
      refine st_op (by decide) trivial ?_
      refine wf_alloc (o := o189) w.heap.size 22 hB.keeps.size (cs := [(.slice none 0 0), (.slice none 0 0), (.slice none 0 0)]) Try.zeroValue31 rfl ?_
      intro o196 w197 b198 h199 s200
      replace h191 := h191.stp s200 (by decide)
      replace h182 := h182.stp s200 (by decide)
      replace h193 := h193.stp s200 (by decide)
      replace h183 := h183.stp s200 (by decide)
      replace h195 := h195.stp s200 (by decide)
      replace h184 := h184.stp s200 (by decide)
      replace h16 := h16.stp s200 (by decide)
      replace h21 := h21.stp s200 (by decide)
      replace hB := hB.stp s200 (by decide)
      refine st_op0 trivial ?_
      refine wf_storeA h199 rfl rfl rfl info1_t_impl_Network_LSn (by intro c hc; simp only [List.mem_cons, List.not_mem_nil, or_false] at hc; rcases hc with rfl | rfl | rfl <;> first | rfl | exact h191.one1 | exact h193.one1 | exact h195.one1) ?_
      intro w201 h203 s202
      replace h191 := h191.stp s202 (by decide)
      replace h182 := h182.stp s202 (by decide)
      replace h193 := h193.stp s202 (by decide)
      replace h183 := h183.stp s202 (by decide)
      replace h195 := h195.stp s202 (by decide)
      replace h184 := h184.stp s202 (by decide)
      replace h16 := h16.stp s202 (by decide)
      replace h21 := h21.stp s202 (by decide)
      replace hB := hB.stp s202 (by decide)
      refine wpF_end (r := [(2, (.pointer (some ⟨b15, 0, none⟩))), (3, (.pointer (some ⟨b20, 0, none⟩))), (6, (.bool x75.1)), (7, (.bool x75.2)), (8, (.pointer (some ⟨b198, 0, none⟩)))]) ⟨rfl, rfl, rfl, rfl, rfl, trivial⟩ ?_
      refine nx ?_
      refine wpC_seq ?_
      refine wpC_region ?_
      refine st_val (ex_loadA rfl Try.isAgg25 Try.sizeOf25 rfl h21.cells) (by decide) trivial ?_
      obtain ⟨x204, hx204, hF⟩ := bind_some hF
      refine st_op (by decide) trivial ?_
      refine wf_call (cL_toNetwork fuel w201 o196 23 (by decide) _ p1 (⟨_, _, _, rfl, (h8.keep hB.keeps), (h10.keep hB.keeps), (h12.keep hB.keeps)⟩) x204 hx204) Try.call15 ⟨rfl, trivial⟩ ?_
      rintro e214 w205 ⟨c206, o215, rfl, h207, h208, h209, h210, k211, k212⟩
      have s213 := k211.stp' 23 k212
      refine ⟨_, rfl, ?_⟩
      obtain ⟨v216, v218, v220, rfl, h217, h219, h221⟩ := h207
      replace h208 : Dz 110 115 o215 w205 v216 x204.Ends := h208
      replace h209 : Of 3 o215 w205 v218 x204.Ids := h209
      replace h210 : Of 3 o215 w205 v220 x204.Inputs := h210
      replace h16 := h16.stp s213 (by decide)
      replace h21 := h21.stp s213 (by decide)
      replace h203 := h203.stp s213 (by decide)
      replace h191 := h191.stp s213 (by decide)
      replace h182 := h182.stp s213 (by decide)
      replace h193 := h193.stp s213 (by decide)
      replace h183 := h183.stp s213 (by decide)
      replace h195 := h195.stp s213 (by decide)
      replace h184 := h184.stp s213 (by decide)
      replace hB := hB.stp s213 (by decide)
      refine st_op (by decide) trivial ?_
      refine wf_alloc (o := o215) w.heap.size 24 hB.keeps.size (cs := [(.slice none 0 0), (.slice none 0 0), (.slice none 0 0)]) Try.zeroValue31 rfl ?_
      intro o222 w223 b224 h225 s226
      replace h217 := h217.stp s226 (by decide)
      replace h208 := h208.stp s226 (by decide)
      replace h219 := h219.stp s226 (by decide)
      replace h209 := h209.stp s226 (by decide)
      replace h221 := h221.stp s226 (by decide)
      replace h210 := h210.stp s226 (by decide)
      replace h16 := h16.stp s226 (by decide)
      replace h21 := h21.stp s226 (by decide)
      replace h203 := h203.stp s226 (by decide)
      replace h191 := h191.stp s226 (by decide)
      replace h182 := h182.stp s226 (by decide)
      replace h193 := h193.stp s226 (by decide)
      replace h183 := h183.stp s226 (by decide)
      replace h195 := h195.stp s226 (by decide)
      replace h184 := h184.stp s226 (by decide)
      replace hB := hB.stp s226 (by decide)
      refine st_op0 trivial ?_
      refine wf_storeA h225 rfl rfl rfl info1_t_impl_Network_LSn (by intro c hc; simp only [List.mem_cons, List.not_mem_nil, or_false] at hc; rcases hc with rfl | rfl | rfl <;> first | rfl | exact h217.one1 | exact h219.one1 | exact h221.one1) ?_
      intro w227 h229 s228
      replace h217 := h217.stp s228 (by decide)
      replace h208 := h208.stp s228 (by decide)
      replace h219 := h219.stp s228 (by decide)
      replace h209 := h209.stp s228 (by decide)
      replace h221 := h221.stp s228 (by decide)
      replace h210 := h210.stp s228 (by decide)
      replace h16 := h16.stp s228 (by decide)
      replace h21 := h21.stp s228 (by decide)
      replace h203 := h203.stp s228 (by decide)
      replace h191 := h191.stp s228 (by decide)
      replace h182 := h182.stp s228 (by decide)
      replace h193 := h193.stp s228 (by decide)
      replace h183 := h183.stp s228 (by decide)
      replace h195 := h195.stp s228 (by decide)
      replace h184 := h184.stp s228 (by decide)
      replace hB := hB.stp s228 (by decide)
      refine wpF_end (r := [(2, (.pointer (some ⟨b15, 0, none⟩))), (3, (.pointer (some ⟨b20, 0, none⟩))), (6, (.bool x75.1)), (7, (.bool x75.2)), (8, (.pointer (some ⟨b198, 0, none⟩))), (9, (.pointer (some ⟨b224, 0, none⟩)))]) ⟨rfl, rfl, rfl, rfl, rfl, rfl, trivial⟩ ?_
      refine nx ?_
      refine wpC_seq ?_
      refine wpC_region ?_
      refine st_val (ex_loadA rfl Try.isAgg31 Try.sizeOf31 rfl h203.cells) (by decide) trivial ?_
      refine st_val (ex_loadA rfl Try.isAgg31 Try.sizeOf31 rfl h229.cells) (by decide) trivial ?_
      obtain ⟨x230, hx230, hF⟩ := bind_some hF
      refine st_op (by decide) trivial ?_
      refine wf_call (cI_SameNetworks fuel w227 _ x178 (⟨_, _, _, rfl, h191.z, h193.z, h195.z⟩) _ x204 (⟨_, _, _, rfl, h217.z, h219.z, h221.z⟩) x230 hx230) Try.call46 ⟨rfl, rfl, trivial⟩ ?_
      rintro e235 w231 ⟨rfl, k232⟩
      have s234 := k232.stp 999 o222
      refine ⟨_, rfl, ?_⟩
      replace h191 := h191.stp s234 (by decide)
      replace h182 := h182.stp s234 (by decide)
      replace h193 := h193.stp s234 (by decide)
      replace h183 := h183.stp s234 (by decide)
      replace h195 := h195.stp s234 (by decide)
      replace h184 := h184.stp s234 (by decide)
      replace h217 := h217.stp s234 (by decide)
      replace h208 := h208.stp s234 (by decide)
      replace h219 := h219.stp s234 (by decide)
      replace h209 := h209.stp s234 (by decide)
      replace h221 := h221.stp s234 (by decide)
      replace h210 := h210.stp s234 (by decide)
      replace h16 := h16.stp s234 (by decide)
      replace h21 := h21.stp s234 (by decide)
      replace h203 := h203.stp s234 (by decide)
      replace h229 := h229.stp s234 (by decide)
      replace hB := hB.stp s234 (by decide)
      refine st_val (ex_move rfl) (by decide) trivial ?_
      refine st_val (ex_extract rfl rfl) (by decide) trivial ?_
      refine st_val (ex_extract rfl rfl) (by decide) trivial ?_
      refine st_val (ex_assign rfl) (by decide) trivial ?_
      refine st_val (ex_assign rfl) (by decide) trivial ?_
      refine wpF_end (r := [(2, (.pointer (some ⟨b15, 0, none⟩))), (3, (.pointer (some ⟨b20, 0, none⟩))), (6, (.bool x75.1)), (7, (.bool x75.2)), (8, (.pointer (some ⟨b198, 0, none⟩))), (9, (.pointer (some ⟨b224, 0, none⟩))), (10, (.bool x230.1)), (11, (.bool x230.2))]) ⟨rfl, rfl, rfl, rfl, rfl, rfl, rfl, rfl, trivial⟩ ?_
      refine nx ?_
      refine wpC_seq ?_
      refine wpC_seq ?_
      refine wpC_region ?_
      refine st_val (ex_move rfl) (by decide) trivial ?_
      refine st_val (ex_move rfl) (by decide) trivial ?_
      refine st_val (ex_bneq rfl rfl Try.underlying4) (by decide) trivial ?_
      refine st_val (ex_move rfl) (by decide) trivial ?_
      obtain ⟨q236, hq236, hF⟩ := bind_some hF
      refine wpF_cutAt 4 (fun a238 w237 => Fr a238 58 [(2, (.pointer (some ⟨b15, 0, none⟩))), (3, (.pointer (some ⟨b20, 0, none⟩))), (8, (.pointer (some ⟨b198, 0, none⟩))), (9, (.pointer (some ⟨b224, 0, none⟩))), (47, (.bool q236))] ∧ Keeps w231 w237) ?_ ?_
      all_goals simp only [List.take_succ_cons, List.take_zero, List.drop_succ_cons, List.drop_zero]
      · have kp : Keeps w231 w231 := Keeps.refl _
        rcases Bool.eq_false_or_eq_true (x230.1 != x75.1) with t239 | t239
        · rw [if_pos t239] at hq236
          refine st_no rfl rfl (by rw [t239]; rfl) (by decide) ?_
          refine st_no rfl rfl (by rw [t239]; rfl) (by decide) ?_
          refine st_no rfl rfl (by rw [t239]; rfl) (by decide) ?_
          refine st_val (ex_pick_t (congrArg (fun b => some (Value.bool b)) t239) rfl) (by decide) trivial ?_
          have hq2362 := Option.some.inj hq236
          refine wpF_end (r := [(2, (.pointer (some ⟨b15, 0, none⟩))), (3, (.pointer (some ⟨b20, 0, none⟩))), (8, (.pointer (some ⟨b198, 0, none⟩))), (9, (.pointer (some ⟨b224, 0, none⟩))), (47, (.bool true))]) ⟨rfl, rfl, rfl, rfl, rfl, trivial⟩ ?_
          subst hq2362
          refine np_norm (fun a ha => ⟨ha, kp⟩)
        · rw [if_neg (by rw [t239]; decide)] at hq236
          refine st_val (ex_move rfl) (by decide) ⟨_, rfl, (congrArg (fun b => some (Value.bool b)) t239)⟩ ?_
          refine st_val (ex_move rfl) (by decide) ⟨_, rfl, (congrArg (fun b => some (Value.bool b)) t239)⟩ ?_
          refine st_val (ex_bneq rfl rfl Try.underlying4) (by decide) ⟨_, rfl, (congrArg (fun b => some (Value.bool b)) t239)⟩ ?_
          refine st_val (ex_pick_f (congrArg (fun b => some (Value.bool b)) t239) rfl) (by decide) trivial ?_
          have hq2362 := Option.some.inj hq236
          refine wpF_end (r := [(2, (.pointer (some ⟨b15, 0, none⟩))), (3, (.pointer (some ⟨b20, 0, none⟩))), (8, (.pointer (some ⟨b198, 0, none⟩))), (9, (.pointer (some ⟨b224, 0, none⟩))), (47, (.bool (x230.2 != x75.2)))]) ⟨rfl, rfl, rfl, rfl, rfl, trivial⟩ ?_
          subst hq2362
          refine np_norm (fun a ha => ⟨ha, kp⟩)
      rintro a242 w237 ⟨ha, k240⟩
      have s241 := k240.stp 999 o222
      replace h16 := h16.stp s241 (by decide)
      replace h21 := h21.stp s241 (by decide)
      replace h203 := h203.stp s241 (by decide)
      replace h191 := h191.stp s241 (by decide)
      replace h182 := h182.stp s241 (by decide)
      replace h193 := h193.stp s241 (by decide)
      replace h183 := h183.stp s241 (by decide)
      replace h195 := h195.stp s241 (by decide)
      replace h184 := h184.stp s241 (by decide)
      replace h229 := h229.stp s241 (by decide)
      replace h217 := h217.stp s241 (by decide)
      replace h208 := h208.stp s241 (by decide)
      replace h219 := h219.stp s241 (by decide)
      replace h209 := h209.stp s241 (by decide)
      replace h221 := h221.stp s241 (by decide)
      replace h210 := h210.stp s241 (by decide)
      replace hB := hB.stp s241 (by decide)
      refine wl_of ha ?_
      refine wpF_end (r := [(2, (.pointer (some ⟨b15, 0, none⟩))), (3, (.pointer (some ⟨b20, 0, none⟩))), (8, (.pointer (some ⟨b198, 0, none⟩))), (9, (.pointer (some ⟨b224, 0, none⟩))), (47, (.bool q236))]) ⟨rfl, rfl, rfl, rfl, rfl, trivial⟩ ?_
      refine nx ?_
      refine wpC_cond rfl (fun t243 => ?_) (fun t243 => ?_)
      · rw [if_pos t243] at hF
        refine wpC_seq ?_
        refine wpC_region ?_
        refine st_val (ex_assign rfl) (by decide) trivial ?_
        refine wpF_end (r := [(4, (.bool false))]) ⟨rfl, trivial⟩ ?_
        refine nx ?_
        refine wpC_ret ?_
        refine nt_ret ?_
        have e244 := Option.some.inj hF
        subst e244
        refine ret_post (P := Try.prog) (vs := [(.bool false)]) Try.results9 ⟨rfl, trivial⟩ ?_
        exact ⟨rfl, hB.keeps⟩
      · rw [if_neg (by rw [t243]; decide)] at hF
        refine wpC_skip ?_
        refine nx ?_
        refine wpC_seq ?_
        refine wpC_seq ?_
        obtain ⟨x245, hx245, hF⟩ := bind_some hF
        refine wpC_drawn (o := o222) [(2, (.pointer (some ⟨b15, 0, none⟩))), (3, (.pointer (some ⟨b20, 0, none⟩))), (8, (.pointer (some ⟨b198, 0, none⟩))), (9, (.pointer (some ⟨b224, 0, none⟩)))] [2, 3, 8, 9] [48, 49, 50] [[], [], [1]] [none, none, none] [999, 999, 999] [0, 0, 0] [999] [fun v _ _ => v = (.agg #[v190, v192, v194]), fun v _ _ => v = (.agg #[v1, v3, v5]), fun v o w9 => ∃ (c : List Value), v = .agg c.toArray ∧ Rp.rd o w9 c x245] (fun o8 w8 => Bs (fun _ => 1) o8 w w8 ∧ Bx w.heap.size 11 o8 w8 b15 25 [v1, v3, v5] ∧ Bx w.heap.size 12 o8 w8 b20 25 [v7, v9, v11] ∧ Bx w.heap.size 22 o8 w8 b198 31 [v190, v192, v194] ∧ RdL o8 w8 v190 (x178.Ends : List (List T_End)) ∧ Dz 110 115 o8 w8 v190 (x178.Ends : List (List T_End)) ∧ RdL o8 w8 v192 (x178.Ids : List Int) ∧ Of 3 o8 w8 v192 (x178.Ids : List Int) ∧ RdL o8 w8 v194 (x178.Inputs : List Int) ∧ Of 3 o8 w8 v194 (x178.Inputs : List Int) ∧ Bx w.heap.size 24 o8 w8 b224 31 [v216, v218, v220] ∧ RdL o8 w8 v216 (x204.Ends : List (List T_End)) ∧ Dz 110 115 o8 w8 v216 (x204.Ends : List (List T_End)) ∧ RdL o8 w8 v218 (x204.Ids : List Int) ∧ Of 3 o8 w8 v218 (x204.Ids : List Int) ∧ RdL o8 w8 v220 (x204.Inputs : List Int) ∧ Of 3 o8 w8 v220 (x204.Inputs : List Int)) follows_mixed (by kernel_rfl) rfl ⟨rfl, rfl, rfl, rfl, trivial⟩ ⟨hB, h16, h21, h203, h191, h182, h193, h183, h195, h184, h229, h217, h208, h219, h209, h221, h210⟩ ?_ ⟨st_eq _, st_eq _, fun _ _ _ _ _ _ h0 hb ⟨c, e, h⟩ hs => ⟨c, e, Rp.stp h hs h0.1⟩, trivial⟩ ?_ ?_
        · rintro t9 o1 w1 o2 w2 ht9 ⟨hB, h16, h21, h203, h191, h182, h193, h183, h195, h184, h229, h217, h208, h219, h209, h221, h210⟩ hs9
          have ht9 : t9 = 999 := by simpa using ht9
          subst ht9
          all_goals exact ⟨hB.stp hs9 (by decide), h16.stp hs9 (by decide), h21.stp hs9 (by decide), h203.stp hs9 (by decide), h191.stp hs9 (by decide), h182.stp hs9 (by decide), h193.stp hs9 (by decide), h183.stp hs9 (by decide), h195.stp hs9 (by decide), h184.stp hs9 (by decide), h229.stp hs9 (by decide), h217.stp hs9 (by decide), h208.stp hs9 (by decide), h219.stp hs9 (by decide), h209.stp hs9 (by decide), h221.stp hs9 (by decide), h210.stp hs9 (by decide)⟩
        · refine ⟨?_, ?_, ?_, trivial⟩
          · rintro o263 w264 a265 ha ⟨hB, h16, h21, h203, h191, h182, h193, h183, h195, h184, h229, h217, h208, h219, h209, h221, h210⟩ -
            refine opS_of ha (trivial) ?_
            refine op1_val (ex_loadA rfl Try.isAgg31 Try.sizeOf31 rfl h203.cells) ?_
            exact ⟨_, Stp.refl _ _ _, rfl⟩
          · rintro o266 w267 a268 ha ⟨hB, h16, h21, h203, h191, h182, h193, h183, h195, h184, h229, h217, h208, h219, h209, h221, h210⟩ -
            refine opS_of ha (trivial) ?_
            refine op1_val (ex_loadA rfl Try.isAgg25 Try.sizeOf25 rfl h16.cells) ?_
            exact ⟨_, Stp.refl _ _ _, rfl⟩
          · rintro o269 w270 a271 ha ⟨hB, h16, h21, h203, h191, h182, h193, h183, h195, h184, h229, h217, h208, h219, h209, h221, h210⟩ ⟨r272, -⟩
            have ha := Fr.cons (d := 49) ha r272
            refine opS_of ha (trivial) ?_
            refine wf_call (cL_toNetwork fuel w270 o269 27 (by decide) _ p0 (⟨_, _, _, rfl, (h2.keep hB.keeps), (h4.keep hB.keeps), (h6.keep hB.keeps)⟩) x245 hx245) Try.call15 ⟨rfl, trivial⟩ ?_
            rintro e282 w273 ⟨c274, o283, rfl, h275, h276, h277, h278, k279, k280⟩
            have s281 := k279.stp' 999 k280
            refine ⟨_, rfl, ?_⟩
            obtain ⟨v284, v286, v288, rfl, h285, h287, h289⟩ := h275
            replace h276 : Dz 110 115 o283 w273 v284 x245.Ends := h276
            replace h277 : Of 3 o283 w273 v286 x245.Ids := h277
            replace h278 : Of 3 o283 w273 v288 x245.Inputs := h278
            replace h16 := h16.stp s281 (by decide)
            replace h21 := h21.stp s281 (by decide)
            replace h203 := h203.stp s281 (by decide)
            replace h191 := h191.stp s281 (by decide)
            replace h182 := h182.stp s281 (by decide)
            replace h193 := h193.stp s281 (by decide)
            replace h183 := h183.stp s281 (by decide)
            replace h195 := h195.stp s281 (by decide)
            replace h184 := h184.stp s281 (by decide)
            replace h229 := h229.stp s281 (by decide)
            replace h217 := h217.stp s281 (by decide)
            replace h208 := h208.stp s281 (by decide)
            replace h219 := h219.stp s281 (by decide)
            replace h209 := h209.stp s281 (by decide)
            replace h221 := h221.stp s281 (by decide)
            replace h210 := h210.stp s281 (by decide)
            replace hB := hB.stp s281 (by decide)
            exact ⟨_, s281, ⟨_, rfl, ⟨_, _, _, rfl, h285, h287, h289⟩⟩⟩
        rintro o290 w291 a292 ha ⟨hB, h16, h21, h203, h191, h182, h193, h183, h195, h184, h229, h217, h208, h219, h209, h221, h210⟩ ⟨r293, -, r294, -⟩
        have ha := Fr.cons (d := 48) ha r293
        obtain ⟨c295, e296, h297⟩ := r294
        obtain ⟨v298, v300, v302, rfl, h299, h301, h303⟩ := h297
        have ha := Fr.cons (d := 50) ha e296
        refine wl_of ha ?_
        simp only [List.length_cons, List.length_nil, Nat.zero_add, Nat.reduceAdd, List.drop_succ_cons, List.drop_zero]
        obtain ⟨x304, hx304, hF⟩ := bind_some hF
        refine st_op (by decide) trivial ?_
        refine wf_call (cL_eqNetwork fuel w291 _ x178 (⟨_, _, _, rfl, h191.z, h193.z, h195.z⟩) _ x245 (⟨_, _, _, rfl, h299.z, h301.z, h303.z⟩) x304 hx304) Try.call17 ⟨rfl, rfl, trivial⟩ ?_
        rintro e309 w305 ⟨rfl, k306⟩
        have s308 := k306.stp 999 o290
        refine ⟨_, rfl, ?_⟩
        replace h191 := h191.stp s308 (by decide)
        replace h182 := h182.stp s308 (by decide)
        replace h193 := h193.stp s308 (by decide)
        replace h183 := h183.stp s308 (by decide)
        replace h195 := h195.stp s308 (by decide)
        replace h184 := h184.stp s308 (by decide)
        replace h299 := h299.stp s308 (by decide)
        replace h301 := h301.stp s308 (by decide)
        replace h303 := h303.stp s308 (by decide)
        replace h16 := h16.stp s308 (by decide)
        replace h21 := h21.stp s308 (by decide)
        replace h203 := h203.stp s308 (by decide)
        replace h229 := h229.stp s308 (by decide)
        replace h217 := h217.stp s308 (by decide)
        replace h208 := h208.stp s308 (by decide)
        replace h219 := h219.stp s308 (by decide)
        replace h209 := h209.stp s308 (by decide)
        replace h221 := h221.stp s308 (by decide)
        replace h210 := h210.stp s308 (by decide)
        replace hB := hB.stp s308 (by decide)
        refine st_val (ex_not rfl) (by decide) trivial ?_
        refine wpF_end (r := [(3, (.pointer (some ⟨b20, 0, none⟩))), (9, (.pointer (some ⟨b224, 0, none⟩))), (52, (.bool (!x304)))]) ⟨rfl, rfl, rfl, trivial⟩ ?_
        refine nx ?_
        refine wpC_cond rfl (fun t310 => ?_) (fun t310 => ?_)
        · rw [if_pos t310] at hF
          refine wpC_seq ?_
          refine wpC_region ?_
          refine st_val (ex_assign rfl) (by decide) trivial ?_
          refine wpF_end (r := [(4, (.bool false))]) ⟨rfl, trivial⟩ ?_
          refine nx ?_
          refine wpC_ret ?_
          refine nt_ret ?_
          have e311 := Option.some.inj hF
          subst e311
          refine ret_post (P := Try.prog) (vs := [(.bool false)]) Try.results9 ⟨rfl, trivial⟩ ?_
          exact ⟨rfl, hB.keeps⟩
        · rw [if_neg (by rw [t310]; decide)] at hF
          refine wpC_skip ?_
          refine nx ?_
          refine wpC_seq ?_
          refine wpC_seq ?_
          obtain ⟨x312, hx312, hF⟩ := bind_some hF
          refine wpC_drawn (o := o290) [(3, (.pointer (some ⟨b20, 0, none⟩))), (9, (.pointer (some ⟨b224, 0, none⟩)))] [3, 9] [53, 54, 55] [[], [], [1]] [none, none, none] [999, 999, 999] [0, 0, 0] [999] [fun v _ _ => v = (.agg #[v216, v218, v220]), fun v _ _ => v = (.agg #[v7, v9, v11]), fun v o w9 => ∃ (c : List Value), v = .agg c.toArray ∧ Rp.rd o w9 c x312] (fun o8 w8 => Bs (fun _ => 1) o8 w w8 ∧ Bx w.heap.size 12 o8 w8 b20 25 [v7, v9, v11] ∧ Bx w.heap.size 24 o8 w8 b224 31 [v216, v218, v220] ∧ RdL o8 w8 v216 (x204.Ends : List (List T_End)) ∧ Dz 110 115 o8 w8 v216 (x204.Ends : List (List T_End)) ∧ RdL o8 w8 v218 (x204.Ids : List Int) ∧ Of 3 o8 w8 v218 (x204.Ids : List Int) ∧ RdL o8 w8 v220 (x204.Inputs : List Int) ∧ Of 3 o8 w8 v220 (x204.Inputs : List Int)) follows_mixed (by kernel_rfl) rfl ⟨rfl, rfl, trivial⟩ ⟨hB, h21, h229, h217, h208, h219, h209, h221, h210⟩ ?_ ⟨st_eq _, st_eq _, fun _ _ _ _ _ _ h0 hb ⟨c, e, h⟩ hs => ⟨c, e, Rp.stp h hs h0.1⟩, trivial⟩ ?_ ?_
          · rintro t9 o1 w1 o2 w2 ht9 ⟨hB, h21, h229, h217, h208, h219, h209, h221, h210⟩ hs9
            have ht9 : t9 = 999 := by simpa using ht9
            subst ht9
            all_goals exact ⟨hB.stp hs9 (by decide), h21.stp hs9 (by decide), h229.stp hs9 (by decide), h217.stp hs9 (by decide), h208.stp hs9 (by decide), h219.stp hs9 (by decide), h209.stp hs9 (by decide), h221.stp hs9 (by decide), h210.stp hs9 (by decide)⟩
          · refine ⟨?_, ?_, ?_, trivial⟩
            · rintro o330 w331 a332 ha ⟨hB, h21, h229, h217, h208, h219, h209, h221, h210⟩ -
              refine opS_of ha (trivial) ?_
              refine op1_val (ex_loadA rfl Try.isAgg31 Try.sizeOf31 rfl h229.cells) ?_
              exact ⟨_, Stp.refl _ _ _, rfl⟩
            · rintro o333 w334 a335 ha ⟨hB, h21, h229, h217, h208, h219, h209, h221, h210⟩ -
              refine opS_of ha (trivial) ?_
              refine op1_val (ex_loadA rfl Try.isAgg25 Try.sizeOf25 rfl h21.cells) ?_
              exact ⟨_, Stp.refl _ _ _, rfl⟩
            · rintro o336 w337 a338 ha ⟨hB, h21, h229, h217, h208, h219, h209, h221, h210⟩ ⟨r339, -⟩
              have ha := Fr.cons (d := 54) ha r339
              refine opS_of ha (trivial) ?_
              refine wf_call (cL_toNetwork fuel w337 o336 30 (by decide) _ p1 (⟨_, _, _, rfl, (h8.keep hB.keeps), (h10.keep hB.keeps), (h12.keep hB.keeps)⟩) x312 hx312) Try.call15 ⟨rfl, trivial⟩ ?_
              rintro e349 w340 ⟨c341, o350, rfl, h342, h343, h344, h345, k346, k347⟩
              have s348 := k346.stp' 999 k347
              refine ⟨_, rfl, ?_⟩
              obtain ⟨v351, v353, v355, rfl, h352, h354, h356⟩ := h342
              replace h343 : Dz 110 115 o350 w340 v351 x312.Ends := h343
              replace h344 : Of 3 o350 w340 v353 x312.Ids := h344
              replace h345 : Of 3 o350 w340 v355 x312.Inputs := h345
              replace h21 := h21.stp s348 (by decide)
              replace h229 := h229.stp s348 (by decide)
              replace h217 := h217.stp s348 (by decide)
              replace h208 := h208.stp s348 (by decide)
              replace h219 := h219.stp s348 (by decide)
              replace h209 := h209.stp s348 (by decide)
              replace h221 := h221.stp s348 (by decide)
              replace h210 := h210.stp s348 (by decide)
              replace hB := hB.stp s348 (by decide)
              exact ⟨_, s348, ⟨_, rfl, ⟨_, _, _, rfl, h352, h354, h356⟩⟩⟩
          rintro o357 w358 a359 ha ⟨hB, h21, h229, h217, h208, h219, h209, h221, h210⟩ ⟨r360, -, r361, -⟩
          have ha := Fr.cons (d := 53) ha r360
          obtain ⟨c362, e363, h364⟩ := r361
          obtain ⟨v365, v367, v369, rfl, h366, h368, h370⟩ := h364
          have ha := Fr.cons (d := 55) ha e363
          refine wl_of ha ?_
          simp only [List.length_cons, List.length_nil, Nat.zero_add, Nat.reduceAdd, List.drop_succ_cons, List.drop_zero]
          obtain ⟨x371, hx371, hF⟩ := bind_some hF
          refine st_op (by decide) trivial ?_
          refine wf_call (cL_eqNetwork fuel w358 _ x204 (⟨_, _, _, rfl, h217.z, h219.z, h221.z⟩) _ x312 (⟨_, _, _, rfl, h366.z, h368.z, h370.z⟩) x371 hx371) Try.call17 ⟨rfl, rfl, trivial⟩ ?_
          rintro e376 w372 ⟨rfl, k373⟩
          have s375 := k373.stp 999 o357
          refine ⟨_, rfl, ?_⟩
          replace h217 := h217.stp s375 (by decide)
          replace h208 := h208.stp s375 (by decide)
          replace h219 := h219.stp s375 (by decide)
          replace h209 := h209.stp s375 (by decide)
          replace h221 := h221.stp s375 (by decide)
          replace h210 := h210.stp s375 (by decide)
          replace h366 := h366.stp s375 (by decide)
          replace h368 := h368.stp s375 (by decide)
          replace h370 := h370.stp s375 (by decide)
          replace h21 := h21.stp s375 (by decide)
          replace h229 := h229.stp s375 (by decide)
          replace hB := hB.stp s375 (by decide)
          refine st_val (ex_not rfl) (by decide) trivial ?_
          refine wpF_end (r := [(57, (.bool (!x371)))]) ⟨rfl, trivial⟩ ?_
          refine nx ?_
          refine wpC_cond rfl (fun t377 => ?_) (fun t377 => ?_)
          · rw [if_pos t377] at hF
            refine wpC_seq ?_
            refine wpC_region ?_
            refine st_val (ex_assign rfl) (by decide) trivial ?_
            refine wpF_end (r := [(4, (.bool false))]) ⟨rfl, trivial⟩ ?_
            refine nx ?_
            refine wpC_ret ?_
            refine nt_ret ?_
            have e378 := Option.some.inj hF
            subst e378
            refine ret_post (P := Try.prog) (vs := [(.bool false)]) Try.results9 ⟨rfl, trivial⟩ ?_
            exact ⟨rfl, hB.keeps⟩
          · rw [if_neg (by rw [t377]; decide)] at hF
            refine wpC_skip ?_
            refine nx ?_
            refine wpC_seq ?_
            refine wpC_region ?_
            refine st_val (ex_assign rfl) (by decide) trivial ?_
            refine wpF_end (r := [(4, (.bool true))]) ⟨rfl, trivial⟩ ?_
            refine nx ?_
            refine wpC_ret ?_
            have e379 := Option.some.inj hF
            subst e379
            refine ret_post (P := Try.prog) (vs := [(.bool true)]) Try.results9 ⟨rfl, trivial⟩ ?_
            exact ⟨rfl, hB.keeps⟩

end Go.Proofs.Ytijaojnaamkinaa
