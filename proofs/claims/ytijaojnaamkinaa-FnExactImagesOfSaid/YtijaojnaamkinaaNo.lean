/- Networks of one's own, as the laws use them: copies, equality, marks. -/
import Derived.Test.YtijaojnaamkinaaNm
import Derived.Test.YtijaojnaamkinaaStr
namespace Go.Proofs.Ytijaojnaamkinaa
open Go.RowKit
set_option linter.unusedSimpArgs false
set_option linter.unusedVariables false

/-- The blocks from B to C. -/
def rg (B C : Nat) : Tg := fun b => if B ≤ b ∧ b < C then 0 else 1
section
variable {α : Type} [Rp α] {e er : TypeId} {o o' : Tg} {w w' : World} {v : Value} {B C B' C' : Nat}
theorem Ow.zs {B : Nat} {xs : List α} (h : Ow B e 0 o w v xs) (hz : ∀ b, b < w.heap.size → o b = 0 → o' b = 0) : Ow B e 0 o' w v xs := by
  obtain ⟨css, h1, h2, h3, h4⟩ := h
  exact ⟨css, h1, h2, fun g hg => hz g (h2.lt g hg).2 (h3 g hg), fun i cs x a b => Rp.mv (h4 i cs x a b) (Nat.le_refl _) fun b hb h0 => ⟨rfl, hz b hb h0⟩⟩
theorem Of.zs {xs : List α} (h : Of e o w v xs) (hz : ∀ b, b < w.heap.size → o b = 0 → o' b = 0) : Of e o' w v xs := Ow.zs h hz
theorem Dz.zs {xs : List (List α)} (h : Dz e er o w v xs) (hz : ∀ b, b < w.heap.size → o b = 0 → o' b = 0) : Dz e er o' w v xs := by
  obtain ⟨vs, h1, h2⟩ := h
  exact ⟨vs, h1.zs hz, h2.1, fun i u x a b => (h2.2.1 i u x a b).zs hz, h2.2.2⟩
/-- Two intervals of blocks. -/
def rg2 (B C B' C' : Nat) : Tg := fun b => if B ≤ b ∧ b < C then 0 else if B' ≤ b ∧ b < C' then 5 else 1
theorem chg_stp (c : Chg B' C' w w') (hd : C ≤ B' ∨ C' ≤ B) : Stp 5 (rg2 B C B' C') w (rg2 B C B' C') w' := by
  refine ⟨c.os, c.tape, c.output, c.size, fun b hb hn => c.block b hb fun h => hn ?_, fun _ _ => rfl⟩
  unfold rg2
  rw [if_neg (by omega), if_pos h]
theorem rg_zero {b : Nat} : rg B C b = 0 ↔ B ≤ b ∧ b < C := by unfold rg; split <;> simp [*]
theorem rg2_zero {b : Nat} : rg2 B C B' C' b = 0 ↔ B ≤ b ∧ b < C := by
  unfold rg2
  split
  · simp [*]
  · split <;> simp [*]
theorem Of.chgI {xs : List α} (h : Of e (rg B C) w v xs) (c : Chg B' C' w w') (hd : C ≤ B' ∨ C' ≤ B) : Of e (rg B C) w' v xs :=
  ((h.zs (o' := rg2 B C B' C') fun b _ h0 => rg2_zero.2 (rg_zero.1 h0)).stp (chg_stp c hd) (by decide)).zs fun b _ h0 => rg_zero.2 (rg2_zero.1 h0)
theorem Dz.chgI {xs : List (List α)} (h : Dz e er (rg B C) w v xs) (c : Chg B' C' w w') (hd : C ≤ B' ∨ C' ≤ B) : Dz e er (rg B C) w' v xs :=
  ((h.zs (o' := rg2 B C B' C') fun b _ h0 => rg2_zero.2 (rg_zero.1 h0)).stp (chg_stp c hd) (by decide)).zs fun b _ h0 => rg_zero.2 (rg2_zero.1 h0)
theorem Of.newI {w0 : World} {xs : List α} (h : Of e o' w v xs) (ho : ∀ b, b < w0.heap.size → o' b = 1) : Of e (rg w0.heap.size w.heap.size) w v xs :=
  h.zs fun b hb h0 => rg_zero.2 ⟨Nat.le_of_not_lt (fun hl => by rw [ho b hl] at h0; cases h0), hb⟩
theorem Dz.newI {w0 : World} {xs : List (List α)} (h : Dz e er o' w v xs) (ho : ∀ b, b < w0.heap.size → o' b = 1) : Dz e er (rg w0.heap.size w.heap.size) w v xs :=
  h.zs fun b hb h0 => rg_zero.2 ⟨Nat.le_of_not_lt (fun hl => by rw [ho b hl] at h0; cases h0), hb⟩
end
/-- The network x, all of it in the blocks from B to C. -/
def OwN (B C : Nat) (w : World) (v : Value) (x : T_Network) : Prop :=
  ∃ v0 v1 v2, v = .agg #[v0, v1, v2] ∧ Dz 110 115 (rg B C) w v0 x.Ends ∧ Of 3 (rg B C) w v1 x.Ids ∧ Of 3 (rg B C) w v2 x.Inputs
def okN (_ : T_Network) : Prop := True
section
variable {B C B' C' : Nat} {w w' : World} {v : Value} {x : T_Network}
theorem RdN.keep (h : RdN w v x) (k : Keeps w w') : RdN w' v x := by
  obtain ⟨u, rfl, h⟩ := h
  exact ⟨u, rfl, Rp.keep h k⟩
theorem RdN.shape (h : RdN w v x) : ∃ a0 c0 a1 c1 a2 c2, v = .agg #[.slice a0 x.Ends.length c0, .slice a1 x.Ids.length c1, .slice a2 x.Inputs.length c2] := by
  obtain ⟨u, rfl, v0, v1, v2, rfl, ⟨a0, c0, rfl, _⟩, ⟨a1, c1, rfl, _⟩, ⟨a2, c2, rfl, _⟩⟩ := h
  exact ⟨_, _, _, _, _, _, rfl⟩
theorem OwN.rd (h : OwN B C w v x) : RdN w v x := by
  obtain ⟨v0, v1, v2, rfl, h0, h1, h2⟩ := h
  exact ⟨[v0, v1, v2], rfl, v0, v1, v2, rfl, h0.rd.z, h1.rd.z, h2.rd.z⟩
theorem OwN.keep (h : OwN B C w v x) (k : Keeps w w') : OwN B C w' v x := by
  obtain ⟨v0, v1, v2, rfl, h0, h1, h2⟩ := h
  exact ⟨v0, v1, v2, rfl, h0.stp (k.stp 999 _) (by decide), h1.stp (k.stp 999 _) (by decide), h2.stp (k.stp 999 _) (by decide)⟩
theorem OwN.chg (h : OwN B C w v x) (c : Chg B' C' w w') (hd : C ≤ B' ∨ C' ≤ B) : OwN B C w' v x := by
  obtain ⟨v0, v1, v2, rfl, h0, h1, h2⟩ := h
  exact ⟨v0, v1, v2, rfl, h0.chgI c hd, h1.chgI c hd, h2.chgI c hd⟩
end
theorem szNetwork_any (v : Value) (x : T_Network) (left : Int) (w : World) (h : RdN w v x) (h0 : 0 ≤ left) (h1 : left ≤ 1048576) :
    Calls Try.prog 13 #[v, .int .i64 left] w fun e w' => e = .returned (.int .i64 (szL left (szN x))) ∧ Keeps w w' := by
  have hf := h.fit
  obtain ⟨u, rfl, hu⟩ := h
  exact cL_szNetwork 2000000 w u x hu left _ (e_szNetwork 2000000 (by omega) x hf left h0 h1)
theorem toNetwork_any (v : Value) (x : T_Network) (w : World) (h : RdN w v x) (hs : szN x ≤ 1048576) :
    Calls Try.prog 15 #[v] w fun e w' => ∃ r, e = .returned r ∧ OwN w.heap.size w'.heap.size w' r x ∧ Keeps w w' := by
  obtain ⟨u, rfl, hu⟩ := h
  refine (cL_toNetwork 2000000 w ot 2 (by decide) u x hu x (e_toNetwork 2000000 (by omega) x hs)).mono ?_
  rintro e w' ⟨v0, o', rfl, hr, h0, h1, h2, hk, ho⟩
  obtain ⟨a, b, c, rfl, _⟩ := hr
  exact ⟨_, rfl, ⟨a, b, c, rfl, Dz.newI h0 ho, Of.newI h1 ho, Of.newI h2 ho⟩, hk⟩
theorem eqNetwork_same (va vb : Value) (x : T_Network) (w : World) (ha : RdN w va x) (hb : RdN w vb x) (hs : szN x ≤ 1048576) :
    Calls Try.prog 17 #[va, vb] w fun e w' => e = .returned (.bool true) ∧ Keeps w w' := by
  obtain ⟨u, rfl, hu⟩ := ha
  obtain ⟨u', rfl, hu'⟩ := hb
  exact cL_eqNetwork 2000000 w u x hu u' x hu' _ (e_eqNetwork 2000000 (by omega) x hs)
/-! ### Marks -/
def cntN (x : T_Network) : Nat := 2 * sumN x.Ends + x.Ids.length + x.Inputs.length
theorem cntN_le (x : T_Network) : cntN x ≤ 2 * szN x := by unfold cntN szN; omega
theorem ownsRow_mk {D : Nat} {e e' : TypeId} {sz n B C : Nat} {v : Value} {xs : List Value} {w w' : World} (h : w.ownsRow D e sz v n xs) (k : Mk e' B C w w') (hne : e ≠ e') : w'.ownsRow D e sz v n xs := by
  refine ⟨h.1, ?_⟩
  rcases h.2 with h0 | ⟨g, cap, cur, h1, h2, h3, h4⟩
  · exact .inl h0
  · have hg : g < w.heap.size := (Array.getElem?_eq_some_iff.1 h3).1
    rcases k.block g hg with k1 | ⟨_, _, kur, kur', k3, _⟩
    · exact .inr ⟨g, cap, cur, h1, h2, k1.trans h3, h4⟩
    · rw [h3] at k3; cases k3; exact absurd rfl hne
theorem take_sumN {α : Type} (LL : List (List α)) (j : Nat) (h : j < LL.length) : sumN (LL.take (j + 1)) = sumN (LL.take j) + LL[j].length := by
  unfold sumN
  rw [List.take_add_one, List.getElem?_eq_getElem h, Option.toList_some, List.map_append, List.sum_append]
  simp only [List.map_cons, List.map_nil, List.sum_cons, List.sum_nil, Nat.add_zero]
theorem take_sumN_le {α : Type} : ∀ (LL : List (List α)) (j : Nat), sumN (LL.take j) ≤ sumN LL
  | [], j => by simp [sumN]
  | x :: LL, 0 => by simp [sumN]
  | x :: LL, j + 1 => by
    have := take_sumN_le LL j
    simp only [sumN, List.take_succ_cons, List.map_cons, List.sum_cons] at *
    omega
set_option maxHeartbeats 800000 in
theorem markEndSS_shp (B C : Nat) (v : Value) (LL : List (List T_End)) (k : Int) (w : World) (h : Dz 110 115 (rg B C) w v LL) (hk : 0 ≤ k) (hk2 : k + 2 * sumN LL ≤ 4611686018427387904) :
    Calls Try.prog 68 #[v, .int .i64 k] w fun e w' => e = .returned (.int .i64 (k + 2 * sumN LL)) ∧ Mk 115 B C w w' := by
  obtain ⟨vs, h1, h2⟩ := h
  have hl := h2.1
  obtain ⟨css, c1, c2, c3, c4⟩ := h1
  rw [flat_hv c1 (fun i cs x a b => c4 i cs x a b), hl] at c2
  have hrow : Hid (∀ j (hj : j < LL.length), Shp 115 2 B C w ((vs.map Hv.v).getD j undef) (LL[j]).length) := fun j hj => by
    have hv : vs[j]? = some (vs[j]'(by omega)) := List.getElem?_eq_getElem (by omega)
    have := (h2.2.1 j _ _ hv (List.getElem?_eq_getElem hj)).shp (B := B) (C := C) (fun g hg => rg_zero.1 ((h2.2.1 j _ _ hv (List.getElem?_eq_getElem hj)).tagged g hg))
    rw [List.getD_eq_getElem?_getD, List.getElem?_map, hv]
    exact this
  have C2 := Lib.hid c2
  have hmax : LL.length ≤ 9223372036854775807 := by
    rcases c2.2 with ⟨_, h0⟩ | ⟨g, cap, cur, _, _, _, hnc, hcm, _⟩
    · omega
    · exact Nat.le_trans hnc (Nat.le_trans hcm (by decide))
  obtain ⟨a, c, rfl⟩ : ∃ a c, v = .slice a LL.length c := by
    rcases c2.2 with ⟨rfl, h0⟩ | ⟨g, cap, cur, rfl, _⟩
    · rw [h0]; exact ⟨_, _, rfl⟩
    · exact ⟨_, _, rfl⟩
  clear h2 c1 c2 c3 c4
  have HT := Lib.hid (take_sumN LL)
  have HS := Lib.hid (take_sumN_le LL)
  go_enter Try.func68, Try.ntmps68
  go_wp2
  go_loopw [1, 5] (fun x i wr => ∃ j : Nat, j ≤ LL.length ∧ i = .int .i64 j ∧ x = .int .i64 (k + 2 * sumN (LL.take j)) ∧ Mk 115 B C w wr) (fun _ i _ => LL.length - (intOf i).toNat)
  case atStart => exact ⟨0, Nat.zero_le _, rfl, by simp [sumN], Mk.refl _ _ _ _⟩
  case round =>
    obtain ⟨j, hj, rfl, rfl, hm⟩ := hrel
    have HM := Lib.hid hm
    clear hm
    by_cases hlt : j < LL.length
    · have c3 := ownsRow_mk C2.out HM.out (by decide)
      have hsh := (hrow.out j hlt).mk HM.out
      rcases c3.2 with ⟨_, h0⟩ | ⟨g, cap, cur, hv, hb, hg, hnc, hcm, hcs, _⟩
      · omega
      simp only [Value.slice.injEq] at hv
      obtain ⟨rfl, -, rfl⟩ := hv
      have hc1 := c3.cellAt j (by show j < LL.length * 1; omega)
      have hvs : (vs.map Hv.v)[j]? = some ((vs.map Hv.v).getD j undef) := by rw [List.getD_eq_getElem?_getD, List.getElem?_eq_getElem (by simp; omega)]; rfl
      rw [hvs] at hc1
      have HSH := Lib.hid hsh
      have e1 := HT.out j hlt
      have e2 := HS.out (j + 1)
      have E1 := Lib.hid e1
      clear hg hcs c3 hsh hvs hb hnc hcm
      generalize (vs.map Hv.v).getD j undef = u at hc1 HSH
      have hbd : k + 2 * (sumN (LL.take j) : Int) + 2 * ((LL[j]).length : Int) ≤ 4611686018427387904 := by omega
      generalize (LL[j]).length = m at HSH hbd E1
      clear e1 e2
      generalize hs0 : sumN (LL.take j) = s0 at hbd E1 ⊢
      have HS0 := Lib.hid hs0
      clear hs0
      go_wp2_with fail
      refine (markEndS_shp B C u m _ _ HSH.out (by omega) hbd).mono ?_
      rintro e w2 ⟨rfl, hm2⟩
      have HN := Lib.hid (HM.out.trans hm2)
      clear hm2
      go_wp2
      go_roundw
      case rel => exact ⟨j + 1, by omega, by go_num, by rw [E1.out]; congr 1; omega, HN.out⟩
      case measure => simp [intOf]; omega
    · go_wp2
      go_ret
      have he : j = LL.length := by omega
      subst he
      rw [List.take_length]
      exact ⟨rfl, HM.out⟩
set_option maxHeartbeats 800000 in
theorem markNetwork_any (B C : Nat) (v : Value) (x : T_Network) (k : Int) (w : World) (h : OwN B C w v x) (hC : C ≤ w.heap.size) (hk : 0 ≤ k) (hk2 : k + 2 * szN x ≤ 4611686018427387904) :
    Calls Try.prog 21 #[v, .int .i64 k] w fun e w' => e = .returned (.int .i64 (k + cntN x)) ∧ Chg B C w w' := by
  obtain ⟨v0, v1, v2, rfl, h0, h1, h2⟩ := h
  have HX : Hid (cntN x = 2 * sumN x.Ends + x.Ids.length + x.Inputs.length) := rfl
  unfold szN at hk2
  have s1 := Ow.shp (B := B) (C := C) h1 (fun g hg => rg_zero.1 (Ow.tagged h1 g hg))
  have s2 := Ow.shp (B := B) (C := C) h2 (fun g hg => rg_zero.1 (Ow.tagged h2 g hg))
  have H0 := Lib.hid h0
  have S1 := Lib.hid s1
  have S2 := Lib.hid s2
  obtain ⟨a0, c0, rfl, _⟩ := h0.rd
  obtain ⟨a1, c1, rfl⟩ := s1.form
  obtain ⟨a2, c2, rfl⟩ := s2.form
  clear h0 h1 h2 s1 s2
  go_enter Try.func21, Try.ntmps21
  go_wp2_with fail
  have K0 : Hid (Keeps w (w.alloc (.cells #[.slice a0 x.Ends.length c0, .slice a1 x.Ids.length c1, .slice a2 x.Inputs.length c2] 31))) := (Keeps.refl _).alloc _
  refine (markEndSS_shp B C _ x.Ends k _ (H0.out.stp (K0.out.stp 999 _) (by decide)) (by omega) (by omega)).mono ?_
  rintro e W0 ⟨rfl, m0⟩
  have hcc : ∀ i, W0.cell? ⟨w.heap.size, i, none⟩ = (w.alloc (.cells #[.slice a0 x.Ends.length c0, .slice a1 x.Ids.length c1, .slice a2 x.Inputs.length c2] 31)).cell? ⟨w.heap.size, i, none⟩ := fun i => World.cell?_of_block (m0.chg.block w.heap.size (by simp) (by omega))
  have hb0 := m0.size
  have M0 := Lib.hid m0
  clear m0
  go_wp2_with fail
  refine (markIntS_shp B C _ x.Ids.length _ _ ((S1.out.mk (K0.out.mk 3 B C)).mk M0.out) (by omega) (by omega)).mono ?_
  rintro e W1 ⟨rfl, m1⟩
  have hcc1 : ∀ i, W1.cell? ⟨w.heap.size, i, none⟩ = W0.cell? ⟨w.heap.size, i, none⟩ := fun i => World.cell?_of_block (m1.chg.block w.heap.size (by simp at hb0; omega) (by omega))
  have hb1 := m1.size
  have M1 := Lib.hid m1
  clear m1
  go_wp2_with fail
  refine (markIntS_shp B C _ x.Inputs.length _ _ (((S2.out.mk (K0.out.mk 3 B C)).mk M0.out).mk M1.out) (by omega) (by omega)).mono ?_
  rintro e W2 ⟨rfl, m2⟩
  have M2 := Lib.hid m2
  clear m2
  go_wp2
  go_ret
  exact ⟨ret_int (by rw [HX.out]; omega), (((K0.out.chg B C).trans M0.out.chg).trans M1.out.chg).trans M2.out.chg⟩
end Go.Proofs.Ytijaojnaamkinaa
