/- What the form's reading of a network gives the walks. -/
import Derived.Test.YtijaojnaamkinaaNz
import Derived.Test.YtijaojnaamkinaaRng
import Derived.Test.YtijaojnaamkinaaAd
import Derived.Test.YtijaojnaamkinaaStr
import Derived.Test.YtijaojnaamkinaaTy
import Derived.Test.YtijaojnaamkinaaOpen
import Derived.Deep.Matrix
import Derived.Lib.SmallJoins
namespace Go.Proofs.Ytijaojnaamkinaa
set_option linter.unusedSimpArgs false
set_option linter.unusedVariables false

open Go.RowKit
/-- Rows of the type e alone, in the blocks from B to C, have been written to; their sizes are what they were. -/
structure Mk (e : TypeId) (B C : Nat) (w w' : World) : Prop where
  os : w'.os = w.os
  tape : w'.tape = w.tape
  output : w'.output = w.output
  size : w.heap.size ≤ w'.heap.size
  block : ∀ b, b < w.heap.size → w'.heap[b]? = w.heap[b]? ∨ (B ≤ b ∧ b < C ∧ ∃ cur cur', w.heap[b]? = some (.cells cur e (0, 0)) ∧ w'.heap[b]? = some (.cells cur' e (0, 0)) ∧ cur'.size = cur.size)
/-- The row's block, its size. -/
def Shp (e : TypeId) (sz B C : Nat) (w : World) (v : Value) (n : Nat) : Prop :=
  n ≤ maxLen ∧ ((v = .slice none 0 0 ∧ n = 0) ∨ ∃ g cap cur, v = .slice (some ⟨g, 0, none⟩) n cap ∧ B ≤ g ∧ g < C ∧ w.heap[g]? = some (.cells cur e (0, 0)) ∧ n ≤ cap ∧ cur.size = cap * sz)
section
variable {e e' : TypeId} {B C B' C' : Nat} {w w' w'' : World} {v : Value} {n sz : Nat}
theorem Mk.refl (e : TypeId) (B C : Nat) (w : World) : Mk e B C w w := ⟨rfl, rfl, rfl, Nat.le_refl _, fun _ _ => .inl rfl⟩
theorem Mk.trans (h : Mk e B C w w') (k : Mk e B C w' w'') : Mk e B C w w'' := by
  refine ⟨k.os.trans h.os, k.tape.trans h.tape, k.output.trans h.output, Nat.le_trans h.size k.size, fun b hb => ?_⟩
  rcases h.block b hb with h1 | ⟨h1, h2, cur, cur', h3, h4, h5⟩ <;> rcases k.block b (Nat.lt_of_lt_of_le hb h.size) with k1 | ⟨k1, k2, kur, kur', k3, k4, k5⟩
  · exact .inl (k1.trans h1)
  · exact .inr ⟨k1, k2, kur, kur', h1 ▸ k3, k4, k5⟩
  · exact .inr ⟨h1, h2, cur, cur', h3, k1.trans h4, h5⟩
  · rw [h4] at k3; cases k3
    exact .inr ⟨h1, h2, cur, kur', h3, k4, k5.trans h5⟩
theorem Mk.chg (h : Mk e B C w w') : Chg B C w w' := ⟨h.os, h.tape, h.output, h.size, fun b hb hn => by
  rcases h.block b hb with h1 | ⟨h1, h2, _⟩
  · exact h1
  · exact absurd ⟨h1, h2⟩ hn⟩
theorem Keeps.mk (h : Keeps w w') (e : TypeId) (B C : Nat) : Mk e B C w w' := ⟨h.os, h.tape, h.output, h.size, fun b hb => .inl (h.block b hb)⟩
theorem Shp.mk (h : Shp e sz B C w v n) (k : Mk e' B' C' w w') : Shp e sz B C w' v n := by
  obtain ⟨h0, h⟩ := h
  refine ⟨h0, ?_⟩
  rcases h with h | ⟨g, cap, cur, h1, h2, h3, h4, h5, h6⟩
  · exact .inl h
  · have hg : g < w.heap.size := (Array.getElem?_eq_some_iff.1 h4).1
    rcases k.block g hg with k1 | ⟨_, _, kur, kur', k3, k4, k5⟩
    · exact .inr ⟨g, cap, cur, h1, h2, h3, k1.trans h4, h5, h6⟩
    · rw [h4] at k3; cases k3
      exact .inr ⟨g, cap, kur', h1, h2, h3, k4, h5, k5.trans h6⟩
theorem Shp.form (h : Shp e sz B C w v n) : ∃ a c, v = .slice a n c := by
  obtain ⟨_, ⟨rfl, rfl⟩ | ⟨g, cap, cur, rfl, _⟩⟩ := h
  · exact ⟨_, _, rfl⟩
  · exact ⟨_, _, rfl⟩
theorem Mk.set {g j : Nat} {cur : Array Value} (hg : w.heap[g]? = some (.cells cur e (0, 0))) (h1 : B ≤ g) (h2 : g < C) (u : Value) : Mk e B C w (w.setCell ⟨g, j, none⟩ u) := by
  refine ⟨rfl, rfl, rfl, by simp [World.setCell], fun b hb => ?_⟩
  by_cases hq : b = g
  · subst hq
    refine .inr ⟨h1, h2, cur, cur.setIfInBounds j u, hg, ?_, by simp⟩
    simp only [World.setCell]
    rw [Array.getElem?_modify, if_pos rfl, hg]
    rfl
  · refine .inl ?_
    simp only [World.setCell]
    rw [Array.getElem?_modify, if_neg (Ne.symm hq)]
theorem Ow.shp {α : Type} [Rp α] {k : Nat} {o : Tg} {xs : List α} (h : Ow B' e k o w v xs) (ho : ∀ g, v.ownBlock = some g → B ≤ g ∧ g < C) : Shp e (Rp.sz α) B C w v xs.length := by
  obtain ⟨css, h1, h2, _⟩ := h
  rcases h2.2 with ⟨rfl, h0⟩ | ⟨g, cap, cur, rfl, hb, hg, hnc, hcm, hcs, _⟩
  · exact ⟨by rw [h0]; exact Nat.zero_le _, .inl ⟨rfl, h0⟩⟩
  · have := ho g rfl
    exact ⟨Nat.le_trans hnc hcm, .inr ⟨g, cap, cur, rfl, this.1, this.2, hg, hnc, hcs⟩⟩
end
set_option maxHeartbeats 800000 in
theorem markIntS_shp (B C : Nat) (v : Value) (n : Nat) (k : Int) (w : World) (h : Shp 3 1 B C w v n) (hk : 0 ≤ k) (hk2 : k + n ≤ 4611686018427387904) :
    Calls Try.prog 22 #[v, .int .i64 k] w fun e w' => e = .returned (.int .i64 (k + n)) ∧ Mk 3 B C w w' := by
  obtain ⟨a, c, rfl⟩ := h.form
  have H := Lib.hid h
  clear h
  go_enter Try.func22, Try.ntmps22
  go_wp2
  go_loopw [1, 5] (fun x i wr => ∃ j : Nat, j ≤ n ∧ i = .int .i64 j ∧ x = .int .i64 (k + j) ∧ Mk 3 B C w wr) (fun _ i _ => n - (intOf i).toNat)
  case atStart => exact ⟨0, Nat.zero_le _, rfl, by simp, Mk.refl _ _ _ _⟩
  case round =>
    obtain ⟨j, hj, rfl, rfl, hm⟩ := hrel
    have HM := Lib.hid hm
    clear hm
    by_cases hlt : j < n
    · obtain ⟨_, ⟨hv, h0⟩ | ⟨g, cap, cur, hv, hB, hC, hg, hnc, hcs⟩⟩ := H.out.mk HM.out
      · omega
      simp only [Value.slice.injEq] at hv
      obtain ⟨rfl, -, rfl⟩ := hv
      have hjc : j < cur.size := by omega
      have hc1 : wr.cell? ⟨g, j, none⟩ = some cur[j] := by rw [cell_of_row wr g j cur 3 (0, 0) hg, Array.getElem?_eq_getElem hjc]
      have hc2 : wr.frozen? ⟨g, j, none⟩ = false := frozen_of_row wr g j cur 3 hg
      have HN : Hid (∀ u, Mk 3 B C w (wr.setCell ⟨g, j, none⟩ u)) := fun u => HM.out.trans (Mk.set hg hB hC u)
      generalize cur[j] = u at hc1
      clear hg hcs hjc
      go_wp2
      go_roundw
      case rel => exact ⟨j + 1, by omega, by go_num, by congr 1; omega, HN.out _⟩
      case measure => simp [intOf]; omega
    · go_wp2
      go_ret
      have he : j = n := by omega
      subst he
      exact ⟨rfl, HM.out⟩
set_option maxHeartbeats 800000 in
theorem markEndS_shp (B C : Nat) (v : Value) (n : Nat) (k : Int) (w : World) (h : Shp 115 2 B C w v n) (hk : 0 ≤ k) (hk2 : k + 2 * n ≤ 4611686018427387904) :
    Calls Try.prog 99 #[v, .int .i64 k] w fun e w' => e = .returned (.int .i64 (k + 2 * n)) ∧ Mk 115 B C w w' := by
  obtain ⟨a, c, rfl⟩ := h.form
  have H := Lib.hid h
  clear h
  go_enter Try.func99, Try.ntmps99
  go_wp2
  go_loopw [1, 5] (fun x i wr => ∃ j : Nat, j ≤ n ∧ i = .int .i64 j ∧ x = .int .i64 (k + 2 * j) ∧ Mk 115 B C w wr) (fun _ i _ => n - (intOf i).toNat)
  case atStart => exact ⟨0, Nat.zero_le _, rfl, by simp, Mk.refl _ _ _ _⟩
  case round =>
    obtain ⟨j, hj, rfl, rfl, hm⟩ := hrel
    have HM := Lib.hid hm
    clear hm
    by_cases hlt : j < n
    · obtain ⟨_, ⟨hv, h0⟩ | ⟨g, cap, cur, hv, hB, hC, hg, hnc, hcs⟩⟩ := H.out.mk HM.out
      · omega
      simp only [Value.slice.injEq] at hv
      obtain ⟨rfl, -, rfl⟩ := hv
      have hj1 : j * 2 < cur.size := by omega
      have hj2 : j * 2 + 1 < cur.size := by omega
      have hc1 : wr.cell? ⟨g, j * 2, none⟩ = some cur[j * 2] := by rw [cell_of_row wr g (j * 2) cur 115 (0, 0) hg, Array.getElem?_eq_getElem hj1]
      have hc2 : wr.frozen? ⟨g, j * 2, none⟩ = false := frozen_of_row wr g (j * 2) cur 115 hg
      have hd1 : wr.cell? ⟨g, j * 2 + 1, none⟩ = some cur[j * 2 + 1] := by rw [cell_of_row wr g (j * 2 + 1) cur 115 (0, 0) hg, Array.getElem?_eq_getElem hj2]
      have hd2 : wr.frozen? ⟨g, j * 2 + 1, none⟩ = false := frozen_of_row wr g (j * 2 + 1) cur 115 hg
      have HN : Hid (∀ u u', Mk 115 B C w ((wr.setCell ⟨g, j * 2, none⟩ u).setCell ⟨g, j * 2 + 1, none⟩ u')) := fun u u' => by
        have m1 := Mk.set (j := j * 2) hg hB hC u
        refine (HM.out.trans m1).trans (Mk.set (cur := cur.setIfInBounds (j * 2) u) ?_ hB hC u')
        simp only [World.setCell]
        rw [Array.getElem?_modify, if_pos rfl, hg]
        rfl
      generalize cur[j * 2] = u at hc1
      generalize cur[j * 2 + 1] = u1 at hd1
      clear hg hcs hj1 hj2
      go_wp2
      go_roundw
      case rel => exact ⟨j + 1, by omega, by go_num, by congr 1; omega, HN.out _ _⟩
      case measure => simp [intOf]; omega
    · go_wp2
      go_ret
      have he : j = n := by omega
      subst he
      exact ⟨rfl, HM.out⟩
open Go.RowKit
/-- The blocks from B to C. -/
def rg (B C : Nat) : Tg := fun b => if B ≤ b ∧ b < C then 0 else 1
section
variable {α : Type} [Rp α] {e er : TypeId} {o o' : Tg} {w w' : World} {v : Value} {B C B' C' : Nat}
theorem Ow.zs {B : Nat} {xs : List α} (h : Ow B e 0 o w v xs) (hz : ∀ b, b < w.heap.size → o b = 0 → o' b = 0) : Ow B e 0 o' w v xs := by
  obtain ⟨css, h1, h2, h3, h4⟩ := h
  exact ⟨css, h1, h2, fun g hg => hz g (h2.lt g hg).2 (h3 g hg), fun i cs x a b => Rp.mv (h4 i cs x a b) (Nat.le_refl _) fun b hb h0 => ⟨rfl, hz b hb h0⟩⟩
theorem Of.zs {xs : List α} (h : Of e o w v xs) (hz : ∀ b, b < w.heap.size → o b = 0 → o' b = 0) : Of e o' w v xs := Ow.zs h hz
theorem Dz.zs {xs : List (List α)} (h : Dz e er o w v xs) (hz : ∀ b, b < w.heap.size → o b = 0 → o' b = 0) : Dz e er o' w v xs := by
  obtain ⟨vs, h1, h2⟩ := h
  exact ⟨vs, h1.zs hz, h2.1, fun i u x a b => (h2.2.1 i u x a b).zs hz, h2.2.2⟩
/-- Two intervals of blocks. -/
def rg2 (B C B' C' : Nat) : Tg := fun b => if B ≤ b ∧ b < C then 0 else if B' ≤ b ∧ b < C' then 5 else 1
theorem chg_stp (c : Chg B' C' w w') (hd : C ≤ B' ∨ C' ≤ B) : Stp 5 (rg2 B C B' C') w (rg2 B C B' C') w' := by
  refine ⟨c.os, c.tape, c.output, c.size, fun b hb hn => c.block b hb fun h => hn ?_, fun _ _ => rfl⟩
  unfold rg2
  rw [if_neg (by omega), if_pos h]
theorem rg_zero {b : Nat} : rg B C b = 0 ↔ B ≤ b ∧ b < C := by unfold rg; split <;> simp [*]
theorem rg2_zero {b : Nat} : rg2 B C B' C' b = 0 ↔ B ≤ b ∧ b < C := by
  unfold rg2
  split
  · simp [*]
  · split <;> simp [*]
theorem Of.chgI {xs : List α} (h : Of e (rg B C) w v xs) (c : Chg B' C' w w') (hd : C ≤ B' ∨ C' ≤ B) : Of e (rg B C) w' v xs :=
  ((h.zs (o' := rg2 B C B' C') fun b _ h0 => rg2_zero.2 (rg_zero.1 h0)).stp (chg_stp c hd) (by decide)).zs fun b _ h0 => rg_zero.2 (rg2_zero.1 h0)
theorem Dz.chgI {xs : List (List α)} (h : Dz e er (rg B C) w v xs) (c : Chg B' C' w w') (hd : C ≤ B' ∨ C' ≤ B) : Dz e er (rg B C) w' v xs :=
  ((h.zs (o' := rg2 B C B' C') fun b _ h0 => rg2_zero.2 (rg_zero.1 h0)).stp (chg_stp c hd) (by decide)).zs fun b _ h0 => rg_zero.2 (rg2_zero.1 h0)
theorem Of.newI {w0 : World} {xs : List α} (h : Of e o' w v xs) (ho : ∀ b, b < w0.heap.size → o' b = 1) : Of e (rg w0.heap.size w.heap.size) w v xs :=
  h.zs fun b hb h0 => rg_zero.2 ⟨Nat.le_of_not_lt (fun hl => by rw [ho b hl] at h0; cases h0), hb⟩
theorem Dz.newI {w0 : World} {xs : List (List α)} (h : Dz e er o' w v xs) (ho : ∀ b, b < w0.heap.size → o' b = 1) : Dz e er (rg w0.heap.size w.heap.size) w v xs :=
  h.zs fun b hb h0 => rg_zero.2 ⟨Nat.le_of_not_lt (fun hl => by rw [ho b hl] at h0; cases h0), hb⟩
end
/-- The network x, all of it in the blocks from B to C. -/
def OwN (B C : Nat) (w : World) (v : Value) (x : T_Network) : Prop :=
  ∃ v0 v1 v2, v = .agg #[v0, v1, v2] ∧ Dz 110 115 (rg B C) w v0 x.Ends ∧ Of 3 (rg B C) w v1 x.Ids ∧ Of 3 (rg B C) w v2 x.Inputs
def okN (_ : T_Network) : Prop := True
section
variable {B C B' C' : Nat} {w w' : World} {v : Value} {x : T_Network}
theorem RdN.keep (h : RdN w v x) (k : Keeps w w') : RdN w' v x := by
  obtain ⟨u, rfl, h⟩ := h
  exact ⟨u, rfl, Rp.keep h k⟩
theorem RdN.shape (h : RdN w v x) : ∃ a0 c0 a1 c1 a2 c2, v = .agg #[.slice a0 x.Ends.length c0, .slice a1 x.Ids.length c1, .slice a2 x.Inputs.length c2] := by
  obtain ⟨u, rfl, v0, v1, v2, rfl, ⟨a0, c0, rfl, _⟩, ⟨a1, c1, rfl, _⟩, ⟨a2, c2, rfl, _⟩⟩ := h
  exact ⟨_, _, _, _, _, _, rfl⟩
theorem OwN.rd (h : OwN B C w v x) : RdN w v x := by
  obtain ⟨v0, v1, v2, rfl, h0, h1, h2⟩ := h
  exact ⟨[v0, v1, v2], rfl, v0, v1, v2, rfl, h0.rd.z, h1.rd.z, h2.rd.z⟩
theorem OwN.keep (h : OwN B C w v x) (k : Keeps w w') : OwN B C w' v x := by
  obtain ⟨v0, v1, v2, rfl, h0, h1, h2⟩ := h
  exact ⟨v0, v1, v2, rfl, h0.stp (k.stp 999 _) (by decide), h1.stp (k.stp 999 _) (by decide), h2.stp (k.stp 999 _) (by decide)⟩
theorem OwN.chg (h : OwN B C w v x) (c : Chg B' C' w w') (hd : C ≤ B' ∨ C' ≤ B) : OwN B C w' v x := by
  obtain ⟨v0, v1, v2, rfl, h0, h1, h2⟩ := h
  exact ⟨v0, v1, v2, rfl, h0.chgI c hd, h1.chgI c hd, h2.chgI c hd⟩
end
theorem szNetwork_any (v : Value) (x : T_Network) (left : Int) (w : World) (h : RdN w v x) (h0 : 0 ≤ left) (h1 : left ≤ 1048576) :
    Calls Try.prog 13 #[v, .int .i64 left] w fun e w' => e = .returned (.int .i64 (szL left (szN x))) ∧ Keeps w w' := by
  have hf := h.fit
  obtain ⟨u, rfl, hu⟩ := h
  exact cL_szNetwork 2000000 w u x hu left _ (e_szNetwork 2000000 (by omega) x hf left h0 h1)
theorem toNetwork_any (v : Value) (x : T_Network) (w : World) (h : RdN w v x) (hs : szN x ≤ 1048576) :
    Calls Try.prog 15 #[v] w fun e w' => ∃ r, e = .returned r ∧ OwN w.heap.size w'.heap.size w' r x ∧ Keeps w w' := by
  obtain ⟨u, rfl, hu⟩ := h
  refine (cL_toNetwork 2000000 w ot 2 (by decide) u x hu x (e_toNetwork 2000000 (by omega) x hs)).mono ?_
  rintro e w' ⟨v0, o', rfl, hr, h0, h1, h2, hk, ho⟩
  obtain ⟨a, b, c, rfl, _⟩ := hr
  exact ⟨_, rfl, ⟨a, b, c, rfl, Dz.newI h0 ho, Of.newI h1 ho, Of.newI h2 ho⟩, hk⟩
theorem eqNetwork_same (va vb : Value) (x : T_Network) (w : World) (ha : RdN w va x) (hb : RdN w vb x) (hs : szN x ≤ 1048576) :
    Calls Try.prog 17 #[va, vb] w fun e w' => e = .returned (.bool true) ∧ Keeps w w' := by
  obtain ⟨u, rfl, hu⟩ := ha
  obtain ⟨u', rfl, hu'⟩ := hb
  exact cL_eqNetwork 2000000 w u x hu u' x hu' _ (e_eqNetwork 2000000 (by omega) x hs)
/-! ### Marks -/
def cntN (x : T_Network) : Nat := 2 * sumN x.Ends + x.Ids.length + x.Inputs.length
theorem cntN_le (x : T_Network) : cntN x ≤ 2 * szN x := by unfold cntN szN; omega
theorem ownsRow_mk {D : Nat} {e e' : TypeId} {sz n B C : Nat} {v : Value} {xs : List Value} {w w' : World} (h : w.ownsRow D e sz v n xs) (k : Mk e' B C w w') (hne : e ≠ e') : w'.ownsRow D e sz v n xs := by
  refine ⟨h.1, ?_⟩
  rcases h.2 with h0 | ⟨g, cap, cur, h1, h2, h3, h4⟩
  · exact .inl h0
  · have hg : g < w.heap.size := (Array.getElem?_eq_some_iff.1 h3).1
    rcases k.block g hg with k1 | ⟨_, _, kur, kur', k3, _⟩
    · exact .inr ⟨g, cap, cur, h1, h2, k1.trans h3, h4⟩
    · rw [h3] at k3; cases k3; exact absurd rfl hne
theorem take_sumN {α : Type} (LL : List (List α)) (j : Nat) (h : j < LL.length) : sumN (LL.take (j + 1)) = sumN (LL.take j) + LL[j].length := by
  unfold sumN
  rw [List.take_add_one, List.getElem?_eq_getElem h, Option.toList_some, List.map_append, List.sum_append]
  simp only [List.map_cons, List.map_nil, List.sum_cons, List.sum_nil, Nat.add_zero]
theorem take_sumN_le {α : Type} : ∀ (LL : List (List α)) (j : Nat), sumN (LL.take j) ≤ sumN LL
  | [], j => by simp [sumN]
  | x :: LL, 0 => by simp [sumN]
  | x :: LL, j + 1 => by
    have := take_sumN_le LL j
    simp only [sumN, List.take_succ_cons, List.map_cons, List.sum_cons] at *
    omega
set_option maxHeartbeats 800000 in
theorem markEndSS_shp (B C : Nat) (v : Value) (LL : List (List T_End)) (k : Int) (w : World) (h : Dz 110 115 (rg B C) w v LL) (hk : 0 ≤ k) (hk2 : k + 2 * sumN LL ≤ 4611686018427387904) :
    Calls Try.prog 68 #[v, .int .i64 k] w fun e w' => e = .returned (.int .i64 (k + 2 * sumN LL)) ∧ Mk 115 B C w w' := by
  obtain ⟨vs, h1, h2⟩ := h
  have hl := h2.1
  obtain ⟨css, c1, c2, c3, c4⟩ := h1
  rw [flat_hv c1 (fun i cs x a b => c4 i cs x a b), hl] at c2
  have hrow : Hid (∀ j (hj : j < LL.length), Shp 115 2 B C w ((vs.map Hv.v).getD j undef) (LL[j]).length) := fun j hj => by
    have hv : vs[j]? = some (vs[j]'(by omega)) := List.getElem?_eq_getElem (by omega)
    have := (h2.2.1 j _ _ hv (List.getElem?_eq_getElem hj)).shp (B := B) (C := C) (fun g hg => rg_zero.1 ((h2.2.1 j _ _ hv (List.getElem?_eq_getElem hj)).tagged g hg))
    rw [List.getD_eq_getElem?_getD, List.getElem?_map, hv]
    exact this
  have C2 := Lib.hid c2
  have hmax : LL.length ≤ 9223372036854775807 := by
    rcases c2.2 with ⟨_, h0⟩ | ⟨g, cap, cur, _, _, _, hnc, hcm, _⟩
    · omega
    · exact Nat.le_trans hnc (Nat.le_trans hcm (by decide))
  obtain ⟨a, c, rfl⟩ : ∃ a c, v = .slice a LL.length c := by
    rcases c2.2 with ⟨rfl, h0⟩ | ⟨g, cap, cur, rfl, _⟩
    · rw [h0]; exact ⟨_, _, rfl⟩
    · exact ⟨_, _, rfl⟩
  clear h2 c1 c2 c3 c4
  have HT := Lib.hid (take_sumN LL)
  have HS := Lib.hid (take_sumN_le LL)
  go_enter Try.func68, Try.ntmps68
  go_wp2
  go_loopw [1, 5] (fun x i wr => ∃ j : Nat, j ≤ LL.length ∧ i = .int .i64 j ∧ x = .int .i64 (k + 2 * sumN (LL.take j)) ∧ Mk 115 B C w wr) (fun _ i _ => LL.length - (intOf i).toNat)
  case atStart => exact ⟨0, Nat.zero_le _, rfl, by simp [sumN], Mk.refl _ _ _ _⟩
  case round =>
    obtain ⟨j, hj, rfl, rfl, hm⟩ := hrel
    have HM := Lib.hid hm
    clear hm
    by_cases hlt : j < LL.length
    · have c3 := ownsRow_mk C2.out HM.out (by decide)
      have hsh := (hrow.out j hlt).mk HM.out
      rcases c3.2 with ⟨_, h0⟩ | ⟨g, cap, cur, hv, hb, hg, hnc, hcm, hcs, _⟩
      · omega
      simp only [Value.slice.injEq] at hv
      obtain ⟨rfl, -, rfl⟩ := hv
      have hc1 := c3.cellAt j (by show j < LL.length * 1; omega)
      have hvs : (vs.map Hv.v)[j]? = some ((vs.map Hv.v).getD j undef) := by rw [List.getD_eq_getElem?_getD, List.getElem?_eq_getElem (by simp; omega)]; rfl
      rw [hvs] at hc1
      have HSH := Lib.hid hsh
      have e1 := HT.out j hlt
      have e2 := HS.out (j + 1)
      have E1 := Lib.hid e1
      clear hg hcs c3 hsh hvs hb hnc hcm
      generalize (vs.map Hv.v).getD j undef = u at hc1 HSH
      have hbd : k + 2 * (sumN (LL.take j) : Int) + 2 * ((LL[j]).length : Int) ≤ 4611686018427387904 := by omega
      generalize (LL[j]).length = m at HSH hbd E1
      clear e1 e2
      generalize hs0 : sumN (LL.take j) = s0 at hbd E1 ⊢
      have HS0 := Lib.hid hs0
      clear hs0
      go_wp2_with fail
      refine (markEndS_shp B C u m _ _ HSH.out (by omega) hbd).mono ?_
      rintro e w2 ⟨rfl, hm2⟩
      have HN := Lib.hid (HM.out.trans hm2)
      clear hm2
      go_wp2
      go_roundw
      case rel => exact ⟨j + 1, by omega, by go_num, by rw [E1.out]; congr 1; omega, HN.out⟩
      case measure => simp [intOf]; omega
    · go_wp2
      go_ret
      have he : j = LL.length := by omega
      subst he
      rw [List.take_length]
      exact ⟨rfl, HM.out⟩
set_option maxHeartbeats 800000 in
theorem markNetwork_any (B C : Nat) (v : Value) (x : T_Network) (k : Int) (w : World) (h : OwN B C w v x) (hC : C ≤ w.heap.size) (hk : 0 ≤ k) (hk2 : k + 2 * szN x ≤ 4611686018427387904) :
    Calls Try.prog 21 #[v, .int .i64 k] w fun e w' => e = .returned (.int .i64 (k + cntN x)) ∧ Chg B C w w' := by
  obtain ⟨v0, v1, v2, rfl, h0, h1, h2⟩ := h
  have HX : Hid (cntN x = 2 * sumN x.Ends + x.Ids.length + x.Inputs.length) := rfl
  unfold szN at hk2
  have s1 := Ow.shp (B := B) (C := C) h1 (fun g hg => rg_zero.1 (Ow.tagged h1 g hg))
  have s2 := Ow.shp (B := B) (C := C) h2 (fun g hg => rg_zero.1 (Ow.tagged h2 g hg))
  have H0 := Lib.hid h0
  have S1 := Lib.hid s1
  have S2 := Lib.hid s2
  obtain ⟨a0, c0, rfl, _⟩ := h0.rd
  obtain ⟨a1, c1, rfl⟩ := s1.form
  obtain ⟨a2, c2, rfl⟩ := s2.form
  clear h0 h1 h2 s1 s2
  go_enter Try.func21, Try.ntmps21
  go_wp2_with fail
  have K0 : Hid (Keeps w (w.alloc (.cells #[.slice a0 x.Ends.length c0, .slice a1 x.Ids.length c1, .slice a2 x.Inputs.length c2] 31))) := (Keeps.refl _).alloc _
  refine (markEndSS_shp B C _ x.Ends k _ (H0.out.stp (K0.out.stp 999 _) (by decide)) (by omega) (by omega)).mono ?_
  rintro e W0 ⟨rfl, m0⟩
  have hcc : ∀ i, W0.cell? ⟨w.heap.size, i, none⟩ = (w.alloc (.cells #[.slice a0 x.Ends.length c0, .slice a1 x.Ids.length c1, .slice a2 x.Inputs.length c2] 31)).cell? ⟨w.heap.size, i, none⟩ := fun i => World.cell?_of_block (m0.chg.block w.heap.size (by simp) (by omega))
  have hb0 := m0.size
  have M0 := Lib.hid m0
  clear m0
  go_wp2_with fail
  refine (markIntS_shp B C _ x.Ids.length _ _ ((S1.out.mk (K0.out.mk 3 B C)).mk M0.out) (by omega) (by omega)).mono ?_
  rintro e W1 ⟨rfl, m1⟩
  have hcc1 : ∀ i, W1.cell? ⟨w.heap.size, i, none⟩ = W0.cell? ⟨w.heap.size, i, none⟩ := fun i => World.cell?_of_block (m1.chg.block w.heap.size (by simp at hb0; omega) (by omega))
  have hb1 := m1.size
  have M1 := Lib.hid m1
  clear m1
  go_wp2_with fail
  refine (markIntS_shp B C _ x.Inputs.length _ _ (((S2.out.mk (K0.out.mk 3 B C)).mk M0.out).mk M1.out) (by omega) (by omega)).mono ?_
  rintro e W2 ⟨rfl, m2⟩
  have M2 := Lib.hid m2
  clear m2
  go_wp2
  go_ret
  exact ⟨ret_int (by rw [HX.out]; omega), (((K0.out.chg B C).trans M0.out.chg).trans M1.out.chg).trans M2.out.chg⟩
open Go.ChangeShapes Go.WideShapes Go.ChangeAt Go.RowKit Go.Deep Go.Joins
set_option maxRecDepth 100000
set_option linter.unusedSimpArgs false
section
variable {H : Type} {enc : TypeId × Value → H} {W : World}
/-- What lies in the cells of a variable of type t reads as an α. -/
def Opn (enc : TypeId × Value → H) (W : World) (t : TypeId) (α : Type) [Rp α] : Prop :=
  ∀ (n : Nat) (cs : List Value) (y : DataW H × List MemPlace), DataW.trod enc Try.prog W 0 (fun _ => true) true n t cs = some y → ∃ x : α, Rp.rd zt W cs x
theorem opn_int : Opn enc W 3 Int := fun n cs y h => by
  obtain ⟨m, h1, _, h2⟩ := DataW.trod_int Try.underlying3 h
  exact ⟨m, h1⟩
theorem opn_slice {α : Type} [Rp α] {t e : TypeId} (ht : Try.prog.underlying t = some (.slice e)) (hc : Try.prog.cellsOf e = Rp.sz α) (he : Opn enc W e α) : Opn enc W t (List α) := fun n cs y h => by
  rcases DataW.trod_slice ht h with ⟨rfl, _⟩ | ⟨a, len, cap, elems, rest, m, _, rfl, _, hb, hl, hm, hlen, hel, _, _⟩
  · exact ⟨[], _, rfl, RdL.nil zt W⟩
  · rw [hc] at hel
    by_cases h0 : len = 0
    · subst h0
      exact ⟨[], _, rfl, some a, cap, by simp, by simp, hm, fun i x hx => by simp at hx⟩
    have hpos := Rp.pos (α := α)
    obtain ⟨b, off, spot⟩ := a
    have hs : spot = none := by
      have h1 := hel 0 (by omega)
      rw [List.getElem?_eq_getElem (show 0 < elems.length by omega), Option.bind_eq_some_iff] at h1
      obtain ⟨cs, h3, h4⟩ := h1
      obtain ⟨_, h5, h6⟩ := World.cells?_some h3
      have h7 := h6 0 hpos
      rw [List.getElem?_eq_getElem (show 0 < cs.length by omega)] at h7
      simpa [Addr.add] using World.cell?_spot h7
    subst hs
    have each : ∀ i, i < len → ∃ x : α, ∃ cs, b < W.heap.size ∧ Cells W b (off + i * Rp.sz α) cs ∧ Rp.rd zt W cs x := fun i hi => by
      have h1 := hel i hi
      rw [List.getElem?_eq_getElem (show i < elems.length by omega), Option.bind_eq_some_iff] at h1
      obtain ⟨cs, h3, h4⟩ := h1
      obtain ⟨x, hx⟩ := he m cs _ h4
      rw [Go.WideShapes.add_plain] at h3
      obtain ⟨_, h5, h6⟩ := World.cells?_some h3
      refine ⟨x, cs, World.cells?_block h3 hpos, fun j v hj => ?_, hx⟩
      have hjl := (List.getElem?_eq_some_iff.1 hj).1
      have := h6 j (by omega)
      rw [hj, Go.WideShapes.add_plain] at this
      exact this
    refine ⟨List.ofFn fun i : _root_.Fin len => Classical.choose (each i.1 i.2), _, rfl, some ⟨b, off, none⟩, cap, by simp, by simpa using hl, hm, fun i x hx => ?_⟩
    have hi : i < len := by
      have := (List.getElem?_eq_some_iff.1 hx).1
      simpa using this
    rw [List.getElem?_eq_getElem (by simpa using hi), List.getElem_ofFn] at hx
    obtain ⟨cs, h2, h3, h4⟩ := Classical.choose_spec (each i hi)
    cases hx
    exact ⟨b, off, cs, rfl, rfl, h2, h3, h4⟩
theorem list2 {cs : List Value} (h : cs.length = 2) : ∃ a b, cs = [a, b] := by
  match cs, h with
  | [a, b], _ => exact ⟨a, b, rfl⟩
theorem list3 {cs : List Value} (h : cs.length = 3) : ∃ a b c, cs = [a, b, c] := by
  match cs, h with
  | [a, b, c], _ => exact ⟨a, b, c, rfl⟩
theorem list4 {cs : List Value} (h : cs.length = 4) : ∃ a b c d, cs = [a, b, c, d] := by
  match cs, h with
  | [a, b, c, d], _ => exact ⟨a, b, c, d, rfl⟩
theorem opn_fields {t : TypeId} {fs : Array Field} {n : Nat} {cs : List Value} {y : DataW H × List MemPlace} (ht : Try.prog.underlying t = some (.struct fs)) (hone : oneCellFields Try.prog fs = true) (h : DataW.trod enc Try.prog W 0 (fun _ => true) true n t cs = some y) :
    ∃ m, cs.length = Try.prog.cellsOf t ∧ ∀ (i : Nat) (f : Field), fs[i]? = some f → ∃ y', DataW.trod enc Try.prog W 0 (fun _ => true) true m f.type ((cs.drop i).take 1) = some y' := by
  obtain ⟨xs, m, _, _, hl, hx, hf⟩ := DataW.trod_struct ht h
  refine ⟨m, hl, fun i f hi => ?_⟩
  obtain ⟨o0, k0⟩ := hone_of hone i f hi
  have h0 := hf i f hi
  have hlt : i < xs.length := by rw [hx]; exact (Array.getElem?_eq_some_iff.1 hi).1
  rw [o0, k0, List.getElem?_eq_getElem hlt] at h0
  exact ⟨_, h0⟩
theorem opn_ints : Opn enc W 23 (List Int) := opn_slice Try.underlying23 (by kernel_rfl) opn_int

theorem opn_rows : Opn enc W 41 (List (List Int)) := opn_slice Try.underlying41 (by kernel_rfl) opn_ints

theorem opn_End : Opn enc W 136 T_End := fun n cs y h => by
  obtain ⟨m, hl, hf⟩ := opn_fields Try.underlying136 (by kernel_rfl) h
  obtain ⟨c0, c1, rfl⟩ := list2 (hl.trans (by kernel_rfl))
  obtain ⟨y0, h0⟩ := hf 0 _ rfl
  obtain ⟨y1, h1⟩ := hf 1 _ rfl
  obtain ⟨a0, e0⟩ := opn_int (enc := enc) (W := W) m [c0] _ h0
  obtain ⟨a1, e1⟩ := opn_int (enc := enc) (W := W) m [c1] _ h1
  cases e0; cases e1
  exact ⟨⟨a0, a1⟩, rfl⟩

theorem opn_Network : Opn enc W 25 T_Network := fun n cs y h => by
  obtain ⟨m, hl, hf⟩ := opn_fields Try.underlying25 (by kernel_rfl) h
  obtain ⟨c0, c1, c2, rfl⟩ := list3 (hl.trans (by kernel_rfl))
  obtain ⟨y0, h0⟩ := hf 0 _ rfl
  obtain ⟨y1, h1⟩ := hf 1 _ rfl
  obtain ⟨y2, h2⟩ := hf 2 _ rfl
  obtain ⟨a0, v0, e0, r0⟩ := opn_slice (W := W) (enc := enc) Try.underlying22 (by kernel_rfl) (opn_slice Try.underlying108 (by kernel_rfl) opn_End) m [c0] _ h0
  obtain ⟨a1, v1, e1, r1⟩ := opn_ints (enc := enc) (W := W) m [c1] _ h1
  obtain ⟨a2, v2, e2, r2⟩ := opn_ints (enc := enc) (W := W) m [c2] _ h2
  cases e0; cases e1; cases e2
  exact ⟨⟨a0, a1, a2⟩, _, _, _, rfl, r0, r1, r2⟩
/-- A struct argument. -/
theorem opn_arg {α : Type} [Rp α] {t : TypeId} {fs : Array Field} (hs : Try.prog.underlying t = some (.struct fs)) (ho : Opn enc W t α) {base : Nat} {v : Value} {d : DataW H} {p : List MemPlace} (hval : Value.okWide Try.prog W .any base t v)
    (h : DataW.Trod enc Try.prog W 0 (fun _ => true) true t v d p) : ∃ (x : α) (u : List Value), v = .agg u.toArray ∧ Rp.rd zt W u x := by
  obtain ⟨cs, rfl, _⟩ := okWide_struct hs hval
  obtain ⟨fuel, hf⟩ := h
  obtain ⟨x, hx⟩ := ho fuel _ _ hf
  exact ⟨x, cs.toList, by simp, by simpa [Value.cells] using hx⟩
/-- A slice argument. -/
theorem opn_argL {α : Type} [Rp α] {t e : TypeId} (hs : Try.prog.underlying t = some (.slice e)) (ho : Opn enc W t (List α)) {base : Nat} {v : Value} {d : DataW H} {p : List MemPlace} (hval : Value.okWide Try.prog W .any base t v)
    (h : DataW.Trod enc Try.prog W 0 (fun _ => true) true t v d p) : ∃ (x : List α), RdL zt W v x := by
  obtain ⟨a, len, cap, rfl⟩ := okWide_slice hs hval
  obtain ⟨fuel, hf⟩ := h
  obtain ⟨x, v', e, r⟩ := ho fuel _ _ hf
  simp [Value.cells] at e
  subst e
  exact ⟨x, r⟩
theorem openNet {base : Nat} {v : Value} {d : DataW H} {p : List MemPlace} (hval : Value.okWide Try.prog W .any base 25 v)
    (h : DataW.Trod enc Try.prog W 0 (fun _ => true) true 25 v d p) : ∃ (x : T_Network) (u : List Value), v = .agg u.toArray ∧ Rp.rd zt W u x := opn_arg Try.underlying25 opn_Network hval h

end
open Go.ChangeShapes Go.WideShapes Go.ChangeAt Go.RowKit Go.Deep Go.Joins
set_option maxRecDepth 100000
theorem openNetN {H : Type} {enc : TypeId × Value → H} {W : World} {base : Nat} {v : Value} {d : DataW H} {p : List MemPlace} (hval : Value.okWide Try.prog W .any base 25 v)
    (h : DataW.Trod enc Try.prog W 0 (fun _ => true) true 25 v d p) : ∃ x : T_Network, RdN W v x ∧ okN x := by
  obtain ⟨x, u, e, r⟩ := openNet hval h
  exact ⟨x, ⟨u, e, r⟩, trivial⟩
end Go.Proofs.Ytijaojnaamkinaa
