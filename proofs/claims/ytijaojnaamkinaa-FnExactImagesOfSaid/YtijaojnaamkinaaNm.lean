/- The marks of a network: they write to its own blocks alone. -/
import Derived.Test.YtijaojnaamkinaaNz
import Derived.Test.YtijaojnaamkinaaRng
import Derived.Test.YtijaojnaamkinaaAd
namespace Go.Proofs.Ytijaojnaamkinaa
open Go.RowKit
set_option linter.unusedSimpArgs false
set_option linter.unusedVariables false

/-- Rows of the type e alone, in the blocks from B to C, have been written to; their sizes are what they were. -/
structure Mk (e : TypeId) (B C : Nat) (w w' : World) : Prop where
  os : w'.os = w.os
  tape : w'.tape = w.tape
  output : w'.output = w.output
  size : w.heap.size ≤ w'.heap.size
  block : ∀ b, b < w.heap.size → w'.heap[b]? = w.heap[b]? ∨ (B ≤ b ∧ b < C ∧ ∃ cur cur', w.heap[b]? = some (.cells cur e (0, 0)) ∧ w'.heap[b]? = some (.cells cur' e (0, 0)) ∧ cur'.size = cur.size)
/-- The row's block, its size. -/
def Shp (e : TypeId) (sz B C : Nat) (w : World) (v : Value) (n : Nat) : Prop :=
  n ≤ maxLen ∧ ((v = .slice none 0 0 ∧ n = 0) ∨ ∃ g cap cur, v = .slice (some ⟨g, 0, none⟩) n cap ∧ B ≤ g ∧ g < C ∧ w.heap[g]? = some (.cells cur e (0, 0)) ∧ n ≤ cap ∧ cur.size = cap * sz)
section
variable {e e' : TypeId} {B C B' C' : Nat} {w w' w'' : World} {v : Value} {n sz : Nat}
theorem Mk.refl (e : TypeId) (B C : Nat) (w : World) : Mk e B C w w := ⟨rfl, rfl, rfl, Nat.le_refl _, fun _ _ => .inl rfl⟩
theorem Mk.trans (h : Mk e B C w w') (k : Mk e B C w' w'') : Mk e B C w w'' := by
  refine ⟨k.os.trans h.os, k.tape.trans h.tape, k.output.trans h.output, Nat.le_trans h.size k.size, fun b hb => ?_⟩
  rcases h.block b hb with h1 | ⟨h1, h2, cur, cur', h3, h4, h5⟩ <;> rcases k.block b (Nat.lt_of_lt_of_le hb h.size) with k1 | ⟨k1, k2, kur, kur', k3, k4, k5⟩
  · exact .inl (k1.trans h1)
  · exact .inr ⟨k1, k2, kur, kur', h1 ▸ k3, k4, k5⟩
  · exact .inr ⟨h1, h2, cur, cur', h3, k1.trans h4, h5⟩
  · rw [h4] at k3; cases k3
    exact .inr ⟨h1, h2, cur, kur', h3, k4, k5.trans h5⟩
theorem Mk.chg (h : Mk e B C w w') : Chg B C w w' := ⟨h.os, h.tape, h.output, h.size, fun b hb hn => by
  rcases h.block b hb with h1 | ⟨h1, h2, _⟩
  · exact h1
  · exact absurd ⟨h1, h2⟩ hn⟩
theorem Keeps.mk (h : Keeps w w') (e : TypeId) (B C : Nat) : Mk e B C w w' := ⟨h.os, h.tape, h.output, h.size, fun b hb => .inl (h.block b hb)⟩
theorem Shp.mk (h : Shp e sz B C w v n) (k : Mk e' B' C' w w') : Shp e sz B C w' v n := by
  obtain ⟨h0, h⟩ := h
  refine ⟨h0, ?_⟩
  rcases h with h | ⟨g, cap, cur, h1, h2, h3, h4, h5, h6⟩
  · exact .inl h
  · have hg : g < w.heap.size := (Array.getElem?_eq_some_iff.1 h4).1
    rcases k.block g hg with k1 | ⟨_, _, kur, kur', k3, k4, k5⟩
    · exact .inr ⟨g, cap, cur, h1, h2, h3, k1.trans h4, h5, h6⟩
    · rw [h4] at k3; cases k3
      exact .inr ⟨g, cap, kur', h1, h2, h3, k4, h5, k5.trans h6⟩
theorem Shp.form (h : Shp e sz B C w v n) : ∃ a c, v = .slice a n c := by
  obtain ⟨_, ⟨rfl, rfl⟩ | ⟨g, cap, cur, rfl, _⟩⟩ := h
  · exact ⟨_, _, rfl⟩
  · exact ⟨_, _, rfl⟩
theorem Mk.set {g j : Nat} {cur : Array Value} (hg : w.heap[g]? = some (.cells cur e (0, 0))) (h1 : B ≤ g) (h2 : g < C) (u : Value) : Mk e B C w (w.setCell ⟨g, j, none⟩ u) := by
  refine ⟨rfl, rfl, rfl, by simp [World.setCell], fun b hb => ?_⟩
  by_cases hq : b = g
  · subst hq
    refine .inr ⟨h1, h2, cur, cur.setIfInBounds j u, hg, ?_, by simp⟩
    simp only [World.setCell]
    rw [Array.getElem?_modify, if_pos rfl, hg]
    rfl
  · refine .inl ?_
    simp only [World.setCell]
    rw [Array.getElem?_modify, if_neg (Ne.symm hq)]
theorem Ow.shp {α : Type} [Rp α] {k : Nat} {o : Tg} {xs : List α} (h : Ow B' e k o w v xs) (ho : ∀ g, v.ownBlock = some g → B ≤ g ∧ g < C) : Shp e (Rp.sz α) B C w v xs.length := by
  obtain ⟨css, h1, h2, _⟩ := h
  rcases h2.2 with ⟨rfl, h0⟩ | ⟨g, cap, cur, rfl, hb, hg, hnc, hcm, hcs, _⟩
  · exact ⟨by rw [h0]; exact Nat.zero_le _, .inl ⟨rfl, h0⟩⟩
  · have := ho g rfl
    exact ⟨Nat.le_trans hnc hcm, .inr ⟨g, cap, cur, rfl, this.1, this.2, hg, hnc, hcs⟩⟩
end
set_option maxHeartbeats 800000 in
theorem markIntS_shp (B C : Nat) (v : Value) (n : Nat) (k : Int) (w : World) (h : Shp 3 1 B C w v n) (hk : 0 ≤ k) (hk2 : k + n ≤ 4611686018427387904) :
    Calls Try.prog 22 #[v, .int .i64 k] w fun e w' => e = .returned (.int .i64 (k + n)) ∧ Mk 3 B C w w' := by
  obtain ⟨a, c, rfl⟩ := h.form
  have H := Lib.hid h
  clear h
  go_enter Try.func22, Try.ntmps22
  go_wp2
  go_loopw [1, 5] (fun x i wr => ∃ j : Nat, j ≤ n ∧ i = .int .i64 j ∧ x = .int .i64 (k + j) ∧ Mk 3 B C w wr) (fun _ i _ => n - (intOf i).toNat)
  case atStart => exact ⟨0, Nat.zero_le _, rfl, by simp, Mk.refl _ _ _ _⟩
  case round =>
    obtain ⟨j, hj, rfl, rfl, hm⟩ := hrel
    have HM := Lib.hid hm
    clear hm
    by_cases hlt : j < n
    · obtain ⟨_, ⟨hv, h0⟩ | ⟨g, cap, cur, hv, hB, hC, hg, hnc, hcs⟩⟩ := H.out.mk HM.out
      · omega
      simp only [Value.slice.injEq] at hv
      obtain ⟨rfl, -, rfl⟩ := hv
      have hjc : j < cur.size := by omega
      have hc1 : wr.cell? ⟨g, j, none⟩ = some cur[j] := by rw [cell_of_row wr g j cur 3 (0, 0) hg, Array.getElem?_eq_getElem hjc]
      have hc2 : wr.frozen? ⟨g, j, none⟩ = false := frozen_of_row wr g j cur 3 hg
      have HN : Hid (∀ u, Mk 3 B C w (wr.setCell ⟨g, j, none⟩ u)) := fun u => HM.out.trans (Mk.set hg hB hC u)
      generalize cur[j] = u at hc1
      clear hg hcs hjc
      go_wp2
      go_roundw
      case rel => exact ⟨j + 1, by omega, by go_num, by congr 1; omega, HN.out _⟩
      case measure => simp [intOf]; omega
    · go_wp2
      go_ret
      have he : j = n := by omega
      subst he
      exact ⟨rfl, HM.out⟩
set_option maxHeartbeats 800000 in
theorem markEndS_shp (B C : Nat) (v : Value) (n : Nat) (k : Int) (w : World) (h : Shp 115 2 B C w v n) (hk : 0 ≤ k) (hk2 : k + 2 * n ≤ 4611686018427387904) :
    Calls Try.prog 99 #[v, .int .i64 k] w fun e w' => e = .returned (.int .i64 (k + 2 * n)) ∧ Mk 115 B C w w' := by
  obtain ⟨a, c, rfl⟩ := h.form
  have H := Lib.hid h
  clear h
  go_enter Try.func99, Try.ntmps99
  go_wp2
  go_loopw [1, 5] (fun x i wr => ∃ j : Nat, j ≤ n ∧ i = .int .i64 j ∧ x = .int .i64 (k + 2 * j) ∧ Mk 115 B C w wr) (fun _ i _ => n - (intOf i).toNat)
  case atStart => exact ⟨0, Nat.zero_le _, rfl, by simp, Mk.refl _ _ _ _⟩
  case round =>
    obtain ⟨j, hj, rfl, rfl, hm⟩ := hrel
    have HM := Lib.hid hm
    clear hm
    by_cases hlt : j < n
    · obtain ⟨_, ⟨hv, h0⟩ | ⟨g, cap, cur, hv, hB, hC, hg, hnc, hcs⟩⟩ := H.out.mk HM.out
      · omega
      simp only [Value.slice.injEq] at hv
      obtain ⟨rfl, -, rfl⟩ := hv
      have hj1 : j * 2 < cur.size := by omega
      have hj2 : j * 2 + 1 < cur.size := by omega
      have hc1 : wr.cell? ⟨g, j * 2, none⟩ = some cur[j * 2] := by rw [cell_of_row wr g (j * 2) cur 115 (0, 0) hg, Array.getElem?_eq_getElem hj1]
      have hc2 : wr.frozen? ⟨g, j * 2, none⟩ = false := frozen_of_row wr g (j * 2) cur 115 hg
      have hd1 : wr.cell? ⟨g, j * 2 + 1, none⟩ = some cur[j * 2 + 1] := by rw [cell_of_row wr g (j * 2 + 1) cur 115 (0, 0) hg, Array.getElem?_eq_getElem hj2]
      have hd2 : wr.frozen? ⟨g, j * 2 + 1, none⟩ = false := frozen_of_row wr g (j * 2 + 1) cur 115 hg
      have HN : Hid (∀ u u', Mk 115 B C w ((wr.setCell ⟨g, j * 2, none⟩ u).setCell ⟨g, j * 2 + 1, none⟩ u')) := fun u u' => by
        have m1 := Mk.set (j := j * 2) hg hB hC u
        refine (HM.out.trans m1).trans (Mk.set (cur := cur.setIfInBounds (j * 2) u) ?_ hB hC u')
        simp only [World.setCell]
        rw [Array.getElem?_modify, if_pos rfl, hg]
        rfl
      generalize cur[j * 2] = u at hc1
      generalize cur[j * 2 + 1] = u1 at hd1
      clear hg hcs hj1 hj2
      go_wp2
      go_roundw
      case rel => exact ⟨j + 1, by omega, by go_num, by congr 1; omega, HN.out _ _⟩
      case measure => simp [intOf]; omega
    · go_wp2
      go_ret
      have he : j = n := by omega
      subst he
      exact ⟨rfl, HM.out⟩
end Go.Proofs.Ytijaojnaamkinaa
