/- The contracts of the laws' own helpers on lists of integers: toIntS, eqIntS, markIntS, heldIntS; and of within and l1In. -/
import Derived.Test.YtjmhjobfiemmnaaMem
import Derived.BigQuiet
import Derived.Outline
namespace Go.Proofs.Ytjmhjobfiemmnaa
open Go.RowKit
set_option linter.unusedSimpArgs false
set_option linter.unusedVariables false

/-- k, k+1, .. n numbers. -/
def iota (k : Int) (n : Nat) : List Int := (List.range n).map fun i : Nat => k + (i : Int)
theorem iota_length (k : Int) (n : Nat) : (iota k n).length = n := by simp [iota]
theorem iota_succ (k : Int) (n : Nat) : iota k (n + 1) = iota k n ++ [k + n] := by simp [iota, List.range_succ]

theorem set_step (p q : List Int) (x y : Int) : ((p ++ x :: q).map (Value.int .i64)).set p.length (.int .i64 y) = (p ++ y :: q).map (Value.int .i64) := by
  simp [List.set_append]

theorem Own.form {B : Nat} {w : World} {v : Value} {l : List Int} (h : Own B w v l) (hn : 0 < l.length) :
    ∃ g cap, v = .slice (some ⟨g, 0, none⟩) l.length cap ∧ ∀ i, i < l.length → w.cell? ⟨g, i, none⟩ = some (.int .i64 (l.getD i 0)) ∧ w.frozen? ⟨g, i, none⟩ = false := by
  obtain ⟨g, cap, rfl, _, _⟩ := World.ownsRow.form h hn
  refine ⟨g, cap, rfl, fun i hi => ⟨?_, World.ownsRow.frozenAt h i⟩⟩
  rw [World.ownsRow.cellAt h i (by omega)]
  simp [hi]

theorem Own.cellAt {B : Nat} {w : World} {g c : Nat} {l : List Int} (h : Own B w (.slice (some ⟨g, 0, none⟩) l.length c) l) (i : Nat) (hi : i < l.length) : w.cell? ⟨g, i, none⟩ = some (.int .i64 (l.getD i 0)) := by
  rw [World.ownsRow.cellAt h i (by omega)]
  simp [hi]

theorem Own.set {B : Nat} {w : World} {g cap n : Nat} {p q : List Int} {x y : Int} (h : Own B w (.slice (some ⟨g, 0, none⟩) n cap) (p ++ x :: q)) (j : Nat) (hj : j = p.length) :
    Own B (w.setCell ⟨g, j, none⟩ (.int .i64 y)) (.slice (some ⟨g, 0, none⟩) n cap) (p ++ y :: q) ∧ w.grownBy (w.setCell ⟨g, j, none⟩ (.int .i64 y)) (some g) := by
  subst hj
  have hn : n = (p ++ x :: q).length := by
    obtain ⟨a, c, h1, _⟩ := h.len
    simp at h1
    simp [h1]
  subst hn
  obtain ⟨h1, h2⟩ := World.ownsRow.stored h p.length (.int .i64 y)
  rw [set_step] at h1
  refine ⟨?_, h2⟩
  unfold Own
  simpa using h1

theorem drop_eq_cons (l : List Int) (j : Nat) (h : j < l.length) : l.drop j = l.getD j 0 :: l.drop (j + 1) := by
  rw [List.drop_eq_getElem_cons h]
  simp [h]

theorem take_eq_succ {la lb : List Int} {k : Nat} (h : la.take k = lb.take k) (hl : la.length = lb.length) (hk : k < la.length) (he : la.getD k 0 = lb.getD k 0) : la.take (k + 1) = lb.take (k + 1) := by
  have hk' : k < lb.length := by omega
  rw [List.take_succ_eq_append_getElem hk, List.take_succ_eq_append_getElem hk', h]
  simp [List.getD_eq_getElem?_getD, hk, hk'] at he
  rw [he]

theorem take_succ_getD {l : List Int} {k : Nat} (h : k < l.length) : l.take (k + 1) = l.take k ++ [l.getD k 0] := by
  rw [List.take_succ_eq_append_getElem h]
  simp [h]

set_option maxHeartbeats 400000 in
theorem eqIntS_any (va vb : Value) (la lb : List Int) (w : World) (ha : Ints w va la) (hb : Ints w vb lb) :
    Calls Try.prog 11 #[va, vb] w fun e w' => e = .returned (.bool (decide (la = lb))) ∧ Dr w w' := by
  obtain ⟨a, ca, rfl, ma, fa⟩ := ha.form
  obtain ⟨b, cb, rfl, mb, fb⟩ := hb.form
  have Fa := Lib.hid fa
  have Fb := Lib.hid fb
  clear fa fb ha hb
  by_cases hl : la.length = lb.length
  · have Hl := Lib.hid hl
    have hl' : ((la.length : Int) != (lb.length : Int)) = false := by simp [hl]
    clear hl
    go_enter Try.func11, Try.ntmps11
    go_wp2
    go_loopw [5] (fun i wr => ∃ k : Nat, k ≤ la.length ∧ i = .int .i64 k ∧ la.take k = lb.take k ∧ Dr w wr) (fun i _ => la.length - (intOf i).toNat)
    case atStart => exact ⟨0, Nat.zero_le _, rfl, rfl, Dr.refl w⟩
    case round =>
      obtain ⟨k, hk, rfl, ht, n, rfl⟩ := hrel
      have Ht := Lib.hid ht
      clear ht
      by_cases hlt : k < la.length
      · obtain ⟨ba, oa, rfl, hca⟩ := Fa.out k hlt
        obtain ⟨bb, ob, rfl, hcb⟩ := Fb.out k (by have := Hl.out; omega)
        have hlt2 : k < lb.length := by have := Hl.out; omega
        generalize hx : la.getD k 0 = x at hca
        generalize hy : lb.getD k 0 = y at hcb
        have Hx := Lib.hid hx
        have Hy := Lib.hid hy
        clear hx hy
        go_wp2
        go_quiet (fail)
        go_wp2
        · go_ret
          refine ⟨?_, (Dr.refl w).more _ |>.more _⟩
          have hne : la ≠ lb := by
            intro h
            have := Hx.out
            have := Hy.out
            have : (x != y) = true := by assumption
            simp_all
          simp [hne]
        · go_roundw
          case rel => exact ⟨k + 1, by omega, by go_num, take_eq_succ Ht.out Hl.out hlt (by rw [Hx.out, Hy.out]; simpa using ‹(x != y) = false›), (Dr.refl w).more _⟩
          case measure => simp [intOf]; omega
      · go_wp2
        go_ret
        refine ⟨?_, (Dr.refl w).more _⟩
        have he : la = lb := by
          have h1 := Ht.out
          rw [List.take_of_length_le (by omega), List.take_of_length_le (by have := Hl.out; omega)] at h1
          exact h1
        simp [he]
  · have hl' : ((la.length : Int) != (lb.length : Int)) = true := by simp; omega
    have hne : Hid (decide (la = lb) = false) := by
      have : la ≠ lb := fun h => hl (by rw [h])
      show decide (la = lb) = false
      simp [this]
    clear hl
    go_enter Try.func11, Try.ntmps11
    go_wp2
    go_ret
    exact ⟨by rw [hne.out]; rfl, Dr.refl w⟩

set_option maxHeartbeats 400000 in
theorem markIntS_any (B : Nat) (v : Value) (l : List Int) (k : Int) (w : World) (h : Own B w v l) (hk : 0 ≤ k) (hk2 : k + l.length ≤ 4611686018427387904) :
    Calls Try.prog 15 #[v, .int .i64 k] w fun e w' => e = .returned (.int .i64 (k + l.length)) ∧ Own B w' v (iota k l.length) ∧ w.grownBy w' v.ownBlock := by
  obtain ⟨a, c, rfl, hm⟩ := h.len
  have H := Lib.hid h
  clear h
  go_enter Try.func15, Try.ntmps15
  go_wp2
  go_loopw [1, 5] (fun x i wr => ∃ j : Nat, j ≤ l.length ∧ i = .int .i64 j ∧ x = .int .i64 (k + j) ∧ Own B wr (.slice a l.length c) (iota k j ++ l.drop j) ∧ w.grownBy wr (Value.slice a l.length c).ownBlock) (fun _ i _ => l.length - (intOf i).toNat)
  case atStart => exact ⟨0, Nat.zero_le _, rfl, by simp, by simpa [iota] using H.out, grown_refl _ _⟩
  case round =>
    obtain ⟨j, hj, rfl, rfl, hown, hgr⟩ := hrel
    have HO := Lib.hid hown
    have HG := Lib.hid hgr
    clear hown hgr
    by_cases hlt : j < l.length
    · obtain ⟨g, cap, hv, hc⟩ := HO.out.form (by simp; omega)
      simp only [Value.slice.injEq] at hv
      obtain ⟨rfl, -, rfl⟩ := hv
      obtain ⟨hc1, hc2⟩ := hc j (by simp [iota_length]; omega)
      have hc1' : ∃ u, wr.cell? ⟨g, j, none⟩ = some u := ⟨_, hc1⟩
      clear hc hc1
      obtain ⟨u, hc1⟩ := hc1'
      go_wp2
      go_roundw
      case rel =>
        have h5 := HO.out
        rw [drop_eq_cons l j hlt] at h5
        obtain ⟨h6, h7⟩ := Own.set (y := k + j) h5 j (by simp [iota_length])
        exact ⟨j + 1, by omega, by go_num, by congr 1; omega, by simpa [iota_succ] using h6, grown_trans HG.out h7⟩
      case measure => simp [intOf]; omega
    · go_wp2
      go_ret
      have he : j = l.length := by omega
      subst he
      refine ⟨rfl, ?_, HG.out⟩
      simpa using HO.out

set_option maxHeartbeats 400000 in
theorem heldIntS_any (v : Value) (l : List Int) (k : Int) (w : World) (h : Ints w v (iota k l.length)) (hk : 0 ≤ k) (hk2 : k + l.length ≤ 4611686018427387904) :
    Calls Try.prog 16 #[v, .int .i64 k] w fun e w' => e = .returned (.int .i64 (k + l.length)) ∧ w = w' := by
  obtain ⟨a, c, rfl, hm, hf⟩ := h.form
  have HF := Lib.hid hf
  clear h hf
  simp only [iota_length] at hm ⊢
  go_enter Try.func16, Try.ntmps16
  go_wp2
  go_loop [1, 5] (fun x i => ∃ j : Nat, j ≤ l.length ∧ i = .int .i64 j ∧ x = .int .i64 (k + j)) (fun _ i => l.length - (intOf i).toNat)
  case atStart => exact ⟨0, Nat.zero_le _, rfl, by simp⟩
  case round =>
    obtain ⟨j, hj, rfl, rfl⟩ := hrel
    by_cases hlt : j < l.length
    · obtain ⟨b, o, rfl, hc⟩ := HF.out j (by rw [iota_length]; exact hlt)
      have e : (iota k l.length).getD j 0 = k + j := by simp [iota, hlt]
      rw [e] at hc
      clear e
      have ht : ((k + (j : Int)) != (k + (j : Int))) = false := by simp
      go_wp2
      go_round
      case rel => exact ⟨j + 1, by omega, by go_num, by congr 1; omega⟩
      case measure => simp [intOf]; omega
    · go_wp2
      go_ret
      have he : j = l.length := by omega
      subst he
      exact ⟨rfl, rfl⟩

theorem replicate_map (n : Nat) : (madeCells (Value.int .i64 0).cells (n * 1)).toList = (List.replicate n (0 : Int)).map (Value.int .i64) := by
  simp [Value.cells, toList_madeCells_one]

set_option maxHeartbeats 400000 in
theorem toIntS_any (v : Value) (l : List Int) (w : World) (h : Ints w v l) (hl : l.length ≤ 1048576) :
    Calls Try.prog 8 #[v] w fun e w' => ∃ r, e = .returned r ∧ Own w.heap.size w' r l ∧ Keeps w w' := by
  obtain ⟨a, c, rfl, hm, hf⟩ := h.form
  have HF := Lib.hid hf
  clear h hf
  obtain ⟨i0, hi, hz0, hz1, hz2⟩ := info_parts info_int
  have HI := Lib.hid hi
  have HZ0 := Lib.hid hz0
  have HZ1 := Lib.hid hz1
  have HZ2 := Lib.hid hz2
  clear hi hz0 hz1 hz2
  go_enter Try.func8, Try.ntmps8
  go_wp2_with (at_make; refine wpList_make_full _ rfl _ _ 25 rfl w.heap.size 3 i0 (.int .i64 0) 1 Try.underlying25 HI.out HZ0.out HZ1.out .i64 .i64 _ _ l.length rfl rfl rfl rfl (by rw [HZ2.out]; omega) (by unfold maxLen; omega) (Nat.le_refl _) ?_; intro w1 hown hgr)
  rw [replicate_map] at hown
  have H1 : Hid (Own w.heap.size w1 (.slice (some ⟨w.heap.size, 0, none⟩) l.length l.length) (List.replicate l.length 0)) := by show Own _ _ _ _; unfold Own; simpa using hown
  have H2 : Hid (Below w.heap.size w w1) := (Below.refl _ _).grown hgr (Nat.le_refl _) (by simp)
  clear hown hgr
  go_wp2
  go_loopw [4] (fun i wr => ∃ j : Nat, j ≤ l.length ∧ i = .int .i64 j ∧ Own w.heap.size wr (.slice (some ⟨w.heap.size, 0, none⟩) l.length l.length) (l.take j ++ List.replicate (l.length - j) 0) ∧ Keeps w wr) (fun i _ => l.length - (intOf i).toNat)
  case atStart => exact ⟨0, Nat.zero_le _, rfl, by simpa using H1.out, H2.out⟩
  case round =>
    obtain ⟨j, hj, rfl, hown, hgr⟩ := hrel
    have HO := Lib.hid hown
    have HG := Lib.hid hgr
    clear hown hgr H1 H2
    by_cases hlt : j < l.length
    · obtain ⟨b, o, rfl, hc⟩ := HF.out j hlt
      have hcr : wr.cell? ⟨b, o + j, none⟩ = some (.int .i64 (l.getD j 0)) := by rw [Below.cell HG.out (World.block_lt_of_cell? w _ hc)]; exact hc
      obtain ⟨g, cap, hv, hc2⟩ := HO.out.form (by simp; omega)
      simp only [Value.slice.injEq, Option.some.injEq, Addr.mk.injEq] at hv
      obtain ⟨⟨rfl, -⟩, -, rfl⟩ := hv
      obtain ⟨hc3, hc4⟩ := hc2 j (by simp; omega)
      have hc3' : ∃ u, wr.cell? ⟨w.heap.size, j, none⟩ = some u := ⟨_, hc3⟩
      clear hc2 hc3 hc
      obtain ⟨u, hc3⟩ := hc3'
      generalize hx : l.getD j 0 = x at hcr
      have Hx := Lib.hid hx
      clear hx
      go_wp2
      go_roundw
      case rel =>
        have h5 := HO.out
        obtain ⟨q, hq⟩ : ∃ q, l.length - j = q + 1 := ⟨l.length - j - 1, by omega⟩
        rw [hq, List.replicate_succ] at h5
        obtain ⟨h6, h7⟩ := Own.set (y := x) h5 j (by simp; omega)
        refine ⟨j + 1, by omega, by go_num, ?_, HG.out.setCell (Nat.le_refl _) _⟩
        rw [take_succ_getD hlt, Hx.out, show l.length - (j + 1) = q by omega]
        simpa using h6
      case measure => simp [intOf]; omega
    · go_wp2
      go_ret
      have he : j = l.length := by omega
      subst he
      refine ⟨_, rfl, by simpa using HO.out, HG.out⟩

end Go.Proofs.Ytjmhjobfiemmnaa
