/- Owned data within a range of blocks, changes within a range of blocks; the contracts of the laws' helpers on lists of lists: szIntS, szIntSS, toIntSS, eqIntSS, markIntSS, heldIntSS. -/
import Derived.Test.YtjmhjobfiemmnaaMat
namespace Go.Proofs.Ytjmhjobfiemmnaa
open Go.RowKit
set_option linter.unusedSimpArgs false
set_option linter.unusedVariables false

/-- Of the blocks that were there only those from B to C may have changed. -/
structure Chg (B C : Nat) (w w' : World) : Prop where
  os : w'.os = w.os
  tape : w'.tape = w.tape
  output : w'.output = w.output
  size : w.heap.size ≤ w'.heap.size
  block : ∀ k, k < w.heap.size → ¬ (B ≤ k ∧ k < C) → w'.heap[k]? = w.heap[k]?

section
variable {B C B' C' : Nat} {w w' w'' : World}
theorem Chg.refl (B C : Nat) (w : World) : Chg B C w w := ⟨rfl, rfl, rfl, Nat.le_refl _, fun _ _ _ => rfl⟩
theorem Chg.trans (h : Chg B C w w') (k : Chg B C w' w'') : Chg B C w w'' :=
  ⟨k.os.trans h.os, k.tape.trans h.tape, k.output.trans h.output, Nat.le_trans h.size k.size, fun i hi hr => (k.block i (Nat.lt_of_lt_of_le hi h.size) hr).trans (h.block i hi hr)⟩
theorem Keeps.chg (h : Keeps w w') (B C : Nat) : Chg B C w w' := ⟨h.os, h.tape, h.output, h.size, fun k hk _ => h.block k hk⟩
theorem Chg.of_grown {r : Option Nat} (h : w.grownBy w' r) (hr : ∀ k, r = some k → B ≤ k ∧ k < C) : Chg B C w w' :=
  ⟨h.os, h.tape, h.output, h.size, fun k hk hn => h.block k hk fun e => hn (hr k e.symm)⟩
theorem Chg.keeps {w0 : World} (h : Chg B C w w') (k : Keeps w0 w) (hB : w0.heap.size ≤ B) : Keeps w0 w' :=
  ⟨h.os.trans k.os, h.tape.trans k.tape, h.output.trans k.output, Nat.le_trans k.size h.size, fun i hi => (h.block i (Nat.lt_of_lt_of_le hi k.size) (by omega)).trans (k.block i hi)⟩
theorem Chg.mono (h : Chg B C w w') (hB : B' ≤ B) (hC : C ≤ C') : Chg B' C' w w' :=
  ⟨h.os, h.tape, h.output, h.size, fun k hk hn => h.block k hk (by omega)⟩
theorem owns_chg {D : Nat} {e : TypeId} {size : Nat} {v : Value} {n : Nat} {xs : List Value} (h : w.ownsRow D e size v n xs) (c : Chg B C w w') (hv : ∀ k, v.ownBlock = some k → ¬ (B ≤ k ∧ k < C)) : w'.ownsRow D e size v n xs := by
  obtain ⟨h1, h2⟩ := h
  refine ⟨h1, ?_⟩
  rcases h2 with h2 | ⟨g, cap, cur, rfl, hg, hh, r⟩
  · exact .inl h2
  · exact .inr ⟨g, cap, cur, rfl, hg, by rw [c.block g (Array.getElem?_eq_some_iff.1 hh).1 (hv g rfl)]; exact hh, r⟩
end

/-- A list of integers that lies within B .. C. -/
structure OwI (B C : Nat) (w : World) (v : Value) (l : List Int) : Prop where
  own : Own B w v l
  hi : ∀ k, v.ownBlock = some k → k < C
/-- A list of lists that lies within B .. C. -/
def OwM (B C : Nat) (w : World) (v : Value) (LL : List (List Int)) : Prop :=
  ∃ vs, MatIn B w v vs LL ∧ (∀ k, v.ownBlock = some k → k < C) ∧ ∀ i, i < LL.length → ∀ k, (vs.getD i undef).ownBlock = some k → k < C

section
variable {B C B' C' : Nat} {w w' w'' : World} {v : Value} {l : List Int} {LL : List (List Int)} {vs : List Value}
theorem Own.owI (h : Own B w v l) : OwI B w.heap.size w v l := ⟨h, fun k hk => (h.lt k hk).2⟩
theorem OwI.ints (h : OwI B C w v l) : Ints w v l := h.own.ints
theorem OwI.keep (h : OwI B C w v l) (k : Keeps w w') : OwI B C w' v l := ⟨h.own.keep k, h.hi⟩
theorem OwI.chg (h : OwI B C w v l) (c : Chg B' C' w w') (hd : C ≤ B' ∨ C' ≤ B) : OwI B C w' v l :=
  ⟨owns_chg h.own c fun k hk => by have := h.hi k hk; have := (h.own.lt k hk).1; omega, h.hi⟩
theorem MatIn.owM (h : MatIn B w v vs LL) : OwM B w.heap.size w v LL :=
  ⟨vs, h, fun k hk => (World.ownsRow.lt h.row k hk).2, fun i hi k hk => ((h.own i hi).lt k hk).2⟩
theorem OwM.rows (h : OwM B C w v LL) : IntRows w v LL := by obtain ⟨vs, h, _⟩ := h; exact h.rows
theorem OwM.keep (h : OwM B C w v LL) (k : Keeps w w') : OwM B C w' v LL := by obtain ⟨vs, h, h1, h2⟩ := h; exact ⟨vs, h.keep k, h1, h2⟩
theorem OwM.mono (h : OwM B C w v LL) (hB : B' ≤ B) (hC : C ≤ C') : OwM B' C' w v LL := by
  obtain ⟨vs, h, h1, h2⟩ := h
  exact ⟨vs, ⟨World.ownsRow.mono h.row hB, fun i hi => (h.own i hi).mono hB, h.apart⟩, fun k hk => Nat.lt_of_lt_of_le (h1 k hk) hC, fun i hi k hk => Nat.lt_of_lt_of_le (h2 i hi k hk) hC⟩
theorem OwM.chg (h : OwM B C w v LL) (c : Chg B' C' w w') (hd : C ≤ B' ∨ C' ≤ B) : OwM B C w' v LL := by
  obtain ⟨vs, h, h1, h2⟩ := h
  refine ⟨vs, ⟨owns_chg h.row c fun k hk => ?_, fun i hi => owns_chg (h.own i hi) c fun k hk => ?_, h.apart⟩, h1, h2⟩
  · have := h1 k hk; have := (World.ownsRow.lt h.row k hk).1; omega
  · have := h2 i hi k hk; have := ((h.own i hi).lt k hk).1; omega
end

/-- A new row stored at place i. -/
theorem MatIn.set_ {B : Nat} {w : World} {g n cap : Nat} {vs : List Value} {LL : List (List Int)} {i : Nat} {l : List Int} {r : Value} (h : MatIn B w (.slice (some ⟨g, 0, none⟩) n cap) vs LL) (hi : i < LL.length)
    (hr : Own B w r l) (ap : ∀ j, j < LL.length → j ≠ i → Apart r (vs.getD j undef)) :
    MatIn B (w.setCell ⟨g, i, none⟩ r) (.slice (some ⟨g, 0, none⟩) n cap) (vs.set i r) (LL.set i l) := by
  have hl := h.len
  have n1 : (25 : TypeId) ≠ 3 := by decide
  have hr1 := h.row
  obtain ⟨gg, cc, he, _⟩ := World.ownsRow.form hr1 (by omega)
  simp only [Value.slice.injEq, Option.some.injEq, Addr.mk.injEq, and_true, true_and] at he
  obtain ⟨rfl, hn, rfl⟩ := he
  subst hn
  obtain ⟨h1, h2⟩ := World.ownsRow.stored hr1 i r
  have far : ∀ {u : Value} {l : List Int}, Own B w u l → Own B (w.setCell ⟨g, i, none⟩ r) u l := fun {u l} hu =>
    World.ownsRow.kept hu h2 (owns_apart_ty n1.symm hu hr1)
  refine ⟨by simpa using h1, fun j hj => ?_, fun j k' hj hk hne => ?_⟩
  · simp only [List.length_set] at hj
    by_cases hji : j = i
    · subst hji
      rw [getD_set_same _ _ _ _ (by omega), getD_set_same _ _ _ _ hi]
      exact far hr
    · rw [getD_set_ne _ _ _ _ _ hji, getD_set_ne _ _ _ _ _ hji]
      exact far (h.own j hj)
  · simp only [List.length_set] at hj hk
    by_cases hji : j = i
    · subst hji
      rw [getD_set_same _ _ _ _ (by omega), getD_set_ne _ _ _ _ _ (Ne.symm hne)]
      exact ap k' hk (Ne.symm hne)
    · rw [getD_set_ne _ _ _ _ _ hji]
      by_cases hki : k' = i
      · subst hki
        rw [getD_set_same _ _ _ _ (by omega)]
        exact (ap j hj hji).symm
      · rw [getD_set_ne _ _ _ _ _ hki]
        exact h.apart j k' hj hk hne

/-- Row i has been written in place. -/
theorem MatIn.wrote {B : Nat} {w w' : World} {v : Value} {vs : List Value} {LL : List (List Int)} {i : Nat} {l : List Int} (h : MatIn B w v vs LL) (hi : i < LL.length) (hg : w.grownBy w' (vs.getD i undef).ownBlock) (hr : Own B w' (vs.getD i undef) l) :
    MatIn B w' v vs (LL.set i l) := by
  have n1 : (25 : TypeId) ≠ 3 := by decide
  refine ⟨by rw [List.length_set]; exact World.ownsRow.kept h.row hg (owns_apart_ty n1 h.row (h.own i hi)), fun j hj => ?_, fun j k hj hk hne => h.apart j k (by simpa using hj) (by simpa using hk) hne⟩
  simp only [List.length_set] at hj
  by_cases hji : j = i
  · subst hji
    rw [getD_set_same _ _ _ _ hi]
    exact hr
  · rw [getD_set_ne _ _ _ _ _ hji]
    exact (h.own j hj).kept hg (h.apart j i hj hi hji)

theorem set_take_rep {α : Type} (LL : List α) (d : α) (j : Nat) (hlt : j < LL.length) : (LL.take j ++ List.replicate (LL.length - j) d).set j (LL.getD j d) = LL.take (j + 1) ++ List.replicate (LL.length - (j + 1)) d := by
  have hl : (LL.take j).length = j := by simp; omega
  obtain ⟨q, hq⟩ : ∃ q, LL.length - j = q + 1 := ⟨LL.length - j - 1, by omega⟩
  rw [hq, List.replicate_succ, List.set_append_right _ _ (by omega), hl, Nat.sub_self, List.set_cons_zero, show LL.length - (j + 1) = q by omega, List.take_succ_eq_append_getElem hlt, List.append_assoc, List.getD_eq_getElem?_getD, List.getElem?_eq_getElem hlt]
  rfl

/-! ### Sizes -/
def off (LL : List (List Int)) (i : Nat) : Nat := ((LL.take i).map List.length).sum
def tot (LL : List (List Int)) : Nat := LL.length + off LL LL.length
theorem off_succ (LL : List (List Int)) (i : Nat) (h : i < LL.length) : off LL (i + 1) = off LL i + (LL.getD i []).length := by
  unfold off
  rw [List.take_succ_eq_append_getElem h, List.getD_eq_getElem?_getD, List.getElem?_eq_getElem h]
  simp only [List.map_append, List.sum_append, List.map_cons, List.map_nil, List.sum_cons, List.sum_nil, Option.getD_some, Nat.add_zero]
theorem off_mono (LL : List (List Int)) : ∀ (j i : Nat), i ≤ j → j ≤ LL.length → off LL i ≤ off LL j
  | 0, i, h, _ => by rw [show i = 0 by omega]; exact Nat.le_refl _
  | j + 1, i, h, hj => by
    by_cases e : i = j + 1
    · rw [e]; exact Nat.le_refl _
    · have := off_mono LL j i (by omega) (by omega)
      rw [off_succ LL j (by omega)]; omega
theorem off_le (LL : List (List Int)) (i : Nat) (h : i ≤ LL.length) : off LL i ≤ tot LL := by
  have := off_mono LL LL.length i h (Nat.le_refl _)
  unfold tot; omega
theorem row_le (LL : List (List Int)) (i : Nat) (h : i < LL.length) : (LL.getD i []).length ≤ tot LL := by
  have := off_le LL (i + 1) (by omega)
  rw [off_succ LL i h] at this
  omega

/-- The size left, or -1. -/
def szL (left : Int) (n : Nat) : Int := if (n : Int) ≤ left then left - n else -1

theorem ret_int {k : IntKind} {a b : Int} (h : a = b) : Ending.returned (.int k a) = .returned (.int k b) := by rw [h]

theorem szIntS_any (v : Value) (l : List Int) (left : Int) (w : World) (h : Ints w v l) (h0 : 0 ≤ left) (h1 : left ≤ 1048576) :
    Calls Try.prog 40 #[v, .int .i64 left] w fun e w' => e = .returned (.int .i64 (szL left l.length)) ∧ w = w' := by
  obtain ⟨a, c, rfl, hm, hf⟩ := h.form
  clear h hf
  have HS : Hid (szL left l.length = if (l.length : Int) ≤ left then left - l.length else -1) := rfl
  by_cases hc : (l.length : Int) ≤ left
  · have hc' : ¬ left - (l.length : Int) < 0 := by omega
    go_enter Try.func40, Try.ntmps40
    go_wp2
    go_ret
    exact ⟨ret_int (by rw [HS.out, if_pos hc]), rfl⟩
  · have hc' : left - (l.length : Int) < 0 := by omega
    go_enter Try.func40, Try.ntmps40
    go_wp2
    go_ret
    exact ⟨ret_int (by rw [HS.out, if_neg (by omega)]), rfl⟩

set_option maxHeartbeats 800000 in
theorem szIntSS_any (v : Value) (LL : List (List Int)) (left : Int) (w : World) (h : IntRows w v LL) (h0 : 0 ≤ left) (h1 : left ≤ 1048576) :
    Calls Try.prog 17 #[v, .int .i64 left] w fun e w' => e = .returned (.int .i64 (szL left (tot LL))) ∧ w = w' := by
  obtain ⟨a, c, rfl, hm, hf⟩ := h.form
  have HF := Lib.hid hf
  clear h hf
  have HS : Hid (szL left (tot LL) = if (tot LL : Int) ≤ left then left - tot LL else -1) := rfl
  have HT : Hid (tot LL = LL.length + off LL LL.length) := rfl
  by_cases hc : (LL.length : Int) ≤ left
  · have hc' : ¬ left - (LL.length : Int) < 0 := by omega
    go_enter Try.func17, Try.ntmps17
    go_wp2
    go_loop [1, 5] (fun x i => ∃ j : Nat, j ≤ LL.length ∧ i = .int .i64 j ∧ x = .int .i64 (left - LL.length - off LL j) ∧ (off LL j : Int) ≤ left - LL.length) (fun _ i => LL.length - (intOf i).toNat)
    case atStart => exact ⟨0, Nat.zero_le _, rfl, by simp [off], by simp [off]; omega⟩
    case round =>
      obtain ⟨j, hj, rfl, rfl, ho⟩ := hrel
      by_cases hlt : j < LL.length
      · obtain ⟨b, o, u, rfl, hcell, hu⟩ := HF.out j hlt
        have HU := Lib.hid hu
        have HO := Lib.hid (off_succ LL j hlt)
        have HOM := Lib.hid (off_mono LL LL.length (j + 1) (by omega) (Nat.le_refl _))
        have HZ : Hid (szL (left - LL.length - off LL j) (LL.getD j []).length = if ((LL.getD j []).length : Int) ≤ left - LL.length - off LL j then left - LL.length - off LL j - (LL.getD j []).length else -1) := rfl
        clear hu
        go_wp2_with fail
        refine (szIntS_any _ _ _ _ HU.out (by omega) (by omega)).mono ?_
        rintro e w' ⟨rfl, rfl⟩
        by_cases hd : ((LL.getD j []).length : Int) ≤ left - LL.length - off LL j
        · rw [HZ.out, if_pos hd]
          have hd' : ¬ left - (LL.length : Int) - (off LL j : Int) - ((LL.getD j []).length : Int) < 0 := by omega
          generalize hr : (LL.getD j []).length = r at *
          go_wp2
          go_round
          case rel => exact ⟨j + 1, by omega, by go_num, by rw [HO.out]; congr 1; omega, by rw [HO.out]; omega⟩
          case measure => simp [intOf]; omega
        · rw [HZ.out, if_neg hd]
          go_wp2
          go_ret
          refine ⟨ret_int ?_, rfl⟩
          have := HT.out
          have := HO.out
          have := HOM.out
          rw [HS.out, if_neg (by omega)]
      · go_wp2
        go_ret
        have he : j = LL.length := by omega
        subst he
        refine ⟨ret_int ?_, rfl⟩
        have := HT.out
        rw [HS.out, if_pos (by omega)]
        omega
  · have hc' : left - (LL.length : Int) < 0 := by omega
    go_enter Try.func17, Try.ntmps17
    go_wp2
    go_ret
    refine ⟨ret_int ?_, rfl⟩
    have := HT.out
    rw [HS.out, if_neg (by omega)]

set_option maxHeartbeats 800000 in
theorem toIntSS_any (v : Value) (LL : List (List Int)) (w : World) (h : IntRows w v LL) (hl : tot LL ≤ 1048576) :
    Calls Try.prog 22 #[v] w fun e w' => ∃ r, e = .returned r ∧ OwM w.heap.size w'.heap.size w' r LL ∧ Keeps w w' := by
  obtain ⟨a, c, rfl, hm, hf⟩ := h.form
  have HF := Lib.hid hf
  clear h hf
  have hlen : LL.length ≤ 1048576 := by unfold tot at hl; omega
  have HR := Lib.hid (row_le LL)
  obtain ⟨i0, hi, hz0, hz1, hz2⟩ := info_parts info_ints
  have HI := Lib.hid hi
  have HZ0 := Lib.hid hz0
  have HZ1 := Lib.hid hz1
  have HZ2 := Lib.hid hz2
  clear hi hz0 hz1 hz2
  go_enter Try.func22, Try.ntmps22
  go_wp2_with (at_make; refine wpList_make_full _ rfl _ _ 22 rfl w.heap.size 25 i0 (.slice none 0 0) 1 Try.underlying22 HI.out HZ0.out HZ1.out .i64 .i64 _ _ LL.length rfl rfl rfl rfl (by rw [HZ2.out]; omega) (by unfold maxLen; omega) (Nat.le_refl _) ?_; intro w1 hown hgr)
  rw [replicate_slices] at hown
  have H1 : Hid (MatIn w.heap.size w1 (.slice (some ⟨w.heap.size, 0, none⟩) LL.length LL.length) (List.replicate LL.length (.slice none 0 0)) (List.replicate LL.length [])) := MatIn.made hown
  have H2 : Hid (Below w.heap.size w w1) := (Below.refl _ _).grown hgr (Nat.le_refl _) (by simp)
  clear hown hgr HI HZ0 HZ1 HZ2
  go_wp2
  go_loopw [4] (fun i wr => ∃ (j : Nat) (vs : List Value), j ≤ LL.length ∧ i = .int .i64 j ∧ MatIn w.heap.size wr (.slice (some ⟨w.heap.size, 0, none⟩) LL.length LL.length) vs (LL.take j ++ List.replicate (LL.length - j) []) ∧ Keeps w wr) (fun i _ => LL.length - (intOf i).toNat)
  case atStart => exact ⟨0, _, Nat.zero_le _, rfl, by simpa using H1.out, H2.out⟩
  case round =>
    obtain ⟨j, vs, hj, rfl, hM, hK⟩ := hrel
    have HM := Lib.hid hM
    have HK := Lib.hid hK
    clear hM hK H1 H2
    by_cases hlt : j < LL.length
    · obtain ⟨b, o, u, rfl, hc0, hu0⟩ := HF.out j hlt
      have hc := cell_keep HK.out hc0
      have HU := Lib.hid (hu0.keep HK.out)
      have hrl := HR.out j hlt
      clear hc0 hu0
      go_wp2_with fail
      refine (toIntS_any _ _ _ HU.out (by omega)).mono ?_
      rintro e w2 ⟨r, rfl, hO, hK2⟩
      have hM2 := HM.out.keep hK2
      have hjl : j < (LL.take j ++ List.replicate (LL.length - j) ([] : List Int)).length := by simp; omega
      obtain ⟨g, cap, hv, hcell⟩ := hM2.form (by omega)
      simp only [Value.slice.injEq, Option.some.injEq, Addr.mk.injEq] at hv
      obtain ⟨⟨rfl, -⟩, -, rfl⟩ := hv
      obtain ⟨c1, c2⟩ := hcell j hjl
      have c1' : ∃ u, w2.cell? ⟨w.heap.size, j, none⟩ = some u := ⟨_, c1⟩
      clear c1 hcell
      obtain ⟨u', c1⟩ := c1'
      have HN := Lib.hid (hM2.set_ hjl (hO.mono HK.out.size) (fun i hi _ => (Own.apart_old (HM.out.own i hi) hO (Nat.le_refl _)).symm))
      have HKN : Hid (Keeps w (w2.setCell ⟨w.heap.size, j, none⟩ r)) := (Keeps.trans HK.out hK2).setCell (Nat.le_refl _) _
      obtain ⟨ra, rn, rc, rfl⟩ := hO.sl
      clear hM2 hO hK2 HU
      go_wp2
      go_roundw
      case rel =>
        refine ⟨j + 1, vs.set j (.slice ra rn rc), by omega, by go_num, ?_, HKN.out⟩
        have h5 := HN.out
        have e1 := set_take_rep LL [] j hlt
        rw [e1] at h5
        exact h5
      case measure => simp [intOf]; omega
    · go_wp2
      go_ret
      have he : j = LL.length := by omega
      subst he
      have h5 := HM.out
      rw [Nat.sub_self, List.replicate_zero, List.append_nil, List.take_length] at h5
      exact ⟨_, rfl, h5.owM, HK.out⟩

theorem take_eq_succR {la lb : List (List Int)} {k : Nat} (h : la.take k = lb.take k) (hl : la.length = lb.length) (hk : k < la.length) (he : la.getD k [] = lb.getD k []) : la.take (k + 1) = lb.take (k + 1) := by
  have hk' : k < lb.length := by omega
  rw [List.take_succ_eq_append_getElem hk, List.take_succ_eq_append_getElem hk', h]
  simp [List.getD_eq_getElem?_getD, hk, hk'] at he
  rw [he]

set_option maxHeartbeats 800000 in
theorem eqIntSS_any (va vb : Value) (la lb : List (List Int)) (w : World) (ha : IntRows w va la) (hb : IntRows w vb lb) :
    Calls Try.prog 31 #[va, vb] w fun e w' => e = .returned (.bool (decide (la = lb))) ∧ Dr w w' := by
  have HAA := Lib.hid ha
  have HBB := Lib.hid hb
  obtain ⟨a, ca, rfl, ma, fa⟩ := ha.form
  obtain ⟨b, cb, rfl, mb, fb⟩ := hb.form
  clear fa fb ha hb
  by_cases hl : la.length = lb.length
  · have Hl := Lib.hid hl
    have hl' : ((la.length : Int) != (lb.length : Int)) = false := by simp [hl]
    clear hl
    go_enter Try.func31, Try.ntmps31
    go_wp2
    go_loopw [5] (fun i wr => ∃ k : Nat, k ≤ la.length ∧ i = .int .i64 k ∧ la.take k = lb.take k ∧ Dr w wr) (fun i _ => la.length - (intOf i).toNat)
    case atStart => exact ⟨0, Nat.zero_le _, rfl, rfl, Dr.refl w⟩
    case round =>
      obtain ⟨k, hk, rfl, ht, hD⟩ := hrel
      have Ht := Lib.hid ht
      have HD := Lib.hid hD
      clear ht hD
      by_cases hlt : k < la.length
      · obtain ⟨_, _, e1, _, fa⟩ := (HAA.out.keep HD.out.keeps).form
        cases e1
        obtain ⟨_, _, e2, _, fb⟩ := (HBB.out.keep HD.out.keeps).form
        cases e2
        obtain ⟨ba, oa, ua, rfl, hca, hua⟩ := fa k hlt
        have hlt2 : k < lb.length := by have := Hl.out; omega
        obtain ⟨bb, ob, ub, rfl, hcb, hub⟩ := fb k hlt2
        have HUA := Lib.hid hua
        have HUB := Lib.hid hub
        clear fa fb hua hub
        generalize hx : la.getD k [] = x at HUA
        generalize hy : lb.getD k [] = y at HUB
        have Hx := Lib.hid hx
        have Hy := Lib.hid hy
        clear hx hy
        have HC : ∀ n, Hid (Calls Try.prog 11 #[ua, ub] (wr.drewN n) fun e w' => e = .returned (.bool (decide (x = y))) ∧ ∃ m, w' = (wr.drewN n).drewN m) := fun n => eqIntS_any ua ub x y _ (HUA.out.keep ((Keeps.refl _).drewN n)) (HUB.out.keep ((Keeps.refl _).drewN n))
        cases hd : decide (x = y)
        · have Hd := Lib.hid hd
          clear hd
          go_wp2
          go_quiet ((go_at_call 11; exact Calls.quiet_of (HC _).out))
          rw [Hd.out]
          go_wp2
          go_ret
          refine ⟨?_, HD.out.more _⟩
          have hne : la ≠ lb := by
            intro h
            have h1 := Hx.out
            have h2 := Hy.out
            have h3 := Hd.out
            rw [h, h2] at h1
            simp [h1] at h3
          simp [hne]
        · have Hd := Lib.hid hd
          clear hd
          go_wp2
          go_quiet ((go_at_call 11; exact Calls.quiet_of (HC _).out))
          rw [Hd.out]
          go_wp2
          go_roundw
          case rel => exact ⟨k + 1, by omega, by go_num, take_eq_succR Ht.out Hl.out hlt (by rw [Hx.out, Hy.out]; simpa using Hd.out), HD.out.more _⟩
          case measure => simp [intOf]; omega
      · go_wp2
        go_ret
        refine ⟨?_, HD.out⟩
        have he : la = lb := by
          have h1 := Ht.out
          rw [List.take_of_length_le (by omega), List.take_of_length_le (by have := Hl.out; omega)] at h1
          exact h1
        simp [he]
  · have hl' : ((la.length : Int) != (lb.length : Int)) = true := by simp; omega
    have hne : Hid (decide (la = lb) = false) := by
      have : la ≠ lb := fun h => hl (by rw [h])
      show decide (la = lb) = false
      simp [this]
    clear hl
    go_enter Try.func31, Try.ntmps31
    go_wp2
    go_ret
    exact ⟨by rw [hne.out]; rfl, Dr.refl w⟩

/-- The rows numbered on, the first j of them. -/
def numbered (k : Int) (LL : List (List Int)) (j : Nat) : List (List Int) := (List.range LL.length).map fun i => if i < j then iota (k + off LL i) (LL.getD i []).length else LL.getD i []
theorem numbered_length (k : Int) (LL : List (List Int)) (j : Nat) : (numbered k LL j).length = LL.length := by simp [numbered]
theorem numbered_getD (k : Int) (LL : List (List Int)) (j i : Nat) (h : i < LL.length) : (numbered k LL j).getD i [] = if i < j then iota (k + off LL i) (LL.getD i []).length else LL.getD i [] := by
  simp [numbered, h]
theorem numbered_zero (k : Int) (LL : List (List Int)) : numbered k LL 0 = LL := by
  apply List.ext_getElem
  · simp [numbered]
  · intro i h1 h2
    simp [numbered, h2]
theorem numbered_succ (k : Int) (LL : List (List Int)) (j : Nat) (h : j < LL.length) : numbered k LL (j + 1) = (numbered k LL j).set j (iota (k + off LL j) (LL.getD j []).length) := by
  apply List.ext_getElem
  · simp [numbered]
  · intro i h1 h2
    rw [List.getElem_set]
    by_cases e : j = i
    · subst e; simp [numbered]
    · simp only [numbered, List.getElem_map, List.getElem_range, if_neg e]
      by_cases h3 : i < j
      · rw [if_pos h3, if_pos (by omega)]
      · rw [if_neg h3, if_neg (by omega)]

set_option maxHeartbeats 800000 in
theorem markIntSS_any (B C : Nat) (v : Value) (LL : List (List Int)) (k : Int) (w : World) (h : OwM B C w v LL) (hk : 0 ≤ k) (hk2 : k + tot LL ≤ 4611686018427387904) :
    Calls Try.prog 39 #[v, .int .i64 k] w fun e w' => e = .returned (.int .i64 (k + off LL LL.length)) ∧ OwM B C w' v (numbered k LL LL.length) ∧ Chg B C w w' := by
  obtain ⟨vs, hM0, hC1, hC2⟩ := h
  have HM0 := Lib.hid hM0
  have HC1 := Lib.hid hC1
  have HC2 := Lib.hid hC2
  obtain ⟨a, c, rfl, hm, _⟩ := hM0.rows.form
  clear hM0 hC1 hC2
  have HO := Lib.hid (off_le LL)
  have HOS := Lib.hid (off_succ LL)
  go_enter Try.func39, Try.ntmps39
  go_wp2
  go_loopw [1, 5] (fun x i wr => ∃ j : Nat, j ≤ LL.length ∧ i = .int .i64 j ∧ x = .int .i64 (k + off LL j) ∧ MatIn B wr (.slice a LL.length c) vs (numbered k LL j) ∧ Chg B C w wr) (fun _ i _ => LL.length - (intOf i).toNat)
  case atStart => exact ⟨0, Nat.zero_le _, rfl, by simp [off], by rw [numbered_zero]; exact HM0.out, Chg.refl _ _ _⟩
  case round =>
    obtain ⟨j, hj, rfl, rfl, hM, hG⟩ := hrel
    have HM := Lib.hid hM
    have HG := Lib.hid hG
    clear hM hG
    by_cases hlt : j < LL.length
    · have hjl : j < (numbered k LL j).length := by rw [numbered_length]; exact hlt
      obtain ⟨g, cap, hv, hcell⟩ := HM.out.form (by omega)
      simp only [Value.slice.injEq] at hv
      obtain ⟨rfl, -, rfl⟩ := hv
      obtain ⟨c1, c2⟩ := hcell j hjl
      clear hcell
      have hO := HM.out.own j hjl
      rw [numbered_getD k LL j j hlt, if_neg (Nat.lt_irrefl _)] at hO
      have HOW := Lib.hid hO
      have b1 := HO.out (j + 1) (by omega)
      have b2 := HOS.out j hlt
      have HX := Lib.hid (HC2.out j hlt)
      have HW : Hid (∀ w' l, wr.grownBy w' (vs.getD j undef).ownBlock → Own B w' (vs.getD j undef) l → MatIn B w' (.slice (some ⟨g, 0, none⟩) LL.length c) vs ((numbered k LL j).set j l)) := fun w' l hg ho => HM.out.wrote hjl hg ho
      clear hO
      generalize vs.getD j undef = u at c1 HOW HX HW
      have hb : k + (off LL j : Int) + ((LL.getD j []).length : Int) ≤ 4611686018427387904 := by omega
      have B2 := Lib.hid b2
      clear b2
      have HNS := Lib.hid (numbered_succ k LL j hlt)
      generalize LL.getD j [] = r at HOW B2 hb HNS
      go_wp2_with fail
      refine (markIntS_any B _ _ _ _ HOW.out (by omega) hb).mono ?_
      rintro e w2 ⟨rfl, hO2, hG2⟩
      have HN := Lib.hid (HW.out w2 _ hG2 hO2)
      have HGN : Hid (Chg B C w w2) := HG.out.trans (Chg.of_grown hG2 fun q hq => ⟨(HOW.out.lt q hq).1, HX.out q hq⟩)
      clear hO2 hG2
      go_wp2
      go_roundw
      case rel => exact ⟨j + 1, by omega, by go_num, by rw [B2.out]; congr 1; omega, by rw [HNS.out]; exact HN.out, HGN.out⟩
      case measure => simp [intOf]; omega
    · go_wp2
      go_ret
      have he : j = LL.length := by omega
      subst he
      exact ⟨rfl, ⟨vs, HM.out, HC1.out, fun i hi => HC2.out i (by rw [numbered_length] at hi; exact hi)⟩, HG.out⟩
end Go.Proofs.Ytjmhjobfiemmnaa
