/- Part 24 of what this claim rests on (Rng, Str, Open, Rp, Ad, Prb, Adq, Lq), packed by pack.py. -/
import Derived.OpenShut
import Derived.ShutString
import Derived.ChangeOld
import Derived.Test.YtdbbeldgdgonfaaGreatP04
import Derived.Test.YtdbbeldgdgonfaaGreatP23
namespace Go.Proofs.YtdbbeldgdgonfaaGreat
set_option linter.unusedSimpArgs false
set_option linter.unusedVariables false

section
open Go.RowKit
structure Chg (B C : Nat) (w w' : World) : Prop where
  os : w'.os = w.os
  tape : w'.tape = w.tape
  output : w'.output = w.output
  size : w.heap.size ≤ w'.heap.size
  block : ∀ k, k < w.heap.size → ¬ (B ≤ k ∧ k < C) → w'.heap[k]? = w.heap[k]?

section
variable {B C B' C' : Nat} {w w' w'' : World}
theorem Chg.refl (B C : Nat) (w : World) : Chg B C w w := ⟨rfl, rfl, rfl, Nat.le_refl _, fun _ _ _ => rfl⟩
theorem Chg.trans (h : Chg B C w w') (k : Chg B C w' w'') : Chg B C w w'' :=
 ⟨k.os.trans h.os, k.tape.trans h.tape, k.output.trans h.output, Nat.le_trans h.size k.size, fun i hi hr => (k.block i (Nat.lt_of_lt_of_le hi h.size) hr).trans (h.block i hi hr)⟩
theorem Keeps.chg (h : Keeps w w') (B C : Nat) : Chg B C w w' := ⟨h.os, h.tape, h.output, h.size, fun k hk _ => h.block k hk⟩
theorem Chg.of_grown {r : Option Nat} (h : w.grownBy w' r) (hr : ∀ k, r = some k → B ≤ k ∧ k < C) : Chg B C w w' :=
 ⟨h.os, h.tape, h.output, h.size, fun k hk hn => h.block k hk fun e => hn (hr k e.symm)⟩
theorem Chg.keeps {w0 : World} (h : Chg B C w w') (k : Keeps w0 w) (hB : w0.heap.size ≤ B) : Keeps w0 w' :=
 ⟨h.os.trans k.os, h.tape.trans k.tape, h.output.trans k.output, Nat.le_trans k.size h.size, fun i hi => (h.block i (Nat.lt_of_lt_of_le hi k.size) (by omega)).trans (k.block i hi)⟩
theorem Chg.mono (h : Chg B C w w') (hB : B' ≤ B) (hC : C ≤ C') : Chg B' C' w w' :=
 ⟨h.os, h.tape, h.output, h.size, fun k hk hn => h.block k hk (by omega)⟩
theorem hc_ {D : Nat} {e : TypeId} {size : Nat} {v : Value} {n : Nat} {xs : List Value} (h : w.ownsRow D e size v n xs) (c : Chg B C w w') (hv : ∀ k, v.ownBlock = some k → ¬ (B ≤ k ∧ k < C)) : w'.ownsRow D e size v n xs := by
 obtain ⟨h1, h2⟩ := h
 refine ⟨h1, ?_⟩
 rcases h2 with h2 | ⟨g, cap, cur, rfl, hg, hh, r⟩
 ·exact .inl h2
 ·exact .inr ⟨g, cap, cur, rfl, hg, by rw [c.block g (Array.getElem?_eq_some_iff.1 hh).1 (hv g rfl)]; exact hh, r⟩
end

structure OwI (B C : Nat) (w : World) (v : Value) (l : List Int) : Prop where
  own : Own B w v l
  hi : ∀ k, v.ownBlock = some k → k < C
def OwM (B C : Nat) (w : World) (v : Value) (LL : List (List Int)) : Prop :=
  ∃ vs, MatIn B w v vs LL ∧ (∀ k, v.ownBlock = some k → k < C) ∧ ∀ i, i < LL.length → ∀ k, (vs.getD i undef).ownBlock = some k → k < C

section
variable {B C B' C' : Nat} {w w' w'' : World} {v : Value} {l : List Int} {LL : List (List Int)} {vs : List Value}
theorem OwI.ints (h : OwI B C w v l) : Ints w v l := h.own.ints
theorem OwI.keep (h : OwI B C w v l) (k : Keeps w w') : OwI B C w' v l := ⟨h.own.keep k, h.hi⟩
theorem OwI.chg (h : OwI B C w v l) (c : Chg B' C' w w') (hd : C ≤ B' ∨ C' ≤ B) : OwI B C w' v l :=
 ⟨hc_ h.own c fun k hk => by have := h.hi k hk; have := (h.own.lt k hk).1; omega, h.hi⟩
theorem MatIn.owM (h : MatIn B w v vs LL) : OwM B w.heap.size w v LL :=
 ⟨vs, h, fun k hk => (World.ownsRow.lt h.row k hk).2, fun i hi k hk => ((h.own i hi).lt k hk).2⟩
theorem OwM.rows (h : OwM B C w v LL) : IntRows w v LL := by obtain ⟨vs, h, _⟩ := h; exact h.rows
theorem OwM.keep (h : OwM B C w v LL) (k : Keeps w w') : OwM B C w' v LL := by obtain ⟨vs, h, h1, h2⟩ := h; exact ⟨vs, h.keep k, h1, h2⟩
theorem OwM.mono (h : OwM B C w v LL) (hB : B' ≤ B) (hC : C ≤ C') : OwM B' C' w v LL := by
 obtain ⟨vs, h, h1, h2⟩ := h
 exact ⟨vs, ⟨World.ownsRow.mono h.row hB, fun i hi => (h.own i hi).mono hB, h.apart⟩, fun k hk => Nat.lt_of_lt_of_le (h1 k hk) hC, fun i hi k hk => Nat.lt_of_lt_of_le (h2 i hi k hk) hC⟩
theorem OwM.chg (h : OwM B C w v LL) (c : Chg B' C' w w') (hd : C ≤ B' ∨ C' ≤ B) : OwM B C w' v LL := by
 obtain ⟨vs, h, h1, h2⟩ := h
 refine ⟨vs, ⟨hc_ h.row c fun k hk => ?_, fun i hi => hc_ (h.own i hi) c fun k hk => ?_, h.apart⟩, h1, h2⟩
 ·have := h1 k hk; have := (World.ownsRow.lt h.row k hk).1; omega
 ·have := h2 i hi k hk; have := ((h.own i hi).lt k hk).1; omega
end

theorem MatIn.set_ {B : Nat} {w : World} {g n cap : Nat} {vs : List Value} {LL : List (List Int)} {i : Nat} {l : List Int} {r : Value} (h : MatIn B w (.slice (some ⟨g, 0, none⟩) n cap) vs LL) (hi : i < LL.length)
  (hr : Own B w r l) (ap : ∀ j, j < LL.length → j ≠ i → Apart r (vs.getD j undef)) :
  MatIn B (w.setCell ⟨g, i, none⟩ r) (.slice (some ⟨g, 0, none⟩) n cap) (vs.set i r) (LL.set i l) := by
 have hl := h.len
 have n1 : (41 : TypeId) ≠ 3 := by decide
 have hr1 := h.row
 obtain ⟨gg, cc, he, _⟩ := World.ownsRow.form hr1 (by omega)
 simp only [Value.slice.injEq, Option.some.injEq, Addr.mk.injEq, and_true, true_and] at he
 obtain ⟨rfl, hn, rfl⟩ := he
 subst hn
 obtain ⟨h1, h2⟩ := World.ownsRow.stored hr1 i r
 have far : ∀ {u : Value} {l : List Int}, Own B w u l → Own B (w.setCell ⟨g, i, none⟩ r) u l := fun {u l} hu =>
  World.ownsRow.kept hu h2 (hm_ n1.symm hu hr1)
 refine ⟨by simpa using h1, fun j hj => ?_, fun j k' hj hk hne => ?_⟩
 ·simp only [List.length_set] at hj
  by_cases hji : j = i
  ·subst hji
   rw [dx_ _ _ _ _ (by omega), dx_ _ _ _ _ hi]
   exact far hr
  ·rw [getD_set_ne _ _ _ _ _ hji, getD_set_ne _ _ _ _ _ hji]
   exact far (h.own j hj)
 ·simp only [List.length_set] at hj hk
  by_cases hji : j = i
  ·subst hji
   rw [dx_ _ _ _ _ (by omega), getD_set_ne _ _ _ _ _ (Ne.symm hne)]
   exact ap k' hk (Ne.symm hne)
  ·rw [getD_set_ne _ _ _ _ _ hji]
   by_cases hki : k' = i
   ·subst hki
    rw [dx_ _ _ _ _ (by omega)]
    exact (ap j hj hji).symm
   ·rw [getD_set_ne _ _ _ _ _ hki]
    exact h.apart j k' hj hk hne
theorem MatIn.wrote {B : Nat} {w w' : World} {v : Value} {vs : List Value} {LL : List (List Int)} {i : Nat} {l : List Int} (h : MatIn B w v vs LL) (hi : i < LL.length) (hg : w.grownBy w' (vs.getD i undef).ownBlock) (hr : Own B w' (vs.getD i undef) l) :
  MatIn B w' v vs (LL.set i l) := by
 have n1 : (41 : TypeId) ≠ 3 := by decide
 refine ⟨by rw [List.length_set]; exact World.ownsRow.kept h.row hg (hm_ n1 h.row (h.own i hi)), fun j hj => ?_, fun j k hj hk hne => h.apart j k (by simpa using hj) (by simpa using hk) hne⟩
 simp only [List.length_set] at hj
 by_cases hji : j = i
 ·subst hji
  rw [dx_ _ _ _ _ hi]
  exact hr
 ·rw [getD_set_ne _ _ _ _ _ hji]
  exact (h.own j hj).kept hg (h.apart j i hj hi hji)
theorem hU_ {α : Type} (LL : List α) (d : α) (j : Nat) (hlt : j < LL.length) : (LL.take j ++ List.replicate (LL.length - j) d).set j (LL.getD j d) = LL.take (j + 1) ++ List.replicate (LL.length - (j + 1)) d := by
 have hl : (LL.take j).length = j := by simp; omega
 obtain ⟨q, hq⟩ : ∃ q, LL.length - j = q + 1 := ⟨LL.length - j - 1, by omega⟩
 rw [hq, List.replicate_succ, List.set_append_right _ _ (by omega), hl, Nat.sub_self, List.set_cons_zero, show LL.length - (j + 1) = q by omega, List.take_succ_eq_append_getElem hlt, List.append_assoc, List.getD_eq_getElem?_getD, List.getElem?_eq_getElem hlt]
 rfl
def off (LL : List (List Int)) (i : Nat) : Nat := ((LL.take i).map List.length).sum
def tot (LL : List (List Int)) : Nat := LL.length + off LL LL.length
theorem gz_ (LL : List (List Int)) (i : Nat) (h : i < LL.length) : off LL (i + 1) = off LL i + (LL.getD i []).length := by
 unfold off
 rw [List.take_succ_eq_append_getElem h, List.getD_eq_getElem?_getD, List.getElem?_eq_getElem h]
 simp only [List.map_append, List.sum_append, List.map_cons, List.map_nil, List.sum_cons, List.sum_nil, Option.getD_some, Nat.add_zero]
theorem kK_ (LL : List (List Int)) : ∀ (j i : Nat), i ≤ j → j ≤ LL.length → off LL i ≤ off LL j
 | 0, i, h, _ => by rw [show i = 0 by omega]; exact Nat.le_refl _
 | j + 1, i, h, hj => by
  by_cases e : i = j + 1
  ·rw [e]; exact Nat.le_refl _
  ·have := kK_ LL j i (by omega) (by omega)
   rw [gz_ LL j (by omega)]; omega
theorem jK_ (LL : List (List Int)) (i : Nat) (h : i ≤ LL.length) : off LL i ≤ tot LL := by
 have := kK_ LL LL.length i h (Nat.le_refl _)
 unfold tot; omega
theorem ql_ (LL : List (List Int)) (i : Nat) (h : i < LL.length) : (LL.getD i []).length ≤ tot LL := by
 have := jK_ LL (i + 1) (by omega)
 rw [gz_ LL i h] at this
 omega
def szL (left : Int) (n : Nat) : Int := if (n : Int) ≤ left then left - n else -1

theorem fw_ {k : IntKind} {a b : Int} (h : a = b) : Ending.returned (.int k a) = .returned (.int k b) := by rw [h]
theorem oK_ (v : Value) (l : List Int) (left : Int) (w : World) (h : Ints w v l) (h0 : 0 ≤ left) (h1 : left ≤ 1048576) :
  Calls Tryz.prog 64 #[v, .int .i64 left] w fun e w' => e = .returned (.int .i64 (szL left l.length)) ∧ w = w' := by
 obtain ⟨a, c, rfl, hm, hf⟩ := h.form
 clear h hf
 have HS : Hid (szL left l.length = if (l.length : Int) ≤ left then left - l.length else -1) := rfl
 by_cases hc : (l.length : Int) ≤ left
 ·have hc' : ¬ left - (l.length : Int) < 0 := by omega
  go_enter Tryz.func64, Tryz.ntmps64
  go_wp2
  go_ret
  exact ⟨fw_ (by rw [HS.out, if_pos hc]), rfl⟩
 ·have hc' : left - (l.length : Int) < 0 := by omega
  go_enter Tryz.func64, Tryz.ntmps64
  go_wp2
  go_ret
  exact ⟨fw_ (by rw [HS.out, if_neg (by omega)]), rfl⟩
set_option maxHeartbeats 800000 in
theorem eK_ (v : Value) (LL : List (List Int)) (left : Int) (w : World) (h : IntRows w v LL) (h0 : 0 ≤ left) (h1 : left ≤ 1048576) :
  Calls Tryz.prog 39 #[v, .int .i64 left] w fun e w' => e = .returned (.int .i64 (szL left (tot LL))) ∧ w = w' := by
 obtain ⟨a, c, rfl, hm, hf⟩ := h.form
 have HF := Lib.hid hf
 clear h hf
 have HS : Hid (szL left (tot LL) = if (tot LL : Int) ≤ left then left - tot LL else -1) := rfl
 have HT : Hid (tot LL = LL.length + off LL LL.length) := rfl
 by_cases hc : (LL.length : Int) ≤ left
 ·have hc' : ¬ left - (LL.length : Int) < 0 := by omega
  go_enter Tryz.func39, Tryz.ntmps39
  go_wp2
  go_loop [1, 5] (fun x i => ∃ j : Nat, j ≤ LL.length ∧ i = .int .i64 j ∧ x = .int .i64 (left - LL.length - off LL j) ∧ (off LL j : Int) ≤ left - LL.length) (fun _ i => LL.length - (intOf i).toNat)
  case atStart => exact ⟨0, Nat.zero_le _, rfl, by simp [off], by simp [off]; omega⟩
  case round =>
   obtain ⟨j, hj, rfl, rfl, ho⟩ := hrel
   by_cases hlt : j < LL.length
   ·obtain ⟨b, o, u, rfl, hcell, hu⟩ := HF.out j hlt
    have HU := Lib.hid hu
    have HO := Lib.hid (gz_ LL j hlt)
    have HOM := Lib.hid (kK_ LL LL.length (j + 1) (by omega) (Nat.le_refl _))
    have HZ : Hid (szL (left - LL.length - off LL j) (LL.getD j []).length = if ((LL.getD j []).length : Int) ≤ left - LL.length - off LL j then left - LL.length - off LL j - (LL.getD j []).length else -1) := rfl
    clear hu
    go_wp2_with fail
    refine (oK_ _ _ _ _ HU.out (by omega) (by omega)).mono ?_
    rintro e w' ⟨rfl, rfl⟩
    by_cases hd : ((LL.getD j []).length : Int) ≤ left - LL.length - off LL j
    ·rw [HZ.out, if_pos hd]
     have hd' : ¬ left - (LL.length : Int) - (off LL j : Int) - ((LL.getD j []).length : Int) < 0 := by omega
     generalize hr : (LL.getD j []).length = r at *
     go_wp2
     go_round
     case rel => exact ⟨j + 1, by omega, by go_num, by rw [HO.out]; congr 1; omega, by rw [HO.out]; omega⟩
     case measure => simp [intOf]; omega
    ·rw [HZ.out, if_neg hd]
     go_wp2
     go_ret
     refine ⟨fw_ ?_, rfl⟩
     have := HT.out
     have := HO.out
     have := HOM.out
     rw [HS.out, if_neg (by omega)]
   ·go_wp2
    go_ret
    have he : j = LL.length := by omega
    subst he
    refine ⟨fw_ ?_, rfl⟩
    have := HT.out
    rw [HS.out, if_pos (by omega)]
    omega
 ·have hc' : left - (LL.length : Int) < 0 := by omega
  go_enter Tryz.func39, Tryz.ntmps39
  go_wp2
  go_ret
  refine ⟨fw_ ?_, rfl⟩
  have := HT.out
  rw [HS.out, if_neg (by omega)]
set_option maxHeartbeats 800000 in
theorem iM_ (v : Value) (LL : List (List Int)) (w : World) (h : IntRows w v LL) (hl : tot LL ≤ 1048576) :
  Calls Tryz.prog 42 #[v] w fun e w' => ∃ r, e = .returned r ∧ OwM w.heap.size w'.heap.size w' r LL ∧ Keeps w w' := by
 obtain ⟨a, c, rfl, hm, hf⟩ := h.form
 have HF := Lib.hid hf
 clear h hf
 have hlen : LL.length ≤ 1048576 := by unfold tot at hl; omega
 have HR := Lib.hid (ql_ LL)
 obtain ⟨i0, hi, hz0, hz1, hz2⟩ := info_parts qj_
 have HI := Lib.hid hi
 have HZ0 := Lib.hid hz0
 have HZ1 := Lib.hid hz1
 have HZ2 := Lib.hid hz2
 clear hi hz0 hz1 hz2
 go_enter Tryz.func42, Tryz.ntmps42
 go_wp2_with (at_make; refine wpList_make_full _ rfl _ _ 22 rfl w.heap.size 41 i0 (.slice none 0 0) 1 Tryz.underlying22 HI.out HZ0.out HZ1.out .i64 .i64 _ _ LL.length rfl rfl rfl rfl (by rw [HZ2.out]; omega) (by unfold maxLen; omega) (Nat.le_refl _) ?_; intro w1 hown hgr)
 rw [if_] at hown
 have H1 : Hid (MatIn w.heap.size w1 (.slice (some ⟨w.heap.size, 0, none⟩) LL.length LL.length) (List.replicate LL.length (.slice none 0 0)) (List.replicate LL.length [])) := MatIn.made hown
 have H2 : Hid (Below w.heap.size w w1) := (Below.refl _ _).grown hgr (Nat.le_refl _) (by simp)
 clear hown hgr HI HZ0 HZ1 HZ2
 go_wp2
 go_loopw [4] (fun i wr => ∃ (j : Nat) (vs : List Value), j ≤ LL.length ∧ i = .int .i64 j ∧ MatIn w.heap.size wr (.slice (some ⟨w.heap.size, 0, none⟩) LL.length LL.length) vs (LL.take j ++ List.replicate (LL.length - j) []) ∧ Keeps w wr) (fun i _ => LL.length - (intOf i).toNat)
 case atStart => exact ⟨0, _, Nat.zero_le _, rfl, by simpa using H1.out, H2.out⟩
 case round =>
  obtain ⟨j, vs, hj, rfl, hM, hK⟩ := hrel
  have HM := Lib.hid hM
  have HK := Lib.hid hK
  clear hM hK H1 H2
  by_cases hlt : j < LL.length
  ·obtain ⟨b, o, u, rfl, hc0, hu0⟩ := HF.out j hlt
   have hc := l_ HK.out hc0
   have HU := Lib.hid (hu0.keep HK.out)
   have hrl := HR.out j hlt
   clear hc0 hu0
   go_wp2_with fail
   refine (oI_ _ _ _ HU.out (by omega)).mono ?_
   rintro e w2 ⟨r, rfl, hO, hK2⟩
   have hM2 := HM.out.keep hK2
   have hjl : j < (LL.take j ++ List.replicate (LL.length - j) ([] : List Int)).length := by simp; omega
   obtain ⟨g, cap, hv, hcell⟩ := hM2.form (by omega)
   simp only [Value.slice.injEq, Option.some.injEq, Addr.mk.injEq] at hv
   obtain ⟨⟨rfl, -⟩, -, rfl⟩ := hv
   obtain ⟨c1, c2⟩ := hcell j hjl
   have c1' : ∃ u, w2.cell? ⟨w.heap.size, j, none⟩ = some u := ⟨_, c1⟩
   clear c1 hcell
   obtain ⟨u', c1⟩ := c1'
   have HN := Lib.hid (hM2.set_ hjl (hO.mono HK.out.size) (fun i hi _ => (Own.apart_old (HM.out.own i hi) hO (Nat.le_refl _)).symm))
   have HKN : Hid (Keeps w (w2.setCell ⟨w.heap.size, j, none⟩ r)) := (Keeps.trans HK.out hK2).setCell (Nat.le_refl _) _
   obtain ⟨ra, rn, rc, rfl⟩ := hO.sl
   clear hM2 hO hK2 HU
   go_wp2
   go_roundw
   case rel =>
    refine ⟨j + 1, vs.set j (.slice ra rn rc), by omega, by go_num, ?_, HKN.out⟩
    have h5 := HN.out
    have e1 := hU_ LL [] j hlt
    rw [e1] at h5
    exact h5
   case measure => simp [intOf]; omega
  ·go_wp2
   go_ret
   have he : j = LL.length := by omega
   subst he
   have h5 := HM.out
   rw [Nat.sub_self, List.replicate_zero, List.append_nil, List.take_length] at h5
   exact ⟨_, rfl, h5.owM, HK.out⟩
theorem kM_ {la lb : List (List Int)} {k : Nat} (h : la.take k = lb.take k) (hl : la.length = lb.length) (hk : k < la.length) (he : la.getD k [] = lb.getD k []) : la.take (k + 1) = lb.take (k + 1) := by
 have hk' : k < lb.length := by omega
 rw [List.take_succ_eq_append_getElem hk, List.take_succ_eq_append_getElem hk', h]
 simp [List.getD_eq_getElem?_getD, hk, hk'] at he
 rw [he]
set_option maxHeartbeats 800000 in
theorem iA_ (va vb : Value) (la lb : List (List Int)) (w : World) (ha : IntRows w va la) (hb : IntRows w vb lb) :
  Calls Tryz.prog 25 #[va, vb] w fun e w' => e = .returned (.bool (decide (la = lb))) ∧ Dr w w' := by
 have HAA := Lib.hid ha
 have HBB := Lib.hid hb
 obtain ⟨a, ca, rfl, ma, fa⟩ := ha.form
 obtain ⟨b, cb, rfl, mb, fb⟩ := hb.form
 clear fa fb ha hb
 by_cases hl : la.length = lb.length
 ·have Hl := Lib.hid hl
  have hl' : ((la.length : Int) != (lb.length : Int)) = false := by simp [hl]
  clear hl
  go_enter Tryz.func25, Tryz.ntmps25
  go_wp2
  go_loopw [5] (fun i wr => ∃ k : Nat, k ≤ la.length ∧ i = .int .i64 k ∧ la.take k = lb.take k ∧ Dr w wr) (fun i _ => la.length - (intOf i).toNat)
  case atStart => exact ⟨0, Nat.zero_le _, rfl, rfl, Dr.refl w⟩
  case round =>
   obtain ⟨k, hk, rfl, ht, hD⟩ := hrel
   have Ht := Lib.hid ht
   have HD := Lib.hid hD
   clear ht hD
   by_cases hlt : k < la.length
   ·obtain ⟨_, _, e1, _, fa⟩ := (HAA.out.keep HD.out.keeps).form
    cases e1
    obtain ⟨_, _, e2, _, fb⟩ := (HBB.out.keep HD.out.keeps).form
    cases e2
    obtain ⟨ba, oa, ua, rfl, hca, hua⟩ := fa k hlt
    have hlt2 : k < lb.length := by have := Hl.out; omega
    obtain ⟨bb, ob, ub, rfl, hcb, hub⟩ := fb k hlt2
    have HUA := Lib.hid hua
    have HUB := Lib.hid hub
    clear fa fb hua hub
    generalize hx : la.getD k [] = x at HUA
    generalize hy : lb.getD k [] = y at HUB
    have Hx := Lib.hid hx
    have Hy := Lib.hid hy
    clear hx hy
    have HC : ∀ n, Hid (Calls Tryz.prog 24 #[ua, ub] (wr.drewN n) fun e w' => e = .returned (.bool (decide (x = y))) ∧ ∃ m, w' = (wr.drewN n).drewN m) := fun n => oF_ ua ub x y _ (HUA.out.keep ((Keeps.refl _).drewN n)) (HUB.out.keep ((Keeps.refl _).drewN n))
    cases hd : decide (x = y)
    ·have Hd := Lib.hid hd
     clear hd
     go_wp2
     go_quiet ((go_at_call 24; exact Calls.quiet_of (HC _).out))
     rw [Hd.out]
     go_wp2
     go_ret
     refine ⟨?_, HD.out.more _⟩
     have hne : la ≠ lb := by
      intro h
      have h1 := Hx.out
      have h2 := Hy.out
      have h3 := Hd.out
      rw [h, h2] at h1
      simp [h1] at h3
     simp [hne]
    ·have Hd := Lib.hid hd
     clear hd
     go_wp2
     go_quiet ((go_at_call 24; exact Calls.quiet_of (HC _).out))
     rw [Hd.out]
     go_wp2
     go_roundw
     case rel => exact ⟨k + 1, by omega, by go_num, kM_ Ht.out Hl.out hlt (by rw [Hx.out, Hy.out]; simpa using Hd.out), HD.out.more _⟩
     case measure => simp [intOf]; omega
   ·go_wp2
    go_ret
    refine ⟨?_, HD.out⟩
    have he : la = lb := by
     have h1 := Ht.out
     rw [List.take_of_length_le (by omega), List.take_of_length_le (by have := Hl.out; omega)] at h1
     exact h1
    simp [he]
 ·have hl' : ((la.length : Int) != (lb.length : Int)) = true := by simp; omega
  have hne : Hid (decide (la = lb) = false) := by
   have : la ≠ lb := fun h => hl (by rw [h])
   show decide (la = lb) = false
   simp [this]
  clear hl
  go_enter Tryz.func25, Tryz.ntmps25
  go_wp2
  go_ret
  exact ⟨by rw [hne.out]; rfl, Dr.refl w⟩
def numbered (k : Int) (LL : List (List Int)) (j : Nat) : List (List Int) := (List.range LL.length).map fun i => if i < j then iota (k + off LL i) (LL.getD i []).length else LL.getD i []
theorem dB_ (k : Int) (LL : List (List Int)) (j : Nat) : (numbered k LL j).length = LL.length := by simp [numbered]
theorem kI_ (k : Int) (LL : List (List Int)) (j i : Nat) (h : i < LL.length) : (numbered k LL j).getD i [] = if i < j then iota (k + off LL i) (LL.getD i []).length else LL.getD i [] := by
 simp [numbered, h]
theorem kA_ (k : Int) (LL : List (List Int)) : numbered k LL 0 = LL := by
 apply List.ext_getElem
 ·simp [numbered]
 ·intro i h1 h2
  simp [numbered, h2]
theorem kn_ (k : Int) (LL : List (List Int)) (j : Nat) (h : j < LL.length) : numbered k LL (j + 1) = (numbered k LL j).set j (iota (k + off LL j) (LL.getD j []).length) := by
 apply List.ext_getElem
 ·simp [numbered]
 ·intro i h1 h2
  rw [List.getElem_set]
  by_cases e : j = i
  ·subst e; simp [numbered]
  ·simp only [numbered, List.getElem_map, List.getElem_range, if_neg e]
   by_cases h3 : i < j
   ·rw [if_pos h3, if_pos (by omega)]
   ·rw [if_neg h3, if_neg (by omega)]
set_option maxHeartbeats 800000 in
theorem eo_ (B C : Nat) (v : Value) (LL : List (List Int)) (k : Int) (w : World) (h : OwM B C w v LL) (hk : 0 ≤ k) (hk2 : k + tot LL ≤ 4611686018427387904) :
  Calls Tryz.prog 27 #[v, .int .i64 k] w fun e w' => e = .returned (.int .i64 (k + off LL LL.length)) ∧ OwM B C w' v (numbered k LL LL.length) ∧ Chg B C w w' := by
 obtain ⟨vs, hM0, hC1, hC2⟩ := h
 have HM0 := Lib.hid hM0
 have HC1 := Lib.hid hC1
 have HC2 := Lib.hid hC2
 obtain ⟨a, c, rfl, hm, _⟩ := hM0.rows.form
 clear hM0 hC1 hC2
 have HO := Lib.hid (jK_ LL)
 have HOS := Lib.hid (gz_ LL)
 go_enter Tryz.func27, Tryz.ntmps27
 go_wp2
 go_loopw [1, 5] (fun x i wr => ∃ j : Nat, j ≤ LL.length ∧ i = .int .i64 j ∧ x = .int .i64 (k + off LL j) ∧ MatIn B wr (.slice a LL.length c) vs (numbered k LL j) ∧ Chg B C w wr) (fun _ i _ => LL.length - (intOf i).toNat)
 case atStart => exact ⟨0, Nat.zero_le _, rfl, by simp [off], by rw [kA_]; exact HM0.out, Chg.refl _ _ _⟩
 case round =>
  obtain ⟨j, hj, rfl, rfl, hM, hG⟩ := hrel
  have HM := Lib.hid hM
  have HG := Lib.hid hG
  clear hM hG
  by_cases hlt : j < LL.length
  ·have hjl : j < (numbered k LL j).length := by rw [dB_]; exact hlt
   obtain ⟨g, cap, hv, hcell⟩ := HM.out.form (by omega)
   simp only [Value.slice.injEq] at hv
   obtain ⟨rfl, -, rfl⟩ := hv
   obtain ⟨c1, c2⟩ := hcell j hjl
   clear hcell
   have hO := HM.out.own j hjl
   rw [kI_ k LL j j hlt, if_neg (Nat.lt_irrefl _)] at hO
   have HOW := Lib.hid hO
   have b1 := HO.out (j + 1) (by omega)
   have b2 := HOS.out j hlt
   have HX := Lib.hid (HC2.out j hlt)
   have HW : Hid (∀ w' l, wr.grownBy w' (vs.getD j undef).ownBlock → Own B w' (vs.getD j undef) l → MatIn B w' (.slice (some ⟨g, 0, none⟩) LL.length c) vs ((numbered k LL j).set j l)) := fun w' l hg ho => HM.out.wrote hjl hg ho
   clear hO
   generalize vs.getD j undef = u at c1 HOW HX HW
   have hb : k + (off LL j : Int) + ((LL.getD j []).length : Int) ≤ 4611686018427387904 := by omega
   have B2 := Lib.hid b2
   clear b2
   have HNS := Lib.hid (kn_ k LL j hlt)
   generalize LL.getD j [] = r at HOW B2 hb HNS
   go_wp2_with fail
   refine (lc_ B _ _ _ _ HOW.out (by omega) hb).mono ?_
   rintro e w2 ⟨rfl, hO2, hG2⟩
   have HN := Lib.hid (HW.out w2 _ hG2 hO2)
   have HGN : Hid (Chg B C w w2) := HG.out.trans (Chg.of_grown hG2 fun q hq => ⟨(HOW.out.lt q hq).1, HX.out q hq⟩)
   clear hO2 hG2
   go_wp2
   go_roundw
   case rel => exact ⟨j + 1, by omega, by go_num, by rw [B2.out]; congr 1; omega, by rw [HNS.out]; exact HN.out, HGN.out⟩
   case measure => simp [intOf]; omega
  ·go_wp2
   go_ret
   have he : j = LL.length := by omega
   subst he
   exact ⟨rfl, ⟨vs, HM.out, HC1.out, fun i hi => HC2.out i (by rw [dB_] at hi; exact hi)⟩, HG.out⟩
end

section
open Go.RowKit
theorem Chg.setCell1 (w : World) (g i : Nat) (u : Value) : Chg g (g + 1) w (w.setCell ⟨g, i, none⟩ u) :=
 ⟨rfl, rfl, rfl, by simp [World.setCell], fun k hk hn => Below.heap_setCell w ⟨g, i, none⟩ u k (by simp; omega)⟩
theorem bI_ (w : World) (p : Addr) (u : Value) : (w.setCell p u).heap.size = w.heap.size := by simp [World.setCell]
theorem OwM.setC {B C : Nat} {w : World} {v : Value} {LL : List (List Int)} (h : OwM B C w v LL) {g : Nat} (hg : g < B) (i : Nat) (u : Value) : OwM B C (w.setCell ⟨g, i, none⟩ u) v LL :=
 h.chg (Chg.setCell1 w g i u) (.inr hg)
theorem OwI.setC {B C : Nat} {w : World} {v : Value} {l : List Int} (h : OwI B C w v l) {g : Nat} (hg : g < B) (i : Nat) (u : Value) : OwI B C (w.setCell ⟨g, i, none⟩ u) v l :=
 h.chg (Chg.setCell1 w g i u) (.inr hg)
theorem OwI.mono {B C B' C' : Nat} {w : World} {v : Value} {l : List Int} (h : OwI B C w v l) (hB : B' ≤ B) (hC : C ≤ C') : OwI B' C' w v l :=
 ⟨h.own.mono hB, fun k hk => Nat.lt_of_lt_of_le (h.hi k hk) hC⟩
theorem OwI.rows {B C : Nat} {w : World} {v : Value} {l : List Int} (h : OwI B C w v l) : Ints w v l := h.ints
theorem bcell {W w1 : World} (hb : Keeps W w1) : (∀ b o, b < W.heap.size → w1.cell? ⟨b, o, none⟩ = W.cell? ⟨b, o, none⟩) ∧ (∀ b o, b < W.heap.size → w1.frozen? ⟨b, o, none⟩ = W.frozen? ⟨b, o, none⟩) :=
 ⟨fun b o h => Below.cell (p := ⟨b, o, none⟩) hb h, fun b o h => Below.frozen (p := ⟨b, o, none⟩) hb h⟩
end

section
open Go.ChangeShapes Go.WideShapes Go.ChangeAt Go.RowKit
set_option maxRecDepth 100000
def I64 (n : Int) : Prop := -9223372036854775808 ≤ n ∧ n ≤ 9223372036854775807
theorem jf_ {n : Int} (h : (Lit.int .i64 n).wf = true) : I64 n := by
 have := bounds_i64 h
 exact this
variable {H : Type} {enc : TypeId × Value → H} {W : World}

theorem openInt {base : Nat} {v : Value} {d : DataW H} {p : List MemPlace} (hval : Value.okWide Tryz.prog W .any base 3 v)
  (h : DataW.Trod enc Tryz.prog W 0 (fun _ => true) true 3 v d p) : ∃ n : Int, v = .int .i64 n ∧ I64 n := by
 obtain ⟨n, hv, _, _, hw⟩ := open_int Tryz.underlying3 hval h
 exact ⟨n, hv, jf_ hw⟩
end

section
open Go.RowKit
structure RP where
  labels : Int
  children : Int
  lines : List (List Int)
def RdR (w : World) (v : Value) (x : RP) : Prop := ∃ v2, v = .agg #[.int .i64 x.labels, .int .i64 x.children, v2] ∧ IntRows w v2 x.lines
def OwR (B C : Nat) (w : World) (v : Value) (x : RP) : Prop := ∃ v2, v = .agg #[.int .i64 x.labels, .int .i64 x.children, v2] ∧ ∃ M0 M1, B ≤ M0 ∧ M0 ≤ M1 ∧ M1 ≤ C ∧ OwM M0 M1 w v2 x.lines
section
variable {B C B' C' : Nat} {w w' : World} {v : Value} {x : RP}
theorem RdR.keep (h : RdR w v x) (k : Keeps w w') : RdR w' v x := by obtain ⟨v2, e, h2⟩ := h; exact ⟨v2, e, h2.keep k⟩
theorem OwR.rd (h : OwR B C w v x) : RdR w v x := by obtain ⟨v2, e, M0, M1, l0, l1, l2, h2⟩ := h; exact ⟨v2, e, h2.rows⟩
theorem OwR.keep (h : OwR B C w v x) (k : Keeps w w') : OwR B C w' v x := by obtain ⟨v2, e, M0, M1, l0, l1, l2, h2⟩ := h; exact ⟨v2, e, M0, M1, l0, l1, l2, h2.keep k⟩
theorem OwR.chg (h : OwR B C w v x) (c : Chg B' C' w w') (hd : C ≤ B' ∨ C' ≤ B) : OwR B C w' v x := by obtain ⟨v2, e, M0, M1, l0, l1, l2, h2⟩ := h; exact ⟨v2, e, M0, M1, l0, l1, l2, h2.chg c (by omega)⟩
theorem OwR.mono (h : OwR B C w v x) (hB : B' ≤ B) (hC : C ≤ C') : OwR B' C' w v x := by obtain ⟨v2, e, M0, M1, l0, l1, l2, h2⟩ := h; exact ⟨v2, e, M0, M1, by omega, by omega, by omega, h2⟩
theorem RdR.shape (h : RdR w v x) : ∃ a2 c2, v = .agg #[.int .i64 x.labels, .int .i64 x.children, .slice a2 x.lines.length c2] := by
 obtain ⟨v2, rfl, h2⟩ := h
 obtain ⟨a2, c2, rfl, _⟩ := h2.form
 exact ⟨_, _, rfl⟩
end
end

section
open Go.RowKit
theorem jY_ {w : World} {b o : Nat} {v : Value} (h : w.cell? ⟨b, o, none⟩ = some v) : b < w.heap.size := by
 simp only [World.cell?] at h
 cases hb : w.heap[b]? with
 | none => rw [hb] at h; simp at h
 | some x => exact (Array.getElem?_eq_some_iff.1 hb).1
theorem Ints.rdl {w : World} {v : Value} {l : List Int} (h : Ints w v l) : RdL zt w v l := by
 obtain ⟨a, c, rfl, h1, h2, h3⟩ := h
 refine ⟨a, c, by simp, by simpa using h1, h2, fun i x hx => ?_⟩
 rcases h3 with h3 | ⟨b, off, rfl, h3⟩
 ·simp at h3; subst h3; simp at hx
 ·have hc := h3 i (.int .i64 x) (by rw [List.getElem?_map, hx]; rfl)
  refine ⟨b, off, [.int .i64 x], rfl, rfl, jY_ hc, fun j u hj => ?_, rfl⟩
  cases j with
  | zero => simp at hj; subst hj; simpa [Rp.sz] using hc
  | succ j => simp at hj
theorem IntRows.rdl {w : World} {v : Value} {LL : List (List Int)} (h : IntRows w v LL) : RdL zt w v LL := by
 obtain ⟨vs, ⟨a, c, rfl, h1, h2, h3⟩, hl, hr⟩ := h
 refine ⟨a, c, by rw [hl], by omega, h2, fun i x hx => ?_⟩
 have hi : i < LL.length := (List.getElem?_eq_some_iff.1 hx).1
 rcases h3 with h3 | ⟨b, off, rfl, h3⟩
 ·subst h3; simp at hl; omega
 ·have hv : vs[i]? = some (vs.getD i undef) := by rw [List.getD_eq_getElem?_getD, List.getElem?_eq_getElem (by omega)]; rfl
  have hc := h3 i _ hv
  have hx' := hr i (by omega)
  rw [List.getD_eq_getElem?_getD (l := LL), hx] at hx'
  refine ⟨b, off, [vs.getD i undef], rfl, rfl, jY_ hc, fun j u hj => ?_, ⟨_, rfl, hx'.rdl⟩⟩
  cases j with
  | zero => simp at hj; subst hj; simpa [Rp.sz] using hc
  | succ j => simp at hj
def tR (x : RP) : eO_ := ⟨x.labels, x.children, x.lines⟩
theorem RdR.rdz {w : World} {v : Value} {x : RP} (h : RdR w v x) : ∃ u : List Value, v = .agg u.toArray ∧ Rp.rd zt w u (tR x) := by
 obtain ⟨v2, rfl, h2⟩ := h
 exact ⟨[.int .i64 x.labels, .int .i64 x.children, v2], rfl, v2, rfl, h2.rdl⟩
theorem qM_ {css : List (List Value)} {l : List Int} (hl : css.length = l.length) (h : ∀ (i : Nat) cs x, css[i]? = some cs → l[i]? = some x → cs = [.int .i64 x]) : css.flatten = l.map (Value.int .i64) := by
 induction css generalizing l with
 | nil => cases l with
  | nil => rfl
  | cons a l => simp at hl
 | cons c css ih => cases l with
  | nil => simp at hl
  | cons a l =>
   have h0 := h 0 c a rfl rfl
   subst h0
   rw [List.flatten_cons, ih (by simpa using hl) (fun i cs x h1 h2 => h (i + 1) cs x (by simpa using h1) (by simpa using h2))]
   rfl
theorem Ow.own_ints {B k : Nat} {o : Tg} {w : World} {v : Value} {l : List Int} (h : Ow B 3 k o w v l) : Own B w v l := by
 obtain ⟨css, h1, h2, h3, h4⟩ := h
 rw [qM_ h1 (fun i cs x a b => h4 i cs x a b)] at h2
 exact h2
theorem Of.own_ints {w0 w : World} {o' : Tg} {v : Value} {l : List Int} (h : Of 3 o' w v l) (ho : ∀ b, b < w0.heap.size → o' b = 1) : Own w0.heap.size w v l :=
 (h.fresh fun b hb => by rw [ho b hb]; decide).own_ints
def ot : Tg := fun _ => 1
theorem rL_ {css : List (List Value)} {vs : List Hv} (hl : css.length = vs.length) (h : ∀ (i : Nat) cs x, css[i]? = some cs → vs[i]? = some x → cs = [x.v] ∧ x.v.oneCell' = true) : css.flatten = vs.map Hv.v := by
 induction css generalizing vs with
 | nil => cases vs with
  | nil => rfl
  | cons a l => simp at hl
 | cons c css ih => cases vs with
  | nil => simp at hl
  | cons a l =>
   have h0 := (h 0 c a rfl rfl).1
   subst h0
   rw [List.flatten_cons, ih (by simpa using hl) (fun i cs x h1 h2 => h (i + 1) cs x (by simpa using h1) (by simpa using h2))]
   rfl
end

section
open Go.RowKit
structure PR where
  labels : Int
  degree : Int
  nodes : List (List Int)
  edges : List (List Int)
def RdP (w : World) (v : Value) (x : PR) : Prop := ∃ v2 v3, v = .agg #[.int .i64 x.labels, .int .i64 x.degree, v2, v3] ∧ IntRows w v2 x.nodes ∧ IntRows w v3 x.edges
def OwP (B C : Nat) (w : World) (v : Value) (x : PR) : Prop := ∃ v2 v3, v = .agg #[.int .i64 x.labels, .int .i64 x.degree, v2, v3] ∧ ∃ a b c d, B ≤ a ∧ b ≤ C ∧ B ≤ c ∧ d ≤ C ∧ (b ≤ c ∨ d ≤ a) ∧ OwM a b w v2 x.nodes ∧ OwM c d w v3 x.edges
def szP (x : PR) : Nat := tot x.nodes + tot x.edges
section
variable {B C B' C' : Nat} {w w' : World} {v : Value} {x : PR}
theorem RdP.keep (h : RdP w v x) (k : Keeps w w') : RdP w' v x := by obtain ⟨v2, v3, e, h2, h3⟩ := h; exact ⟨v2, v3, e, h2.keep k, h3.keep k⟩
theorem OwP.rd (h : OwP B C w v x) : RdP w v x := by obtain ⟨v2, v3, e, M0, M1, M2, M3, l0, l1, l2, l3, l4, h2, h3⟩ := h; exact ⟨v2, v3, e, h2.rows, h3.rows⟩
theorem OwP.keep (h : OwP B C w v x) (k : Keeps w w') : OwP B C w' v x := by obtain ⟨v2, v3, e, M0, M1, M2, M3, l0, l1, l2, l3, l4, h2, h3⟩ := h; exact ⟨v2, v3, e, M0, M1, M2, M3, l0, l1, l2, l3, l4, h2.keep k, h3.keep k⟩
theorem OwP.chg (h : OwP B C w v x) (c : Chg B' C' w w') (hd : C ≤ B' ∨ C' ≤ B) : OwP B C w' v x := by obtain ⟨v2, v3, e, M0, M1, M2, M3, l0, l1, l2, l3, l4, h2, h3⟩ := h; exact ⟨v2, v3, e, M0, M1, M2, M3, l0, l1, l2, l3, l4, h2.chg c (by omega), h3.chg c (by omega)⟩
theorem OwP.mono (h : OwP B C w v x) (hB : B' ≤ B) (hC : C ≤ C') : OwP B' C' w v x := by obtain ⟨v2, v3, e, M0, M1, M2, M3, l0, l1, l2, l3, l4, h2, h3⟩ := h; exact ⟨v2, v3, e, M0, M1, M2, M3, by omega, by omega, by omega, by omega, l4, h2, h3⟩
theorem RdP.shape (h : RdP w v x) : ∃ a2 c2 a3 c3, v = .agg #[.int .i64 x.labels, .int .i64 x.degree, .slice a2 x.nodes.length c2, .slice a3 x.edges.length c3] := by
 obtain ⟨v2, v3, rfl, h2, h3⟩ := h
 obtain ⟨a2, c2, rfl, _⟩ := h2.form
 obtain ⟨a3, c3, rfl, _⟩ := h3.form
 exact ⟨_, _, _, _, rfl⟩
end

set_option maxHeartbeats 800000 in
theorem gX_ (v : Value) (x : PR) (left : Int) (w : World) (h : RdP w v x) (h0 : 0 ≤ left) (h1 : left ≤ 1048576) :
  Calls Tryz.prog 9 #[v, .int .i64 left] w fun e w' => e = .returned (.int .i64 (szL left (szP x))) ∧ Keeps w w' := by
 obtain ⟨v2, v3, rfl, r2, r3⟩ := h
 have R2 := Lib.hid r2
 have R3 := Lib.hid r3
 obtain ⟨a2, c2, rfl, _⟩ := r2.form
 obtain ⟨a3, c3, rfl, _⟩ := r3.form
 have HX : Hid (szP x = tot x.nodes + tot x.edges) := rfl
 clear r2 r3
 generalize hs0 : tot x.nodes = s0 at HX
 have HS0 := Lib.hid hs0
 clear hs0
 generalize hs1 : tot x.edges = s1 at HX
 have HS1 := Lib.hid hs1
 clear hs1
 by_cases hb0 : (s0 : Int) ≤ left
 case neg =>
  have hb0' : left < (s0 : Int) := by omega
  go_enter Tryz.func9, Tryz.ntmps9
  go_wp2_with fail
  refine (eK_ _ x.nodes left _ (R2.out.keep (by repeat (first | exact Keeps.refl _ | with_reducible refine Keeps.alloc ?_ _))) (by omega) (by omega)).mono ?_
  rintro e w' ⟨rfl, rfl⟩
  rw [show tot x.nodes = s0 from HS0.out]
  rw [szL, if_neg (show ¬ (s0 : Int) ≤ left by omega)]
  go_wp2
  go_ret
  exact ⟨fw_ (by rw [HX.out, szL, if_neg (by omega)]), (by repeat (first | exact Keeps.refl _ | with_reducible refine Keeps.alloc ?_ _))⟩
 by_cases hb1 : (s0 : Int) + (s1 : Int) ≤ left
 case neg =>
  have hb1' : left < (s0 : Int) + (s1 : Int) := by omega
  have hn0 : ¬ left - (s0 : Int) < 0 := by omega
  go_enter Tryz.func9, Tryz.ntmps9
  go_wp2_with fail
  refine (eK_ _ x.nodes left _ (R2.out.keep (by repeat (first | exact Keeps.refl _ | with_reducible refine Keeps.alloc ?_ _))) (by omega) (by omega)).mono ?_
  rintro e w' ⟨rfl, rfl⟩
  rw [show tot x.nodes = s0 from HS0.out]
  rw [szL, if_pos (show (s0 : Int) ≤ left by omega)]
  go_wp2_with fail
  refine (eK_ _ x.edges (left - (s0 : Int)) _ (R3.out.keep (by repeat (first | exact Keeps.refl _ | with_reducible refine Keeps.alloc ?_ _))) (by omega) (by omega)).mono ?_
  rintro e w' ⟨rfl, rfl⟩
  rw [show tot x.edges = s1 from HS1.out]
  rw [szL, if_neg (show ¬ (s1 : Int) ≤ (left - (s0 : Int)) by omega)]
  go_wp2
  go_ret
  exact ⟨fw_ (by rw [HX.out, szL, if_neg (by omega)]), (by repeat (first | exact Keeps.refl _ | with_reducible refine Keeps.alloc ?_ _))⟩
 have hn0 : ¬ left - (s0 : Int) < 0 := by omega
 have hn1 : ¬ left - (s0 : Int) - (s1 : Int) < 0 := by omega
 go_enter Tryz.func9, Tryz.ntmps9
 go_wp2_with fail
 refine (eK_ _ x.nodes left _ (R2.out.keep (by repeat (first | exact Keeps.refl _ | with_reducible refine Keeps.alloc ?_ _))) (by omega) (by omega)).mono ?_
 rintro e w' ⟨rfl, rfl⟩
 rw [show tot x.nodes = s0 from HS0.out]
 rw [szL, if_pos (show (s0 : Int) ≤ left by omega)]
 go_wp2_with fail
 refine (eK_ _ x.edges (left - (s0 : Int)) _ (R3.out.keep (by repeat (first | exact Keeps.refl _ | with_reducible refine Keeps.alloc ?_ _))) (by omega) (by omega)).mono ?_
 rintro e w' ⟨rfl, rfl⟩
 rw [show tot x.edges = s1 from HS1.out]
 rw [szL, if_pos (show (s1 : Int) ≤ (left - (s0 : Int)) by omega)]
 go_wp2
 go_ret
 exact ⟨fw_ (by rw [HX.out, szL, if_pos (by omega)]; (try omega)), (by repeat (first | exact Keeps.refl _ | with_reducible refine Keeps.alloc ?_ _))⟩
set_option maxHeartbeats 800000 in
theorem ep_ (v : Value) (x : PR) (w : World) (h : RdP w v x) (hs : szP x ≤ 1048576) :
  Calls Tryz.prog 11 #[v] w fun e w' => ∃ r, e = .returned r ∧ OwP w.heap.size w'.heap.size w' r x ∧ Keeps w w' := by
 obtain ⟨v2, v3, rfl, r2, r3⟩ := h
 have R2 := Lib.hid r2
 have R3 := Lib.hid r3
 obtain ⟨a2, c2, rfl, _⟩ := r2.form
 obtain ⟨a3, c3, rfl, _⟩ := r3.form
 unfold szP at hs
 clear r2 r3
 go_enter Tryz.func11, Tryz.ntmps11
 go_wp2_with fail
 refine (iM_ _ x.nodes _ (R2.out.keep (by repeat (first | exact Keeps.refl _ | with_reducible refine Keeps.alloc ?_ _))) (by omega)).mono ?_
 rintro e W0 ⟨t0, rfl, hO, hK⟩
 have HO0 := Lib.hid (OwM.mono hO (show w.heap.size + 3 ≤ _ by simp [bI_]) (Nat.le_refl _))
 have HK0 : Hid (Keeps w W0) := Keeps.trans (by repeat (first | exact Keeps.refl _ | with_reducible refine Keeps.alloc ?_ _)) hK
 have hz0 : w.heap.size + 3 ≤ W0.heap.size := by have := hK.size; simp [bI_] at this; omega
 obtain ⟨hc0, hf0⟩ := bcell hK
 obtain ⟨ta0, tc0, rfl, _⟩ := hO.rows.form
 have e0 : W0.cell? ⟨w.heap.size + 1 + 1, 0, none⟩ = some (.int .i64 x.labels) := by rw [hc0 _ _ (by simp)]; simp [go_sem]
 have e1 : W0.cell? ⟨w.heap.size + 1 + 1, 1, none⟩ = some (.int .i64 x.degree) := by rw [hc0 _ _ (by simp)]; simp [go_sem]
 have e3 : W0.cell? ⟨w.heap.size + 1 + 1, 3, none⟩ = some (.slice none 0 0) := by rw [hc0 _ _ (by simp)]; simp [go_sem]
 have ef : ∀ o, W0.frozen? ⟨w.heap.size + 1 + 1, o, none⟩ = false := fun o => by rw [hf0 _ _ (by simp)]; simp [go_sem]
 clear hO hK
 go_wp2_with fail
 refine (iM_ _ x.edges _ (R3.out.keep (by repeat (first | exact HK0.out | with_reducible refine Below.setCell ?_ (by simp; omega) _))) (by omega)).mono ?_
 rintro e W1 ⟨t1, rfl, hO, hK⟩
 have HO1 := Lib.hid (OwM.mono hO (show W0.heap.size ≤ _ by simp [bI_]) (Nat.le_refl _))
 have HK1 : Hid (Keeps w W1) := Keeps.trans (by repeat (first | exact HK0.out | with_reducible refine Below.setCell ?_ (by simp; omega) _)) hK
 have HO0' := Lib.hid (OwM.keep (OwM.setC HO0.out (by omega) _ _) hK)
 clear HO0
 have HO0 := HO0'
 clear HO0'
 have hz1 : W0.heap.size ≤ W1.heap.size := by have := hK.size; simp [bI_] at this; omega
 obtain ⟨hc, hf⟩ := bcell hK
 have hlt : w.heap.size + 1 + 1 < (W0.setCell ⟨w.heap.size + 1 + 1, 2, none⟩ (.slice ta0 x.nodes.length tc0)).heap.size := by simp only [bI_]; omega
 have d2' : W0.cell? ⟨w.heap.size + 1 + 1, 2, none⟩ = some (.slice none 0 0) := by rw [hc0 _ _ (by simp)]; simp [go_sem]
 have d0 : W1.cell? ⟨w.heap.size + 1 + 1, 0, none⟩ = some (.int .i64 x.labels) := by rw [hc _ _ hlt, World.cell?_setCell_other _ _ _ _ (by intro h; injection h with h1 h2; cases h2), e0]
 have d1 : W1.cell? ⟨w.heap.size + 1 + 1, 1, none⟩ = some (.int .i64 x.degree) := by rw [hc _ _ hlt, World.cell?_setCell_other _ _ _ _ (by intro h; injection h with h1 h2; cases h2), e1]
 have d2 : W1.cell? ⟨w.heap.size + 1 + 1, 2, none⟩ = some (.slice ta0 x.nodes.length tc0) := by rw [hc _ _ hlt, World.cell?_setCell_same _ _ _ d2']
 have d3 : W1.cell? ⟨w.heap.size + 1 + 1, 3, none⟩ = some (.slice none 0 0) := by rw [hc _ _ hlt, World.cell?_setCell_other _ _ _ _ (by intro h; injection h with h1 h2; cases h2), e3]
 have df : ∀ o, W1.frozen? ⟨w.heap.size + 1 + 1, o, none⟩ = false := fun o => by rw [hf _ _ hlt, World.frozen?_setCell, ef]
 have hlt1 : w.heap.size + 1 < (W0.setCell ⟨w.heap.size + 1 + 1, 2, none⟩ (.slice ta0 x.nodes.length tc0)).heap.size := by simp only [bI_]; omega
 have b0 : W1.cell? ⟨w.heap.size + 1, 0, none⟩ = some (.int .i64 0) := by rw [hc _ _ hlt1, World.cell?_setCell_other _ _ _ _ (by intro h; injection h with h1 h2; omega), hc0 _ _ (by first | (simp; done) | (simp; omega))]; simp [go_sem]
 have b1 : W1.cell? ⟨w.heap.size + 1, 1, none⟩ = some (.int .i64 0) := by rw [hc _ _ hlt1, World.cell?_setCell_other _ _ _ _ (by intro h; injection h with h1 h2; omega), hc0 _ _ (by first | (simp; done) | (simp; omega))]; simp [go_sem]
 have b2 : W1.cell? ⟨w.heap.size + 1, 2, none⟩ = some (.slice none 0 0) := by rw [hc _ _ hlt1, World.cell?_setCell_other _ _ _ _ (by intro h; injection h with h1 h2; omega), hc0 _ _ (by first | (simp; done) | (simp; omega))]; simp [go_sem]
 have b3 : W1.cell? ⟨w.heap.size + 1, 3, none⟩ = some (.slice none 0 0) := by rw [hc _ _ hlt1, World.cell?_setCell_other _ _ _ _ (by intro h; injection h with h1 h2; omega), hc0 _ _ (by first | (simp; done) | (simp; omega))]; simp [go_sem]
 have bf : ∀ o, W1.frozen? ⟨w.heap.size + 1, o, none⟩ = false := fun o => by rw [hf _ _ hlt1, World.frozen?_setCell, hf0 _ _ (by first | (simp; done) | (simp; omega))]; simp [go_sem]
 clear hc hf hc0 hf0 e0 e1 e3 ef d2'
 obtain ⟨ta1, tc1, rfl, _⟩ := hO.rows.form
 clear hO hK
 go_wp2
 refine bodyPost_ret (v := .agg #[.int .i64 x.labels, .int .i64 x.degree, .slice ta0 x.nodes.length tc0, .slice ta1 x.edges.length tc1]) (by simp [results, Tryz.results11, go_sem, d0, d1, d2, d3, df, b0, b1, b2, b3, bf]) rfl ⟨_, rfl, ⟨_, _, rfl, w.heap.size + 3, W0.heap.size, W0.heap.size, W1.heap.size, by omega, by simp only [bI_]; omega, by omega, by simp only [bI_]; omega, .inl (Nat.le_refl _), ?_, ?_⟩, ?_⟩
 ·repeat (first | exact HO0.out | with_reducible refine OwM.setC ?_ (by omega) _ _)
 ·repeat (first | exact HO1.out | with_reducible refine OwM.setC ?_ (by omega) _ _)
 ·repeat (first | exact HK1.out | with_reducible refine Below.setCell ?_ (by simp; try omega) _)
set_option maxHeartbeats 800000 in
theorem jA_ (va vb : Value) (x : PR) (w : World) (ha : RdP w va x) (hb : RdP w vb x) :
  Calls Tryz.prog 13 #[va, vb] w fun e w' => e = .returned (.bool true) ∧ Keeps w w' := by
 obtain ⟨v2, v3, rfl, r2, r3⟩ := ha
 obtain ⟨u2, u3, rfl, s2, s3⟩ := hb
 have R2 := Lib.hid r2
 have R3 := Lib.hid r3
 have S2 := Lib.hid s2
 have S3 := Lib.hid s3
 obtain ⟨a2, c2, rfl, _⟩ := r2.form
 obtain ⟨a3, c3, rfl, _⟩ := r3.form
 obtain ⟨b2, d2, rfl, _⟩ := s2.form
 obtain ⟨b3, d3, rfl, _⟩ := s3.form
 have e0 : (x.labels != x.labels) = false := by simp
 have e1 : (x.degree != x.degree) = false := by simp
 clear r2 r3 s2 s3
 go_enter Tryz.func13, Tryz.ntmps13
 go_wp2_with fail
 refine (iA_ _ _ x.nodes x.nodes _ (R2.out.keep (by repeat (first | exact Keeps.refl _ | with_reducible refine Keeps.alloc ?_ _))) (S2.out.keep (by repeat (first | exact Keeps.refl _ | with_reducible refine Keeps.alloc ?_ _)))).mono ?_
 rintro e W0 ⟨rfl, hD⟩
 rw [decide_eq_true rfl]
 have HK0 : Hid (Keeps w W0) := Keeps.trans (by repeat (first | exact Keeps.refl _ | with_reducible refine Keeps.alloc ?_ _)) hD.keeps
 obtain ⟨hc0, hf0⟩ := bcell hD.keeps
 have hz0 := hD.keeps.size
 clear hD
 go_wp2_with fail
 refine (iA_ _ _ x.edges x.edges _ (R3.out.keep HK0.out) (S3.out.keep HK0.out)).mono ?_
 rintro e W1 ⟨rfl, hD⟩
 rw [decide_eq_true rfl]
 have HK1 : Hid (Keeps w W1) := Keeps.trans HK0.out hD.keeps
 obtain ⟨hc1, hf1⟩ := bcell hD.keeps
 have hz1 := hD.keeps.size
 clear hD
 go_wp2
 go_ret
 exact ⟨rfl, HK1.out⟩
def cntP (x : PR) : Nat := off x.nodes x.nodes.length + off x.edges x.edges.length
def numP (k : Int) (x : PR) : PR := ⟨x.labels, x.degree, numbered (k) x.nodes x.nodes.length, numbered (k + (off x.nodes x.nodes.length : Nat)) x.edges x.edges.length⟩
theorem rF_ (x : PR) : cntP x ≤ szP x := by unfold cntP szP tot; omega
set_option maxHeartbeats 800000 in
theorem iX_ (B C : Nat) (v : Value) (x : PR) (k : Int) (w : World) (h : OwP B C w v x) (hC : C ≤ w.heap.size) (hk : 0 ≤ k) (hk2 : k + szP x ≤ 4611686018427387904) :
  Calls Tryz.prog 17 #[v, .int .i64 k] w fun e w' => e = .returned (.int .i64 (k + cntP x)) ∧ OwP B C w' v (numP k x) ∧ Chg B C w w' := by
 obtain ⟨v2, v3, rfl, M0, M1, M2, M3, l0, l1, l2, l3, l4, o2, o3⟩ := h
 have HX : Hid (cntP x = off x.nodes x.nodes.length + off x.edges x.edges.length) := rfl
 unfold szP tot at hk2
 have O2 := Lib.hid o2
 obtain ⟨a2, c2, rfl, _⟩ := o2.rows.form
 clear o2
 have O3 := Lib.hid o3
 obtain ⟨a3, c3, rfl, _⟩ := o3.rows.form
 clear o3
 go_enter Tryz.func17, Tryz.ntmps17
 go_wp2_with fail
 refine (eo_ M0 M1 _ x.nodes (k) _ (O2.out.keep (by repeat (first | exact Keeps.refl _ | with_reducible refine Keeps.alloc ?_ _))) (by omega) (by unfold tot; omega)).mono ?_
 rintro e W0 ⟨rfl, hO, hG⟩
 have N2 := Lib.hid hO
 have G0 : Hid (Chg B C w W0) := (Keeps.chg (by repeat (first | exact Keeps.refl _ | with_reducible refine Keeps.alloc ?_ _)) B C).trans (hG.mono (by omega) (by omega))
 have O3' := Lib.hid ((O3.out.keep (by repeat (first | exact Keeps.refl _ | with_reducible refine Keeps.alloc ?_ _))).chg hG (by omega))
 clear O3
 have O3 := O3'
 clear O3'
 have hsz0 := hG.size
 have hcc : ∀ i, W0.cell? ⟨w.heap.size, i, none⟩ = (w.alloc (.cells #[.int .i64 x.labels, .int .i64 x.degree, .slice a2 x.nodes.length c2, .slice a3 x.edges.length c3] 28)).cell? ⟨w.heap.size, i, none⟩ := fun i => World.cell?_of_block (hG.block w.heap.size (by simp) (by omega))
 clear hO hG
 go_wp2_with fail
 refine (eo_ M2 M3 _ x.edges (k + (off x.nodes x.nodes.length : Nat)) _ (O3.out) (by omega) (by unfold tot; omega)).mono ?_
 rintro e W1 ⟨rfl, hO, hG⟩
 have N3 := Lib.hid hO
 have G1 : Hid (Chg B C w W1) := G0.out.trans (hG.mono (by omega) (by omega))
 have N2' := Lib.hid (N2.out.chg hG (by omega))
 clear N2
 have N2 := N2'
 clear N2'
 have hsz1 := hG.size
 have hcc1 : ∀ i, W1.cell? ⟨w.heap.size, i, none⟩ = W0.cell? ⟨w.heap.size, i, none⟩ := fun i => World.cell?_of_block (hG.block w.heap.size (by simp at hsz0; omega) (by omega))
 clear hO hG
 go_wp2
 go_ret
 exact ⟨fw_ (by rw [HX.out]; (try omega)), ⟨_, _, rfl, M0, M1, M2, M3, l0, l1, l2, l3, l4, N2.out, N3.out⟩, G1.out⟩
end

section
open Go.RowKit
def tP (x : PR) : a_ := ⟨x.labels, x.degree, x.nodes, x.edges⟩
theorem RdP.rdz {w : World} {v : Value} {x : PR} (h : RdP w v x) : ∃ u : List Value, v = .agg u.toArray ∧ Rp.rd zt w u (tP x) := by
 obtain ⟨v2, v3, rfl, h2, h3⟩ := h
 exact ⟨[.int .i64 x.labels, .int .i64 x.degree, v2, v3], rfl, v2, v3, rfl, h2.rdl, h3.rdl⟩
def okP (x : PR) : Prop := I64 x.labels ∧ I64 x.degree ∧ (∀ r ∈ x.nodes, ∀ n ∈ r, I64 n) ∧ ∀ r ∈ x.edges, ∀ n ∈ r, I64 n
theorem qt_ {x : PR} (h : szP x ≤ 1048576) : x.nodes.length ≤ 1048576 ∧ x.edges.length ≤ 1048576 := by
 unfold szP tot at h
 omega
end

section
open Go.RowKit
theorem Dw.owM {lo hi : Nat} {o : Tg} {w : World} {v : Value} {LL : List (List Int)} (h : Dw lo hi 41 3 o w v LL) : OwM lo hi w v LL := by
 obtain ⟨vs, h1, h2, a1, a2⟩ := h
 obtain ⟨css, c1, c2, c3, c4⟩ := h1
 rw [rL_ c1 (fun i cs x a b => c4 i cs x a b)] at c2
 have hl := h2.1
 have at_ : ∀ i, i < LL.length → ∃ u, vs[i]? = some u ∧ (vs.map Hv.v).getD i undef = u.v := fun i hi => by
  have hv : vs[i]? = some vs[i] := List.getElem?_eq_getElem (by omega)
  exact ⟨_, hv, by rw [List.getD_eq_getElem?_getD, List.getElem?_map, hv]; rfl⟩
 refine ⟨vs.map Hv.v, ⟨by rw [← hl]; exact c2, fun i hi => ?_, fun i j hi hj hne => ?_⟩, a1, fun i hi k hk => ?_⟩
 ·obtain ⟨u, hu, e⟩ := at_ i hi
  have hx : LL[i]? = some LL[i] := List.getElem?_eq_getElem hi
  rw [e, List.getD_eq_getElem?_getD, hx]
  exact (h2.2.1 i u LL[i] hu hx).own_ints
 ·obtain ⟨u, hu, e⟩ := at_ i hi
  obtain ⟨u', hu', e'⟩ := at_ j hj
  rw [e, e']
  unfold Apart
  cases hb : u.v.ownBlock with
  | none => exact .inl rfl
  | some g => exact .inr fun he => hne (h2.2.2 i j u u' g hu hu' hb he.symm)
 ·obtain ⟨u, hu, e⟩ := at_ i hi
  rw [e] at hk
  exact a2 i u k hu hk
def prOf (p : a_) : PR := ⟨p.Labels, p.Degree, p.Nodes, p.Edges⟩
theorem Pc.owP {lo hi : Nat} {o : Tg} {w : World} {cs : List Value} {p : a_} (h : Pc lo hi o w cs p) : cs.length = 4 ∧ OwP lo hi w (.agg cs.toArray) (prOf p) := by
 obtain ⟨vN, vE, rfl, a, b, c, d, q1, q2, q3, q4, q5, h1, h2⟩ := h
 exact ⟨rfl, vN, vE, rfl, a, b, c, d, q1, q2, q3, q4, q5, h1.owM, h2.owM⟩
theorem OwP.cells {lo hi : Nat} {w : World} {cs : List Value} {p : a_} (h : OwP lo hi w (.agg cs.toArray) (prOf p)) : ∃ v2 v3, cs = [.int .i64 p.Labels, .int .i64 p.Degree, v2, v3] ∧ IntRows w v2 p.Nodes ∧ IntRows w v3 p.Edges := by
 obtain ⟨v2, v3, e, h2, h3⟩ := h.rd
 refine ⟨v2, v3, ?_, h2, h3⟩
 have := congrArg (fun v : Value => match v with | .agg a => a.toList | _ => []) e
 simpa [prOf] using this
def OwQ (B C : Nat) (w : World) (v : Value) (ps : List a_) : Prop :=
  ∃ (css : List (List Value)) (lo hi : Nat → Nat), css.length = ps.length ∧ w.ownsRow B 28 4 v ps.length css.flatten ∧ (∀ k, v.ownBlock = some k → k < C) ∧
    (∀ (i : Nat) cs p, css[i]? = some cs → ps[i]? = some p → cs.length = 4 ∧ OwP (lo i) (hi i) w (.agg cs.toArray) (prOf p)) ∧ (∀ i, i < ps.length → B ≤ lo i ∧ hi i ≤ C) ∧
    (∀ i j, i < j → j < ps.length → hi i ≤ lo j) ∧ ∀ i g, i < ps.length → v.ownBlock = some g → ¬ (lo i ≤ g ∧ g < hi i)
theorem OwQ.nil (B C : Nat) (w : World) : OwQ B C w (.slice none 0 0) [] :=
 ⟨[], fun _ => 0, fun _ => 0, rfl, World.ownsRow_nil w B _ _, fun k hk => by simp [Value.ownBlock] at hk, fun i cs p h => by simp at h, fun i h => by simp at h, fun i j _ h => by simp at h, fun i g h => by simp at h⟩
theorem Prs.owQ {B k : Nat} {o : Tg} {w : World} {gs : List Qv} {ps : List a_} {v : Value} (h : Prs B k o w gs ps) (hs : Ow B 28 k o w v gs) : OwQ B w.heap.size w v ps := by
 obtain ⟨css, c1, c2, c3, c4⟩ := hs
 obtain ⟨h0, lo, hi, h1, h2, h3, h4⟩ := h
 refine ⟨css, lo, hi, c1.trans h0, by rw [← h0]; exact c2, fun k hk => (World.ownsRow.lt c2 k hk).2, fun i cs p a b => ?_, h2, h3, fun i g hi' hg hh => h4 i g hi' hh.1 hh.2 (c3 g hg)⟩
 have hi' : i < gs.length := by have := (List.getElem?_eq_some_iff.1 b).1; omega
 have hg : gs[i]? = some gs[i] := List.getElem?_eq_getElem hi'
 have := (c4 i cs gs[i] a hg).1
 rw [this]
 exact (h1 i gs[i] p hg b).owP
section
variable {B C B' C' : Nat} {w w' : World} {v : Value} {ps : List a_}
theorem OwQ.keep (h : OwQ B C w v ps) (k : Keeps w w') : OwQ B C w' v ps := by
 obtain ⟨css, lo, hi, h0, h1, h2, h3, h4, h5, h6⟩ := h
 exact ⟨css, lo, hi, h0, gZ_ h1 k, h2, fun i cs p a b => ⟨(h3 i cs p a b).1, (h3 i cs p a b).2.keep k⟩, h4, h5, h6⟩
theorem OwQ.chg (h : OwQ B C w v ps) (c : Chg B' C' w w') (hd : C ≤ B' ∨ C' ≤ B) : OwQ B C w' v ps := by
 obtain ⟨css, lo, hi, h0, h1, h2, h3, h4, h5, h6⟩ := h
 refine ⟨css, lo, hi, h0, hc_ h1 c fun k hk => ?_, h2, fun i cs p a b => ⟨(h3 i cs p a b).1, (h3 i cs p a b).2.chg c ?_⟩, h4, h5, h6⟩
 ·have := h2 k hk
  have := (World.ownsRow.lt h1 k hk).1
  omega
 ·have := h4 i (List.getElem?_eq_some_iff.1 b).1
  omega
theorem OwQ.ow (h : OwQ B C w v ps) : Ow B 28 0 zt w v ps := by
 obtain ⟨css, lo, hi, h0, h1, h2, h3, h4, h5, h6⟩ := h
 refine ⟨css, h0, h1, fun g _ => rfl, fun i cs p a b => ?_⟩
 obtain ⟨v2, v3, e, r2, r3⟩ := (h3 i cs p a b).2.cells
 exact ⟨v2, v3, e, r2.rdl, r3.rdl⟩
theorem OwQ.rd (h : OwQ B C w v ps) : RdL zt w v ps := h.ow.z
end
def nP (k : Int) (p : a_) : a_ := ⟨k, k + 1, numbered (k + 1 + 1) p.Nodes p.Nodes.length, numbered (k + 1 + 1 + (off p.Nodes p.Nodes.length : Nat)) p.Edges p.Edges.length⟩
def cQ (p : a_) : Nat := 2 + (off p.Nodes p.Nodes.length + off p.Edges p.Edges.length)
def offQ (ps : List a_) (i : Nat) : Nat := ((ps.take i).map cQ).sum
theorem la_ (ps : List a_) (i : Nat) (p : a_) (h : ps[i]? = some p) : offQ ps (i + 1) = offQ ps i + cQ p := by
 unfold offQ
 rw [List.take_add_one, h]
 simp
def szT (p : a_) : Nat := 2 + (tot p.Nodes + tot p.Edges)
theorem rG_ (p : a_) : cQ p ≤ szT p := by unfold cQ szT tot; omega
def szQ (ps : List a_) : Nat := ps.length + (ps.map szT).sum
theorem rP_ {ps : List a_} {p : a_} (h : p ∈ ps) : szT p ≤ szQ ps := by
 unfold szQ
 induction ps with
 | nil => cases h
 | cons q ps ih =>
  simp only [List.map_cons, List.sum_cons, List.length_cons]
  rcases List.mem_cons.1 h with h | h
  ·subst h; omega
  ·have := ih h; omega
theorem pP_ (ps : List a_) (i : Nat) : offQ ps i ≤ szQ ps := by
 unfold offQ szQ
 induction ps generalizing i with
 | nil => simp
 | cons q ps ih =>
  cases i with
  | zero => simp
  | succ i =>
   simp only [List.take_succ_cons, List.map_cons, List.sum_cons, List.length_cons]
   have := ih i
   have : cQ q ≤ szT q := rG_ _
   omega
theorem pE_ (ps : List a_) (i : Nat) (p : a_) (h : ps[i]? = some p) : offQ ps i + szT p ≤ szQ ps := by
 unfold offQ szQ
 induction ps generalizing i with
 | nil => simp at h
 | cons q ps ih =>
  cases i with
  | zero =>
   simp at h
   subst h
   simp only [List.take_zero, List.map_nil, List.sum_nil, List.map_cons, List.sum_cons, List.length_cons]
   omega
  | succ i =>
   simp only [List.take_succ_cons, List.map_cons, List.sum_cons, List.length_cons]
   have := ih i (by simpa using h)
   have : cQ q ≤ szT q := rG_ _
   omega
theorem Chg.set {w : World} {g i : Nat} {u : Value} : Chg g (g + 1) w (w.setCell ⟨g, i, none⟩ u) :=
 ⟨rfl, rfl, rfl, by simp, fun k _ hk => heap_setCell_other w ⟨g, i, none⟩ k u (fun e => hk (by simp at e; omega))⟩
def numU (k : Int) (ps : List a_) (j : Nat) : List a_ := (List.range ps.length).map fun i => if i < j then nP (k + offQ ps i) (ps.getD i ⟨0, 0, [], []⟩) else ps.getD i ⟨0, 0, [], []⟩
theorem ez_ (k : Int) (ps : List a_) (j : Nat) : (numU k ps j).length = ps.length := by simp [numU]
theorem qd_ (k : Int) (ps : List a_) : numU k ps 0 = ps := by
 apply List.ext_getElem
 ·simp [numU]
 ·intro i h1 h2
  simp [numU, h2]
theorem ik_ (k : Int) (ps : List a_) (j i : Nat) (p : a_) (h : ps[i]? = some p) : (numU k ps j)[i]? = some (if i < j then nP (k + offQ ps i) p else p) := by
 have hi := (List.getElem?_eq_some_iff.1 h).1
 unfold numU
 rw [List.getElem?_map, List.getElem?_range hi]
 simp only [Option.map_some, List.getD_eq_getElem?_getD, h, Option.getD_some]
theorem pS_ (k : Int) (ps : List a_) (j : Nat) (p : a_) (h : ps[j]? = some p) : numU k ps (j + 1) = (numU k ps j).set j (nP (k + offQ ps j) p) := by
 have hj := (List.getElem?_eq_some_iff.1 h).1
 apply List.ext_getElem?
 intro i
 rw [List.getElem?_set]
 by_cases hi : i < ps.length
 ·have hp : ps[i]? = some ps[i] := List.getElem?_eq_getElem hi
  rw [ik_ k ps (j + 1) i _ hp]
  by_cases e : j = i
  ·subst e
   rw [if_pos (Nat.lt_succ_self j), if_pos rfl, if_pos (by rw [ez_]; exact hi)]
   rw [h] at hp
   cases hp
   rfl
  ·rw [if_neg e, ik_ k ps j i _ hp]
   by_cases h3 : i < j
   ·rw [if_pos h3, if_pos (by omega)]
   ·rw [if_neg h3, if_neg (by omega)]
 ·rw [List.getElem?_eq_none (by rw [ez_]; omega), if_neg (by omega), List.getElem?_eq_none (by rw [ez_]; omega)]
theorem lQ_ (css : List (List Value)) (hl : ∀ cs ∈ css, cs.length = 4) {j : Nat} {cs : List Value} (hj : css[j]? = some cs) (i : Nat) (hi : i < 4) (u : Value) : css.flatten.set (j * 4 + i) u = (css.set j (cs.set i u)).flatten := by
 induction css generalizing j with
 | nil => simp at hj
 | cons c css ih =>
  have hc := hl c (by simp)
  cases j with
  | zero =>
   simp at hj; subst hj
   rw [List.flatten_cons, Nat.zero_mul, Nat.zero_add, List.set_append_left _ _ (by omega), List.set_cons_zero, List.flatten_cons]
  | succ j =>
   simp at hj
   rw [List.flatten_cons, List.set_append_right _ _ (by rw [Nat.succ_mul]; omega), List.set_cons_succ, List.flatten_cons, show (j + 1) * 4 + i - c.length = j * 4 + i by rw [Nat.succ_mul]; omega]
   rw [ih (fun x hx => hl x (by simp [hx])) hj]
theorem OwQ.elem {B C : Nat} {w : World} {a0 : Option Addr} {n c0 : Nat} {ps : List a_} (h : OwQ B C w (.slice a0 n c0) ps) {j : Nat} {p : a_} (hp : ps[j]? = some p) :
  ∃ g lo hi a b c d v2 v3, a0 = some ⟨g, 0, none⟩ ∧ n = ps.length ∧ Cells w g (j * 4) [.int .i64 p.Labels, .int .i64 p.Degree, v2, v3] ∧ (∀ i, w.frozen? ⟨g, i, none⟩ = false) ∧ g < w.heap.size ∧ B ≤ g ∧ g < C ∧ B ≤ lo ∧ hi ≤ C ∧ lo ≤ a ∧ b ≤ hi ∧ lo ≤ c ∧ d ≤ hi ∧ (b ≤ c ∨ d ≤ a) ∧ ¬ (lo ≤ g ∧ g < hi) ∧ OwM a b w v2 p.Nodes ∧ OwM c d w v3 p.Edges ∧
   ∀ L D N E w', Chg lo hi ((w.setCell ⟨g, j * 4, none⟩ (.int .i64 L)).setCell ⟨g, j * 4 + 1, none⟩ (.int .i64 D)) w' → OwM a b w' v2 N → OwM c d w' v3 E → OwQ B C w' (.slice a0 n c0) (ps.set j ⟨L, D, N, E⟩) ∧ Chg B C w w' := by
 obtain ⟨g0, cs0, rfl, rfl, hc0, -⟩ := h.ow.at hp
 obtain ⟨css, lo, hi, h0, h1, h2, h3, h4, h5, h6⟩ := h
 have hj := (List.getElem?_eq_some_iff.1 hp).1
 have hcs : css[j]? = some (css[j]'(by omega)) := List.getElem?_eq_getElem (by omega)
 obtain ⟨hl4, hP⟩ := h3 j _ p hcs hp
 obtain ⟨v2, v3, e, -, -⟩ := hP.cells
 have hlens : ∀ cs ∈ css, cs.length = 4 := fun cs hm => by
  obtain ⟨i, hi'⟩ := List.mem_iff_getElem?.1 hm
  have hlt := (List.getElem?_eq_some_iff.1 hi').1
  exact (h3 i cs _ hi' (List.getElem?_eq_getElem (by omega))).1
 rw [e] at hP hcs
 obtain ⟨v2', v3', e', a, b, c, d, q1, q2, q3, q4, q5, hN, hE⟩ := hP
 obtain ⟨rfl, rfl⟩ : v2 = v2' ∧ v3 = v3' := by simpa [prOf] using e'
 have hg := World.ownsRow.lt h1 g0 rfl
 refine ⟨g0, lo j, hi j, a, b, c, d, v2, v3, rfl, rfl, fun i u hu => ?_, fun i => World.ownsRow.frozenAt h1 i, hg.2, hg.1, h2 g0 rfl, (h4 j hj).1, (h4 j hj).2, q1, q2, q3, q4, q5, h6 j g0 hj rfl, hN, hE, fun L D N E w' hC hN' hE' => ?_⟩
 ·have hi4 : i < 4 := by have := (List.getElem?_eq_some_iff.1 hu).1; simpa using this
  have e2 := jd_ css 4 hlens hcs i hi4
  rw [hu] at e2
  have := World.ownsRow.cellAt h1 (j * 4 + i) (show j * 4 + i < ps.length * 4 by omega)
  rw [e2] at this
  exact this
 ·obtain ⟨s1, s2⟩ := World.ownsRow.stored h1 (j * 4) (.int .i64 L)
  obtain ⟨s3, s4⟩ := World.ownsRow.stored s1 (j * 4 + 1) (.int .i64 D)
  have f1 := lQ_ css hlens hcs 0 (by decide) (.int .i64 L)
  rw [Nat.add_zero] at f1
  rw [f1] at s3
  have hlens2 : ∀ cs ∈ css.set j ([Value.int .i64 p.Labels, .int .i64 p.Degree, v2, v3].set 0 (.int .i64 L)), cs.length = 4 := fun cs hm => by
   rcases List.mem_or_eq_of_mem_set hm with hm | rfl
   ·exact hlens cs hm
   ·rfl
  have f2 := lQ_ (css.set j ([Value.int .i64 p.Labels, .int .i64 p.Degree, v2, v3].set 0 (.int .i64 L))) hlens2 (j := j) (cs := [Value.int .i64 L, .int .i64 p.Degree, v2, v3]) (by rw [List.getElem?_set, if_pos rfl, if_pos (by omega)]; rfl) 1 (by decide) (.int .i64 D)
  rw [f2, List.set_set] at s3
  have ch1 : Chg g0 (g0 + 1) w (w.setCell ⟨g0, j * 4, none⟩ (.int .i64 L)) := Chg.of_grown s2 fun k hk => by cases hk; omega
  have ch2 : Chg g0 (g0 + 1) (w.setCell ⟨g0, j * 4, none⟩ (.int .i64 L)) ((w.setCell ⟨g0, j * 4, none⟩ (.int .i64 L)).setCell ⟨g0, j * 4 + 1, none⟩ (.int .i64 D)) := Chg.of_grown s4 fun k hk => by cases hk; omega
  have ch := ch1.trans ch2
  have hgC := h2 g0 rfl
  refine ⟨⟨_, lo, hi, (List.length_set ..).trans (h0.trans (List.length_set ..).symm), by rw [List.length_set]; exact hc_ s3 hC fun k hk hh => h6 j k hj hk hh, h2, fun i cs q p1 p2 => ?_, fun i hi' => h4 i (by simpa using hi'), fun i i' hii hi' => h5 i i' hii (by simpa using hi'), fun i g hi' => h6 i g (by simpa using hi')⟩, (ch.mono (by omega) (by omega)).trans (hC.mono (h4 j hj).1 (h4 j hj).2)⟩
  rw [List.getElem?_set] at p1 p2
  by_cases ej : j = i
  ·subst ej
   rw [if_pos rfl, if_pos hj] at p2
   rw [if_pos rfl, if_pos (by omega)] at p1
   cases p1; cases p2
   exact ⟨rfl, v2, v3, rfl, a, b, c, d, q1, q2, q3, q4, q5, hN', hE'⟩
  ·rw [if_neg ej] at p1 p2
   have hi' := (List.getElem?_eq_some_iff.1 p2).1
   have hgi := h6 i g0 hi' rfl
   refine ⟨(h3 i cs q p1 p2).1, ((h3 i cs q p1 p2).2.chg ch (by omega)).chg hC ?_⟩
   by_cases hlt : i < j
   ·have := h5 i j hlt hj; omega
   ·have := h5 j i (by omega) hi'; omega
end

end Go.Proofs.YtdbbeldgdgonfaaGreat
