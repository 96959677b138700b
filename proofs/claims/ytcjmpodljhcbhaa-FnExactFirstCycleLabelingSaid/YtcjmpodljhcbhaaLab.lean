/- The contracts of both IsPathLabeling and both IsCycleLabeling functions. -/
import Derived.Test.YtcjmpodljhcbhaaWk
namespace Go.Proofs.Ytcjmpodljhcbhaa
open Go.RowKit
set_option linter.unusedSimpArgs false
set_option linter.unusedVariables false

def fIsPathLabelingSpec (x : WP) (l : List Int) : Bool × Bool := if walkGood x && labsOk x l then (walkOk x.arcs l, true) else (false, false)
def fIsPathLabelingImpl (x : WP) (l : List Int) : Bool × Bool := if walkGood x && labsOk x l then (walkOk x.arcs l, true) else (false, false)
theorem IsPathLabeling_eq (x : WP) (l : List Int) (ok : okW x) (hs : szW x ≤ 1048576) (il : ∀ n ∈ l, I64 n) (hls : l.length ≤ 1048576) : fIsPathLabelingImpl x l = fIsPathLabelingSpec x l := rfl

set_option maxRecDepth 100000 in
set_option maxHeartbeats 4000000 in
theorem specIsPathLabeling_any (v : Value) (x : WP) (lv : Value) (l : List Int) (w : World) (h : RdW w v x) (ok : okW x) (hs : szW x ≤ 1048576) (hl : Ints w lv l) (il : ∀ n ∈ l, I64 n) (hls : l.length ≤ 1048576) :
    Calls Try.prog 29 #[v, lv] w fun e w' => e = .returned (.tuple #[.bool (fIsPathLabelingSpec x l).1, .bool (fIsPathLabelingSpec x l).2]) ∧ Keeps w w' := by
  obtain ⟨v1, rfl, r1⟩ := h
  have R1 := Lib.hid r1
  obtain ⟨a1, c1, rfl, m1, _⟩ := r1.form
  clear r1 ok
  have HL := Lib.hid hl
  obtain ⟨la, lc, rfl, lm, hlf⟩ := hl.form
  have HLF := Lib.hid hlf
  have HF : Hid (fIsPathLabelingSpec x l = if walkGood x && labsOk x l then (walkOk x.arcs l, true) else (false, false)) := rfl
  clear hl il hs hlf
  have K0 : Hid (Keeps w (w.alloc (.cells #[.int .i64 x.labels, .slice a1 x.arcs.length c1] 27))) := (Keeps.refl _).alloc _
  have C0 : Hid ((w.alloc (.cells #[.int .i64 x.labels, .slice a1 x.arcs.length c1] 27)).cell? ⟨w.heap.size, 0, none⟩ = some (.int .i64 x.labels)) := by show _ = _; rw [World.cell?_alloc_at _ _ _ _ rfl]; rfl
  have C1 : Hid ((w.alloc (.cells #[.int .i64 x.labels, .slice a1 x.arcs.length c1] 27)).cell? ⟨w.heap.size, 1, none⟩ = some (.slice a1 x.arcs.length c1)) := by show _ = _; rw [World.cell?_alloc_at _ _ _ _ rfl]; rfl
  cases hg : walkGood x && labsOk x l
  · have HG := Lib.hid hg
    clear hg
    go_enter Try.func29, Try.ntmps29
    go_wp2_with fail
    refine (waList_any _ x _ l _ ⟨_, rfl, R1.out.keep K0.out⟩ (HL.out.keep K0.out)).mono ?_
    rintro e w1 ⟨rfl, hk⟩
    rw [HG.out]
    have HK1 := Lib.hid (Keeps.trans K0.out hk)
    have D0 := cell_keep hk C0.out
    have D1 := cell_keep hk C1.out
    clear hk
    go_wp2
    go_ret2
    exact ⟨by rw [HF.out, HG.out]; rfl, HK1.out⟩
  have HG := Lib.hid hg
  simp only [Bool.and_eq_true] at hg
  have HG1 := Lib.hid hg.1
  have HG2 := Lib.hid hg.2
  clear hg
  go_enter Try.func29, Try.ntmps29
  go_wp2_with fail
  refine (waList_any _ x _ l _ ⟨_, rfl, R1.out.keep K0.out⟩ (HL.out.keep K0.out)).mono ?_
  rintro e w1 ⟨rfl, hk⟩
  rw [HG.out]
  have HK1 := Lib.hid (Keeps.trans K0.out hk)
  have D0 := cell_keep hk C0.out
  have D1 := cell_keep hk C1.out
  clear hk
  have HIN : Hid (allIn l 0 (x.labels - 1) = true) := by show _ = _; have := HG2.out; simp only [labsOk, Bool.and_eq_true] at this; exact this.2
  go_wp2_with fail
  refine (waWalk_any _ x _ l _ ⟨_, rfl, R1.out.keep HK1.out⟩ (HL.out.keep HK1.out) (WIn.of HG1.out) HIN.out).mono ?_
  rintro e w9 ⟨rfl, hk⟩
  have HK9 := Lib.hid (Keeps.trans HK1.out hk)
  clear hk
  go_wp2
  go_ret2
  exact ⟨by rw [HF.out, HG.out]; rfl, HK9.out⟩

set_option maxRecDepth 100000 in
set_option maxHeartbeats 4000000 in
theorem implIsPathLabeling_any (v : Value) (x : WP) (lv : Value) (l : List Int) (w : World) (h : RdW w v x) (ok : okW x) (hs : szW x ≤ 1048576) (hl : Ints w lv l) (il : ∀ n ∈ l, I64 n) (hls : l.length ≤ 1048576) :
    Calls Try.prog 31 #[v, lv] w fun e w' => e = .returned (.tuple #[.bool (fIsPathLabelingImpl x l).1, .bool (fIsPathLabelingImpl x l).2]) ∧ Keeps w w' := by
  obtain ⟨v1, rfl, r1⟩ := h
  have R1 := Lib.hid r1
  obtain ⟨a1, c1, rfl, m1, _⟩ := r1.form
  clear r1 ok
  have HL := Lib.hid hl
  obtain ⟨la, lc, rfl, lm, hlf⟩ := hl.form
  have HLF := Lib.hid hlf
  have HF : Hid (fIsPathLabelingImpl x l = if walkGood x && labsOk x l then (walkOk x.arcs l, true) else (false, false)) := rfl
  clear hl il hs hlf
  have K0 : Hid (Keeps w (w.alloc (.cells #[.int .i64 x.labels, .slice a1 x.arcs.length c1] 27))) := (Keeps.refl _).alloc _
  have C0 : Hid ((w.alloc (.cells #[.int .i64 x.labels, .slice a1 x.arcs.length c1] 27)).cell? ⟨w.heap.size, 0, none⟩ = some (.int .i64 x.labels)) := by show _ = _; rw [World.cell?_alloc_at _ _ _ _ rfl]; rfl
  have C1 : Hid ((w.alloc (.cells #[.int .i64 x.labels, .slice a1 x.arcs.length c1] 27)).cell? ⟨w.heap.size, 1, none⟩ = some (.slice a1 x.arcs.length c1)) := by show _ = _; rw [World.cell?_alloc_at _ _ _ _ rfl]; rfl
  cases hg : walkGood x
  · have HG := Lib.hid hg
    clear hg
    go_enter Try.func31, Try.ntmps31
    go_wp2_with fail
    refine (isWalkI_any _ x _ ⟨_, rfl, R1.out.keep K0.out⟩).mono ?_
    rintro e w1 ⟨rfl, hk⟩
    rw [HG.out]
    have HK1 := Lib.hid (Keeps.trans K0.out hk)
    have D0 := cell_keep hk C0.out
    have D1 := cell_keep hk C1.out
    clear hk
    go_wp2
    go_ret2
    exact ⟨by rw [HF.out, HG.out]; rfl, HK1.out⟩
  have HG1 := Lib.hid hg
  obtain ⟨b1, b2, _⟩ := walkGood_arc hg
  clear hg
  cases hg : labsOk x l
  · have HG := Lib.hid hg
    clear hg
    go_enter Try.func31, Try.ntmps31
    go_wp2_with fail
    refine (isWalkI_any _ x _ ⟨_, rfl, R1.out.keep K0.out⟩).mono ?_
    rintro e w1 ⟨rfl, hk⟩
    rw [HG1.out]
    have HK1 := Lib.hid (Keeps.trans K0.out hk)
    have D0 := cell_keep hk C0.out
    have D1 := cell_keep hk C1.out
    clear hk
    go_wp2_with fail
    refine (areWalkLabels_any _ x _ l _ ⟨_, rfl, R1.out.keep HK1.out⟩ (HL.out.keep HK1.out) b1 b2).mono ?_
    rintro e w2 ⟨rfl, hk⟩
    rw [HG.out]
    have HK2 := Lib.hid (Keeps.trans HK1.out hk)
    clear hk
    go_wp2
    go_ret2
    exact ⟨by rw [HF.out, HG1.out, HG.out]; rfl, HK2.out⟩
  have HG2 := Lib.hid hg
  have HG : Hid ((walkGood x && labsOk x l) = true) := by show _ = _; rw [HG1.out, hg]; rfl
  clear hg
  go_enter Try.func31, Try.ntmps31
  go_wp2_with fail
  refine (isWalkI_any _ x _ ⟨_, rfl, R1.out.keep K0.out⟩).mono ?_
  rintro e w0 ⟨rfl, hk⟩
  rw [HG1.out]
  have HK0 := Lib.hid (Keeps.trans K0.out hk)
  have B0 := cell_keep hk C0.out
  have B1 := cell_keep hk C1.out
  clear hk
  go_wp2_with fail
  refine (areWalkLabels_any _ x _ l _ ⟨_, rfl, R1.out.keep HK0.out⟩ (HL.out.keep HK0.out) b1 b2).mono ?_
  rintro e w1 ⟨rfl, hk⟩
  rw [HG2.out]
  have HK1 := Lib.hid (Keeps.trans HK0.out hk)
  have D0 := cell_keep hk B0
  have D1 := cell_keep hk B1
  clear hk
  have HIN : Hid (allIn l 0 (x.labels - 1) = true) := by show _ = _; have := HG2.out; simp only [labsOk, Bool.and_eq_true] at this; exact this.2
  go_wp2_with fail
  refine (isWalkM_any _ x _ l _ ⟨_, rfl, R1.out.keep HK1.out⟩ (HL.out.keep HK1.out) HG1.out HIN.out).mono ?_
  rintro e w9 ⟨rfl, hk⟩
  have HK9 := Lib.hid (Keeps.trans HK1.out hk)
  clear hk
  go_wp2
  go_ret2
  exact ⟨by rw [HF.out, HG.out]; rfl, HK9.out⟩

def fIsCycleLabelingSpec (x : WP) (l : List Int) : Bool × Bool := if walkGood x && labsOk x l then (walkOk x.arcs (l ++ [l.getD 0 0]), true) else (false, false)
def fIsCycleLabelingImpl (x : WP) (l : List Int) : Bool × Bool := if walkGood x && labsOk x l then (walkOk x.arcs (l ++ [l.getD 0 0]), true) else (false, false)
theorem IsCycleLabeling_eq (x : WP) (l : List Int) (ok : okW x) (hs : szW x ≤ 1048576) (il : ∀ n ∈ l, I64 n) (hls : l.length ≤ 1048576) : fIsCycleLabelingImpl x l = fIsCycleLabelingSpec x l := rfl

set_option maxRecDepth 100000 in
set_option maxHeartbeats 4000000 in
theorem specIsCycleLabeling_any (v : Value) (x : WP) (lv : Value) (l : List Int) (w : World) (h : RdW w v x) (ok : okW x) (hs : szW x ≤ 1048576) (hl : Ints w lv l) (il : ∀ n ∈ l, I64 n) (hls : l.length ≤ 1048576) :
    Calls Try.prog 33 #[v, lv] w fun e w' => e = .returned (.tuple #[.bool (fIsCycleLabelingSpec x l).1, .bool (fIsCycleLabelingSpec x l).2]) ∧ Keeps w w' := by
  obtain ⟨v1, rfl, r1⟩ := h
  have R1 := Lib.hid r1
  obtain ⟨a1, c1, rfl, m1, _⟩ := r1.form
  clear r1 ok
  have HL := Lib.hid hl
  obtain ⟨la, lc, rfl, lm, hlf⟩ := hl.form
  have HLF := Lib.hid hlf
  have HF : Hid (fIsCycleLabelingSpec x l = if walkGood x && labsOk x l then (walkOk x.arcs (l ++ [l.getD 0 0]), true) else (false, false)) := rfl
  clear hl il hs hlf
  have K0 : Hid (Keeps w (w.alloc (.cells #[.int .i64 x.labels, .slice a1 x.arcs.length c1] 27))) := (Keeps.refl _).alloc _
  have C0 : Hid ((w.alloc (.cells #[.int .i64 x.labels, .slice a1 x.arcs.length c1] 27)).cell? ⟨w.heap.size, 0, none⟩ = some (.int .i64 x.labels)) := by show _ = _; rw [World.cell?_alloc_at _ _ _ _ rfl]; rfl
  have C1 : Hid ((w.alloc (.cells #[.int .i64 x.labels, .slice a1 x.arcs.length c1] 27)).cell? ⟨w.heap.size, 1, none⟩ = some (.slice a1 x.arcs.length c1)) := by show _ = _; rw [World.cell?_alloc_at _ _ _ _ rfl]; rfl
  cases hg : walkGood x && labsOk x l
  · have HG := Lib.hid hg
    clear hg
    go_enter Try.func33, Try.ntmps33
    go_wp2_with fail
    refine (waList_any _ x _ l _ ⟨_, rfl, R1.out.keep K0.out⟩ (HL.out.keep K0.out)).mono ?_
    rintro e w1 ⟨rfl, hk⟩
    rw [HG.out]
    have HK1 := Lib.hid (Keeps.trans K0.out hk)
    have D0 := cell_keep hk C0.out
    have D1 := cell_keep hk C1.out
    clear hk
    go_wp2
    go_ret2
    exact ⟨by rw [HF.out, HG.out]; rfl, HK1.out⟩
  have HG := Lib.hid hg
  simp only [Bool.and_eq_true] at hg
  have HG1 := Lib.hid hg.1
  have HG2 := Lib.hid hg.2
  clear hg
  go_enter Try.func33, Try.ntmps33
  go_wp2_with fail
  refine (waList_any _ x _ l _ ⟨_, rfl, R1.out.keep K0.out⟩ (HL.out.keep K0.out)).mono ?_
  rintro e w1 ⟨rfl, hk⟩
  rw [HG.out]
  have HK1 := Lib.hid (Keeps.trans K0.out hk)
  have D0 := cell_keep hk C0.out
  have D1 := cell_keep hk C1.out
  clear hk
  have HIN : Hid (allIn l 0 (x.labels - 1) = true) := by show _ = _; have := HG2.out; simp only [labsOk, Bool.and_eq_true] at this; exact this.2
  have hpos : 0 < l.length := by have := HG2.out; simp only [labsOk, Bool.and_eq_true] at this; have := inB_true.1 this.1; omega
  have hle : l.length ≤ 200 := by have := HG2.out; simp only [labsOk, Bool.and_eq_true] at this; have := inB_true.1 this.1; omega
  obtain ⟨lb, lo, rfl, hc0⟩ := HLF.out 0 hpos
  simp only [Nat.add_zero] at hc0
  have HC0 := Lib.hid hc0
  have HIN2 : Hid (allIn (l ++ [l.getD 0 0]) 0 (x.labels - 1) = true) := by
    show _ = _
    have := HIN.out
    rw [allIn, List.all_append, ← allIn, this]
    have h0 := allIn_bounds this 0 hpos
    simp only [allIn, inB, List.all_cons, List.all_nil, Bool.and_true, Bool.and_eq_true, decide_eq_true_eq]
    exact ⟨trivial, h0⟩
  clear hc0
  have SK : Hid (∀ W : World, Keeps w1 W → W.cell? ⟨lb, lo, none⟩ = some (.int .i64 (l.getD 0 0)) ∧ W.cell? ⟨w.heap.size, 0, none⟩ = some (.int .i64 x.labels) ∧ W.cell? ⟨w.heap.size, 1, none⟩ = some (.slice a1 x.arcs.length c1)) := fun W k => ⟨cell_keep (Keeps.trans HK1.out k) HC0.out, cell_keep k D0, cell_keep k D1⟩
  have KD : Hid (Keeps w1 w1.drew) := (Keeps.refl _).drew
  go_wp2
  clear D0 D1
  generalize l.getD 0 0 = y0 at *
  go_region_held3 (fun W => W.cell? ⟨lb, lo, none⟩ = some (.int .i64 y0) ∧ W.cell? ⟨w.heap.size, 0, none⟩ = some (.int .i64 x.labels) ∧ W.cell? ⟨w.heap.size, 1, none⟩ = some (.slice a1 x.arcs.length c1))
    ((refine SK.out _ ?_; (repeat (first | exact Keeps.refl _ | exact KD.out | with_reducible refine Keeps.alloc ?_ _ | with_reducible refine Keeps.drew ?_ | (with_reducible refine Keeps.trans ?_ hk9) | (with_reducible refine Keeps.trans ?_ hk3) | (with_reducible refine hA.keeps ?_ (Nat.le_refl _))))))
    ((first
      | (go_at_call 71; refine (l1Own_any _ l _ (HL.out.keep (Keeps.trans HK1.out (by (repeat (first | exact Keeps.refl _ | exact KD.out | with_reducible refine Keeps.alloc ?_ _ | with_reducible refine Keeps.drew ?_ | (with_reducible refine Keeps.trans ?_ hk9) | (with_reducible refine Keeps.trans ?_ hk3) | (with_reducible refine hA.keeps ?_ (Nat.le_refl _))))))) (by omega)).mono ?_; rintro e w3 ⟨v3, rfl, ho3, hk3⟩)
      | (refine step_app1 (B := w1.heap.size) (v := v3) (l := l) (y := y0) (by rfl) (by rfl) (by rfl) (by rfl) (by repeat (first | exact ho3 | exact ho3.mono (by simp) | with_reducible refine Own.alloc ?_ _)) (by omega) (by have := hk3.size; simp at this ⊢; omega)
          (by repeat (first | (with_reducible refine blk_new ?_; simp; done) | with_reducible refine blk_drew ?_ | with_reducible refine blk_old ?_ | exact (hk3.block _ (by simp)).trans (blk_new (by simp)))) ?_; intro vA wA hA)
      | (go_at_call 68; refine (waWalk_any _ x _ (l ++ [y0]) _ ⟨_, rfl, R1.out.keep (Keeps.trans HK1.out (by (repeat (first | exact Keeps.refl _ | exact KD.out | with_reducible refine Keeps.alloc ?_ _ | with_reducible refine Keeps.drew ?_ | (with_reducible refine Keeps.trans ?_ hk9) | (with_reducible refine Keeps.trans ?_ hk3) | (with_reducible refine hA.keeps ?_ (Nat.le_refl _))))))⟩ hA.own.ints (WIn.of HG1.out) HIN2.out).mono ?_; rintro e w9 ⟨rfl, hk9⟩)))
  all_goals
    have HK9 := Lib.hid (Keeps.trans (Keeps.trans HK1.out (by (repeat (first | exact Keeps.refl _ | exact KD.out | with_reducible refine Keeps.alloc ?_ _ | with_reducible refine Keeps.drew ?_ | (with_reducible refine Keeps.trans ?_ hk9) | (with_reducible refine Keeps.trans ?_ hk3) | (with_reducible refine hA.keeps ?_ (Nat.le_refl _)))))) hk9)
    clear hk9
    go_wp2
    go_ret2
    exact ⟨by rw [HF.out, HG.out]; rfl, HK9.out⟩

set_option maxRecDepth 100000 in
set_option maxHeartbeats 4000000 in
theorem implIsCycleLabeling_any (v : Value) (x : WP) (lv : Value) (l : List Int) (w : World) (h : RdW w v x) (ok : okW x) (hs : szW x ≤ 1048576) (hl : Ints w lv l) (il : ∀ n ∈ l, I64 n) (hls : l.length ≤ 1048576) :
    Calls Try.prog 34 #[v, lv] w fun e w' => e = .returned (.tuple #[.bool (fIsCycleLabelingImpl x l).1, .bool (fIsCycleLabelingImpl x l).2]) ∧ Keeps w w' := by
  obtain ⟨v1, rfl, r1⟩ := h
  have R1 := Lib.hid r1
  obtain ⟨a1, c1, rfl, m1, _⟩ := r1.form
  clear r1 ok
  have HL := Lib.hid hl
  obtain ⟨la, lc, rfl, lm, hlf⟩ := hl.form
  have HLF := Lib.hid hlf
  have HF : Hid (fIsCycleLabelingImpl x l = if walkGood x && labsOk x l then (walkOk x.arcs (l ++ [l.getD 0 0]), true) else (false, false)) := rfl
  clear hl il hs hlf
  have K0 : Hid (Keeps w (w.alloc (.cells #[.int .i64 x.labels, .slice a1 x.arcs.length c1] 27))) := (Keeps.refl _).alloc _
  have C0 : Hid ((w.alloc (.cells #[.int .i64 x.labels, .slice a1 x.arcs.length c1] 27)).cell? ⟨w.heap.size, 0, none⟩ = some (.int .i64 x.labels)) := by show _ = _; rw [World.cell?_alloc_at _ _ _ _ rfl]; rfl
  have C1 : Hid ((w.alloc (.cells #[.int .i64 x.labels, .slice a1 x.arcs.length c1] 27)).cell? ⟨w.heap.size, 1, none⟩ = some (.slice a1 x.arcs.length c1)) := by show _ = _; rw [World.cell?_alloc_at _ _ _ _ rfl]; rfl
  cases hg : walkGood x
  · have HG := Lib.hid hg
    clear hg
    go_enter Try.func34, Try.ntmps34
    go_wp2_with fail
    refine (isWalkI_any _ x _ ⟨_, rfl, R1.out.keep K0.out⟩).mono ?_
    rintro e w1 ⟨rfl, hk⟩
    rw [HG.out]
    have HK1 := Lib.hid (Keeps.trans K0.out hk)
    have D0 := cell_keep hk C0.out
    have D1 := cell_keep hk C1.out
    clear hk
    go_wp2
    go_ret2
    exact ⟨by rw [HF.out, HG.out]; rfl, HK1.out⟩
  have HG1 := Lib.hid hg
  obtain ⟨b1, b2, _⟩ := walkGood_arc hg
  clear hg
  cases hg : labsOk x l
  · have HG := Lib.hid hg
    clear hg
    go_enter Try.func34, Try.ntmps34
    go_wp2_with fail
    refine (isWalkI_any _ x _ ⟨_, rfl, R1.out.keep K0.out⟩).mono ?_
    rintro e w1 ⟨rfl, hk⟩
    rw [HG1.out]
    have HK1 := Lib.hid (Keeps.trans K0.out hk)
    have D0 := cell_keep hk C0.out
    have D1 := cell_keep hk C1.out
    clear hk
    go_wp2_with fail
    refine (areWalkLabels_any _ x _ l _ ⟨_, rfl, R1.out.keep HK1.out⟩ (HL.out.keep HK1.out) b1 b2).mono ?_
    rintro e w2 ⟨rfl, hk⟩
    rw [HG.out]
    have HK2 := Lib.hid (Keeps.trans HK1.out hk)
    clear hk
    go_wp2
    go_ret2
    exact ⟨by rw [HF.out, HG1.out, HG.out]; rfl, HK2.out⟩
  have HG2 := Lib.hid hg
  have HG : Hid ((walkGood x && labsOk x l) = true) := by show _ = _; rw [HG1.out, hg]; rfl
  clear hg
  go_enter Try.func34, Try.ntmps34
  go_wp2_with fail
  refine (isWalkI_any _ x _ ⟨_, rfl, R1.out.keep K0.out⟩).mono ?_
  rintro e w0 ⟨rfl, hk⟩
  rw [HG1.out]
  have HK0 := Lib.hid (Keeps.trans K0.out hk)
  have B0 := cell_keep hk C0.out
  have B1 := cell_keep hk C1.out
  clear hk
  go_wp2_with fail
  refine (areWalkLabels_any _ x _ l _ ⟨_, rfl, R1.out.keep HK0.out⟩ (HL.out.keep HK0.out) b1 b2).mono ?_
  rintro e w1 ⟨rfl, hk⟩
  rw [HG2.out]
  have HK1 := Lib.hid (Keeps.trans HK0.out hk)
  have D0 := cell_keep hk B0
  have D1 := cell_keep hk B1
  clear hk
  have HIN : Hid (allIn l 0 (x.labels - 1) = true) := by show _ = _; have := HG2.out; simp only [labsOk, Bool.and_eq_true] at this; exact this.2
  have hpos : 0 < l.length := by have := HG2.out; simp only [labsOk, Bool.and_eq_true] at this; have := inB_true.1 this.1; omega
  have hle : l.length ≤ 200 := by have := HG2.out; simp only [labsOk, Bool.and_eq_true] at this; have := inB_true.1 this.1; omega
  obtain ⟨lb, lo, rfl, hc0⟩ := HLF.out 0 hpos
  simp only [Nat.add_zero] at hc0
  have HC0 := Lib.hid hc0
  have HIN2 : Hid (allIn (l ++ [l.getD 0 0]) 0 (x.labels - 1) = true) := by
    show _ = _
    have := HIN.out
    rw [allIn, List.all_append, ← allIn, this]
    have h0 := allIn_bounds this 0 hpos
    simp only [allIn, inB, List.all_cons, List.all_nil, Bool.and_true, Bool.and_eq_true, decide_eq_true_eq]
    exact ⟨trivial, h0⟩
  clear hc0
  have SK : Hid (∀ W : World, Keeps w1 W → W.cell? ⟨lb, lo, none⟩ = some (.int .i64 (l.getD 0 0)) ∧ W.cell? ⟨w.heap.size, 0, none⟩ = some (.int .i64 x.labels) ∧ W.cell? ⟨w.heap.size, 1, none⟩ = some (.slice a1 x.arcs.length c1)) := fun W k => ⟨cell_keep (Keeps.trans HK1.out k) HC0.out, cell_keep k D0, cell_keep k D1⟩
  have KD : Hid (Keeps w1 w1.drew) := (Keeps.refl _).drew
  go_wp2
  clear D0 D1
  generalize l.getD 0 0 = y0 at *
  go_region_held3 (fun W => W.cell? ⟨lb, lo, none⟩ = some (.int .i64 y0) ∧ W.cell? ⟨w.heap.size, 0, none⟩ = some (.int .i64 x.labels) ∧ W.cell? ⟨w.heap.size, 1, none⟩ = some (.slice a1 x.arcs.length c1))
    ((refine SK.out _ ?_; (repeat (first | exact Keeps.refl _ | exact KD.out | with_reducible refine Keeps.alloc ?_ _ | with_reducible refine Keeps.drew ?_ | (with_reducible refine Keeps.trans ?_ hk9) | (with_reducible refine Keeps.trans ?_ hk3) | (with_reducible refine hA.keeps ?_ (Nat.le_refl _))))))
    ((first
      | (go_at_call 72; refine (clone_any _ l _ (HL.out.keep (Keeps.trans HK1.out (by (repeat (first | exact Keeps.refl _ | exact KD.out | with_reducible refine Keeps.alloc ?_ _ | with_reducible refine Keeps.drew ?_ | (with_reducible refine Keeps.trans ?_ hk9) | (with_reducible refine Keeps.trans ?_ hk3) | (with_reducible refine hA.keeps ?_ (Nat.le_refl _))))))) (by omega)).mono ?_; rintro e w3 ⟨v3, rfl, ho3, hk3⟩)
      | (refine step_app1 (B := w1.heap.size) (v := v3) (l := l) (y := y0) (by rfl) (by rfl) (by rfl) (by rfl) (by repeat (first | exact ho3 | exact ho3.mono (by simp) | with_reducible refine Own.alloc ?_ _)) (by omega) (by have := hk3.size; simp at this ⊢; omega)
          (by repeat (first | (with_reducible refine blk_new ?_; simp; done) | with_reducible refine blk_drew ?_ | with_reducible refine blk_old ?_ | exact (hk3.block _ (by simp)).trans (blk_new (by simp)))) ?_; intro vA wA hA)
      | (go_at_call 70; refine (isWalkM_any _ x _ (l ++ [y0]) _ ⟨_, rfl, R1.out.keep (Keeps.trans HK1.out (by (repeat (first | exact Keeps.refl _ | exact KD.out | with_reducible refine Keeps.alloc ?_ _ | with_reducible refine Keeps.drew ?_ | (with_reducible refine Keeps.trans ?_ hk9) | (with_reducible refine Keeps.trans ?_ hk3) | (with_reducible refine hA.keeps ?_ (Nat.le_refl _))))))⟩ hA.own.ints HG1.out HIN2.out).mono ?_; rintro e w9 ⟨rfl, hk9⟩)))
  all_goals
    have HK9 := Lib.hid (Keeps.trans (Keeps.trans HK1.out (by (repeat (first | exact Keeps.refl _ | exact KD.out | with_reducible refine Keeps.alloc ?_ _ | with_reducible refine Keeps.drew ?_ | (with_reducible refine Keeps.trans ?_ hk9) | (with_reducible refine Keeps.trans ?_ hk3) | (with_reducible refine hA.keeps ?_ (Nat.le_refl _)))))) hk9)
    clear hk9
    go_wp2
    go_ret2
    exact ⟨by rw [HF.out, HG.out]; rfl, HK9.out⟩

end Go.Proofs.Ytcjmpodljhcbhaa
