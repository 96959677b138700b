/- slices.Values, Collect and Sorted on a list of integers. -/
import Derived.Test.YtjmhjobfiemmnaaSort
import Derived.Test.YtjmhjobfiemmnaaLay
import Derived.Shelf.SlIterI.Collect
import Derived.Shelf.SlIterI.Sorted
import Derived.RangeFuncKeeps
import Derived.OwnWalkIn
import Derived.TacticsInMore
import Derived.LoopNIn
import Derived.LoopIn
import Derived.Deep.LoopGhost
namespace Go.Proofs.Ytjmhjobfiemmnaa
open Go.RowKit Go.Sort Go.Shelf
set_option linter.unusedSimpArgs false
set_option linter.unusedVariables false

/-- The value of slices.Values(s): s stands in a block that nobody writes to. -/
def Sq (o : Tg) (w : World) (v u : Value) : Prop :=
  ∃ b, v = .func (.func 70) #[] #[.pointer (some ⟨b, 0, none⟩)] ∧ o b = 0 ∧ b < w.heap.size ∧ w.cell? ⟨b, 0, none⟩ = some u
section
variable {o o' : Tg} {w w' : World} {v u : Value} {t k : Nat}
theorem Sq.mv (h : Sq o w v u) (hs : w.heap.size ≤ w'.heap.size) (hb : ∀ b, b < w.heap.size → o b = 0 → w'.heap[b]? = w.heap[b]? ∧ o' b = 0) : Sq o' w' v u := by
  obtain ⟨b, rfl, h1, h2, h3⟩ := h
  refine ⟨b, rfl, (hb b h2 h1).2, Nat.lt_of_lt_of_le h2 hs, ?_⟩
  rw [← h3]
  simp only [World.cell?, (hb b h2 h1).1]
theorem Sq.stp (h : Sq o w v u) (s : Stp t o w o' w') (ht : t ≠ 0) : Sq o' w' v u :=
  h.mv s.size fun b hb h0 => ⟨s.block b hb (by rw [h0]; exact fun e => ht e.symm), by rw [s.own b hb]; exact h0⟩
theorem Sq.frz (h : Sq o w v u) (j : Nat) : Sq (Go.Proofs.Ytjmhjobfiemmnaa.frz j o) w v u := h.mv (Nat.le_refl _) fun b _ hb => ⟨rfl, by unfold Go.Proofs.Ytjmhjobfiemmnaa.frz; rw [hb]; split <;> rfl⟩
theorem Sq.rtg (h : Sq o w v u) (k k' : Nat) (hk : k ≠ 0) : Sq (Go.Proofs.Ytjmhjobfiemmnaa.rtg k k' o) w v u := h.mv (Nat.le_refl _) fun b _ hb => ⟨rfl, by
  unfold Go.Proofs.Ytjmhjobfiemmnaa.rtg
  rw [hb, if_neg (Ne.symm hk)]
  split <;> rfl⟩
theorem Sq.rc (h : Sq o w v u) (r : Rtc t o o') (ht : t ≠ 0) : Sq o' w v u := h.mv (Nat.le_refl _) fun b _ hb => ⟨rfl, r.zero ht hb⟩
end
theorem values_any (a : Option Addr) (m c : Nat) (u : Value) (hu : u = .slice a m c) (w : World) :
    Calls Try.prog 49 #[u] w fun e w' => e = .returned (.func (.func 70) #[] #[.pointer (some ⟨w.heap.size, 0, none⟩)]) ∧ w' = w.alloc (.cells #[u] 25) := by
  subst hu
  have hmf : ∀ (fn : Fn) (first cap : Array Value) (w : World), (Instr.makeFunc fn first cap).run Try.prog w = .ok (.func fn first cap) w := fun _ _ _ _ => rfl
  go_enter Try.func49, Try.ntmps49
  go_wp2
  go_ret
  exact ⟨rfl, rfl⟩
def pX_Values (oo : Tg) (w : World) (u : Value) : Ending → World → Prop := fun e w' => ∃ (v : Value) (o' : Tg), e = .returned v ∧ Sq o' w' v u ∧ Keeps w w' ∧ ∀ b, b < w.heap.size → o' b = oo b
theorem cX_Values (w : World) (oo : Tg) (u : Value) (xs : List Int) (hu : RdL zt w u xs) : Calls Try.prog 49 #[u] w (pX_Values oo w u) := by
  obtain ⟨a, c, e, _⟩ := hu
  refine (values_any a _ c u e w).mono ?_
  rintro e w' ⟨rfl, rfl⟩
  refine ⟨_, fun b => if b < w.heap.size then oo b else 0, rfl, ⟨_, rfl, if_neg (by omega), by simp, ?_⟩, (Keeps.refl w).alloc _, fun b hb => if_pos hb⟩
  rw [World.cell?_alloc_at _ _ _ _ rfl]; rfl
set_option maxRecDepth 100000 in
set_option maxHeartbeats 2000000 in
/-- The iterator: the numbers come in order, whatever the loop's body does that leaves the old blocks alone. -/
theorem vals1_in (l b : Nat) (u : Value) (xs : List Int) (w0 : World) (hb : b < w0.heap.size) (hc : w0.cell? ⟨b, 0, none⟩ = some u) (hu : RdL zt w0 u xs) (n : Nat) (J : List Int → World → Prop)
    (hJ : ∀ pre W, J pre W → Below w0.heap.size w0 W)
    (hY : ∀ pre x W, J pre W → pre.length < xs.length → YieldAt Fence.wide (n - 1) Try.prog l #[.int .i64 x] W fun e W' => e = .returned (.bool true) ∧ J (pre ++ [x]) W' ∧ KeepsWalks W W')
    (W : World) (h0 : J [] W) :
    CallsIn Fence.wide n Try.prog 70 #[.func (.yield l) #[] #[], .pointer (some ⟨b, 0, none⟩)] W fun e W' => (∃ v, e = .returned v) ∧ J xs W' := by
  obtain ⟨a, cap, rfl, h1, h2, h4⟩ := hu
  have hcell : ∀ pre W', J pre W' → W'.cell? ⟨b, 0, none⟩ = some (.slice a xs.length cap) := fun pre W' h => ((hJ pre W' h).cell (p := ⟨b, 0, none⟩) hb).trans hc
  have hat : ∀ (k : Nat) x, xs[k]? = some x → ∃ g off, a = some ⟨g, off, none⟩ ∧ ∀ pre W', J pre W' → W'.cell? ⟨g, off + k, none⟩ = some (.int .i64 x) := fun k x hx => by
    obtain ⟨g, off, cs, ha, _, hg, hcs, hr⟩ := h4 k x hx
    have hr' : cs = [.int .i64 x] := hr
    subst hr'
    refine ⟨g, off, ha, fun pre W' h => ((hJ pre W' h).cell (p := ⟨g, off + k, none⟩) hg).trans ?_⟩
    have := hcs 0 (.int .i64 x) rfl
    simpa [Rp.sz] using this
  have hc0 := hcell [] W h0
  have H1 := Lib.hid hcell
  have H2 := Lib.hid hat
  have HY := Lib.hid hY
  have HJ := Lib.hid hJ
  clear hcell hat hY hJ h4 hc
  refine callsIn_of_wp Try.func70 rfl trivial ?_ rfl
  simp only [Try.ntmps70, List.size_toArray, List.length_cons, List.length_nil, Nat.reduceAdd, Nat.reduceSub, Array.replicate_succ, Array.replicate_zero, List.push_toArray, List.append_toArray, List.nil_append, List.cons_append]
  gi_wp2
  gi_loopw [7] (fun p wr => ∃ k : Nat, p = .int .i64 k ∧ k ≤ xs.length ∧ J (xs.take k) wr) (fun p wr => xs.length - (intOf p).toNat)
  case atStart =>
    exact ⟨0, rfl, Nat.zero_le _, h0⟩
  case round =>
    obtain ⟨k, rfl, hk, hJs⟩ := hrel
    by_cases hlt : k < xs.length
    · have hw : wrap64 ((k : Int) + 1) = (k : Int) + 1 := by have : cap ≤ 9223372036854775807 := h2; unfold wrap64; omega
      obtain ⟨g, off, rfl, hat'⟩ := H2.out k _ (List.getElem?_eq_getElem hlt)
      have hck := hat' _ _ hJs
      generalize hx : xs[k] = x at hck
      obtain ⟨fn, tmps, assign, body, hy, hR⟩ := HY.out (xs.take k) x wr hJs (by simp; omega)
      gi_wp2
      refine ⟨fun h => (by cases h), hR.mono ?_⟩
      rintro e W3 ⟨rfl, hJ3, hk3⟩
      gi_wp2
      go_roundw
      case rel =>
        refine ⟨k + 1, by rw [hw]; simp, by omega, ?_⟩
        have : xs.take (k + 1) = xs.take k ++ [x] := by rw [List.take_add_one, List.getElem?_eq_getElem hlt, hx]; rfl
        rw [this]; exact hJ3
      case measure => rw [hw]; simp only [intOf]; omega
    · have : k = xs.length := by omega
      subst this
      gi_wp2
      go_end0
      rw [List.take_length] at hJs
      exact ⟨⟨_, rfl⟩, hJs⟩
set_option maxRecDepth 100000 in
set_option maxHeartbeats 2000000 in
/-- slices.AppendSeq(nil, slices.Values(s)). -/
theorem appendVals (b : Nat) (u : Value) (xs : List Int) (hl : xs.length ≤ 1000000000) (w : World) (hb : b < w.heap.size) (hc : w.cell? ⟨b, 0, none⟩ = some u) (hu : RdL zt w u xs) :
    Calls Try.prog 77 #[.slice none 0 0, .func (.func 70) #[] #[.pointer (some ⟨b, 0, none⟩)]] w fun e w' =>
      ∃ v, e = .returned v ∧ w'.ownsRow w.heap.size 3 1 v xs.length (xs.map (Value.int .i64)) ∧ Below w.heap.size w w' := by
  refine (callsIn_wide (n := 9)).1 ?_
  refine callsIn_of_wp_marks Try.func77 rfl trivial ?_ rfl
  simp only [Try.ntmps77, List.size_toArray, List.length_cons, List.length_nil, Nat.reduceAdd, Nat.reduceSub, Array.replicate_succ, Array.replicate_zero, List.push_toArray, List.append_toArray, List.nil_append, List.cons_append]
  gi_wp2
  refine wpIn_rangeFunc ?_
  intro fn hfn
  generalize hsv : Value.func (.func 70) #[] #[.pointer (some ⟨b, 0, none⟩)] = sv
  -- the box of s, the record of what is put off, the loop's record: three new blocks
  obtain ⟨W1, hW1⟩ : ∃ W1, ((w.alloc (.cells #[.slice none 0 0] 25)).alloc (.deferred (some []))).alloc (.loop (AnyZI.apRec Try.laysAp_ren fn sv w.heap.size (w.heap.size + 1) .ready none)) = W1 := ⟨_, rfl⟩
  have n0 : W1.heap[w.heap.size]? = some (.cells #[.slice none 0 0] 25 (0, 0)) := by
    rw [← hW1]
    exact (Below.heap_alloc _ _ _ (by simp; omega)).trans ((Below.heap_alloc _ _ _ (by simp)).trans (World.alloc_heap_new w _))
  have n1 : W1.heap[w.heap.size + 1]? = some (.deferred (some [])) := by
    rw [← hW1]
    have := World.alloc_heap_new (w.alloc (.cells #[.slice none 0 0] 25)) (.deferred (some []))
    rw [World.size_alloc] at this
    exact (Below.heap_alloc _ _ _ (by simp)).trans this
  have n2 : W1.heap[w.heap.size + 2]? = some (.loop (AnyZI.apRec Try.laysAp_ren fn sv w.heap.size (w.heap.size + 1) .ready none)) := by
    rw [← hW1]
    have := World.alloc_heap_new ((w.alloc (.cells #[.slice none 0 0] 25)).alloc (.deferred (some []))) (.loop (AnyZI.apRec Try.laysAp_ren fn sv w.heap.size (w.heap.size + 1) .ready none))
    rw [World.size_alloc, World.size_alloc] at this
    exact this
  have hb1 : Below w.heap.size w W1 := by
    rw [← hW1]
    exact (((Below.refl _ w).alloc (Nat.le_refl _) _).alloc (by simp) _).alloc (by simp; omega) _
  have hAt : AnyZI.ApAt Try.laysAp_ren w fn sv w.heap.size (w.heap.size + 2) (w.heap.size + 1) [] W1 := ⟨⟨_, n0, ⟨rfl, .inl ⟨rfl, rfl⟩⟩, by simp⟩, n2, n1, hb1⟩
  refine ⟨w.heap.size + 2, [{ target := .collected (w.heap.size + 1), args := #[] }], W1, { target := .fn (.func 70) #[.pointer (some ⟨b, 0, none⟩)], args := #[.func (.yield (w.heap.size + 2)) #[] #[]] }, W1, 70,
    #[.func (.yield (w.heap.size + 2)) #[] #[]] ++ #[.pointer (some ⟨b, 0, none⟩)], W1, ?_, ?_, ?_, ?_, fun h => (by cases h), ?_⟩
  · rw [← hW1, ← hsv]; refine (run_enterLoop_outer _ _ _ _ _).trans ?_; rw [World.size_alloc]; rfl
  · rw [← hsv]; simp [resolve, go_sem]
  · intro f' hf'; trivial
  · simp [invoke, go_sem, enters_of Try.func70 (by kernel_rfl) rfl]
  · refine (vals1_in (w.heap.size + 2) b u xs w hb hc hu _ (AnyZI.ApAt Try.laysAp_ren w fn sv w.heap.size (w.heap.size + 2) (w.heap.size + 1)) (fun pre W h => h.below)
      (fun pre x W h hlen => AnyZI.apYield Try.laysAp Fence.wide _ w fn hfn sv w.heap.size (w.heap.size + 2) (w.heap.size + 1) (by omega) (by omega) (by omega) (Nat.le_refl _) (by omega) 1000000000 (by decide) (by decide) pre x W h (by omega)) W1 hAt).mono ?_
    rintro e W2 ⟨⟨v0, rfl⟩, h2⟩
    obtain ⟨v, hv, hrow, hnil⟩ := h2.box
    have hend := run_endLoop (P := Try.prog) h2.L (by simp [AnyZI.apRec])
    obtain ⟨W3, hW3⟩ : ∃ W3, W2.putObj (w.heap.size + 2) (.loop { AnyZI.apRec Try.laysAp_ren fn sv w.heap.size (w.heap.size + 1) .ready none with state := .exhausted }) = W3 := ⟨_, rfl⟩
    rw [hW3] at hend
    have hg3 : W2.grownBy W3 (some (w.heap.size + 2)) := by rw [← hW3]; exact grownBy_putObj_a _ _ _
    have hv3 : W3.heap[w.heap.size]? = some (.cells #[v] 25 (0, 0)) := by rw [← hW3]; exact (World.putObj_heap_other (by omega)).trans hv
    have hK3 : W3.heap[w.heap.size + 1]? = some (.deferred (some [])) := by rw [← hW3]; exact (World.putObj_heap_other (by omega)).trans h2.K
    have hrow3 := hrow.kept hg3 (ownsRow_ne_a hrow h2.L (fun cur e => by cases e))
    have hb3 : Below w.heap.size w W3 := h2.below.grown hg3 h2.below.size (fun k e => by cases e; omega)
    obtain ⟨hc3, hf3⟩ := cell_of_box_a hv3
    clear hW3
    refine ⟨none, W3, hend, ?_⟩
    gi_wp2
    refine ⟨by simp, .inl ⟨_, _, rfl, run_takeDeferred hK3, ?_⟩⟩
    exact ⟨_, results_tmp rfl _ _ _, v, rfl, hrow3.kept (grownBy_putObj_a _ _ _) (ownsRow_ne_a hrow3 hK3 (fun cur e => by cases e)), hb3.grown (grownBy_putObj_a _ _ _) hb3.size (fun k e => by cases e; omega)⟩
set_option maxRecDepth 100000 in
theorem collectVals (b : Nat) (u : Value) (xs : List Int) (hl : xs.length ≤ 1000000000) (w : World) (hb : b < w.heap.size) (hc : w.cell? ⟨b, 0, none⟩ = some u) (hu : RdL zt w u xs) :
    Calls Try.prog 68 #[.func (.func 70) #[] #[.pointer (some ⟨b, 0, none⟩)]] w fun e w' =>
      ∃ v, e = .returned v ∧ w'.ownsRow w.heap.size 3 1 v xs.length (xs.map (Value.int .i64)) ∧ Below w.heap.size w w' := by
  have hc1 := appendVals b u xs hl w hb hc hu
  go_enter Try.func68, Try.ntmps68
  go_wp2_with (go_at_call 77; refine hc1.mono ?_; rintro e w' ⟨v, rfl, hrow, hbl⟩)
  go_ret
  exact ⟨v, rfl, hrow, hbl⟩
/-- What a call that only makes blocks hands back: what it owns, under the caller's tags. -/
theorem own_left {w w' : World} {v : Value} {xs : List Int} (oo : Tg) (t : Nat) (h : w'.ownsRow w.heap.size 3 1 v xs.length (xs.map (Value.int .i64))) (hb : Below w.heap.size w w') :
    ∃ o' : Tg, Ow w.heap.size 3 t o' w' v xs ∧ Keeps w w' ∧ ∀ b, b < w.heap.size → o' b = oo b := by
  refine ⟨fun b => if b < w.heap.size then oo b else t, ow_ints (fun g hg => if_neg ?_) h, ?_, fun b hb => if_pos hb⟩
  · have := (World.ownsRow.lt h g hg).1; omega
  · exact hb
def pX_sorted (oo : Tg) (t : Nat) (w : World) (r : List Int) : Ending → World → Prop := fun e w' => ∃ (v0 : Value) (o' : Tg), e = .returned v0 ∧ Ow w.heap.size 3 t o' w' v0 r ∧ Keeps w w' ∧ ∀ b, b < w.heap.size → o' b = oo b
theorem cX_Collect (w : World) (oo : Tg) (t : Nat) (v u : Value) (o : Tg) (hs : Sq o w v u) (xs : List Int) (g : RdL zt w u xs) (r : List Int) (hF : cat [] xs = some r) :
    Calls Try.prog 68 #[v] w (pX_sorted oo t w r) := by
  obtain ⟨hl, hr⟩ := cat_some hF
  rw [List.nil_append] at hr
  subst hr
  obtain ⟨b, rfl, _, hb, hc⟩ := hs
  refine (collectVals b u r (by simpa using hl) w hb hc g).mono ?_
  rintro e w' ⟨v, rfl, hrow, hbl⟩
  obtain ⟨o', h1, h2, h3⟩ := own_left oo t hrow hbl
  exact ⟨v, o', rfl, h1, h2, h3⟩
set_option maxRecDepth 100000 in
theorem cX_Sorted (w : World) (oo : Tg) (t : Nat) (v u : Value) (o : Tg) (hs : Sq o w v u) (xs : List Int) (g : RdL zt w u xs) (r : List Int) (hF : srtO xs = some r) :
    Calls Try.prog 48 #[v] w (pX_sorted oo t w r) := by
  have hl := (srtO_some hF).1
  have hC := cX_Collect w (fun _ => 1) 2 v u o hs xs g xs (by unfold cat; rw [if_pos (by simpa using hl)]; rfl)
  have hC1 : Calls Try.prog 68 #[v] w fun e w' => ∃ v1, e = .returned v1 ∧ Calls Try.prog 69 #[v1] w' fun e2 w2 => e2 = .returned (.tuple #[]) ∧ w2.ownsRow w.heap.size 3 1 v1 r.length (r.map (Value.int .i64)) ∧ Keeps w w2 := by
    refine hC.mono ?_
    rintro e w1 ⟨v1, o1, rfl, h1, hk, ho⟩
    refine ⟨v1, rfl, (cX_Sort h1 hF).mono ?_⟩
    rintro e2 w2 ⟨rfl, h3, hs⟩
    obtain ⟨css, c1, c2, c3, c4⟩ := h3
    rw [flat_i c1 (fun i cs x a b => c4 i cs x a b)] at c2
    refine ⟨rfl, c2, ⟨hs.os.trans hk.os, hs.tape.trans hk.tape, hs.output.trans hk.output, Nat.le_trans hk.size hs.size, fun b hb => ?_⟩⟩
    exact (hs.block b (Nat.lt_of_lt_of_le hb hk.size) (by rw [ho b hb]; show (1 : Nat) ≠ 2; decide)).trans (hk.block b hb)
  have HC := Lib.hid hC1
  clear hC hC1 g hs hF hl
  refine Calls.mono (R := fun e w' => ∃ v0, e = .returned v0 ∧ w'.ownsRow w.heap.size 3 1 v0 r.length (r.map (Value.int .i64)) ∧ Keeps w w') ?_ ?_
  · go_enter Try.func48, Try.ntmps48
    go_wp2_with (go_at_call 68; refine (HC.out).mono ?_; rintro e w1 ⟨v1, rfl, hS⟩)
    go_wp2_with (go_at_call 69; refine hS.mono ?_; rintro e w2 ⟨rfl, hrow, hk⟩)
    go_ret
    exact ⟨_, rfl, hrow, hk⟩
  · rintro e w' ⟨v0, rfl, hrow, hk⟩
    obtain ⟨o', h1, h2, h3⟩ := own_left oo t hrow hk
    exact ⟨v0, o', rfl, h1, h2, h3⟩
end Go.Proofs.Ytjmhjobfiemmnaa
