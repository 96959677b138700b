/- KeepRooted of both sides, as the law calls them. -/
import Derived.Test.YtcjmpodljhcbhaaAd
import Derived.Test.YtcjmpodljhcbhaaPk
namespace Go.Proofs.Ytcjmpodljhcbhaa
open Go.RowKit
set_option linter.unusedSimpArgs false
set_option linter.unusedVariables false

def zeroR : RP := ⟨0, 0, []⟩
theorem tot_le {LL : List (List Int)} {c : Nat} (h : ∀ r ∈ LL, r.length ≤ c) : tot LL ≤ (c + 1) * LL.length := by
  unfold tot off
  rw [List.take_length]
  have : (LL.map List.length).sum ≤ c * LL.length := by
    induction LL with
    | nil => simp
    | cons r LL ih =>
      have h1 := h r (by simp)
      have h2 := ih fun r hr => h r (by simp [hr])
      rw [List.map_cons, List.sum_cons, List.length_cons, Nat.mul_succ]
      omega
  rw [Nat.succ_mul]
  omega
def rOf (p : T_RootedProblem) : RP := ⟨p.Labels, p.Children, p.Lines⟩
def fKeepRootedSpec (x : RP) (l : List Int) : Option RP := if (keepB (tR x) l).2 then some (rOf (keepB (tR x) l).1) else none
def fKeepRootedImpl (x : RP) (l : List Int) : Option RP := fKeepRootedSpec x l
theorem KeepRooted_eq (x : RP) (l : List Int) (_ : okR x) (_ : szR x ≤ 1048576) (_ : ∀ n ∈ l, I64 n) (_ : l.length ≤ 1048576) : fKeepRootedImpl x l = fKeepRootedSpec x l := rfl
theorem keepB_R (x : RP) (l : List Int) (hs : szR x ≤ 1048576) : (fKeepRootedSpec x l).isSome = (keepB (tR x) l).2 ∧ (fKeepRootedSpec x l).getD zeroR = rOf (keepB (tR x) l).1 ∧ szR (rOf (keepB (tR x) l).1) ≤ 100000000 := by
  have hL := szR_lines hs
  unfold fKeepRootedSpec keepB
  cases hc : rootedB (tR x) && !l.isEmpty && risB l 0 ((tR x).Labels - 1)
  · simp [zeroR, rOf, szR, tot, off]
  · refine ⟨by simp, by simp, ?_⟩
    simp only [if_true, rOf, szR]
    rw [Bool.and_eq_true, Bool.and_eq_true] at hc
    have hok := (okLines_of hc.1.1).2.2
    have h1 := keptL_length l (toR (tR x).Labels.toNat l l.length) (tR x).Lines
    have h2 : ∀ r ∈ keptL l (toR (tR x).Labels.toNat l l.length) (tR x).Lines, r.length ≤ 4 := fun r hr => by
      unfold keptL at hr
      obtain ⟨y, hy, rfl⟩ := List.mem_map.1 hr
      have := (hok y (List.mem_filter.1 hy).1).2.1
      simpa [imgL] using this
    have h3 := tot_le h2
    have h4 : (tR x).Lines.length = x.lines.length := rfl
    omega
/-- The call returns a new rooted problem and whether there is one. -/
def RetR (w0 : World) (r : Option RP) (e : Ending) (w' : World) : Prop :=
  ∃ v, e = .returned (.tuple #[v, .bool r.isSome]) ∧ OwR w0.heap.size w'.heap.size w' v (r.getD zeroR) ∧ szR (r.getD zeroR) ≤ 1000000000 ∧ Keeps w0 w'
theorem owR_of {w0 w : World} {o' : Tg} {v0 : List Value} {p : T_RootedProblem} (h : Rp.rd o' w v0 p) (hz : Dz 43 3 o' w (v0.getD 2 undef) p.Lines) (k : Keeps w0 w) (ho : ∀ b, b < w0.heap.size → o' b = 1) :
    OwR w0.heap.size w.heap.size w (.agg v0.toArray) (rOf p) := by
  obtain ⟨v1, rfl, h1⟩ := h
  have hz' : Dz 43 3 o' w v1 p.Lines := hz
  obtain ⟨vs, hm⟩ := hz'.matIn ho
  exact ⟨v1, rfl, w0.heap.size, w.heap.size, Nat.le_refl _, k.size, Nat.le_refl _, hm.owM⟩
theorem specKeepRooted_any (v : Value) (x : RP) (lv : Value) (l : List Int) (w : World) (h : RdR w v x) (_ : okR x) (hs : szR x ≤ 1048576) (hl : Ints w lv l) (_ : ∀ n ∈ l, I64 n) (hls : l.length ≤ 1048576) :
    Calls Try.prog 50 #[v, lv] w (RetR w (fKeepRootedSpec x l)) := by
  obtain ⟨u, rfl, h2⟩ := h.rdz
  obtain ⟨e1, e2, e3⟩ := keepB_R x l hs
  refine (cS_KeepRooted 100 w ot 2 (by decide) u (tR x) h2 lv l hl.rdl _ (e_specKeep 100 (by omega) (tR x) l (szR_lines hs) hls)).mono ?_
  rintro e w' ⟨v0, o', rfl, hr, hz, hk, hb⟩
  exact ⟨_, by rw [e1], by rw [e2]; exact owR_of hr hz hk hb, by rw [e2]; omega, hk⟩
theorem implKeepRooted_any (v : Value) (x : RP) (lv : Value) (l : List Int) (w : World) (h : RdR w v x) (_ : okR x) (hs : szR x ≤ 1048576) (hl : Ints w lv l) (_ : ∀ n ∈ l, I64 n) (hls : l.length ≤ 1048576) :
    Calls Try.prog 51 #[v, lv] w (RetR w (fKeepRootedImpl x l)) := by
  obtain ⟨u, rfl, h2⟩ := h.rdz
  obtain ⟨e1, e2, e3⟩ := keepB_R x l hs
  refine (cI_KeepRooted 100 w ot 2 (by decide) u (tR x) h2 lv l hl.rdl _ (e_implKeep 100 (by omega) (tR x) l (szR_lines hs) hls)).mono ?_
  rintro e w' ⟨v0, o', rfl, hr, hz, hk, hb⟩
  exact ⟨_, by unfold fKeepRootedImpl; rw [e1], by unfold fKeepRootedImpl; rw [e2]; exact owR_of hr hz hk hb, by unfold fKeepRootedImpl; rw [e2]; omega, hk⟩
end Go.Proofs.Ytcjmpodljhcbhaa
