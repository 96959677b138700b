/- PowerWalk of both sides, as the law calls them. -/
import Derived.Test.YtcjmpodljhcbhaaAd
import Derived.Test.YtcjmpodljhcbhaaPi
namespace Go.Proofs.Ytcjmpodljhcbhaa
open Go.RowKit
set_option linter.unusedSimpArgs false
set_option linter.unusedVariables false

def okW (x : WP) : Prop := I64 x.labels ∧ ∀ r ∈ x.arcs, ∀ n ∈ r, I64 n
def zeroW : WP := ⟨0, []⟩
theorem szW_arcs {x : WP} (h : szW x ≤ 1048576) : x.arcs.length ≤ 1048576 := by
  unfold szW at h
  unfold tot at h
  omega
theorem tot_two {LL : List (List Int)} (h : ∀ r ∈ LL, r.length = 2) : tot LL = 3 * LL.length := by
  unfold tot off
  rw [List.take_length]
  have : (LL.map List.length).sum = 2 * LL.length := by
    induction LL with
    | nil => rfl
    | cons r LL ih =>
      rw [List.map_cons, List.sum_cons, h r (by simp), ih fun r hr => h r (by simp [hr])]
      simp; omega
  omega
theorem outArcs_two (n : Nat) (f : Nat → Nat) (a : Nat) : ∀ r ∈ outArcs n f a, r.length = 2 := by
  intro r hr
  unfold outArcs at hr
  rw [List.mem_flatMap] at hr
  obtain ⟨u, _, hu⟩ := hr
  obtain ⟨b, _, rfl⟩ := List.mem_map.1 hu
  rfl
def wOf (p : T_WalkProblem) : WP := ⟨p.Labels, p.Arcs⟩
def fPowerWalkSpec (x : WP) (k : Int) : Option WP := if (powB (tW x) k).2 then some (wOf (powB (tW x) k).1) else none
def fPowerWalkImpl (x : WP) (k : Int) : Option WP := fPowerWalkSpec x k
theorem PowerWalk_eq (x : WP) (k : Int) (_ : okW x) (_ : szW x ≤ 1048576) (_ : I64 k) : fPowerWalkImpl x k = fPowerWalkSpec x k := rfl
theorem powB_W (x : WP) (k : Int) : (fPowerWalkSpec x k).isSome = (powB (tW x) k).2 ∧ (fPowerWalkSpec x k).getD zeroW = wOf (powB (tW x) k).1 ∧ szW (wOf (powB (tW x) k).1) ≤ 1000000 := by
  unfold fPowerWalkSpec powB
  cases h : walkB (tW x)
  · simp [zeroW, wOf, szW, tot, off]
  · cases hk : inB 1 200 k
    · simp [zeroW, wOf, szW, tot, off]
    · obtain ⟨h1, h0, h2, h3⟩ := okArcs_of h
      refine ⟨by simp, by simp, ?_⟩
      simp only [Bool.and_self, if_true, wOf, szW]
      rw [tot_two (outArcs_two _ _ _)]
      have := outArcs_small (n := (tW x).Labels.toNat) (by omega) (fun a => pwF (aftF (tW x).Arcs) (tW x).Labels.toNat a k.toNat) (Nat.le_refl _)
      omega
/-- The call returns a new walk problem and whether there is one. -/
def RetW (w0 : World) (r : Option WP) (e : Ending) (w' : World) : Prop :=
  ∃ v, e = .returned (.tuple #[v, .bool r.isSome]) ∧ OwW w0.heap.size w'.heap.size w' v (r.getD zeroW) ∧ szW (r.getD zeroW) ≤ 1000000000 ∧ Keeps w0 w'
theorem owW_of {w0 w : World} {o' : Tg} {v0 : List Value} {p : T_WalkProblem} (h : Rp.rd o' w v0 p) (hz : Dz 43 3 o' w (v0.getD 1 undef) p.Arcs) (k : Keeps w0 w) (ho : ∀ b, b < w0.heap.size → o' b = 1) :
    OwW w0.heap.size w.heap.size w (.agg v0.toArray) (wOf p) := by
  obtain ⟨v1, rfl, h1⟩ := h
  have hz' : Dz 43 3 o' w v1 p.Arcs := hz
  obtain ⟨vs, hm⟩ := hz'.matIn ho
  exact ⟨v1, rfl, w0.heap.size, w.heap.size, Nat.le_refl _, k.size, Nat.le_refl _, hm.owM⟩
theorem specPowerWalk_any (v : Value) (x : WP) (k : Int) (w : World) (h : RdW w v x) (_ : okW x) (hs : szW x ≤ 1048576) (_ : I64 k) :
    Calls Try.prog 42 #[v, .int .i64 k] w (RetW w (fPowerWalkSpec x k)) := by
  obtain ⟨u, rfl, h2⟩ := h.rdz
  obtain ⟨e1, e2, e3⟩ := powB_W x k
  refine (cS_PowerWalk 1000 w ot 2 (by decide) u (tW x) h2 k _ (e_specPower 1000 (by omega) (tW x) k (by have := szW_arcs hs; simp only [tW]; omega))).mono ?_
  rintro e w' ⟨v0, o', rfl, hr, hz, hk, hb⟩
  exact ⟨_, by rw [e1], by rw [e2]; exact owW_of hr hz hk hb, by rw [e2]; omega, hk⟩
theorem implPowerWalk_any (v : Value) (x : WP) (k : Int) (w : World) (h : RdW w v x) (_ : okW x) (hs : szW x ≤ 1048576) (_ : I64 k) :
    Calls Try.prog 43 #[v, .int .i64 k] w (RetW w (fPowerWalkImpl x k)) := by
  obtain ⟨u, rfl, h2⟩ := h.rdz
  obtain ⟨e1, e2, e3⟩ := powB_W x k
  refine (cI_PowerWalk 1000 w ot 2 (by decide) u (tW x) h2 k _ (e_implPower 1000 (by omega) (tW x) k (by have := szW_arcs hs; simp only [tW]; omega))).mono ?_
  rintro e w' ⟨v0, o', rfl, hr, hz, hk, hb⟩
  exact ⟨_, by unfold fPowerWalkImpl; rw [e1], by unfold fPowerWalkImpl; rw [e2]; exact owW_of hr hz hk hb, by unfold fPowerWalkImpl; rw [e2]; omega, hk⟩
end Go.Proofs.Ytcjmpodljhcbhaa
