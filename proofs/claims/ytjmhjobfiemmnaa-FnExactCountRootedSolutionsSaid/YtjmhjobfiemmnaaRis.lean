/- Rising lists. -/
import Derived.Test.YtjmhjobfiemmnaaPb
namespace Go.Proofs.Ytjmhjobfiemmnaa
set_option linter.unusedSimpArgs false
set_option linter.unusedVariables false

def risP (xs : List Int) (lo hi : Int) (k : Nat) (x : Int) : Option Bool := if inB lo hi x && (decide (k = 0) || decide (xs.getD (k - 1) 0 < x)) then none else some false
def risB (xs : List Int) (lo hi : Int) : Bool := (firstP (risP xs lo hi) xs 0).isNone
theorem risP_res {xs ys : List Int} {lo hi : Int} {r : Bool} {k : Nat} (h : firstP (risP xs lo hi) ys k = some r) : r = false := by
  obtain ⟨j, x, _, h2⟩ := firstP_some h
  unfold risP at h2
  split at h2 <;> cases h2
  rfl
theorem ris_step (xs : List Int) (lo hi : Int) (j : Nat) (x : Int) (hj : xs[j]? = some x) (hl : xs.length ≤ 1000000000) :
    ((if !(decide (lo ≤ x) && decide (x ≤ hi)) then some true else if decide ((j : Int) > 0) then (ck ((j : Int) - 1) >>= fun x30 => ix xs x30 >>= fun x31 => some (decide (x31 ≥ x))) else some false) >>= fun q25 =>
      if q25 then some (Lp.ret (σ := Unit) (τ := Unit) false) else some (.go ())) = some (lpP (risP xs lo hi j x)) := by
  have hjl := (List.getElem?_eq_some_iff.1 hj).1
  rw [show (decide (lo ≤ x) && decide (x ≤ hi)) = inB lo hi x from rfl]
  unfold risP
  cases h : inB lo hi x
  · simp [sb, lpP]
  · cases j with
    | zero => simp [sb, lpP]
    | succ j =>
      rw [if_neg (by simp), if_pos (by simp), ck_in (by omega) (by omega), sb, show (((j + 1 : Nat) : Int) - 1) = (j : Int) by omega, ix_lt _ _ (by omega), sb, sb]
      have hg : xs.getD (j + 1 - 1) 0 = xs[j] := by simp [List.getElem?_eq_getElem (show j < xs.length by omega)]
      rw [hg]
      by_cases h2 : xs[j] < x
      · rw [if_neg (by simp; omega)]; simp [h2, lpP]
      · rw [if_pos (by simp; omega)]; simp [h2, lpP]
theorem e_l1Rising (xs : List Int) (lo hi : Int) (hl : xs.length ≤ 1000000000) : fS_l1Rising xs lo hi = some (risB xs lo hi) := by
  unfold fS_l1Rising
  rw [forI_first0 (risP xs lo hi) xs (fun j x hj _ => by
    unfold fS_l1Rising_s1
    rw [e_l1In, sb]
    exact ris_step xs lo hi j x hj hl), sb]
  unfold risB
  cases hc : firstP (risP xs lo hi) xs 0 with
  | none => rfl
  | some r => have := risP_res hc; subst this; rfl
theorem e_increasing (xs : List Int) (lo hi : Int) (hl : xs.length ≤ 1000000000) : fI_increasing xs lo hi = some (risB xs lo hi) := by
  unfold fI_increasing
  rw [forI_first0 (risP xs lo hi) xs (fun j x hj _ => by
    unfold fI_increasing_s1
    rw [e_within, sb]
    exact ris_step xs lo hi j x hj hl), sb]
  unfold risB
  cases hc : firstP (risP xs lo hi) xs 0 with
  | none => rfl
  | some r => have := risP_res hc; subst this; rfl
theorem risB_in {xs : List Int} {lo hi : Int} (h : risB xs lo hi = true) : ∀ x, x ∈ xs → lo ≤ x ∧ x ≤ hi := by
  unfold risB at h
  rw [Option.isNone_iff_eq_none] at h
  intro x hx
  obtain ⟨j, hj⟩ := List.mem_iff_getElem?.1 hx
  have := firstP_none.1 h j x hj
  unfold risP at this
  split at this
  · rename_i hb
    rw [Bool.and_eq_true] at hb
    simpa [inB] using hb.1
  · cases this
theorem risB_iff {xs : List Int} {lo hi : Int} : risB xs lo hi = true ↔ (∀ x, x ∈ xs → lo ≤ x ∧ x ≤ hi) ∧ xs.Pairwise (· < ·) := by
  have step : risB xs lo hi = true ↔ ∀ (j : Nat) x, xs[j]? = some x → (lo ≤ x ∧ x ≤ hi) ∧ (j = 0 ∨ xs.getD (j - 1) 0 < x) := by
    unfold risB
    rw [Option.isNone_iff_eq_none, firstP_none]
    constructor
    · intro h j x hj
      have := h j x hj
      unfold risP at this
      rw [Nat.zero_add] at this
      split at this
      · rename_i hb; simpa [inB] using hb
      · cases this
    · intro h j x hj
      have := h j x hj
      unfold risP
      rw [Nat.zero_add, if_pos (by simpa [inB] using this)]
  rw [step]
  constructor
  · intro h
    refine ⟨fun x hx => ?_, ?_⟩
    · obtain ⟨j, hj⟩ := List.mem_iff_getElem?.1 hx
      exact (h j x hj).1
    · have key : ∀ (d i : Nat) (hi : i + d + 1 < xs.length), xs[i]'(by omega) < xs[i + d + 1] := by
        intro d
        induction d with
        | zero =>
          intro i hi
          have := (h (i + 1) _ (List.getElem?_eq_getElem hi)).2
          simpa [List.getElem?_eq_getElem (show i < xs.length by omega)] using this
        | succ d ih =>
          intro i hi
          have h1 := ih i (by omega)
          have := (h (i + d + 1 + 1) _ (List.getElem?_eq_getElem hi)).2
          have h2 : xs[i + d + 1]'(by omega) < xs[i + (d + 1) + 1] := by simpa [List.getElem?_eq_getElem (show i + d + 1 < xs.length by omega)] using this
          exact Int.lt_trans h1 h2
      rw [List.pairwise_iff_getElem]
      intro i j hi hj hij
      have := key (j - i - 1) i (by omega)
      simpa [show i + (j - i - 1) + 1 = j by omega] using this
  · rintro ⟨h1, h2⟩ j x hj
    refine ⟨h1 x (List.mem_of_getElem? hj), ?_⟩
    by_cases e : j = 0
    · exact Or.inl e
    · right
      have hjl := (List.getElem?_eq_some_iff.1 hj).1
      rw [List.pairwise_iff_getElem] at h2
      have := h2 (j - 1) j (by omega) hjl (by omega)
      rw [List.getD_eq_getElem?_getD, List.getElem?_eq_getElem (show j - 1 < xs.length by omega)]
      rw [(List.getElem?_eq_some_iff.1 hj).2] at this
      exact this
end Go.Proofs.Ytjmhjobfiemmnaa
