/- Walk problems: their form; powers as masks. -/
import Derived.Test.YtffgdhbhlcifmaaPd
import Derived.Test.YtffgdhbhlcifmaaGI
namespace Go.Proofs.Ytffgdhbhlcifmaa
set_option linter.unusedSimpArgs false
set_option linter.unusedVariables false

/-- An arc passes. -/
def arcB (p : T_WalkProblem) (k : Nat) (x : List Int) : Bool :=
  decide (x.length = 2) && x.all (inB 0 (p.Labels - 1)) && (decide (k = 0) || decide (ordL (p.Arcs.getD (k - 1) []) x < 0))
def arcP (p : T_WalkProblem) (k : Nat) (x : List Int) : Option Bool := if arcB p k x then none else some false
def walkB (p : T_WalkProblem) : Bool := inB 1 12 p.Labels && (firstP (arcP p) p.Arcs 0).isNone
theorem inB_if {a b c : Int} : inB b c a = true ↔ b ≤ a ∧ a ≤ c := by simp [inB]
theorem arcP_none {p : T_WalkProblem} {k : Nat} {x : List Int} (h : arcP p k x = none) : x.length = 2 ∧ ∀ y, y ∈ x → 0 ≤ y ∧ y ≤ p.Labels - 1 := by
  unfold arcP at h
  split at h
  · rename_i hb
    simp only [arcB, Bool.and_eq_true, decide_eq_true_eq] at hb
    exact ⟨hb.1.1, fun y hy => inB_if.1 (List.all_eq_true.1 hb.1.2 y hy)⟩
  · cases h
theorem arcP_bad {p : T_WalkProblem} {k : Nat} {x : List Int} (h : arcB p k x = false) : lpP (arcP p k x) = .ret false := by simp [arcP, h, lpP]
theorem arcP_good {p : T_WalkProblem} {k : Nat} {x : List Int} (h : arcB p k x = true) : lpP (arcP p k x) = .go () := by simp [arcP, h, lpP]
theorem w1_spec (p : T_WalkProblem) (hL : inB 1 12 p.Labels = true) (j : Nat) (x : List Int) (hj : p.Arcs[j]? = some x)
    (hall : ∀ (i : Nat) y, i < j → p.Arcs[i]? = some y → arcP p i y = none) (hJ : j ≤ 1000000000) : fS_waArcs_s1 p.Arcs p.Labels (j : Int) x () = some (lpP (arcP p j x)) := by
  rw [inB_if] at hL
  unfold fS_waArcs_s1
  by_cases h1 : x.length = 2
  · rw [if_neg (by simp [h1]), ck_in (by omega) (by omega), sb, e_l1All, sb]
    by_cases h2 : x.all (inB 0 (p.Labels - 1)) = true
    · rw [if_neg (by simp [h2])]
      cases j with
      | zero =>
        rw [if_neg (by simp), sb, arcP_good (by simp [arcB, h1, h2])]
        simp
      | succ j =>
        have hjl : j < p.Arcs.length := by have := (List.getElem?_eq_some_iff.1 hj).1; omega
        have hp := arcP_none (hall j p.Arcs[j] (by omega) (List.getElem?_eq_getElem hjl))
        rw [if_pos (by simp), ck_in (by omega) (by omega), sb, show (((j + 1 : Nat) : Int) - 1) = (j : Int) by omega, ix_lt _ _ hjl, sb,
          e_prOrder _ _ (by omega) (fun y hy => by have := hp.2 y hy; omega) (fun y hy => by have := inB_if.1 (List.all_eq_true.1 h2 y hy); omega), sb, sb]
        by_cases h4 : ordL p.Arcs[j] x < 0
        · rw [if_neg (by simp; omega), arcP_good (by simp [arcB, h1, h2, List.getElem?_eq_getElem hjl, h4])]
        · rw [if_pos (by simp; omega), arcP_bad (by simp [arcB, h1, h2, List.getElem?_eq_getElem hjl, h4])]
    · rw [if_pos (by simp [h2]), sb, if_pos rfl, arcP_bad (by simp [arcB, h2])]
  · rw [if_pos (by simp; omega), sb, if_pos rfl, arcP_bad (by simp [arcB, h1])]
theorem w1_impl (p : T_WalkProblem) (hL : inB 1 12 p.Labels = true) (j : Nat) (x : List Int) (hj : p.Arcs[j]? = some x)
    (hall : ∀ (i : Nat) y, i < j → p.Arcs[i]? = some y → arcP p i y = none) (hJ : j ≤ 1000000000) : fI_IsWalkProblem_s1 p (j : Int) x () = some (lpP (arcP p j x)) := by
  rw [inB_if] at hL
  unfold fI_IsWalkProblem_s1
  by_cases h1 : x.length = 2
  · have hh : fI_WalkProblem_hasLabels p x = some (x.all (inB 0 (p.Labels - 1))) := by
      unfold fI_WalkProblem_hasLabels
      rw [ck_in (by omega) (by omega), sb, e_allWithin _ _ _ (by omega), sb]
    rw [if_neg (by simp [h1]), hh, sb]
    by_cases h2 : x.all (inB 0 (p.Labels - 1)) = true
    · rw [if_neg (by simp [h2])]
      cases j with
      | zero =>
        rw [if_neg (by simp), sb, arcP_good (by simp [arcB, h1, h2])]
        simp
      | succ j =>
        have hjl : j < p.Arcs.length := by have := (List.getElem?_eq_some_iff.1 hj).1; omega
        have hp := arcP_none (hall j p.Arcs[j] (by omega) (List.getElem?_eq_getElem hjl))
        rw [if_pos (by simp), ck_in (by omega) (by omega), sb, show (((j + 1 : Nat) : Int) - 1) = (j : Int) by omega, ix_lt _ _ hjl, sb, e_Compare _ _ (by omega), sb, sb]
        by_cases h4 : ordL p.Arcs[j] x < 0
        · rw [if_neg (by simp; omega), arcP_good (by simp [arcB, h1, h2, List.getElem?_eq_getElem hjl, h4])]
        · rw [if_pos (by simp; omega), arcP_bad (by simp [arcB, h1, h2, List.getElem?_eq_getElem hjl, h4])]
    · rw [if_pos (by simp [h2]), sb, if_pos rfl, arcP_bad (by simp [arcB, h2])]
  · rw [if_pos (by simp; omega), sb, if_pos rfl, arcP_bad (by simp [arcB, h1])]
theorem arcP_res {p : T_WalkProblem} {r : Bool} {xs : List (List Int)} {k : Nat} (h : firstP (arcP p) xs k = some r) : r = false := by
  obtain ⟨j, x, _, h2⟩ := firstP_some h
  unfold arcP at h2
  split at h2 <;> cases h2
  rfl
theorem e_waGood (p : T_WalkProblem) (hJ : p.Arcs.length ≤ 1000000000) : fS_waGood p = some (walkB p) := by
  unfold fS_waGood
  rw [e_l1In, sb]
  rw [show (decide (1 ≤ p.Labels) && decide (p.Labels ≤ 12)) = inB 1 12 p.Labels from rfl]
  cases hL : inB 1 12 p.Labels
  · simp [walkB, hL, sb]
  · rw [if_pos rfl]
    unfold fS_waArcs
    rw [forI_first0 (arcP p) p.Arcs (fun j x hj hall => w1_spec p hL j x hj hall (by have := (List.getElem?_eq_some_iff.1 hj).1; omega)), sb]
    cases hc : firstP (arcP p) p.Arcs 0 with
    | none => simp [outP, walkB, hL, hc, sb]
    | some r => have := arcP_res hc; subst this; simp [outP, walkB, hL, hc, sb]
theorem e_IsWalkProblem (p : T_WalkProblem) (hJ : p.Arcs.length ≤ 1000000000) : fI_IsWalkProblem p = some (walkB p) := by
  unfold fI_IsWalkProblem
  rw [e_within, sb]
  rw [show (decide (1 ≤ p.Labels) && decide (p.Labels ≤ 12)) = inB 1 12 p.Labels from rfl]
  cases hL : inB 1 12 p.Labels
  · simp [walkB, hL]
  · rw [if_neg (by simp), forI_first0 (arcP p) p.Arcs (fun j x hj hall => w1_impl p hL j x hj hall (by have := (List.getElem?_eq_some_iff.1 hj).1; omega)), sb]
    cases hc : firstP (arcP p) p.Arcs 0 with
    | none => simp [outP, walkB, hL, hc]
    | some r => have := arcP_res hc; subst this; simp [outP, walkB, hL, hc]
/-- Arcs on n labels. -/
def okArcs (n : Nat) (LL : List (List Int)) : Prop := ∀ x, x ∈ LL → ∃ a b : Nat, x = [(a : Int), (b : Int)] ∧ a < n ∧ b < n
theorem okArcs_of {p : T_WalkProblem} (h : walkB p = true) : p.Labels = p.Labels.toNat ∧ 1 ≤ p.Labels.toNat ∧ p.Labels.toNat ≤ 12 ∧ okArcs p.Labels.toNat p.Arcs := by
  simp only [walkB, Bool.and_eq_true, Option.isNone_iff_eq_none] at h
  obtain ⟨hL, hn⟩ := h
  rw [inB_if] at hL
  refine ⟨by omega, by omega, by omega, fun x hx => ?_⟩
  obtain ⟨j, hj⟩ := List.mem_iff_getElem?.1 hx
  have hh := arcP_none (firstP_none.1 hn j x hj)
  match x, hh with
  | [u, v], hh =>
    have h1 := hh.2 u (by simp)
    have h2 := hh.2 v (by simp)
    exact ⟨u.toNat, v.toNat, by rw [Int.toNat_of_nonneg h1.1, Int.toNat_of_nonneg h2.1], by omega, by omega⟩
end Go.Proofs.Ytffgdhbhlcifmaa
