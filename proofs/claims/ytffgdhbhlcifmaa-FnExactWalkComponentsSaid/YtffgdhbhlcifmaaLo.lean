/- Loops of a walk problem: the label that may stand behind itself. -/
import Derived.Test.YtffgdhbhlcifmaaPg
import Derived.Test.YtffgdhbhlcifmaaRis
import Derived.Test.YtffgdhbhlcifmaaNt
import Derived.Test.YtffgdhbhlcifmaaGLp
namespace Go.Proofs.Ytffgdhbhlcifmaa
open Go.RowKit
set_option linter.unusedSimpArgs false
set_option linter.unusedVariables false

def loopB (p : T_WalkProblem) : Bool := p.Arcs.any fun x => x.headD 0 == x.getD 1 0
theorem e_waLoop (p : T_WalkProblem) (n : Nat) (h : okArcs n p.Arcs) : ∃ r : Int, fS_waLoop p = some r ∧ (r < 0 ↔ loopB p = false) := by
  unfold fS_waLoop
  rw [forI_first0 (fun _ x => if x.headD 0 == x.getD 1 0 then some (x.headD 0) else none) p.Arcs (fun j x hj _ => by
    obtain ⟨a, b, rfl, ha, hb⟩ := h x (List.mem_of_getElem? hj)
    unfold fS_waLoop_s1
    rw [show ix [(a : Int), (b : Int)] 0 = some (a : Int) from rfl, sb, show ix [(a : Int), (b : Int)] 1 = some (b : Int) from rfl, sb]
    show (if (((a : Int) == (b : Int)) = true) then _ else _) = _
    by_cases e : ((a : Int) == (b : Int)) = true
    · rw [if_pos e, sb]
      have e2 : (([(a : Int), (b : Int)].headD 0) == [(a : Int), (b : Int)].getD 1 0) = true := e
      rw [if_pos e2]; rfl
    · rw [if_neg e]
      have e2 : ¬ (([(a : Int), (b : Int)].headD 0) == [(a : Int), (b : Int)].getD 1 0) = true := e
      rw [if_neg e2]; rfl), sb]
  cases hc : firstP (fun _ x => if x.headD 0 == x.getD 1 0 then some (x.headD 0) else none) p.Arcs 0 with
  | none =>
    have hz : loopB p = false := by
      unfold loopB
      rw [List.any_eq_false]
      intro x hx
      obtain ⟨j, hj⟩ := List.mem_iff_getElem?.1 hx
      have := firstP_none.1 hc j x hj
      intro e
      rw [if_pos e] at this; cases this
    exact ⟨-1, rfl, by simp [hz]⟩
  | some r =>
    obtain ⟨j, x, h1, h2⟩ := firstP_some hc
    obtain ⟨a, b, rfl, ha, hb⟩ := h x (List.mem_of_getElem? h1)
    by_cases e : (([(a : Int), (b : Int)].headD 0) == [(a : Int), (b : Int)].getD 1 0) = true
    · rw [if_pos e] at h2
      cases h2
      have hl : loopB p = true := List.any_eq_true.2 ⟨_, List.mem_of_getElem? h1, e⟩
      refine ⟨(a : Int), rfl, ?_⟩
      rw [hl]; simp
    · rw [if_neg e] at h2; cases h2
theorem aftF_test : ∀ (LL : List (List Int)) (T : Nat → Nat) (a b : Nat), (LL.foldl putA T a).testBit b = ((T a).testBit b || LL.any fun x => decide ((x.headD 0).toNat = a) && decide ((x.getD 1 0).toNat = b))
  | [], T, a, b => by simp
  | x :: LL, T, a, b => by
    rw [List.foldl_cons, aftF_test LL, List.any_cons]
    unfold putA
    by_cases e : a = (x.headD 0).toNat
    · rw [if_pos e, ← e]
      simp only [Nat.testBit_or, Nat.testBit_two_pow, decide_true, Bool.true_and, Bool.or_assoc]
    · rw [if_neg e]
      have : decide ((x.headD 0).toNat = a) = false := decide_eq_false fun h => e h.symm
      rw [this]; simp
theorem e_loop1 (p : T_WalkProblem) (n a : Nat) (hn : n ≤ 60) (ha2 : a < n) (ha : fI_WalkProblem_after p = some ((List.range n).map fun a => ((aftF p.Arcs a : Nat) : Int))) (hlt : aftF p.Arcs a < 2 ^ n) :
    fI_WalkProblem_loopOf_1 (a : Int) p = some ((aftF p.Arcs ((a : Int)).toNat).testBit ((a : Int)).toNat) := by
  unfold fI_WalkProblem_loopOf_1
  have hS : aftF p.Arcs a < 2 ^ 62 := Nat.lt_of_lt_of_le hlt (Nat.pow_le_pow_right (by decide) (by omega))
  have hx : ix ((List.range n).map fun a => ((aftF p.Arcs a : Nat) : Int)) (a : Int) = some ((aftF p.Arcs a : Nat) : Int) := by
    rw [ix_nat, List.getElem?_map, List.getElem?_range ha2]; rfl
  rw [ha, sb, hx, sb, shr_nat (by omega), sb, bit_test hS, Int.toNat_natCast]
theorem e_loopOf (p : T_WalkProblem) (n : Nat) (hp : p.Labels = n) (hn : n ≤ 60) (h : okArcs n p.Arcs) : ∃ r : Int, fI_WalkProblem_loopOf p = some r ∧ (r < 0 ↔ loopB p = false) := by
  obtain ⟨ha, hlt⟩ := e_after n p hp hn h
  unfold fI_WalkProblem_loopOf
  rw [hp, e_numbersTo n (by omega), sb, e_IndexFunc _ _ (fun x => (aftF p.Arcs x.toNat).testBit x.toNat) (fun x hx => by
    simp only [List.mem_map, List.mem_range] at hx
    obtain ⟨a, ha2, rfl⟩ := hx
    unfold fI_WalkProblem_loopOf_1
    exact e_loop1 p n a hn ha2 ha (hlt a)) (by simp only [List.length_map, List.length_range]; omega), sb]
  refine ⟨_, rfl, ?_⟩
  have hiff : loopB p = true ↔ ∃ a, a < n ∧ (aftF p.Arcs a).testBit a = true := by
    unfold loopB aftF
    rw [List.any_eq_true]
    constructor
    · rintro ⟨x, hx, e⟩
      obtain ⟨a, b, rfl, ha, hb⟩ := h x hx
      have e' : a = b := by
        have : (a : Int) = (b : Int) := by simpa using e
        omega
      subst e'
      refine ⟨a, ha, ?_⟩
      rw [aftF_test]
      simp only [Nat.zero_testBit, Bool.false_or]
      exact List.any_eq_true.2 ⟨_, hx, by simp⟩
    · rintro ⟨a, ha, e⟩
      rw [aftF_test] at e
      simp only [Nat.zero_testBit, Bool.false_or] at e
      obtain ⟨x, hx, e⟩ := List.any_eq_true.1 e
      obtain ⟨c, d, rfl, hc, hd⟩ := h x hx
      refine ⟨_, hx, ?_⟩
      simp at e ⊢
      omega
  cases hc : firstP (fun k (x : Int) => if (aftF p.Arcs x.toNat).testBit x.toNat then some (k : Int) else none) ((List.range n).map fun a : Nat => (a : Int)) 0 with
  | none =>
    have : loopB p = false := by
      cases hb : loopB p with
      | false => rfl
      | true =>
        obtain ⟨a, ha2, e⟩ := hiff.1 hb
        have := firstP_none.1 hc a (a : Int) (by simp [ha2])
        simp only [Int.toNat_natCast, e, if_true] at this
        cases this
    simp [this]
  | some r =>
    obtain ⟨j, x, h1, h2⟩ := firstP_some hc
    have hx := List.mem_of_getElem? h1
    simp only [List.mem_map, List.mem_range] at hx
    obtain ⟨a, ha2, rfl⟩ := hx
    by_cases e : (aftF p.Arcs ((a : Int)).toNat).testBit ((a : Int)).toNat = true
    · rw [if_pos e] at h2
      cases h2
      have : loopB p = true := hiff.2 ⟨a, ha2, by simpa using e⟩
      rw [this]; simp
    · rw [if_neg e] at h2; cases h2
end Go.Proofs.Ytffgdhbhlcifmaa
