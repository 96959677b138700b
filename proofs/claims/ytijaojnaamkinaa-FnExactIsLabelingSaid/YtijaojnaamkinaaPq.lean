/- Problems: the form of both sides. -/
import Derived.Test.YtijaojnaamkinaaPd
import Derived.Test.YtijaojnaamkinaaPc
import Derived.Test.YtijaojnaamkinaaGR
import Derived.Test.YtijaojnaamkinaaLpp
namespace Go.Proofs.Ytijaojnaamkinaa
set_option linter.unusedSimpArgs false
set_option linter.unusedVariables false

/-! ### The order of lists of one length -/
theorem ordL_zero : ∀ {a b : List Int}, a.length = b.length → (ordL a b = 0 ↔ a = b)
  | [], [], _ => by simp [ordL]
  | [], _ :: _, h => by simp at h
  | _ :: _, [], h => by simp at h
  | x :: a, y :: b, h => by
    have ih := ordL_zero (a := a) (b := b) (by simpa using h)
    simp only [ordL]
    by_cases e : x < y
    · rw [if_pos e]; simp; omega
    · rw [if_neg e]
      by_cases e2 : x > y
      · rw [if_pos e2]; simp; omega
      · rw [if_neg e2, ih]
        have : x = y := by omega
        simp [this]
theorem ordL_trans : ∀ {a b c : List Int}, a.length = b.length → b.length = c.length → ordL a b < 0 → ordL b c < 0 → ordL a c < 0
  | [], [], [], _, _, h, _ => by simp [ordL] at h
  | [], [], _ :: _, _, h, _, _ => by simp at h
  | [], _ :: _, _, h, _, _, _ => by simp at h
  | _ :: _, [], _, h, _, _, _ => by simp at h
  | _ :: _, _ :: _, [], _, h, _, _ => by simp at h
  | x :: a, y :: b, z :: c, h1, h2, h3, h4 => by
    have ih := ordL_trans (a := a) (b := b) (c := c) (by simpa using h1) (by simpa using h2)
    simp only [ordL] at h3 h4 ⊢
    by_cases e : x < y
    · by_cases e2 : y < z
      · rw [if_pos (by omega)]; omega
      · rw [if_neg e2] at h4
        by_cases e3 : y > z
        · rw [if_pos e3] at h4; omega
        · rw [if_pos (by omega)]; omega
    · rw [if_neg e] at h3
      by_cases e2 : x > y
      · rw [if_pos e2] at h3; omega
      · rw [if_neg e2] at h3
        have : x = y := by omega
        subst this
        by_cases e3 : x < z
        · rw [if_pos e3]; omega
        · rw [if_neg e3] at h4 ⊢
          by_cases e4 : x > z
          · rw [if_pos e4] at h4; omega
          · rw [if_neg e4] at h4 ⊢
            exact ih h3 h4
/-! ### Lists of configurations -/
def confB (LL : List (List Int)) (m n : Int) (k : Nat) (x : List Int) : Bool :=
  decide ((x.length : Int) = m) && sortB x && x.all (inB 0 (n - 1)) && (decide (k = 0) || decide (ordL (LL.getD (k - 1) []) x < 0))
def confP (LL : List (List Int)) (m n : Int) (k : Nat) (x : List Int) : Option Bool := if confB LL m n k x then none else some false
def confsB (LL : List (List Int)) (m n : Int) : Bool := (firstP (confP LL m n) LL 0).isNone
theorem confP_res {LL xs : List (List Int)} {m n : Int} {k : Nat} {r : Bool} (h : firstP (confP LL m n) xs k = some r) : r = false := by
  obtain ⟨j, x, _, h2⟩ := firstP_some h
  unfold confP at h2
  split at h2 <;> cases h2
  rfl
theorem confP_none {LL : List (List Int)} {m n : Int} {k : Nat} {x : List Int} (h : confP LL m n k x = none) : (x.length : Int) = m ∧ sortB x = true ∧ (∀ y, y ∈ x → 0 ≤ y ∧ y ≤ n - 1) ∧ (k = 0 ∨ ordL (LL.getD (k - 1) []) x < 0) := by
  unfold confP at h
  split at h
  · rename_i hb
    simp only [confB, Bool.and_eq_true, decide_eq_true_eq, Bool.or_eq_true] at hb
    exact ⟨hb.1.1.1, hb.1.1.2, fun y hy => inB_iff.1 (List.all_eq_true.1 hb.1.2 y hy), hb.2⟩
  · cases h
theorem conf_bad {LL : List (List Int)} {m n : Int} {k : Nat} {x : List Int} (h : confB LL m n k x = false) : lpP (confP LL m n k x) = .ret false := by simp [confP, h, lpP]
theorem conf_good {LL : List (List Int)} {m n : Int} {k : Nat} {x : List Int} (h : confB LL m n k x = true) : lpP (confP LL m n k x) = .go () := by simp [confP, h, lpP]
theorem sorted_loop (m : Nat) (x : List Int) (hx : x.length = m) (hm : m ≤ 1000) : ∀ (fuel j : Nat), 1 ≤ j → (∀ (k : Nat) a b, k + 1 < j → x[k]? = some a → x[k + 1]? = some b → a ≤ b) → m < fuel + j ∧ j ≤ m →
    (∃ y, loopF (fS_prLists_s2 (m : Int) x) fuel (j : Int) = some (.inl y) ∧ sortB x = true) ∨ (loopF (fS_prLists_s2 (m : Int) x) fuel (j : Int) = some (.inr false) ∧ sortB x = false) := by
  intro fuel
  induction fuel with
  | zero =>
    intro j h1 h2 h3
    omega
  | succ fuel ih =>
    intro j h1 h2 h3
    by_cases hj : j < m
    · have e1 : x[j - 1]? = some (x[j - 1]'(by omega)) := List.getElem?_eq_getElem (by omega)
      have e2 : x[j]? = some (x[j]'(by omega)) := List.getElem?_eq_getElem (by omega)
      by_cases hle : x[j - 1]'(by omega) ≤ x[j]'(by omega)
      · have hs : fS_prLists_s2 (m : Int) x (j : Int) = some (.go ((j + 1 : Nat) : Int)) := by
          unfold fS_prLists_s2
          rw [if_pos (by simp; omega), ck_in (by omega) (by omega), sb, show (j : Int) - 1 = ((j - 1 : Nat) : Int) by omega, ix_nat, e1, sb, ix_nat, e2, sb, if_neg (by simp; omega), ck_in (by omega) (by omega), sb]; rfl
        rw [loopF_go hs fuel]
        refine ih (j + 1) (by omega) (fun k a b hk ha hb => ?_) (by omega)
        by_cases e : k + 1 = j
        · have : k = j - 1 := by omega
          subst this
          rw [e] at hb
          rw [e1] at ha; rw [e2] at hb; cases ha; cases hb; exact hle
        · exact h2 k a b (by omega) ha hb
      · right
        constructor
        · have hs : fS_prLists_s2 (m : Int) x (j : Int) = some (.ret false) := by
            unfold fS_prLists_s2
            rw [if_pos (by simp; omega), ck_in (by omega) (by omega), sb, show (j : Int) - 1 = ((j - 1 : Nat) : Int) by omega, ix_nat, e1, sb, ix_nat, e2, sb, if_pos (by simp; omega)]
          simp only [loopF, hs]
        · cases hb : sortB x with
          | false => rfl
          | true =>
            exfalso; apply hle
            exact sortB_get.1 hb (j - 1) _ _ e1 (by rw [show j - 1 + 1 = j by omega]; exact e2)
    · left
      refine ⟨(j : Int), ?_, ?_⟩
      · refine loopF_out ?_ fuel
        unfold fS_prLists_s2
        rw [if_neg (by simp; omega)]
      · refine sortB_get.2 fun k a b ha hb => h2 k a b ?_ ha hb
        have := (List.getElem?_eq_some_iff.1 hb).1
        omega
theorem e_prLists (fuel : Nat) (LL : List (List Int)) (m : Nat) (n : Int) (hm0 : 1 ≤ m) (hm : m ≤ 4) (hn : 1 ≤ n ∧ n ≤ 8) (hf : 10 ≤ fuel) (hJ : LL.length ≤ 1000000000) : fS_prLists fuel LL (m : Int) n = some (confsB LL m n) := by
  unfold fS_prLists confsB
  rw [forI_first0 (confP LL m n) LL (fun j x hj hall => by
    have hjl := (List.getElem?_eq_some_iff.1 hj).1
    unfold fS_prLists_s1
    by_cases h1 : (x.length : Int) = m
    · rw [if_neg (by simp [h1]), ck_in (by omega) (by omega), sb, e_l1All, sb]
      by_cases h2 : x.all (inB 0 (n - 1)) = true
      · rw [if_neg (by simp [h2])]
        have hlast : (if decide ((j : Int) > 0) then (ck ((j : Int) - 1) >>= fun x34 => ix LL x34 >>= fun x35 => fS_prOrder x35 x >>= fun x43 => some (decide (x43 ≥ 0))) else some false) = some (!(decide (j = 0) || decide (ordL (LL.getD (j - 1) []) x < 0))) := by
          cases j with
          | zero => simp
          | succ j =>
            have hp := confP_none (hall j LL[j] (by omega) (List.getElem?_eq_getElem (by omega)))
            rw [if_pos (by simp), ck_in (by omega) (by omega), sb, show (((j + 1 : Nat) : Int) - 1) = (j : Int) by omega, ix_lt _ _ (by omega), sb,
              e_prOrder _ _ (by omega) (fun y hy => by have := hp.2.2.1 y hy; omega) (fun y hy => by have := inB_iff.1 (List.all_eq_true.1 h2 y hy); omega), sb]
            have : LL.getD (j + 1 - 1) [] = LL[j] := by simp [List.getElem?_eq_getElem (show j < LL.length by omega)]
            rw [this]
            by_cases h4 : ordL LL[j] x < 0
            · simp [h4]
            · simp [h4]; omega
        rw [hlast, sb]
        cases h4 : (decide (j = 0) || decide (ordL (LL.getD (j - 1) []) x < 0))
        · rw [if_pos (by simp), conf_bad (by simp only [confB, h4, Bool.and_false])]
        · rw [if_neg (by simp)]
          rcases sorted_loop m x (by omega) (by omega) fuel 1 (Nat.le_refl _) (fun k a b hk => by omega) ⟨by omega, by omega⟩ with ⟨y, e1, e2⟩ | ⟨e1, e2⟩
          · rw [show ((1 : Nat) : Int) = 1 from rfl] at e1
            rw [e1, sb, conf_good (by simp only [confB, h1, h2, e2, h4, decide_true, Bool.and_self])]
          · rw [show ((1 : Nat) : Int) = 1 from rfl] at e1
            rw [e1, sb, conf_bad (by simp [confB, e2])]
      · rw [if_pos (by simp [h2]), sb, if_pos rfl, conf_bad (by simp [confB, h2])]
    · rw [if_pos (by simp; omega), sb, if_pos rfl, conf_bad (by simp [confB, h1])]), sb]
  cases hc : firstP (confP LL m n) LL 0 with
  | none => rfl
  | some r => have := confP_res hc; subst this; rfl
theorem e_configurationsOk (fuel : Nat) (LL : List (List Int)) (m : Nat) (n : Int) (hm : m ≤ 4) (hn : 1 ≤ n ∧ n ≤ 8) (hf : 10 ≤ fuel) (hJ : LL.length ≤ 1000000000) : fI_configurationsOk fuel LL (m : Int) n = some (confsB LL m n) := by
  unfold fI_configurationsOk confsB
  rw [forI_first0 (confP LL m n) LL (fun j x hj hall => by
    have hjl := (List.getElem?_eq_some_iff.1 hj).1
    unfold fI_configurationsOk_s1
    by_cases h1 : (x.length : Int) = m
    · rw [if_neg (by simp [h1]), e_IsSorted _ _ (by omega) (by omega), sb]
      by_cases h3 : sortB x = true
      · rw [if_neg (by simp [h3]), ck_in (by omega) (by omega), sb, e_allWithin _ _ _ (by omega), sb]
        by_cases h2 : x.all (inB 0 (n - 1)) = true
        · rw [if_neg (by simp [h2])]
          have hlast : (if decide ((j : Int) > 0) then (ck ((j : Int) - 1) >>= fun x34 => ix LL x34 >>= fun x35 => fX_slices_Compare_int_int x35 x >>= fun x43 => some (decide (x43 ≥ 0))) else some false) = some (!(decide (j = 0) || decide (ordL (LL.getD (j - 1) []) x < 0))) := by
            cases j with
            | zero => simp
            | succ j =>
              have hp := confP_none (hall j LL[j] (by omega) (List.getElem?_eq_getElem (by omega)))
              rw [if_pos (by simp), ck_in (by omega) (by omega), sb, show (((j + 1 : Nat) : Int) - 1) = (j : Int) by omega, ix_lt _ _ (by omega), sb, e_Compare _ _ (by omega), sb]
              have : LL.getD (j + 1 - 1) [] = LL[j] := by simp [List.getElem?_eq_getElem (show j < LL.length by omega)]
              rw [this]
              by_cases h4 : ordL LL[j] x < 0
              · simp [h4]
              · simp [h4]; omega
          rw [hlast, sb]
          cases h4 : (decide (j = 0) || decide (ordL (LL.getD (j - 1) []) x < 0))
          · rw [if_pos (by simp), conf_bad (by simp only [confB, h4, Bool.and_false])]
          · rw [if_neg (by simp), conf_good (by simp only [confB, h1, h2, h3, h4, decide_true, Bool.and_self])]
        · rw [if_pos (by simp [h2]), sb, if_pos rfl, conf_bad (by simp [confB, h2])]
      · rw [if_pos (by simp [h3]), sb, if_pos rfl, conf_bad (by simp [confB, h3])]
    · rw [if_pos (by simp; omega), sb, if_pos rfl, conf_bad (by simp [confB, h1])]), sb]
  cases hc : firstP (confP LL m n) LL 0 with
  | none => rfl
  | some r => have := confP_res hc; subst this; rfl
def probB (p : T_Problem) : Bool := inB 1 8 p.Labels && inB 1 4 p.Degree && confsB p.Nodes p.Degree p.Labels && confsB p.Edges 2 p.Labels
theorem e_prGood (fuel : Nat) (hf : 10 ≤ fuel) (p : T_Problem) (hJ : p.Nodes.length ≤ 1000000000) (hE : p.Edges.length ≤ 1000000000) : fS_prGood fuel p = some (probB p) := by
  unfold fS_prGood probB
  rw [e_l1In, sb]
  rw [show (decide (1 ≤ p.Labels) && decide (p.Labels ≤ 8)) = inB 1 8 p.Labels from rfl]
  cases h1 : inB 1 8 p.Labels
  · simp [sb]
  · rw [if_pos rfl, e_l1In, sb]
    rw [show (decide (1 ≤ p.Degree) && decide (p.Degree ≤ 4)) = inB 1 4 p.Degree from rfl]
    cases h2 : inB 1 4 p.Degree
    · simp [sb]
    · have h1' := inB_iff.1 h1
      have h2' := inB_iff.1 h2
      obtain ⟨m, hm⟩ : ∃ m : Nat, p.Degree = m := ⟨p.Degree.toNat, by omega⟩
      rw [if_pos rfl, hm, e_prLists fuel p.Nodes m p.Labels (by omega) (by omega) h1' hf hJ, sb]
      cases h3 : confsB p.Nodes m p.Labels
      · simp [sb]
      · rw [if_pos rfl]
        have := e_prLists fuel p.Edges 2 p.Labels (by omega) (by omega) h1' hf hE
        rw [show ((2 : Nat) : Int) = 2 from rfl] at this
        rw [this, sb, sb]; simp
theorem e_IsProblem (fuel : Nat) (hf : 10 ≤ fuel) (p : T_Problem) (hJ : p.Nodes.length ≤ 1000000000) (hE : p.Edges.length ≤ 1000000000) : fI_IsProblem fuel p = some (probB p) := by
  unfold fI_IsProblem probB
  rw [e_within, sb]
  rw [show (decide (1 ≤ p.Labels) && decide (p.Labels ≤ 8)) = inB 1 8 p.Labels from rfl]
  cases h1 : inB 1 8 p.Labels
  · simp [sb]
  · rw [if_pos rfl, e_within, sb]
    rw [show (decide (1 ≤ p.Degree) && decide (p.Degree ≤ 4)) = inB 1 4 p.Degree from rfl]
    cases h2 : inB 1 4 p.Degree
    · simp [sb]
    · have h1' := inB_iff.1 h1
      have h2' := inB_iff.1 h2
      obtain ⟨m, hm⟩ : ∃ m : Nat, p.Degree = m := ⟨p.Degree.toNat, by omega⟩
      rw [if_pos rfl, hm, e_configurationsOk fuel p.Nodes m p.Labels (by omega) h1' hf hJ, sb]
      cases h3 : confsB p.Nodes m p.Labels
      · simp [sb]
      · rw [if_pos rfl]
        have := e_configurationsOk fuel p.Edges 2 p.Labels (by omega) h1' hf hE
        rw [show ((2 : Nat) : Int) = 2 from rfl] at this
        rw [this, sb, sb]; simp
/-! ### Membership -/
theorem probB_iff {p : T_Problem} (h : probB p = true) : 1 ≤ p.Labels ∧ p.Labels ≤ 8 ∧ 1 ≤ p.Degree ∧ p.Degree ≤ 4 ∧ confsB p.Nodes p.Degree p.Labels = true ∧ confsB p.Edges 2 p.Labels = true := by
  simp only [probB, Bool.and_eq_true] at h
  have h1 := inB_iff.1 h.1.1.1
  have h2 := inB_iff.1 h.1.1.2
  exact ⟨h1.1, h1.2, h2.1, h2.2, h.1.2, h.2⟩
end Go.Proofs.Ytijaojnaamkinaa
