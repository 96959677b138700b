/- IsLabeling: what both sides compute. -/
import Derived.Test.YtijaojnaamkinaaPq
import Derived.Test.YtijaojnaamkinaaNc
import Derived.Test.YtijaojnaamkinaaGLb
namespace Go.Proofs.Ytijaojnaamkinaa
set_option linter.unusedSimpArgs false
set_option linter.unusedVariables false

theorem e_IndexFuncM (xs : List (List Int)) (f : List Int → Option Bool) (g : List Int → Bool) (hf : ∀ x, x ∈ xs → f x = some (g x)) (hl : xs.length ≤ 1000000000) :
    fX_slices_IndexFunc_LLint_int xs f = some ((firstP (fun k x => if g x then some (k : Int) else none) xs 0).getD (-1)) := by
  unfold fX_slices_IndexFunc_LLint_int
  rw [ck_in (by omega) (by omega), sb]
  simp only [Int.toNat_natCast]
  rw [forN_first0 (fun k x => if g x then some (k : Int) else none) xs (fun j x hj _ => by
    unfold fX_slices_IndexFunc_LLint_int_s1
    rw [ix_nat, hj, sb, hf x (List.mem_of_getElem? hj), sb]
    cases h : g x <;> simp [h, lpP]), sb]
  cases firstP (fun k x => if g x then some (k : Int) else none) xs 0 <;> rfl
theorem e_ContainsFuncM (xs : List (List Int)) (f : List Int → Option Bool) (g : List Int → Bool) (hf : ∀ x, x ∈ xs → f x = some (g x)) (hl : xs.length ≤ 1000000000) :
    fX_slices_ContainsFunc_LLint_int xs f = some (xs.any g) := by
  unfold fX_slices_ContainsFunc_LLint_int
  rw [e_IndexFuncM xs f g hf hl, sb]
  cases h : firstP (fun k x => if g x then some (k : Int) else none) xs 0 with
  | some r =>
    obtain ⟨j, x, h1, h2⟩ := firstP_some h
    have h3 : g x = true := by
      cases hg : g x with
      | true => rfl
      | false => rw [hg] at h2; cases h2
    have h4 : xs.any g = true := List.any_eq_true.2 ⟨x, List.mem_of_getElem? h1, h3⟩
    rw [h3, if_pos rfl] at h2
    cases h2
    rw [h4]
    simp
  | none =>
    have h4 : xs.any g = false := by
      rw [List.any_eq_false]
      intro x hx hg
      obtain ⟨j, hj⟩ := List.mem_iff_getElem?.1 hx
      have := firstP_none.1 h j x hj
      rw [hg] at this
      simp at this
    rw [h4]
    simp
def lenP (n : T_Network) (k : Nat) (row : List Int) : Bool := decide ((row.length : Int) = (n.Ends.getD k []).length)
def shapeP (p : T_Problem) (n : T_Network) (k : Nat) (row : List Int) : Option Bool := if lenP n k row && row.all (inB 0 (p.Labels - 1)) then none else some false
def portP (n : T_Network) (k : Nat) (row : List Int) : Option Bool := if lenP n k row then none else some false
def shapeB (p : T_Problem) (n : T_Network) (l : List (List Int)) : Bool := decide ((l.length : Int) = n.Ends.length) && (firstP (shapeP p n) l 0).isNone
theorem ix_rowk {n : T_Network} {k : Nat} (h : k < n.Ends.length) : ix n.Ends (k : Int) = some (n.Ends.getD k []) := by
  rw [ix_nat, List.getD_eq_getElem?_getD, List.getElem?_eq_getElem h]; rfl
theorem e_prShape (p : T_Problem) (n : T_Network) (l : List (List Int)) (h1 : 1 ≤ p.Labels) (h8 : p.Labels ≤ 8) : fS_prShape p n l = some (shapeB p n l) := by
  unfold fS_prShape shapeB
  by_cases h : (l.length : Int) = n.Ends.length
  · rw [if_neg (by simpa using h), forI_first0 (shapeP p n) l (fun j x hj _ => by
      have hjl := (List.getElem?_eq_some_iff.1 hj).1
      unfold fS_prShape_s1 shapeP lenP
      rw [ix_rowk (by omega), sb]
      by_cases e : (x.length : Int) = (n.Ends.getD j []).length
      · rw [if_neg (by simpa using e), ck_in (by omega) (by omega), sb, e_l1All, sb, sb]
        cases x.all (inB 0 (p.Labels - 1)) <;> simp [e, lpP]
      · rw [if_pos (by simpa using e), sb, if_pos rfl]; simp only [e, decide_false, Bool.false_and, Bool.false_eq_true, if_false]; rfl), sb]
    cases hc : firstP (shapeP p n) l 0 with
    | none => simp [outP, h]
    | some r =>
      have : r = false := firstP_false (fun k x r h => by unfold shapeP at h; split at h <;> cases h; rfl) hc
      subst this
      simp [outP]
  · rw [if_pos (by simpa using h)]; simp [h]
theorem e_portsOk (n : T_Network) (l : List (List Int)) : fI_portsOk n l = some (decide ((l.length : Int) = n.Ends.length) && (firstP (portP n) l 0).isNone) := by
  unfold fI_portsOk
  by_cases h : (l.length : Int) = n.Ends.length
  · rw [if_neg (by simpa using h), forI_first0 (portP n) l (fun j x hj _ => by
      have hjl := (List.getElem?_eq_some_iff.1 hj).1
      unfold fI_portsOk_s1 portP lenP
      rw [ix_rowk (by omega), sb]
      by_cases e : (x.length : Int) = (n.Ends.getD j []).length
      · rw [if_neg (by simpa using e)]; simp only [e, decide_true, if_true]; rfl
      · rw [if_pos (by simpa using e)]; simp only [e, decide_false, Bool.false_eq_true, if_false]; rfl), sb]
    cases hc : firstP (portP n) l 0 with
    | none => simp [outP, h]
    | some r =>
      have : r = false := firstP_false (fun k x r h => by unfold portP at h; split at h <;> cases h; rfl) hc
      subst this
      simp [outP]
  · rw [if_pos (by simpa using h)]; simp [h]
theorem e_isLabeling (p : T_Problem) (n : T_Network) (l : List (List Int)) (h1 : 1 ≤ p.Labels) (h8 : p.Labels ≤ 8) (hl : l.length ≤ 1000000000) (hr : ∀ x, x ∈ l → x.length ≤ 1000000000) : fI_isLabeling p n l = some (shapeB p n l) := by
  unfold fI_isLabeling shapeB
  rw [e_portsOk, sb]
  by_cases h : (l.length : Int) = n.Ends.length
  · simp only [h, decide_true, Bool.true_and]
    have key : ((firstP (portP n) l 0).isNone && !(l.any fun x => !(x.all (inB 0 (p.Labels - 1))))) = (firstP (shapeP p n) l 0).isNone := by
      rw [Bool.eq_iff_iff, Bool.and_eq_true, Option.isNone_iff_eq_none, Option.isNone_iff_eq_none, firstP_none, firstP_none]
      simp only [Bool.not_eq_true', List.any_eq_false, Bool.not_eq_true']
      constructor
      · rintro ⟨a, b⟩ j x hj
        have a' := a j x hj
        have b' := b x (List.mem_of_getElem? hj)
        unfold portP at a'
        unfold shapeP
        cases hlp : lenP n (0 + j) x
        · rw [hlp] at a'; simp at a'
        · simp at b'
          have : x.all (inB 0 (p.Labels - 1)) = true := by simpa using b'
          rw [this]; rfl
      · intro a
        refine ⟨fun j x hj => ?_, fun x hx => ?_⟩
        · have a' := a j x hj
          unfold shapeP at a'
          unfold portP
          cases hlp : lenP n (0 + j) x
          · rw [hlp] at a'; simp at a'
          · rfl
        · obtain ⟨j, hj⟩ := List.mem_iff_getElem?.1 hx
          have a' := a j x hj
          unfold shapeP at a'
          cases hx : x.all (inB 0 (p.Labels - 1))
          · rw [hx, Bool.and_false] at a'; simp at a'
          · simp
    cases hpn : (firstP (portP n) l 0).isNone
    · rw [hpn, Bool.false_and] at key
      rw [if_neg (by simp), sb, ← key]
    · rw [hpn, Bool.true_and] at key
      rw [if_pos rfl, e_ContainsFuncM l _ (fun x => !(x.all (inB 0 (p.Labels - 1)))) (fun x hx => by
        unfold fI_isLabeling_1 fI_Problem_hasLabels
        rw [ck_in (by omega) (by omega), sb, e_allWithin _ _ _ (hr x hx), sb, sb]) hl, sb, sb, key]
  · simp [h, sb]
def labelB (p : T_Problem) (n : T_Network) (l : List (List Int)) : Bool × Bool := if probB p && netB n then (shapeB p n l, true) else (false, false)
theorem e_specLabeling (fuel : Nat) (hf : 10 ≤ fuel) (p : T_Problem) (n : T_Network) (l : List (List Int)) (hJ : p.Nodes.length ≤ 1000000000) (hE : p.Edges.length ≤ 1000000000) (hn : SzN n) : fS_IsLabeling fuel p n l = some (labelB p n l) := by
  unfold fS_IsLabeling labelB
  rw [e_prGood fuel hf p hJ hE, sb]
  cases h : probB p
  · simp [sb]
  · obtain ⟨h1, h2, _⟩ := probB_iff h
    rw [if_neg (by simp), e_neGood n hn, sb, sb]
    cases h3 : netB n
    · simp
    · rw [if_neg (by simp), e_prShape p n l h1 h2, sb]; simp
theorem e_implLabeling (fuel : Nat) (hf : 10 ≤ fuel) (p : T_Problem) (n : T_Network) (l : List (List Int)) (hJ : p.Nodes.length ≤ 1000000000) (hE : p.Edges.length ≤ 1000000000) (hn : SzN n) (hl : l.length ≤ 1000000000) (hr : ∀ x, x ∈ l → x.length ≤ 1000000000) : fI_IsLabeling fuel p n l = some (labelB p n l) := by
  unfold fI_IsLabeling labelB
  rw [e_IsProblem fuel hf p hJ hE, sb]
  cases h : probB p
  · simp [sb]
  · obtain ⟨h1, h2, _⟩ := probB_iff h
    rw [if_neg (by simp), e_IsNetwork n hn, sb, sb]
    cases h3 : netB n
    · simp
    · rw [if_neg (by simp), e_isLabeling p n l h1 h2 hl hr, sb]; simp
end Go.Proofs.Ytijaojnaamkinaa
