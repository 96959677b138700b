/- CodeFrom and SameRoots: what both sides compute. -/
import Derived.Test.YtijaojnaamkinaaNb
import Derived.Test.YtijaojnaamkinaaNz
import Derived.Test.YtijaojnaamkinaaGNc
namespace Go.Proofs.Ytijaojnaamkinaa
set_option linter.unusedSimpArgs false
set_option linter.unusedVariables false

theorem szN_of {p : T_Network} (h : szN p ≤ 1048576) : SzN p := by
  unfold szN at h
  exact ⟨by omega, by omega, by omega, fun r hr => by have := sumN_mem hr; omega⟩
theorem e_EqualN (xs ys : List Int) (hl : xs.length ≤ 1000000000) (hy : ys.length ≤ 1000000000) : fX_slices_Equal_int_int xs ys = some (decide (xs = ys)) := by
  unfold fX_slices_Equal_int_int
  by_cases h : xs.length = ys.length
  · rw [if_neg (by simp [h]), ck_in (by omega) (by omega), sb]
    simp only [Int.toNat_natCast]
    rw [forN_first0 (fun k x => if x = ys.getD k 0 then none else some false) xs (fun j x hj _ => by
      have hjl := (List.getElem?_eq_some_iff.1 hj).1
      unfold fX_slices_Equal_int_int_s1
      rw [ix_nat, hj, sb, ix_lt _ _ (show j < ys.length by omega), sb]
      have : ys.getD j 0 = ys[j]'(by omega) := by simp [List.getElem?_eq_getElem (show j < ys.length by omega)]
      simp only [this]
      by_cases e : x = ys[j]'(by omega)
      · simp [e, lpP]
      · simp [e, lpP]), sb]
    cases hc : firstP (fun k x => if x = ys.getD k 0 then none else some false) xs 0 with
    | none =>
      have : xs = ys := by
        refine List.ext_getElem h fun j h1 h2 => ?_
        have := firstP_none.1 hc j _ (List.getElem?_eq_getElem h1)
        rw [Nat.zero_add] at this
        split at this
        · rename_i e
          rw [e]
          simp [List.getElem?_eq_getElem h2]
        · cases this
      simp [outP, this]
    | some r =>
      obtain ⟨j, x, h1, h2⟩ := firstP_some hc
      rw [Nat.zero_add] at h2
      split at h2
      · cases h2
      · rename_i hne
        cases h2
        have : xs ≠ ys := fun e => hne (by rw [← e]; simp [h1])
        simp [outP, this]
  · rw [if_pos (by simp; omega)]
    have : xs ≠ ys := fun e => h (by rw [e])
    simp [this]
theorem codeN_len {p : T_Network} (g : GoodN p) {v : Int} (hv : 0 ≤ v ∧ v < p.Ends.length) : (codeN p (walkN p v)).length ≤ 1000 := by
  have h1 := flat_len p g (walkN p v) (walkN p v)
  have h2 := (walkN_ok g hv).le
  have h3 := g.n2
  unfold codeN
  omega
/-- A good network and one of its nodes. -/
def nodeN (p : T_Network) (v : Int) : Bool := netB p && inB 0 ((p.Ends.length : Int) - 1) v
theorem nodeN_good {p : T_Network} {v : Int} (h : nodeN p v = true) : GoodN p ∧ 0 ≤ v ∧ v < p.Ends.length := by
  unfold nodeN at h
  rw [Bool.and_eq_true] at h
  have := inB_iff.1 h.2
  exact ⟨netB_good h.1, by omega, by omega⟩
theorem e_neNode (p : T_Network) (hp : SzN p) (v : Int) : fS_neNode p v = some (nodeN p v) := by
  unfold fS_neNode nodeN
  have := hp.ends
  rw [e_neGood p hp, sb]
  cases netB p
  · simp [sb]
  · rw [if_pos rfl, ck_in (by omega) (by omega), sb, e_l1In, sb, sb]; simp [inB]
theorem e_nodesOk (p q : T_Network) (hp : SzN p) (hq : SzN q) (v w : Int) : fI_nodesOk p v q w = some (nodeN p v && nodeN q w) := by
  unfold fI_nodesOk nodeN
  rw [e_IsNetwork p hp, sb]
  cases netB p
  · simp [sb]
  · rw [if_pos rfl, e_IsNetwork q hq, sb]
    cases netB q
    · simp [sb]
    · rw [if_pos rfl, e_hasNode p hp, sb]
      cases inB 0 ((p.Ends.length : Int) - 1) v
      · simp [sb]
      · rw [if_pos rfl, e_hasNode q hq, sb]; simp [sb]
def sameRootsB (p : T_Network) (v : Int) (q : T_Network) (w : Int) : Bool × Bool := if nodeN p v && nodeN q w then (decide (codeN p (walkN p v) = codeN q (walkN q w)), true) else (false, false)
theorem e_specSameRoots (fuel : Nat) (hf : 100 ≤ fuel) (p q : T_Network) (hp : SzN p) (hq : SzN q) (v w : Int) : fS_SameRoots fuel p v q w = some (sameRootsB p v q w) := by
  unfold fS_SameRoots sameRootsB
  rw [e_neNode p hp, sb]
  cases h1 : nodeN p v
  · simp [sb]
  · obtain ⟨g1, h1'⟩ := nodeN_good h1
    rw [if_neg (by simp), e_neNode q hq, sb, sb]
    cases h2 : nodeN q w
    · simp [sb]
    · obtain ⟨g2, h2'⟩ := nodeN_good h2
      have := codeN_len g1 h1'
      rw [if_neg (by simp), e_isFrom fuel hf p g1 v h1', sb, e_isFrom fuel hf q g2 w h2', sb, e_l1Same _ _ (by omega), sb]; simp
theorem e_sameCodes (fuel : Nat) (hf : 100 ≤ fuel) (p q : T_Network) (g1 : GoodN p) (g2 : GoodN q) (v w : Int) (h1' : 0 ≤ v ∧ v < p.Ends.length) (h2' : 0 ≤ w ∧ w < q.Ends.length) :
    fI_sameCodes fuel p v q w = some (decide (codeN p (walkN p v) = codeN q (walkN q w))) := by
  unfold fI_sameCodes
  have l1 := codeN_len g1 h1'
  have l2 := codeN_len g2 h2'
  rw [e_codeFrom fuel hf p g1 v h1', sb, e_codeFrom fuel hf q g2 w h2', sb, e_EqualN (codeN p (walkN p v)) (codeN q (walkN q w)) (by omega) (by omega), sb]
theorem e_implSameRoots (fuel : Nat) (hf : 100 ≤ fuel) (p q : T_Network) (hp : SzN p) (hq : SzN q) (v w : Int) : fI_SameRoots fuel p v q w = some (sameRootsB p v q w) := by
  unfold fI_SameRoots sameRootsB
  rw [e_nodesOk p q hp hq, sb]
  cases h1 : nodeN p v && nodeN q w
  · simp
  · rw [Bool.and_eq_true] at h1
    obtain ⟨g1, h1'⟩ := nodeN_good h1.1
    obtain ⟨g2, h2'⟩ := nodeN_good h1.2
    rw [if_neg (by simp), e_sameCodes fuel hf p q g1 g2 v w h1' h2', sb]; simp
end Go.Proofs.Ytijaojnaamkinaa
