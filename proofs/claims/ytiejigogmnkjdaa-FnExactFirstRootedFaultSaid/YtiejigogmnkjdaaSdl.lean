/- SolveDown: both sides fill the tree alike. -/
import Derived.Test.YtiejigogmnkjdaaPt
import Derived.Test.YtiejigogmnkjdaaIfl
import Derived.Test.YtiejigogmnkjdaaGM
namespace Go.Proofs.Ytiejigogmnkjdaa
set_option linter.unusedSimpArgs false
set_option linter.unusedVariables false

/-! ### Trees -/
def parB (k : Nat) (x : Int) : Bool := if k = 0 then x == -1 else inB 0 ((k : Int) - 1) x
def parP (k : Nat) (x : Int) : Option Bool := if parB k x then none else some false
def treeB (c : Int) (par : List Int) : Bool := inB 1 3 c && inB 1 200 (par.length : Int) && (firstP parP par 0).isNone && (kidsL par par.length).all fun l => decide (l = []) || decide ((l.length : Int) = c)
theorem parP_res {xs : List Int} {k : Nat} {r : Bool} (h : firstP parP xs k = some r) : r = false := by
  obtain ⟨j, x, _, h2⟩ := firstP_some h
  unfold parP at h2
  split at h2 <;> cases h2
  rfl
theorem parP_none {par : List Int} (h : firstP parP par 0 = none) : ∀ (j : Nat) x, par[j]? = some x → if j = 0 then x = -1 else 0 ≤ x ∧ x < j := by
  intro j x hj
  have := firstP_none.1 h j x hj
  unfold parP at this
  rw [Nat.zero_add] at this
  split at this
  · rename_i hh
    unfold parB at hh
    by_cases h0 : j = 0
    · rw [if_pos h0] at hh ⊢; simpa using hh
    · rw [if_neg h0] at hh ⊢; have := inB_iff.1 hh; omega
  · cases this
theorem par_lt {par : List Int} (h : firstP parP par 0 = none) : ∀ x, x ∈ par → x < par.length := by
  intro x hx
  obtain ⟨j, hj⟩ := List.mem_iff_getElem?.1 hx
  have hjl := (List.getElem?_eq_some_iff.1 hj).1
  have := parP_none h j x hj
  split at this <;> omega
theorem e_roTree (c : Int) (par : List Int) (hl : par.length ≤ 1048576) : fS_roTree c par = some (treeB c par) := by
  unfold fS_roTree treeB
  rw [e_l1In, sb]
  by_cases hc : inB 1 3 c = true
  · have hc' := hc
    simp only [inB] at hc'
    rw [hc', if_neg (by simp), e_l1In, sb]
    by_cases hn : inB 1 200 (par.length : Int) = true
    · have hn' := inB_iff.1 hn
      have hn2 := hn
      simp only [inB] at hn2
      rw [hn2, sb, if_neg (by simp), forI_first0 parP par (fun j x hj hall => by
        have hjl := (List.getElem?_eq_some_iff.1 hj).1
        unfold fS_roTree_s1
        rw [ck_in (by omega) (by omega), sb, e_l1In, sb]
        rw [show (decide (0 ≤ x) && decide (x ≤ (j : Int) - 1)) = inB 0 ((j : Int) - 1) x from rfl]
        unfold parP parB
        by_cases h0 : j = 0
        · subst h0
          rw [if_pos (by simp only [inB]; simp; omega), if_neg (by simp), sb]
          by_cases hx : x = -1
          · subst hx; simp [lpP]
          · simp [hx, lpP]
        · rw [if_neg h0]
          by_cases hb : inB 0 ((j : Int) - 1) x = true
          · rw [hb]; simp [lpP, sb]
          · rw [if_pos (by simpa using hb), if_pos (by simp; omega), sb]
            simp [hb, lpP]), sb]
      cases hp : firstP parP par 0 with
      | some r => have := parP_res hp; subst this; simp [outP, hc, hn]
      | none =>
        simp only [outP]
        rw [e_roBelow par (par_lt hp) (by omega), sb, forI_first0 (fun _ l => if decide (l = []) || decide ((l.length : Int) = c) then none else some false) _ (fun j l hj hall => by
          unfold fS_roTree_s2
          by_cases h1 : l = []
          · subst h1; simp [lpP, sb]
          · have : (l.length : Int) ≠ 0 := by
              intro e; apply h1; exact List.eq_nil_of_length_eq_zero (by omega)
            rw [if_pos (by simpa using this), sb]
            by_cases h2 : (l.length : Int) = c
            · simp [h2, lpP]
            · simp [h1, h2, lpP]), sb, firstP_all]
        simp only [hc, hn, Option.isNone_none, Bool.true_and]
        cases (kidsL par par.length).all (fun l => decide (l = []) || decide ((l.length : Int) = c)) <;> rfl
    · have hn2 := hn
      simp only [inB] at hn2
      simp [hc, hn, sb, hn2, inB]
  · have hc' := hc
    simp only [inB] at hc'
    simp [hc, sb, hc', inB]
theorem e_IsRootedTree (c : Int) (par : List Int) (hl : par.length ≤ 1048576) : fI_IsRootedTree c par = some (treeB c par) := by
  unfold fI_IsRootedTree treeB
  rw [e_within, sb]
  by_cases hc : inB 1 3 c = true
  · have hc' := hc
    simp only [inB] at hc'
    rw [hc', if_neg (by simp), e_within, sb]
    by_cases hn : inB 1 200 (par.length : Int) = true
    · have hn' := inB_iff.1 hn
      have hn2 := hn
      simp only [inB] at hn2
      rw [hn2, if_neg (by simp), show (0 : Int) = ((0 : Nat) : Int) from rfl, ix_lt par 0 (by omega), sb, sb]
      by_cases h0 : par[0]'(by omega) = -1
      · rw [if_neg (by simp [h0]), show ((0 : Nat) : Int) = 0 from rfl, forI_first0 parP par (fun j x hj hall => by
          have hjl := (List.getElem?_eq_some_iff.1 hj).1
          unfold fI_IsRootedTree_s1 parP parB
          by_cases hj0 : j = 0
          · subst hj0
            have : x = -1 := by rw [← h0]; exact ((List.getElem?_eq_some_iff.1 hj).2).symm
            subst this
            simp [lpP, sb]
          · rw [if_pos (by simp; omega), ck_in (by omega) (by omega), sb, e_within, sb, sb, if_neg hj0]
            rw [show (decide (0 ≤ x) && decide (x ≤ (j : Int) - 1)) = inB 0 ((j : Int) - 1) x from rfl]
            cases hb : inB 0 ((j : Int) - 1) x <;> simp [lpP]), sb]
        cases hp : firstP parP par 0 with
        | some r => have := parP_res hp; subst this; simp [outP, hc, hn]
        | none =>
          simp only [outP]
          rw [e_childrenOf par (par_lt hp) (by omega), sb, e_ContainsFuncL _ _ (fun l => !(decide (l = []) || decide ((l.length : Int) = c))) (fun l hl => by
            unfold fI_IsRootedTree_1
            by_cases h1 : l = []
            · subst h1; simp [sb]
            · have : (l.length : Int) ≠ 0 := by
                intro e; apply h1; exact List.eq_nil_of_length_eq_zero (by omega)
              rw [if_pos (by simpa using this), sb]
              by_cases h2 : (l.length : Int) = c
              · simp [h2]
              · simp [h1, h2]) (by rw [kidsL_length]; omega), sb]
          simp only [hc, hn, Option.isNone_none, Bool.true_and]
          congr 1
          rw [List.not_any_eq_all_not]
          simp
      · rw [if_pos (by simpa using h0)]
        have : firstP parP par 0 ≠ none := by
          intro hp
          have := parP_none hp 0 _ (List.getElem?_eq_getElem (by omega))
          rw [if_pos rfl] at this
          exact h0 this
        cases hp : firstP parP par 0 with
        | none => exact absurd hp this
        | some r => simp
    · have hn2 := hn
      simp only [inB] at hn2
      simp [hc, hn, sb, hn2, inB]
  · have hc' := hc
    simp only [inB] at hc'
    simp [hc, sb, hc', inB]
theorem treeB_iff {c : Int} {par : List Int} (h : treeB c par = true) : 1 ≤ c ∧ c ≤ 3 ∧ 1 ≤ par.length ∧ par.length ≤ 200 ∧ firstP parP par 0 = none ∧ ∀ l, l ∈ kidsL par par.length → l = [] ∨ (l.length : Int) = c := by
  simp only [treeB, Bool.and_eq_true, Option.isNone_iff_eq_none, List.all_eq_true, Bool.or_eq_true, decide_eq_true_eq] at h
  obtain ⟨⟨⟨h1, h2⟩, h3⟩, h4⟩ := h
  have := inB_iff.1 h1
  have := inB_iff.1 h2
  exact ⟨by omega, by omega, by omega, by omega, h3, h4⟩
def askB (p : T_RootedProblem) (par : List Int) : Bool := rootedB p && treeB p.Children par
theorem e_roAsked (fuel : Nat) (hf : 4 < fuel) (p : T_RootedProblem) (par : List Int) (hJ : p.Lines.length ≤ 1000000000) (hl : par.length ≤ 1048576) : fS_roAsked fuel p par = some (askB p par) := by
  unfold fS_roAsked askB
  rw [e_roGood fuel hf p hJ, sb]
  cases rootedB p
  · simp [sb]
  · simp only [if_true]
    rw [e_roTree _ _ hl, sb, sb]; simp
theorem e_rootedOk (fuel : Nat) (hf : 4 < fuel) (p : T_RootedProblem) (par : List Int) (hJ : p.Lines.length ≤ 1000000000) (hl : par.length ≤ 1048576) : fI_rootedOk fuel p par = some (askB p par) := by
  unfold fI_rootedOk askB
  rw [e_implIsRooted fuel hf p hJ, sb]
  cases rootedB p
  · simp [sb]
  · simp only [if_true]
    rw [e_IsRootedTree _ _ hl, sb, sb]; simp
/-! ### Filling -/
/-- A line that begins with a and goes on in S. -/
def goodL (S : Nat) (a : Nat) (x : List Int) : Bool := decide (x.headD 0 = (a : Int)) && kidsIn S x
theorem lines_of {p : T_RootedProblem} (h : rootedB p = true) : ∀ x, x ∈ p.Lines → (x.length : Int) = p.Children + 1 ∧ ∀ y, y ∈ x → 0 ≤ y ∧ y ≤ p.Labels - 1 := by
  simp only [rootedB, Bool.and_eq_true, Option.isNone_iff_eq_none] at h
  intro x hx
  obtain ⟨j, hj⟩ := List.mem_iff_getElem?.1 hx
  have := lineP_none (firstP_none.1 h.2 j x hj)
  exact this
/-- The spec's search. -/
theorem find_loop (p : T_RootedProblem) (n S a : Nat) (hL : okLines n p.Lines) (s : List Int) (k : Nat) (hs : s[k]? = some (a : Int)) (hn : n ≤ 60) (hJ : p.Lines.length ≤ 1000000000) (idx : Nat) (x : List Int) (hx : p.Lines[idx]? = some x) (hg : goodL S a x = true)
    (hb : ∀ (i : Nat) y, i < idx → p.Lines[i]? = some y → goodL S a y = false) : ∀ (fuel j : Nat), j ≤ idx → idx < fuel + j → loopF (fS_SolveDown_s2 p (lbs n S) s (k : Int)) fuel (j : Int) = some (.inl (idx : Int)) := by
  have hil := (List.getElem?_eq_some_iff.1 hx).1
  have step : ∀ (j : Nat) y, p.Lines[j]? = some y → fS_SolveDown_s2 p (lbs n S) s (k : Int) (j : Int) = if goodL S a y then some (.out (j : Int)) else some (.go ((j + 1 : Nat) : Int)) := by
    intro j y hy
    have hjl := (List.getElem?_eq_some_iff.1 hy).1
    have h1 := hL y (List.mem_of_getElem? hy)
    have h2 := head_lt h1.1 h1.2.2
    have h3 := h1.2.2 (y.headD 0) (by cases y with
      | nil => simp at h1
      | cons b r => simp)
    unfold fS_SolveDown_s2
    rw [ix_nat, hy, sb, show ix y 0 = y[0]? from ix_nat y 0, h2.2, sb, ix_nat, hs, sb]
    unfold goodL
    by_cases e : y.headD 0 = (a : Int)
    · have e' : (((y.headD 0).toNat : Nat) : Int) = (a : Int) := by rw [e]; simp
      rw [if_neg (by rw [e']; simp), sb, cut_tail y h1.1, sb, e_prAll, sb, sb, kids_mem h1.2.2]
      cases hk : kidsIn S y
      · simp only [Bool.not_false, if_true, e, decide_true, Bool.and_false, Bool.false_eq_true, if_false]
        rw [ck_in (by omega) (by omega), sb]; rfl
      · rw [decide_eq_true e]; simp
    · have e' : (((y.headD 0).toNat : Nat) : Int) ≠ (a : Int) := by omega
      rw [if_pos (by simpa using e'), sb, if_pos rfl, ck_in (by omega) (by omega), sb]
      simp only [e, decide_false, Bool.false_and, Bool.false_eq_true, if_false]; rfl
  intro fuel
  induction fuel with
  | zero => intro j h1 h2; omega
  | succ fuel ih =>
    intro j h1 h2
    by_cases e : j = idx
    · subst e
      refine loopF_out ?_ fuel
      rw [step j x hx, hg, if_pos rfl]
    · have hjl : j < p.Lines.length := by omega
      have hy := List.getElem?_eq_getElem hjl
      rw [loopF_go (s' := ((j + 1 : Nat) : Int)) (by rw [step j _ hy, hb j _ (by omega) hy, if_neg (by simp)]) fuel]
      exact ih (j + 1) (by omega) (by omega)
theorem good_first (p : T_RootedProblem) (S a : Nat) (h : ∃ x, x ∈ p.Lines ∧ goodL S a x = true) :
    ∃ (idx : Nat) (x : List Int), p.Lines[idx]? = some x ∧ goodL S a x = true ∧ (∀ (i : Nat) y, i < idx → p.Lines[i]? = some y → goodL S a y = false) ∧ (firstP (fun k x => if goodL S a x then some (k : Int) else none) p.Lines 0).getD (-1) = (idx : Int) := by
  have key : ∀ (LL : List (List Int)) (k : Nat), (∃ x, x ∈ LL ∧ goodL S a x = true) → ∃ (idx : Nat) (x : List Int), LL[idx]? = some x ∧ goodL S a x = true ∧ (∀ (i : Nat) y, i < idx → LL[i]? = some y → goodL S a y = false) ∧ firstP (fun k x => if goodL S a x then some (k : Int) else none) LL k = some ((k + idx : Nat) : Int) := by
    intro LL
    induction LL with
    | nil => rintro k ⟨x, hx, _⟩; simp at hx
    | cons z LL ih =>
      rintro k ⟨x, hx, hg⟩
      by_cases hz : goodL S a z = true
      · exact ⟨0, z, rfl, hz, fun i y hi => by omega, by simp [firstP, hz]⟩
      · have hx' : x ∈ LL := by
          rcases List.mem_cons.1 hx with rfl | h
          · exact absurd hg hz
          · exact h
        obtain ⟨idx, x', h1, h2, h3, h4⟩ := ih (k + 1) ⟨x, hx', hg⟩
        refine ⟨idx + 1, x', h1, h2, fun i y hi hy => ?_, ?_⟩
        · cases i with
          | zero => simp at hy; subst hy; simpa using hz
          | succ i => exact h3 i y (by omega) hy
        · simp only [firstP, hz]
          rw [if_neg (by simp), show k + (idx + 1) = k + 1 + idx by omega]
          exact h4
  obtain ⟨idx, x, h1, h2, h3, h4⟩ := key p.Lines 0 h
  exact ⟨idx, x, h1, h2, h3, by rw [h4]; simp⟩
/-- What stands at w is a label of S. -/
def okAt (n S : Nat) (s : List Int) (w : Nat) : Prop := ∃ a : Nat, s[w]? = some (a : Int) ∧ a < n ∧ S.testBit a = true
def InvD (n S : Nat) (par : List Int) (k : Nat) (s : List Int) : Prop := s.length = par.length ∧ ∀ w, w < par.length → (w = 0 ∨ ∃ u, par[w]? = some u ∧ 0 ≤ u ∧ u < k) → okAt n S s w
theorem inner (p : T_RootedProblem) (n S N : Nat) (hp : p.Labels = n) (idx : Nat) (x : List Int) (hx : p.Lines[idx]? = some x) (hC3 : p.Children ≤ 3) (hlen : (x.length : Int) = p.Children + 1) (hmem : ∀ y, y ∈ x → 0 ≤ y ∧ y ≤ p.Labels - 1) (hk : kidsIn S x = true)
    (l : List Int) (hll : (l.length : Int) = p.Children) (hl : ∀ y, y ∈ l → 0 ≤ y ∧ y < N) (hN : N ≤ 200) (s : List Int) (hs : s.length = N) :
    ∃ r, forI (fS_SolveDown_s3 p (idx : Int)) l 0 s = some (.inl r) ∧ forI (fI_SolveDown_s2 p (idx : Int)) l 0 s = some (.inl r) ∧ r.length = N ∧ ∀ w : Nat, w < N → ((w : Int) ∈ l → okAt n S r w) ∧ ((w : Int) ∉ l → r[w]? = s[w]?) := by
  have := forI_two (f := fS_SolveDown_s3 p (idx : Int)) (g := fI_SolveDown_s2 p (idx : Int)) (fun j t => t.length = N ∧ ∀ w : Nat, w < N → ((w : Int) ∈ l.take j → okAt n S t w) ∧ ((w : Int) ∉ l.take j → t[w]? = s[w]?)) l 0 s
    ⟨hs, fun w _ => ⟨fun h => by simp at h, fun _ => rfl⟩⟩ (fun j y t hj ht => by
      rw [Nat.zero_add] at ht ⊢
      have hjl := (List.getElem?_eq_some_iff.1 hj).1
      have hy := hl y (List.mem_of_getElem? hj)
      obtain ⟨c, rfl⟩ : ∃ c : Nat, y = c := ⟨y.toNat, by omega⟩
      have hc : c < t.length := by omega
      have hj1 : j + 1 < x.length := by omega
      have hv := List.getElem?_eq_getElem hj1
      have hvm := hmem _ (List.mem_of_getElem? hv)
      have hvk : S.testBit (x[j + 1]).toNat = true := by
        unfold kidsIn at hk
        rw [List.all_eq_true] at hk
        refine hk _ ?_
        have : x.tail[j]? = some x[j + 1] := by rw [List.getElem?_tail]; exact hv
        exact List.mem_of_getElem? this
      refine ⟨t.set c x[j + 1], ?_, ?_, ?_⟩
      · unfold fS_SolveDown_s3
        rw [ix_nat, hx, sb, ck_in (by omega) (by omega), sb, show (1 : Int) + (j : Int) = ((j + 1 : Nat) : Int) by omega, ix_nat, hv, sb, ix_lt _ _ hc, sb, st_nat _ _ _ hc, sb]
      · unfold fI_SolveDown_s2
        rw [ix_nat, hx, sb, ck_in (by omega) (by omega), sb, show (j : Int) + 1 = ((j + 1 : Nat) : Int) by omega, ix_nat, hv, sb, ix_lt _ _ hc, sb, st_nat _ _ _ hc, sb]
      · refine ⟨by simp [ht.1], fun w hw => ?_⟩
        have htk : l.take (j + 1) = l.take j ++ [(c : Int)] := by rw [List.take_add_one, hj]; rfl
        have h0 := ht.2 w hw
        rw [htk]
        simp only [List.mem_append, List.mem_singleton]
        by_cases e : c = w
        · subst e
          refine ⟨fun _ => ⟨(x[j + 1]).toNat, ?_, by omega, hvk⟩, fun h => absurd (Or.inr rfl) h⟩
          rw [List.getElem?_set_self hc]
          congr 1; omega
        · have e' : ¬ (w : Int) = (c : Int) := by omega
          refine ⟨fun h => ?_, fun h => ?_⟩
          · obtain ⟨a, a1, a2⟩ := h0.1 (h.resolve_right e')
            exact ⟨a, by rw [List.getElem?_set_ne e]; exact a1, a2⟩
          · rw [List.getElem?_set_ne e]; exact h0.2 (fun h' => h (Or.inl h')))
  obtain ⟨r, r1, r2, r3, r4⟩ := this
  rw [Nat.zero_add, List.take_length] at r4
  exact ⟨r, r1, r2, r3, r4⟩
theorem step_down (p : T_RootedProblem) (fuel n S : Nat) (hp : p.Labels = n) (hn : n ≤ 8) (hr : rootedB p = true) (hS : S < 2 ^ n) (hfix : abv p.Lines S = S) (par : List Int) (ht : treeB p.Children par = true) (hJ : p.Lines.length ≤ 1048576) (hf : 2000000 ≤ fuel)
    (k : Nat) (l : List Int) (s : List Int) (hk : (kidsL par par.length)[k]? = some l) (hI : InvD n S par k s) :
    ∃ s', fS_SolveDown_s1 fuel p (lbs n S) (k : Int) l s = some (.go s') ∧ fI_SolveDown_s1 p (S : Int) (k : Int) l s = some (.go s') ∧ InvD n S par (k + 1) s' := by
  obtain ⟨t1, t2, t3, t4, t5, t6⟩ := treeB_iff ht
  obtain ⟨p1, p2, p3⟩ := okLines_of hr
  have hnL : p.Labels.toNat = n := by omega
  rw [hnL] at p3
  have hkl : k < par.length := by have := (List.getElem?_eq_some_iff.1 hk).1; rw [kidsL_length] at this; exact this
  have hl : l = kidF par par.length k := by rw [kidsL_get hkl] at hk; exact (Option.some.inj hk).symm
  have hmem : ∀ w : Nat, (w : Int) ∈ l ↔ w < par.length ∧ par[w]? = some (k : Int) := by
    intro w
    rw [hl, mem_kidF]
    constructor
    · rintro ⟨w', e, h1, h2⟩
      have : w = w' := by omega
      subst this
      rw [List.getD_eq_getElem?_getD, List.getElem?_eq_getElem h1] at h2
      exact ⟨h1, by rw [List.getElem?_eq_getElem h1]; exact congrArg some h2⟩
    · rintro ⟨h1, h2⟩
      exact ⟨w, rfl, h1, by rw [List.getD_eq_getElem?_getD, h2]; rfl⟩
  unfold fS_SolveDown_s1 fI_SolveDown_s1
  by_cases h0 : l = []
  · refine ⟨s, by rw [if_pos (by simp [h0])], by rw [if_pos (by simp [h0])], hI.1, fun w hw h => hI.2 w hw ?_⟩
    rcases h with h | ⟨u, hu, hu1, hu2⟩
    · exact Or.inl h
    · refine Or.inr ⟨u, hu, hu1, ?_⟩
      by_cases e : u = k
      · subst e
        have := (hmem w).2 ⟨hw, hu⟩
        rw [h0] at this; simp at this
      · omega
  · have hlen : (l.length : Int) = p.Children := (t6 l (List.mem_of_getElem? hk)).resolve_left h0
    have hne : ¬ (((l.length : Int) == 0) = true) := by rw [beq_iff_eq]; omega
    rw [if_neg hne, if_neg hne]
    obtain ⟨a, a1, a2, a3⟩ := hI.2 k hkl (by
      by_cases e : k = 0
      · exact Or.inl e
      · have := parP_none t5 k _ (List.getElem?_eq_getElem hkl)
        rw [if_neg e] at this
        exact Or.inr ⟨_, List.getElem?_eq_getElem hkl, this⟩)
    have hex : ∃ x, x ∈ p.Lines ∧ goodL S a x = true := by
      have h3 := a3
      rw [← hfix, abv_test, List.any_eq_true] at h3
      obtain ⟨x, hx, h4⟩ := h3
      rw [Bool.and_eq_true, decide_eq_true_eq] at h4
      have h5 := p3 x hx
      have h6 := h5.2.2 (x.headD 0) (by cases x with
        | nil => simp at h5
        | cons b r => simp)
      refine ⟨x, hx, ?_⟩
      unfold goodL
      rw [Bool.and_eq_true, decide_eq_true_eq]
      exact ⟨by omega, h4.1⟩
    obtain ⟨idx, x, x1, x2, x3, x4⟩ := good_first p S a hex
    have hxm := lines_of hr x (List.mem_of_getElem? x1)
    have hkd : kidsIn S x = true := by unfold goodL at x2; rw [Bool.and_eq_true] at x2; exact x2.2
    have hil := (List.getElem?_eq_some_iff.1 x1).1
    obtain ⟨r, r1, r2, r3, r4⟩ := inner p n S par.length hp idx x x1 t2 hxm.1 hxm.2 hkd l hlen (fun y hy => by
      rw [hl, mem_kidF] at hy
      obtain ⟨w, rfl, hw, _⟩ := hy
      omega) t4 s hI.1
    have e1 := find_loop p n S a p3 s k a1 (by omega) (by omega) idx x x1 x2 x3 fuel 0 (by omega) (by omega)
    rw [show ((0 : Nat) : Int) = 0 from rfl] at e1
    have e2 := e_IndexFuncL p.Lines (fun z => fI_SolveDown_1 z s (k : Int) (S : Int)) (goodL S a) (fun y hy => by
      have h1 := p3 y hy
      have h2 := head_lt h1.1 h1.2.2
      have h3 := h1.2.2 (y.headD 0) (by cases y with
        | nil => simp at h1
        | cons b r => simp)
      unfold fI_SolveDown_1 goodL
      rw [show ix y 0 = y[0]? from ix_nat y 0, h2.2, sb, ix_nat, a1, sb]
      by_cases e : y.headD 0 = (a : Int)
      · have e' : (((y.headD 0).toNat : Nat) : Int) = (a : Int) := by rw [e]; simp
        have hS2 : S < 2 ^ 60 := Nat.lt_of_lt_of_le hS (Nat.pow_le_pow_right (by decide) (by omega))
        rw [if_pos (by rw [e']; simp), e_onlyIn S hS2 y (by omega) (fun z hz => by have := h1.2.2 z hz; omega), sb, sb]
        congr 1
        cases y with
        | nil => simp at h1
        | cons b r =>
          simp only [List.headD_cons] at e
          subst e
          simp [kidsIn, a3]
      · have e' : (((y.headD 0).toNat : Nat) : Int) ≠ (a : Int) := by omega
        rw [if_neg (by simpa using e'), sb]
        rw [decide_eq_false e]; simp) (by omega)
    rw [x4] at e2
    refine ⟨r, ?_, ?_, ?_⟩
    · rw [e1, sb]
      simp only
      rw [r1, sb]
    · rw [e2, sb, r2, sb]
    · refine ⟨r3, fun w hw h => ?_⟩
      have h4 := r4 w hw
      by_cases hwl : (w : Int) ∈ l
      · exact h4.1 hwl
      · obtain ⟨b, b1, b2⟩ := hI.2 w hw (by
          rcases h with h | ⟨u, hu, hu1, hu2⟩
          · exact Or.inl h
          · refine Or.inr ⟨u, hu, hu1, ?_⟩
            by_cases e : u = k
            · subst e; exact absurd ((hmem w).2 ⟨hw, hu⟩) hwl
            · omega)
        exact ⟨b, by rw [h4.2 hwl]; exact b1, b2⟩
theorem lbs_nil {n S : Nat} (hS : S < 2 ^ n) : (lbs n S = []) ↔ S = 0 := by
  have h0 : lbs n 0 = [] := by simp [lbs]
  constructor
  · intro h; exact lbs_inj hS (Nat.two_pow_pos n) (h.trans h0.symm)
  · rintro rfl; exact h0
theorem e_solveDown (fuel : Nat) (hf : 2000000 ≤ fuel) (p : T_RootedProblem) (par : List Int) (hJ : p.Lines.length ≤ 1048576) (hl : par.length ≤ 1048576) :
    ∃ r, fS_SolveDown fuel p par = some r ∧ fI_SolveDown fuel p par = some r ∧ r.1.length ≤ 200 ∧ (r.2 = false → r.1 = []) := by
  unfold fS_SolveDown fI_SolveDown
  rw [e_roAsked fuel (by omega) p par (by omega) hl, sb, e_rootedOk fuel (by omega) p par (by omega) hl, sb]
  cases ha : askB p par
  · exact ⟨([], false), by simp, by simp [sb], by simp, by simp⟩
  · simp only [askB, Bool.and_eq_true] at ha
    obtain ⟨hr, ht⟩ := ha
    obtain ⟨h1, h2, h3⟩ := okLines_of hr
    obtain ⟨t1, t2, t3, t4, t5, t6⟩ := treeB_iff ht
    generalize hn : p.Labels.toNat = n at h1 h2 h3
    have hS : rootS p.Lines n (-1) < 2 ^ n := itR_lt h3 _
    have hS1 : rootS p.Lines n (p.Labels + 1) = rootS p.Lines n (-1) := by
      unfold rootS
      rw [if_neg (by omega), if_neg (by omega)]
    have hfix : abv p.Lines (rootS p.Lines n (-1)) = rootS p.Lines n (-1) := by
      unfold rootS
      rw [if_neg (by omega)]
      exact itR_stop h3
    rw [if_neg (by simp), if_neg (by simp), ck_in (by omega) (by omega), sb, e_roRoots n fuel p h1 h3 (by omega) (by omega) _ (by omega) (by omega), sb, hS1,
      e_rootsOfDepth n fuel p h1 h3 (by omega) (by omega) _ (by omega) (by omega), sb, sb]
    generalize rootS p.Lines n (-1) = S at hS hfix
    by_cases h0 : S = 0
    · subst h0
      exact ⟨([], false), by rw [(lbs_nil hS).2 rfl]; simp, by simp, by simp, by simp⟩
    · have hne : lbs n S ≠ [] := fun h => h0 ((lbs_nil hS).1 h)
      obtain ⟨b, L', hb⟩ := List.exists_cons_of_ne_nil hne
      have hbm : b ∈ lbs n S := by rw [hb]; simp
      obtain ⟨c, rfl, hc1, hc2⟩ := mem_lbs.1 hbm
      have hix : ix (lbs n S) 0 = some (c : Int) := by rw [show ix (lbs n S) 0 = (lbs n S)[0]? from ix_nat _ 0, hb]; rfl
      have hmk : mk (Rz.z : Int) (par.length : Int) = some (List.replicate par.length (Rz.z : Int)) := by unfold mk; rw [if_pos (by omega)]; rfl
      have hrep : (List.replicate par.length (Rz.z : Int)).length = par.length := by simp
      generalize List.replicate par.length (Rz.z : Int) = R at hrep hmk
      have hR0 : 0 < R.length := by omega
      have hR1 : ix R 0 = some R[0] := by rw [show ix R 0 = R[0]? from ix_nat R 0, List.getElem?_eq_getElem hR0]
      have hst : st R 0 (c : Int) = some (R.set 0 (c : Int)) := st_nat R 0 _ hR0
      obtain ⟨r, r1, r2, r3⟩ := forI_two (f := fS_SolveDown_s1 fuel p (lbs n S)) (g := fI_SolveDown_s1 p (S : Int)) (InvD n S par) (kidsL par par.length) 0 (R.set 0 (c : Int)) ⟨by simp [hrep], fun w hw h => by
        rcases h with rfl | ⟨u, hu, hu1, hu2⟩
        · exact ⟨c, List.getElem?_set_self hR0, hc1, hc2⟩
        · omega⟩ (fun j l s hj hI => by
          rw [Nat.zero_add] at hI ⊢
          exact step_down p fuel n S h1 h2 hr hS hfix par ht hJ hf j l s hj hI)
      rw [show ((0 : Nat) : Int) = 0 from rfl] at r1 r2
      refine ⟨(r, true), ?_, ?_, ?_, by simp⟩
      · rw [if_neg (by rw [hb]; simp; omega), hmk, sb, hix, sb, hR1, sb, hst, sb, e_roBelow par (par_lt t5) (by omega), sb, r1, sb]
      · rw [if_neg (by rw [beq_iff_eq]; omega), hmk, sb, e_labelsIn n S fuel hS (by omega) (by omega)]; show (ix (lbs n S) 0 >>= _) = _; rw [hix, sb, hR1, sb, hst, sb, e_childrenOf par (par_lt t5) (by omega), sb, r2, sb]
      · have := r3.1
        simp only; omega
end Go.Proofs.Ytiejigogmnkjdaa
