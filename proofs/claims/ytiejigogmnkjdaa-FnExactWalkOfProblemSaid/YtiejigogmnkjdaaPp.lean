/- Problems: their form; what they allow. -/
import Derived.Test.YtiejigogmnkjdaaBs
import Derived.Test.YtiejigogmnkjdaaPd
import Derived.Test.YtiejigogmnkjdaaPc
import Derived.Test.YtiejigogmnkjdaaGR
namespace Go.Proofs.Ytiejigogmnkjdaa
set_option linter.unusedSimpArgs false
set_option linter.unusedVariables false

/-! ### The order of lists of one length -/
theorem ordL_zero : ∀ {a b : List Int}, a.length = b.length → (ordL a b = 0 ↔ a = b)
  | [], [], _ => by simp [ordL]
  | [], _ :: _, h => by simp at h
  | _ :: _, [], h => by simp at h
  | x :: a, y :: b, h => by
    have ih := ordL_zero (a := a) (b := b) (by simpa using h)
    simp only [ordL]
    by_cases e : x < y
    · rw [if_pos e]; simp; omega
    · rw [if_neg e]
      by_cases e2 : x > y
      · rw [if_pos e2]; simp; omega
      · rw [if_neg e2, ih]
        have : x = y := by omega
        simp [this]
theorem ordL_trans : ∀ {a b c : List Int}, a.length = b.length → b.length = c.length → ordL a b < 0 → ordL b c < 0 → ordL a c < 0
  | [], [], [], _, _, h, _ => by simp [ordL] at h
  | [], [], _ :: _, _, h, _, _ => by simp at h
  | [], _ :: _, _, h, _, _, _ => by simp at h
  | _ :: _, [], _, h, _, _, _ => by simp at h
  | _ :: _, _ :: _, [], _, h, _, _ => by simp at h
  | x :: a, y :: b, z :: c, h1, h2, h3, h4 => by
    have ih := ordL_trans (a := a) (b := b) (c := c) (by simpa using h1) (by simpa using h2)
    simp only [ordL] at h3 h4 ⊢
    by_cases e : x < y
    · by_cases e2 : y < z
      · rw [if_pos (by omega)]; omega
      · rw [if_neg e2] at h4
        by_cases e3 : y > z
        · rw [if_pos e3] at h4; omega
        · rw [if_pos (by omega)]; omega
    · rw [if_neg e] at h3
      by_cases e2 : x > y
      · rw [if_pos e2] at h3; omega
      · rw [if_neg e2] at h3
        have : x = y := by omega
        subst this
        by_cases e3 : x < z
        · rw [if_pos e3]; omega
        · rw [if_neg e3] at h4 ⊢
          by_cases e4 : x > z
          · rw [if_pos e4] at h4; omega
          · rw [if_neg e4] at h4 ⊢
            exact ih h3 h4
/-! ### Lists of configurations -/
def confB (LL : List (List Int)) (m n : Int) (k : Nat) (x : List Int) : Bool :=
  decide ((x.length : Int) = m) && sortB x && x.all (inB 0 (n - 1)) && (decide (k = 0) || decide (ordL (LL.getD (k - 1) []) x < 0))
def confP (LL : List (List Int)) (m n : Int) (k : Nat) (x : List Int) : Option Bool := if confB LL m n k x then none else some false
def confsB (LL : List (List Int)) (m n : Int) : Bool := (firstP (confP LL m n) LL 0).isNone
theorem confP_res {LL xs : List (List Int)} {m n : Int} {k : Nat} {r : Bool} (h : firstP (confP LL m n) xs k = some r) : r = false := by
  obtain ⟨j, x, _, h2⟩ := firstP_some h
  unfold confP at h2
  split at h2 <;> cases h2
  rfl
theorem confP_none {LL : List (List Int)} {m n : Int} {k : Nat} {x : List Int} (h : confP LL m n k x = none) : (x.length : Int) = m ∧ sortB x = true ∧ (∀ y, y ∈ x → 0 ≤ y ∧ y ≤ n - 1) ∧ (k = 0 ∨ ordL (LL.getD (k - 1) []) x < 0) := by
  unfold confP at h
  split at h
  · rename_i hb
    simp only [confB, Bool.and_eq_true, decide_eq_true_eq, Bool.or_eq_true] at hb
    exact ⟨hb.1.1.1, hb.1.1.2, fun y hy => inB_iff.1 (List.all_eq_true.1 hb.1.2 y hy), hb.2⟩
  · cases h
theorem conf_bad {LL : List (List Int)} {m n : Int} {k : Nat} {x : List Int} (h : confB LL m n k x = false) : lpP (confP LL m n k x) = .ret false := by simp [confP, h, lpP]
theorem conf_good {LL : List (List Int)} {m n : Int} {k : Nat} {x : List Int} (h : confB LL m n k x = true) : lpP (confP LL m n k x) = .go () := by simp [confP, h, lpP]
theorem sorted_loop (m : Nat) (x : List Int) (hx : x.length = m) (hm : m ≤ 1000) : ∀ (fuel j : Nat), 1 ≤ j → (∀ (k : Nat) a b, k + 1 < j → x[k]? = some a → x[k + 1]? = some b → a ≤ b) → m < fuel + j ∧ j ≤ m →
    (∃ y, loopF (fS_prLists_s2 (m : Int) x) fuel (j : Int) = some (.inl y) ∧ sortB x = true) ∨ (loopF (fS_prLists_s2 (m : Int) x) fuel (j : Int) = some (.inr false) ∧ sortB x = false) := by
  intro fuel
  induction fuel with
  | zero =>
    intro j h1 h2 h3
    omega
  | succ fuel ih =>
    intro j h1 h2 h3
    by_cases hj : j < m
    · have e1 : x[j - 1]? = some (x[j - 1]'(by omega)) := List.getElem?_eq_getElem (by omega)
      have e2 : x[j]? = some (x[j]'(by omega)) := List.getElem?_eq_getElem (by omega)
      by_cases hle : x[j - 1]'(by omega) ≤ x[j]'(by omega)
      · have hs : fS_prLists_s2 (m : Int) x (j : Int) = some (.go ((j + 1 : Nat) : Int)) := by
          unfold fS_prLists_s2
          rw [if_pos (by simp; omega), ck_in (by omega) (by omega), sb, show (j : Int) - 1 = ((j - 1 : Nat) : Int) by omega, ix_nat, e1, sb, ix_nat, e2, sb, if_neg (by simp; omega), ck_in (by omega) (by omega), sb]; rfl
        rw [lpF_go hs fuel]
        refine ih (j + 1) (by omega) (fun k a b hk ha hb => ?_) (by omega)
        by_cases e : k + 1 = j
        · have : k = j - 1 := by omega
          subst this
          rw [e] at hb
          rw [e1] at ha; rw [e2] at hb; cases ha; cases hb; exact hle
        · exact h2 k a b (by omega) ha hb
      · right
        constructor
        · have hs : fS_prLists_s2 (m : Int) x (j : Int) = some (.ret false) := by
            unfold fS_prLists_s2
            rw [if_pos (by simp; omega), ck_in (by omega) (by omega), sb, show (j : Int) - 1 = ((j - 1 : Nat) : Int) by omega, ix_nat, e1, sb, ix_nat, e2, sb, if_pos (by simp; omega)]
          simp only [loopF, hs]
        · cases hb : sortB x with
          | false => rfl
          | true =>
            exfalso; apply hle
            exact sortB_get.1 hb (j - 1) _ _ e1 (by rw [show j - 1 + 1 = j by omega]; exact e2)
    · left
      refine ⟨(j : Int), ?_, ?_⟩
      · refine lpF_out ?_ fuel
        unfold fS_prLists_s2
        rw [if_neg (by simp; omega)]
      · refine sortB_get.2 fun k a b ha hb => h2 k a b ?_ ha hb
        have := (List.getElem?_eq_some_iff.1 hb).1
        omega
theorem e_prLists (fuel : Nat) (LL : List (List Int)) (m : Nat) (n : Int) (hm0 : 1 ≤ m) (hm : m ≤ 4) (hn : 1 ≤ n ∧ n ≤ 8) (hf : 10 ≤ fuel) (hJ : LL.length ≤ 1000000000) : fS_prLists fuel LL (m : Int) n = some (confsB LL m n) := by
  unfold fS_prLists confsB
  rw [forI_first0 (confP LL m n) LL (fun j x hj hall => by
    have hjl := (List.getElem?_eq_some_iff.1 hj).1
    unfold fS_prLists_s1
    by_cases h1 : (x.length : Int) = m
    · rw [if_neg (by simp [h1]), ck_in (by omega) (by omega), sb, e_l1All, sb]
      by_cases h2 : x.all (inB 0 (n - 1)) = true
      · rw [if_neg (by simp [h2])]
        have hlast : (if decide ((j : Int) > 0) then (ck ((j : Int) - 1) >>= fun x34 => ix LL x34 >>= fun x35 => fS_prOrder x35 x >>= fun x43 => some (decide (x43 ≥ 0))) else some false) = some (!(decide (j = 0) || decide (ordL (LL.getD (j - 1) []) x < 0))) := by
          cases j with
          | zero => simp
          | succ j =>
            have hp := confP_none (hall j LL[j] (by omega) (List.getElem?_eq_getElem (by omega)))
            rw [if_pos (by simp), ck_in (by omega) (by omega), sb, show (((j + 1 : Nat) : Int) - 1) = (j : Int) by omega, ix_lt _ _ (by omega), sb,
              e_prOrder _ _ (by omega) (fun y hy => by have := hp.2.2.1 y hy; omega) (fun y hy => by have := inB_iff.1 (List.all_eq_true.1 h2 y hy); omega), sb]
            have : LL.getD (j + 1 - 1) [] = LL[j] := by simp [List.getElem?_eq_getElem (show j < LL.length by omega)]
            rw [this]
            by_cases h4 : ordL LL[j] x < 0
            · simp [h4]
            · simp [h4]; omega
        rw [hlast, sb]
        cases h4 : (decide (j = 0) || decide (ordL (LL.getD (j - 1) []) x < 0))
        · rw [if_pos (by simp), conf_bad (by simp only [confB, h4, Bool.and_false])]
        · rw [if_neg (by simp)]
          rcases sorted_loop m x (by omega) (by omega) fuel 1 (Nat.le_refl _) (fun k a b hk => by omega) ⟨by omega, by omega⟩ with ⟨y, e1, e2⟩ | ⟨e1, e2⟩
          · rw [show ((1 : Nat) : Int) = 1 from rfl] at e1
            rw [e1, sb, conf_good (by simp only [confB, h1, h2, e2, h4, decide_true, Bool.and_self])]
          · rw [show ((1 : Nat) : Int) = 1 from rfl] at e1
            rw [e1, sb, conf_bad (by simp [confB, e2])]
      · rw [if_pos (by simp [h2]), sb, if_pos rfl, conf_bad (by simp [confB, h2])]
    · rw [if_pos (by simp; omega), sb, if_pos rfl, conf_bad (by simp [confB, h1])]), sb]
  cases hc : firstP (confP LL m n) LL 0 with
  | none => rfl
  | some r => have := confP_res hc; subst this; rfl
theorem e_configurationsOk (fuel : Nat) (LL : List (List Int)) (m : Nat) (n : Int) (hm : m ≤ 4) (hn : 1 ≤ n ∧ n ≤ 8) (hf : 10 ≤ fuel) (hJ : LL.length ≤ 1000000000) : fI_configurationsOk fuel LL (m : Int) n = some (confsB LL m n) := by
  unfold fI_configurationsOk confsB
  rw [forI_first0 (confP LL m n) LL (fun j x hj hall => by
    have hjl := (List.getElem?_eq_some_iff.1 hj).1
    unfold fI_configurationsOk_s1
    by_cases h1 : (x.length : Int) = m
    · rw [if_neg (by simp [h1]), e_IsSorted _ _ (by omega) (by omega), sb]
      by_cases h3 : sortB x = true
      · rw [if_neg (by simp [h3]), ck_in (by omega) (by omega), sb, e_allWithin _ _ _ (by omega), sb]
        by_cases h2 : x.all (inB 0 (n - 1)) = true
        · rw [if_neg (by simp [h2])]
          have hlast : (if decide ((j : Int) > 0) then (ck ((j : Int) - 1) >>= fun x34 => ix LL x34 >>= fun x35 => fX_slices_Compare_int_int x35 x >>= fun x43 => some (decide (x43 ≥ 0))) else some false) = some (!(decide (j = 0) || decide (ordL (LL.getD (j - 1) []) x < 0))) := by
            cases j with
            | zero => simp
            | succ j =>
              have hp := confP_none (hall j LL[j] (by omega) (List.getElem?_eq_getElem (by omega)))
              rw [if_pos (by simp), ck_in (by omega) (by omega), sb, show (((j + 1 : Nat) : Int) - 1) = (j : Int) by omega, ix_lt _ _ (by omega), sb, e_Compare _ _ (by omega), sb]
              have : LL.getD (j + 1 - 1) [] = LL[j] := by simp [List.getElem?_eq_getElem (show j < LL.length by omega)]
              rw [this]
              by_cases h4 : ordL LL[j] x < 0
              · simp [h4]
              · simp [h4]; omega
          rw [hlast, sb]
          cases h4 : (decide (j = 0) || decide (ordL (LL.getD (j - 1) []) x < 0))
          · rw [if_pos (by simp), conf_bad (by simp only [confB, h4, Bool.and_false])]
          · rw [if_neg (by simp), conf_good (by simp only [confB, h1, h2, h3, h4, decide_true, Bool.and_self])]
        · rw [if_pos (by simp [h2]), sb, if_pos rfl, conf_bad (by simp [confB, h2])]
      · rw [if_pos (by simp [h3]), sb, if_pos rfl, conf_bad (by simp [confB, h3])]
    · rw [if_pos (by simp; omega), sb, if_pos rfl, conf_bad (by simp [confB, h1])]), sb]
  cases hc : firstP (confP LL m n) LL 0 with
  | none => rfl
  | some r => have := confP_res hc; subst this; rfl
def probB (p : T_Problem) : Bool := inB 1 8 p.Labels && inB 1 4 p.Degree && confsB p.Nodes p.Degree p.Labels && confsB p.Edges 2 p.Labels
theorem e_prGood (fuel : Nat) (hf : 10 ≤ fuel) (p : T_Problem) (hJ : p.Nodes.length ≤ 1000000000) (hE : p.Edges.length ≤ 1000000000) : fS_prGood fuel p = some (probB p) := by
  unfold fS_prGood probB
  rw [e_l1In, sb]
  rw [show (decide (1 ≤ p.Labels) && decide (p.Labels ≤ 8)) = inB 1 8 p.Labels from rfl]
  cases h1 : inB 1 8 p.Labels
  · simp [sb]
  · rw [if_pos rfl, e_l1In, sb]
    rw [show (decide (1 ≤ p.Degree) && decide (p.Degree ≤ 4)) = inB 1 4 p.Degree from rfl]
    cases h2 : inB 1 4 p.Degree
    · simp [sb]
    · have h1' := inB_iff.1 h1
      have h2' := inB_iff.1 h2
      obtain ⟨m, hm⟩ : ∃ m : Nat, p.Degree = m := ⟨p.Degree.toNat, by omega⟩
      rw [if_pos rfl, hm, e_prLists fuel p.Nodes m p.Labels (by omega) (by omega) h1' hf hJ, sb]
      cases h3 : confsB p.Nodes m p.Labels
      · simp [sb]
      · rw [if_pos rfl]
        have := e_prLists fuel p.Edges 2 p.Labels (by omega) (by omega) h1' hf hE
        rw [show ((2 : Nat) : Int) = 2 from rfl] at this
        rw [this, sb, sb]; simp
theorem e_IsProblem (fuel : Nat) (hf : 10 ≤ fuel) (p : T_Problem) (hJ : p.Nodes.length ≤ 1000000000) (hE : p.Edges.length ≤ 1000000000) : fI_IsProblem fuel p = some (probB p) := by
  unfold fI_IsProblem probB
  rw [e_within, sb]
  rw [show (decide (1 ≤ p.Labels) && decide (p.Labels ≤ 8)) = inB 1 8 p.Labels from rfl]
  cases h1 : inB 1 8 p.Labels
  · simp [sb]
  · rw [if_pos rfl, e_within, sb]
    rw [show (decide (1 ≤ p.Degree) && decide (p.Degree ≤ 4)) = inB 1 4 p.Degree from rfl]
    cases h2 : inB 1 4 p.Degree
    · simp [sb]
    · have h1' := inB_iff.1 h1
      have h2' := inB_iff.1 h2
      obtain ⟨m, hm⟩ : ∃ m : Nat, p.Degree = m := ⟨p.Degree.toNat, by omega⟩
      rw [if_pos rfl, hm, e_configurationsOk fuel p.Nodes m p.Labels (by omega) h1' hf hJ, sb]
      cases h3 : confsB p.Nodes m p.Labels
      · simp [sb]
      · rw [if_pos rfl]
        have := e_configurationsOk fuel p.Edges 2 p.Labels (by omega) h1' hf hE
        rw [show ((2 : Nat) : Int) = 2 from rfl] at this
        rw [this, sb, sb]; simp
/-! ### Membership -/
theorem confs_pair {LL : List (List Int)} {m n : Int} (h : confsB LL m n = true) : (∀ x, x ∈ LL → (x.length : Int) = m ∧ sortB x = true ∧ ∀ y, y ∈ x → 0 ≤ y ∧ y ≤ n - 1) ∧ LL.Pairwise (fun a b => ordL a b < 0) := by
  unfold confsB at h
  rw [Option.isNone_iff_eq_none] at h
  have hp := firstP_none.1 h
  have hm : ∀ (j : Nat) x, LL[j]? = some x → (x.length : Int) = m ∧ sortB x = true ∧ (∀ y, y ∈ x → 0 ≤ y ∧ y ≤ n - 1) ∧ (j = 0 ∨ ordL (LL.getD (j - 1) []) x < 0) := fun j x hj => by
    have := hp j x hj
    rw [Nat.zero_add] at this
    exact confP_none this
  refine ⟨fun x hx => ?_, ?_⟩
  · obtain ⟨j, hj⟩ := List.mem_iff_getElem?.1 hx
    have := hm j x hj
    exact ⟨this.1, this.2.1, this.2.2.1⟩
  · have key : ∀ (d i : Nat) (hi : i + d + 1 < LL.length), ordL (LL[i]'(by omega)) LL[i + d + 1] < 0 := by
      intro d
      induction d with
      | zero =>
        intro i hi
        have := (hm (i + 1) _ (List.getElem?_eq_getElem hi)).2.2.2
        simpa [List.getElem?_eq_getElem (show i < LL.length by omega)] using this
      | succ d ih =>
        intro i hi
        have h1 := ih i (by omega)
        have := (hm (i + d + 1 + 1) _ (List.getElem?_eq_getElem hi)).2.2.2
        have h2 : ordL (LL[i + d + 1]'(by omega)) LL[i + (d + 1) + 1] < 0 := by simpa [List.getElem?_eq_getElem (show i + d + 1 < LL.length by omega)] using this
        have l1 := (hm i _ (List.getElem?_eq_getElem (by omega))).1
        have l2 := (hm (i + d + 1) _ (List.getElem?_eq_getElem (by omega))).1
        have l3 := (hm (i + (d + 1) + 1) _ (List.getElem?_eq_getElem hi)).1
        exact ordL_trans (by omega) (by omega) h1 h2
    rw [List.pairwise_iff_getElem]
    intro i j hi hj hij
    have := key (j - i - 1) i (by omega)
    simpa [show i + (j - i - 1) + 1 = j by omega] using this
theorem e_hasConf (fuel : Nat) (LL : List (List Int)) (m n : Int) (hc : confsB LL m n = true) (t : List Int) (ht : (t.length : Int) = m) (hJ : LL.length ≤ 1000000000) (hl : t.length ≤ 1000000000) (hf : LL.length < fuel) : fI_hasConfiguration fuel LL t = some (decide (srt t ∈ LL)) := by
  obtain ⟨hm, hp⟩ := confs_pair hc
  have hs := srt_length t
  generalize hst : srt t = s at hs
  unfold fI_hasConfiguration srtO
  rw [if_pos hl, sb, hst]
  have hcmp : ∀ x, x ∈ LL → fX_slices_Compare_int_int x s = some (ordL x s) := fun x hx => e_Compare x s (by have := (hm x hx).1; omega)
  obtain ⟨c1, c2⟩ := countP_bound (fun x => decide (x.length = s.length) && decide (ordL x s < 0)) LL (hp.imp_of_mem fun {a b} ha hb hab h => by
    simp only [Bool.and_eq_true, decide_eq_true_eq] at h ⊢
    have l1 := (hm a ha).1
    exact ⟨by omega, ordL_trans (by omega) h.1 hab h.2⟩)
  have hcl : LL.countP (fun x => decide (x.length = s.length) && decide (ordL x s < 0)) ≤ LL.length := List.countP_le_length
  generalize LL.countP (fun x => decide (x.length = s.length) && decide (ordL x s < 0)) = c at c1 c2 hcl
  have hat : ∀ (j : Nat) (hj : j < LL.length), (decide (LL[j].length = s.length) && decide (ordL LL[j] s < 0)) = decide (ordL LL[j] s < 0) := fun j hj => by
    have := (hm _ (List.getElem_mem hj)).1
    rw [show decide (LL[j].length = s.length) = true by rw [decide_eq_true_eq]; omega, Bool.true_and]
  unfold fX_slices_BinarySearchFunc_LLint_int_int
  have := bs_loop (f := fX_slices_BinarySearchFunc_LLint_int_int_s1 LL s (fun z18 : (List Int) × (List Int) => fX_slices_Compare_int_int z18.1 z18.2)) (fun j => decide (ordL (LL.getD j []) s < 0)) LL.length c hcl (fun lo hi h1 h2 => by
      have hmid : (lo + hi) / 2 < LL.length := by omega
      unfold fX_slices_BinarySearchFunc_LLint_int_int_s1
      simp only
      rw [if_pos (by simpa using h1)]
      have e := mid_ok (lo := lo) (hi := hi) (by omega)
      rw [ck_in (by omega) (by omega), sb] at e ⊢
      unfold cvU at e ⊢
      rw [if_pos (by omega), sb] at e ⊢
      cases hsh : shr ((lo : Int) + hi) 1 with
      | none => rw [hsh] at e; cases e
      | some z =>
        rw [hsh, sb] at e
        rw [sb]
        rw [e, sb, ix_lt _ _ hmid, sb, hcmp _ (List.getElem_mem hmid), sb]
        rw [show LL.getD ((lo + hi) / 2) [] = LL[(lo + hi) / 2] by simp [List.getElem?_eq_getElem hmid]]
        by_cases hlt : ordL LL[(lo + hi) / 2] s < 0
        · simp only [decide_eq_true hlt, if_true]
          rw [ck_in (by omega) (by omega), sb]; rfl
        · simp only [decide_eq_false hlt]; rfl)
    (fun lo h => by
      unfold fX_slices_BinarySearchFunc_LLint_int_int_s1
      simp only
      rw [if_neg (by simp)]) (fun j hj => by
      have hjl : j < LL.length := by omega
      have := c1 j _ (List.getElem?_eq_getElem hjl) hj
      rw [hat j hjl] at this
      simpa [List.getElem?_eq_getElem hjl] using this) (fun j hj hjl => by
      have := c2 j _ (List.getElem?_eq_getElem hjl) hj
      rw [hat j hjl] at this
      simpa [List.getElem?_eq_getElem hjl] using this) fuel 0 LL.length (Nat.zero_le _) hcl (Nat.le_refl _) (by omega)
  rw [show ((0 : Nat) : Int) = 0 from rfl] at this
  rw [this, sb]
  simp only
  have hnot : ∀ (j : Nat) (hj : j < LL.length), LL[j] = s → c ≤ j := fun j hj e => by
    rcases Nat.lt_or_ge j c with h | h
    · have := c1 j _ (List.getElem?_eq_getElem hj) h
      rw [hat j hj, e, decide_eq_true_eq, (ordL_zero rfl).2 rfl] at this
      omega
    · exact h
  by_cases hlt : c < LL.length
  · rw [if_pos (by simpa using hlt), ix_lt _ _ hlt, sb, hcmp _ (List.getElem_mem hlt), sb, sb, sb]
    simp only
    congr 1
    rw [Bool.eq_iff_iff, beq_iff_eq, decide_eq_true_eq, ordL_zero (by have := (hm _ (List.getElem_mem hlt)).1; omega)]
    constructor
    · intro e; rw [← e]; exact List.getElem_mem hlt
    · intro e
      obtain ⟨j, hj, hj2⟩ := List.mem_iff_getElem.1 e
      have h1 := hnot j hj hj2
      by_cases hjc : c = j
      · subst hjc; exact hj2
      · exfalso
        rw [List.pairwise_iff_getElem] at hp
        have h2 := hp c j hlt hj (by omega)
        rw [hj2] at h2
        have := c2 c _ (List.getElem?_eq_getElem hlt) (Nat.le_refl _)
        rw [hat c hlt, decide_eq_false_iff_not] at this
        exact this h2
  · rw [if_neg (by simpa using hlt), sb, sb]
    have : s ∉ LL := by
      intro e
      obtain ⟨j, hj, hj2⟩ := List.mem_iff_getElem.1 e
      have := hnot j hj hj2
      omega
    simp [this]
theorem e_prHas (LL : List (List Int)) (x : List Int) (hl : x.length ≤ 1000000000) : fS_prHas LL x = some (decide (x ∈ LL)) := by
  unfold fS_prHas
  rw [forI_first0 (fun _ y => if decide (x = y) then some true else none) LL (fun j y hj _ => by
    unfold fS_prHas_s1
    rw [e_l1Same _ _ hl, sb]
    by_cases h : x = y <;> simp [h, lpP]), sb]
  cases hc : firstP (fun _ y => if decide (x = y) then some true else none) LL 0 with
  | none =>
    have : x ∉ LL := fun hm => by
      obtain ⟨j, hj⟩ := List.mem_iff_getElem?.1 hm
      have := firstP_none.1 hc j x hj
      simp at this
    simp [outP, this]
  | some r =>
    obtain ⟨j, y, h1, h2⟩ := firstP_some hc
    by_cases e : x = y
    · subst e
      simp at h2
      subst h2
      simp [outP, List.mem_of_getElem? h1]
    · simp [e] at h2
theorem e_prNode (fuel : Nat) (p : T_Problem) (t : List Int) (hl : t.length ≤ 1000000) (hf : t.length < fuel) : fS_prNode fuel p t = some (decide (srt t ∈ p.Nodes)) := by
  unfold fS_prNode
  rw [e_prSorted _ _ hf (by omega), sb, ← srt_eq_ssort, e_prHas _ _ (by rw [srt_length]; omega), sb]
theorem srt_two (a b : Int) : srt [a, b] = if a ≤ b then [a, b] else [b, a] := by
  refine List.Perm.eq_of_pairwise (le := fun a b => a ≤ b) (fun a b _ _ h1 h2 => Int.le_antisymm h1 h2) (srt_sorted _) ?_ ((srt_perm _).trans ?_)
  · split <;> simp <;> omega
  · split
    · exact List.Perm.refl _
    · exact List.Perm.swap _ _ _
theorem e_prEdge (p : T_Problem) (a b : Int) : fS_prEdge p a b = some (decide (srt [a, b] ∈ p.Edges)) := by
  unfold fS_prEdge fS_l1Least fS_l1Most
  have : srt [a, b] = [if a < b then a else b, if a > b then a else b] := by
    rw [srt_two]
    by_cases h : a < b
    · rw [if_pos (by omega), if_pos h, if_neg (by omega)]
    · by_cases h2 : a > b
      · rw [if_neg (by omega), if_neg h, if_pos h2]
      · have : a = b := by omega
        subst this; simp
  rw [this]
  by_cases h : a < b
  · have h2 : ¬ a > b := by omega
    rw [if_pos (by simpa using h), sb, if_neg (by simpa using h2), sb, if_pos h, if_neg h2, e_prHas _ _ (by simp), sb]
  · by_cases h2 : a > b
    · rw [if_neg (by simpa using h), sb, if_pos (by simpa using h2), sb, if_neg h, if_pos h2, e_prHas _ _ (by simp), sb]
    · rw [if_neg (by simpa using h), sb, if_neg (by simpa using h2), sb, if_neg h, if_neg h2, e_prHas _ _ (by simp), sb]
theorem probB_iff {p : T_Problem} (h : probB p = true) : 1 ≤ p.Labels ∧ p.Labels ≤ 8 ∧ 1 ≤ p.Degree ∧ p.Degree ≤ 4 ∧ confsB p.Nodes p.Degree p.Labels = true ∧ confsB p.Edges 2 p.Labels = true := by
  simp only [probB, Bool.and_eq_true] at h
  have h1 := inB_iff.1 h.1.1.1
  have h2 := inB_iff.1 h.1.1.2
  exact ⟨h1.1, h1.2, h2.1, h2.2, h.1.2, h.2⟩
theorem e_node (fuel : Nat) (p : T_Problem) (h : probB p = true) (t : List Int) (ht : (t.length : Int) = p.Degree) (hJ : p.Nodes.length ≤ 1000000000) (hf : p.Nodes.length < fuel) : fI_Problem_node fuel p t = some (decide (srt t ∈ p.Nodes)) := by
  obtain ⟨h1, h2, h3, h4, h5, h6⟩ := probB_iff h
  unfold fI_Problem_node
  rw [e_hasConf fuel _ _ _ h5 t ht hJ (by omega) hf, sb]
theorem e_edge (fuel : Nat) (p : T_Problem) (h : probB p = true) (a b : Int) (hJ : p.Edges.length ≤ 1000000000) (hf : p.Edges.length < fuel) : fI_Problem_edge fuel p a b = some (decide (srt [a, b] ∈ p.Edges)) := by
  obtain ⟨h1, h2, h3, h4, h5, h6⟩ := probB_iff h
  unfold fI_Problem_edge
  rw [e_hasConf fuel _ _ _ h6 [a, b] (by simp) hJ (by simp) hf, sb]
end Go.Proofs.Ytiejigogmnkjdaa
