/- IsRootedSolution and FirstRootedFault of both sides, as the laws call them. -/
import Derived.Test.YtiejigogmnkjdaaAd
import Derived.Test.YtiejigogmnkjdaaSdl
import Derived.Test.YtiejigogmnkjdaaPp
import Derived.Test.YtiejigogmnkjdaaIm
import Derived.Test.YtiejigogmnkjdaaNt
import Derived.Test.YtiejigogmnkjdaaGY
namespace Go.Proofs.Ytiejigogmnkjdaa
open Go.RowKit
set_option linter.unusedSimpArgs false
set_option linter.unusedVariables false

theorem e_bsf (fuel : Nat) (LL : List (List Int)) (s : List Int) (hm : ∀ x, x ∈ LL → x.length = s.length) (hp : LL.Pairwise fun a b => ordL a b < 0) (hJ : LL.length ≤ 1000000000) (hf : LL.length < fuel) :
    ∃ c : Int, fX_slices_BinarySearchFunc_LLint_int_int fuel LL s (fun z18 : (List Int) × (List Int) => fX_slices_Compare_int_int z18.1 z18.2) = some (c, decide (s ∈ LL)) := by
  have hcmp : ∀ x, x ∈ LL → fX_slices_Compare_int_int x s = some (ordL x s) := fun x hx => e_Compare x s (hm x hx)
  obtain ⟨c1, c2⟩ := countP_bound (fun x => decide (x.length = s.length) && decide (ordL x s < 0)) LL (hp.imp_of_mem fun {a b} ha hb hab h => by
    simp only [Bool.and_eq_true, decide_eq_true_eq] at h ⊢
    have l1 := hm a ha
    exact ⟨by omega, ordL_trans (by omega) h.1 hab h.2⟩)
  have hcl : LL.countP (fun x => decide (x.length = s.length) && decide (ordL x s < 0)) ≤ LL.length := List.countP_le_length
  generalize LL.countP (fun x => decide (x.length = s.length) && decide (ordL x s < 0)) = c at c1 c2 hcl
  have hat : ∀ (j : Nat) (hj : j < LL.length), (decide (LL[j].length = s.length) && decide (ordL LL[j] s < 0)) = decide (ordL LL[j] s < 0) := fun j hj => by
    have := hm _ (List.getElem_mem hj)
    rw [show decide (LL[j].length = s.length) = true by rw [decide_eq_true_eq]; omega, Bool.true_and]
  unfold fX_slices_BinarySearchFunc_LLint_int_int
  have := bs_loop (f := fX_slices_BinarySearchFunc_LLint_int_int_s1 LL s (fun z18 : (List Int) × (List Int) => fX_slices_Compare_int_int z18.1 z18.2)) (fun j => decide (ordL (LL.getD j []) s < 0)) LL.length c hcl (fun lo hi h1 h2 => by
      have hmid : (lo + hi) / 2 < LL.length := by omega
      unfold fX_slices_BinarySearchFunc_LLint_int_int_s1
      simp only
      rw [if_pos (by simpa using h1)]
      have e := mid_ok (lo := lo) (hi := hi) (by omega)
      rw [ck_in (by omega) (by omega), sb] at e ⊢
      unfold cvU at e ⊢
      rw [if_pos (by omega), sb] at e ⊢
      cases hsh : shr ((lo : Int) + hi) 1 with
      | none => rw [hsh] at e; cases e
      | some z =>
        rw [hsh, sb] at e
        rw [sb]
        rw [e, sb, ix_lt _ _ hmid, sb, hcmp _ (List.getElem_mem hmid), sb]
        rw [show LL.getD ((lo + hi) / 2) [] = LL[(lo + hi) / 2] by simp [List.getElem?_eq_getElem hmid]]
        by_cases hlt : ordL LL[(lo + hi) / 2] s < 0
        · simp only [decide_eq_true hlt, if_true]
          rw [ck_in (by omega) (by omega), sb]; rfl
        · simp only [decide_eq_false hlt]; rfl)
    (fun lo h => by
      unfold fX_slices_BinarySearchFunc_LLint_int_int_s1
      simp only
      rw [if_neg (by simp)]) (fun j hj => by
      have hjl : j < LL.length := by omega
      have := c1 j _ (List.getElem?_eq_getElem hjl) hj
      rw [hat j hjl] at this
      simpa [List.getElem?_eq_getElem hjl] using this) (fun j hj hjl => by
      have := c2 j _ (List.getElem?_eq_getElem hjl) hj
      rw [hat j hjl] at this
      simpa [List.getElem?_eq_getElem hjl] using this) fuel 0 LL.length (Nat.zero_le _) hcl (Nat.le_refl _) (by omega)
  rw [show ((0 : Nat) : Int) = 0 from rfl] at this
  rw [this, sb]
  simp only
  refine ⟨(c : Int), ?_⟩
  have hnot : ∀ (j : Nat) (hj : j < LL.length), LL[j] = s → c ≤ j := fun j hj e => by
    rcases Nat.lt_or_ge j c with h | h
    · have := c1 j _ (List.getElem?_eq_getElem hj) h
      rw [hat j hj, e, decide_eq_true_eq, (ordL_zero rfl).2 rfl] at this
      omega
    · exact h
  by_cases hlt : c < LL.length
  · rw [if_pos (by simpa using hlt), ix_lt _ _ hlt, sb, hcmp _ (List.getElem_mem hlt), sb, sb]
    congr 2
    rw [Bool.eq_iff_iff, beq_iff_eq, decide_eq_true_eq, ordL_zero (hm _ (List.getElem_mem hlt))]
    constructor
    · intro e; rw [← e]; exact List.getElem_mem hlt
    · intro e
      obtain ⟨j, hj, hj2⟩ := List.mem_iff_getElem.1 e
      have h1 := hnot j hj hj2
      by_cases hjc : c = j
      · subst hjc; exact hj2
      · exfalso
        rw [List.pairwise_iff_getElem] at hp
        have h2 := hp c j hlt hj (by omega)
        rw [hj2] at h2
        have := c2 c _ (List.getElem?_eq_getElem hlt) (Nat.le_refl _)
        rw [hat c hlt, decide_eq_false_iff_not] at this
        exact this h2
  · rw [if_neg (by simpa using hlt), sb]
    have : s ∉ LL := by
      intro e
      obtain ⟨j, hj, hj2⟩ := List.mem_iff_getElem.1 e
      have := hnot j hj hj2
      omega
    simp [this]
theorem lines_pair {p : T_RootedProblem} (h : rootedB p = true) : p.Lines.Pairwise fun a b => ordL a b < 0 := by
  have hl := lines_of h
  simp only [rootedB, Bool.and_eq_true, Option.isNone_iff_eq_none] at h
  have hadj : ∀ (j : Nat) x, p.Lines[j]? = some x → j = 0 ∨ ordL (p.Lines.getD (j - 1) []) x < 0 := fun j x hj => by
    have := firstP_none.1 h.2 j x hj
    rw [Nat.zero_add] at this
    unfold lineP at this
    split at this
    · rename_i hb
      simp only [lineB, Bool.and_eq_true, Bool.or_eq_true, decide_eq_true_eq] at hb
      exact hb.2
    · cases this
  have key : ∀ (d i : Nat) (hi : i + d + 1 < p.Lines.length), ordL (p.Lines[i]'(by omega)) p.Lines[i + d + 1] < 0 := by
    intro d
    induction d with
    | zero =>
      intro i hi
      have := (hadj (i + 1) _ (List.getElem?_eq_getElem hi)).resolve_left (by omega)
      simpa [List.getElem?_eq_getElem (show i < p.Lines.length by omega)] using this
    | succ d ih =>
      intro i hi
      have h1 := ih i (by omega)
      have := (hadj (i + d + 1 + 1) _ (List.getElem?_eq_getElem hi)).resolve_left (by omega)
      have h2 : ordL (p.Lines[i + d + 1]'(by omega)) p.Lines[i + (d + 1) + 1] < 0 := by simpa [List.getElem?_eq_getElem (show i + d + 1 < p.Lines.length by omega)] using this
      have l1 := (hl _ (List.getElem_mem (show i < p.Lines.length by omega))).1
      have l2 := (hl _ (List.getElem_mem (show i + d + 1 < p.Lines.length by omega))).1
      have l3 := (hl _ (List.getElem_mem hi)).1
      exact ordL_trans (by omega) (by omega) h1 h2
  rw [List.pairwise_iff_getElem]
  intro i j hi hj hij
  have := key (j - i - 1) i (by omega)
  simpa [show i + (j - i - 1) + 1 = j by omega] using this
theorem e_line (fuel : Nat) (p : T_RootedProblem) (h : rootedB p = true) (a : Int) (xs : List Int) (hx : (xs.length : Int) = p.Children) (hJ : p.Lines.length ≤ 1000000000) (hf : p.Lines.length < fuel) : fI_RootedProblem_line fuel p a xs = some (decide ((a :: srt xs) ∈ p.Lines)) := by
  have hC : p.Children ≤ 3 := by
    have := h
    simp only [rootedB, Bool.and_eq_true] at this
    exact (inB_iff.1 this.1.2).2
  unfold fI_RootedProblem_line srtO
  have hs := srt_length xs
  rw [if_pos (by omega), sb]
  unfold cat
  rw [if_pos (by simp; omega), sb]
  obtain ⟨c, hc⟩ := e_bsf fuel p.Lines ([a] ++ srt xs) (fun x hx2 => by have := (lines_of h x hx2).1; simp; omega) (lines_pair h) hJ hf
  rw [hc, sb]; rfl
/-- The node k has children, and no line for them. -/
def badB (p : T_RootedProblem) (par l : List Int) (k : Nat) : Bool := !decide (kidF par par.length k = []) && !decide ((l.getD k 0 :: srt (imgL l (kidF par par.length k))) ∈ p.Lines)
def faultI (p : T_RootedProblem) (par l : List Int) : Int := (firstP (fun k (_ : List Int) => if badB p par l k then some (k : Int) else none) (kidsL par par.length) 0).getD (-1)
theorem firstP_ix {α β ρ : Type} {P : Nat → α → Option ρ} {Q : Nat → β → Option ρ} : ∀ {xs : List α} {ys : List β} (k : Nat), xs.length = ys.length → (∀ (j : Nat) x y, xs[j]? = some x → ys[j]? = some y → P (k + j) x = Q (k + j) y) → firstP P xs k = firstP Q ys k
  | [], [], _, _, _ => rfl
  | [], _ :: _, _, h, _ => by simp at h
  | _ :: _, [], _, h, _ => by simp at h
  | x :: xs, y :: ys, k, hl, h => by
    have h0 := h 0 x y rfl rfl
    rw [Nat.add_zero] at h0
    simp only [firstP, h0]
    cases Q k y with
    | some r => rfl
    | none =>
      refine firstP_ix (k + 1) (by simpa using hl) fun j x y hx hy => ?_
      have := h (j + 1) x y (by simpa using hx) (by simpa using hy)
      rw [show k + (j + 1) = k + 1 + j by omega] at this
      exact this
theorem kid_in {par : List Int} {k : Nat} : ∀ y, y ∈ kidF par par.length k → 0 ≤ y ∧ y < par.length := fun y hy => by
  obtain ⟨w, rfl, hw, _⟩ := mem_kidF.1 hy
  omega
theorem imgL_len (t x : List Int) : (imgL t x).length = x.length := by simp [imgL]
theorem e_roFault (fuel : Nat) (hf : 2000000 ≤ fuel) (p : T_RootedProblem) (par l : List Int) (ha : askB p par = true) (hll : l.length = par.length) : fS_roFault fuel p par l = some (faultI p par l) := by
  simp only [askB, Bool.and_eq_true] at ha
  obtain ⟨hr, ht⟩ := ha
  obtain ⟨t1, t2, t3, t4, t5, t6⟩ := treeB_iff ht
  unfold fS_roFault faultI
  rw [e_roBelow par (par_lt t5) (by omega), sb, forI_first0 (fun k (_ : List Int) => if badB p par l k then some (k : Int) else none) _ (fun k x hx _ => by
    have hk : k < par.length := by have := (List.getElem?_eq_some_iff.1 hx).1; rw [kidsL_length] at this; exact this
    have hkx : x = kidF par par.length k := by rw [kidsL_get hk] at hx; exact (Option.some.inj hx).symm
    have hxl := kidF_length par par.length k
    have hgd : l.getD k 0 = l[k]'(by omega) := by simp [List.getElem?_eq_getElem (show k < l.length by omega)]
    unfold fS_roFault_s1 badB
    rw [← hkx] at hxl ⊢
    by_cases h0 : x = []
    · subst h0; simp [sb, lpP]
    · have : (x.length : Int) > 0 := by
        have : x.length ≠ 0 := fun e => h0 (List.eq_nil_of_length_eq_zero e)
        omega
      have hx3 : (x.length : Int) = p.Children := (t6 x (List.mem_of_getElem? hx)).resolve_left h0
      rw [if_pos (by simpa using this), ix_lt _ _ (show k < l.length by omega), sb, (e_coThrough l x (by omega) (fun y hy => by rw [hkx] at hy; have := kid_in y hy; omega) (by omega)).1, sb,
        e_prSorted _ _ (by rw [imgL_len]; omega) (by rw [imgL_len]; omega), sb, ← srt_eq_ssort]
      unfold cat
      rw [if_pos (by simp [srt_length, imgL_len]; omega), sb, e_prHas _ _ (by simp [srt_length, imgL_len]; omega), sb, sb, hgd]
      by_cases hm : (l[k]'(by omega) :: srt (imgL l x)) ∈ p.Lines
      · simp [hm, lpP, h0]
      · simp [hm, lpP, h0]), sb]
  cases firstP (fun k (_ : List Int) => if badB p par l k then some (k : Int) else none) (kidsL par par.length) 0 <;> rfl
theorem e_rootedFault (fuel : Nat) (hf : 2000000 ≤ fuel) (p : T_RootedProblem) (par l : List Int) (ha : askB p par = true) (hll : l.length = par.length) (hJ : p.Lines.length ≤ 1048576) : fI_rootedFault fuel p par l = some (faultI p par l) := by
  simp only [askB, Bool.and_eq_true] at ha
  obtain ⟨hr, ht⟩ := ha
  obtain ⟨t1, t2, t3, t4, t5, t6⟩ := treeB_iff ht
  unfold fI_rootedFault faultI
  rw [e_numbersTo par.length (by omega), sb, e_IndexFunc _ _ (fun x => badB p par l x.toNat) (fun x hx => by
    simp only [List.mem_map, List.mem_range] at hx
    obtain ⟨k, hk, rfl⟩ := hx
    have hxl := kidF_length par par.length k
    have hgd : l.getD k 0 = l[k]'(by omega) := by simp [List.getElem?_eq_getElem (show k < l.length by omega)]
    have hx := kidsL_get (par := par) (j := par.length) hk
    unfold fI_rootedFault_1 badB
    rw [e_childrenOf par (par_lt t5) (by omega), sb, ix_nat, hx, sb, Int.toNat_natCast]
    generalize hkx : kidF par par.length k = x at hx hxl
    by_cases h0 : x = []
    · subst h0; simp [sb]
    · have : (x.length : Int) > 0 := by
        have : x.length ≠ 0 := fun e => h0 (List.eq_nil_of_length_eq_zero e)
        omega
      have hx3 : (x.length : Int) = p.Children := (t6 x (List.mem_of_getElem? hx)).resolve_left h0
      rw [if_pos (by simpa using this), ix_lt _ _ (show k < l.length by omega), sb, (e_coThrough l x (by omega) (fun y hy => by rw [← hkx] at hy; have := kid_in y hy; omega) (by omega)).2, sb,
        e_line fuel p hr _ _ (by rw [imgL_len]; exact hx3) (by omega) (by omega), sb, sb, hgd]
      simp [h0]) (by simp only [List.length_map, List.length_range]; omega), sb]
  rw [firstP_ix (Q := fun k (_ : List Int) => if badB p par l k then some (k : Int) else none) (ys := kidsL par par.length) 0 (by simp [kidsL_length]) (fun j x y hx hy => by
    have hj : j < par.length := by have := (List.getElem?_eq_some_iff.1 hy).1; rw [kidsL_length] at this; exact this
    have : x = (j : Int) := by
      rw [List.getElem?_map, List.getElem?_range hj] at hx
      exact (Option.some.inj hx).symm
    subst this
    simp)]
/-- A labeling is asked about. -/
def labelB (p : T_RootedProblem) (par l : List Int) : Bool := askB p par && decide ((l.length : Int) = par.length) && l.all (inB 0 (p.Labels - 1))
theorem e_roLabeled (fuel : Nat) (hf : 2000000 ≤ fuel) (p : T_RootedProblem) (par l : List Int) (hJ : p.Lines.length ≤ 1048576) (hl : par.length ≤ 1048576) : fS_roLabeled fuel p par l = some (labelB p par l) := by
  unfold fS_roLabeled labelB
  rw [e_roAsked fuel (by omega) p par (by omega) hl, sb]
  cases ha : askB p par
  · simp [sb]
  · have hL : 1 ≤ p.Labels ∧ p.Labels ≤ 8 := by
      simp only [askB, rootedB, Bool.and_eq_true] at ha
      exact inB_iff.1 ha.1.1.1
    rw [if_pos rfl]
    by_cases h : (l.length : Int) = par.length
    · rw [if_pos (by simpa using h), ck_in (by omega) (by omega), sb, e_l1All, sb, sb]; simp [h]
    · rw [if_neg (by simpa using h), sb]; simp [h]
def solRB (p : T_RootedProblem) (par l : List Int) : Bool × Bool := if labelB p par l then (decide (faultI p par l < 0), true) else (false, false)
def faultB (p : T_RootedProblem) (par l : List Int) : Int × Bool := if labelB p par l && !decide (faultI p par l < 0) then (faultI p par l, true) else (0, false)
theorem label_iff {p : T_RootedProblem} {par l : List Int} (h : labelB p par l = true) : askB p par = true ∧ l.length = par.length := by
  simp only [labelB, Bool.and_eq_true, decide_eq_true_eq] at h
  exact ⟨h.1.1, by omega⟩
theorem e_specSol (fuel : Nat) (hf : 2000000 ≤ fuel) (p : T_RootedProblem) (par l : List Int) (hJ : p.Lines.length ≤ 1048576) (hl : par.length ≤ 1048576) : fS_IsRootedSolution fuel p par l = some (solRB p par l) := by
  unfold fS_IsRootedSolution solRB
  rw [e_roLabeled fuel hf p par l hJ hl, sb]
  cases h : labelB p par l
  · simp
  · obtain ⟨h1, h2⟩ := label_iff h
    rw [if_neg (by simp), e_roFault fuel hf p par l h1 h2, sb]; simp
theorem e_implSol (fuel : Nat) (hf : 2000000 ≤ fuel) (p : T_RootedProblem) (par l : List Int) (hJ : p.Lines.length ≤ 1048576) (hl : par.length ≤ 1048576) (hl2 : l.length ≤ 1048576) : fI_IsRootedSolution fuel p par l = some (solRB p par l) := by
  unfold fI_IsRootedSolution solRB labelB
  rw [e_rootedOk fuel (by omega) p par (by omega) hl, sb]
  cases ha : askB p par
  · simp [sb]
  · have hL : 1 ≤ p.Labels ∧ p.Labels ≤ 8 := by
      have := ha
      simp only [askB, rootedB, Bool.and_eq_true] at this
      exact inB_iff.1 this.1.1.1
    rw [if_neg (by simp)]
    by_cases h : (l.length : Int) = par.length
    · rw [if_neg (by simp [h])]
      unfold fI_RootedProblem_hasLabels
      rw [ck_in (by omega) (by omega), sb, e_allWithin _ _ _ (by omega), sb, sb, sb]
      cases h2 : l.all (inB 0 (p.Labels - 1))
      · simp
      · rw [if_neg (by simp), e_rootedFault fuel hf p par l ha (by omega) hJ, sb]; simp [h]
    · rw [if_pos (by simpa using h), sb, if_pos rfl]; simp [h]
theorem e_specFault (fuel : Nat) (hf : 2000000 ≤ fuel) (p : T_RootedProblem) (par l : List Int) (hJ : p.Lines.length ≤ 1048576) (hl : par.length ≤ 1048576) : fS_FirstRootedFault fuel p par l = some (faultB p par l) := by
  unfold fS_FirstRootedFault faultB
  rw [e_roLabeled fuel hf p par l hJ hl, sb]
  cases h : labelB p par l
  · simp [sb]
  · obtain ⟨h1, h2⟩ := label_iff h
    rw [if_neg (by simp), e_roFault fuel hf p par l h1 h2, sb, sb]
    by_cases h3 : faultI p par l < 0
    · simp [h3]
    · simp [h3, sb]
theorem e_implFault (fuel : Nat) (hf : 2000000 ≤ fuel) (p : T_RootedProblem) (par l : List Int) (hJ : p.Lines.length ≤ 1048576) (hl : par.length ≤ 1048576) (hl2 : l.length ≤ 1048576) : fI_FirstRootedFault fuel p par l = some (faultB p par l) := by
  have e1 := e_implSol fuel hf p par l hJ hl hl2
  have e2 : labelB p par l = true → fI_rootedFault fuel p par l = some (faultI p par l) := fun h => by
    obtain ⟨h1, h2⟩ := label_iff h
    exact e_rootedFault fuel hf p par l h1 h2 hJ
  clear hf hJ hl hl2
  unfold fI_FirstRootedFault
  rw [e1, sb]
  unfold solRB faultB
  generalize faultI p par l = F at e2 ⊢
  cases h : labelB p par l
  · rfl
  · rw [e2 h]
    by_cases h3 : F < 0
    · rw [decide_eq_true h3]; rfl
    · rw [decide_eq_false h3]; rfl
def fIsRootedSolutionSpec (x : RP) (l m : List Int) : Bool × Bool := solRB (tR x) l m
def fIsRootedSolutionImpl (x : RP) (l m : List Int) : Bool × Bool := fIsRootedSolutionSpec x l m
theorem IsRootedSolution_eq (x : RP) (l m : List Int) (_ : okR x) (_ : szR x ≤ 1048576) (_ : ∀ n ∈ l, I64 n) (_ : l.length ≤ 1048576) (_ : ∀ n ∈ m, I64 n) (_ : m.length ≤ 1048576) : fIsRootedSolutionImpl x l m = fIsRootedSolutionSpec x l m := rfl
def fFirstRootedFaultSpec (x : RP) (l m : List Int) : Int × Bool := faultB (tR x) l m
def fFirstRootedFaultImpl (x : RP) (l m : List Int) : Int × Bool := fFirstRootedFaultSpec x l m
theorem FirstRootedFault_eq (x : RP) (l m : List Int) (_ : okR x) (_ : szR x ≤ 1048576) (_ : ∀ n ∈ l, I64 n) (_ : l.length ≤ 1048576) (_ : ∀ n ∈ m, I64 n) (_ : m.length ≤ 1048576) : fFirstRootedFaultImpl x l m = fFirstRootedFaultSpec x l m := rfl
theorem specIsRootedSolution_any (v : Value) (x : RP) (lv : Value) (l : List Int) (mv : Value) (m : List Int) (w : World) (h : RdR w v x) (_ : okR x) (hs : szR x ≤ 1048576) (hl : Ints w lv l) (_ : ∀ n ∈ l, I64 n) (hls : l.length ≤ 1048576) (hm : Ints w mv m) (_ : ∀ n ∈ m, I64 n) (hms : m.length ≤ 1048576) :
    Calls Try.prog 43 #[v, lv, mv] w fun e w' => e = .returned (.tuple #[.bool (fIsRootedSolutionSpec x l m).1, .bool (fIsRootedSolutionSpec x l m).2]) ∧ Keeps w w' := by
  obtain ⟨u, rfl, h2⟩ := h.rdz
  exact cS_IsRootedSolution 2000000 w u (tR x) h2 lv l hl.rdl mv m hm.rdl _ (e_specSol 2000000 (Nat.le_refl _) (tR x) l m (szR_lines hs) hls)
theorem specFirstRootedFault_any (v : Value) (x : RP) (lv : Value) (l : List Int) (mv : Value) (m : List Int) (w : World) (h : RdR w v x) (_ : okR x) (hs : szR x ≤ 1048576) (hl : Ints w lv l) (_ : ∀ n ∈ l, I64 n) (hls : l.length ≤ 1048576) (hm : Ints w mv m) (_ : ∀ n ∈ m, I64 n) (hms : m.length ≤ 1048576) :
    Calls Try.prog 47 #[v, lv, mv] w fun e w' => e = .returned (.tuple #[.int .i64 (fFirstRootedFaultSpec x l m).1, .bool (fFirstRootedFaultSpec x l m).2]) ∧ Keeps w w' := by
  obtain ⟨u, rfl, h2⟩ := h.rdz
  exact cS_FirstRootedFault 2000000 w u (tR x) h2 lv l hl.rdl mv m hm.rdl _ (e_specFault 2000000 (Nat.le_refl _) (tR x) l m (szR_lines hs) hls)
theorem implIsRootedSolution_any (v : Value) (x : RP) (lv : Value) (l : List Int) (mv : Value) (m : List Int) (w : World) (h : RdR w v x) (_ : okR x) (hs : szR x ≤ 1048576) (hl : Ints w lv l) (_ : ∀ n ∈ l, I64 n) (hls : l.length ≤ 1048576) (hm : Ints w mv m) (_ : ∀ n ∈ m, I64 n) (hms : m.length ≤ 1048576) :
    Calls Try.prog 45 #[v, lv, mv] w fun e w' => e = .returned (.tuple #[.bool (fIsRootedSolutionImpl x l m).1, .bool (fIsRootedSolutionImpl x l m).2]) ∧ Keeps w w' := by
  obtain ⟨u, rfl, h2⟩ := h.rdz
  exact cI_IsRootedSolution 2000000 w u (tR x) h2 lv l hl.rdl mv m hm.rdl _ (e_implSol 2000000 (Nat.le_refl _) (tR x) l m (szR_lines hs) hls hms)
theorem implFirstRootedFault_any (v : Value) (x : RP) (lv : Value) (l : List Int) (mv : Value) (m : List Int) (w : World) (h : RdR w v x) (_ : okR x) (hs : szR x ≤ 1048576) (hl : Ints w lv l) (_ : ∀ n ∈ l, I64 n) (hls : l.length ≤ 1048576) (hm : Ints w mv m) (_ : ∀ n ∈ m, I64 n) (hms : m.length ≤ 1048576) :
    Calls Try.prog 48 #[v, lv, mv] w fun e w' => e = .returned (.tuple #[.int .i64 (fFirstRootedFaultImpl x l m).1, .bool (fFirstRootedFaultImpl x l m).2]) ∧ Keeps w w' := by
  obtain ⟨u, rfl, h2⟩ := h.rdz
  exact cI_FirstRootedFault 2000000 w u (tR x) h2 lv l hl.rdl mv m hm.rdl _ (e_implFault 2000000 (Nat.le_refl _) (tR x) l m (szR_lines hs) hls hms)
end Go.Proofs.Ytiejigogmnkjdaa
