/- Roots of a rooted problem: the sets that both sides step through. -/
import Derived.Test.YtjmhjobfiemmnaaPd
import Derived.Test.YtjmhjobfiemmnaaPc
import Derived.Test.YtjmhjobfiemmnaaGC
namespace Go.Proofs.Ytjmhjobfiemmnaa
set_option linter.unusedSimpArgs false
set_option linter.unusedVariables false

theorem loopF_go {σ τ ρ : Type} {f : σ → Option (Lp σ τ ρ)} {s s' : σ} (h : f s = some (.go s')) (fuel : Nat) : loopF f (fuel + 1) s = loopF f fuel s' := by simp only [loopF, h]
theorem loopF_out {σ τ ρ : Type} {f : σ → Option (Lp σ τ ρ)} {s : σ} {t : τ} (h : f s = some (.out t)) (fuel : Nat) : loopF f (fuel + 1) s = some (.inl t) := by simp only [loopF, h]
theorem loopF_ret {σ τ ρ : Type} {f : σ → Option (Lp σ τ ρ)} {s : σ} {r : ρ} (h : f s = some (.ret r)) (fuel : Nat) : loopF f (fuel + 1) s = some (.inr r) := by simp only [loopF, h]
/-- A loop that folds. -/
theorem forI_fold {α σ τ ρ : Type} {body : Int → α → σ → Option (Lp σ σ ρ)} (g : τ → α → τ) (R : τ → σ) (P : τ → Prop) : ∀ (xs : List α) (k : Int) (s : τ), P s →
    (∀ (k : Int) x s, x ∈ xs → P s → body k x (R s) = some (.go (R (g s x))) ∧ P (g s x)) → forI body xs k (R s) = some (.inl (R (xs.foldl g s))) ∧ P (xs.foldl g s)
  | [], k, s, hs, h => ⟨rfl, hs⟩
  | x :: xs, k, s, hs, h => by
    obtain ⟨h1, h2⟩ := h k x s (by simp) hs
    simp only [forI, h1, List.foldl_cons]
    exact forI_fold g R P xs (k + 1) (g s x) h2 fun k y s hy hs => h k y s (by simp [hy]) hs
/-- Lines of a rooted problem on n labels. -/
def okLines (n : Nat) (LL : List (List Int)) : Prop := ∀ x, x ∈ LL → 1 ≤ x.length ∧ x.length ≤ 4 ∧ ∀ y, y ∈ x → 0 ≤ y ∧ y < n
def kidsIn (S : Nat) (x : List Int) : Bool := x.tail.all fun y => S.testBit y.toNat
/-- The labels of the roots above the labels of S. -/
def abv (LL : List (List Int)) (S : Nat) : Nat := LL.foldl (fun T x => if kidsIn S x then T ||| 2 ^ (x.headD 0).toNat else T) 0
theorem abv_fold (S : Nat) : ∀ (LL : List (List Int)) (T b : Nat), (LL.foldl (fun T x => if kidsIn S x then T ||| 2 ^ (x.headD 0).toNat else T) T).testBit b = (T.testBit b || LL.any fun x => kidsIn S x && decide ((x.headD 0).toNat = b))
  | [], T, b => by simp
  | x :: LL, T, b => by
    rw [List.foldl_cons, abv_fold S LL, List.any_cons]
    cases h : kidsIn S x
    · simp
    · simp only [if_true, Nat.testBit_or, Nat.testBit_two_pow, Bool.true_and, Bool.or_assoc]
theorem abv_test (LL : List (List Int)) (S b : Nat) : (abv LL S).testBit b = LL.any fun x => kidsIn S x && decide ((x.headD 0).toNat = b) := by
  unfold abv; rw [abv_fold]; simp
theorem head_lt {n : Nat} {x : List Int} (h1 : 1 ≤ x.length) (h2 : ∀ y, y ∈ x → 0 ≤ y ∧ y < n) : (x.headD 0).toNat < n ∧ x[0]? = some (((x.headD 0).toNat : Nat) : Int) := by
  cases x with
  | nil => simp at h1
  | cons a r =>
    have := h2 a (by simp)
    simp only [List.headD_cons, List.getElem?_cons_zero]
    exact ⟨by omega, by rw [Int.toNat_of_nonneg this.1]⟩
theorem abv_lt {n : Nat} {LL : List (List Int)} (h : okLines n LL) (S : Nat) : abv LL S < 2 ^ n := by
  refine Nat.lt_pow_two_of_testBit _ fun i hi => ?_
  rw [abv_test, List.any_eq_false]
  intro x hx
  have h1 := h x hx
  have := (head_lt h1.1 h1.2.2).1
  simp only [Bool.and_eq_true, decide_eq_true_eq, not_and]; intro _; omega
theorem kids_mem {n : Nat} {S : Nat} {x : List Int} (h2 : ∀ y, y ∈ x → 0 ≤ y ∧ y < n) : (x.tail.all fun y => decide (y ∈ lbs n S)) = kidsIn S x := by
  unfold kidsIn
  rw [Bool.eq_iff_iff, List.all_eq_true, List.all_eq_true]
  have key : ∀ y, y ∈ x.tail → (y ∈ lbs n S ↔ S.testBit y.toNat = true) := fun y hy => by
    have := h2 y (List.mem_of_mem_tail hy)
    rw [mem_lbs]
    constructor
    · rintro ⟨i, rfl, _, h⟩; simpa using h
    · intro h; exact ⟨y.toNat, by omega, by omega, h⟩
  constructor
  · intro h y hy; exact (key y hy).1 (by simpa using h y hy)
  · intro h y hy; simpa using (key y hy).2 (h y hy)
theorem e_roAbove (n S fuel : Nat) (p : T_RootedProblem) (h : okLines n p.Lines) (hn : n ≤ 60) (hf : n < fuel) : fS_roAbove fuel p (lbs n S) = some (lbs n (abv p.Lines S)) := by
  unfold fS_roAbove
  have := forI_fold (body := fS_roAbove_s1 fuel (lbs n S)) (fun T x => if kidsIn S x then T ||| 2 ^ (x.headD 0).toNat else T) (fun T => lbs n T) (fun _ => True) p.Lines 0 0 trivial fun k x T hx _ => by
    refine ⟨?_, trivial⟩
    have h1 := h x hx
    have h2 := head_lt h1.1 h1.2.2
    unfold fS_roAbove_s1
    rw [cut_tail x h1.1, sb, e_prAll, sb, kids_mem h1.2.2]
    cases hk : kidsIn S x
    · simp
    · simp only [if_true]
      rw [show ix x 0 = x[0]? from ix_nat x 0, h2.2, sb, e_put_lbs n T _ fuel h2.1 hn hf, sb]
  have h0 : lbs n 0 = [] := by simp [lbs]
  rw [h0] at this
  rw [this.1, sb]; rfl
theorem e_onlyIn (S : Nat) (hS : S < 2 ^ 60) (xs : List Int) (hl : xs.length ≤ 1000000) (h : ∀ y, y ∈ xs → 0 ≤ y ∧ y < 60) : fI_onlyIn (S : Int) xs = some (xs.all fun y => S.testBit y.toNat) := by
  unfold fI_onlyIn
  rw [e_ContainsFunc xs _ (fun y => !S.testBit y.toNat) (fun y hy => by
    have := h y hy
    obtain ⟨k, rfl⟩ : ∃ k : Nat, y = k := ⟨y.toNat, by omega⟩
    unfold fI_onlyIn_1
    rw [shr_nat (by omega), sb]
    have hb := bit_test (S := S) (a := k) (Nat.lt_trans hS (by decide))
    have h1 : S / 2 ^ k < 2 ^ 62 := Nat.lt_of_le_of_lt (Nat.div_le_self _ _) (Nat.lt_trans hS (by decide))
    rw [show (1 : Int) = ((1 : Nat) : Int) from rfl, band_nat h1 (by decide), Nat.and_one_is_mod] at hb ⊢
    rw [Int.toNat_natCast, ← hb]
    generalize S / 2 ^ k = Q
    congr 1
    rw [Bool.eq_iff_iff]
    simp only [beq_iff_eq, Bool.not_eq_true', beq_eq_false_iff_ne, ne_eq]
    omega) (by omega), sb]
  congr 1
  rw [List.not_any_eq_all_not]
  simp
theorem e_rootsAbove (n S : Nat) (p : T_RootedProblem) (h : okLines n p.Lines) (hn : n ≤ 60) (hS : S < 2 ^ n) : fI_RootedProblem_rootsAbove p (S : Int) = some ((abv p.Lines S : Nat) : Int) := by
  unfold fI_RootedProblem_rootsAbove
  have hS2 : S < 2 ^ 60 := Nat.lt_of_lt_of_le hS (Nat.pow_le_pow_right (by decide) hn)
  have := forI_fold (body := fI_RootedProblem_rootsAbove_s1 (S : Int)) (fun T x => if kidsIn S x then T ||| 2 ^ (x.headD 0).toNat else T) (fun T : Nat => (T : Int)) (fun T => T < 2 ^ 60) p.Lines 0 0 (by decide) fun k x T hx hT => by
    have h1 := h x hx
    have h2 := head_lt h1.1 h1.2.2
    have hp : 2 ^ (x.headD 0).toNat < 2 ^ 60 := Nat.pow_lt_pow_right (by decide) (by omega)
    refine ⟨?_, ?_⟩
    · unfold fI_RootedProblem_rootsAbove_s1
      rw [cut_tail x h1.1, sb, e_onlyIn S hS2 _ (by simp; omega) (fun y hy => by have := h1.2.2 y (List.mem_of_mem_tail hy); omega), sb]
      rw [show (x.tail.all fun y => S.testBit y.toNat) = kidsIn S x from rfl]
      cases hk : kidsIn S x
      · simp
      · simp only [if_true]
        rw [show ix x 0 = x[0]? from ix_nat x 0, h2.2, sb, shl_one (by omega), sb, bor_nat (Nat.lt_trans hT (by decide)) (Nat.lt_trans hp (by decide))]
    · split
      · exact Nat.or_lt_two_pow hT hp
      · exact hT
  rw [show ((0 : Nat) : Int) = 0 from rfl] at this
  rw [this.1, sb]; rfl
/-! ### Stepping -/
def itR (LL : List (List Int)) (n : Nat) : Nat → Nat
  | 0 => 2 ^ n - 1
  | k + 1 => abv LL (itR LL n k)
def subB (S T : Nat) : Prop := ∀ i, S.testBit i = true → T.testBit i = true
theorem abv_mono {LL : List (List Int)} {S T : Nat} (h : subB S T) : subB (abv LL S) (abv LL T) := by
  intro i hi
  rw [abv_test, List.any_eq_true] at hi ⊢
  obtain ⟨x, hx, h2⟩ := hi
  refine ⟨x, hx, ?_⟩
  rw [Bool.and_eq_true] at h2 ⊢
  refine ⟨?_, h2.2⟩
  unfold kidsIn at h2 ⊢
  rw [List.all_eq_true] at h2 ⊢
  exact fun y hy => h _ (h2.1 y hy)
theorem itR_lt {LL : List (List Int)} {n : Nat} (h : okLines n LL) : ∀ k, itR LL n k < 2 ^ n
  | 0 => by have := Nat.two_pow_pos n; simp only [itR]; omega
  | k + 1 => abv_lt h _
theorem itR_sub {LL : List (List Int)} {n : Nat} (h : okLines n LL) : ∀ k, subB (itR LL n (k + 1)) (itR LL n k)
  | 0 => by
    intro i hi
    have hlt := itR_lt h 1
    by_cases hin : i < n
    · simp only [itR, Nat.testBit_two_pow_sub_one]; simpa using hin
    · rw [Nat.testBit_lt_two_pow (Nat.lt_of_lt_of_le hlt (Nat.pow_le_pow_right (by decide) (by omega)))] at hi
      cases hi
  | k + 1 => abv_mono (itR_sub h k)
theorem lbs_sub {n S T : Nat} (h : subB S T) : (lbs n S).Sublist (lbs n T) := by
  unfold lbs
  refine List.Sublist.map _ ?_
  have : (List.range n).filter (fun i => S.testBit i) = ((List.range n).filter (fun i => T.testBit i)).filter (fun i => S.testBit i) := by
    rw [List.filter_filter]
    refine List.filter_congr fun i _ => ?_
    cases hs : S.testBit i
    · simp
    · simp [h i hs]
  rw [this]
  exact List.filter_sublist
theorem itR_stop {LL : List (List Int)} {n : Nat} (h : okLines n LL) : itR LL n (n + 1) = itR LL n n := by
  have key : ∀ k, (∃ j, j < k ∧ itR LL n (j + 1) = itR LL n j) ∨ (lbs n (itR LL n k)).length + k ≤ n := by
    intro k
    induction k with
    | zero => exact .inr (by have := lbs_length n (itR LL n 0); omega)
    | succ k ih =>
      rcases ih with ⟨j, hj, e⟩ | ih
      · exact .inl ⟨j, by omega, e⟩
      · by_cases e : itR LL n (k + 1) = itR LL n k
        · exact .inl ⟨k, by omega, e⟩
        · right
          have hs := lbs_sub (n := n) (itR_sub h k)
          have hle := hs.length_le
          have : (lbs n (itR LL n (k + 1))).length ≠ (lbs n (itR LL n k)).length := fun he => e (lbs_inj (itR_lt h _) (itR_lt h _) (hs.eq_of_length he))
          omega
  have stay : ∀ j, itR LL n (j + 1) = itR LL n j → ∀ d, itR LL n (j + d) = itR LL n j := by
    intro j e d
    induction d with
    | zero => rfl
    | succ d ih => rw [show j + (d + 1) = (j + d) + 1 by omega]; show abv LL _ = _; rw [ih]; exact e
  rcases key (n + 1) with ⟨j, hj, e⟩ | h1
  · have h1 := stay j e (n + 1 - j)
    have h2 := stay j e (n - j)
    rw [show j + (n + 1 - j) = n + 1 by omega] at h1
    rw [show j + (n - j) = n by omega] at h2
    rw [h1, h2]
  · omega
theorem itR_stay {LL : List (List Int)} {n j : Nat} (e : itR LL n (j + 1) = itR LL n j) : ∀ d, itR LL n (j + d) = itR LL n j := by
  intro d
  induction d with
  | zero => rfl
  | succ d ih => rw [show j + (d + 1) = (j + d) + 1 by omega]; show abv LL _ = _; rw [ih]; exact e
theorem e_roAll (n : Nat) (p : T_RootedProblem) (hp : p.Labels = n) (hn : n ≤ 60) (fuel : Nat) (hf : n < fuel) : fS_roAll fuel p = some (lbs n (2 ^ n - 1)) := by
  have key : ∀ (d k fuel : Nat), k + d = n → d < fuel → loopF (fS_roAll_s1 p) fuel (lbs k (2 ^ n - 1), (k : Int)) = some (.inl (lbs n (2 ^ n - 1), (n : Int))) := by
    intro d
    induction d with
    | zero =>
      intro k fuel hk hf
      cases fuel with
      | zero => omega
      | succ fuel =>
        have : k = n := by omega
        subst this
        refine loopF_out ?_ fuel
        unfold fS_roAll_s1
        rw [if_neg (by simp [hp])]
    | succ d ih =>
      intro k fuel hk hf
      cases fuel with
      | zero => omega
      | succ fuel =>
        have hl := lbs_length k (2 ^ n - 1)
        have hs : fS_roAll_s1 p (lbs k (2 ^ n - 1), (k : Int)) = some (.go (lbs (k + 1) (2 ^ n - 1), ((k + 1 : Nat) : Int))) := by
          unfold fS_roAll_s1 push
          simp only
          rw [if_pos (by rw [decide_eq_true_eq, hp]; omega), if_pos (by omega), sb, ck_in (by omega) (by omega), sb, lbs_succ, Nat.testBit_two_pow_sub_one]
          simp [show k < n by omega]
        rw [loopF_go hs fuel]
        exact ih (k + 1) fuel (by omega) (by omega)
  unfold fS_roAll
  have := key n 0 fuel (by omega) hf
  have h0 : lbs 0 (2 ^ n - 1) = [] := rfl
  rw [h0, show ((0 : Nat) : Int) = 0 from rfl] at this
  rw [this, sb]
/-- The set after d steps, or after as many as change something. -/
def rootS (LL : List (List Int)) (n : Nat) (d : Int) : Nat := itR LL n (if 0 ≤ d ∧ d ≤ n then d.toNat else n)
theorem rootS_at {LL : List (List Int)} {n k : Nat} {d : Int} (h : okLines n LL) (hk : k ≤ n) (hd : 0 ≤ d → (k : Int) ≤ d) (e : itR LL n (k + 1) = itR LL n k) : itR LL n k = rootS LL n d := by
  unfold rootS
  split
  · rename_i h2
    have := itR_stay e (d.toNat - k)
    rw [show k + (d.toNat - k) = d.toNat by omega] at this
    exact this.symm
  · have := itR_stay e (n - k)
    rw [show k + (n - k) = n by omega] at this
    exact this.symm
theorem roRoots_loop (n fuel0 : Nat) (p : T_RootedProblem) (h : okLines n p.Lines) (hn : n ≤ 60) (hf : n < fuel0) (d : Int) (hd : 0 ≤ d) (hd2 : d ≤ 9223372036854775807) : ∀ (fuel k : Nat), k ≤ n → n < fuel + k → (k : Int) ≤ d →
    (∃ j, loopF (fS_roRoots_s1 fuel0 p d) fuel (lbs n (itR p.Lines n k), (k : Int)) = some (.inl (lbs n (rootS p.Lines n d), j))) ∨ loopF (fS_roRoots_s1 fuel0 p d) fuel (lbs n (itR p.Lines n k), (k : Int)) = some (.inr (lbs n (rootS p.Lines n d))) := by
  intro fuel
  induction fuel with
  | zero => intro k h1 h2 _; omega
  | succ fuel ih =>
    intro k hk hfk hkd
    by_cases hlt : (k : Int) < d
    · have hab := e_roAbove n (itR p.Lines n k) fuel0 p h hn hf
      have hl := lbs_length n (abv p.Lines (itR p.Lines n k))
      by_cases e : itR p.Lines n (k + 1) = itR p.Lines n k
      · right
        rw [← rootS_at h hk (fun _ => hkd) e]
        refine loopF_ret ?_ fuel
        unfold fS_roRoots_s1
        simp only
        rw [if_pos (by simpa using hlt), hab, sb, e_l1Same _ _ (by omega), sb, if_pos (by rw [decide_eq_true_eq]; exact congrArg (lbs n) e)]
      · have hkn : k < n := by
          rcases Nat.lt_or_ge k n with h' | h'
          · exact h'
          · exfalso; apply e
            have : k = n := by omega
            subst this
            exact itR_stop h
        have hs : fS_roRoots_s1 fuel0 p d (lbs n (itR p.Lines n k), (k : Int)) = some (.go (lbs n (itR p.Lines n (k + 1)), ((k + 1 : Nat) : Int))) := by
          unfold fS_roRoots_s1
          simp only
          rw [if_pos (by simpa using hlt), hab, sb, e_l1Same _ _ (by omega), sb, if_neg (by rw [decide_eq_true_eq]; exact fun e' => e (lbs_inj (itR_lt h _) (itR_lt h _) e')), ck_in (by omega) (by omega), sb]
          rfl
        rw [loopF_go hs fuel]
        exact ih (k + 1) (by omega) (by omega) (by omega)
    · left
      refine ⟨(k : Int), ?_⟩
      have hkd' : d = k := by omega
      have : itR p.Lines n k = rootS p.Lines n d := by
        unfold rootS; rw [if_pos ⟨hd, by omega⟩, hkd']; simp
      rw [← this]
      refine loopF_out ?_ fuel
      unfold fS_roRoots_s1
      simp only
      rw [if_neg (by simpa using hlt)]
theorem e_roRoots (n fuel : Nat) (p : T_RootedProblem) (hp : p.Labels = n) (h : okLines n p.Lines) (hn : n ≤ 60) (hf : n + 1 < fuel) (d : Int) (hd : 0 ≤ d) (hd2 : d ≤ 9223372036854775807) : fS_roRoots fuel p d = some (lbs n (rootS p.Lines n d)) := by
  unfold fS_roRoots
  rw [e_roAll n p hp hn fuel (by omega), sb]
  have := roRoots_loop n fuel p h hn (by omega) d hd hd2 fuel 0 (by omega) (by omega) hd
  rw [show itR p.Lines n 0 = 2 ^ n - 1 from rfl, show ((0 : Nat) : Int) = 0 from rfl] at this
  rcases this with ⟨j, hj⟩ | hj
  · rw [hj, sb]
  · rw [hj, sb]
theorem rootsOf_loop (n : Nat) (p : T_RootedProblem) (h : okLines n p.Lines) (hn : n ≤ 60) (d : Int) (hd1 : -1000 ≤ d) (hd2 : d ≤ 9223372036854775807) : ∀ (fuel k : Nat), k ≤ n → n < fuel + k → (0 ≤ d → (k : Int) ≤ d) →
    ∃ j, loopF (fI_RootedProblem_rootsOfDepth_s1 p) fuel (d - k, ((itR p.Lines n k : Nat) : Int)) = some (.inl (j, ((rootS p.Lines n d : Nat) : Int))) := by
  intro fuel
  induction fuel with
  | zero => intro k h1 h2 _; omega
  | succ fuel ih =>
    intro k hk hfk hkd
    by_cases hlt : d - k = 0
    · have : itR p.Lines n k = rootS p.Lines n d := by
        have : d = k := by omega
        unfold rootS; rw [if_pos ⟨by omega, by omega⟩, this]; simp
      refine ⟨d - k, ?_⟩
      rw [← this]
      refine loopF_out ?_ fuel
      unfold fI_RootedProblem_rootsOfDepth_s1
      simp only
      rw [if_neg (by simp [hlt])]
    · have hab := e_rootsAbove n (itR p.Lines n k) p h hn (itR_lt h k)
      by_cases e : itR p.Lines n (k + 1) = itR p.Lines n k
      · refine ⟨d - k, ?_⟩
        rw [← rootS_at h hk hkd e]
        refine loopF_out ?_ fuel
        unfold fI_RootedProblem_rootsOfDepth_s1
        simp only
        rw [if_pos (by simpa using hlt), hab, sb, if_pos (by rw [beq_iff_eq]; exact congrArg (fun m : Nat => (m : Int)) e)]
      · have hkn : k < n := by
          rcases Nat.lt_or_ge k n with h' | h'
          · exact h'
          · exfalso; apply e
            have : k = n := by omega
            subst this
            exact itR_stop h
        have hs : fI_RootedProblem_rootsOfDepth_s1 p (d - k, ((itR p.Lines n k : Nat) : Int)) = some (.go (d - ((k + 1 : Nat) : Int), ((itR p.Lines n (k + 1) : Nat) : Int))) := by
          unfold fI_RootedProblem_rootsOfDepth_s1
          simp only
          rw [if_pos (by simpa using hlt), hab, sb, if_neg (by rw [beq_iff_eq]; exact fun e' => e (by exact Int.ofNat.inj e')), ck_in (by omega) (by omega), sb]
          rw [show d - (k : Int) - 1 = d - ((k + 1 : Nat) : Int) by omega]
          rfl
        rw [loopF_go hs fuel]
        exact ih (k + 1) (by omega) (by omega) (by omega)
theorem e_rootsOfDepth (n fuel : Nat) (p : T_RootedProblem) (hp : p.Labels = n) (h : okLines n p.Lines) (hn : n ≤ 60) (hf : n + 1 < fuel) (d : Int) (hd1 : -1000 ≤ d) (hd2 : d ≤ 9223372036854775807) : fI_RootedProblem_rootsOfDepth fuel p d = some ((rootS p.Lines n d : Nat) : Int) := by
  unfold fI_RootedProblem_rootsOfDepth
  have hpow : 2 ^ n ≤ 2 ^ 60 := Nat.pow_le_pow_right (by decide) hn
  have hpos := Nat.two_pow_pos n
  obtain ⟨j, hj⟩ := rootsOf_loop n p h hn d hd1 hd2 fuel 0 (by omega) (by omega) (by omega)
  have h1 : ((2 ^ n : Nat) : Int) - 1 = ((itR p.Lines n 0 : Nat) : Int) := by
    show _ = ((2 ^ n - 1 : Nat) : Int)
    generalize 2 ^ n = P at hpos
    omega
  rw [hp, shl_one (by omega), sb, h1]
  have h2 := itR_lt h 0
  generalize itR p.Lines n 0 = I at h2 hj
  rw [ck_in (by omega) (by omega), sb]
  rw [show d - ((0 : Nat) : Int) = d by omega] at hj
  rw [hj, sb]
theorem okLines_of {p : T_RootedProblem} (h : rootedB p = true) : p.Labels = p.Labels.toNat ∧ p.Labels.toNat ≤ 8 ∧ okLines p.Labels.toNat p.Lines := by
  simp only [rootedB, Bool.and_eq_true, Option.isNone_iff_eq_none] at h
  obtain ⟨⟨hL, hC⟩, hn⟩ := h
  rw [inB_iff] at hL hC
  refine ⟨by omega, by omega, fun x hx => ?_⟩
  obtain ⟨j, hj⟩ := List.mem_iff_getElem?.1 hx
  have := lineP_none (firstP_none.1 hn j x hj)
  exact ⟨by omega, by omega, fun y hy => by have := this.2 y hy; omega⟩
/-! ### The two laws -/
theorem e_roGood (fuel : Nat) (hf : 4 < fuel) (p : T_RootedProblem) (hJ : p.Lines.length ≤ 1000000000) : fS_roGood fuel p = some (rootedB p) := by
  have := e_specIsRooted fuel hf p hJ
  unfold fS_IsRootedProblem at this
  cases h : fS_roGood fuel p with
  | none => rw [h] at this; exact this
  | some r => rw [h] at this; exact this
def lastB (p : T_RootedProblem) : List Int × Bool := if rootedB p then (lbs p.Labels.toNat (rootS p.Lines p.Labels.toNat (-1)), true) else ([], false)
theorem e_specLasting (fuel : Nat) (hf : 100 ≤ fuel) (p : T_RootedProblem) (hJ : p.Lines.length ≤ 1000000000) : fS_LastingLabels fuel p = some (lastB p) := by
  unfold fS_LastingLabels lastB
  rw [e_roGood fuel (by omega) p hJ, sb]
  cases h : rootedB p
  · simp
  · obtain ⟨h1, h2, h3⟩ := okLines_of h
    simp only [Bool.not_true, Bool.false_eq_true, if_false, if_true]
    rw [ck_in (by omega) (by omega), sb, e_roRoots p.Labels.toNat fuel p h1 h3 (by omega) (by omega) _ (by omega) (by omega), sb]
    congr 3
    unfold rootS
    rw [if_neg (by omega), if_neg (by omega)]
theorem e_implLasting (fuel : Nat) (hf : 100 ≤ fuel) (p : T_RootedProblem) (hJ : p.Lines.length ≤ 1000000000) : fI_LastingLabels fuel p = some (lastB p) := by
  unfold fI_LastingLabels lastB
  rw [e_implIsRooted fuel (by omega) p hJ, sb]
  cases h : rootedB p
  · simp
  · obtain ⟨h1, h2, h3⟩ := okLines_of h
    simp only [Bool.not_true, Bool.false_eq_true, if_false, if_true]
    have hlt : rootS p.Lines p.Labels.toNat (-1) < 2 ^ p.Labels.toNat := itR_lt h3 _
    rw [e_rootsOfDepth p.Labels.toNat fuel p h1 h3 (by omega) (by omega) _ (by omega) (by omega), sb, e_labelsIn p.Labels.toNat _ fuel hlt (by omega) (by omega), sb]
end Go.Proofs.Ytjmhjobfiemmnaa
