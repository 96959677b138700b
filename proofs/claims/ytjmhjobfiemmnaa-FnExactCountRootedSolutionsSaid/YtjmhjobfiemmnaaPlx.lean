/- Lines of a rooted problem: how they are found. -/
import Derived.Test.YtjmhjobfiemmnaaRis
import Derived.Test.YtjmhjobfiemmnaaGN
import Derived.Test.YtjmhjobfiemmnaaPd
import Derived.Test.YtjmhjobfiemmnaaPc
import Derived.Test.YtjmhjobfiemmnaaGR
import Derived.Test.YtjmhjobfiemmnaaPe
import Derived.Test.YtjmhjobfiemmnaaGL
import Derived.Test.YtjmhjobfiemmnaaPl
import Derived.Test.YtjmhjobfiemmnaaPa
import Derived.Test.YtjmhjobfiemmnaaGIx
import Derived.Test.YtjmhjobfiemmnaaGM
import Derived.Test.YtjmhjobfiemmnaaIm
import Derived.Test.YtjmhjobfiemmnaaGY
namespace Go.Proofs.Ytjmhjobfiemmnaa
set_option linter.unusedSimpArgs false
set_option linter.unusedVariables false

theorem lpF_go {σ τ ρ : Type} {f : σ → Option (Lp σ τ ρ)} {s s' : σ} (h : f s = some (.go s')) (fuel : Nat) : loopF f (fuel + 1) s = loopF f fuel s' := by simp only [loopF, h]
theorem lpF_out {σ τ ρ : Type} {f : σ → Option (Lp σ τ ρ)} {s : σ} {t : τ} (h : f s = some (.out t)) (fuel : Nat) : loopF f (fuel + 1) s = some (.inl t) := by simp only [loopF, h]
/-- A loop that goes through n known states. -/
theorem loopF_count {σ ρ : Type} {f : σ → Option (Lp σ σ ρ)} (R : Nat → σ) (n : Nat) (hgo : ∀ j, j < n → f (R j) = some (.go (R (j + 1)))) (hout : f (R n) = some (.out (R n))) : ∀ (fuel j : Nat), j ≤ n → n < fuel + j → loopF f fuel (R j) = some (.inl (R n)) := by
  intro fuel
  induction fuel with
  | zero => intro j h1 h2; omega
  | succ fuel ih =>
    intro j h1 h2
    by_cases e : j = n
    · subst e; exact lpF_out hout fuel
    · rw [lpF_go (hgo j (by omega)) fuel]; exact ih (j + 1) (by omega) (by omega)
/-- Halving. -/
theorem bs_loop {ρ : Type} {f : Int × Int → Option (Lp (Int × Int) (Int × Int) ρ)} (P : Nat → Bool) (n c : Nat) (hc : c ≤ n)
    (hf : ∀ lo hi : Nat, lo < hi → hi ≤ n → f ((lo : Int), (hi : Int)) = some (.go (if P ((lo + hi) / 2) then ((((lo + hi) / 2 + 1 : Nat) : Int), (hi : Int)) else ((lo : Int), (((lo + hi) / 2 : Nat) : Int)))))
    (ho : ∀ lo : Nat, lo ≤ n → f ((lo : Int), (lo : Int)) = some (.out ((lo : Int), (lo : Int)))) (h1 : ∀ j, j < c → P j = true) (h2 : ∀ j, c ≤ j → j < n → P j = false) :
    ∀ (fuel lo hi : Nat), lo ≤ c → c ≤ hi → hi ≤ n → hi < fuel + lo → loopF f fuel ((lo : Int), (hi : Int)) = some (.inl ((c : Int), (c : Int))) := by
  intro fuel
  induction fuel with
  | zero => intro lo hi a b d e; omega
  | succ fuel ih =>
    intro lo hi a b d e
    by_cases hlt : lo < hi
    · rw [lpF_go (hf lo hi hlt d) fuel]
      by_cases hm : (lo + hi) / 2 < c
      · rw [if_pos (h1 _ hm)]
        exact ih _ _ (by omega) b d (by omega)
      · rw [if_neg (by rw [h2 _ (by omega) (by omega)]; simp)]
        exact ih _ _ a (by omega) (by omega) (by omega)
    · have : lo = c := by omega
      have : hi = c := by omega
      subst_vars
      exact lpF_out (ho _ hc) fuel
theorem mid_ok {lo hi : Nat} (h : lo + hi ≤ 4000000000) : (ck ((lo : Int) + hi) >>= fun x => cvU x >>= fun y => shr y 1 >>= fun z => cvU z) = some ((((lo + hi) / 2 : Nat)) : Int) := by
  rw [ck_in (by omega) (by omega), sb]
  unfold cvU shr
  rw [if_pos (by omega), sb, if_neg (by omega), sb]
  have : ((lo : Int) + (hi : Int)).fdiv (2 ^ min (Int.toNat 1) 64) = (((lo + hi) / 2 : Nat) : Int) := by
    rw [show min (Int.toNat 1) 64 = 1 from rfl, Int.fdiv_eq_ediv_of_nonneg _ (by decide)]
    omega
  rw [this, if_pos (by omega)]
theorem countP_bound {α : Type} (p : α → Bool) : ∀ (l : List α), l.Pairwise (fun a b => p b = true → p a = true) → (∀ (j : Nat) x, l[j]? = some x → j < l.countP p → p x = true) ∧ ∀ (j : Nat) x, l[j]? = some x → l.countP p ≤ j → p x = false
  | [], _ => ⟨fun j x h => by simp at h, fun j x h => by simp at h⟩
  | a :: l, h => by
    rw [List.pairwise_cons] at h
    obtain ⟨h1, h2⟩ := countP_bound p l h.2
    cases hp : p a with
    | true =>
      rw [List.countP_cons_of_pos hp]
      refine ⟨fun j x hj hlt => ?_, fun j x hj hle => ?_⟩
      · cases j with
        | zero => simp at hj; subst hj; exact hp
        | succ j => exact h1 j x (by simpa using hj) (by omega)
      · cases j with
        | zero => omega
        | succ j => exact h2 j x (by simpa using hj) (by omega)
    | false =>
      have hall : ∀ x, x ∈ l → p x = false := fun x hx => by
        cases hx2 : p x with
        | false => rfl
        | true => rw [h.1 x hx hx2] at hp; cases hp
      have hz : l.countP p = 0 := List.countP_eq_zero.2 fun x hx => by rw [hall x hx]; simp
      rw [List.countP_cons_of_neg (by rw [hp]; simp), hz]
      refine ⟨fun j x hj hlt => by omega, fun j x hj hle => ?_⟩
      cases j with
      | zero => simp at hj; subst hj; exact hp
      | succ j => exact hall x (List.mem_of_getElem? (by simpa using hj))
theorem e_isNaN (a : Int) : fX_slices_isNaN_int a = some false := by unfold fX_slices_isNaN_int; simp
theorem e_BinarySearch (fuel : Nat) (xs : List Int) (t : Int) (hs : xs.Pairwise (· ≤ ·)) (hl : xs.length ≤ 1000000000) (hf : xs.length < fuel) :
    fX_slices_BinarySearch_int_int fuel xs t = some (((xs.countP fun x => decide (x < t) : Nat) : Int), decide (t ∈ xs)) := by
  obtain ⟨c1, c2⟩ := countP_bound (fun x => decide (x < t)) xs (hs.imp fun h hb => by simp only [decide_eq_true_eq] at hb ⊢; omega)
  have hc : xs.countP (fun x => decide (x < t)) ≤ xs.length := List.countP_le_length
  unfold fX_slices_BinarySearch_int_int
  have := bs_loop (f := fX_slices_BinarySearch_int_int_s1 xs t) (fun j => decide (xs.getD j 0 < t)) xs.length (xs.countP fun x => decide (x < t)) hc (fun lo hi h1 h2 => by
      have hm : (lo + hi) / 2 < xs.length := by omega
      unfold fX_slices_BinarySearch_int_int_s1
      simp only
      rw [if_pos (by simpa using h1)]
      have e := mid_ok (lo := lo) (hi := hi) (by omega)
      rw [ck_in (by omega) (by omega), sb] at e ⊢
      unfold cvU at e ⊢
      rw [if_pos (by omega), sb] at e ⊢
      cases hsh : shr ((lo : Int) + hi) 1 with
      | none => rw [hsh] at e; cases e
      | some z =>
        rw [hsh, sb] at e
        rw [sb]
        rw [e, sb, ix_lt _ _ hm, sb, e_less, sb]
        rw [show xs.getD ((lo + hi) / 2) 0 = xs[(lo + hi) / 2] by simp [List.getElem?_eq_getElem hm]]
        by_cases hlt : xs[(lo + hi) / 2] < t
        · simp only [decide_eq_true hlt, if_true]
          rw [ck_in (by omega) (by omega), sb]; rfl
        · simp only [decide_eq_false hlt]; rfl)
    (fun lo h => by
      unfold fX_slices_BinarySearch_int_int_s1
      simp only
      rw [if_neg (by simp)]) (fun j hj => by
      have hjl : j < xs.length := by omega
      have := c1 j _ (List.getElem?_eq_getElem hjl) hj
      simpa [List.getElem?_eq_getElem hjl] using this) (fun j hj hjl => by
      have := c2 j _ (List.getElem?_eq_getElem hjl) hj
      simpa [List.getElem?_eq_getElem hjl] using this) fuel 0 xs.length (Nat.zero_le _) hc (Nat.le_refl _) (by omega)
  rw [show ((0 : Nat) : Int) = 0 from rfl] at this
  rw [this, sb]
  simp only
  generalize hcc : xs.countP (fun x => decide (x < t)) = c at c1 c2 hc
  by_cases hlt : c < xs.length
  · rw [if_pos (by simpa using hlt), ix_lt _ _ hlt, sb]
    have hle : t ≤ xs[c] := by
      have := c2 c _ (List.getElem?_eq_getElem hlt) (Nat.le_refl _)
      simpa using this
    by_cases e : xs[c] = t
    · rw [if_pos (by simpa using e), sb]
      have : t ∈ xs := by rw [← e]; exact List.getElem_mem hlt
      simp [this]
    · rw [if_neg (by simpa using e), sb, e_isNaN, sb]
      have : t ∉ xs := by
        intro hm
        obtain ⟨j, hj, hj2⟩ := List.mem_iff_getElem.1 hm
        have h3 := c1 j _ (List.getElem?_eq_getElem hj)
        by_cases hjc : j < c
        · have := h3 hjc; rw [hj2] at this; simp at this
        · rw [List.pairwise_iff_getElem] at hs
          by_cases hjc2 : j = c
          · subst hjc2; exact e hj2
          · have := hs c j hlt hj (by omega)
            omega
      simp [this, sb]
  · rw [if_neg (by simpa using hlt), sb]
    have : t ∉ xs := by
      intro hm
      obtain ⟨j, hj, hj2⟩ := List.mem_iff_getElem.1 hm
      have := c1 j _ (List.getElem?_eq_getElem hj) (by omega)
      rw [hj2] at this; simp at this
    simp [this]
theorem srt_sorted (xs : List Int) : (srt xs).Pairwise (· ≤ ·) := by
  have := List.pairwise_mergeSort (le := fun x y : Int => decide (x ≤ y)) (fun a b c h1 h2 => by simp only [decide_eq_true_eq] at *; omega) (fun a b => by simp only [Bool.or_eq_true, decide_eq_true_eq]; omega) xs
  exact this.imp fun h => by simpa using h
theorem srt_perm (xs : List Int) : (srt xs).Perm xs := List.mergeSort_perm xs _
theorem srt_eq_ssort (xs : List Int) : srt xs = ssort xs :=
  List.Perm.eq_of_pairwise (le := fun a b => a ≤ b) (fun a b _ _ h1 h2 => Int.le_antisymm h1 h2) (srt_sorted xs) (ssort_sorted xs) ((srt_perm xs).trans (ssort_perm xs).symm)
/-! ### The order of lists of one length -/
theorem ordL_zero : ∀ {a b : List Int}, a.length = b.length → (ordL a b = 0 ↔ a = b)
  | [], [], _ => by simp [ordL]
  | [], _ :: _, h => by simp at h
  | _ :: _, [], h => by simp at h
  | x :: a, y :: b, h => by
    have ih := ordL_zero (a := a) (b := b) (by simpa using h)
    simp only [ordL]
    by_cases e : x < y
    · rw [if_pos e]; simp; omega
    · rw [if_neg e]
      by_cases e2 : x > y
      · rw [if_pos e2]; simp; omega
      · rw [if_neg e2, ih]
        have : x = y := by omega
        simp [this]
theorem ordL_trans : ∀ {a b c : List Int}, a.length = b.length → b.length = c.length → ordL a b < 0 → ordL b c < 0 → ordL a c < 0
  | [], [], [], _, _, h, _ => by simp [ordL] at h
  | [], [], _ :: _, _, h, _, _ => by simp at h
  | [], _ :: _, _, h, _, _, _ => by simp at h
  | _ :: _, [], _, h, _, _, _ => by simp at h
  | _ :: _, _ :: _, [], _, h, _, _ => by simp at h
  | x :: a, y :: b, z :: c, h1, h2, h3, h4 => by
    have ih := ordL_trans (a := a) (b := b) (c := c) (by simpa using h1) (by simpa using h2)
    simp only [ordL] at h3 h4 ⊢
    by_cases e : x < y
    · by_cases e2 : y < z
      · rw [if_pos (by omega)]; omega
      · rw [if_neg e2] at h4
        by_cases e3 : y > z
        · rw [if_pos e3] at h4; omega
        · rw [if_pos (by omega)]; omega
    · rw [if_neg e] at h3
      by_cases e2 : x > y
      · rw [if_pos e2] at h3; omega
      · rw [if_neg e2] at h3
        have : x = y := by omega
        subst this
        by_cases e3 : x < z
        · rw [if_pos e3]; omega
        · rw [if_neg e3] at h4 ⊢
          by_cases e4 : x > z
          · rw [if_pos e4] at h4; omega
          · rw [if_neg e4] at h4 ⊢
            exact ih h3 h4
/-! ### Lists of configurations -/
def confB (LL : List (List Int)) (m n : Int) (k : Nat) (x : List Int) : Bool :=
  decide ((x.length : Int) = m) && sortB x && x.all (inB 0 (n - 1)) && (decide (k = 0) || decide (ordL (LL.getD (k - 1) []) x < 0))
def confP (LL : List (List Int)) (m n : Int) (k : Nat) (x : List Int) : Option Bool := if confB LL m n k x then none else some false
def confsB (LL : List (List Int)) (m n : Int) : Bool := (firstP (confP LL m n) LL 0).isNone
theorem confP_res {LL xs : List (List Int)} {m n : Int} {k : Nat} {r : Bool} (h : firstP (confP LL m n) xs k = some r) : r = false := by
  obtain ⟨j, x, _, h2⟩ := firstP_some h
  unfold confP at h2
  split at h2 <;> cases h2
  rfl
theorem confP_none {LL : List (List Int)} {m n : Int} {k : Nat} {x : List Int} (h : confP LL m n k x = none) : (x.length : Int) = m ∧ sortB x = true ∧ (∀ y, y ∈ x → 0 ≤ y ∧ y ≤ n - 1) ∧ (k = 0 ∨ ordL (LL.getD (k - 1) []) x < 0) := by
  unfold confP at h
  split at h
  · rename_i hb
    simp only [confB, Bool.and_eq_true, decide_eq_true_eq, Bool.or_eq_true] at hb
    exact ⟨hb.1.1.1, hb.1.1.2, fun y hy => inB_iff.1 (List.all_eq_true.1 hb.1.2 y hy), hb.2⟩
  · cases h
theorem conf_bad {LL : List (List Int)} {m n : Int} {k : Nat} {x : List Int} (h : confB LL m n k x = false) : lpP (confP LL m n k x) = .ret false := by simp [confP, h, lpP]
theorem conf_good {LL : List (List Int)} {m n : Int} {k : Nat} {x : List Int} (h : confB LL m n k x = true) : lpP (confP LL m n k x) = .go () := by simp [confP, h, lpP]
theorem sorted_loop (m : Nat) (x : List Int) (hx : x.length = m) (hm : m ≤ 1000) : ∀ (fuel j : Nat), 1 ≤ j → (∀ (k : Nat) a b, k + 1 < j → x[k]? = some a → x[k + 1]? = some b → a ≤ b) → m < fuel + j ∧ j ≤ m →
    (∃ y, loopF (fS_prLists_s2 (m : Int) x) fuel (j : Int) = some (.inl y) ∧ sortB x = true) ∨ (loopF (fS_prLists_s2 (m : Int) x) fuel (j : Int) = some (.inr false) ∧ sortB x = false) := by
  intro fuel
  induction fuel with
  | zero =>
    intro j h1 h2 h3
    omega
  | succ fuel ih =>
    intro j h1 h2 h3
    by_cases hj : j < m
    · have e1 : x[j - 1]? = some (x[j - 1]'(by omega)) := List.getElem?_eq_getElem (by omega)
      have e2 : x[j]? = some (x[j]'(by omega)) := List.getElem?_eq_getElem (by omega)
      by_cases hle : x[j - 1]'(by omega) ≤ x[j]'(by omega)
      · have hs : fS_prLists_s2 (m : Int) x (j : Int) = some (.go ((j + 1 : Nat) : Int)) := by
          unfold fS_prLists_s2
          rw [if_pos (by simp; omega), ck_in (by omega) (by omega), sb, show (j : Int) - 1 = ((j - 1 : Nat) : Int) by omega, ix_nat, e1, sb, ix_nat, e2, sb, if_neg (by simp; omega), ck_in (by omega) (by omega), sb]; rfl
        rw [lpF_go hs fuel]
        refine ih (j + 1) (by omega) (fun k a b hk ha hb => ?_) (by omega)
        by_cases e : k + 1 = j
        · have : k = j - 1 := by omega
          subst this
          rw [e] at hb
          rw [e1] at ha; rw [e2] at hb; cases ha; cases hb; exact hle
        · exact h2 k a b (by omega) ha hb
      · right
        constructor
        · have hs : fS_prLists_s2 (m : Int) x (j : Int) = some (.ret false) := by
            unfold fS_prLists_s2
            rw [if_pos (by simp; omega), ck_in (by omega) (by omega), sb, show (j : Int) - 1 = ((j - 1 : Nat) : Int) by omega, ix_nat, e1, sb, ix_nat, e2, sb, if_pos (by simp; omega)]
          simp only [loopF, hs]
        · cases hb : sortB x with
          | false => rfl
          | true =>
            exfalso; apply hle
            exact sortB_get.1 hb (j - 1) _ _ e1 (by rw [show j - 1 + 1 = j by omega]; exact e2)
    · left
      refine ⟨(j : Int), ?_, ?_⟩
      · refine lpF_out ?_ fuel
        unfold fS_prLists_s2
        rw [if_neg (by simp; omega)]
      · refine sortB_get.2 fun k a b ha hb => h2 k a b ?_ ha hb
        have := (List.getElem?_eq_some_iff.1 hb).1
        omega
theorem e_prLists (fuel : Nat) (LL : List (List Int)) (m : Nat) (n : Int) (hm0 : 1 ≤ m) (hm : m ≤ 4) (hn : 1 ≤ n ∧ n ≤ 8) (hf : 10 ≤ fuel) (hJ : LL.length ≤ 1000000000) : fS_prLists fuel LL (m : Int) n = some (confsB LL m n) := by
  unfold fS_prLists confsB
  rw [forI_first0 (confP LL m n) LL (fun j x hj hall => by
    have hjl := (List.getElem?_eq_some_iff.1 hj).1
    unfold fS_prLists_s1
    by_cases h1 : (x.length : Int) = m
    · rw [if_neg (by simp [h1]), ck_in (by omega) (by omega), sb, e_l1All, sb]
      by_cases h2 : x.all (inB 0 (n - 1)) = true
      · rw [if_neg (by simp [h2])]
        have hlast : (if decide ((j : Int) > 0) then (ck ((j : Int) - 1) >>= fun x34 => ix LL x34 >>= fun x35 => fS_prOrder x35 x >>= fun x43 => some (decide (x43 ≥ 0))) else some false) = some (!(decide (j = 0) || decide (ordL (LL.getD (j - 1) []) x < 0))) := by
          cases j with
          | zero => simp
          | succ j =>
            have hp := confP_none (hall j LL[j] (by omega) (List.getElem?_eq_getElem (by omega)))
            rw [if_pos (by simp), ck_in (by omega) (by omega), sb, show (((j + 1 : Nat) : Int) - 1) = (j : Int) by omega, ix_lt _ _ (by omega), sb,
              e_prOrder _ _ (by omega) (fun y hy => by have := hp.2.2.1 y hy; omega) (fun y hy => by have := inB_iff.1 (List.all_eq_true.1 h2 y hy); omega), sb]
            have : LL.getD (j + 1 - 1) [] = LL[j] := by simp [List.getElem?_eq_getElem (show j < LL.length by omega)]
            rw [this]
            by_cases h4 : ordL LL[j] x < 0
            · simp [h4]
            · simp [h4]; omega
        rw [hlast, sb]
        cases h4 : (decide (j = 0) || decide (ordL (LL.getD (j - 1) []) x < 0))
        · rw [if_pos (by simp), conf_bad (by simp only [confB, h4, Bool.and_false])]
        · rw [if_neg (by simp)]
          rcases sorted_loop m x (by omega) (by omega) fuel 1 (Nat.le_refl _) (fun k a b hk => by omega) ⟨by omega, by omega⟩ with ⟨y, e1, e2⟩ | ⟨e1, e2⟩
          · rw [show ((1 : Nat) : Int) = 1 from rfl] at e1
            rw [e1, sb, conf_good (by simp only [confB, h1, h2, e2, h4, decide_true, Bool.and_self])]
          · rw [show ((1 : Nat) : Int) = 1 from rfl] at e1
            rw [e1, sb, conf_bad (by simp [confB, e2])]
      · rw [if_pos (by simp [h2]), sb, if_pos rfl, conf_bad (by simp [confB, h2])]
    · rw [if_pos (by simp; omega), sb, if_pos rfl, conf_bad (by simp [confB, h1])]), sb]
  cases hc : firstP (confP LL m n) LL 0 with
  | none => rfl
  | some r => have := confP_res hc; subst this; rfl
theorem e_configurationsOk (fuel : Nat) (LL : List (List Int)) (m : Nat) (n : Int) (hm : m ≤ 4) (hn : 1 ≤ n ∧ n ≤ 8) (hf : 10 ≤ fuel) (hJ : LL.length ≤ 1000000000) : fI_configurationsOk fuel LL (m : Int) n = some (confsB LL m n) := by
  unfold fI_configurationsOk confsB
  rw [forI_first0 (confP LL m n) LL (fun j x hj hall => by
    have hjl := (List.getElem?_eq_some_iff.1 hj).1
    unfold fI_configurationsOk_s1
    by_cases h1 : (x.length : Int) = m
    · rw [if_neg (by simp [h1]), e_IsSorted _ _ (by omega) (by omega), sb]
      by_cases h3 : sortB x = true
      · rw [if_neg (by simp [h3]), ck_in (by omega) (by omega), sb, e_allWithin _ _ _ (by omega), sb]
        by_cases h2 : x.all (inB 0 (n - 1)) = true
        · rw [if_neg (by simp [h2])]
          have hlast : (if decide ((j : Int) > 0) then (ck ((j : Int) - 1) >>= fun x34 => ix LL x34 >>= fun x35 => fX_slices_Compare_int_int x35 x >>= fun x43 => some (decide (x43 ≥ 0))) else some false) = some (!(decide (j = 0) || decide (ordL (LL.getD (j - 1) []) x < 0))) := by
            cases j with
            | zero => simp
            | succ j =>
              have hp := confP_none (hall j LL[j] (by omega) (List.getElem?_eq_getElem (by omega)))
              rw [if_pos (by simp), ck_in (by omega) (by omega), sb, show (((j + 1 : Nat) : Int) - 1) = (j : Int) by omega, ix_lt _ _ (by omega), sb, e_Compare _ _ (by omega), sb]
              have : LL.getD (j + 1 - 1) [] = LL[j] := by simp [List.getElem?_eq_getElem (show j < LL.length by omega)]
              rw [this]
              by_cases h4 : ordL LL[j] x < 0
              · simp [h4]
              · simp [h4]; omega
          rw [hlast, sb]
          cases h4 : (decide (j = 0) || decide (ordL (LL.getD (j - 1) []) x < 0))
          · rw [if_pos (by simp), conf_bad (by simp only [confB, h4, Bool.and_false])]
          · rw [if_neg (by simp), conf_good (by simp only [confB, h1, h2, h3, h4, decide_true, Bool.and_self])]
        · rw [if_pos (by simp [h2]), sb, if_pos rfl, conf_bad (by simp [confB, h2])]
      · rw [if_pos (by simp [h3]), sb, if_pos rfl, conf_bad (by simp [confB, h3])]
    · rw [if_pos (by simp; omega), sb, if_pos rfl, conf_bad (by simp [confB, h1])]), sb]
  cases hc : firstP (confP LL m n) LL 0 with
  | none => rfl
  | some r => have := confP_res hc; subst this; rfl
def probB (p : T_Problem) : Bool := inB 1 8 p.Labels && inB 1 4 p.Degree && confsB p.Nodes p.Degree p.Labels && confsB p.Edges 2 p.Labels
theorem e_prGood (fuel : Nat) (hf : 10 ≤ fuel) (p : T_Problem) (hJ : p.Nodes.length ≤ 1000000000) (hE : p.Edges.length ≤ 1000000000) : fS_prGood fuel p = some (probB p) := by
  unfold fS_prGood probB
  rw [e_l1In, sb]
  rw [show (decide (1 ≤ p.Labels) && decide (p.Labels ≤ 8)) = inB 1 8 p.Labels from rfl]
  cases h1 : inB 1 8 p.Labels
  · simp [sb]
  · rw [if_pos rfl, e_l1In, sb]
    rw [show (decide (1 ≤ p.Degree) && decide (p.Degree ≤ 4)) = inB 1 4 p.Degree from rfl]
    cases h2 : inB 1 4 p.Degree
    · simp [sb]
    · have h1' := inB_iff.1 h1
      have h2' := inB_iff.1 h2
      obtain ⟨m, hm⟩ : ∃ m : Nat, p.Degree = m := ⟨p.Degree.toNat, by omega⟩
      rw [if_pos rfl, hm, e_prLists fuel p.Nodes m p.Labels (by omega) (by omega) h1' hf hJ, sb]
      cases h3 : confsB p.Nodes m p.Labels
      · simp [sb]
      · rw [if_pos rfl]
        have := e_prLists fuel p.Edges 2 p.Labels (by omega) (by omega) h1' hf hE
        rw [show ((2 : Nat) : Int) = 2 from rfl] at this
        rw [this, sb, sb]; simp
theorem e_IsProblem (fuel : Nat) (hf : 10 ≤ fuel) (p : T_Problem) (hJ : p.Nodes.length ≤ 1000000000) (hE : p.Edges.length ≤ 1000000000) : fI_IsProblem fuel p = some (probB p) := by
  unfold fI_IsProblem probB
  rw [e_within, sb]
  rw [show (decide (1 ≤ p.Labels) && decide (p.Labels ≤ 8)) = inB 1 8 p.Labels from rfl]
  cases h1 : inB 1 8 p.Labels
  · simp [sb]
  · rw [if_pos rfl, e_within, sb]
    rw [show (decide (1 ≤ p.Degree) && decide (p.Degree ≤ 4)) = inB 1 4 p.Degree from rfl]
    cases h2 : inB 1 4 p.Degree
    · simp [sb]
    · have h1' := inB_iff.1 h1
      have h2' := inB_iff.1 h2
      obtain ⟨m, hm⟩ : ∃ m : Nat, p.Degree = m := ⟨p.Degree.toNat, by omega⟩
      rw [if_pos rfl, hm, e_configurationsOk fuel p.Nodes m p.Labels (by omega) h1' hf hJ, sb]
      cases h3 : confsB p.Nodes m p.Labels
      · simp [sb]
      · rw [if_pos rfl]
        have := e_configurationsOk fuel p.Edges 2 p.Labels (by omega) h1' hf hE
        rw [show ((2 : Nat) : Int) = 2 from rfl] at this
        rw [this, sb, sb]; simp
/-! ### Membership -/
theorem confs_pair {LL : List (List Int)} {m n : Int} (h : confsB LL m n = true) : (∀ x, x ∈ LL → (x.length : Int) = m ∧ sortB x = true ∧ ∀ y, y ∈ x → 0 ≤ y ∧ y ≤ n - 1) ∧ LL.Pairwise (fun a b => ordL a b < 0) := by
  unfold confsB at h
  rw [Option.isNone_iff_eq_none] at h
  have hp := firstP_none.1 h
  have hm : ∀ (j : Nat) x, LL[j]? = some x → (x.length : Int) = m ∧ sortB x = true ∧ (∀ y, y ∈ x → 0 ≤ y ∧ y ≤ n - 1) ∧ (j = 0 ∨ ordL (LL.getD (j - 1) []) x < 0) := fun j x hj => by
    have := hp j x hj
    rw [Nat.zero_add] at this
    exact confP_none this
  refine ⟨fun x hx => ?_, ?_⟩
  · obtain ⟨j, hj⟩ := List.mem_iff_getElem?.1 hx
    have := hm j x hj
    exact ⟨this.1, this.2.1, this.2.2.1⟩
  · have key : ∀ (d i : Nat) (hi : i + d + 1 < LL.length), ordL (LL[i]'(by omega)) LL[i + d + 1] < 0 := by
      intro d
      induction d with
      | zero =>
        intro i hi
        have := (hm (i + 1) _ (List.getElem?_eq_getElem hi)).2.2.2
        simpa [List.getElem?_eq_getElem (show i < LL.length by omega)] using this
      | succ d ih =>
        intro i hi
        have h1 := ih i (by omega)
        have := (hm (i + d + 1 + 1) _ (List.getElem?_eq_getElem hi)).2.2.2
        have h2 : ordL (LL[i + d + 1]'(by omega)) LL[i + (d + 1) + 1] < 0 := by simpa [List.getElem?_eq_getElem (show i + d + 1 < LL.length by omega)] using this
        have l1 := (hm i _ (List.getElem?_eq_getElem (by omega))).1
        have l2 := (hm (i + d + 1) _ (List.getElem?_eq_getElem (by omega))).1
        have l3 := (hm (i + (d + 1) + 1) _ (List.getElem?_eq_getElem hi)).1
        exact ordL_trans (by omega) (by omega) h1 h2
    rw [List.pairwise_iff_getElem]
    intro i j hi hj hij
    have := key (j - i - 1) i (by omega)
    simpa [show i + (j - i - 1) + 1 = j by omega] using this
theorem e_hasConf (fuel : Nat) (LL : List (List Int)) (m n : Int) (hc : confsB LL m n = true) (t : List Int) (ht : (t.length : Int) = m) (hJ : LL.length ≤ 1000000000) (hl : t.length ≤ 1000000000) (hf : LL.length < fuel) : fI_hasConfiguration fuel LL t = some (decide (srt t ∈ LL)) := by
  obtain ⟨hm, hp⟩ := confs_pair hc
  have hs := srt_length t
  generalize hst : srt t = s at hs
  unfold fI_hasConfiguration srtO
  rw [if_pos hl, sb, hst]
  have hcmp : ∀ x, x ∈ LL → fX_slices_Compare_int_int x s = some (ordL x s) := fun x hx => e_Compare x s (by have := (hm x hx).1; omega)
  obtain ⟨c1, c2⟩ := countP_bound (fun x => decide (x.length = s.length) && decide (ordL x s < 0)) LL (hp.imp_of_mem fun {a b} ha hb hab h => by
    simp only [Bool.and_eq_true, decide_eq_true_eq] at h ⊢
    have l1 := (hm a ha).1
    exact ⟨by omega, ordL_trans (by omega) h.1 hab h.2⟩)
  have hcl : LL.countP (fun x => decide (x.length = s.length) && decide (ordL x s < 0)) ≤ LL.length := List.countP_le_length
  generalize LL.countP (fun x => decide (x.length = s.length) && decide (ordL x s < 0)) = c at c1 c2 hcl
  have hat : ∀ (j : Nat) (hj : j < LL.length), (decide (LL[j].length = s.length) && decide (ordL LL[j] s < 0)) = decide (ordL LL[j] s < 0) := fun j hj => by
    have := (hm _ (List.getElem_mem hj)).1
    rw [show decide (LL[j].length = s.length) = true by rw [decide_eq_true_eq]; omega, Bool.true_and]
  unfold fX_slices_BinarySearchFunc_LLint_int_int
  have := bs_loop (f := fX_slices_BinarySearchFunc_LLint_int_int_s1 LL s (fun z18 : (List Int) × (List Int) => fX_slices_Compare_int_int z18.1 z18.2)) (fun j => decide (ordL (LL.getD j []) s < 0)) LL.length c hcl (fun lo hi h1 h2 => by
      have hmid : (lo + hi) / 2 < LL.length := by omega
      unfold fX_slices_BinarySearchFunc_LLint_int_int_s1
      simp only
      rw [if_pos (by simpa using h1)]
      have e := mid_ok (lo := lo) (hi := hi) (by omega)
      rw [ck_in (by omega) (by omega), sb] at e ⊢
      unfold cvU at e ⊢
      rw [if_pos (by omega), sb] at e ⊢
      cases hsh : shr ((lo : Int) + hi) 1 with
      | none => rw [hsh] at e; cases e
      | some z =>
        rw [hsh, sb] at e
        rw [sb]
        rw [e, sb, ix_lt _ _ hmid, sb, hcmp _ (List.getElem_mem hmid), sb]
        rw [show LL.getD ((lo + hi) / 2) [] = LL[(lo + hi) / 2] by simp [List.getElem?_eq_getElem hmid]]
        by_cases hlt : ordL LL[(lo + hi) / 2] s < 0
        · simp only [decide_eq_true hlt, if_true]
          rw [ck_in (by omega) (by omega), sb]; rfl
        · simp only [decide_eq_false hlt]; rfl)
    (fun lo h => by
      unfold fX_slices_BinarySearchFunc_LLint_int_int_s1
      simp only
      rw [if_neg (by simp)]) (fun j hj => by
      have hjl : j < LL.length := by omega
      have := c1 j _ (List.getElem?_eq_getElem hjl) hj
      rw [hat j hjl] at this
      simpa [List.getElem?_eq_getElem hjl] using this) (fun j hj hjl => by
      have := c2 j _ (List.getElem?_eq_getElem hjl) hj
      rw [hat j hjl] at this
      simpa [List.getElem?_eq_getElem hjl] using this) fuel 0 LL.length (Nat.zero_le _) hcl (Nat.le_refl _) (by omega)
  rw [show ((0 : Nat) : Int) = 0 from rfl] at this
  rw [this, sb]
  simp only
  have hnot : ∀ (j : Nat) (hj : j < LL.length), LL[j] = s → c ≤ j := fun j hj e => by
    rcases Nat.lt_or_ge j c with h | h
    · have := c1 j _ (List.getElem?_eq_getElem hj) h
      rw [hat j hj, e, decide_eq_true_eq, (ordL_zero rfl).2 rfl] at this
      omega
    · exact h
  by_cases hlt : c < LL.length
  · rw [if_pos (by simpa using hlt), ix_lt _ _ hlt, sb, hcmp _ (List.getElem_mem hlt), sb, sb, sb]
    simp only
    congr 1
    rw [Bool.eq_iff_iff, beq_iff_eq, decide_eq_true_eq, ordL_zero (by have := (hm _ (List.getElem_mem hlt)).1; omega)]
    constructor
    · intro e; rw [← e]; exact List.getElem_mem hlt
    · intro e
      obtain ⟨j, hj, hj2⟩ := List.mem_iff_getElem.1 e
      have h1 := hnot j hj hj2
      by_cases hjc : c = j
      · subst hjc; exact hj2
      · exfalso
        rw [List.pairwise_iff_getElem] at hp
        have h2 := hp c j hlt hj (by omega)
        rw [hj2] at h2
        have := c2 c _ (List.getElem?_eq_getElem hlt) (Nat.le_refl _)
        rw [hat c hlt, decide_eq_false_iff_not] at this
        exact this h2
  · rw [if_neg (by simpa using hlt), sb, sb]
    have : s ∉ LL := by
      intro e
      obtain ⟨j, hj, hj2⟩ := List.mem_iff_getElem.1 e
      have := hnot j hj hj2
      omega
    simp [this]
theorem e_prHas (LL : List (List Int)) (x : List Int) (hl : x.length ≤ 1000000000) : fS_prHas LL x = some (decide (x ∈ LL)) := by
  unfold fS_prHas
  rw [forI_first0 (fun _ y => if decide (x = y) then some true else none) LL (fun j y hj _ => by
    unfold fS_prHas_s1
    rw [e_l1Same _ _ hl, sb]
    by_cases h : x = y <;> simp [h, lpP]), sb]
  cases hc : firstP (fun _ y => if decide (x = y) then some true else none) LL 0 with
  | none =>
    have : x ∉ LL := fun hm => by
      obtain ⟨j, hj⟩ := List.mem_iff_getElem?.1 hm
      have := firstP_none.1 hc j x hj
      simp at this
    simp [outP, this]
  | some r =>
    obtain ⟨j, y, h1, h2⟩ := firstP_some hc
    by_cases e : x = y
    · subst e
      simp at h2
      subst h2
      simp [outP, List.mem_of_getElem? h1]
    · simp [e] at h2
theorem e_prNode (fuel : Nat) (p : T_Problem) (t : List Int) (hl : t.length ≤ 1000000) (hf : t.length < fuel) : fS_prNode fuel p t = some (decide (srt t ∈ p.Nodes)) := by
  unfold fS_prNode
  rw [e_prSorted _ _ hf (by omega), sb, ← srt_eq_ssort, e_prHas _ _ (by rw [srt_length]; omega), sb]
theorem srt_two (a b : Int) : srt [a, b] = if a ≤ b then [a, b] else [b, a] := by
  refine List.Perm.eq_of_pairwise (le := fun a b => a ≤ b) (fun a b _ _ h1 h2 => Int.le_antisymm h1 h2) (srt_sorted _) ?_ ((srt_perm _).trans ?_)
  · split <;> simp <;> omega
  · split
    · exact List.Perm.refl _
    · exact List.Perm.swap _ _ _
theorem e_prEdge (p : T_Problem) (a b : Int) : fS_prEdge p a b = some (decide (srt [a, b] ∈ p.Edges)) := by
  unfold fS_prEdge fS_l1Least fS_l1Most
  have : srt [a, b] = [if a < b then a else b, if a > b then a else b] := by
    rw [srt_two]
    by_cases h : a < b
    · rw [if_pos (by omega), if_pos h, if_neg (by omega)]
    · by_cases h2 : a > b
      · rw [if_neg (by omega), if_neg h, if_pos h2]
      · have : a = b := by omega
        subst this; simp
  rw [this]
  by_cases h : a < b
  · have h2 : ¬ a > b := by omega
    rw [if_pos (by simpa using h), sb, if_neg (by simpa using h2), sb, if_pos h, if_neg h2, e_prHas _ _ (by simp), sb]
  · by_cases h2 : a > b
    · rw [if_neg (by simpa using h), sb, if_pos (by simpa using h2), sb, if_neg h, if_pos h2, e_prHas _ _ (by simp), sb]
    · rw [if_neg (by simpa using h), sb, if_neg (by simpa using h2), sb, if_neg h, if_neg h2, e_prHas _ _ (by simp), sb]
theorem probB_iff {p : T_Problem} (h : probB p = true) : 1 ≤ p.Labels ∧ p.Labels ≤ 8 ∧ 1 ≤ p.Degree ∧ p.Degree ≤ 4 ∧ confsB p.Nodes p.Degree p.Labels = true ∧ confsB p.Edges 2 p.Labels = true := by
  simp only [probB, Bool.and_eq_true] at h
  have h1 := inB_iff.1 h.1.1.1
  have h2 := inB_iff.1 h.1.1.2
  exact ⟨h1.1, h1.2, h2.1, h2.2, h.1.2, h.2⟩
theorem e_node (fuel : Nat) (p : T_Problem) (h : probB p = true) (t : List Int) (ht : (t.length : Int) = p.Degree) (hJ : p.Nodes.length ≤ 1000000000) (hf : p.Nodes.length < fuel) : fI_Problem_node fuel p t = some (decide (srt t ∈ p.Nodes)) := by
  obtain ⟨h1, h2, h3, h4, h5, h6⟩ := probB_iff h
  unfold fI_Problem_node
  rw [e_hasConf fuel _ _ _ h5 t ht hJ (by omega) hf, sb]
theorem e_edge (fuel : Nat) (p : T_Problem) (h : probB p = true) (a b : Int) (hJ : p.Edges.length ≤ 1000000000) (hf : p.Edges.length < fuel) : fI_Problem_edge fuel p a b = some (decide (srt [a, b] ∈ p.Edges)) := by
  obtain ⟨h1, h2, h3, h4, h5, h6⟩ := probB_iff h
  unfold fI_Problem_edge
  rw [e_hasConf fuel _ _ _ h6 [a, b] (by simp) hJ (by simp) hf, sb]
theorem forI_invt {α σ ρ : Type} {body : Int → α → σ → Option (Lp σ σ ρ)} (R : Nat → σ) : ∀ (xs : List α) (k : Nat), (∀ (j : Nat) x, xs[j]? = some x → body ((k + j : Nat) : Int) x (R (k + j)) = some (.go (R (k + j + 1)))) →
    forI body xs (k : Int) (R k) = some (.inl (R (k + xs.length)))
  | [], k, h => rfl
  | x :: xs, k, h => by
    have h0 := h 0 x rfl
    simp only [Nat.add_zero] at h0
    simp only [forI, h0]
    rw [show ((k : Int) + 1) = ((k + 1 : Nat) : Int) by omega]
    rw [forI_invt R xs (k + 1) (fun j y hj => by have := h (j + 1) y (by simpa using hj); rw [show k + (j + 1) = k + 1 + j by omega] at this; exact this)]
    rw [List.length_cons, show k + 1 + xs.length = k + (xs.length + 1) by omega]
theorem forI_invt0 {α σ ρ : Type} {body : Int → α → σ → Option (Lp σ σ ρ)} (R : Nat → σ) (xs : List α) (h : ∀ (j : Nat) x, xs[j]? = some x → body (j : Int) x (R j) = some (.go (R (j + 1)))) :
    forI body xs 0 (R 0) = some (.inl (R xs.length)) := by
  have := forI_invt R xs 0 (fun j x hj => by rw [Nat.zero_add]; exact h j x hj)
  rw [Nat.zero_add] at this; exact this
/-- The children of v among the first j nodes. -/
def kidF (par : List Int) (j v : Nat) : List Int := ((List.range j).filter fun w => par.getD w (-2) == (v : Int)).map fun w : Nat => (w : Int)
def kidsL (par : List Int) (j : Nat) : List (List Int) := (List.range par.length).map (kidF par j)
theorem kidF_succ (par : List Int) (j v : Nat) : kidF par (j + 1) v = if par.getD j (-2) == (v : Int) then kidF par j v ++ [(j : Int)] else kidF par j v := by
  simp only [kidF, List.range_succ, List.filter_append, List.map_append, List.filter_cons, List.filter_nil]
  split <;> simp
theorem kidF_length (par : List Int) (j v : Nat) : (kidF par j v).length ≤ j := by
  simp only [kidF, List.length_map]
  exact Nat.le_trans (List.length_filter_le _ _) (by simp)
theorem kidsL_length (par : List Int) (j : Nat) : (kidsL par j).length = par.length := by simp [kidsL]
theorem kidsL_get {par : List Int} {j v : Nat} (h : v < par.length) : (kidsL par j)[v]? = some (kidF par j v) := by simp [kidsL, h]
theorem mem_kidF {par : List Int} {j v : Nat} {y : Int} : y ∈ kidF par j v ↔ ∃ w : Nat, y = w ∧ w < j ∧ par.getD w (-2) = v := by
  simp only [kidF, List.mem_map, List.mem_filter, List.mem_range, beq_iff_eq]
  constructor
  · rintro ⟨i, ⟨h1, h2⟩, rfl⟩; exact ⟨i, rfl, h1, h2⟩
  · rintro ⟨i, rfl, h1, h2⟩; exact ⟨i, ⟨h1, h2⟩, rfl⟩
theorem kidsL_step (par : List Int) (j : Nat) (x : Int) (hj : par[j]? = some x) (hx : x < par.length) (hl : par.length ≤ 1000000) :
    fS_roBelow_s1 (j : Int) x (kidsL par j) = some (.go (kidsL par (j + 1))) := by
  have hjl := (List.getElem?_eq_some_iff.1 hj).1
  have hgd : par.getD j (-2) = x := by rw [List.getD_eq_getElem?_getD, hj]; rfl
  unfold fS_roBelow_s1
  by_cases h0 : x ≥ 0
  · obtain ⟨k, rfl⟩ : ∃ k : Nat, x = k := ⟨x.toNat, by omega⟩
    have hk : k < par.length := by omega
    have hlen := kidF_length par j k
    rw [if_pos (by simp), ix_nat, kidsL_get hk, sb]
    unfold push
    rw [if_pos (by omega), sb, sb, st_nat _ _ _ (by rw [kidsL_length]; exact hk), sb]
    congr 2
    refine List.ext_getElem? fun v => ?_
    rw [List.getElem?_set]
    by_cases e : k = v
    · subst e
      rw [if_pos rfl, if_pos (by rw [kidsL_length]; exact hk), kidsL_get hk, kidF_succ, hgd]
      simp
    · rw [if_neg e]
      by_cases hv : v < par.length
      · rw [kidsL_get hv, kidsL_get hv, kidF_succ, hgd, if_neg (by simp; omega)]
      · rw [List.getElem?_eq_none (by rw [kidsL_length]; omega), List.getElem?_eq_none (by rw [kidsL_length]; omega)]
  · rw [if_neg (by simpa using h0)]
    congr 2
    refine List.map_congr_left fun v _ => ?_
    rw [kidF_succ, hgd, if_neg (by simp; omega)]
theorem e_roBelow (par : List Int) (h : ∀ x, x ∈ par → x < par.length) (hl : par.length ≤ 1000000) : fS_roBelow par = some (kidsL par par.length) := by
  unfold fS_roBelow
  unfold mk
  rw [if_pos (by omega), sb]
  have h0 : List.replicate ((par.length : Int)).toNat ([] : List Int) = kidsL par 0 := by
    have e : kidF par 0 = fun _ => [] := by funext v; simp [kidF]
    simp [kidsL, e, List.map_const']
  rw [h0, forI_invt0 (fun j => kidsL par j) par (fun j x hj => kidsL_step par j x hj (h x (List.mem_of_getElem? hj)) hl), sb]
theorem e_childrenOf (par : List Int) (h : ∀ x, x ∈ par → x < par.length) (hl : par.length ≤ 1000000) : fI_childrenOf par = some (kidsL par par.length) := e_roBelow par h hl
/-- Two loops that step alike. -/
theorem forI_two {α σ ρ ρ' : Type} {f : Int → α → σ → Option (Lp σ σ ρ)} {g : Int → α → σ → Option (Lp σ σ ρ')} (P : Nat → σ → Prop) : ∀ (xs : List α) (k : Nat) (s : σ), P k s →
    (∀ (j : Nat) x s, xs[j]? = some x → P (k + j) s → ∃ s', f ((k + j : Nat) : Int) x s = some (.go s') ∧ g ((k + j : Nat) : Int) x s = some (.go s') ∧ P (k + j + 1) s') →
    ∃ r, forI f xs (k : Int) s = some (.inl r) ∧ forI g xs (k : Int) s = some (.inl r) ∧ P (k + xs.length) r
  | [], k, s, hs, h => ⟨s, rfl, rfl, hs⟩
  | x :: xs, k, s, hs, h => by
    obtain ⟨s', h1, h2, h3⟩ := h 0 x s rfl hs
    rw [Nat.add_zero] at h1 h2 h3
    obtain ⟨r, r1, r2, r3⟩ := forI_two P xs (k + 1) s' h3 (fun j y s hj hp => by
      have := h (j + 1) y s hj (by rw [show k + (j + 1) = k + 1 + j by omega]; exact hp)
      rw [show k + (j + 1) = k + 1 + j by omega] at this
      exact this)
    refine ⟨r, ?_, ?_, by rw [List.length_cons, show k + (xs.length + 1) = k + 1 + xs.length by omega]; exact r3⟩
    · simp only [forI, h1]; exact r1
    · simp only [forI, h2]; exact r2
theorem e_IndexFuncL (xs : List (List Int)) (f : List Int → Option Bool) (g : List Int → Bool) (hf : ∀ x, x ∈ xs → f x = some (g x)) (hl : xs.length ≤ 1000000000) :
    fX_slices_IndexFunc_LLint_int xs f = some ((firstP (fun k x => if g x then some (k : Int) else none) xs 0).getD (-1)) := by
  unfold fX_slices_IndexFunc_LLint_int
  rw [ck_in (by omega) (by omega), sb]
  simp only [Int.toNat_natCast]
  rw [forN_first0 (fun k x => if g x then some (k : Int) else none) xs (fun j x hj _ => by
    unfold fX_slices_IndexFunc_LLint_int_s1
    rw [ix_nat, hj, sb, hf x (List.mem_of_getElem? hj), sb]
    cases h : g x <;> simp [h, lpP]), sb]
  cases firstP (fun k x => if g x then some (k : Int) else none) xs 0 <;> rfl
theorem e_ContainsFuncL (xs : List (List Int)) (f : List Int → Option Bool) (g : List Int → Bool) (hf : ∀ x, x ∈ xs → f x = some (g x)) (hl : xs.length ≤ 1000000000) :
    fX_slices_ContainsFunc_LLint_int xs f = some (xs.any g) := by
  unfold fX_slices_ContainsFunc_LLint_int
  rw [e_IndexFuncL xs f g hf hl, sb]
  cases h : firstP (fun k x => if g x then some (k : Int) else none) xs 0 with
  | some r =>
    obtain ⟨j, x, h1, h2⟩ := firstP_some h
    have h3 : g x = true := by
      cases hg : g x with
      | true => rfl
      | false => rw [hg] at h2; cases h2
    have h4 : xs.any g = true := List.any_eq_true.2 ⟨x, List.mem_of_getElem? h1, h3⟩
    rw [h3, if_pos rfl] at h2
    cases h2
    rw [h4]
    simp
  | none =>
    have h4 : xs.any g = false := by
      rw [List.any_eq_false]
      intro x hx hg
      obtain ⟨j, hj⟩ := List.mem_iff_getElem?.1 hx
      have := firstP_none.1 h j x hj
      rw [hg] at this
      simp at this
    rw [h4]
    simp
/-! ### Trees -/
def parB (k : Nat) (x : Int) : Bool := if k = 0 then x == -1 else inB 0 ((k : Int) - 1) x
def parP (k : Nat) (x : Int) : Option Bool := if parB k x then none else some false
def treeB (c : Int) (par : List Int) : Bool := inB 1 3 c && inB 1 200 (par.length : Int) && (firstP parP par 0).isNone && (kidsL par par.length).all fun l => decide (l = []) || decide ((l.length : Int) = c)
theorem parP_res {xs : List Int} {k : Nat} {r : Bool} (h : firstP parP xs k = some r) : r = false := by
  obtain ⟨j, x, _, h2⟩ := firstP_some h
  unfold parP at h2
  split at h2 <;> cases h2
  rfl
theorem parP_none {par : List Int} (h : firstP parP par 0 = none) : ∀ (j : Nat) x, par[j]? = some x → if j = 0 then x = -1 else 0 ≤ x ∧ x < j := by
  intro j x hj
  have := firstP_none.1 h j x hj
  unfold parP at this
  rw [Nat.zero_add] at this
  split at this
  · rename_i hh
    unfold parB at hh
    by_cases h0 : j = 0
    · rw [if_pos h0] at hh ⊢; simpa using hh
    · rw [if_neg h0] at hh ⊢; have := inB_iff.1 hh; omega
  · cases this
theorem par_lt {par : List Int} (h : firstP parP par 0 = none) : ∀ x, x ∈ par → x < par.length := by
  intro x hx
  obtain ⟨j, hj⟩ := List.mem_iff_getElem?.1 hx
  have hjl := (List.getElem?_eq_some_iff.1 hj).1
  have := parP_none h j x hj
  split at this <;> omega
theorem e_roTree (c : Int) (par : List Int) (hl : par.length ≤ 1048576) : fS_roTree c par = some (treeB c par) := by
  unfold fS_roTree treeB
  rw [e_l1In, sb]
  by_cases hc : inB 1 3 c = true
  · have hc' := hc
    simp only [inB] at hc'
    rw [hc', if_neg (by simp), e_l1In, sb]
    by_cases hn : inB 1 200 (par.length : Int) = true
    · have hn' := inB_iff.1 hn
      have hn2 := hn
      simp only [inB] at hn2
      rw [hn2, sb, if_neg (by simp), forI_first0 parP par (fun j x hj hall => by
        have hjl := (List.getElem?_eq_some_iff.1 hj).1
        unfold fS_roTree_s1
        rw [ck_in (by omega) (by omega), sb, e_l1In, sb]
        rw [show (decide (0 ≤ x) && decide (x ≤ (j : Int) - 1)) = inB 0 ((j : Int) - 1) x from rfl]
        unfold parP parB
        by_cases h0 : j = 0
        · subst h0
          rw [if_pos (by simp only [inB]; simp; omega), if_neg (by simp), sb]
          by_cases hx : x = -1
          · subst hx; simp [lpP]
          · simp [hx, lpP]
        · rw [if_neg h0]
          by_cases hb : inB 0 ((j : Int) - 1) x = true
          · rw [hb]; simp [lpP, sb]
          · rw [if_pos (by simpa using hb), if_pos (by simp; omega), sb]
            simp [hb, lpP]), sb]
      cases hp : firstP parP par 0 with
      | some r => have := parP_res hp; subst this; simp [outP, hc, hn]
      | none =>
        simp only [outP]
        rw [e_roBelow par (par_lt hp) (by omega), sb, forI_first0 (fun _ l => if decide (l = []) || decide ((l.length : Int) = c) then none else some false) _ (fun j l hj hall => by
          unfold fS_roTree_s2
          by_cases h1 : l = []
          · subst h1; simp [lpP, sb]
          · have : (l.length : Int) ≠ 0 := by
              intro e; apply h1; exact List.eq_nil_of_length_eq_zero (by omega)
            rw [if_pos (by simpa using this), sb]
            by_cases h2 : (l.length : Int) = c
            · simp [h2, lpP]
            · simp [h1, h2, lpP]), sb, firstP_all]
        simp only [hc, hn, Option.isNone_none, Bool.true_and]
        cases (kidsL par par.length).all (fun l => decide (l = []) || decide ((l.length : Int) = c)) <;> rfl
    · have hn2 := hn
      simp only [inB] at hn2
      simp [hc, hn, sb, hn2, inB]
  · have hc' := hc
    simp only [inB] at hc'
    simp [hc, sb, hc', inB]
theorem e_IsRootedTree (c : Int) (par : List Int) (hl : par.length ≤ 1048576) : fI_IsRootedTree c par = some (treeB c par) := by
  unfold fI_IsRootedTree treeB
  rw [e_within, sb]
  by_cases hc : inB 1 3 c = true
  · have hc' := hc
    simp only [inB] at hc'
    rw [hc', if_neg (by simp), e_within, sb]
    by_cases hn : inB 1 200 (par.length : Int) = true
    · have hn' := inB_iff.1 hn
      have hn2 := hn
      simp only [inB] at hn2
      rw [hn2, if_neg (by simp), show (0 : Int) = ((0 : Nat) : Int) from rfl, ix_lt par 0 (by omega), sb, sb]
      by_cases h0 : par[0]'(by omega) = -1
      · rw [if_neg (by simp [h0]), show ((0 : Nat) : Int) = 0 from rfl, forI_first0 parP par (fun j x hj hall => by
          have hjl := (List.getElem?_eq_some_iff.1 hj).1
          unfold fI_IsRootedTree_s1 parP parB
          by_cases hj0 : j = 0
          · subst hj0
            have : x = -1 := by rw [← h0]; exact ((List.getElem?_eq_some_iff.1 hj).2).symm
            subst this
            simp [lpP, sb]
          · rw [if_pos (by simp; omega), ck_in (by omega) (by omega), sb, e_within, sb, sb, if_neg hj0]
            rw [show (decide (0 ≤ x) && decide (x ≤ (j : Int) - 1)) = inB 0 ((j : Int) - 1) x from rfl]
            cases hb : inB 0 ((j : Int) - 1) x <;> simp [lpP]), sb]
        cases hp : firstP parP par 0 with
        | some r => have := parP_res hp; subst this; simp [outP, hc, hn]
        | none =>
          simp only [outP]
          rw [e_childrenOf par (par_lt hp) (by omega), sb, e_ContainsFuncL _ _ (fun l => !(decide (l = []) || decide ((l.length : Int) = c))) (fun l hl => by
            unfold fI_IsRootedTree_1
            by_cases h1 : l = []
            · subst h1; simp [sb]
            · have : (l.length : Int) ≠ 0 := by
                intro e; apply h1; exact List.eq_nil_of_length_eq_zero (by omega)
              rw [if_pos (by simpa using this), sb]
              by_cases h2 : (l.length : Int) = c
              · simp [h2]
              · simp [h1, h2]) (by rw [kidsL_length]; omega), sb]
          simp only [hc, hn, Option.isNone_none, Bool.true_and]
          congr 1
          rw [List.not_any_eq_all_not]
          simp
      · rw [if_pos (by simpa using h0)]
        have : firstP parP par 0 ≠ none := by
          intro hp
          have := parP_none hp 0 _ (List.getElem?_eq_getElem (by omega))
          rw [if_pos rfl] at this
          exact h0 this
        cases hp : firstP parP par 0 with
        | none => exact absurd hp this
        | some r => simp
    · have hn2 := hn
      simp only [inB] at hn2
      simp [hc, hn, sb, hn2, inB]
  · have hc' := hc
    simp only [inB] at hc'
    simp [hc, sb, hc', inB]
theorem treeB_iff {c : Int} {par : List Int} (h : treeB c par = true) : 1 ≤ c ∧ c ≤ 3 ∧ 1 ≤ par.length ∧ par.length ≤ 200 ∧ firstP parP par 0 = none ∧ ∀ l, l ∈ kidsL par par.length → l = [] ∨ (l.length : Int) = c := by
  simp only [treeB, Bool.and_eq_true, Option.isNone_iff_eq_none, List.all_eq_true, Bool.or_eq_true, decide_eq_true_eq] at h
  obtain ⟨⟨⟨h1, h2⟩, h3⟩, h4⟩ := h
  have := inB_iff.1 h1
  have := inB_iff.1 h2
  exact ⟨by omega, by omega, by omega, by omega, h3, h4⟩
def askB (p : T_RootedProblem) (par : List Int) : Bool := rootedB p && treeB p.Children par
theorem e_roAsked (fuel : Nat) (hf : 4 < fuel) (p : T_RootedProblem) (par : List Int) (hJ : p.Lines.length ≤ 1000000000) (hl : par.length ≤ 1048576) : fS_roAsked fuel p par = some (askB p par) := by
  unfold fS_roAsked askB
  rw [e_roGood fuel hf p hJ, sb]
  cases rootedB p
  · simp [sb]
  · simp only [if_true]
    rw [e_roTree _ _ hl, sb, sb]; simp
theorem e_rootedOk (fuel : Nat) (hf : 4 < fuel) (p : T_RootedProblem) (par : List Int) (hJ : p.Lines.length ≤ 1000000000) (hl : par.length ≤ 1048576) : fI_rootedOk fuel p par = some (askB p par) := by
  unfold fI_rootedOk askB
  rw [e_implIsRooted fuel hf p hJ, sb]
  cases rootedB p
  · simp [sb]
  · simp only [if_true]
    rw [e_IsRootedTree _ _ hl, sb, sb]; simp
/-! ### Filling -/
/-- A line that begins with a and goes on in S. -/
def goodL (S : Nat) (a : Nat) (x : List Int) : Bool := decide (x.headD 0 = (a : Int)) && kidsIn S x
theorem lines_of {p : T_RootedProblem} (h : rootedB p = true) : ∀ x, x ∈ p.Lines → (x.length : Int) = p.Children + 1 ∧ ∀ y, y ∈ x → 0 ≤ y ∧ y ≤ p.Labels - 1 := by
  simp only [rootedB, Bool.and_eq_true, Option.isNone_iff_eq_none] at h
  intro x hx
  obtain ⟨j, hj⟩ := List.mem_iff_getElem?.1 hx
  have := lineP_none (firstP_none.1 h.2 j x hj)
  exact this
/-- The spec's search. -/
theorem find_loop (p : T_RootedProblem) (n S a : Nat) (hL : okLines n p.Lines) (s : List Int) (k : Nat) (hs : s[k]? = some (a : Int)) (hn : n ≤ 60) (hJ : p.Lines.length ≤ 1000000000) (idx : Nat) (x : List Int) (hx : p.Lines[idx]? = some x) (hg : goodL S a x = true)
    (hb : ∀ (i : Nat) y, i < idx → p.Lines[i]? = some y → goodL S a y = false) : ∀ (fuel j : Nat), j ≤ idx → idx < fuel + j → loopF (fS_SolveDown_s2 p (lbs n S) s (k : Int)) fuel (j : Int) = some (.inl (idx : Int)) := by
  have hil := (List.getElem?_eq_some_iff.1 hx).1
  have step : ∀ (j : Nat) y, p.Lines[j]? = some y → fS_SolveDown_s2 p (lbs n S) s (k : Int) (j : Int) = if goodL S a y then some (.out (j : Int)) else some (.go ((j + 1 : Nat) : Int)) := by
    intro j y hy
    have hjl := (List.getElem?_eq_some_iff.1 hy).1
    have h1 := hL y (List.mem_of_getElem? hy)
    have h2 := head_lt h1.1 h1.2.2
    have h3 := h1.2.2 (y.headD 0) (by cases y with
      | nil => simp at h1
      | cons b r => simp)
    unfold fS_SolveDown_s2
    rw [ix_nat, hy, sb, show ix y 0 = y[0]? from ix_nat y 0, h2.2, sb, ix_nat, hs, sb]
    unfold goodL
    by_cases e : y.headD 0 = (a : Int)
    · have e' : (((y.headD 0).toNat : Nat) : Int) = (a : Int) := by rw [e]; simp
      rw [if_neg (by rw [e']; simp), sb, cut_tail y h1.1, sb, e_prAll, sb, sb, kids_mem h1.2.2]
      cases hk : kidsIn S y
      · simp only [Bool.not_false, if_true, e, decide_true, Bool.and_false, Bool.false_eq_true, if_false]
        rw [ck_in (by omega) (by omega), sb]; rfl
      · rw [decide_eq_true e]; simp
    · have e' : (((y.headD 0).toNat : Nat) : Int) ≠ (a : Int) := by omega
      rw [if_pos (by simpa using e'), sb, if_pos rfl, ck_in (by omega) (by omega), sb]
      simp only [e, decide_false, Bool.false_and, Bool.false_eq_true, if_false]; rfl
  intro fuel
  induction fuel with
  | zero => intro j h1 h2; omega
  | succ fuel ih =>
    intro j h1 h2
    by_cases e : j = idx
    · subst e
      refine loopF_out ?_ fuel
      rw [step j x hx, hg, if_pos rfl]
    · have hjl : j < p.Lines.length := by omega
      have hy := List.getElem?_eq_getElem hjl
      rw [loopF_go (s' := ((j + 1 : Nat) : Int)) (by rw [step j _ hy, hb j _ (by omega) hy, if_neg (by simp)]) fuel]
      exact ih (j + 1) (by omega) (by omega)
theorem good_first (p : T_RootedProblem) (S a : Nat) (h : ∃ x, x ∈ p.Lines ∧ goodL S a x = true) :
    ∃ (idx : Nat) (x : List Int), p.Lines[idx]? = some x ∧ goodL S a x = true ∧ (∀ (i : Nat) y, i < idx → p.Lines[i]? = some y → goodL S a y = false) ∧ (firstP (fun k x => if goodL S a x then some (k : Int) else none) p.Lines 0).getD (-1) = (idx : Int) := by
  have key : ∀ (LL : List (List Int)) (k : Nat), (∃ x, x ∈ LL ∧ goodL S a x = true) → ∃ (idx : Nat) (x : List Int), LL[idx]? = some x ∧ goodL S a x = true ∧ (∀ (i : Nat) y, i < idx → LL[i]? = some y → goodL S a y = false) ∧ firstP (fun k x => if goodL S a x then some (k : Int) else none) LL k = some ((k + idx : Nat) : Int) := by
    intro LL
    induction LL with
    | nil => rintro k ⟨x, hx, _⟩; simp at hx
    | cons z LL ih =>
      rintro k ⟨x, hx, hg⟩
      by_cases hz : goodL S a z = true
      · exact ⟨0, z, rfl, hz, fun i y hi => by omega, by simp [firstP, hz]⟩
      · have hx' : x ∈ LL := by
          rcases List.mem_cons.1 hx with rfl | h
          · exact absurd hg hz
          · exact h
        obtain ⟨idx, x', h1, h2, h3, h4⟩ := ih (k + 1) ⟨x, hx', hg⟩
        refine ⟨idx + 1, x', h1, h2, fun i y hi hy => ?_, ?_⟩
        · cases i with
          | zero => simp at hy; subst hy; simpa using hz
          | succ i => exact h3 i y (by omega) hy
        · simp only [firstP, hz]
          rw [if_neg (by simp), show k + (idx + 1) = k + 1 + idx by omega]
          exact h4
  obtain ⟨idx, x, h1, h2, h3, h4⟩ := key p.Lines 0 h
  exact ⟨idx, x, h1, h2, h3, by rw [h4]; simp⟩
/-- What stands at w is a label of S. -/
def okAt (n S : Nat) (s : List Int) (w : Nat) : Prop := ∃ a : Nat, s[w]? = some (a : Int) ∧ a < n ∧ S.testBit a = true
def InvD (n S : Nat) (par : List Int) (k : Nat) (s : List Int) : Prop := s.length = par.length ∧ ∀ w, w < par.length → (w = 0 ∨ ∃ u, par[w]? = some u ∧ 0 ≤ u ∧ u < k) → okAt n S s w
theorem inner (p : T_RootedProblem) (n S N : Nat) (hp : p.Labels = n) (idx : Nat) (x : List Int) (hx : p.Lines[idx]? = some x) (hC3 : p.Children ≤ 3) (hlen : (x.length : Int) = p.Children + 1) (hmem : ∀ y, y ∈ x → 0 ≤ y ∧ y ≤ p.Labels - 1) (hk : kidsIn S x = true)
    (l : List Int) (hll : (l.length : Int) = p.Children) (hl : ∀ y, y ∈ l → 0 ≤ y ∧ y < N) (hN : N ≤ 200) (s : List Int) (hs : s.length = N) :
    ∃ r, forI (fS_SolveDown_s3 p (idx : Int)) l 0 s = some (.inl r) ∧ forI (fI_SolveDown_s2 p (idx : Int)) l 0 s = some (.inl r) ∧ r.length = N ∧ ∀ w : Nat, w < N → ((w : Int) ∈ l → okAt n S r w) ∧ ((w : Int) ∉ l → r[w]? = s[w]?) := by
  have := forI_two (f := fS_SolveDown_s3 p (idx : Int)) (g := fI_SolveDown_s2 p (idx : Int)) (fun j t => t.length = N ∧ ∀ w : Nat, w < N → ((w : Int) ∈ l.take j → okAt n S t w) ∧ ((w : Int) ∉ l.take j → t[w]? = s[w]?)) l 0 s
    ⟨hs, fun w _ => ⟨fun h => by simp at h, fun _ => rfl⟩⟩ (fun j y t hj ht => by
      rw [Nat.zero_add] at ht ⊢
      have hjl := (List.getElem?_eq_some_iff.1 hj).1
      have hy := hl y (List.mem_of_getElem? hj)
      obtain ⟨c, rfl⟩ : ∃ c : Nat, y = c := ⟨y.toNat, by omega⟩
      have hc : c < t.length := by omega
      have hj1 : j + 1 < x.length := by omega
      have hv := List.getElem?_eq_getElem hj1
      have hvm := hmem _ (List.mem_of_getElem? hv)
      have hvk : S.testBit (x[j + 1]).toNat = true := by
        unfold kidsIn at hk
        rw [List.all_eq_true] at hk
        refine hk _ ?_
        have : x.tail[j]? = some x[j + 1] := by rw [List.getElem?_tail]; exact hv
        exact List.mem_of_getElem? this
      refine ⟨t.set c x[j + 1], ?_, ?_, ?_⟩
      · unfold fS_SolveDown_s3
        rw [ix_nat, hx, sb, ck_in (by omega) (by omega), sb, show (1 : Int) + (j : Int) = ((j + 1 : Nat) : Int) by omega, ix_nat, hv, sb, ix_lt _ _ hc, sb, st_nat _ _ _ hc, sb]
      · unfold fI_SolveDown_s2
        rw [ix_nat, hx, sb, ck_in (by omega) (by omega), sb, show (j : Int) + 1 = ((j + 1 : Nat) : Int) by omega, ix_nat, hv, sb, ix_lt _ _ hc, sb, st_nat _ _ _ hc, sb]
      · refine ⟨by simp [ht.1], fun w hw => ?_⟩
        have htk : l.take (j + 1) = l.take j ++ [(c : Int)] := by rw [List.take_add_one, hj]; rfl
        have h0 := ht.2 w hw
        rw [htk]
        simp only [List.mem_append, List.mem_singleton]
        by_cases e : c = w
        · subst e
          refine ⟨fun _ => ⟨(x[j + 1]).toNat, ?_, by omega, hvk⟩, fun h => absurd (Or.inr rfl) h⟩
          rw [List.getElem?_set_self hc]
          congr 1; omega
        · have e' : ¬ (w : Int) = (c : Int) := by omega
          refine ⟨fun h => ?_, fun h => ?_⟩
          · obtain ⟨a, a1, a2⟩ := h0.1 (h.resolve_right e')
            exact ⟨a, by rw [List.getElem?_set_ne e]; exact a1, a2⟩
          · rw [List.getElem?_set_ne e]; exact h0.2 (fun h' => h (Or.inl h')))
  obtain ⟨r, r1, r2, r3, r4⟩ := this
  rw [Nat.zero_add, List.take_length] at r4
  exact ⟨r, r1, r2, r3, r4⟩
theorem step_down (p : T_RootedProblem) (fuel n S : Nat) (hp : p.Labels = n) (hn : n ≤ 8) (hr : rootedB p = true) (hS : S < 2 ^ n) (hfix : abv p.Lines S = S) (par : List Int) (ht : treeB p.Children par = true) (hJ : p.Lines.length ≤ 1048576) (hf : 2000000 ≤ fuel)
    (k : Nat) (l : List Int) (s : List Int) (hk : (kidsL par par.length)[k]? = some l) (hI : InvD n S par k s) :
    ∃ s', fS_SolveDown_s1 fuel p (lbs n S) (k : Int) l s = some (.go s') ∧ fI_SolveDown_s1 p (S : Int) (k : Int) l s = some (.go s') ∧ InvD n S par (k + 1) s' := by
  obtain ⟨t1, t2, t3, t4, t5, t6⟩ := treeB_iff ht
  obtain ⟨p1, p2, p3⟩ := okLines_of hr
  have hnL : p.Labels.toNat = n := by omega
  rw [hnL] at p3
  have hkl : k < par.length := by have := (List.getElem?_eq_some_iff.1 hk).1; rw [kidsL_length] at this; exact this
  have hl : l = kidF par par.length k := by rw [kidsL_get hkl] at hk; exact (Option.some.inj hk).symm
  have hmem : ∀ w : Nat, (w : Int) ∈ l ↔ w < par.length ∧ par[w]? = some (k : Int) := by
    intro w
    rw [hl, mem_kidF]
    constructor
    · rintro ⟨w', e, h1, h2⟩
      have : w = w' := by omega
      subst this
      rw [List.getD_eq_getElem?_getD, List.getElem?_eq_getElem h1] at h2
      exact ⟨h1, by rw [List.getElem?_eq_getElem h1]; exact congrArg some h2⟩
    · rintro ⟨h1, h2⟩
      exact ⟨w, rfl, h1, by rw [List.getD_eq_getElem?_getD, h2]; rfl⟩
  unfold fS_SolveDown_s1 fI_SolveDown_s1
  by_cases h0 : l = []
  · refine ⟨s, by rw [if_pos (by simp [h0])], by rw [if_pos (by simp [h0])], hI.1, fun w hw h => hI.2 w hw ?_⟩
    rcases h with h | ⟨u, hu, hu1, hu2⟩
    · exact Or.inl h
    · refine Or.inr ⟨u, hu, hu1, ?_⟩
      by_cases e : u = k
      · subst e
        have := (hmem w).2 ⟨hw, hu⟩
        rw [h0] at this; simp at this
      · omega
  · have hlen : (l.length : Int) = p.Children := (t6 l (List.mem_of_getElem? hk)).resolve_left h0
    have hne : ¬ (((l.length : Int) == 0) = true) := by rw [beq_iff_eq]; omega
    rw [if_neg hne, if_neg hne]
    obtain ⟨a, a1, a2, a3⟩ := hI.2 k hkl (by
      by_cases e : k = 0
      · exact Or.inl e
      · have := parP_none t5 k _ (List.getElem?_eq_getElem hkl)
        rw [if_neg e] at this
        exact Or.inr ⟨_, List.getElem?_eq_getElem hkl, this⟩)
    have hex : ∃ x, x ∈ p.Lines ∧ goodL S a x = true := by
      have h3 := a3
      rw [← hfix, abv_test, List.any_eq_true] at h3
      obtain ⟨x, hx, h4⟩ := h3
      rw [Bool.and_eq_true, decide_eq_true_eq] at h4
      have h5 := p3 x hx
      have h6 := h5.2.2 (x.headD 0) (by cases x with
        | nil => simp at h5
        | cons b r => simp)
      refine ⟨x, hx, ?_⟩
      unfold goodL
      rw [Bool.and_eq_true, decide_eq_true_eq]
      exact ⟨by omega, h4.1⟩
    obtain ⟨idx, x, x1, x2, x3, x4⟩ := good_first p S a hex
    have hxm := lines_of hr x (List.mem_of_getElem? x1)
    have hkd : kidsIn S x = true := by unfold goodL at x2; rw [Bool.and_eq_true] at x2; exact x2.2
    have hil := (List.getElem?_eq_some_iff.1 x1).1
    obtain ⟨r, r1, r2, r3, r4⟩ := inner p n S par.length hp idx x x1 t2 hxm.1 hxm.2 hkd l hlen (fun y hy => by
      rw [hl, mem_kidF] at hy
      obtain ⟨w, rfl, hw, _⟩ := hy
      omega) t4 s hI.1
    have e1 := find_loop p n S a p3 s k a1 (by omega) (by omega) idx x x1 x2 x3 fuel 0 (by omega) (by omega)
    rw [show ((0 : Nat) : Int) = 0 from rfl] at e1
    have e2 := e_IndexFuncL p.Lines (fun z => fI_SolveDown_1 z s (k : Int) (S : Int)) (goodL S a) (fun y hy => by
      have h1 := p3 y hy
      have h2 := head_lt h1.1 h1.2.2
      have h3 := h1.2.2 (y.headD 0) (by cases y with
        | nil => simp at h1
        | cons b r => simp)
      unfold fI_SolveDown_1 goodL
      rw [show ix y 0 = y[0]? from ix_nat y 0, h2.2, sb, ix_nat, a1, sb]
      by_cases e : y.headD 0 = (a : Int)
      · have e' : (((y.headD 0).toNat : Nat) : Int) = (a : Int) := by rw [e]; simp
        have hS2 : S < 2 ^ 60 := Nat.lt_of_lt_of_le hS (Nat.pow_le_pow_right (by decide) (by omega))
        rw [if_pos (by rw [e']; simp), e_onlyIn S hS2 y (by omega) (fun z hz => by have := h1.2.2 z hz; omega), sb, sb]
        congr 1
        cases y with
        | nil => simp at h1
        | cons b r =>
          simp only [List.headD_cons] at e
          subst e
          simp [kidsIn, a3]
      · have e' : (((y.headD 0).toNat : Nat) : Int) ≠ (a : Int) := by omega
        rw [if_neg (by simpa using e'), sb]
        rw [decide_eq_false e]; simp) (by omega)
    rw [x4] at e2
    refine ⟨r, ?_, ?_, ?_⟩
    · rw [e1, sb]
      simp only
      rw [r1, sb]
    · rw [e2, sb, r2, sb]
    · refine ⟨r3, fun w hw h => ?_⟩
      have h4 := r4 w hw
      by_cases hwl : (w : Int) ∈ l
      · exact h4.1 hwl
      · obtain ⟨b, b1, b2⟩ := hI.2 w hw (by
          rcases h with h | ⟨u, hu, hu1, hu2⟩
          · exact Or.inl h
          · refine Or.inr ⟨u, hu, hu1, ?_⟩
            by_cases e : u = k
            · subst e; exact absurd ((hmem w).2 ⟨hw, hu⟩) hwl
            · omega)
        exact ⟨b, by rw [h4.2 hwl]; exact b1, b2⟩
theorem lbs_nil {n S : Nat} (hS : S < 2 ^ n) : (lbs n S = []) ↔ S = 0 := by
  have h0 : lbs n 0 = [] := by simp [lbs]
  constructor
  · intro h; exact lbs_inj hS (Nat.two_pow_pos n) (h.trans h0.symm)
  · rintro rfl; exact h0
theorem e_solveDown (fuel : Nat) (hf : 2000000 ≤ fuel) (p : T_RootedProblem) (par : List Int) (hJ : p.Lines.length ≤ 1048576) (hl : par.length ≤ 1048576) :
    ∃ r, fS_SolveDown fuel p par = some r ∧ fI_SolveDown fuel p par = some r ∧ r.1.length ≤ 200 ∧ (r.2 = false → r.1 = []) := by
  unfold fS_SolveDown fI_SolveDown
  rw [e_roAsked fuel (by omega) p par (by omega) hl, sb, e_rootedOk fuel (by omega) p par (by omega) hl, sb]
  cases ha : askB p par
  · exact ⟨([], false), by simp, by simp [sb], by simp, by simp⟩
  · simp only [askB, Bool.and_eq_true] at ha
    obtain ⟨hr, ht⟩ := ha
    obtain ⟨h1, h2, h3⟩ := okLines_of hr
    obtain ⟨t1, t2, t3, t4, t5, t6⟩ := treeB_iff ht
    generalize hn : p.Labels.toNat = n at h1 h2 h3
    have hS : rootS p.Lines n (-1) < 2 ^ n := itR_lt h3 _
    have hS1 : rootS p.Lines n (p.Labels + 1) = rootS p.Lines n (-1) := by
      unfold rootS
      rw [if_neg (by omega), if_neg (by omega)]
    have hfix : abv p.Lines (rootS p.Lines n (-1)) = rootS p.Lines n (-1) := by
      unfold rootS
      rw [if_neg (by omega)]
      exact itR_stop h3
    rw [if_neg (by simp), if_neg (by simp), ck_in (by omega) (by omega), sb, e_roRoots n fuel p h1 h3 (by omega) (by omega) _ (by omega) (by omega), sb, hS1,
      e_rootsOfDepth n fuel p h1 h3 (by omega) (by omega) _ (by omega) (by omega), sb, sb]
    generalize rootS p.Lines n (-1) = S at hS hfix
    by_cases h0 : S = 0
    · subst h0
      exact ⟨([], false), by rw [(lbs_nil hS).2 rfl]; simp, by simp, by simp, by simp⟩
    · have hne : lbs n S ≠ [] := fun h => h0 ((lbs_nil hS).1 h)
      obtain ⟨b, L', hb⟩ := List.exists_cons_of_ne_nil hne
      have hbm : b ∈ lbs n S := by rw [hb]; simp
      obtain ⟨c, rfl, hc1, hc2⟩ := mem_lbs.1 hbm
      have hix : ix (lbs n S) 0 = some (c : Int) := by rw [show ix (lbs n S) 0 = (lbs n S)[0]? from ix_nat _ 0, hb]; rfl
      have hmk : mk (Rz.z : Int) (par.length : Int) = some (List.replicate par.length (Rz.z : Int)) := by unfold mk; rw [if_pos (by omega)]; rfl
      have hrep : (List.replicate par.length (Rz.z : Int)).length = par.length := by simp
      generalize List.replicate par.length (Rz.z : Int) = R at hrep hmk
      have hR0 : 0 < R.length := by omega
      have hR1 : ix R 0 = some R[0] := by rw [show ix R 0 = R[0]? from ix_nat R 0, List.getElem?_eq_getElem hR0]
      have hst : st R 0 (c : Int) = some (R.set 0 (c : Int)) := st_nat R 0 _ hR0
      obtain ⟨r, r1, r2, r3⟩ := forI_two (f := fS_SolveDown_s1 fuel p (lbs n S)) (g := fI_SolveDown_s1 p (S : Int)) (InvD n S par) (kidsL par par.length) 0 (R.set 0 (c : Int)) ⟨by simp [hrep], fun w hw h => by
        rcases h with rfl | ⟨u, hu, hu1, hu2⟩
        · exact ⟨c, List.getElem?_set_self hR0, hc1, hc2⟩
        · omega⟩ (fun j l s hj hI => by
          rw [Nat.zero_add] at hI ⊢
          exact step_down p fuel n S h1 h2 hr hS hfix par ht hJ hf j l s hj hI)
      rw [show ((0 : Nat) : Int) = 0 from rfl] at r1 r2
      refine ⟨(r, true), ?_, ?_, ?_, by simp⟩
      · rw [if_neg (by rw [hb]; simp; omega), hmk, sb, hix, sb, hR1, sb, hst, sb, e_roBelow par (par_lt t5) (by omega), sb, r1, sb]
      · rw [if_neg (by rw [beq_iff_eq]; omega), hmk, sb, e_labelsIn n S fuel hS (by omega) (by omega)]; show (ix (lbs n S) 0 >>= _) = _; rw [hix, sb, hR1, sb, hst, sb, e_childrenOf par (par_lt t5) (by omega), sb, r2, sb]
      · have := r3.1
        simp only; omega
open Go.RowKit
theorem e_bsf (fuel : Nat) (LL : List (List Int)) (s : List Int) (hm : ∀ x, x ∈ LL → x.length = s.length) (hp : LL.Pairwise fun a b => ordL a b < 0) (hJ : LL.length ≤ 1000000000) (hf : LL.length < fuel) :
    ∃ c : Int, fX_slices_BinarySearchFunc_LLint_int_int fuel LL s (fun z18 : (List Int) × (List Int) => fX_slices_Compare_int_int z18.1 z18.2) = some (c, decide (s ∈ LL)) := by
  have hcmp : ∀ x, x ∈ LL → fX_slices_Compare_int_int x s = some (ordL x s) := fun x hx => e_Compare x s (hm x hx)
  obtain ⟨c1, c2⟩ := countP_bound (fun x => decide (x.length = s.length) && decide (ordL x s < 0)) LL (hp.imp_of_mem fun {a b} ha hb hab h => by
    simp only [Bool.and_eq_true, decide_eq_true_eq] at h ⊢
    have l1 := hm a ha
    exact ⟨by omega, ordL_trans (by omega) h.1 hab h.2⟩)
  have hcl : LL.countP (fun x => decide (x.length = s.length) && decide (ordL x s < 0)) ≤ LL.length := List.countP_le_length
  generalize LL.countP (fun x => decide (x.length = s.length) && decide (ordL x s < 0)) = c at c1 c2 hcl
  have hat : ∀ (j : Nat) (hj : j < LL.length), (decide (LL[j].length = s.length) && decide (ordL LL[j] s < 0)) = decide (ordL LL[j] s < 0) := fun j hj => by
    have := hm _ (List.getElem_mem hj)
    rw [show decide (LL[j].length = s.length) = true by rw [decide_eq_true_eq]; omega, Bool.true_and]
  unfold fX_slices_BinarySearchFunc_LLint_int_int
  have := bs_loop (f := fX_slices_BinarySearchFunc_LLint_int_int_s1 LL s (fun z18 : (List Int) × (List Int) => fX_slices_Compare_int_int z18.1 z18.2)) (fun j => decide (ordL (LL.getD j []) s < 0)) LL.length c hcl (fun lo hi h1 h2 => by
      have hmid : (lo + hi) / 2 < LL.length := by omega
      unfold fX_slices_BinarySearchFunc_LLint_int_int_s1
      simp only
      rw [if_pos (by simpa using h1)]
      have e := mid_ok (lo := lo) (hi := hi) (by omega)
      rw [ck_in (by omega) (by omega), sb] at e ⊢
      unfold cvU at e ⊢
      rw [if_pos (by omega), sb] at e ⊢
      cases hsh : shr ((lo : Int) + hi) 1 with
      | none => rw [hsh] at e; cases e
      | some z =>
        rw [hsh, sb] at e
        rw [sb]
        rw [e, sb, ix_lt _ _ hmid, sb, hcmp _ (List.getElem_mem hmid), sb]
        rw [show LL.getD ((lo + hi) / 2) [] = LL[(lo + hi) / 2] by simp [List.getElem?_eq_getElem hmid]]
        by_cases hlt : ordL LL[(lo + hi) / 2] s < 0
        · simp only [decide_eq_true hlt, if_true]
          rw [ck_in (by omega) (by omega), sb]; rfl
        · simp only [decide_eq_false hlt]; rfl)
    (fun lo h => by
      unfold fX_slices_BinarySearchFunc_LLint_int_int_s1
      simp only
      rw [if_neg (by simp)]) (fun j hj => by
      have hjl : j < LL.length := by omega
      have := c1 j _ (List.getElem?_eq_getElem hjl) hj
      rw [hat j hjl] at this
      simpa [List.getElem?_eq_getElem hjl] using this) (fun j hj hjl => by
      have := c2 j _ (List.getElem?_eq_getElem hjl) hj
      rw [hat j hjl] at this
      simpa [List.getElem?_eq_getElem hjl] using this) fuel 0 LL.length (Nat.zero_le _) hcl (Nat.le_refl _) (by omega)
  rw [show ((0 : Nat) : Int) = 0 from rfl] at this
  rw [this, sb]
  simp only
  refine ⟨(c : Int), ?_⟩
  have hnot : ∀ (j : Nat) (hj : j < LL.length), LL[j] = s → c ≤ j := fun j hj e => by
    rcases Nat.lt_or_ge j c with h | h
    · have := c1 j _ (List.getElem?_eq_getElem hj) h
      rw [hat j hj, e, decide_eq_true_eq, (ordL_zero rfl).2 rfl] at this
      omega
    · exact h
  by_cases hlt : c < LL.length
  · rw [if_pos (by simpa using hlt), ix_lt _ _ hlt, sb, hcmp _ (List.getElem_mem hlt), sb, sb]
    congr 2
    rw [Bool.eq_iff_iff, beq_iff_eq, decide_eq_true_eq, ordL_zero (hm _ (List.getElem_mem hlt))]
    constructor
    · intro e; rw [← e]; exact List.getElem_mem hlt
    · intro e
      obtain ⟨j, hj, hj2⟩ := List.mem_iff_getElem.1 e
      have h1 := hnot j hj hj2
      by_cases hjc : c = j
      · subst hjc; exact hj2
      · exfalso
        rw [List.pairwise_iff_getElem] at hp
        have h2 := hp c j hlt hj (by omega)
        rw [hj2] at h2
        have := c2 c _ (List.getElem?_eq_getElem hlt) (Nat.le_refl _)
        rw [hat c hlt, decide_eq_false_iff_not] at this
        exact this h2
  · rw [if_neg (by simpa using hlt), sb]
    have : s ∉ LL := by
      intro e
      obtain ⟨j, hj, hj2⟩ := List.mem_iff_getElem.1 e
      have := hnot j hj hj2
      omega
    simp [this]
theorem lines_pair {p : T_RootedProblem} (h : rootedB p = true) : p.Lines.Pairwise fun a b => ordL a b < 0 := by
  have hl := lines_of h
  simp only [rootedB, Bool.and_eq_true, Option.isNone_iff_eq_none] at h
  have hadj : ∀ (j : Nat) x, p.Lines[j]? = some x → j = 0 ∨ ordL (p.Lines.getD (j - 1) []) x < 0 := fun j x hj => by
    have := firstP_none.1 h.2 j x hj
    rw [Nat.zero_add] at this
    unfold lineP at this
    split at this
    · rename_i hb
      simp only [lineB, Bool.and_eq_true, Bool.or_eq_true, decide_eq_true_eq] at hb
      exact hb.2
    · cases this
  have key : ∀ (d i : Nat) (hi : i + d + 1 < p.Lines.length), ordL (p.Lines[i]'(by omega)) p.Lines[i + d + 1] < 0 := by
    intro d
    induction d with
    | zero =>
      intro i hi
      have := (hadj (i + 1) _ (List.getElem?_eq_getElem hi)).resolve_left (by omega)
      simpa [List.getElem?_eq_getElem (show i < p.Lines.length by omega)] using this
    | succ d ih =>
      intro i hi
      have h1 := ih i (by omega)
      have := (hadj (i + d + 1 + 1) _ (List.getElem?_eq_getElem hi)).resolve_left (by omega)
      have h2 : ordL (p.Lines[i + d + 1]'(by omega)) p.Lines[i + (d + 1) + 1] < 0 := by simpa [List.getElem?_eq_getElem (show i + d + 1 < p.Lines.length by omega)] using this
      have l1 := (hl _ (List.getElem_mem (show i < p.Lines.length by omega))).1
      have l2 := (hl _ (List.getElem_mem (show i + d + 1 < p.Lines.length by omega))).1
      have l3 := (hl _ (List.getElem_mem hi)).1
      exact ordL_trans (by omega) (by omega) h1 h2
  rw [List.pairwise_iff_getElem]
  intro i j hi hj hij
  have := key (j - i - 1) i (by omega)
  simpa [show i + (j - i - 1) + 1 = j by omega] using this
theorem e_line (fuel : Nat) (p : T_RootedProblem) (h : rootedB p = true) (a : Int) (xs : List Int) (hx : (xs.length : Int) = p.Children) (hJ : p.Lines.length ≤ 1000000000) (hf : p.Lines.length < fuel) : fI_RootedProblem_line fuel p a xs = some (decide ((a :: srt xs) ∈ p.Lines)) := by
  have hC : p.Children ≤ 3 := by
    have := h
    simp only [rootedB, Bool.and_eq_true] at this
    exact (inB_iff.1 this.1.2).2
  unfold fI_RootedProblem_line srtO
  have hs := srt_length xs
  rw [if_pos (by omega), sb]
  unfold cat
  rw [if_pos (by simp; omega), sb]
  obtain ⟨c, hc⟩ := e_bsf fuel p.Lines ([a] ++ srt xs) (fun x hx2 => by have := (lines_of h x hx2).1; simp; omega) (lines_pair h) hJ hf
  rw [hc, sb]; rfl
/-- The node k has children, and no line for them. -/
theorem kid_in {par : List Int} {k : Nat} : ∀ y, y ∈ kidF par par.length k → 0 ≤ y ∧ y < par.length := fun y hy => by
  obtain ⟨w, rfl, hw, _⟩ := mem_kidF.1 hy
  omega
theorem imgL_len (t x : List Int) : (imgL t x).length = x.length := by simp [imgL]
end Go.Proofs.Ytjmhjobfiemmnaa
