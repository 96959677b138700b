/- Searches in sorted lists; a loop that counts. -/
import Derived.Test.YthhpcledhflapaaDoorRis
import Derived.Test.YthhpcledhflapaaDoorGN
namespace Go.Proofs.YthhpcledhflapaaDoor
set_option linter.unusedSimpArgs false
set_option linter.unusedVariables false

theorem lpF_go {σ τ ρ : Type} {f : σ → Option (Lp σ τ ρ)} {s s' : σ} (h : f s = some (.go s')) (fuel : Nat) : loopF f (fuel + 1) s = loopF f fuel s' := by simp only [loopF, h]
theorem lpF_out {σ τ ρ : Type} {f : σ → Option (Lp σ τ ρ)} {s : σ} {t : τ} (h : f s = some (.out t)) (fuel : Nat) : loopF f (fuel + 1) s = some (.inl t) := by simp only [loopF, h]
/-- A loop that goes through n known states. -/
theorem loopF_count {σ ρ : Type} {f : σ → Option (Lp σ σ ρ)} (R : Nat → σ) (n : Nat) (hgo : ∀ j, j < n → f (R j) = some (.go (R (j + 1)))) (hout : f (R n) = some (.out (R n))) : ∀ (fuel j : Nat), j ≤ n → n < fuel + j → loopF f fuel (R j) = some (.inl (R n)) := by
  intro fuel
  induction fuel with
  | zero => intro j h1 h2; omega
  | succ fuel ih =>
    intro j h1 h2
    by_cases e : j = n
    · subst e; exact lpF_out hout fuel
    · rw [lpF_go (hgo j (by omega)) fuel]; exact ih (j + 1) (by omega) (by omega)
/-- Halving. -/
theorem bs_loop {ρ : Type} {f : Int × Int → Option (Lp (Int × Int) (Int × Int) ρ)} (P : Nat → Bool) (n c : Nat) (hc : c ≤ n)
    (hf : ∀ lo hi : Nat, lo < hi → hi ≤ n → f ((lo : Int), (hi : Int)) = some (.go (if P ((lo + hi) / 2) then ((((lo + hi) / 2 + 1 : Nat) : Int), (hi : Int)) else ((lo : Int), (((lo + hi) / 2 : Nat) : Int)))))
    (ho : ∀ lo : Nat, lo ≤ n → f ((lo : Int), (lo : Int)) = some (.out ((lo : Int), (lo : Int)))) (h1 : ∀ j, j < c → P j = true) (h2 : ∀ j, c ≤ j → j < n → P j = false) :
    ∀ (fuel lo hi : Nat), lo ≤ c → c ≤ hi → hi ≤ n → hi < fuel + lo → loopF f fuel ((lo : Int), (hi : Int)) = some (.inl ((c : Int), (c : Int))) := by
  intro fuel
  induction fuel with
  | zero => intro lo hi a b d e; omega
  | succ fuel ih =>
    intro lo hi a b d e
    by_cases hlt : lo < hi
    · rw [lpF_go (hf lo hi hlt d) fuel]
      by_cases hm : (lo + hi) / 2 < c
      · rw [if_pos (h1 _ hm)]
        exact ih _ _ (by omega) b d (by omega)
      · rw [if_neg (by rw [h2 _ (by omega) (by omega)]; simp)]
        exact ih _ _ a (by omega) (by omega) (by omega)
    · have : lo = c := by omega
      have : hi = c := by omega
      subst_vars
      exact lpF_out (ho _ hc) fuel
theorem mid_ok {lo hi : Nat} (h : lo + hi ≤ 4000000000) : (ck ((lo : Int) + hi) >>= fun x => cvU x >>= fun y => shr y 1 >>= fun z => cvU z) = some ((((lo + hi) / 2 : Nat)) : Int) := by
  rw [ck_in (by omega) (by omega), sb]
  unfold cvU shr
  rw [if_pos (by omega), sb, if_neg (by omega), sb]
  have : ((lo : Int) + (hi : Int)).fdiv (2 ^ min (Int.toNat 1) 64) = (((lo + hi) / 2 : Nat) : Int) := by
    rw [show min (Int.toNat 1) 64 = 1 from rfl, Int.fdiv_eq_ediv_of_nonneg _ (by decide)]
    omega
  rw [this, if_pos (by omega)]
theorem countP_bound {α : Type} (p : α → Bool) : ∀ (l : List α), l.Pairwise (fun a b => p b = true → p a = true) → (∀ (j : Nat) x, l[j]? = some x → j < l.countP p → p x = true) ∧ ∀ (j : Nat) x, l[j]? = some x → l.countP p ≤ j → p x = false
  | [], _ => ⟨fun j x h => by simp at h, fun j x h => by simp at h⟩
  | a :: l, h => by
    rw [List.pairwise_cons] at h
    obtain ⟨h1, h2⟩ := countP_bound p l h.2
    cases hp : p a with
    | true =>
      rw [List.countP_cons_of_pos hp]
      refine ⟨fun j x hj hlt => ?_, fun j x hj hle => ?_⟩
      · cases j with
        | zero => simp at hj; subst hj; exact hp
        | succ j => exact h1 j x (by simpa using hj) (by omega)
      · cases j with
        | zero => omega
        | succ j => exact h2 j x (by simpa using hj) (by omega)
    | false =>
      have hall : ∀ x, x ∈ l → p x = false := fun x hx => by
        cases hx2 : p x with
        | false => rfl
        | true => rw [h.1 x hx hx2] at hp; cases hp
      have hz : l.countP p = 0 := List.countP_eq_zero.2 fun x hx => by rw [hall x hx]; simp
      rw [List.countP_cons_of_neg (by rw [hp]; simp), hz]
      refine ⟨fun j x hj hlt => by omega, fun j x hj hle => ?_⟩
      cases j with
      | zero => simp at hj; subst hj; exact hp
      | succ j => exact hall x (List.mem_of_getElem? (by simpa using hj))
theorem e_isNaN (a : Int) : fX_slices_isNaN_int a = some false := by unfold fX_slices_isNaN_int; simp
theorem e_BinarySearch (fuel : Nat) (xs : List Int) (t : Int) (hs : xs.Pairwise (· ≤ ·)) (hl : xs.length ≤ 1000000000) (hf : xs.length < fuel) :
    fX_slices_BinarySearch_int_int fuel xs t = some (((xs.countP fun x => decide (x < t) : Nat) : Int), decide (t ∈ xs)) := by
  obtain ⟨c1, c2⟩ := countP_bound (fun x => decide (x < t)) xs (hs.imp fun h hb => by simp only [decide_eq_true_eq] at hb ⊢; omega)
  have hc : xs.countP (fun x => decide (x < t)) ≤ xs.length := List.countP_le_length
  unfold fX_slices_BinarySearch_int_int
  have := bs_loop (f := fX_slices_BinarySearch_int_int_s1 xs t) (fun j => decide (xs.getD j 0 < t)) xs.length (xs.countP fun x => decide (x < t)) hc (fun lo hi h1 h2 => by
      have hm : (lo + hi) / 2 < xs.length := by omega
      unfold fX_slices_BinarySearch_int_int_s1
      simp only
      rw [if_pos (by simpa using h1)]
      have e := mid_ok (lo := lo) (hi := hi) (by omega)
      rw [ck_in (by omega) (by omega), sb] at e ⊢
      unfold cvU at e ⊢
      rw [if_pos (by omega), sb] at e ⊢
      cases hsh : shr ((lo : Int) + hi) 1 with
      | none => rw [hsh] at e; cases e
      | some z =>
        rw [hsh, sb] at e
        rw [sb]
        rw [e, sb, ix_lt _ _ hm, sb, e_less, sb]
        rw [show xs.getD ((lo + hi) / 2) 0 = xs[(lo + hi) / 2] by simp [List.getElem?_eq_getElem hm]]
        by_cases hlt : xs[(lo + hi) / 2] < t
        · simp only [decide_eq_true hlt, if_true]
          rw [ck_in (by omega) (by omega), sb]; rfl
        · simp only [decide_eq_false hlt]; rfl)
    (fun lo h => by
      unfold fX_slices_BinarySearch_int_int_s1
      simp only
      rw [if_neg (by simp)]) (fun j hj => by
      have hjl : j < xs.length := by omega
      have := c1 j _ (List.getElem?_eq_getElem hjl) hj
      simpa [List.getElem?_eq_getElem hjl] using this) (fun j hj hjl => by
      have := c2 j _ (List.getElem?_eq_getElem hjl) hj
      simpa [List.getElem?_eq_getElem hjl] using this) fuel 0 xs.length (Nat.zero_le _) hc (Nat.le_refl _) (by omega)
  rw [show ((0 : Nat) : Int) = 0 from rfl] at this
  rw [this, sb]
  simp only
  generalize hcc : xs.countP (fun x => decide (x < t)) = c at c1 c2 hc
  by_cases hlt : c < xs.length
  · rw [if_pos (by simpa using hlt), ix_lt _ _ hlt, sb]
    have hle : t ≤ xs[c] := by
      have := c2 c _ (List.getElem?_eq_getElem hlt) (Nat.le_refl _)
      simpa using this
    by_cases e : xs[c] = t
    · rw [if_pos (by simpa using e), sb]
      have : t ∈ xs := by rw [← e]; exact List.getElem_mem hlt
      simp [this]
    · rw [if_neg (by simpa using e), sb, e_isNaN, sb]
      have : t ∉ xs := by
        intro hm
        obtain ⟨j, hj, hj2⟩ := List.mem_iff_getElem.1 hm
        have h3 := c1 j _ (List.getElem?_eq_getElem hj)
        by_cases hjc : j < c
        · have := h3 hjc; rw [hj2] at this; simp at this
        · rw [List.pairwise_iff_getElem] at hs
          by_cases hjc2 : j = c
          · subst hjc2; exact e hj2
          · have := hs c j hlt hj (by omega)
            omega
      simp [this, sb]
  · rw [if_neg (by simpa using hlt), sb]
    have : t ∉ xs := by
      intro hm
      obtain ⟨j, hj, hj2⟩ := List.mem_iff_getElem.1 hm
      have := c1 j _ (List.getElem?_eq_getElem hj) (by omega)
      rw [hj2] at this; simp at this
    simp [this]
theorem srt_sorted (xs : List Int) : (srt xs).Pairwise (· ≤ ·) := by
  have := List.pairwise_mergeSort (le := fun x y : Int => decide (x ≤ y)) (fun a b c h1 h2 => by simp only [decide_eq_true_eq] at *; omega) (fun a b => by simp only [Bool.or_eq_true, decide_eq_true_eq]; omega) xs
  exact this.imp fun h => by simpa using h
theorem srt_perm (xs : List Int) : (srt xs).Perm xs := List.mergeSort_perm xs _
theorem srt_eq_ssort (xs : List Int) : srt xs = ssort xs :=
  List.Perm.eq_of_pairwise (le := fun a b => a ≤ b) (fun a b _ _ h1 h2 => Int.le_antisymm h1 h2) (srt_sorted xs) (ssort_sorted xs) ((srt_perm xs).trans (ssort_perm xs).symm)
end Go.Proofs.YthhpcledhflapaaDoor
