/- Plain laws of the loops. -/
import Derived.Test.YtjmhjobfiemmnaaKr
namespace Go.Proofs.Ytjmhjobfiemmnaa
set_option linter.unusedSimpArgs false
set_option linter.unusedVariables false

theorem sb {α β : Type} (x : α) (f : α → Option β) : (some x >>= f) = f x := rfl
/-- The first of a list of which p tells something. -/
def firstP {α ρ : Type} (p : Nat → α → Option ρ) : List α → Nat → Option ρ
  | [], _ => none
  | x :: xs, k => match p k x with
    | some r => some r
    | none => firstP p xs (k + 1)
def firstN {ρ : Type} (p : Nat → Option ρ) : Nat → Nat → Option ρ
  | 0, _ => none
  | n + 1, k => match p k with
    | some r => some r
    | none => firstN p n (k + 1)
def outP {ρ : Type} : Option ρ → Unit ⊕ ρ
  | some r => .inr r
  | none => .inl ()
def lpP {ρ : Type} : Option ρ → Lp Unit Unit ρ
  | some r => .ret r
  | none => .go ()
/-- A search through a list. -/
theorem forI_first {α ρ : Type} {body : Int → α → Unit → Option (Lp Unit Unit ρ)} (p : Nat → α → Option ρ) : ∀ (xs : List α) (k : Nat),
    (∀ (j : Nat) x, xs[j]? = some x → (∀ (i : Nat) y, i < j → xs[i]? = some y → p (k + i) y = none) → body ((k + j : Nat) : Int) x () = some (lpP (p (k + j) x))) →
    forI body xs (k : Int) () = some (outP (firstP p xs k))
  | [], k, _ => rfl
  | x :: xs, k, h => by
    have h0 := h 0 x rfl (fun i y hi => by omega)
    simp only [Nat.add_zero] at h0
    simp only [forI, h0, firstP]
    cases hp : p k x with
    | some r => rfl
    | none =>
      simp only [lpP]
      have := forI_first p xs (k + 1) (fun j y hj hall => by
        have := h (j + 1) y (by simpa using hj) (fun i z hi hz => by
          cases i with
          | zero => simp at hz; subst hz; simpa using hp
          | succ i => rw [show k + (i + 1) = k + 1 + i by omega]; exact hall i z (by omega) (by simpa using hz))
        rw [show k + 1 + j = k + (j + 1) by omega]; exact this)
      rw [show ((k : Int) + 1) = ((k + 1 : Nat) : Int) by omega]
      exact this
theorem forN_first {ρ : Type} {body : Int → Unit → Option (Lp Unit Unit ρ)} (p : Nat → Option ρ) : ∀ (n k : Nat),
    (∀ (j : Nat), j < n → (∀ (i : Nat), i < j → p (k + i) = none) → body ((k + j : Nat) : Int) () = some (lpP (p (k + j)))) →
    forN body n (k : Int) () = some (outP (firstN p n k))
  | 0, k, _ => rfl
  | n + 1, k, h => by
    have h0 := h 0 (by omega) (fun i hi => by omega)
    simp only [Nat.add_zero] at h0
    simp only [forN, h0, firstN]
    cases hp : p k with
    | some r => rfl
    | none =>
      simp only [lpP]
      have := forN_first p n (k + 1) (fun j hj hall => by
        have := h (j + 1) (by omega) (fun i hi => by
          cases i with
          | zero => simpa using hp
          | succ i => rw [show k + (i + 1) = k + 1 + i by omega]; exact hall i (by omega))
        rw [show k + 1 + j = k + (j + 1) by omega]; exact this)
      rw [show ((k : Int) + 1) = ((k + 1 : Nat) : Int) by omega]
      exact this
theorem forI_first0 {α ρ : Type} {body : Int → α → Unit → Option (Lp Unit Unit ρ)} (p : Nat → α → Option ρ) (xs : List α)
    (h : ∀ (j : Nat) x, xs[j]? = some x → (∀ (i : Nat) y, i < j → xs[i]? = some y → p i y = none) → body (j : Int) x () = some (lpP (p j x))) : forI body xs 0 () = some (outP (firstP p xs 0)) := by
  have := forI_first p xs 0 (fun j x hj hall => by simp only [Nat.zero_add] at hall ⊢; exact h j x hj hall)
  exact this
/-- The same by the index alone. -/
theorem forN_first0 {α ρ : Type} {body : Int → Unit → Option (Lp Unit Unit ρ)} (p : Nat → α → Option ρ) (xs : List α)
    (h : ∀ (j : Nat) x, xs[j]? = some x → (∀ (i : Nat) y, i < j → xs[i]? = some y → p i y = none) → body (j : Int) () = some (lpP (p j x))) : forN body xs.length 0 () = some (outP (firstP p xs 0)) := by
  have key : ∀ (ys : List α) (k : Nat), ys = xs.drop k → (∀ (i : Nat) y, i < k → xs[i]? = some y → p i y = none) → forN body ys.length (k : Int) () = some (outP (firstP p ys k)) := by
    intro ys
    induction ys with
    | nil => intro k _ _; rfl
    | cons y ys ih =>
      intro k hk hall
      have hy : xs[k]? = some y := by
        have h1 : (xs.drop k)[0]? = some y := by rw [← hk]; rfl
        rw [List.getElem?_drop] at h1
        simpa using h1
      have htl : ys = xs.drop (k + 1) := by rw [← List.drop_drop, ← hk]; rfl
      have h0 := h k y hy hall
      simp only [List.length_cons, forN, h0, firstP]
      cases hp : p k y with
      | some r => rfl
      | none =>
        simp only [lpP]
        rw [show ((k : Int) + 1) = ((k + 1 : Nat) : Int) by omega]
        refine ih (k + 1) htl fun i z hi hz => ?_
        by_cases e : i = k
        · subst e; rw [hy] at hz; cases hz; exact hp
        · exact hall i z (by omega) hz
  exact key xs 0 (by simp) (fun i y hi => by omega)
theorem firstP_none {α ρ : Type} {p : Nat → α → Option ρ} : ∀ {xs : List α} {k : Nat}, firstP p xs k = none ↔ ∀ (j : Nat) x, xs[j]? = some x → p (k + j) x = none
  | [], k => by simp [firstP]
  | x :: xs, k => by
    simp only [firstP]
    cases hp : p k x with
    | some r =>
      simp only [reduceCtorEq, false_iff]
      intro h
      have := h 0 x rfl
      rw [Nat.add_zero, hp] at this; cases this
    | none =>
      simp only
      rw [firstP_none]
      constructor
      · intro h j y hj
        cases j with
        | zero => simp at hj; subst hj; simpa using hp
        | succ j => rw [show k + (j + 1) = k + 1 + j by omega]; exact h j y (by simpa using hj)
      · intro h j y hj
        rw [show k + 1 + j = k + (j + 1) by omega]
        exact h (j + 1) y (by simpa using hj)
theorem firstP_congr {α ρ : Type} {p q : Nat → α → Option ρ} : ∀ {xs : List α} {k : Nat}, (∀ (j : Nat) x, xs[j]? = some x → (∀ (i : Nat) y, i < j → xs[i]? = some y → p (k + i) y = none) → p (k + j) x = q (k + j) x) → firstP p xs k = firstP q xs k
  | [], k, _ => rfl
  | x :: xs, k, h => by
    have h0 := h 0 x rfl (fun i y hi => by omega)
    simp only [Nat.add_zero] at h0
    simp only [firstP, ← h0]
    cases hp : p k x with
    | some r => rfl
    | none =>
      simp only
      refine firstP_congr fun j y hj hall => ?_
      rw [show k + 1 + j = k + (j + 1) by omega]
      refine h (j + 1) y (by simpa using hj) fun i z hi hz => ?_
      cases i with
      | zero => simp at hz; subst hz; simpa using hp
      | succ i => rw [show k + (i + 1) = k + 1 + i by omega]; exact hall i z (by omega) (by simpa using hz)
/-- A test for all of a list. -/
theorem firstP_all {α : Type} {p : α → Bool} {b : Bool} : ∀ {xs : List α} {k : Nat}, firstP (fun _ x => if p x then none else some b) xs k = if xs.all p then none else some b
  | [], k => rfl
  | x :: xs, k => by
    simp only [firstP, List.all_cons]
    by_cases hp : p x = true
    · rw [if_pos hp]; simp only [hp, Bool.true_and]; exact firstP_all
    · rw [if_neg hp]; simp [hp]
theorem firstP_some {α ρ : Type} {p : Nat → α → Option ρ} {r : ρ} : ∀ {xs : List α} {k : Nat}, firstP p xs k = some r → ∃ (j : Nat) (x : α), xs[j]? = some x ∧ p (k + j) x = some r
  | [], k, h => by simp [firstP] at h
  | x :: xs, k, h => by
    simp only [firstP] at h
    cases hp : p k x with
    | some r' => rw [hp] at h; cases h; exact ⟨0, x, rfl, by simpa using hp⟩
    | none =>
      rw [hp] at h
      obtain ⟨j, y, h1, h2⟩ := firstP_some h
      exact ⟨j + 1, y, by simpa using h1, by rw [show k + (j + 1) = k + 1 + j by omega]; exact h2⟩
theorem ix_nat {α : Type} (xs : List α) (k : Nat) : ix xs (k : Int) = xs[k]? := by
  unfold ix
  rw [if_pos (by omega)]; simp
theorem ix_lt {α : Type} [Inhabited α] (xs : List α) (k : Nat) (h : k < xs.length) : ix xs (k : Int) = some xs[k] := by rw [ix_nat, List.getElem?_eq_getElem h]
theorem cut_tail {α : Type} (xs : List α) (h : 1 ≤ xs.length) : cut xs 1 xs.length = some xs.tail := by
  unfold cut
  rw [if_pos ⟨by omega, by omega, by omega⟩]
  simp
theorem cut_all {α : Type} (xs : List α) : cut xs 0 xs.length = some xs := by
  unfold cut
  rw [if_pos ⟨by omega, by omega, by omega⟩]
  simp
theorem cat_nil {α : Type} (xs : List α) (h : xs.length ≤ 1000000000) : cat [] xs = some xs := by
  unfold cat
  rw [if_pos (by simpa using h)]; simp
theorem st_nat {α : Type} (xs : List α) (k : Nat) (x : α) (h : k < xs.length) : st xs (k : Int) x = some (xs.set k x) := by
  unfold st
  rw [if_pos ⟨by omega, by omega⟩]; simp
end Go.Proofs.Ytjmhjobfiemmnaa
