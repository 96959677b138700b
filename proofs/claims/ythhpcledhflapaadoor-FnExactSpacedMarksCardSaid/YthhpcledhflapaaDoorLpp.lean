/- Loops over lists and numbers, in plain words. -/
import Derived.Test.YthhpcledhflapaaDoorPd
namespace Go.Proofs.YthhpcledhflapaaDoor
set_option linter.unusedSimpArgs false
set_option linter.unusedVariables false

theorem loopF_go {σ τ ρ : Type} {f : σ → Option (Lp σ τ ρ)} {s s' : σ} (h : f s = some (.go s')) (fuel : Nat) : loopF f (fuel + 1) s = loopF f fuel s' := by simp only [loopF, h]
theorem loopF_out {σ τ ρ : Type} {f : σ → Option (Lp σ τ ρ)} {s : σ} {t : τ} (h : f s = some (.out t)) (fuel : Nat) : loopF f (fuel + 1) s = some (.inl t) := by simp only [loopF, h]
theorem loopF_ret {σ τ ρ : Type} {f : σ → Option (Lp σ τ ρ)} {s : σ} {r : ρ} (h : f s = some (.ret r)) (fuel : Nat) : loopF f (fuel + 1) s = some (.inr r) := by simp only [loopF, h]
/-- A loop that folds. -/
theorem forI_fold {α σ τ ρ : Type} {body : Int → α → σ → Option (Lp σ σ ρ)} (g : τ → α → τ) (R : τ → σ) (P : τ → Prop) : ∀ (xs : List α) (k : Int) (s : τ), P s →
    (∀ (k : Int) x s, x ∈ xs → P s → body k x (R s) = some (.go (R (g s x))) ∧ P (g s x)) → forI body xs k (R s) = some (.inl (R (xs.foldl g s))) ∧ P (xs.foldl g s)
  | [], k, s, hs, h => ⟨rfl, hs⟩
  | x :: xs, k, s, hs, h => by
    obtain ⟨h1, h2⟩ := h k x s (by simp) hs
    simp only [forI, h1, List.foldl_cons]
    exact forI_fold g R P xs (k + 1) (g s x) h2 fun k y s hy hs => h k y s (by simp [hy]) hs
theorem forI_inv {α σ ρ : Type} {body : Int → α → σ → Option (Lp σ σ ρ)} (R : Nat → σ) : ∀ (xs : List α) (k : Nat), (∀ (j : Nat) x, xs[j]? = some x → body ((k + j : Nat) : Int) x (R (k + j)) = some (.go (R (k + j + 1)))) →
    forI body xs (k : Int) (R k) = some (.inl (R (k + xs.length)))
  | [], k, h => rfl
  | x :: xs, k, h => by
    have h0 := h 0 x rfl
    simp only [Nat.add_zero] at h0
    simp only [forI, h0]
    rw [show ((k : Int) + 1) = ((k + 1 : Nat) : Int) by omega]
    rw [forI_inv R xs (k + 1) (fun j y hj => by have := h (j + 1) y (by simpa using hj); rw [show k + (j + 1) = k + 1 + j by omega] at this; exact this)]
    rw [List.length_cons, show k + 1 + xs.length = k + (xs.length + 1) by omega]
theorem forN_inv {σ ρ : Type} {body : Int → σ → Option (Lp σ σ ρ)} (R : Nat → σ) : ∀ (n k : Nat), (∀ (j : Nat), j < n → body ((k + j : Nat) : Int) (R (k + j)) = some (.go (R (k + j + 1)))) →
    forN body n (k : Int) (R k) = some (.inl (R (k + n)))
  | 0, k, h => rfl
  | n + 1, k, h => by
    have h0 := h 0 (by omega)
    simp only [Nat.add_zero] at h0
    simp only [forN, h0]
    rw [show ((k : Int) + 1) = ((k + 1 : Nat) : Int) by omega]
    rw [forN_inv R n (k + 1) (fun j hj => by have := h (j + 1) (by omega); rw [show k + (j + 1) = k + 1 + j by omega] at this; exact this)]
    rw [show k + 1 + n = k + (n + 1) by omega]
theorem forI_inv0 {α σ ρ : Type} {body : Int → α → σ → Option (Lp σ σ ρ)} (R : Nat → σ) (xs : List α) (h : ∀ (j : Nat) x, xs[j]? = some x → body (j : Int) x (R j) = some (.go (R (j + 1)))) :
    forI body xs 0 (R 0) = some (.inl (R xs.length)) := by
  have := forI_inv R xs 0 (fun j x hj => by rw [Nat.zero_add]; exact h j x hj)
  rw [Nat.zero_add] at this; exact this
theorem forN_inv0 {σ ρ : Type} {body : Int → σ → Option (Lp σ σ ρ)} (R : Nat → σ) (n : Nat) (h : ∀ (j : Nat), j < n → body (j : Int) (R j) = some (.go (R (j + 1)))) :
    forN body n 0 (R 0) = some (.inl (R n)) := by
  have := forN_inv R n 0 (fun j hj => by rw [Nat.zero_add]; exact h j hj)
  rw [Nat.zero_add] at this; exact this
end Go.Proofs.YthhpcledhflapaaDoor
