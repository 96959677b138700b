/- The image of a list through another. -/
import Derived.Test.YtjmhjobfiemmnaaPl
import Derived.Test.YtjmhjobfiemmnaaGA
import Derived.Test.YtjmhjobfiemmnaaGIm
namespace Go.Proofs.Ytjmhjobfiemmnaa
set_option linter.unusedSimpArgs false
set_option linter.unusedVariables false

theorem forI_invk {α σ ρ : Type} {body : Int → α → σ → Option (Lp σ σ ρ)} (R : Nat → σ) : ∀ (xs : List α) (k : Nat), (∀ (j : Nat) x, xs[j]? = some x → body ((k + j : Nat) : Int) x (R (k + j)) = some (.go (R (k + j + 1)))) →
    forI body xs (k : Int) (R k) = some (.inl (R (k + xs.length)))
  | [], k, h => rfl
  | x :: xs, k, h => by
    have h0 := h 0 x rfl
    simp only [Nat.add_zero] at h0
    simp only [forI, h0]
    rw [show ((k : Int) + 1) = ((k + 1 : Nat) : Int) by omega]
    rw [forI_invk R xs (k + 1) (fun j y hj => by have := h (j + 1) y (by simpa using hj); rw [show k + (j + 1) = k + 1 + j by omega] at this; exact this)]
    rw [List.length_cons, show k + 1 + xs.length = k + (xs.length + 1) by omega]
theorem forI_invk0 {α σ ρ : Type} {body : Int → α → σ → Option (Lp σ σ ρ)} (R : Nat → σ) (xs : List α) (h : ∀ (j : Nat) x, xs[j]? = some x → body (j : Int) x (R j) = some (.go (R (j + 1)))) :
    forI body xs 0 (R 0) = some (.inl (R xs.length)) := by
  have := forI_invk R xs 0 (fun j x hj => by rw [Nat.zero_add]; exact h j x hj)
  rw [Nat.zero_add] at this; exact this
def imgL (t x : List Int) : List Int := x.map fun y => t.getD y.toNat 0
theorem take_snoc {α : Type} {xs : List α} {j : Nat} {x : α} (h : xs[j]? = some x) : xs.take (j + 1) = xs.take j ++ [x] := by
  rw [List.take_add_one, h]; rfl
theorem e_coThrough (t x : List Int) (ht : t.length ≤ 1000000) (h : ∀ y, y ∈ x → 0 ≤ y ∧ y < t.length) (hx : x.length ≤ 1000) : fS_coThrough t x = some (imgL t x) ∧ fI_images x t = some (imgL t x) := by
  have step : ∀ (j : Nat) (y : Int), x[j]? = some y → ix t y = some (t.getD y.toNat 0) := fun j y hj => by
    have := h y (List.mem_of_getElem? hj)
    unfold ix
    rw [if_pos this.1, List.getD_eq_getElem?_getD, List.getElem?_eq_getElem (by omega)]
    rfl
  constructor
  · unfold fS_coThrough
    have := forI_invk0 (body := fS_coThrough_s1 t) (fun j => imgL t (x.take j)) x (fun j y hj => by
      unfold fS_coThrough_s1 push
      rw [step j y hj, sb, if_pos (by simp [imgL]; omega), sb, take_snoc hj]
      simp [imgL])
    rw [List.take_length] at this
    rw [show ([] : List Int) = imgL t (x.take 0) from rfl, this, sb]
  · unfold fI_images
    have := forI_invk0 (body := fI_images_s1 t) (fun j => imgL t (x.take j)) x (fun j y hj => by
      unfold fI_images_s1 push
      rw [step j y hj, sb, if_pos (by simp [imgL]; omega), sb, take_snoc hj]
      simp [imgL])
    rw [List.take_length] at this
    rw [show ([] : List Int) = imgL t (x.take 0) from rfl, this, sb]
end Go.Proofs.Ytjmhjobfiemmnaa
