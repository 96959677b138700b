/- A list of lists of one's own beside other lists among the results. -/
import Derived.Test.YtiejigogmnkjdaaKg
namespace Go.Proofs.Ytiejigogmnkjdaa
set_option linter.unusedSimpArgs false
set_option linter.unusedVariables false
section
variable {α β : Type} [Rp α] [Rp β] {e er : TypeId} {o oo : Tg} {w w0 : World} {v : Value}
theorem Of.rt2 {xs : List α} (h : Of e o w v xs) (hB : Bs oo o w0 w) (k kr t : Nat) (hk : 2 ≤ k) (hkr : 2 ≤ kr) : Of e (Go.Proofs.Ytiejigogmnkjdaa.rt2 oo o w0.heap.size k kr t) w v xs := by
  obtain ⟨css, h1, h2, h3, h4⟩ := h
  exact ⟨css, h1, h2, fun g hg => rt2_zero hB k kr t g hk hkr (h3 g hg), fun i cs x a b => Rp.mv (h4 i cs x a b) (Nat.le_refl _) fun b _ hb => ⟨rfl, rt2_zero hB k kr t b hk hkr hb⟩⟩
theorem Dz.rt2 {xs : List (List α)} (h : Dz e er o w v xs) (hB : Bs oo o w0 w) (k kr t : Nat) (hk : 2 ≤ k) (hkr : 2 ≤ kr) : Dz e er (Go.Proofs.Ytiejigogmnkjdaa.rt2 oo o w0.heap.size k kr t) w v xs := by
  obtain ⟨vs, h1, h2⟩ := h
  exact ⟨vs, Of.rt2 h1 hB k kr t hk hkr, h2.1, fun i u x a b => Of.rt2 (h2.2.1 i u x a b) hB k kr t hk hkr, h2.2.2⟩
theorem RdL.rt2 {xs : List β} (h : RdL o w v xs) (hB : Bs oo o w0 w) (k kr t : Nat) (hk : 2 ≤ k) (hkr : 2 ≤ kr) : RdL (Go.Proofs.Ytiejigogmnkjdaa.rt2 oo o w0.heap.size k kr t) w v xs := h.mv (Nat.le_refl _) fun b _ hb => ⟨rfl, rt2_zero hB k kr t b hk hkr hb⟩
end
end Go.Proofs.Ytiejigogmnkjdaa
