/- A list of lists of one's own beside other lists among the results. -/
import Derived.Test.YtjmhjobfiemmnaaKg
import Derived.Test.YtjmhjobfiemmnaaKc
namespace Go.Proofs.Ytjmhjobfiemmnaa
set_option linter.unusedSimpArgs false
set_option linter.unusedVariables false
section
variable {α β : Type} [Rp α] [Rp β] {e er : TypeId} {o oo : Tg} {w w0 : World} {v : Value}
theorem Of.rt2 {xs : List α} (h : Of e o w v xs) (hB : Bs oo o w0 w) (k kr t : Nat) (hk : 2 ≤ k) (hkr : 2 ≤ kr) : Of e (Go.Proofs.Ytjmhjobfiemmnaa.rt2 oo o w0.heap.size k kr t) w v xs := by
  obtain ⟨css, h1, h2, h3, h4⟩ := h
  exact ⟨css, h1, h2, fun g hg => rt2_zero hB k kr t g hk hkr (h3 g hg), fun i cs x a b => Rp.mv (h4 i cs x a b) (Nat.le_refl _) fun b _ hb => ⟨rfl, rt2_zero hB k kr t b hk hkr hb⟩⟩
theorem Dz.rt2 {xs : List (List α)} (h : Dz e er o w v xs) (hB : Bs oo o w0 w) (k kr t : Nat) (hk : 2 ≤ k) (hkr : 2 ≤ kr) : Dz e er (Go.Proofs.Ytjmhjobfiemmnaa.rt2 oo o w0.heap.size k kr t) w v xs := by
  obtain ⟨vs, h1, h2⟩ := h
  exact ⟨vs, Of.rt2 h1 hB k kr t hk hkr, h2.1, fun i u x a b => Of.rt2 (h2.2.1 i u x a b) hB k kr t hk hkr, h2.2.2⟩
theorem RdL.rt2 {xs : List β} (h : RdL o w v xs) (hB : Bs oo o w0 w) (k kr t : Nat) (hk : 2 ≤ k) (hkr : 2 ≤ kr) : RdL (Go.Proofs.Ytjmhjobfiemmnaa.rt2 oo o w0.heap.size k kr t) w v xs := h.mv (Nat.le_refl _) fun b _ hb => ⟨rfl, rt2_zero hB k kr t b hk hkr hb⟩
/-- A list of lists that a call made, to be read only. -/
theorem dp_read {n t : Nat} {vs : List Hv} {xs : List (List α)} (h : Ow n e t o w v vs) (hr : Rws n er (t + 1) o w vs xs) (ho : ∀ b, b < n → o b = oo b) : ∃ o2 : Tg, (∀ b, b < n → o2 b = oo b) ∧ RdL o2 w v xs := by
  have z : ∀ b, o b = 0 → (if b < n then o b else if o b = t ∨ o b = t + 1 then 0 else o b) = 0 := fun b hb => by
    split
    · exact hb
    · split
      · rfl
      · exact hb
  refine ⟨fun b => if b < n then o b else if o b = t ∨ o b = t + 1 then 0 else o b, fun b hb => by simp only [if_pos hb]; exact ho b hb, ?_⟩
  obtain ⟨css, h1, h2, h3, h4⟩ := h
  have y1 : Ow 0 e 0 (fun b => if b < n then o b else if o b = t ∨ o b = t + 1 then 0 else o b) w v vs := Ow.mono (B := n) ⟨css, h1, h2, fun g hg => by
    have := (h2.lt g hg).1
    simp only [if_neg (Nat.not_lt.2 this), h3 g hg, true_or, if_true], fun i cs x a b => Rp.mv (h4 i cs x a b) (Nat.le_refl _) fun b _ hb => ⟨rfl, z b hb⟩⟩ (Nat.zero_le _)
  have y2 : Rws n er 0 (fun b => if b < n then o b else if o b = t ∨ o b = t + 1 then 0 else o b) w vs xs := ⟨hr.1, fun i u x a b => by
    obtain ⟨css, h1, h2, h3, h4⟩ := hr.2.1 i u x a b
    exact ⟨css, h1, h2, fun g hg => by
      have := (h2.lt g hg).1
      simp only [if_neg (Nat.not_lt.2 this), h3 g hg, or_true, if_true], fun i cs x a b => Rp.mv (h4 i cs x a b) (Nat.le_refl _) fun b _ hb => ⟨rfl, z b hb⟩⟩, hr.2.2⟩
  exact Dz.rd ⟨vs, y1, y2.mono (Nat.zero_le _)⟩
/-- A list that a function hands back in the place of nil has an element. -/
def nem (xs : List α) : Option Unit := if xs.isEmpty then none else some ()
theorem nx_of {xs : List α} {u : Unit} (h : RdL zt w v xs) (hn : nem xs = some u) : isnil v = xs.isEmpty := by
  cases hv : isnil v
  · unfold nem at hn
    split at hn
    · cases hn
    · rename_i hh; simpa using hh
  · have := isnil_nil h hv
    subst this
    cases hn
end
end Go.Proofs.Ytjmhjobfiemmnaa
