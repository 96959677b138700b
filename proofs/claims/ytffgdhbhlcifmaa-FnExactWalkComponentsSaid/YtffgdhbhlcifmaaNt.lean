/- numbersTo. -/
import Derived.Test.YtffgdhbhlcifmaaPl
import Derived.Test.YtffgdhbhlcifmaaPa
namespace Go.Proofs.Ytffgdhbhlcifmaa
set_option linter.unusedSimpArgs false
set_option linter.unusedVariables false

theorem forN_invn {σ ρ : Type} {body : Int → σ → Option (Lp σ σ ρ)} (R : Nat → σ) : ∀ (n k : Nat), (∀ (j : Nat), j < n → body ((k + j : Nat) : Int) (R (k + j)) = some (.go (R (k + j + 1)))) →
    forN body n (k : Int) (R k) = some (.inl (R (k + n)))
  | 0, k, h => rfl
  | n + 1, k, h => by
    have h0 := h 0 (by omega)
    simp only [Nat.add_zero] at h0
    simp only [forN, h0]
    rw [show ((k : Int) + 1) = ((k + 1 : Nat) : Int) by omega]
    rw [forN_invn R n (k + 1) (fun j hj => by have := h (j + 1) (by omega); rw [show k + (j + 1) = k + 1 + j by omega] at this; exact this)]
    rw [show k + 1 + n = k + (n + 1) by omega]
theorem forN_invn0 {σ ρ : Type} {body : Int → σ → Option (Lp σ σ ρ)} (R : Nat → σ) (n : Nat) (h : ∀ (j : Nat), j < n → body (j : Int) (R j) = some (.go (R (j + 1)))) :
    forN body n 0 (R 0) = some (.inl (R n)) := by
  have := forN_invn R n 0 (fun j hj => by rw [Nat.zero_add]; exact h j hj)
  rw [Nat.zero_add] at this; exact this
theorem e_numbersTo (n : Nat) (hn : n ≤ 1000000) : fI_numbersTo (n : Int) = some ((List.range n).map fun a : Nat => (a : Int)) := by
  unfold fI_numbersTo mk
  rw [if_pos (by omega), sb, ck_in (by simp only [List.length_replicate, Int.toNat_natCast]; omega) (by simp only [List.length_replicate, Int.toNat_natCast]; omega), sb]
  have hz : List.replicate ((n : Int)).toNat (Rz.z : Int) = (List.range n).map fun a : Nat => if a < 0 then (a : Int) else 0 := by
    refine List.ext_getElem (by simp) fun i h1 h2 => ?_
    simp; rfl
  have := forN_invn0 (body := fI_numbersTo_s1) (fun j => (List.range n).map fun a : Nat => if a < j then (a : Int) else 0) n (fun j hj => by
    unfold fI_numbersTo_s1
    rw [ix_lt _ _ (by simpa using hj), sb, st_nat _ _ _ (by simpa using hj), sb]
    congr 2
    refine List.ext_getElem (by simp) fun i h1 h2 => ?_
    simp only [List.getElem_set, List.getElem_map, List.getElem_range]
    by_cases e : j = i
    · subst e; simp
    · rw [if_neg e]
      by_cases h : i < j
      · rw [if_pos h, if_pos (by omega)]
      · rw [if_neg h, if_neg (by omega)])
  rw [hz]
  simp only [List.length_map, List.length_range, Int.toNat_natCast]
  rw [this, sb]
  simp only
  congr 1
  refine List.map_congr_left fun a ha => ?_
  rw [if_pos (List.mem_range.1 ha)]
end Go.Proofs.Ytffgdhbhlcifmaa
