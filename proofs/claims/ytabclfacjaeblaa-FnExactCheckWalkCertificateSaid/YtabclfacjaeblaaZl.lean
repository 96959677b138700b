/- What the laws' helpers compute: sizes, copies, equality. -/
import Derived.Test.YtabclfacjaeblaaRng
import Derived.Test.YtabclfacjaeblaaPl
import Derived.Test.YtabclfacjaeblaaGZ
namespace Go.Proofs.Ytabclfacjaeblaa
set_option linter.unusedSimpArgs false
set_option linter.unusedVariables false

theorem loopF_cn {σ τ ρ : Type} {f : σ → Option (Lp σ τ ρ)} (R : Nat → σ) (n : Nat) (t : τ) (hgo : ∀ j, j < n → f (R j) = some (.go (R (j + 1)))) (hout : f (R n) = some (.out t)) (fuel : Nat) (hf : n < fuel) : loopF f fuel (R 0) = some (.inl t) := by
  suffices h : ∀ (d j fuel : Nat), j + d = n → d < fuel → loopF f fuel (R j) = some (.inl t) by exact h n 0 fuel (by omega) hf
  intro d
  induction d with
  | zero =>
    intro j fuel hj hf
    obtain ⟨m, rfl⟩ : ∃ m, fuel = m + 1 := ⟨fuel - 1, by omega⟩
    have : j = n := by omega
    subst this
    simp only [loopF, hout]
  | succ d ih =>
    intro j fuel hj hf
    obtain ⟨m, rfl⟩ : ∃ m, fuel = m + 1 := ⟨fuel - 1, by omega⟩
    simp only [loopF, hgo j (by omega)]
    exact ih (j + 1) m (by omega) (by omega)
theorem RdL.len63 {α : Type} [Rp α] {o : Tg} {w : World} {v : Value} {xs : List α} (h : RdL o w v xs) : xs.length ≤ 9223372036854775807 := by
  obtain ⟨a, c, rfl, h1, h2, _⟩ := h
  exact Nat.le_trans h1 (Nat.le_trans h2 (by decide))
theorem RdL.row {α : Type} [Rp α] {o : Tg} {w : World} {v : Value} {xs : List (List α)} (h : RdL o w v xs) : ∀ x, x ∈ xs → x.length ≤ 9223372036854775807 := by
  obtain ⟨a, c, rfl, h1, h2, h3⟩ := h
  intro x hx
  obtain ⟨i, hi, rfl⟩ := List.getElem_of_mem hx
  obtain ⟨b, off, cs, _, _, _, _, hd⟩ := h3 i xs[i] (List.getElem?_eq_getElem hi)
  obtain ⟨u, rfl, hu⟩ := hd
  exact hu.len63
/-! ### Sizes -/
theorem e_szIntS (l : List Int) (left : Int) (h : l.length ≤ 9223372036854775807) (h0 : 0 ≤ left) (h1 : left ≤ 1048576) : fL_szIntS l left = some (szL left l.length) := by
  unfold fL_szIntS szL
  rw [ck_in (by omega) (by omega), sb]
  by_cases e : (l.length : Int) ≤ left
  · rw [if_neg (by simp; omega), if_pos e]
  · rw [if_pos (by simp; omega), if_neg e]
def sumL (LL : List (List Int)) : Nat := (LL.map List.length).sum
theorem tot_sum (LL : List (List Int)) : tot LL = LL.length + sumL LL := by unfold tot off sumL; rw [List.take_length]
theorem sz_loop (LL : List (List Int)) (hr : ∀ x, x ∈ LL → x.length ≤ 9223372036854775807) (hl : LL.length ≤ 1048576) : ∀ (d j fuel : Nat) (x : Int), j + d = LL.length → d < fuel → 0 ≤ x → x ≤ 1048576 →
    loopF (fL_szIntSS_s1 LL) fuel (x, (j : Int)) = some (if (sumL (LL.drop j) : Int) ≤ x then .inl (x - (sumL (LL.drop j) : Nat), (LL.length : Int)) else .inr (-1)) := by
  intro d
  induction d with
  | zero =>
    intro j fuel x hj hf h0 h1
    obtain ⟨m, rfl⟩ : ∃ m, fuel = m + 1 := ⟨fuel - 1, by omega⟩
    have e : LL.drop j = [] := List.drop_eq_nil_of_le (by omega)
    have hs : fL_szIntSS_s1 LL (x, (j : Int)) = some (.out (x, (j : Int))) := by
      unfold fL_szIntSS_s1
      rw [if_neg (by simp; omega)]
    have hjl : j = LL.length := by omega
    simp only [loopF, hs, e, sumL, List.map_nil, List.sum_nil]
    rw [if_pos (by omega), hjl]
    simp
  | succ d ih =>
    intro j fuel x hj hf h0 h1
    obtain ⟨m, rfl⟩ : ∃ m, fuel = m + 1 := ⟨fuel - 1, by omega⟩
    have hlt : j < LL.length := by omega
    have e : sumL (LL.drop j) = LL[j].length + sumL (LL.drop (j + 1)) := by
      unfold sumL
      rw [List.drop_eq_getElem_cons hlt, List.map_cons, List.sum_cons]
    have hrow := hr LL[j] (List.getElem_mem hlt)
    by_cases hfit : ((LL[j].length : Nat) : Int) ≤ x
    · have hs : fL_szIntSS_s1 LL (x, (j : Int)) = some (.go (x - (LL[j].length : Nat), ((j + 1 : Nat) : Int))) := by
        unfold fL_szIntSS_s1
        rw [if_pos (by simp; omega), ix_nat, List.getElem?_eq_getElem hlt, sb, e_szIntS _ _ hrow h0 h1, sb]
        unfold szL
        rw [if_pos hfit, if_neg (by simp; omega), ck_in (by simp only; omega) (by simp only; omega), sb]
        rfl
      simp only [loopF, hs]
      rw [ih (j + 1) m _ (by omega) (by omega) (by omega) (by omega), e]
      by_cases h2 : ((sumL (LL.drop (j + 1)) : Nat) : Int) ≤ x - (LL[j].length : Nat)
      · rw [if_pos h2, if_pos (by omega)]
        congr 3
        omega
      · rw [if_neg h2, if_neg (by omega)]
    · have hs : fL_szIntSS_s1 LL (x, (j : Int)) = some (.ret (-1)) := by
        unfold fL_szIntSS_s1
        rw [if_pos (by simp; omega), ix_nat, List.getElem?_eq_getElem hlt, sb, e_szIntS _ _ hrow h0 h1, sb]
        unfold szL
        rw [if_neg hfit, if_pos (by simp)]
      simp only [loopF, hs]
      rw [if_neg (by omega)]
theorem e_szIntSS (fuel : Nat) (hf : 2000000 ≤ fuel) (LL : List (List Int)) (left : Int) (hl : LL.length ≤ 9223372036854775807) (hr : ∀ x, x ∈ LL → x.length ≤ 9223372036854775807) (h0 : 0 ≤ left) (h1 : left ≤ 1048576) : fL_szIntSS fuel LL left = some (szL left (tot LL)) := by
  unfold fL_szIntSS
  rw [ck_in (by omega) (by omega), sb, tot_sum]
  by_cases e : (LL.length : Int) ≤ left
  · rw [if_neg (by simp; omega)]
    have := sz_loop LL hr (by omega) LL.length 0 fuel (left - LL.length) (by omega) (by omega) (by omega) (by omega)
    rw [show ((0 : Nat) : Int) = 0 from rfl, List.drop_zero] at this
    rw [this, sb]
    unfold szL
    by_cases h2 : ((sumL LL : Nat) : Int) ≤ left - LL.length
    · rw [if_pos h2, if_pos (by omega)]
      simp only
      congr 1
      omega
    · rw [if_neg h2, if_neg (by omega)]
  · rw [if_pos (by simp; omega)]
    unfold szL
    rw [if_neg (by omega)]
/-! ### Copies -/
theorem mk_nat {α : Type} (z : α) (n : Nat) (h : n ≤ 1048576) : mk z (n : Int) = some (List.replicate n z) := by
  unfold mk
  rw [if_pos (by omega), Int.toNat_natCast]
theorem set_rep {α : Type} (LL : List α) (d : α) (j : Nat) (hlt : j < LL.length) : (LL.take j ++ List.replicate (LL.length - j) d).set j LL[j] = LL.take (j + 1) ++ List.replicate (LL.length - (j + 1)) d := by
  have := set_take_rep LL LL[j] j hlt
  have hl : (LL.take j).length = j := by simp; omega
  obtain ⟨q, hq⟩ : ∃ q, LL.length - j = q + 1 := ⟨LL.length - j - 1, by omega⟩
  rw [hq, List.replicate_succ, List.set_append_right _ _ (by omega), hl, Nat.sub_self, List.set_cons_zero, show LL.length - (j + 1) = q by omega, List.take_succ_eq_append_getElem hlt, List.append_assoc]
  rfl
theorem e_toIntS (fuel : Nat) (l : List Int) (hl : l.length ≤ 1048576) (hf : l.length < fuel) : fL_toIntS fuel l = some l := by
  unfold fL_toIntS
  rw [mk_nat _ _ hl, sb]
  have := loopF_cn (f := fL_toIntS_s1 l) (fun j : Nat => (l.take j ++ List.replicate (l.length - j) (Rz.z : Int), (j : Int))) l.length (l, (l.length : Int)) (fun j hj => by
    have hlen : j < (l.take j ++ List.replicate (l.length - j) (Rz.z : Int)).length := by simp; omega
    unfold fL_toIntS_s1
    rw [if_pos (by simpa using hj)]
    simp only
    rw [ix_nat, List.getElem?_eq_getElem hj, sb, ix_nat, List.getElem?_eq_getElem hlen, sb, st_nat _ _ _ hlen, sb, set_rep _ _ _ hj, ck_in (by omega) (by omega), sb]
    rfl) (by
    unfold fL_toIntS_s1
    rw [if_neg (by simp)]
    simp) fuel hf
  simp only [List.take_zero, List.nil_append, Nat.sub_zero, Int.natCast_zero] at this
  rw [this, sb]
theorem e_toIntSS (fuel : Nat) (LL : List (List Int)) (hl : LL.length ≤ 1048576) (hr : ∀ x, x ∈ LL → x.length ≤ 1048576) (hf : 2000000 ≤ fuel) : fL_toIntSS fuel LL = some LL := by
  unfold fL_toIntSS
  rw [mk_nat _ _ hl, sb]
  have := loopF_cn (f := fL_toIntSS_s1 fuel LL) (fun j : Nat => (LL.take j ++ List.replicate (LL.length - j) ([] : List Int), (j : Int))) LL.length (LL, (LL.length : Int)) (fun j hj => by
    have hlen : j < (LL.take j ++ List.replicate (LL.length - j) ([] : List Int)).length := by simp; omega
    have hrow := hr LL[j] (List.getElem_mem hj)
    unfold fL_toIntSS_s1
    rw [if_pos (by simpa using hj)]
    simp only
    rw [ix_nat, List.getElem?_eq_getElem hj, sb, e_toIntS fuel _ hrow (by omega), sb, ix_nat, List.getElem?_eq_getElem hlen, sb, st_nat _ _ _ hlen, sb, set_rep _ _ _ hj, ck_in (by omega) (by omega), sb]
    rfl) (by
    unfold fL_toIntSS_s1
    rw [if_neg (by simp)]
    simp) fuel (by omega)
  simp only [List.take_zero, List.nil_append, Nat.sub_zero, Int.natCast_zero] at this
  rw [this, sb]
/-! ### Equality -/
theorem e_eqIntS (fuel : Nat) (l : List Int) (hl : l.length ≤ 1048576) (hf : l.length < fuel) : fL_eqIntS fuel l l = some true := by
  unfold fL_eqIntS
  rw [if_neg (by simp)]
  have := loopF_cn (f := fL_eqIntS_s1 l l) (fun j : Nat => (j : Int)) l.length (l.length : Int) (fun j hj => by
    unfold fL_eqIntS_s1
    rw [if_pos (by simpa using hj), ix_nat, List.getElem?_eq_getElem hj, sb, sb, if_neg (by simp), ck_in (by omega) (by omega), sb]
    rfl) (by
    unfold fL_eqIntS_s1
    rw [if_neg (by simp)]) fuel hf
  rw [show ((0 : Nat) : Int) = 0 from rfl] at this
  rw [this, sb]
theorem e_eqIntSS (fuel : Nat) (LL : List (List Int)) (hl : LL.length ≤ 1048576) (hr : ∀ x, x ∈ LL → x.length ≤ 1048576) (hf : 2000000 ≤ fuel) : fL_eqIntSS fuel LL LL = some true := by
  unfold fL_eqIntSS
  rw [if_neg (by simp)]
  have := loopF_cn (f := fL_eqIntSS_s1 fuel LL LL) (fun j : Nat => (j : Int)) LL.length (LL.length : Int) (fun j hj => by
    have hrow := hr LL[j] (List.getElem_mem hj)
    unfold fL_eqIntSS_s1
    rw [if_pos (by simpa using hj), ix_nat, List.getElem?_eq_getElem hj, sb, sb, e_eqIntS fuel _ hrow (by omega), sb, if_neg (by simp), ck_in (by omega) (by omega), sb]
    rfl) (by
    unfold fL_eqIntSS_s1
    rw [if_neg (by simp)]) fuel (by omega)
  rw [show ((0 : Nat) : Int) = 0 from rfl] at this
  rw [this, sb]
end Go.Proofs.Ytabclfacjaeblaa
