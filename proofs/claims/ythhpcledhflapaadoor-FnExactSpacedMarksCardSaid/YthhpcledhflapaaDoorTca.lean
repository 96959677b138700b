/- The bit step on a cycle's colours, and the way down to three colours: what knows no program. -/
import Derived.Lib.TrailingZeros
import Derived.Test.YthhpcledhflapaaDoorLpp
namespace Go.Proofs.YthhpcledhflapaaDoor
set_option linter.unusedSimpArgs false
set_option linter.unusedVariables false

/-! ### The first bit in which two numbers differ -/
def dif (x y : Nat) : Nat := Lib.ctz 64 (x ^^^ y)
theorem xor_ne {x y : Nat} (h : x ≠ y) : x ^^^ y ≠ 0 := fun e => h (by
  have h1 : x ^^^ y ^^^ y = 0 ^^^ y := by rw [e]
  rw [Nat.xor_assoc, Nat.xor_self, Nat.xor_zero, Nat.zero_xor] at h1
  exact h1)
theorem dif_spec {x y : Nat} (hx : x < 2 ^ 63) (hy : y < 2 ^ 63) (h : x ≠ y) : dif x y < 64 ∧ x.testBit (dif x y) ≠ y.testBit (dif x y) ∧ ∀ i, i < dif x y → x.testBit i = y.testBit i := by
  have hne := xor_ne h
  have hlt : x ^^^ y < 2 ^ 64 := Nat.xor_lt_two_pow (by omega) (by omega)
  obtain ⟨m, hm, hk⟩ := Lib.ctzFrom_spec 64 (x ^^^ y) (Nat.pos_of_ne_zero hne) hlt
  have e : dif x y = Lib.ctzFrom 64 (x ^^^ y) := by unfold dif Lib.ctz; rw [if_neg hne]
  rw [← e] at hm hk
  generalize dif x y = k at hm hk
  have hb : ∀ i, (x ^^^ y).testBit i = (decide (i ≥ k) && (2 * m + 1).testBit (i - k)) := fun i => by rw [hm, Nat.testBit_two_pow_mul]
  refine ⟨hk, ?_, fun i hi => ?_⟩
  · have := hb k
    rw [Nat.testBit_xor, Nat.sub_self, Nat.testBit_zero] at this
    have h2 : (2 * m + 1) % 2 = 1 := by omega
    simp [h2] at this
    exact this
  · have := hb i
    rw [Nat.testBit_xor] at this
    have h3 : ¬ i ≥ k := by omega
    simp [h3] at this
    exact this
theorem dif_lt {x y b : Nat} (hb : b ≤ 63) (hx : x < 2 ^ b) (hy : y < 2 ^ b) (h : x ≠ y) : dif x y < b := by
  have hp : 2 ^ b ≤ 2 ^ 63 := Nat.pow_le_pow_right (by decide) hb
  obtain ⟨_, h2, _⟩ := dif_spec (by omega) (by omega) h
  apply Nat.lt_of_not_le
  intro hle
  have hq : 2 ^ b ≤ 2 ^ dif x y := Nat.pow_le_pow_right (by decide) hle
  rw [Nat.testBit_lt_two_pow (by omega), Nat.testBit_lt_two_pow (by omega)] at h2
  exact h2 rfl
def bitOf (x j : Nat) : Nat := x / 2 ^ j % 2
theorem bitOf_test (x j : Nat) : bitOf x j = (x.testBit j).toNat := by
  unfold bitOf
  rw [Nat.toNat_testBit]
theorem bitOf_lt (x j : Nat) : bitOf x j < 2 := Nat.mod_lt _ (by decide)
theorem bitOf_ne {x y j : Nat} (h : x.testBit j ≠ y.testBit j) : bitOf x j ≠ bitOf y j := by
  rw [bitOf_test, bitOf_test]
  cases hx : x.testBit j <;> cases hy : y.testBit j <;> simp [hx, hy] at h ⊢
def colF (x y : Nat) : Nat := 2 * dif x y + bitOf x (dif x y)
theorem colF_lt {x y b : Nat} (hb : b ≤ 63) (hx : x < 2 ^ b) (hy : y < 2 ^ b) (h : x ≠ y) : colF x y < 2 * b := by
  have h1 := dif_lt hb hx hy h
  have h2 := bitOf_lt x (dif x y)
  unfold colF
  omega
theorem colF_ne {x y z : Nat} (hx : x < 2 ^ 63) (hy : y < 2 ^ 63) (hz : z < 2 ^ 63) (h1 : x ≠ y) (h2 : y ≠ z) : colF x y ≠ colF y z := by
  intro e
  have b1 := bitOf_lt x (dif x y)
  have b2 := bitOf_lt y (dif y z)
  unfold colF at e
  have e1 : dif x y = dif y z := by omega
  have e2 : bitOf x (dif x y) = bitOf y (dif y z) := by omega
  rw [← e1] at e2
  exact bitOf_ne (dif_spec hx hy h1).2.1 e2

/-! ### Colours of a cycle -/
/-- The number at a place, behind the end from the start on. -/
def cy (l : List Int) (i : Nat) : Nat := (l.getD (i % l.length) 0).toNat
structure Col (l : List Int) (n b : Nat) : Prop where
  len : l.length = n
  n2 : 2 ≤ n
  n180 : n ≤ 180
  rng : ∀ x, x ∈ l → 0 ≤ x ∧ x.toNat < b
  ne : ∀ i, i < n → cy l i ≠ cy l (i + 1)
theorem Col.at' {l : List Int} {n b : Nat} (h : Col l n b) (i : Nat) : ∃ x : Nat, l[i % n]? = some (x : Int) ∧ cy l i = x ∧ x < b := by
  have hn := h.n2
  have hi : i % n < l.length := by rw [h.len]; exact Nat.mod_lt _ (by omega)
  have hr := h.rng _ (List.getElem_mem hi)
  refine ⟨l[i % n].toNat, ?_, ?_, hr.2⟩
  · rw [List.getElem?_eq_getElem hi, Int.toNat_of_nonneg hr.1]
  · unfold cy
    have h2 : i % l.length < l.length := by rw [h.len] at hi ⊢; exact hi
    rw [List.getD_eq_getElem?_getD, List.getElem?_eq_getElem h2]
    simp only [Option.getD_some, h.len]
theorem Col.lt {l : List Int} {n b : Nat} (h : Col l n b) (i : Nat) : cy l i < b := by obtain ⟨x, _, e, hx⟩ := h.at' i; omega
def mapC (l : List Int) (f : Nat → Nat) : List Int := (List.range l.length).map fun i => (f i : Int)
theorem mapC_len (l : List Int) (f : Nat → Nat) : (mapC l f).length = l.length := by simp [mapC]
theorem mapC_cy {l : List Int} {f : Nat → Nat} {i : Nat} (hi : i < l.length) : cy (mapC l f) i = f i := by
  unfold cy
  rw [mapC_len, Nat.mod_eq_of_lt hi]
  unfold mapC
  rw [List.getD_eq_getElem?_getD, List.getElem?_map, List.getElem?_range hi]
  simp
theorem cy_mod (l : List Int) (i : Nat) : cy l (i % l.length) = cy l i := by unfold cy; rw [Nat.mod_mod]
def bitL (l : List Int) : List Int := mapC l fun i => colF (cy l i) (cy l (i + 1))
theorem bitL_col {l : List Int} {n b c : Nat} (h : Col l n b) (hb : b ≤ 2 ^ c) (hc : c ≤ 63) : Col (bitL l) n (2 * c) := by
  have hn := h.n2
  have hl := h.len
  have hp : (2 : Nat) ^ c ≤ 2 ^ 63 := Nat.pow_le_pow_right (by decide) hc
  have hne : ∀ i, cy l i ≠ cy l (i + 1) := fun i => by
    have := h.ne (i % n) (Nat.mod_lt _ (by omega))
    rw [← hl, cy_mod] at this
    have e : cy l (i % l.length + 1) = cy l (i + 1) := by unfold cy; rw [Nat.mod_add_mod]
    rw [e] at this
    exact this
  refine ⟨by rw [bitL, mapC_len, hl], h.n2, h.n180, fun x hx => ?_, fun i hi => ?_⟩
  · unfold bitL mapC at hx
    obtain ⟨i, hi, rfl⟩ := List.mem_map.1 hx
    have h1 := h.lt i
    have h2 := h.lt (i + 1)
    refine ⟨by omega, ?_⟩
    rw [Int.toNat_natCast]
    exact colF_lt hc (by omega) (by omega) (hne i)
  · have e1 : cy (bitL l) i = colF (cy l i) (cy l (i + 1)) := mapC_cy (by omega)
    have e2 : cy (bitL l) (i + 1) = colF (cy l (i + 1)) (cy l (i + 2)) := by
      have hm : (i + 1) % n < n := Nat.mod_lt _ (by omega)
      have := mapC_cy (l := l) (f := fun i => colF (cy l i) (cy l (i + 1))) (i := (i + 1) % n) (by omega)
      have e3 : cy (bitL l) ((i + 1) % n) = cy (bitL l) (i + 1) := by
        have := cy_mod (bitL l) (i + 1)
        rw [bitL, mapC_len, hl] at this
        exact this
      unfold bitL at e3 ⊢
      rw [← e3, this, ← hl, cy_mod]
      have e : cy l ((i + 1) % l.length + 1) = cy l (i + 2) := by unfold cy; rw [Nat.mod_add_mod]
      rw [e]
    have a1 := h.lt i
    have a2 := h.lt (i + 1)
    have a3 := h.lt (i + 2)
    rw [e1, e2]
    exact colF_ne (by omega) (by omega) (by omega) (hne i) (hne (i + 1))
/-- The least colour of 0, 1, 2 that neither has. -/
def freeC (a b : Nat) : Nat := if a ≠ 0 ∧ b ≠ 0 then 0 else if a ≠ 1 ∧ b ≠ 1 then 1 else 2
theorem freeC_le (a b : Nat) : freeC a b ≤ 2 := by unfold freeC; split <;> (try split) <;> omega
theorem freeC_ne (a b : Nat) : freeC a b ≠ a ∧ freeC a b ≠ b := by
  unfold freeC
  split
  · omega
  · split <;> omega
def redL (l : List Int) (c : Nat) : List Int := mapC l fun i => if cy l i = c then freeC (cy l (i + l.length - 1)) (cy l (i + 1)) else cy l i
theorem redL_col {l : List Int} {n c : Nat} (h : Col l n (c + 1)) (hc : 3 ≤ c) : Col (redL l c) n c := by
  have hn := h.n2
  have hl := h.len
  have hne : ∀ i, cy l i ≠ cy l (i + 1) := fun i => by
    have := h.ne (i % n) (Nat.mod_lt _ (by omega))
    rw [← hl, cy_mod] at this
    have e : cy l (i % l.length + 1) = cy l (i + 1) := by unfold cy; rw [Nat.mod_add_mod]
    rw [e] at this
    exact this
  have hat : ∀ i, cy (redL l c) i = if cy l i = c then freeC (cy l (i + l.length - 1)) (cy l (i + 1)) else cy l i := fun i => by
    have hm : i % n < l.length := by rw [hl]; exact Nat.mod_lt _ (by omega)
    have := mapC_cy (l := l) (f := fun i => if cy l i = c then freeC (cy l (i + l.length - 1)) (cy l (i + 1)) else cy l i) hm
    have hrl : (redL l c).length = n := by rw [redL, mapC_len, hl]
    have e3 : cy (redL l c) (i % n) = cy (redL l c) i := by
      have := cy_mod (redL l c) i
      rw [hrl] at this
      exact this
    have e4 : cy l (i % n) = cy l i := by have := cy_mod l i; rw [hl] at this; exact this
    have e5 : cy l (i % n + l.length - 1) = cy l (i + l.length - 1) := by
      unfold cy
      rw [hl, show i % n + n - 1 = i % n + (n - 1) by omega, show i + n - 1 = i + (n - 1) by omega, Nat.mod_add_mod]
    have e6 : cy l (i % n + 1) = cy l (i + 1) := by unfold cy; rw [hl, Nat.mod_add_mod]
    simp only [e4, e5, e6] at this
    rw [← e3]
    exact this
  refine ⟨by rw [redL, mapC_len, hl], h.n2, h.n180, fun x hx => ?_, fun i hi => ?_⟩
  · obtain ⟨i, hi, hx⟩ := List.mem_iff_getElem.1 hx
    have hi' : i < l.length := by rw [redL, mapC_len] at hi; exact hi
    have h1 : cy (redL l c) i = x.toNat := by
      unfold cy
      rw [Nat.mod_eq_of_lt hi, List.getD_eq_getElem?_getD, List.getElem?_eq_getElem hi, hx]; rfl
    have h0 : 0 ≤ x := by
      have hm := List.getElem_mem hi
      rw [hx] at hm
      unfold redL mapC at hm
      obtain ⟨k, _, rfl⟩ := List.mem_map.1 hm
      omega
    refine ⟨h0, ?_⟩
    rw [← h1, hat]
    have := h.lt i
    have := freeC_le (cy l (i + l.length - 1)) (cy l (i + 1))
    split <;> omega
  · rw [hat, hat]
    have h1 := hne i
    by_cases a : cy l i = c
    · have : ¬ cy l (i + 1) = c := by omega
      rw [if_pos a, if_neg this]
      exact (freeC_ne _ _).2
    · rw [if_neg a]
      by_cases b : cy l (i + 1) = c
      · rw [if_pos b]
        have e : cy l (i + 1 + l.length - 1) = cy l i := by
          unfold cy
          rw [show i + 1 + l.length - 1 = i + l.length by omega, Nat.add_mod_right]
        rw [e]
        exact fun q => (freeC_ne (cy l i) (cy l (i + 1 + 1))).1 q.symm
      · rw [if_neg b]; exact h1
end Go.Proofs.YthhpcledhflapaaDoor
