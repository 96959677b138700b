/- The bit step: what both sides compute. -/
import Derived.Test.YthhpcledhflapaaDoorTca
import Derived.Test.YthhpcledhflapaaDoorOw
import Derived.Test.YthhpcledhflapaaDoorGTa
namespace Go.Proofs.YthhpcledhflapaaDoor
set_option linter.unusedSimpArgs false
set_option linter.unusedVariables false

/-! ### Numbers -/
theorem quo_2 {x : Nat} (h : x < 2 ^ 62) : quo (x : Int) 2 = some ((x / 2 : Nat) : Int) := by
  unfold quo
  rw [if_neg (by decide), show (x : Int).tdiv 2 = ((x / 2 : Nat) : Int) from by rw [Int.tdiv_eq_ediv_of_nonneg (by omega)]; omega]
  exact ck_in (by omega) (by omega)
theorem rem_nat {x y : Nat} (h : y ≠ 0) : rem (x : Int) (y : Int) = some ((x % y : Nat) : Int) := by
  unfold rem
  rw [if_neg (by omega), Int.tmod_eq_emod_of_nonneg (by omega)]
  norm_cast
theorem nuBit_loop : ∀ (i x fuel : Nat), i < fuel → i ≤ 64 → x < 2 ^ 62 → loopF fS_nuBit_s1 fuel ((x : Int), (i : Int)) = some (.inl (((x / 2 ^ i : Nat) : Int), 0))
  | 0, x, fuel, hf, _, _ => by
    obtain ⟨fuel, rfl⟩ : ∃ m, fuel = m + 1 := ⟨fuel - 1, by omega⟩
    rw [loopF_out (t := ((x : Int), ((0 : Nat) : Int))) (by unfold fS_nuBit_s1; simp)]
    simp
  | i + 1, x, fuel, hf, hi, hx => by
    obtain ⟨fuel, rfl⟩ : ∃ m, fuel = m + 1 := ⟨fuel - 1, by omega⟩
    have hstep : fS_nuBit_s1 ((x : Int), ((i + 1 : Nat) : Int)) = some (.go (((x / 2 : Nat) : Int), (i : Int))) := by
      unfold fS_nuBit_s1
      simp only
      rw [if_pos (by simp), quo_2 hx, sb, ck_in (by omega) (by omega), sb]
      congr 3
      omega
    rw [loopF_go hstep, nuBit_loop i (x / 2) fuel (by omega) (by omega) (by omega), Nat.div_div_eq_div_mul, Nat.pow_succ, Nat.mul_comm 2]
theorem e_nuBit (fuel : Nat) (hf : 70 ≤ fuel) {x i : Nat} (hx : x < 2 ^ 62) (hi : i ≤ 64) : fS_nuBit fuel (x : Int) (i : Int) = some (bitOf x i : Int) := by
  unfold fS_nuBit
  rw [nuBit_loop i x fuel (by omega) hi hx, sb]
  simp only
  rw [show (2 : Int) = ((2 : Nat) : Int) from rfl, rem_nat (by decide), sb]; rfl
theorem bit_same {x y j : Nat} (h : x.testBit j = y.testBit j) : bitOf x j = bitOf y j := by rw [bitOf_test, bitOf_test, h]
theorem nuDiffer_loop (fuel0 : Nat) (hf0 : 70 ≤ fuel0) {x y : Nat} (hx : x < 2 ^ 62) (hy : y < 2 ^ 62) (h : x ≠ y) : ∀ (d j fuel : Nat), j + d = dif x y → d < fuel → loopF (fS_nuDiffer_s1 fuel0 (x : Int) (y : Int)) fuel (j : Int) = some (.inl (dif x y : Int))
  | 0, j, fuel, hd, hf => by
    obtain ⟨fuel, rfl⟩ : ∃ m, fuel = m + 1 := ⟨fuel - 1, by omega⟩
    obtain ⟨h1, h2, _⟩ := dif_spec (show x < 2 ^ 63 by omega) (show y < 2 ^ 63 by omega) h
    have hj : j = dif x y := by omega
    subst hj
    have := bitOf_ne h2
    refine loopF_out ?_ fuel
    unfold fS_nuDiffer_s1
    rw [e_nuBit fuel0 hf0 hx (by omega), sb, e_nuBit fuel0 hf0 hy (by omega), sb, if_neg (by simp; omega)]
  | d + 1, j, fuel, hd, hf => by
    obtain ⟨fuel, rfl⟩ : ∃ m, fuel = m + 1 := ⟨fuel - 1, by omega⟩
    obtain ⟨h1, _, h3⟩ := dif_spec (show x < 2 ^ 63 by omega) (show y < 2 ^ 63 by omega) h
    have := bit_same (h3 j (by omega))
    have hstep : fS_nuDiffer_s1 fuel0 (x : Int) (y : Int) (j : Int) = some (.go ((j + 1 : Nat) : Int)) := by
      unfold fS_nuDiffer_s1
      rw [e_nuBit fuel0 hf0 hx (by omega), sb, e_nuBit fuel0 hf0 hy (by omega), sb, if_pos (by simp; omega), ck_in (by omega) (by omega), sb]; simp
    rw [loopF_go hstep]
    exact nuDiffer_loop fuel0 hf0 hx hy h d (j + 1) fuel (by omega) (by omega)
theorem e_nuDiffer (fuel : Nat) (hf : 70 ≤ fuel) {x y : Nat} (hx : x < 2 ^ 62) (hy : y < 2 ^ 62) (h : x ≠ y) : fS_nuDiffer fuel (x : Int) (y : Int) = some (dif x y : Int) := by
  unfold fS_nuDiffer
  have h1 := (dif_spec (show x < 2 ^ 63 by omega) (show y < 2 ^ 63 by omega) h).1
  have := nuDiffer_loop fuel hf hx hy h (dif x y) 0 fuel (by omega) (by omega)
  rw [show ((0 : Nat) : Int) = 0 from rfl] at this
  rw [this, sb]
theorem bxor_nat {x y : Nat} (hx : x < 2 ^ 62) (hy : y < 2 ^ 62) : bxor (x : Int) (y : Int) = ((x ^^^ y : Nat) : Int) := by
  have h1 : (BitVec.ofInt 64 (x : Int)).toNat = x := by rw [BitVec.ofInt_natCast, BitVec.toNat_ofNat]; exact Nat.mod_eq_of_lt (by omega)
  have h2 : (BitVec.ofInt 64 (y : Int)).toNat = y := by rw [BitVec.ofInt_natCast, BitVec.toNat_ofNat]; exact Nat.mod_eq_of_lt (by omega)
  have h3 : x ^^^ y < 2 ^ 62 := Nat.xor_lt_two_pow hx hy
  unfold bxor
  rw [BitVec.toNat_xor, h1, h2, IntKind.wrap_i64]
  omega
theorem band_1 {x : Nat} (hx : x < 2 ^ 62) : band (x : Int) 1 = ((x % 2 : Nat) : Int) := by
  have h1 : (BitVec.ofInt 64 (x : Int)).toNat = x := by rw [BitVec.ofInt_natCast, BitVec.toNat_ofNat]; exact Nat.mod_eq_of_lt (by omega)
  have h2 : (BitVec.ofInt 64 (1 : Int)).toNat = 1 := by decide
  unfold band
  rw [BitVec.toNat_and, h1, h2, Nat.and_one_is_mod, IntKind.wrap_i64]
  omega
theorem shrN {x j : Nat} (hj : j < 64) : shr (x : Int) (j : Int) = some ((x / 2 ^ j : Nat) : Int) := by
  unfold shr
  rw [if_neg (by omega), Int.toNat_natCast, Nat.min_eq_left (by omega), Int.fdiv_eq_ediv_of_nonneg _ (Int.le_of_lt (Int.pow_pos (by decide)))]
  norm_cast
theorem div_le' {x j : Nat} : x / 2 ^ j ≤ x := Nat.div_le_self _ _

/-! ### The step -/
theorem ix_cy {l : List Int} {n b : Nat} (h : Col l n b) (i : Nat) : ix l ((i % n : Nat) : Int) = some (cy l i : Int) := by
  obtain ⟨x, h1, h2, _⟩ := h.at' i
  rw [ix_nat, h1, h2]
theorem get_cy {l : List Int} {n b : Nat} (h : Col l n b) {i : Nat} {x : Int} (hx : l[i]? = some x) : x = (cy l i : Int) := by
  have hi := (List.getElem?_eq_some_iff.1 hx).1
  have := ix_cy h i
  rw [h.len] at hi
  rw [Nat.mod_eq_of_lt hi, ix_nat, hx] at this
  exact Option.some.inj this
theorem Col.ne' {l : List Int} {n b : Nat} (h : Col l n b) (i : Nat) : cy l i ≠ cy l (i + 1) := by
  have hn := h.n2
  have hl := h.len
  have := h.ne (i % n) (Nat.mod_lt _ (by omega))
  rw [← hl, cy_mod] at this
  have e : cy l (i % l.length + 1) = cy l (i + 1) := by unfold cy; rw [Nat.mod_add_mod]
  rw [e] at this
  exact this
theorem bitL_take {l : List Int} {j : Nat} (hj : j < l.length) : (bitL l).take (j + 1) = (bitL l).take j ++ [(colF (cy l j) (cy l (j + 1)) : Int)] := by
  unfold bitL mapC
  rw [List.take_add_one, List.getElem?_map, List.getElem?_range hj]
  rfl
theorem colF_small {l : List Int} {n b : Nat} (h : Col l n b) (hb : b ≤ 2 ^ 62) (i : Nat) : cy l i < 2 ^ 62 ∧ cy l (i + 1) < 2 ^ 62 ∧ dif (cy l i) (cy l (i + 1)) < 62 := by
  have h1 := h.lt i
  have h2 := h.lt (i + 1)
  exact ⟨by omega, by omega, dif_lt (by decide) (by omega) (by omega) (h.ne' i)⟩
theorem e_cyBit (fuel : Nat) (hf : 70 ≤ fuel) {l : List Int} {n b : Nat} (h : Col l n b) (hb : b ≤ 2 ^ 62) : fS_cyBit fuel l = some (bitL l) := by
  unfold fS_cyBit
  have hl := h.len
  have hn := h.n2
  have h180 := h.n180
  have := forI_inv0 (ρ := List Int) (body := fS_cyBit_s1 fuel l) (fun j => (bitL l).take j) l (fun j x hx => by
    have hj := (List.getElem?_eq_some_iff.1 hx).1
    have hxe := get_cy h hx
    obtain ⟨c1, c2, c3⟩ := colF_small h hb j
    have hbt := bitOf_lt (cy l j) (dif (cy l j) (cy l (j + 1)))
    subst hxe
    unfold fS_cyBit_s1
    rw [ck_in (by omega) (by omega), sb, show ((j : Int) + 1) = ((j + 1 : Nat) : Int) by omega, rem_nat (by omega), sb, hl, ix_cy h (j + 1), sb, e_nuDiffer fuel hf c1 c2 (h.ne' j), sb, ck_in (by omega) (by omega), sb,
      e_nuBit fuel hf c1 (by omega), sb, ck_in (by omega) (by omega), sb]
    unfold push
    rw [if_pos (by rw [List.length_take]; omega), sb, bitL_take hj]
    unfold colF
    simp)
  simp only [List.take_zero] at this
  rw [this, sb]
  simp only
  rw [List.take_of_length_le (by rw [bitL, mapC_len]; exact Nat.le_refl _)]
theorem e_bitStep {l : List Int} {n b : Nat} (h : Col l n b) (hb : b ≤ 2 ^ 62) : fI_bitStep l = some (bitL l) := by
  unfold fI_bitStep
  have hl := h.len
  have hn := h.n2
  have h180 := h.n180
  have := forI_inv0 (ρ := List Int) (body := fI_bitStep_s1 l) (fun j => (bitL l).take j) l (fun j x hx => by
    have hj := (List.getElem?_eq_some_iff.1 hx).1
    have hxe := get_cy h hx
    obtain ⟨c1, c2, c3⟩ := colF_small h hb j
    have hbt := bitOf_lt (cy l j) (dif (cy l j) (cy l (j + 1)))
    have hx1 : cy l j ^^^ cy l (j + 1) < 2 ^ 62 := Nat.xor_lt_two_pow c1 c2
    have hd : cy l j / 2 ^ dif (cy l j) (cy l (j + 1)) ≤ cy l j := Nat.div_le_self _ _
    subst hxe
    unfold fI_bitStep_s1 ctzI cvU
    rw [ck_in (by omega) (by omega), sb, show ((j : Int) + 1) = ((j + 1 : Nat) : Int) by omega, rem_nat (by omega), sb, hl, ix_cy h (j + 1), sb, bxor_nat c1 c2, if_pos ⟨by omega, by omega⟩, sb, if_pos ⟨by omega, by omega⟩, sb, Int.toNat_natCast,
      show Lib.ctz 64 (cy l j ^^^ cy l (j + 1)) = dif (cy l j) (cy l (j + 1)) from rfl, ck_in (by omega) (by omega), sb, shrN (by omega), sb, band_1 (by omega), show cy l j / 2 ^ dif (cy l j) (cy l (j + 1)) % 2 = bitOf (cy l j) (dif (cy l j) (cy l (j + 1))) from rfl, ck_in (by omega) (by omega), sb]
    unfold push
    rw [if_pos (by rw [List.length_take]; omega), sb, bitL_take hj]
    unfold colF
    simp)
  simp only [List.take_zero] at this
  rw [this, sb]
  simp only
  rw [List.take_of_length_le (by rw [bitL, mapC_len]; exact Nat.le_refl _)]

/-! ### Colours -/
def colP (l : List Int) (j : Nat) (x : Int) : Option Bool := if x = l.getD ((j + 1) % l.length) 0 then some false else none
def colB (l : List Int) : Bool := (inB 2 180 l.length && l.all (inB 0 1000000000000)) && (firstP (colP l) l 0).isNone
theorem colP_res {l xs : List Int} {k : Nat} {r : Bool} (h : firstP (colP l) xs k = some r) : r = false := by
  obtain ⟨j, x, _, h2⟩ := firstP_some h
  unfold colP at h2
  split at h2 <;> cases h2
  rfl
theorem col_round (l : List Int) (hl : l.length ≤ 1048576) (j : Nat) (x : Int) (hj : j < l.length) : fS_cyColours_s1 l j x () = some (lpP (colP l j x)) := by
  unfold fS_cyColours_s1 colP
  have hm : (j + 1) % l.length < l.length := Nat.mod_lt _ (by omega)
  rw [ck_in (by omega) (by omega), sb, show ((j : Int) + 1) = ((j + 1 : Nat) : Int) by omega, rem_nat (by omega), sb, ix_nat, List.getElem?_eq_getElem hm, sb, List.getD_eq_getElem?_getD, List.getElem?_eq_getElem hm]
  simp only [Option.getD_some]
  by_cases e : x = l[(j + 1) % l.length]
  · rw [if_pos (by simpa using e), if_pos e]; rfl
  · rw [if_neg (by simpa using e), if_neg e]; rfl
theorem e_cyLong' (l : List Int) (hl : l.length ≤ 1048576) : fS_cyLong l = some (inB 2 180 l.length) := by
  unfold fS_cyLong
  first
    | rw [e_l1In, sb]; rfl
    | rw [ck_in (by omega) (by omega), sb, e_l1In, sb]; rfl
theorem e_isRing' (l : List Int) (hl : l.length ≤ 1048576) : fI_isRing l = some (inB 2 180 l.length) := by
  unfold fI_isRing
  first
    | rw [e_within, sb]; rfl
    | rw [ck_in (by omega) (by omega), sb, e_within, sb]; rfl
theorem e_cyColours (l : List Int) (hl : l.length ≤ 1048576) : fS_cyColours l = some (colB l) := by
  unfold fS_cyColours colB
  rw [e_cyLong' l hl, sb]
  cases h1 : inB 2 180 (l.length : Int)
  · simp [sb]
  rw [if_neg (by simp), e_l1All, sb, sb]
  cases h2 : l.all (inB 0 1000000000000)
  · simp
  rw [if_neg (by simp), forI_first0 (colP l) l (fun j x hj _ => col_round l hl j x (List.getElem?_eq_some_iff.1 hj).1), sb]
  cases h3 : firstP (colP l) l 0 with
  | none => simp [outP]
  | some r => have := colP_res h3; subst this; simp [outP]
theorem e_areRingColours (l : List Int) (hl : l.length ≤ 1048576) : fI_areRingColours l = some (colB l) := by
  unfold fI_areRingColours colB
  rw [e_isRing' l hl, sb]
  cases h1 : inB 2 180 (l.length : Int)
  · simp [sb]
  rw [if_neg (by simp), e_allWithin _ _ _ (by omega), sb, sb]
  cases h2 : l.all (inB 0 1000000000000)
  · simp
  rw [if_neg (by simp), forI_first0 (body := fI_areRingColours_s1 l) (colP l) l (fun j x hj _ => col_round l hl j x (List.getElem?_eq_some_iff.1 hj).1), sb]
  cases h3 : firstP (colP l) l 0 with
  | none => simp [outP]
  | some r => have := colP_res h3; subst this; simp [outP]
theorem colB_col {l : List Int} (h : colB l = true) : Col l l.length 1000000000001 := by
  unfold colB at h
  simp only [Bool.and_eq_true, Option.isNone_iff_eq_none] at h
  obtain ⟨⟨h1, h2⟩, h3⟩ := h
  have h1 := inB_iff.1 h1
  have hr : ∀ x, x ∈ l → 0 ≤ x ∧ x.toNat < 1000000000001 := fun x hx => by
    have := inB_iff.1 (List.all_eq_true.1 h2 x hx)
    omega
  refine ⟨rfl, by omega, by omega, hr, fun i hi => ?_⟩
  have := firstP_none.1 h3 i _ (List.getElem?_eq_getElem hi)
  rw [Nat.zero_add] at this
  unfold colP at this
  split at this
  · cases this
  · rename_i hne
    have hm : (i + 1) % l.length < l.length := Nat.mod_lt _ (by omega)
    unfold cy
    rw [Nat.mod_eq_of_lt hi]
    rw [List.getD_eq_getElem?_getD, List.getElem?_eq_getElem hi, List.getD_eq_getElem?_getD, List.getElem?_eq_getElem hm]
    rw [List.getD_eq_getElem?_getD, List.getElem?_eq_getElem hm] at hne
    simp only [Option.getD_some] at hne ⊢
    have a1 := (hr _ (List.getElem_mem hi)).1
    have a2 := (hr _ (List.getElem_mem hm)).1
    omega
def bitB (l : List Int) : List Int × Bool := if colB l then (bitL l, true) else ([], false)
theorem e_specBit (fuel : Nat) (hf : 70 ≤ fuel) (l : List Int) (hl : l.length ≤ 1048576) : fS_BitStep fuel l = some (bitB l) := by
  unfold fS_BitStep bitB
  rw [e_cyColours l hl, sb]
  cases h : colB l
  · simp
  · rw [if_neg (by simp), e_cyBit fuel hf (colB_col h) (by decide), sb]; simp
theorem e_implBit (l : List Int) (hl : l.length ≤ 1048576) : fI_BitStep l = some (bitB l) := by
  unfold fI_BitStep bitB
  rw [e_areRingColours l hl, sb]
  cases h : colB l
  · simp
  · rw [if_neg (by simp), e_bitStep (colB_col h) (by decide), sb]; simp
end Go.Proofs.YthhpcledhflapaaDoor
