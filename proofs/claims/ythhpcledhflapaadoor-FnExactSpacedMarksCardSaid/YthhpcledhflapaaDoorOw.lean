/- Windows of identifiers: what both sides compute. -/
import Derived.Test.YthhpcledhflapaaDoorBs
import Derived.Test.YthhpcledhflapaaDoorPd
import Derived.Test.YthhpcledhflapaaDoorPc
import Derived.Test.YthhpcledhflapaaDoorGO
namespace Go.Proofs.YthhpcledhflapaaDoor
set_option linter.unusedSimpArgs false
set_option linter.unusedVariables false

/-! ### Identifiers -/
def idsP (l : List Int) (k : Nat) (x : Int) : Option Bool := if inB 1 999999 x && !decide (x ∈ l.take k) then none else some false
def idsB (l : List Int) : Bool := (firstP (idsP l) l 0).isNone && inB 2 180 (l.length : Int)
theorem idsP_res {l xs : List Int} {k : Nat} {r : Bool} (h : firstP (idsP l) xs k = some r) : r = false := by
  obtain ⟨j, x, _, h2⟩ := firstP_some h
  unfold idsP at h2
  split at h2 <;> cases h2
  rfl
theorem e_cyIds (l : List Int) (hl : l.length ≤ 1048576) : fS_cyIds l = some (idsB l) := by
  unfold fS_cyIds idsB
  rw [forI_first0 (idsP l) l (fun j x hj _ => by
    have hjl := (List.getElem?_eq_some_iff.1 hj).1
    unfold fS_cyIds_s1 idsP
    rw [e_l1In, sb]
    rw [show (decide (1 ≤ x) && decide (x ≤ 999999)) = inB 1 999999 x from rfl]
    cases h : inB 1 999999 x
    · simp [sb, lpP]
    · rw [if_neg (by simp), show cut l 0 (j : Int) = some (l.take j) by unfold cut; rw [if_pos (by omega)]; simp, sb, e_l1Has, sb, sb]
      by_cases hm : x ∈ l.take j
      · simp [hm, lpP]
      · simp [hm, lpP]), sb]
  cases hc : firstP (idsP l) l 0 with
  | none =>
    simp only [outP, Option.isNone_none, Bool.true_and]
    unfold fS_cyLong
    rw [e_l1In, sb, sb]; rfl
  | some r => have := idsP_res hc; subst this; simp [outP]
theorem nodup_take {l : List Int} : l.Nodup ↔ ∀ (j : Nat) x, l[j]? = some x → x ∉ l.take j := by
  rw [List.Nodup, List.pairwise_iff_getElem]
  constructor
  · intro h j x hj hm
    obtain ⟨i, hi, e⟩ := List.mem_take_iff_getElem.1 hm
    have hjl := (List.getElem?_eq_some_iff.1 hj)
    have := h i j (by omega) hjl.1 (by omega)
    exact this (e.trans hjl.2.symm)
  · intro h i j hi hj hij e
    refine h j l[j] (List.getElem?_eq_getElem hj) ?_
    rw [← e]
    exact List.mem_take_iff_getElem.2 ⟨i, by omega, rfl⟩
theorem ids_iff (l : List Int) : firstP (idsP l) l 0 = none ↔ (∀ x, x ∈ l → 1 ≤ x ∧ x ≤ 999999) ∧ l.Nodup := by
  rw [firstP_none, nodup_take]
  have e : ∀ (j : Nat) x, idsP l (0 + j) x = none ↔ (1 ≤ x ∧ x ≤ 999999) ∧ x ∉ l.take j := fun j x => by
    unfold idsP
    rw [Nat.zero_add]
    by_cases h1 : inB 1 999999 x = true
    · have h1' := inB_iff.1 h1
      by_cases h2 : x ∈ l.take j <;> simp [h1, h2, h1']
    · have : ¬ (1 ≤ x ∧ x ≤ 999999) := fun h => h1 (inB_iff.2 h)
      simp [h1, this]
  constructor
  · intro h
    refine ⟨fun x hx => ?_, fun j x hj => ((e j x).1 (h j x hj)).2⟩
    obtain ⟨j, hj⟩ := List.mem_iff_getElem?.1 hx
    exact ((e j x).1 (h j x hj)).1
  · rintro ⟨h1, h2⟩ j x hj
    exact (e j x).2 ⟨h1 x (List.mem_of_getElem? hj), h2 j x hj⟩
theorem ris_srt (l : List Int) : risB (srt l) 1 999999 = (firstP (idsP l) l 0).isNone := by
  rw [Bool.eq_iff_iff, risB_iff, Option.isNone_iff_eq_none, ids_iff]
  have hm : ∀ x, x ∈ srt l ↔ x ∈ l := fun x => (srt_perm l).mem_iff
  constructor
  · rintro ⟨h1, h2⟩
    exact ⟨fun x hx => h1 x ((hm x).2 hx), (srt_perm l).nodup_iff.1 (h2.imp fun h => by omega)⟩
  · rintro ⟨h1, h2⟩
    refine ⟨fun x hx => h1 x ((hm x).1 hx), ?_⟩
    have h3 := (srt_perm l).nodup_iff.2 h2
    exact List.Pairwise.imp₂ (fun a b h1 h2 => by omega) (srt_sorted l) h3
theorem e_idsOk (l : List Int) (n : Int) (hn : n = l.length) (hl : l.length ≤ 1048576) : fI_idsOk l n = some ((firstP (idsP l) l 0).isNone) := by
  unfold fI_idsOk
  by_cases h0 : l = []
  · subst h0; simp [firstP]
  · have : (l.length : Int) ≠ 0 := by intro e; apply h0; exact List.eq_nil_of_length_eq_zero (by omega)
    rw [if_neg (by simpa using this)]
    unfold fX_slices_Clone_int_int
    rw [cat_nil l (by omega), sb, sb]
    unfold srtO
    rw [if_pos (by omega), sb, if_pos (by simp [hn]), e_increasing _ _ _ (by rw [srt_length]; omega), sb, sb, ris_srt]
theorem e_areRingIds (l : List Int) (hl : l.length ≤ 1048576) : fI_areRingIds l = some (idsB l) := by
  unfold fI_areRingIds fI_isRing idsB
  rw [e_within, sb, sb]
  rw [show (decide (2 ≤ (l.length : Int)) && decide ((l.length : Int) ≤ 180)) = inB 2 180 (l.length : Int) from rfl]
  cases h : inB 2 180 (l.length : Int)
  · simp [sb]
  · rw [if_pos rfl, e_idsOk l _ rfl hl, sb, sb]; simp
/-- Identifiers, and a radius that fits. -/
def wideB (l : List Int) (r : Int) : Bool := idsB l && inB 0 180 r && decide (2 * r + 1 ≤ (l.length : Int))
theorem idsB_len {l : List Int} (h : idsB l = true) : 2 ≤ l.length ∧ l.length ≤ 180 := by
  unfold idsB at h
  rw [Bool.and_eq_true] at h
  have := inB_iff.1 h.2
  omega
theorem wideB_iff {l : List Int} {r : Int} (h : wideB l r = true) : idsB l = true ∧ 0 ≤ r ∧ r ≤ 180 ∧ 2 * r + 1 ≤ (l.length : Int) := by
  simp only [wideB, Bool.and_eq_true, decide_eq_true_eq] at h
  have := inB_iff.1 h.1.2
  exact ⟨h.1.1, this.1, this.2, h.2⟩
theorem e_cyWide (l : List Int) (r : Int) (hl : l.length ≤ 1048576) : fS_cyWide l r = some (wideB l r) := by
  unfold fS_cyWide wideB
  rw [e_cyIds l hl, sb]
  cases h : idsB l
  · simp [sb]
  · rw [if_pos rfl, e_l1In, sb]
    rw [show (decide (0 ≤ r) && decide (r ≤ 180)) = inB 0 180 r from rfl]
    cases h2 : inB 0 180 r
    · simp [sb]
    · have := inB_iff.1 h2
      rw [if_pos rfl, ck_in (by omega) (by omega), sb, ck_in (by omega) (by omega), sb, sb]; simp
theorem e_windowOk (l : List Int) (i r : Int) (hl : l.length ≤ 1048576) : fI_windowOk l i r = some (wideB l r && inB 0 ((l.length : Int) - 1) i) := by
  unfold fI_windowOk wideB
  rw [e_areRingIds l hl, sb]
  cases h : idsB l
  · simp [sb]
  · rw [if_pos rfl, ck_in (by omega) (by omega), sb, e_within, sb]
    rw [show (decide (0 ≤ i) && decide (i ≤ (l.length : Int) - 1)) = inB 0 ((l.length : Int) - 1) i from rfl]
    cases h3 : inB 0 ((l.length : Int) - 1) i
    · simp [sb]
    · rw [if_pos rfl, e_within, sb]
      rw [show (decide (0 ≤ r) && decide (r ≤ 180)) = inB 0 180 r from rfl]
      cases h2 : inB 0 180 r
      · simp [sb]
      · have := inB_iff.1 h2
        rw [if_pos rfl, ck_in (by omega) (by omega), sb, ck_in (by omega) (by omega), sb, sb]; simp
/-! ### Windows -/
def nearL (l : List Int) (i r : Nat) : List Int := (List.range (2 * r + 1)).map fun j => l.getD ((i + l.length - r + j) % l.length) 0
def rankL (W : List Int) : List Int := W.map fun x => ((W.countP fun y => decide (y < x) : Nat) : Int)
theorem nearL_length (l : List Int) (i r : Nat) : (nearL l i r).length = 2 * r + 1 := by simp [nearL]
theorem nearL_get {l : List Int} {i r j : Nat} (hj : j < 2 * r + 1) (hl : 0 < l.length) : ix l (((i + l.length - r + j) % l.length : Nat) : Int) = some ((nearL l i r).getD j 0) := by
  have hm : (i + l.length - r + j) % l.length < l.length := Nat.mod_lt _ hl
  rw [ix_lt _ _ hm]
  simp [nearL, hj, List.getElem?_eq_getElem hm]
theorem take_push {W : List Int} {j : Nat} (hj : j < W.length) (hW : W.length ≤ 1000000) : push (W.take j) (W.getD j 0) = some (W.take (j + 1)) := by
  unfold push
  rw [if_pos (by rw [List.length_take]; omega)]
  congr 1
  rw [List.take_add_one, List.getElem?_eq_getElem hj, List.getD_eq_getElem?_getD, List.getElem?_eq_getElem hj]; rfl
theorem spec_near (fuel : Nat) (hf : 1000 ≤ fuel) (l : List Int) (i r : Nat) (hi : i < l.length) (hl : l.length ≤ 180) (hr : 2 * r + 1 ≤ l.length) :
    loopF (fS_cyWindow_s1 l (i : Int) (r : Int)) fuel ([], (i : Int) - r) = some (.inl (nearL l i r, (i : Int) + r + 1)) := by
  have hn := nearL_length l i r
  have := loopF_count (f := fS_cyWindow_s1 l (i : Int) (r : Int)) (fun j => ((nearL l i r).take j, (i : Int) - r + j)) (2 * r + 1) (fun j hj => by
    unfold fS_cyWindow_s1
    simp only
    rw [ck_in (by omega) (by omega), sb, if_pos (by simp; omega), ck_in (by omega) (by omega), sb]
    have e : (i : Int) - r + j + l.length = ((i + l.length - r + j : Nat) : Int) := by omega
    unfold rem
    rw [if_neg (by omega), sb, e, Int.tmod_eq_emod_of_nonneg (by omega), ← Int.natCast_emod, nearL_get hj (by omega), sb, take_push (by omega) (by omega), sb, ck_in (by omega) (by omega), sb]
    congr 3
    omega) (by
    unfold fS_cyWindow_s1
    simp only
    rw [ck_in (by omega) (by omega), sb, if_neg (by simp; omega)]) fuel 0 (by omega) (by omega)
  simp only [List.take_zero] at this
  rw [show (i : Int) - r + ((0 : Nat) : Int) = (i : Int) - r by omega] at this
  rw [this, List.take_of_length_le (by omega), show (i : Int) - r + ((2 * r + 1 : Nat) : Int) = (i : Int) + r + 1 by omega]
theorem impl_near (fuel : Nat) (hf : 1000 ≤ fuel) (l : List Int) (i r : Nat) (hi : i < l.length) (hl : l.length ≤ 180) (hr : 2 * r + 1 ≤ l.length) :
    loopF (fI_orderWindow_s1 l (i : Int) (r : Int)) fuel ([], -(r : Int)) = some (.inl (nearL l i r, (r : Int) + 1)) := by
  have hn := nearL_length l i r
  have := loopF_count (f := fI_orderWindow_s1 l (i : Int) (r : Int)) (fun j => ((nearL l i r).take j, -(r : Int) + j)) (2 * r + 1) (fun j hj => by
    unfold fI_orderWindow_s1
    simp only
    rw [if_pos (by simp; omega), ck_in (by omega) (by omega), sb, ck_in (by omega) (by omega), sb]
    have e : (i : Int) + (-(r : Int) + j) + l.length = ((i + l.length - r + j : Nat) : Int) := by omega
    unfold rem
    rw [if_neg (by omega), sb, e, Int.tmod_eq_emod_of_nonneg (by omega), ← Int.natCast_emod, nearL_get hj (by omega), sb, take_push (by omega) (by omega), sb, ck_in (by omega) (by omega), sb]
    congr 3
    omega) (by
    unfold fI_orderWindow_s1
    simp only
    rw [if_neg (by simp; omega)]) fuel 0 (by omega) (by omega)
  simp only [List.take_zero] at this
  rw [show -(r : Int) + ((0 : Nat) : Int) = -(r : Int) by omega] at this
  rw [this, List.take_of_length_le (by omega), show -(r : Int) + ((2 * r + 1 : Nat) : Int) = (r : Int) + 1 by omega]
theorem cnt_loop (x : Int) : ∀ (xs : List Int) (k : Int) (c : Nat), c + xs.length ≤ 1000000 → forI (fS_cyWindow_s3 x) xs k (c : Int) = some (.inl ((c + xs.countP fun y => decide (y < x) : Nat) : Int))
  | [], k, c, _ => by simp [forI]
  | a :: xs, k, c, h => by
    simp only [List.length_cons] at h
    have e : fS_cyWindow_s3 x k a (c : Int) = some (.go (((if a < x then c + 1 else c : Nat)) : Int)) := by
      unfold fS_cyWindow_s3
      by_cases h : a < x
      · rw [if_pos (by simpa using h), if_pos h, ck_in (by omega) (by omega), sb]; rfl
      · rw [if_neg (by simpa using h), if_neg h]
    simp only [forI, e]
    rw [cnt_loop x xs (k + 1) _ (by split <;> omega), List.countP_cons]
    by_cases h : a < x
    · simp [h]; omega
    · simp [h]
theorem countP_le (x : Int) (l : List Int) : (l.countP fun y => decide (y < x)) ≤ l.length := List.countP_le_length
theorem rank_fold (W : List Int) (hW : W.length ≤ 1000) {body : Int → Int → List Int → Option (Lp (List Int) (List Int) (List Int))}
    (h : ∀ (k : Int) x s, x ∈ W → s.length ≤ 1000000 → body k x s = some (.go (s ++ [((W.countP fun y => decide (y < x) : Nat) : Int)]))) : forI body W 0 [] = some (.inl (rankL W)) := by
  have key : ∀ (xs : List Int) (k : Int) (s : List Int), (∀ x, x ∈ xs → x ∈ W) → s.length + xs.length ≤ 1000000 → forI body xs k s = some (.inl (s ++ xs.map fun x => ((W.countP fun y => decide (y < x) : Nat) : Int))) := by
    intro xs
    induction xs with
    | nil => intro k s _ _; simp [forI]
    | cons x xs ih =>
      intro k s hm hl
      simp only [List.length_cons] at hl
      simp only [forI, h k x s (hm x (by simp)) (by omega)]
      rw [ih (k + 1) _ (fun y hy => hm y (by simp [hy])) (by simp; omega)]
      simp
  rw [key W 0 [] (fun _ h => h) (by simp; omega)]
  simp [rankL]
theorem e_cyWindow (fuel : Nat) (hf : 1000 ≤ fuel) (l : List Int) (i r : Nat) (hi : i < l.length) (hl : l.length ≤ 180) (hr : 2 * r + 1 ≤ l.length) :
    fS_cyWindow fuel l (i : Int) (r : Int) = some (rankL (nearL l i r)) := by
  unfold fS_cyWindow
  have hn := nearL_length l i r
  rw [ck_in (by omega) (by omega), sb, spec_near fuel hf l i r hi hl hr, sb]
  simp only
  rw [rank_fold (nearL l i r) (by omega) (fun k x s hx hs => by
    unfold fS_cyWindow_s2
    have := cnt_loop x (nearL l i r) 0 0 (by omega)
    rw [show ((0 : Nat) : Int) = 0 from rfl] at this
    rw [this, sb, Nat.zero_add]
    simp only
    unfold push
    rw [if_pos (by omega), sb]), sb]
theorem e_orderWindow (fuel : Nat) (hf : 1000 ≤ fuel) (l : List Int) (i r : Nat) (hi : i < l.length) (hl : l.length ≤ 180) (hr : 2 * r + 1 ≤ l.length) :
    fI_orderWindow fuel l (i : Int) (r : Int) = some (rankL (nearL l i r)) := by
  unfold fI_orderWindow
  have hn := nearL_length l i r
  rw [ck_in (by omega) (by omega), sb, impl_near fuel hf l i r hi hl hr, sb]
  simp only
  unfold srtO
  rw [if_pos (by omega), sb, rank_fold (nearL l i r) (by omega) (fun k x s hx hs => by
    unfold fI_orderWindow_s2
    rw [e_BinarySearch fuel _ x (srt_sorted _) (by rw [srt_length]; omega) (by rw [srt_length]; omega), sb, (srt_perm (nearL l i r)).countP_eq]
    simp only
    unfold push
    rw [if_pos (by omega), sb]), sb]
/-! ### The same window -/
theorem win_parts {l : List Int} {i r : Int} (h : wideB l r = true) (h2 : inB 0 ((l.length : Int) - 1) i = true) : ∃ a b : Nat, i = a ∧ r = b ∧ a < l.length ∧ l.length ≤ 180 ∧ 2 * b + 1 ≤ l.length := by
  obtain ⟨h3, h4, h5, h6⟩ := wideB_iff h
  have := inB_iff.1 h2
  have := idsB_len h3
  exact ⟨i.toNat, r.toNat, by omega, by omega, by omega, by omega, by omega⟩
def alikeB (l : List Int) (i r : Nat) : Bool := decide (rankL (nearL l i r) = rankL (nearL l ((i + 1) % l.length) r))
theorem e_Equal (xs ys : List Int) (hl : xs.length ≤ 1000000000) (hy : ys.length ≤ 1000000000) : fX_slices_Equal_int_int xs ys = some (decide (xs = ys)) := by
  unfold fX_slices_Equal_int_int
  by_cases h : xs.length = ys.length
  · rw [if_neg (by simp [h]), ck_in (by omega) (by omega), sb]
    simp only [Int.toNat_natCast]
    rw [forN_first0 (fun k x => if x = ys.getD k 0 then none else some false) xs (fun j x hj _ => by
      have hjl := (List.getElem?_eq_some_iff.1 hj).1
      unfold fX_slices_Equal_int_int_s1
      rw [ix_nat, hj, sb, ix_lt _ _ (show j < ys.length by omega), sb]
      have : ys.getD j 0 = ys[j]'(by omega) := by simp [List.getElem?_eq_getElem (show j < ys.length by omega)]
      simp only [this]
      by_cases e : x = ys[j]'(by omega)
      · simp [e, lpP]
      · simp [e, lpP]), sb]
    cases hc : firstP (fun k x => if x = ys.getD k 0 then none else some false) xs 0 with
    | none =>
      have : xs = ys := by
        refine List.ext_getElem h fun j h1 h2 => ?_
        have := firstP_none.1 hc j _ (List.getElem?_eq_getElem h1)
        rw [Nat.zero_add] at this
        split at this
        · rename_i e; rw [e]; simp [List.getElem?_eq_getElem h2]
        · cases this
      simp [outP, this]
    | some r =>
      obtain ⟨j, x, h1, h2⟩ := firstP_some hc
      rw [Nat.zero_add] at h2
      split at h2
      · cases h2
      · rename_i e
        cases h2
        have : xs ≠ ys := by
          intro e2; subst e2
          apply e; simp [h1]
        simp [outP, this]
  · have : xs ≠ ys := fun e => h (by rw [e])
    rw [if_pos (by simp; omega)]; simp [this]
theorem e_cyAlike (fuel : Nat) (hf : 1000 ≤ fuel) (l : List Int) (i r : Nat) (hi : i < l.length) (hl : l.length ≤ 180) (hr : 2 * r + 1 ≤ l.length) : fS_cyAlike fuel l (i : Int) (r : Int) = some (alikeB l i r) := by
  unfold fS_cyAlike alikeB
  have hm : (i + 1) % l.length < l.length := Nat.mod_lt _ (by omega)
  have e : (((i : Int) + 1).tmod (l.length : Int)) = (((i + 1) % l.length : Nat) : Int) := by
    rw [Int.tmod_eq_emod_of_nonneg (by omega), Int.natCast_emod, Int.natCast_add]; rfl
  rw [e_cyWindow fuel hf l i r hi hl hr, sb, ck_in (by omega) (by omega), sb]
  unfold rem
  rw [if_neg (by omega), sb, e, e_cyWindow fuel hf l _ r hm hl hr, sb, e_l1Same _ _ (by simp [rankL, nearL_length]; omega), sb]
theorem e_sameOrder (fuel : Nat) (hf : 1000 ≤ fuel) (l : List Int) (i r : Nat) (hi : i < l.length) (hl : l.length ≤ 180) (hr : 2 * r + 1 ≤ l.length) : fI_sameOrder fuel l (i : Int) (r : Int) = some (alikeB l i r) := by
  unfold fI_sameOrder alikeB
  have hm : (i + 1) % l.length < l.length := Nat.mod_lt _ (by omega)
  have e : (((i : Int) + 1).tmod (l.length : Int)) = (((i + 1) % l.length : Nat) : Int) := by
    rw [Int.tmod_eq_emod_of_nonneg (by omega), Int.natCast_emod, Int.natCast_add]; rfl
  rw [e_orderWindow fuel hf l i r hi hl hr, sb, ck_in (by omega) (by omega), sb]
  unfold rem
  rw [if_neg (by omega), sb, e, e_orderWindow fuel hf l _ r hm hl hr, sb, e_Equal _ _ (by simp [rankL, nearL_length]; omega) (by simp [rankL, nearL_length]; omega), sb]
end Go.Proofs.YthhpcledhflapaaDoor
