/- Filling a cycle between marks: what both sides compute; the calls as the law makes them. -/
import Derived.Test.YtabclfacjaeblaaFa
import Derived.Test.YtabclfacjaeblaaAd
namespace Go.Proofs.Ytabclfacjaeblaa
open Go.RowKit
set_option linter.unusedSimpArgs false
set_option linter.unusedVariables false

/-- A loop with a known state that may end early. -/
theorem forI_firstQ {α σ ρ : Type} {body : Int → α → σ → Option (Lp σ σ ρ)} (R : Nat → σ) (p : Nat → α → Option ρ) : ∀ (xs : List α) (k : Nat),
    (∀ (j : Nat) x, xs[j]? = some x → body ((k + j : Nat) : Int) x (R (k + j)) = match p (k + j) x with
      | none => some (.go (R (k + j + 1)))
      | some r => some (.ret r)) →
    forI body xs (k : Int) (R k) = match firstP p xs k with
      | none => some (.inl (R (k + xs.length)))
      | some r => some (.inr r)
  | [], k, h => rfl
  | x :: xs, k, h => by
    have h0 := h 0 x rfl
    simp only [Nat.add_zero] at h0
    cases hp : p k x with
    | some r =>
      rw [hp] at h0
      simp only [forI, h0, firstP, hp]
    | none =>
      rw [hp] at h0
      simp only [forI, h0, firstP, hp]
      rw [show ((k : Int) + 1) = ((k + 1 : Nat) : Int) by omega]
      rw [forI_firstQ R p xs (k + 1) (fun j y hj => by have := h (j + 1) y (by simpa using hj); rw [show k + (j + 1) = k + 1 + j by omega] at this; exact this)]
      rw [List.length_cons, show k + 1 + xs.length = k + (xs.length + 1) by omega]
def mkN (M : List Int) (j : Nat) : Nat := (M.getD j 0).toNat
def gpN (k : Nat) (M : List Int) (j : Nat) : Nat := (if j + 1 < M.length then mkN M (j + 1) else mkN M 0 + k) - mkN M j
structure MK (k : Nat) (M : List Int) : Prop where
  k2 : 2 ≤ k ∧ k ≤ 180
  ne : 1 ≤ M.length
  at_ : ∀ j, j < M.length → M[j]? = some (mkN M j : Int)
  lt : ∀ j, j < M.length → mkN M j < k
  mono : ∀ i j, i < j → j < M.length → mkN M i < mkN M j
theorem MK.of {k : Nat} {M : List Int} (h1 : 2 ≤ k ∧ k ≤ 180) (h2 : 1 ≤ M.length) (h3 : risB M 0 ((k : Int) - 1) = true) : MK k M := by
  obtain ⟨h4, h5⟩ := risB_iff.1 h3
  have hat : ∀ j, j < M.length → M[j]? = some (mkN M j : Int) ∧ mkN M j < k := fun j hj => by
    have hb := h4 M[j] (List.getElem_mem hj)
    have e : M[j]? = some M[j] := List.getElem?_eq_getElem hj
    have e2 : mkN M j = M[j].toNat := by unfold mkN; rw [List.getD_eq_getElem?_getD, e]; rfl
    rw [e, e2]
    exact ⟨by congr 1; omega, by omega⟩
  refine ⟨h1, h2, fun j hj => (hat j hj).1, fun j hj => (hat j hj).2, fun i j hij hj => ?_⟩
  have hp := List.pairwise_iff_getElem.1 h5 i j (by omega) hj hij
  have e1 := (hat i (by omega)).1
  have e2 := (hat j hj).1
  rw [List.getElem?_eq_getElem (by omega)] at e1 e2
  simp only [Option.some.injEq] at e1 e2
  omega
section
variable {k : Nat} {M : List Int}
theorem MK.gap (h : MK k M) {j : Nat} (hj : j < M.length) : 1 ≤ gpN k M j ∧ gpN k M j ≤ k ∧ mkN M j + gpN k M j = (if j + 1 < M.length then mkN M (j + 1) else mkN M 0 + k) := by
  have h1 := h.lt j hj
  unfold gpN
  split
  · rename_i hh
    have h2 := h.mono j (j + 1) (by omega) hh
    have h3 := h.lt (j + 1) hh
    omega
  · have h0 : mkN M 0 ≤ mkN M j := by
      by_cases e : j = 0
      · rw [e]; exact Nat.le_refl _
      · exact Nat.le_of_lt (h.mono 0 j (by omega) hj)
    omega
theorem MK.ix (h : MK k M) {j : Nat} (hj : j < M.length) : Go.Proofs.Ytabclfacjaeblaa.ix M (j : Int) = some (mkN M j : Int) := by rw [ix_nat, h.at_ j hj]
end
def gapsL (k : Nat) (M : List Int) : List Int := (List.range M.length).map fun j => ((gpN k M j : Nat) : Int)
theorem gapsL_get {k : Nat} {M : List Int} {j : Nat} {x : Int} (h : (gapsL k M)[j]? = some x) : j < M.length ∧ x = (gpN k M j : Nat) := by
  have hl := (List.getElem?_eq_some_iff.1 h).1
  simp only [gapsL, List.length_map, List.length_range] at hl
  refine ⟨hl, ?_⟩
  simp only [gapsL, List.getElem?_map, List.getElem?_range hl, Option.map_some, Option.some.injEq] at h
  exact h.symm
theorem e_cyGaps (k : Nat) (M : List Int) (h : MK k M) (hl : M.length ≤ 1048576) : fS_cyGaps (k : Int) M = some (gapsL k M) := by
  unfold fS_cyGaps
  have := forI_inv0 (body := fS_cyGaps_s1 (k : Int) M) (fun j => (List.range j).map fun j => ((gpN k M j : Nat) : Int)) M (fun j x hj => by
    have hjl := (List.getElem?_eq_some_iff.1 hj).1
    have hx : x = (mkN M j : Int) := by rw [h.at_ j hjl] at hj; exact (Option.some.inj hj).symm
    obtain ⟨g1, g2, g3⟩ := h.gap hjl
    have b1 := h.lt j hjl
    have b0 := h.lt 0 h.ne
    have hk := h.k2
    subst hx
    unfold fS_cyGaps_s1
    have hpush : ∀ y : Int, y = (gpN k M j : Nat) → push ((List.range j).map fun j => ((gpN k M j : Nat) : Int)) y = some ((List.range (j + 1)).map fun j => ((gpN k M j : Nat) : Int)) := fun y hy => by
      unfold push
      rw [if_pos (by simp; omega), List.range_succ, List.map_append, hy]; rfl
    rw [ck_in (by omega) (by omega), sb]
    by_cases hn : j + 1 < M.length
    · rw [if_pos hn] at g3
      have b2 := h.lt (j + 1) hn
      have hi := h.ix hn
      rw [if_pos (by simp; omega), sb, show (j : Int) + 1 = ((j + 1 : Nat) : Int) by omega, hi, sb, ck_in (by omega) (by omega), sb, hpush _ (by omega), sb]
    · rw [if_neg hn] at g3
      have hi := h.ix h.ne
      rw [if_neg (by simp; omega), show (0 : Int) = ((0 : Nat) : Int) from rfl, hi, sb, ck_in (by omega) (by omega), sb, ck_in (by omega) (by omega), sb, hpush _ (by omega), sb])
  rw [show ((List.range 0).map fun j => ((gpN k M j : Nat) : Int)) = [] from rfl] at this
  rw [this, sb]; rfl
theorem e_gapsOf (k : Nat) (M : List Int) (h : MK k M) (hl : M.length ≤ 1048576) : fI_gapsOf (k : Int) M = some (gapsL k M) := by
  unfold fI_gapsOf
  have := forI_inv0 (body := fI_gapsOf_s1 (k : Int) M) (fun j => (List.range j).map fun j => ((gpN k M j : Nat) : Int)) M (fun j x hj => by
    have hjl := (List.getElem?_eq_some_iff.1 hj).1
    have hx : x = (mkN M j : Int) := by rw [h.at_ j hjl] at hj; exact (Option.some.inj hj).symm
    obtain ⟨g1, g2, g3⟩ := h.gap hjl
    have b1 := h.lt j hjl
    have b0 := h.lt 0 h.ne
    have hk := h.k2
    subst hx
    unfold fI_gapsOf_s1
    have hpush : ∀ y : Int, y = (gpN k M j : Nat) → push ((List.range j).map fun j => ((gpN k M j : Nat) : Int)) y = some ((List.range (j + 1)).map fun j => ((gpN k M j : Nat) : Int)) := fun y hy => by
      unfold push
      rw [if_pos (by simp; omega), List.range_succ, List.map_append, hy]; rfl
    have hi0 := h.ix h.ne
    rw [show ((0 : Nat) : Int) = 0 from rfl] at hi0
    rw [hi0, sb, ck_in (by omega) (by omega), sb, ck_in (by omega) (by omega), sb]
    by_cases hn : j + 1 < M.length
    · rw [if_pos hn] at g3
      have b2 := h.lt (j + 1) hn
      have hi := h.ix hn
      rw [if_pos (by simp; omega), sb, show (j : Int) + 1 = ((j + 1 : Nat) : Int) by omega, hi, sb, ck_in (by omega) (by omega), sb, hpush _ (by omega), sb]
    · rw [if_neg hn] at g3
      rw [if_neg (by simp; omega), ck_in (by omega) (by omega), sb, hpush _ (by omega), sb])
  rw [show ((List.range 0).map fun j => ((gpN k M j : Nat) : Int)) = [] from rfl] at this
  rw [this, sb]; rfl
/-! ### Writing a walk into a ring -/
def wrN (k m : Nat) (S l : List Int) : Nat → List Int
  | 0 => S
  | j + 1 => (wrN k m S l j).set ((m + j) % k) (l.getD j 0)
theorem wrN_len (k m : Nat) (S l : List Int) : ∀ j, (wrN k m S l j).length = S.length
  | 0 => rfl
  | j + 1 => by rw [wrN, List.length_set, wrN_len k m S l j]
theorem wrN_from {k m : Nat} {S S' l : List Int} (h : wrN k m S l 1 = wrN k m S' l 1) : ∀ j, wrN k m S l (j + 1) = wrN k m S' l (j + 1)
  | 0 => h
  | j + 1 => by rw [wrN, wrN_from h j, ← wrN]
theorem wrN_keep {k m q : Nat} {S l : List Int} (i : Nat) : ∀ d, (∀ t, i ≤ t → t < i + d → (m + t) % k ≠ q) → (wrN k m S l (i + d))[q]? = (wrN k m S l i)[q]?
  | 0, _ => rfl
  | d + 1, h => by
    rw [← Nat.add_assoc, wrN, List.getElem?_set_ne (h (i + d) (by omega) (by omega)), wrN_keep i d fun t h1 h2 => h t h1 (by omega)]
theorem mod_ne {k q t : Nat} (hq : q < k) (h1 : q < t) (h2 : t < q + k) : t % k ≠ q := by
  by_cases e : t < k
  · rw [Nat.mod_eq_of_lt e]; omega
  · rw [Nat.mod_eq_sub_mod (by omega), Nat.mod_eq_of_lt (by omega)]; omega
theorem set_noop {l : List Int} {i : Nat} {a : Int} (h : l[i]? = some a) : l.set i a = l := by
  obtain ⟨hi, rfl⟩ := List.getElem?_eq_some_iff.1 h
  exact List.set_getElem_self hi
theorem rem_nat (a k : Nat) (h : 0 < k) : rem (a : Int) (k : Int) = some ((a % k : Nat) : Int) := by
  unfold rem
  rw [if_neg (by omega), Int.tmod_eq_emod_of_nonneg (by omega)]; rfl
def wlk (p : T_WalkProblem) (n a k : Nat) (M : List Int) (j : Nat) : List Int := wbL p n a a (gpN k M j)
def spR (p : T_WalkProblem) (n a k : Nat) (M : List Int) : Nat → List Int
  | 0 => List.replicate k 0
  | j + 1 => wrN k (mkN M j) (spR p n a k M j) (wlk p n a k M j) (wlk p n a k M j).length
def imR (p : T_WalkProblem) (n a k : Nat) (M : List Int) : Nat → List Int
  | 0 => List.replicate k 0
  | j + 1 => wrN k (mkN M j) (imR p n a k M j) (wlk p n a k M j) (gpN k M j)
theorem spR_len (p : T_WalkProblem) (n a k : Nat) (M : List Int) : ∀ j, (spR p n a k M j).length = k
  | 0 => by simp [spR]
  | j + 1 => by rw [spR, wrN_len, spR_len p n a k M j]
theorem imR_len (p : T_WalkProblem) (n a k : Nat) (M : List Int) : ∀ j, (imR p n a k M j).length = k
  | 0 => by simp [imR]
  | j + 1 => by rw [imR, wrN_len, imR_len p n a k M j]
def okG (p : T_WalkProblem) (n a : Nat) (g : Int) : Bool := (pwF (aftF p.Arcs) n a g.toNat).testBit a
def fillP (p : T_WalkProblem) (n a : Nat) (_ : Nat) (g : Int) : Option (List Int × Bool) := if okG p n a g then none else some ([], false)
theorem wlk_facts (p : T_WalkProblem) (n a k : Nat) (M : List Int) (h : okArcs n p.Arcs) (ha : a < n) (j : Nat) (hok : okG p n a (gpN k M j : Nat) = true) :
    (wlk p n a k M j).length = gpN k M j + 1 ∧ (wlk p n a k M j).getD 0 0 = (a : Int) ∧ (wlk p n a k M j).getD (gpN k M j) 0 = (a : Int) := by
  unfold okG at hok
  rw [Int.toNat_natCast] at hok
  obtain ⟨h1, h2⟩ := wk_facts (aftF_lt h) ha (gpN k M j) a ha hok
  unfold wlk wbL
  rw [if_pos hok]
  refine ⟨by simp [toI, h1], rfl, ?_⟩
  have : (a : Int) :: toI (wk (aftF p.Arcs) n a (gpN k M j) a) = toI (a :: wk (aftF p.Arcs) n a (gpN k M j) a) := rfl
  rw [this]
  unfold toI
  have hlt : gpN k M j < (a :: wk (aftF p.Arcs) n a (gpN k M j) a).length := by simp [h1]
  rw [List.getD_eq_getElem?_getD, List.getElem?_eq_getElem hlt] at h2
  rw [List.getD_eq_getElem?_getD, List.getElem?_map, List.getElem?_eq_getElem hlt]
  simp only [Option.getD_some] at h2
  simp [h2]
theorem rings (p : T_WalkProblem) (n a k : Nat) (M : List Int) (h : okArcs n p.Arcs) (ha : a < n) (hM : MK k M) (hok : ∀ j, j < M.length → okG p n a (gpN k M j : Nat) = true) : ∀ j, j ≤ M.length →
    (j = 0 → spR p n a k M j = imR p n a k M j) ∧ (1 ≤ j → spR p n a k M j = (imR p n a k M j).set (if j < M.length then mkN M j else mkN M 0) (a : Int) ∧ (imR p n a k M j)[mkN M 0]? = some (a : Int))
  | 0, _ => ⟨fun _ => rfl, fun h => by omega⟩
  | j + 1, hj => by
    have hjl : j < M.length := by omega
    obtain ⟨ih1, ih2⟩ := rings p n a k M h ha hM hok j (by omega)
    obtain ⟨w1, w2, w3⟩ := wlk_facts p n a k M h ha j (hok j hjl)
    obtain ⟨g1, g2, g3⟩ := hM.gap hjl
    have hk := hM.k2
    have hmj := hM.lt j hjl
    have hm0 := hM.lt 0 hM.ne
    refine ⟨fun e => by omega, fun _ => ⟨?_, ?_⟩⟩
    · have hone : wrN k (mkN M j) (spR p n a k M j) (wlk p n a k M j) 1 = wrN k (mkN M j) (imR p n a k M j) (wlk p n a k M j) 1 := by
        by_cases e : j = 0
        · rw [ih1 e]
        · rw [(ih2 (by omega)).1, if_pos hjl]
          simp only [wrN, Nat.add_zero]
          rw [Nat.mod_eq_of_lt hmj, w2, List.set_set]
      have hpos : (mkN M j + gpN k M j) % k = if j + 1 < M.length then mkN M (j + 1) else mkN M 0 := by
        rw [g3]
        split
        · rename_i hh; exact Nat.mod_eq_of_lt (hM.lt _ hh)
        · rw [Nat.add_mod_right, Nat.mod_eq_of_lt hm0]
      obtain ⟨g, hg⟩ : ∃ g, gpN k M j = g + 1 := ⟨gpN k M j - 1, by omega⟩
      rw [spR, w1, wrN, hpos, w3, imR, hg, wrN_from hone g]
    · rw [imR]
      by_cases e : j = 0
      · subst e
        obtain ⟨g, hg⟩ : ∃ g, gpN k M 0 = 1 + g := ⟨gpN k M 0 - 1, by omega⟩
        rw [hg, wrN_keep 1 g fun t h1 h2 => mod_ne hm0 (by omega) (by omega)]
        simp only [wrN, Nat.add_zero]
        rw [Nat.mod_eq_of_lt hm0, w2, List.getElem?_set_self (by rw [imR_len]; exact hm0)]
      · have hlt := hM.mono 0 j (by omega) hjl
        have hle : mkN M j + gpN k M j ≤ mkN M 0 + k := by
          rw [g3]
          split
          · rename_i hh; have := hM.lt _ hh; omega
          · exact Nat.le_refl _
        have := wrN_keep (S := imR p n a k M j) (l := wlk p n a k M j) (k := k) (m := mkN M j) (q := mkN M 0) 0 (gpN k M j) fun t h1 h2 => mod_ne hm0 (by omega) (by omega)
        rw [Nat.zero_add] at this
        rw [this]
        exact (ih2 (by omega)).2
theorem rings_end (p : T_WalkProblem) (n a k : Nat) (M : List Int) (h : okArcs n p.Arcs) (ha : a < n) (hM : MK k M) (hok : ∀ j, j < M.length → okG p n a (gpN k M j : Nat) = true) : spR p n a k M M.length = imR p n a k M M.length := by
  obtain ⟨h1, h2⟩ := (rings p n a k M h ha hM hok M.length (Nat.le_refl _)).2 hM.ne
  rw [h1, if_neg (Nat.lt_irrefl _)]
  exact set_noop h2
/-! ### The loops -/
def fillB (p : T_WalkProblem) (n a k : Nat) (M : List Int) : List Int × Bool := match firstP (fillP p n a) (gapsL k M) 0 with
  | none => (imR p n a k M M.length, true)
  | some r => r
theorem mk_zero (k : Nat) (h : k ≤ 180) : mk (Rz.z : Int) (k : Int) = some (List.replicate k 0) := by
  unfold mk
  rw [if_pos (by omega), Int.toNat_natCast]; rfl
theorem ix_in {S : List Int} {q : Nat} (h : q < S.length) : ∃ y, ix S (q : Int) = some y := by rw [ix_nat]; exact ⟨_, List.getElem?_eq_getElem h⟩
theorem e_cyFill (n a k fuel : Nat) (p : T_WalkProblem) (hw : walkB p = true) (hp : p.Labels = n) (hn : n ≤ 12) (h : okArcs n p.Arcs) (hJ : p.Arcs.length ≤ 1000000000) (ha : a < n) (M : List Int) (hM : MK k M) (hl : M.length ≤ 1048576) (hf : 2000 ≤ fuel) :
    fS_cyFill fuel p (a : Int) (k : Int) M = some (fillB p n a k M) := by
  have hk := hM.k2
  unfold fS_cyFill
  rw [mk_zero k hk.2, sb, e_cyGaps k M hM hl, sb]
  have loop := forI_firstQ (body := fS_cyFill_s1 fuel p (a : Int) (k : Int) M) (spR p n a k M) (fillP p n a) (gapsL k M) 0 (fun j x hj => by
    rw [Nat.zero_add]
    obtain ⟨hjl, rfl⟩ := gapsL_get hj
    obtain ⟨g1, g2, g3⟩ := hM.gap hjl
    have hwb : fS_WalkBetween fuel p (a : Int) (a : Int) ((gpN k M j : Nat) : Int) = some (wlk p n a k M j, okG p n a ((gpN k M j : Nat) : Int)) := by
      unfold fS_WalkBetween
      have hin : inB 0 (p.Labels - 1) (a : Int) = true := inB_if.2 (by omega)
      rw [e_waGood p hJ, sb, hw, if_neg (by simp), ck_in (by omega) (by omega), sb, e_l1All, sb]
      simp only [List.all_cons, List.all_nil, hin, Bool.and_self, Bool.not_true, Bool.false_eq_true, if_false]
      rw [e_l1In, sb, show (decide ((0 : Int) ≤ ((gpN k M j : Nat) : Int)) && decide (((gpN k M j : Nat) : Int) ≤ 199)) = true by simp; omega, sb, if_neg (by simp), e_waBetween n a a _ fuel p hp (by omega) h ha ha (by omega) hf, sb]
      simp only [wlk, okG, Int.toNat_natCast]
    unfold fS_cyFill_s1 fillP
    rw [hwb, sb]
    cases hok : okG p n a ((gpN k M j : Nat) : Int)
    · simp
    · obtain ⟨w1, w2, w3⟩ := wlk_facts p n a k M h ha j hok
      simp only [Bool.not_true, Bool.false_eq_true, if_false, if_true]
      have := forI_inv0 (body := fS_cyFill_s2 (k : Int) M (j : Int)) (wrN k (mkN M j) (spR p n a k M j) (wlk p n a k M j)) (wlk p n a k M j) (fun i y hi => by
        have hil := (List.getElem?_eq_some_iff.1 hi).1
        have hq : (mkN M j + i) % k < (wrN k (mkN M j) (spR p n a k M j) (wlk p n a k M j) i).length := by rw [wrN_len, spR_len]; exact Nat.mod_lt _ (by omega)
        obtain ⟨z, hz⟩ := ix_in hq
        have hb := hM.lt j hjl
        have hy : (wlk p n a k M j).getD i 0 = y := by rw [List.getD_eq_getElem?_getD, hi]; rfl
        unfold fS_cyFill_s2
        rw [hM.ix hjl, sb, ck_in (by omega) (by omega), sb, show ((mkN M j : Nat) : Int) + (i : Int) = ((mkN M j + i : Nat) : Int) by omega, rem_nat _ _ (by omega), sb, hz, sb, st_nat _ _ _ hq, sb, wrN, hy])
      rw [show wrN k (mkN M j) (spR p n a k M j) (wlk p n a k M j) 0 = spR p n a k M j from rfl] at this
      rw [this, sb]
      rfl)
  rw [show spR p n a k M 0 = List.replicate k 0 from rfl, show ((0 : Nat) : Int) = 0 from rfl] at loop
  rw [loop]
  unfold fillB
  cases hc : firstP (fillP p n a) (gapsL k M) 0 with
  | some r => rfl
  | none =>
    rw [sb]
    have hall : ∀ j, j < M.length → okG p n a (gpN k M j : Nat) = true := fun j hj => by
      have := firstP_none.1 hc j ((gpN k M j : Nat) : Int) (by simp [gapsL, hj])
      unfold fillP at this
      split at this
      · assumption
      · cases this
    simp only [gapsL, List.length_map, List.length_range, Nat.zero_add]
    rw [rings_end p n a k M h ha hM hall]
theorem e_implFill (n a k fuel : Nat) (p : T_WalkProblem) (hp : p.Labels = n) (hn : n ≤ 12) (h : okArcs n p.Arcs) (ha : a < n) (M : List Int) (hM : MK k M) (hl : M.length ≤ 1048576) (hf : 2000 ≤ fuel) :
    forI (fI_FillCycle_s1 fuel p (a : Int) (k : Int) M) (gapsL k M) 0 (List.replicate k 0) = match firstP (fillP p n a) (gapsL k M) 0 with
      | none => some (.inl (imR p n a k M M.length))
      | some r => some (.inr r) := by
  have hk := hM.k2
  have loop := forI_firstQ (body := fI_FillCycle_s1 fuel p (a : Int) (k : Int) M) (imR p n a k M) (fillP p n a) (gapsL k M) 0 (fun j x hj => by
    rw [Nat.zero_add]
    obtain ⟨hjl, rfl⟩ := gapsL_get hj
    obtain ⟨g1, g2, g3⟩ := hM.gap hjl
    unfold fI_FillCycle_s1 fillP
    rw [e_walkBetween n a a _ fuel p hp (by omega) h ha ha (by omega) hf, sb]
    cases hok : okG p n a ((gpN k M j : Nat) : Int)
    · have : wbL p n a a (gpN k M j) = [] := by
        unfold okG at hok
        rw [Int.toNat_natCast] at hok
        unfold wbL
        rw [hok]; rfl
      rw [this]; simp
    · obtain ⟨w1, w2, w3⟩ := wlk_facts p n a k M h ha j hok
      have hne : (wbL p n a a (gpN k M j)).isEmpty = false := by
        have : (wbL p n a a (gpN k M j)).length = gpN k M j + 1 := w1
        cases hb : wbL p n a a (gpN k M j) with
        | nil => rw [hb] at this; simp at this
        | cons _ _ => rfl
      rw [hne]
      simp only [Bool.false_eq_true, if_false, if_true]
      rw [ck_in (by omega) (by omega), sb, Int.toNat_natCast]
      have := forN_inv0 (body := fI_FillCycle_s2 (k : Int) M (j : Int) (wbL p n a a (gpN k M j))) (wrN k (mkN M j) (imR p n a k M j) (wlk p n a k M j)) (gpN k M j) (fun i hi => by
        have hq : (mkN M j + i) % k < (wrN k (mkN M j) (imR p n a k M j) (wlk p n a k M j) i).length := by rw [wrN_len, imR_len]; exact Nat.mod_lt _ (by omega)
        obtain ⟨z, hz⟩ := ix_in hq
        have hb := hM.lt j hjl
        have hil : i < (wbL p n a a (gpN k M j)).length := by
          have : (wbL p n a a (gpN k M j)).length = gpN k M j + 1 := w1
          omega
        have hy : ix (wbL p n a a (gpN k M j)) (i : Int) = some ((wlk p n a k M j).getD i 0) := by
          rw [ix_nat, List.getElem?_eq_getElem hil, List.getD_eq_getElem?_getD]
          unfold wlk
          rw [List.getElem?_eq_getElem hil]; rfl
        unfold fI_FillCycle_s2
        rw [hM.ix hjl, sb, ck_in (by omega) (by omega), sb, show ((mkN M j : Nat) : Int) + (i : Int) = ((mkN M j + i : Nat) : Int) by omega, rem_nat _ _ (by omega), sb, hy, sb, hz, sb, st_nat _ _ _ hq, sb, wrN])
      rw [show wrN k (mkN M j) (imR p n a k M j) (wlk p n a k M j) 0 = imR p n a k M j from rfl] at this
      rw [this, sb]
      rfl)
  rw [show imR p n a k M 0 = List.replicate k 0 from rfl, show ((0 : Nat) : Int) = 0 from rfl] at loop
  rw [loop]
  cases hc : firstP (fillP p n a) (gapsL k M) 0 with
  | some r => rfl
  | none => simp only [gapsL, List.length_map, List.length_range, Nat.zero_add]
/-! ### The whole -/
def marksB (k : Int) (M : List Int) : Bool := inB 2 180 k && decide (1 ≤ M.length) && risB M 0 (k - 1)
def fiB (p : T_WalkProblem) (a k : Int) (M : List Int) : List Int × Bool :=
  if walkB p && inB 0 (p.Labels - 1) a && marksB k M then fillB p p.Labels.toNat a.toNat k.toNat M else ([], false)
theorem e_cyMarks (k : Int) (M : List Int) (hl : M.length ≤ 1048576) : fS_cyMarks k M = some (marksB k M) := by
  unfold fS_cyMarks marksB
  rw [e_l1In, sb, show (decide (2 ≤ k) && decide (k ≤ 180)) = inB 2 180 k from rfl]
  cases hb : inB 2 180 k
  · simp [sb]
  · have := inB_if.1 hb
    by_cases hz : 1 ≤ M.length
    · rw [if_pos rfl, if_pos (by simp; omega), ck_in (by omega) (by omega), sb, e_l1Rising _ _ _ (by omega), sb, sb, decide_eq_true hz]; simp
    · rw [if_pos rfl, if_neg (by simp only [decide_eq_true_eq]; omega), sb, decide_eq_false hz]; simp
theorem e_marksOk (k : Int) (M : List Int) (hl : M.length ≤ 1048576) : fI_marksOk k M = some (marksB k M) := by
  unfold fI_marksOk marksB
  rw [e_within, sb, show (decide (2 ≤ k) && decide (k ≤ 180)) = inB 2 180 k from rfl]
  cases hb : inB 2 180 k
  · simp [sb]
  · have := inB_if.1 hb
    by_cases hz : 1 ≤ M.length
    · rw [if_pos rfl, if_pos (by simp; omega), ck_in (by omega) (by omega), sb, e_increasing _ _ _ (by omega), sb, sb, decide_eq_true hz]; simp
    · rw [if_pos rfl, if_neg (by simp only [decide_eq_true_eq]; omega), sb, decide_eq_false hz]; simp
theorem MK.ofB {k : Int} {M : List Int} (h : marksB k M = true) : k = (k.toNat : Int) ∧ MK k.toNat M := by
  simp only [marksB, Bool.and_eq_true, decide_eq_true_eq] at h
  obtain ⟨⟨h1, h2⟩, h3⟩ := h
  have := inB_if.1 h1
  have hk : k = (k.toNat : Int) := by omega
  refine ⟨hk, MK.of (by omega) h2 ?_⟩
  rw [← hk]; exact h3
theorem e_specFi (fuel : Nat) (hf : 2000 ≤ fuel) (p : T_WalkProblem) (a k : Int) (M : List Int) (hJ : p.Arcs.length ≤ 1000000000) (hl : M.length ≤ 1048576) : fS_FillCycle fuel p a k M = some (fiB p a k M) := by
  unfold fS_FillCycle fiB
  rw [e_waGood p hJ, sb]
  cases h : walkB p
  · simp [sb]
  · obtain ⟨w1, w2, w3, w4⟩ := okArcs_of h
    rw [if_neg (by simp), ck_in (by omega) (by omega), sb, e_l1In, sb, show (decide (0 ≤ a) && decide (a ≤ p.Labels - 1)) = inB 0 (p.Labels - 1) a from rfl]
    cases ha : inB 0 (p.Labels - 1) a
    · simp [sb]
    · rw [if_neg (by simp), e_cyMarks k M hl, sb, sb]
      cases hm : marksB k M
      · simp
      · obtain ⟨hk, hM⟩ := MK.ofB hm
        have hb := inB_if.1 ha
        have ha' : a = (a.toNat : Int) := by omega
        rw [if_neg (by simp)]
        have := e_cyFill p.Labels.toNat a.toNat k.toNat fuel p h w1 w3 w4 hJ (by omega) M hM hl hf
        rw [← hk, ← ha'] at this
        rw [this, sb]; rfl
theorem e_implFi (fuel : Nat) (hf : 2000 ≤ fuel) (p : T_WalkProblem) (a k : Int) (M : List Int) (hJ : p.Arcs.length ≤ 1000000000) (hl : M.length ≤ 1048576) : fI_FillCycle fuel p a k M = some (fiB p a k M) := by
  unfold fI_FillCycle fiB
  rw [e_IsWalkProblem p hJ, sb]
  cases h : walkB p
  · simp [sb]
  · obtain ⟨w1, w2, w3, w4⟩ := okArcs_of h
    have hh : fI_WalkProblem_hasLabels p [a] = some (inB 0 (p.Labels - 1) a) := by
      unfold fI_WalkProblem_hasLabels
      rw [ck_in (by omega) (by omega), sb, e_allWithin _ _ _ (by simp), sb]
      simp
    rw [if_neg (by simp), hh, sb]
    cases ha : inB 0 (p.Labels - 1) a
    · simp [sb]
    · rw [if_neg (by simp), e_marksOk k M hl, sb, sb]
      cases hm : marksB k M
      · simp
      · obtain ⟨hk, hM⟩ := MK.ofB hm
        have hb := inB_if.1 ha
        have ha' : a = (a.toNat : Int) := by omega
        rw [if_neg (by simp)]
        have := e_implFill p.Labels.toNat a.toNat k.toNat fuel p w1 w3 w4 (by omega) M hM hl hf
        have hg := e_gapsOf k.toNat M hM hl
        have hz := mk_zero k.toNat hM.k2.2
        rw [← hk, ← ha'] at this
        rw [← hk] at hg hz
        rw [hz, sb, hg, sb, this]
        unfold fillB
        cases firstP (fillP p p.Labels.toNat a.toNat) (gapsL k.toNat M) 0 <;> simp [sb]
theorem fiB_sb (p : T_WalkProblem) (a k : Int) (M : List Int) : ((fiB p a k M).2 = false → (fiB p a k M).1 = []) ∧ (fiB p a k M).1.length ≤ 1000000000 := by
  unfold fiB
  split
  · rename_i h
    simp only [Bool.and_eq_true] at h
    obtain ⟨hk, hM⟩ := MK.ofB h.2
    unfold fillB
    cases hc : firstP (fillP p p.Labels.toNat a.toNat) (gapsL k.toNat M) 0 with
    | some r =>
      obtain ⟨j, x, _, h2⟩ := firstP_some hc
      unfold fillP at h2
      split at h2 <;> cases h2
      exact ⟨fun _ => rfl, by simp⟩
    | none => exact ⟨fun h => (by cases h), by simp only [imR_len]; have := hM.k2; omega⟩
  · exact ⟨fun _ => rfl, by simp⟩
end Go.Proofs.Ytabclfacjaeblaa
