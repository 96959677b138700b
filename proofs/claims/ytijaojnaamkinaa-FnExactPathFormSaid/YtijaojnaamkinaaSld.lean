/- impl.sortedLists: rows in order, each once. -/
import Derived.Test.YtijaojnaamkinaaSrf
import Derived.Test.YtijaojnaamkinaaGCpf
namespace Go.Proofs.Ytijaojnaamkinaa
open Go.RowKit
set_option linter.unusedSimpArgs false
set_option linter.unusedVariables false

theorem goF {σ τ ρ : Type} {f : σ → Option (Lp σ τ ρ)} {s s' : σ} (h : f s = some (.go s')) (fuel : Nat) : loopF f (fuel + 1) s = loopF f fuel s' := by simp only [loopF, h]
theorem outF {σ τ ρ : Type} {f : σ → Option (Lp σ τ ρ)} {s : σ} {t : τ} (h : f s = some (.out t)) (fuel : Nat) : loopF f (fuel + 1) s = some (.inl t) := by simp only [loopF, h]
theorem retF {σ τ ρ : Type} {f : σ → Option (Lp σ τ ρ)} {s : σ} {r : ρ} (h : f s = some (.ret r)) (fuel : Nat) : loopF f (fuel + 1) s = some (.inr r) := by simp only [loopF, h]
theorem e_EqS (xs ys : List Int) (hl : xs.length ≤ 1000000000) (hy : ys.length ≤ 1000000000) : fX_slices_Equal_int_int xs ys = some (decide (xs = ys)) := by
  unfold fX_slices_Equal_int_int
  by_cases h : xs.length = ys.length
  · rw [if_neg (by simp [h]), ck_in (by omega) (by omega), sb]
    simp only [Int.toNat_natCast]
    rw [forN_first0 (fun k x => if x = ys.getD k 0 then none else some false) xs (fun j x hj _ => by
      have hjl := (List.getElem?_eq_some_iff.1 hj).1
      unfold fX_slices_Equal_int_int_s1
      rw [ix_nat, hj, sb, ix_lt _ _ (show j < ys.length by omega), sb]
      have : ys.getD j 0 = ys[j]'(by omega) := by simp [List.getElem?_eq_getElem (show j < ys.length by omega)]
      simp only [this]
      by_cases e : x = ys[j]'(by omega)
      · simp [e, lpP]
      · simp [e, lpP]), sb]
    cases hc : firstP (fun k x => if x = ys.getD k 0 then none else some false) xs 0 with
    | none =>
      have : xs = ys := by
        refine List.ext_getElem h fun j h1 h2 => ?_
        have := firstP_none.1 hc j _ (List.getElem?_eq_getElem h1)
        rw [Nat.zero_add] at this
        split at this
        · rename_i e
          rw [e]
          simp [List.getElem?_eq_getElem h2]
        · cases this
      simp [outP, this]
    | some r =>
      obtain ⟨j, x, h1, h2⟩ := firstP_some hc
      rw [Nat.zero_add] at h2
      split at h2
      · cases h2
      · rename_i hne
        cases h2
        have : xs ≠ ys := fun e => hne (by rw [← e]; simp [h1])
        simp [outP, this]
  · rw [if_pos (by simp; omega)]
    have : xs ≠ ys := fun e => h (by rw [e])
    simp [this]
/-! ### Each once -/
def at' (ps : List Pv) (j : Nat) : Pv := ps.getD j default
def kc (ps : List Pv) (j : Nat) : Bool := decide (j = 0 ∨ (at' ps j).x ≠ (at' ps (j - 1)).x)
def kp (ps : List Pv) (n : Nat) : List Pv := ((List.range n).filter (kc ps)).map (at' ps)
theorem kp_yes {ps : List Pv} {n : Nat} (h : kc ps n = true) : kp ps (n + 1) = kp ps n ++ [at' ps n] := by simp [kp, List.range_succ, h]
theorem kp_no {ps : List Pv} {n : Nat} (h : kc ps n = false) : kp ps (n + 1) = kp ps n := by simp [kp, List.range_succ, h]
theorem kp_len (ps : List Pv) (n : Nat) : (kp ps n).length ≤ n := by
  have := List.length_filter_le (kc ps) (List.range n)
  simpa [kp] using this
theorem at_get {ps : List Pv} {j : Nat} (h : j < ps.length) : ps[j]? = some (at' ps j) := by
  unfold at'
  rw [List.getD_eq_getElem?_getD, List.getElem?_eq_getElem h]; rfl
theorem ixa {ps : List Pv} {j : Nat} {i : Int} (hi : i = (j : Int)) (h : j < ps.length) : ix ps i = some (at' ps j) := by
  subst hi
  unfold ix
  rw [if_pos (by omega), Int.toNat_natCast]
  exact at_get h
theorem kp_sub (ps : List Pv) : (kp ps ps.length).Sublist ps := by
  have h1 : (kp ps ps.length).Sublist ((List.range ps.length).map (at' ps)) := (List.filter_sublist).map _
  have h2 : (List.range ps.length).map (at' ps) = ps := by
    apply List.ext_getElem?
    intro j
    by_cases hj : j < ps.length
    · rw [List.getElem?_map, List.getElem?_range hj, at_get hj]; rfl
    · rw [List.getElem?_eq_none (by simp; omega), List.getElem?_eq_none (by omega)]
  rwa [h2] at h1
theorem cutF (ps : List Pv) (lo : Nat) : cut ps (lo : Int) ps.length = if lo ≤ ps.length then some (ps.drop lo) else none := by
  unfold cut
  by_cases h : lo ≤ ps.length
  · rw [if_pos (by omega), if_pos h]; simp
  · rw [if_neg (by omega), if_neg h]
theorem cp_loop2 (ps : List Pv) (hl : ps.length ≤ 1000000000) (hx : ∀ p ∈ ps, p.x.length ≤ 1000000000) (k0 : Nat) (h0 : 1 ≤ k0) : ∀ (d m fuel : Nat) (s : List Pv), m + d = ps.length → d < fuel → k0 + 1 ≤ m → s.length = ps.length →
    (kp ps m).length + 1 ≤ m → s.take (kp ps m).length = kp ps m → s.drop (m - 1) = ps.drop (m - 1) → k0 ≤ (kp ps m).length →
    ∃ s' c, loopF (fX_slices_CompactFunc_LLint_int_s2 (k0 : Int)) fuel (s, ((kp ps m).length : Int), ((m - k0 : Nat) : Int)) = some (.inl (s', ((kp ps ps.length).length : Int), c)) ∧ s'.take (kp ps ps.length).length = kp ps ps.length ∧ s'.length = ps.length ∧ k0 ≤ (kp ps ps.length).length
  | 0, m, fuel, s, hd, hf, h1, h2, h3, h4, h5, h6 => by
    obtain ⟨fuel, rfl⟩ : ∃ q, fuel = q + 1 := ⟨fuel - 1, by omega⟩
    have hm : m = ps.length := by omega
    subst hm
    refine ⟨s, ((ps.length - k0 : Nat) : Int), ?_, h4, h2, h6⟩
    refine outF ?_ fuel
    unfold fX_slices_CompactFunc_LLint_int_s2
    simp only
    rw [cutF, if_pos (by omega), sb, if_neg (by simp; omega)]
  | d + 1, m, fuel, s, hd, hf, h1, h2, h3, h4, h5, h6 => by
    obtain ⟨fuel, rfl⟩ : ∃ q, fuel = q + 1 := ⟨fuel - 1, by omega⟩
    have hat : ∀ j, m - 1 ≤ j → at' s j = at' ps j := fun j hj => by
      unfold at'
      rw [List.getD_eq_getElem?_getD, List.getD_eq_getElem?_getD]
      have e := congrArg (fun l => l[j - (m - 1)]?) h5
      simp only [List.getElem?_drop] at e
      rw [show m - 1 + (j - (m - 1)) = j by omega] at e
      rw [e]
    have e1 := hat m (by omega)
    have e2 := hat (m - 1) (by omega)
    have hm1 := hx _ (List.mem_of_getElem? (at_get (ps := ps) (j := m) (by omega)))
    have hm2 := hx _ (List.mem_of_getElem? (at_get (ps := ps) (j := m - 1) (by omega)))
    have step : ∃ s' , fX_slices_CompactFunc_LLint_int_s2 (k0 : Int) (s, ((kp ps m).length : Int), ((m - k0 : Nat) : Int)) = some (.go (s', ((kp ps (m + 1)).length : Int), ((m + 1 - k0 : Nat) : Int))) ∧ s'.length = ps.length ∧ (kp ps (m + 1)).length + 1 ≤ m + 1 ∧
        s'.take (kp ps (m + 1)).length = kp ps (m + 1) ∧ s'.drop m = ps.drop m ∧ k0 ≤ (kp ps (m + 1)).length := by
      unfold fX_slices_CompactFunc_LLint_int_s2 nn
      simp only
      rw [cutF, if_pos (by omega), sb, if_pos (by simp; omega), ixa (j := m) (by omega) (by omega), sb, if_pos (by omega), sb, sb, ck_in (by omega) (by omega), sb, ixa (j := m - 1) (by omega) (by omega), sb, if_pos (by omega), sb, sb, e1, e2, e_EqS _ _ hm1 hm2, sb]
      by_cases hc : (at' ps m).x = (at' ps (m - 1)).x
      · have hk : kc ps m = false := by unfold kc; rw [decide_eq_false_iff_not]; intro h; rcases h with h | h; · omega
                                        · exact h hc
        rw [if_neg (by simp [hc]), ck_in (by omega) (by omega), sb, kp_no hk]
        refine ⟨s, ?_, h2, by omega, h4, ?_, h6⟩
        · rw [show ((m - k0 : Nat) : Int) + 1 = ((m + 1 - k0 : Nat) : Int) by omega]
        · have := congrArg (List.drop 1) h5
          rw [List.drop_drop, List.drop_drop, show m - 1 + 1 = m by omega] at this
          exact this
      · have hk : kc ps m = true := by unfold kc; rw [decide_eq_true_eq]; exact .inr hc
        have hlt : (kp ps m).length < s.length := by omega
        rw [if_pos (by simp [hc]), sb, sb, sb, ixa (i := ((kp ps m).length : Int)) (j := (kp ps m).length) rfl hlt, sb]
        unfold Go.Proofs.Ytijaojnaamkinaa.st
        rw [if_pos (by omega), sb, ck_in (by omega) (by omega), sb, ck_in (by omega) (by omega), sb, kp_yes hk]
        refine ⟨s.set (kp ps m).length (at' ps m), ?_, by simp [h2], by simp; omega, ?_, ?_, by simp; omega⟩
        · rw [show ((m - k0 : Nat) : Int) + 1 = ((m + 1 - k0 : Nat) : Int) by omega, Int.toNat_natCast]
          simp
        · rw [List.length_append, List.length_cons, List.length_nil, List.take_add_one, List.take_set_of_le (Nat.le_refl _), h4, List.getElem?_set_self hlt]
          rfl
        · rw [List.drop_set_of_lt (by omega)]
          have := congrArg (List.drop 1) h5
          rw [List.drop_drop, List.drop_drop, show m - 1 + 1 = m by omega] at this
          exact this
    obtain ⟨s', g1, g2, g3, g4, g5, g6⟩ := step
    rw [goF g1]
    exact cp_loop2 ps hl hx k0 h0 d (m + 1) fuel s' (by omega) (by omega) (by omega) g2 g3 g4 (by simpa using g5) g6
theorem cp_loop1 (ps : List Pv) (hl : ps.length ≤ 1000000000) (hx : ∀ p ∈ ps, p.x.length ≤ 1000000000) (fuel0 : Nat) (hf0 : ps.length < fuel0) : ∀ (d k fuel : Nat), k + d = ps.length → d < fuel → 1 ≤ k → kp ps k = ps.take k →
    ∃ q, loopF (fX_slices_CompactFunc_LLint_int_s1 fuel0) fuel (ps, (k : Int)) = some q ∧ (q = .inr (kp ps ps.length) ∨ ∃ c, q = .inl (kp ps ps.length, c))
  | 0, k, fuel, hd, hf, h1, h2 => by
    obtain ⟨fuel, rfl⟩ : ∃ q, fuel = q + 1 := ⟨fuel - 1, by omega⟩
    have hk : k = ps.length := by omega
    subst hk
    rw [List.take_length] at h2
    refine ⟨_, outF (t := (ps, (ps.length : Int))) ?_ fuel, .inr ⟨_, by rw [h2]⟩⟩
    unfold fX_slices_CompactFunc_LLint_int_s1
    simp only
    rw [if_neg (by simp)]
  | d + 1, k, fuel, hd, hf, h1, h2 => by
    obtain ⟨fuel, rfl⟩ : ∃ q, fuel = q + 1 := ⟨fuel - 1, by omega⟩
    have hm1 := hx _ (List.mem_of_getElem? (at_get (ps := ps) (j := k) (by omega)))
    have hm2 := hx _ (List.mem_of_getElem? (at_get (ps := ps) (j := k - 1) (by omega)))
    by_cases hc : (at' ps k).x = (at' ps (k - 1)).x
    · have hk : kc ps k = false := by unfold kc; rw [decide_eq_false_iff_not]; intro h; rcases h with h | h; · omega
                                      · exact h hc
      have hkp : kp ps (k + 1) = ps.take k := by rw [kp_no hk, h2]
      have hkl : (kp ps (k + 1)).length = k := by rw [hkp, List.length_take]; omega
      obtain ⟨s', c, g1, g2, g3, g4⟩ := cp_loop2 ps hl hx k h1 d (k + 1) fuel0 ps (by omega) (by omega) (by omega) rfl (by omega) (by rw [hkl, hkp]) rfl (by omega)
      rw [hkl, show ((k + 1 - k : Nat) : Int) = 1 by omega] at g1
      have hkle := kp_len ps ps.length
      refine ⟨_, retF (r := kp ps ps.length) ?_ fuel, .inl rfl⟩
      unfold fX_slices_CompactFunc_LLint_int_s1
      simp only
      rw [if_pos (by simp; omega), ixa (j := k) rfl (by omega), sb, ck_in (by omega) (by omega), sb, ixa (j := k - 1) (by omega) (by omega), sb, e_EqS _ _ hm1 hm2, sb, if_pos (by simp [hc]), cutF, if_pos (by omega), sb, g1, sb]
      simp only
      rw [cutF, if_pos (by omega), sb, sb]
      unfold cut
      rw [if_pos (by omega), sb]
      simp only [Int.toNat_natCast, show (0 : Int).toNat = 0 from rfl, List.drop_zero, g2]
    · have hk : kc ps k = true := by unfold kc; rw [decide_eq_true_eq]; exact .inr hc
      have hkp : kp ps (k + 1) = ps.take (k + 1) := by
        rw [kp_yes hk, h2, List.take_add_one, at_get (by omega)]; rfl
      have g1 : fX_slices_CompactFunc_LLint_int_s1 fuel0 (ps, (k : Int)) = some (.go (ps, ((k + 1 : Nat) : Int))) := by
        unfold fX_slices_CompactFunc_LLint_int_s1
        simp only
        rw [if_pos (by simp; omega), ixa (j := k) rfl (by omega), sb, ck_in (by omega) (by omega), sb, ixa (j := k - 1) (by omega) (by omega), sb, e_EqS _ _ hm1 hm2, sb, if_neg (by simp [hc]), ck_in (by omega) (by omega), sb]
        simp
      rw [goF g1]
      exact cp_loop1 ps hl hx fuel0 hf0 d (k + 1) fuel (by omega) (by omega) (by omega) hkp
theorem e_Compact (ps : List Pv) (hl : ps.length ≤ 1000000000) (hx : ∀ p ∈ ps, p.x.length ≤ 1000000000) (fuel : Nat) (hf : ps.length < fuel) : fX_slices_CompactFunc_LLint_int fuel ps = some (kp ps ps.length) := by
  unfold fX_slices_CompactFunc_LLint_int
  by_cases h2 : ps.length < 2
  · rw [if_pos (by simp; omega)]
    match ps, h2 with
    | [], _ => rfl
    | [p], _ => rfl
    | _ :: _ :: _, h => exfalso; simp only [List.length_cons] at h; omega
  · rw [if_neg (by simp; omega)]
    have h1 : kp ps 1 = ps.take 1 := by
      match ps, h2 with
      | p :: _, _ => rfl
      | [], h => simp at h
    obtain ⟨q, e, hq⟩ := cp_loop1 ps hl hx fuel hf (ps.length - 1) 1 fuel (by omega) (by omega) (by omega) h1
    rw [show ((1 : Nat) : Int) = 1 from rfl] at e
    rw [e, sb]
    rcases hq with rfl | ⟨c, rfl⟩ <;> rfl
end Go.Proofs.Ytijaojnaamkinaa
