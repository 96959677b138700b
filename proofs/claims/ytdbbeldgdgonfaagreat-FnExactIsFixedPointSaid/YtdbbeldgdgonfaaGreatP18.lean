/- Part 18 of what this claim rests on (Sld, Sle, Kds), packed by pack.py. -/
import Derived.Test.YtdbbeldgdgonfaaGreatP03
import Derived.Test.YtdbbeldgdgonfaaGreatP17
namespace Go.Proofs.YtdbbeldgdgonfaaGreat
set_option linter.unusedSimpArgs false
set_option linter.unusedVariables false

section
open Go.RowKit
theorem goF {σ τ ρ : Type} {f : σ → Option (Lp σ τ ρ)} {s s' : σ} (h : f s = some (.go s')) (fuel : Nat) : loopF f (fuel + 1) s = loopF f fuel s' := by simp only [loopF, h]
theorem outF {σ τ ρ : Type} {f : σ → Option (Lp σ τ ρ)} {s : σ} {t : τ} (h : f s = some (.out t)) (fuel : Nat) : loopF f (fuel + 1) s = some (.inl t) := by simp only [loopF, h]
theorem retF {σ τ ρ : Type} {f : σ → Option (Lp σ τ ρ)} {s : σ} {r : ρ} (h : f s = some (.ret r)) (fuel : Nat) : loopF f (fuel + 1) s = some (.inr r) := by simp only [loopF, h]
theorem rA_ (xs ys : List Int) (hl : xs.length ≤ 1000000000) (hy : ys.length ≤ 1000000000) : aN_ xs ys = some (decide (xs = ys)) := by
 unfold aN_
 by_cases h : xs.length = ys.length
 ·rw [if_neg (by simp [h]), G_ (by omega) (by omega), sb]
  simp only [Int.toNat_natCast]
  rw [eI_ (fun k x => if x = ys.getD k 0 then none else some false) xs (fun j x hj _ => by
   have hjl := (List.getElem?_eq_some_iff.1 hj).1
   unfold bf_
   rw [ct_, hj, sb, fW_ _ _ (show j < ys.length by omega), sb]
   have : ys.getD j 0 = ys[j]'(by omega) := by simp [List.getElem?_eq_getElem (show j < ys.length by omega)]
   simp only [this]
   by_cases e : x = ys[j]'(by omega)
   ·simp [e, lpP]
   ·simp [e, lpP]), sb]
  cases hc : firstP (fun k x => if x = ys.getD k 0 then none else some false) xs 0 with
  | none =>
   have : xs = ys := by
    refine List.ext_getElem h fun j h1 h2 => ?_
    have := cc_.1 hc j _ (List.getElem?_eq_getElem h1)
    rw [Nat.zero_add] at this
    split at this
    ·rename_i e
     rw [e]
     simp [List.getElem?_eq_getElem h2]
    ·cases this
   simp [outP, this]
  | some r =>
   obtain ⟨j, x, h1, h2⟩ := cw_ hc
   rw [Nat.zero_add] at h2
   split at h2
   ·cases h2
   ·rename_i hne
    cases h2
    have : xs ≠ ys := fun e => hne (by rw [← e]; simp [h1])
    simp [outP, this]
 ·rw [if_pos (by simp; omega)]
  have : xs ≠ ys := fun e => h (by rw [e])
  simp [this]
def at' (ps : List Pv) (j : Nat) : Pv := ps.getD j default
def kc (ps : List Pv) (j : Nat) : Bool := decide (j = 0 ∨ (at' ps j).x ≠ (at' ps (j - 1)).x)
def kp (ps : List Pv) (n : Nat) : List Pv := ((List.range n).filter (kc ps)).map (at' ps)
theorem rs_ {ps : List Pv} {n : Nat} (h : kc ps n = true) : kp ps (n + 1) = kp ps n ++ [at' ps n] := by simp [kp, List.range_succ, h]
theorem sf_ {ps : List Pv} {n : Nat} (h : kc ps n = false) : kp ps (n + 1) = kp ps n := by simp [kp, List.range_succ, h]
theorem se_ (ps : List Pv) (n : Nat) : (kp ps n).length ≤ n := by
 have := List.length_filter_le (kc ps) (List.range n)
 simpa [kp] using this
theorem gc_ {ps : List Pv} {j : Nat} (h : j < ps.length) : ps[j]? = some (at' ps j) := by
 unfold at'
 rw [List.getD_eq_getElem?_getD, List.getElem?_eq_getElem h]; rfl
theorem ixa {ps : List Pv} {j : Nat} {i : Int} (hi : i = (j : Int)) (h : j < ps.length) : ix ps i = some (at' ps j) := by
 subst hi
 unfold ix
 rw [if_pos (by omega), Int.toNat_natCast]
 exact gc_ h
theorem oY_ (ps : List Pv) : (kp ps ps.length).Sublist ps := by
 have h1 : (kp ps ps.length).Sublist ((List.range ps.length).map (at' ps)) := (List.filter_sublist).map _
 have h2 : (List.range ps.length).map (at' ps) = ps := by
  apply List.ext_getElem?
  intro j
  by_cases hj : j < ps.length
  ·rw [List.getElem?_map, List.getElem?_range hj, gc_ hj]; rfl
  ·rw [List.getElem?_eq_none (by simp; omega), List.getElem?_eq_none (by omega)]
 rwa [h2] at h1
theorem cutF (ps : List Pv) (lo : Nat) : cut ps (lo : Int) ps.length = if lo ≤ ps.length then some (ps.drop lo) else none := by
 unfold cut
 by_cases h : lo ≤ ps.length
 ·rw [if_pos (by omega), if_pos h]; simp
 ·rw [if_neg (by omega), if_neg h]
theorem nJ_ (ps : List Pv) (hl : ps.length ≤ 1000000000) (hx : ∀ p ∈ ps, p.x.length ≤ 1000000000) (k0 : Nat) (h0 : 1 ≤ k0) : ∀ (d m fuel : Nat) (s : List Pv), m + d = ps.length → d < fuel → k0 + 1 ≤ m → s.length = ps.length →
    (kp ps m).length + 1 ≤ m → s.take (kp ps m).length = kp ps m → s.drop (m - 1) = ps.drop (m - 1) → k0 ≤ (kp ps m).length →
    ∃ s' c, loopF (U_ (k0 : Int)) fuel (s, ((kp ps m).length : Int), ((m - k0 : Nat) : Int)) = some (.inl (s', ((kp ps ps.length).length : Int), c)) ∧ s'.take (kp ps ps.length).length = kp ps ps.length ∧ s'.length = ps.length ∧ k0 ≤ (kp ps ps.length).length
  | 0, m, fuel, s, hd, hf, h1, h2, h3, h4, h5, h6 => by
    obtain ⟨fuel, rfl⟩ : ∃ q, fuel = q + 1 := ⟨fuel - 1, by omega⟩
    have hm : m = ps.length := by omega
    subst hm
    refine ⟨s, ((ps.length - k0 : Nat) : Int), ?_, h4, h2, h6⟩
    refine outF ?_ fuel
    unfold U_
    simp only
    rw [cutF, if_pos (by omega), sb, if_neg (by simp; omega)]
  | d + 1, m, fuel, s, hd, hf, h1, h2, h3, h4, h5, h6 => by
    obtain ⟨fuel, rfl⟩ : ∃ q, fuel = q + 1 := ⟨fuel - 1, by omega⟩
    have hat : ∀ j, m - 1 ≤ j → at' s j = at' ps j := fun j hj => by
      unfold at'
      rw [List.getD_eq_getElem?_getD, List.getD_eq_getElem?_getD]
      have e := congrArg (fun l => l[j - (m - 1)]?) h5
      simp only [List.getElem?_drop] at e
      rw [show m - 1 + (j - (m - 1)) = j by omega] at e
      rw [e]
    have e1 := hat m (by omega)
    have e2 := hat (m - 1) (by omega)
    have hm1 := hx _ (List.mem_of_getElem? (gc_ (ps := ps) (j := m) (by omega)))
    have hm2 := hx _ (List.mem_of_getElem? (gc_ (ps := ps) (j := m - 1) (by omega)))
    have step : ∃ s' , U_ (k0 : Int) (s, ((kp ps m).length : Int), ((m - k0 : Nat) : Int)) = some (.go (s', ((kp ps (m + 1)).length : Int), ((m + 1 - k0 : Nat) : Int))) ∧ s'.length = ps.length ∧ (kp ps (m + 1)).length + 1 ≤ m + 1 ∧
        s'.take (kp ps (m + 1)).length = kp ps (m + 1) ∧ s'.drop m = ps.drop m ∧ k0 ≤ (kp ps (m + 1)).length := by
      unfold U_ nn
      simp only
      rw [cutF, if_pos (by omega), sb, if_pos (by simp; omega), ixa (j := m) (by omega) (by omega), sb, if_pos (by omega), sb, sb, G_ (by omega) (by omega), sb, ixa (j := m - 1) (by omega) (by omega), sb, if_pos (by omega), sb, sb, e1, e2, rA_ _ _ hm1 hm2, sb]
      by_cases hc : (at' ps m).x = (at' ps (m - 1)).x
      · have hk : kc ps m = false := by unfold kc; rw [decide_eq_false_iff_not]; intro h; rcases h with h | h; · omega
                                        · exact h hc
        rw [if_neg (by simp [hc]), G_ (by omega) (by omega), sb, sf_ hk]
        refine ⟨s, ?_, h2, by omega, h4, ?_, h6⟩
        · rw [show ((m - k0 : Nat) : Int) + 1 = ((m + 1 - k0 : Nat) : Int) by omega]
        · have := congrArg (List.drop 1) h5
          rw [List.drop_drop, List.drop_drop, show m - 1 + 1 = m by omega] at this
          exact this
      · have hk : kc ps m = true := by unfold kc; rw [decide_eq_true_eq]; exact .inr hc
        have hlt : (kp ps m).length < s.length := by omega
        rw [if_pos (by simp [hc]), sb, sb, sb, ixa (i := ((kp ps m).length : Int)) (j := (kp ps m).length) rfl hlt, sb]
        unfold Go.Proofs.YtdbbeldgdgonfaaGreat.st
        rw [if_pos (by omega), sb, G_ (by omega) (by omega), sb, G_ (by omega) (by omega), sb, rs_ hk]
        refine ⟨s.set (kp ps m).length (at' ps m), ?_, by simp [h2], by simp; omega, ?_, ?_, by simp; omega⟩
        · rw [show ((m - k0 : Nat) : Int) + 1 = ((m + 1 - k0 : Nat) : Int) by omega, Int.toNat_natCast]
          simp
        · rw [List.length_append, List.length_cons, List.length_nil, List.take_add_one, List.take_set_of_le (Nat.le_refl _), h4, List.getElem?_set_self hlt]
          rfl
        · rw [List.drop_set_of_lt (by omega)]
          have := congrArg (List.drop 1) h5
          rw [List.drop_drop, List.drop_drop, show m - 1 + 1 = m by omega] at this
          exact this
    obtain ⟨s', g1, g2, g3, g4, g5, g6⟩ := step
    rw [goF g1]
    exact nJ_ ps hl hx k0 h0 d (m + 1) fuel s' (by omega) (by omega) (by omega) g2 g3 g4 (by simpa using g5) g6
theorem nQ_ (ps : List Pv) (hl : ps.length ≤ 1000000000) (hx : ∀ p ∈ ps, p.x.length ≤ 1000000000) (fuel0 : Nat) (hf0 : ps.length < fuel0) : ∀ (d k fuel : Nat), k + d = ps.length → d < fuel → 1 ≤ k → kp ps k = ps.take k →
    ∃ q, loopF (O_ fuel0) fuel (ps, (k : Int)) = some q ∧ (q = .inr (kp ps ps.length) ∨ ∃ c, q = .inl (kp ps ps.length, c))
  | 0, k, fuel, hd, hf, h1, h2 => by
    obtain ⟨fuel, rfl⟩ : ∃ q, fuel = q + 1 := ⟨fuel - 1, by omega⟩
    have hk : k = ps.length := by omega
    subst hk
    rw [List.take_length] at h2
    refine ⟨_, outF (t := (ps, (ps.length : Int))) ?_ fuel, .inr ⟨_, by rw [h2]⟩⟩
    unfold O_
    simp only
    rw [if_neg (by simp)]
  | d + 1, k, fuel, hd, hf, h1, h2 => by
    obtain ⟨fuel, rfl⟩ : ∃ q, fuel = q + 1 := ⟨fuel - 1, by omega⟩
    have hm1 := hx _ (List.mem_of_getElem? (gc_ (ps := ps) (j := k) (by omega)))
    have hm2 := hx _ (List.mem_of_getElem? (gc_ (ps := ps) (j := k - 1) (by omega)))
    by_cases hc : (at' ps k).x = (at' ps (k - 1)).x
    · have hk : kc ps k = false := by unfold kc; rw [decide_eq_false_iff_not]; intro h; rcases h with h | h; · omega
                                      · exact h hc
      have hkp : kp ps (k + 1) = ps.take k := by rw [sf_ hk, h2]
      have hkl : (kp ps (k + 1)).length = k := by rw [hkp, List.length_take]; omega
      obtain ⟨s', c, g1, g2, g3, g4⟩ := nJ_ ps hl hx k h1 d (k + 1) fuel0 ps (by omega) (by omega) (by omega) rfl (by omega) (by rw [hkl, hkp]) rfl (by omega)
      rw [hkl, show ((k + 1 - k : Nat) : Int) = 1 by omega] at g1
      have hkle := se_ ps ps.length
      refine ⟨_, retF (r := kp ps ps.length) ?_ fuel, .inl rfl⟩
      unfold O_
      simp only
      rw [if_pos (by simp; omega), ixa (j := k) rfl (by omega), sb, G_ (by omega) (by omega), sb, ixa (j := k - 1) (by omega) (by omega), sb, rA_ _ _ hm1 hm2, sb, if_pos (by simp [hc]), cutF, if_pos (by omega), sb, g1, sb]
      simp only
      rw [cutF, if_pos (by omega), sb, sb]
      unfold cut
      rw [if_pos (by omega), sb]
      simp only [Int.toNat_natCast, show (0 : Int).toNat = 0 from rfl, List.drop_zero, g2]
    · have hk : kc ps k = true := by unfold kc; rw [decide_eq_true_eq]; exact .inr hc
      have hkp : kp ps (k + 1) = ps.take (k + 1) := by
        rw [rs_ hk, h2, List.take_add_one, gc_ (by omega)]; rfl
      have g1 : O_ fuel0 (ps, (k : Int)) = some (.go (ps, ((k + 1 : Nat) : Int))) := by
        unfold O_
        simp only
        rw [if_pos (by simp; omega), ixa (j := k) rfl (by omega), sb, G_ (by omega) (by omega), sb, ixa (j := k - 1) (by omega) (by omega), sb, rA_ _ _ hm1 hm2, sb, if_neg (by simp [hc]), G_ (by omega) (by omega), sb]
        simp
      rw [goF g1]
      exact nQ_ ps hl hx fuel0 hf0 d (k + 1) fuel (by omega) (by omega) (by omega) hkp
theorem pl_ (ps : List Pv) (hl : ps.length ≤ 1000000000) (hx : ∀ p ∈ ps, p.x.length ≤ 1000000000) (fuel : Nat) (hf : ps.length < fuel) : aM_ fuel ps = some (kp ps ps.length) := by
 unfold aM_
 by_cases h2 : ps.length < 2
 ·rw [if_pos (by simp; omega)]
  match ps, h2 with
  | [], _ => rfl
  | [p], _ => rfl
  | _ :: _ :: _, h => exfalso; simp only [List.length_cons] at h; omega
 ·rw [if_neg (by simp; omega)]
  have h1 : kp ps 1 = ps.take 1 := by
   match ps, h2 with
   | p :: _, _ => rfl
   | [], h => simp at h
  obtain ⟨q, e, hq⟩ := nQ_ ps hl hx fuel hf (ps.length - 1) 1 fuel (by omega) (by omega) (by omega) h1
  rw [show ((1 : Nat) : Int) = 1 from rfl] at e
  rw [e, sb]
  rcases hq with rfl | ⟨c, rfl⟩ <;> rfl
end

section
open Go.RowKit
theorem sc_ {L : Nat} (ps : List Pv) (hL : ∀ p ∈ ps, p.x.length = L) (hs : ps.Pairwise fun a b => ¬ ordL b.x a.x < 0) : sorS ((kp ps ps.length).map (·.x)) ∧ ∀ z, z ∈ (kp ps ps.length).map (·.x) ↔ z ∈ ps.map (·.x) := by
  have hat : ∀ i, i < ps.length → at' ps i ∈ ps := fun i hi => List.mem_of_getElem? (gc_ hi)
  have hpw : ∀ i j, i < j → j < ps.length → ¬ ordL (at' ps j).x (at' ps i).x < 0 := fun i j hij hj => by
    have := List.pairwise_iff_getElem.1 hs i j (by omega) hj hij
    have e1 : ps[i]'(by omega) = at' ps i := by have := gc_ (ps := ps) (j := i) (by omega); rw [List.getElem?_eq_getElem (by omega)] at this; exact Option.some.inj this
    have e2 : ps[j] = at' ps j := by have := gc_ (ps := ps) (j := j) hj; rw [List.getElem?_eq_getElem hj] at this; exact Option.some.inj this
    rw [e1, e2] at this
    exact this
  have hle : ∀ i j, i ≤ j → j < ps.length → (at' ps i).x = (at' ps j).x ∨ ordL (at' ps i).x (at' ps j).x < 0 := fun i j hij hj => by
    by_cases e : i = j
    · subst e; exact .inl rfl
    · have h1 := hpw i j (by omega) hj
      have h2 := hb_ (at' ps i).x (at' ps j).x
      by_cases h0 : ordL (at' ps i).x (at' ps j).x = 0
      · exact .inl ((gZ_ (by rw [hL _ (hat i (by omega)), hL _ (hat j hj)])).1 h0)
      · exact .inr (by omega)
  constructor
  · unfold sorS kp
    rw [List.map_map, List.pairwise_map]
    have hr : (List.range ps.length).Pairwise (· < ·) := List.pairwise_lt_range
    refine List.Pairwise.imp_of_mem (fun {i j} hi hj hij => ?_) (hr.filter (kc ps))
    have hj1 := List.mem_range.1 (List.mem_filter.1 hj).1
    have hj2 := (List.mem_filter.1 hj).2
    unfold kc at hj2
    rw [decide_eq_true_eq] at hj2
    have hne : (at' ps j).x ≠ (at' ps (j - 1)).x := by rcases hj2 with h | h; · omega
                                                       · exact h
    have hlt : ordL (at' ps (j - 1)).x (at' ps j).x < 0 := by
      rcases hle (j - 1) j (by omega) hj1 with h | h
      · exact absurd h.symm hne
      · exact h
    show ordL (at' ps i).x (at' ps j).x < 0
    rcases hle i (j - 1) (by omega) (by omega) with h | h
    · rw [h]; exact hlt
    · exact hA_ (by rw [hL _ (hat i (by omega)), hL _ (hat (j - 1) (by omega))]) (by rw [hL _ (hat j hj1), hL _ (hat (j - 1) (by omega))]) h hlt
  · intro z
    constructor
    · intro hz
      obtain ⟨p, hp, rfl⟩ := List.mem_map.1 hz
      exact List.mem_map.2 ⟨p, (oY_ ps).subset hp, rfl⟩
    · intro hz
      obtain ⟨p, hp, rfl⟩ := List.mem_map.1 hz
      obtain ⟨i, hi⟩ := List.getElem?_of_mem hp
      have hil := (List.getElem?_eq_some_iff.1 hi).1
      have : ∀ i, i < ps.length → (at' ps i).x ∈ (kp ps ps.length).map (·.x) := by
        intro i
        induction i with
        | zero =>
          intro h
          refine List.mem_map.2 ⟨_, List.mem_map.2 ⟨0, List.mem_filter.2 ⟨List.mem_range.2 h, by simp [kc]⟩, rfl⟩, rfl⟩
        | succ i ih =>
          intro h
          by_cases hc : kc ps (i + 1) = true
          · exact List.mem_map.2 ⟨_, List.mem_map.2 ⟨i + 1, List.mem_filter.2 ⟨List.mem_range.2 h, hc⟩, rfl⟩, rfl⟩
          · have : (at' ps (i + 1)).x = (at' ps i).x := by
              unfold kc at hc
              rw [decide_eq_true_eq] at hc
              exact Classical.byContradiction fun h => hc (.inr (by simpa using h))
            rw [this]
            exact ih (by omega)
      have e1 := gc_ hil
      rw [hi] at e1
      cases e1
      exact this i hil
theorem ra_ (ps ps1 : List Pv) {L : Nat} (hL : ∀ p ∈ ps, p.x.length = L) (hp : ps1.Perm ps) (hs : ps1.Pairwise fun a b => ¬ ordL b.x a.x < 0) : (kp ps1 ps1.length).map (·.x) = sxd (ps.map (·.x)) := by
 have hL1 : ∀ p ∈ ps1, p.x.length = L := fun p hp1 => hL p (hp.subset hp1)
 obtain ⟨h1, h2⟩ := sc_ ps1 hL1 hs
 obtain ⟨h3, h4⟩ := kB_ (L := L) (ps.map (·.x)) [] (fun z hz => by obtain ⟨p, hp, rfl⟩ := List.mem_map.1 hz; exact hL p hp) (by simp) List.Pairwise.nil
 refine nT_ (L := L) (fun z hz => ?_) h1 h3 fun z => ?_
 ·obtain ⟨p, hp1, rfl⟩ := List.mem_map.1 hz
  exact hL1 p ((oY_ ps1).subset hp1)
 ·unfold sxd
  rw [h2, h4]
  constructor
  ·intro h
   obtain ⟨p, hp1, rfl⟩ := List.mem_map.1 h
   exact .inr (List.mem_map.2 ⟨p, hp.subset hp1, rfl⟩)
  ·rintro (h | h)
   ·cases h
   ·obtain ⟨p, hp1, rfl⟩ := List.mem_map.1 h
    exact List.mem_map.2 ⟨p, hp.symm.subset hp1, rfl⟩
def apV (a b : Pv) : Prop := ∀ g, a.v.ownBlock = some g → b.v.ownBlock ≠ some g
def sl2 (w : World) (G : Nat) : World := { w with heap := w.heap.extract 0 G }
set_option maxRecDepth 100000 in
set_option maxHeartbeats 2000000 in
theorem gW_ {B k kr : Nat} {o : Tg} {w : World} {v : Value} {vs : List Hv} {xs ys : List (List Int)} (h : Ow B 41 k o w v vs) (hr : Rws B 3 kr o w vs xs) (hk : k ≠ 0) (hkr : kr ≠ 0) (hne : kr ≠ k) (hB : B ≤ w.heap.size) (hF : srtL xs = some ys) :
  Calls Tryz.prog 144 #[v] w fun e w' => ∃ v' vs' o', e = .returned v' ∧ Ow B 41 k o' w' v' vs' ∧ Rws B 3 kr o' w' vs' ys ∧ Stp k o w o' w' := by
 unfold srtL at hF
 split at hF
 rotate_left
 ·cases hF
 rename_i hcond
 obtain ⟨hl, hL1, hL⟩ := hcond
 cases hF
 generalize (xs.headD []).length = L at hL1 hL
 -- the rows under their values
 obtain ⟨r1, r2, r3⟩ := hr
 let ps : List Pv := List.zipWith (fun u x => (⟨u.v, x⟩ : Pv)) vs xs
 have hpl : ps.length = xs.length := by show (List.zipWith _ vs xs).length = _; rw [List.length_zipWith, r1, Nat.min_self]
 have hpi : ∀ (i : Nat) (u : Hv) (x : List Int), vs[i]? = some u → xs[i]? = some x → ps[i]? = some (⟨u.v, x⟩ : Pv) := fun i u x a b => by
  show (List.zipWith _ vs xs)[i]? = _
  rw [List.getElem?_zipWith, a, b]
 have hpx : ps.map (·.x) = xs := by
  apply List.ext_getElem?
  intro i
  by_cases hi : i < xs.length
  ·rw [List.getElem?_map, hpi i (vs[i]'(by omega)) xs[i] (List.getElem?_eq_getElem (by omega)) (List.getElem?_eq_getElem hi), List.getElem?_eq_getElem hi]; rfl
  ·rw [List.getElem?_eq_none (by rw [List.length_map, hpl]; omega), List.getElem?_eq_none (by omega)]
 have hpe : ∀ (i : Nat) (p : Pv), ps[i]? = some p → vs[i]? = some (⟨p.v⟩ : Hv) ∧ xs[i]? = some p.x := fun i p hp => by
  have hi : i < xs.length := by have := (List.getElem?_eq_some_iff.1 hp).1; omega
  have := hpi i (vs[i]'(by omega)) xs[i] (List.getElem?_eq_getElem (by omega)) (List.getElem?_eq_getElem hi)
  rw [hp] at this
  cases this
  exact ⟨List.getElem?_eq_getElem (by omega), List.getElem?_eq_getElem hi⟩
 have hrow : ∀ p ∈ ps, Ow B 3 kr o w p.v p.x := fun p hp => by
  obtain ⟨i, hi⟩ := List.getElem?_of_mem hp
  obtain ⟨a, b⟩ := hpe i p hi
  exact r2 i ⟨p.v⟩ p.x a b
 have hpL : ∀ p ∈ ps, p.x.length = L := fun p hp => hL p.x (by rw [← hpx]; exact List.mem_map.2 ⟨p, hp, rfl⟩)
 have hap : ps.Pairwise apV := by
  rw [List.pairwise_iff_getElem]
  intro i j hi hj hij g h1 h2
  obtain ⟨a1, b1⟩ := hpe i _ (List.getElem?_eq_getElem hi)
  obtain ⟨a2, b2⟩ := hpe j _ (List.getElem?_eq_getElem hj)
  have := r3 i j _ _ g a1 a2 h1 h2
  omega
 let o2 : Tg := frz kr o
 have ho2 : ∀ b, o b = k → o2 b = k := fun b hb => by show (if o b = kr then 0 else o b) = k; rw [hb, if_neg (Ne.symm hne)]
 have ho2' : ∀ b, o2 b = k → o b = k := fun b hb => by
  have hb : (if o b = kr then 0 else o b) = k := hb
  split at hb
  ·exact absurd hb.symm hk
  ·exact hb
 have hrd2 : ∀ p ∈ ps, RdL o2 w p.v p.x := fun p hp => (hrow p hp).frz
 have hsp : Ow B 41 k o2 w v ps := by
  obtain ⟨css, c1, c2, c3, c4⟩ := h
  refine ⟨css, by rw [c1, r1, hpl], ?_, fun g hg => ho2 g (c3 g hg), fun i cs p hc hp => ?_⟩
  ·rw [hpl, ← r1]; exact c2
  ·obtain ⟨a, b⟩ := hpe i p hp
   obtain ⟨q1, q2⟩ := c4 i cs _ hc a
   exact ⟨q1, q2, hrd2 p (List.mem_of_getElem? hp)⟩
 clear h r2 r3
 refine i_ (n := 7) (vs := [v]) Tryz.func144 rfl rfl ?_
 refine a_ ?_
 refine c_ ?_
 refine k_ (ah_ rfl) (by decide) trivial ?_
 refine aE_ (r := [(0, v)]) ⟨rfl, trivial⟩ ?_
 refine nx ?_
 refine a_ ?_
 refine c_ ?_
 refine k_ (h_ rfl) (by decide) trivial ?_
 refine bI_ (by decide) trivial ?_
 refine p_ (my_ hsp hk hpL (by omega)) Tryz.call177 ⟨rfl, rfl, trivial⟩ ?_
 rintro e1 w1 ⟨rfl, ps1, hperm, hsor, hsp1, hst1⟩
 refine ⟨_, rfl, ?_⟩
 refine aE_ (r := [(0, v)]) ⟨rfl, trivial⟩ ?_
 refine nx ?_
 -- as the second call sees it
 let G : Nat := match v.ownBlock with | some g => g | none => w1.heap.size
 let wb : World := sl2 w1 G
 let oo : Tg := fun b => if o2 b = 0 then 0 else 1
 let o10 : Tg := fun b => if v.ownBlock = some b then 10 else if o2 b = 0 then 0 else 1
 have hGw : G ≤ w1.heap.size := by
  show (match v.ownBlock with | some g => g | none => w1.heap.size) ≤ _
  cases hv : v.ownBlock with
  | none => exact Nat.le_refl _
  | some g => exact Nat.le_of_lt (hsp1.ltw g hv).2
 have hBG : B ≤ G := by
  show B ≤ (match v.ownBlock with | some g => g | none => w1.heap.size)
  cases hv : v.ownBlock with
  | none => exact Nat.le_trans hB hst1.size
  | some g => exact (hsp1.ltw g hv).1
 have hwb : wb.heap.size = G := by show (w1.heap.extract 0 G).size = G; simp; omega
 have hog : ∀ g, v.ownBlock = some g → o2 g = k := hsp1.tagged
 have hBs : Bs oo o10 wb w1 := by
  refine ⟨⟨rfl, rfl, rfl, by rw [hwb]; exact hGw, fun b hb => ?_⟩, fun b hb => ?_⟩
  ·show w1.heap[b]? = (w1.heap.extract 0 G)[b]?
   rw [Array.getElem?_extract]
   rw [hwb] at hb
   rw [if_pos (by omega)]; simp
  ·rw [hwb] at hb
   show (if v.ownBlock = some b then 10 else if o2 b = 0 then 0 else 1) = if (if o2 b = 0 then 0 else 1) = 0 then 0 else 1
   rw [if_neg (fun e => by
    have : G = b := by show (match v.ownBlock with | some g => g | none => w1.heap.size) = b; rw [e]
    omega)]
   split <;> simp
 have hO : ∀ b, b < w1.heap.size → o10 b ≠ 999 := fun b _ => by
  show (if v.ownBlock = some b then 10 else if o2 b = 0 then 0 else 1) ≠ 999
  split
  ·decide
  ·split <;> decide
 have h10 : ∀ b, o2 b = 0 → o10 b = 0 := fun b hb => by
  show (if v.ownBlock = some b then 10 else if o2 b = 0 then 0 else 1) = 0
  rw [if_neg (fun e => by have := hog b e; rw [hb] at this; exact hk this.symm), if_pos hb]
 have hsp2 : Ow wb.heap.size 41 10 o10 w1 v ps1 := by
  obtain ⟨css, c1, c2, c3, c4⟩ := hsp1
  refine ⟨css, c1, ⟨c2.1, ?_⟩, fun g hg => if_pos hg, fun i cs p hc hp => ?_⟩
  ·rcases c2.2 with q | ⟨g, cap, cur, rfl, q⟩
   ·exact .inl q
   ·refine .inr ⟨g, cap, cur, rfl, ?_, q.2⟩
    rw [hwb]
    exact Nat.le_refl _
  ·obtain ⟨q1, q2, q3⟩ := c4 i cs p hc hp
   exact ⟨q1, q2, q3.mv (Nat.le_refl _) fun b _ hb => ⟨rfl, h10 b hb⟩⟩
 have hl1 : ps1.length ≤ 1000000000 := by rw [hperm.length_eq]; omega
 refine a_ ?_
 refine c_ ?_
 refine k_ (h_ rfl) (by decide) trivial ?_
 refine bI_ (by decide) trivial ?_
 refine p_ (dY_ 1000000001 wb w1 oo o10 hBs hO v ps1 hsp2 _ (pl_ ps1 hl1 (fun p hp => by have := hpL p (hperm.subset hp); omega) 1000000001 (by omega))) Tryz.call178 ⟨rfl, rfl, trivial⟩ ?_
 rintro e2 w2 ⟨v2, o3, rfl, hsp3, hBs3, hst2⟩
 refine ⟨_, rfl, ?_⟩
 refine k_ (ah_ rfl) (by decide) trivial ?_
 refine aE_ (r := [(2, v2)]) ⟨rfl, trivial⟩ ?_
 refine nx ?_
 refine m_ ?_
 refine H_ (P := Tryz.prog) (vs := [v2]) Tryz.results144 ⟨rfl, trivial⟩ ?_
 -- what is left
 have hxs := ra_ ps ps1 hpL hperm hsor
 rw [hpx] at hxs
 have hsub : (kp ps1 ps1.length).Sublist ps1 := oY_ ps1
 generalize kp ps1 ps1.length = r at hsp3 hxs hsub
 have hmem : ∀ p ∈ r, p ∈ ps := fun p hp => hperm.subset (hsub.subset hp)
 let o' : Tg := fun b => if b < w.heap.size then o b else if o3 b = 10 then k else 0
 have hstep : Stp k o w o' w2 := by
  refine ⟨hst2.os.trans hst1.os, hst2.tape.trans hst1.tape, hst2.output.trans hst1.output, Nat.le_trans hst1.size hst2.size, fun b hb hnk => ?_, fun b hb => if_pos hb⟩
  have e1 := hst1.block b hb (fun e => hnk (ho2' b e))
  have e2 := hst2.block b (Nat.lt_of_lt_of_le hb hst1.size) (fun e => by
   have e : (if v.ownBlock = some b then 10 else if o2 b = 0 then 0 else 1) = 10 := e
   split at e
   ·rename_i hv
    exact hnk (ho2' b (hog b hv))
   ·split at e <;> cases e)
  exact e2.trans e1
 have hrow2 : ∀ p ∈ r, Ow B 3 kr o' w2 p.v p.x := fun p hp => (hrow p (hmem p hp)).stp hstep hk hne
 have hapr : r.Pairwise apV := (hperm.symm.pairwise hap (fun {a b} hab g h1 h2 => hab g h2 h1)).sublist hsub
 refine ⟨v2, r.map fun p => ⟨p.v⟩, o', rfl, ?_, ⟨?_, ?_, ?_⟩, hstep⟩
 ·obtain ⟨css, c1, c2, c3, c4⟩ := hsp3
  refine ⟨css, by simpa using c1, ?_, fun g hg => ?_, fun i cs u hc hu => ?_⟩
  ·rw [List.length_map]
   obtain ⟨q1, q2⟩ := c2
   refine ⟨q1, ?_⟩
   rcases q2 with q2 | ⟨g, cap, cur, e, q3, q4⟩
   ·exact .inl q2
   ·rw [hwb] at q3
    exact .inr ⟨g, cap, cur, e, Nat.le_trans hBG q3, q4⟩
  ·have e3 := c3 g hg
   show (if g < w.heap.size then o g else if o3 g = 10 then k else 0) = k
   split
   ·rename_i hgl
    have hgl1 : g < w1.heap.size := Nat.lt_of_lt_of_le hgl hst1.size
    have e4 := hst2.own g hgl1
    rw [e3] at e4
    have e5 : (if v.ownBlock = some g then 10 else if o2 g = 0 then 0 else 1) = 10 := e4.symm
    split at e5
    ·rename_i hv
     exact ho2' g (hog g hv)
    ·split at e5 <;> cases e5
   ·simp
  ·rw [List.getElem?_map] at hu
   cases hp : r[i]? with
   | none => rw [hp] at hu; cases hu
   | some p =>
    rw [hp] at hu
    cases hu
    obtain ⟨q1, q2, _⟩ := c4 i cs p hc hp
    exact ⟨q1, q2⟩
 ·rw [List.length_map, ← hxs, List.length_map]
 ·intro i u x hu hx
  rw [List.getElem?_map] at hu
  rw [← hxs, List.getElem?_map] at hx
  cases hp : r[i]? with
  | none => rw [hp] at hu; cases hu
  | some p =>
   rw [hp] at hu hx
   cases hu; cases hx
   exact hrow2 p (List.mem_of_getElem? hp)
 ·intro i j u u' g hu hu' h1 h2
  rw [List.getElem?_map] at hu hu'
  cases hp : r[i]? with
  | none => rw [hp] at hu; cases hu
  | some p =>
   cases hq : r[j]? with
   | none => rw [hq] at hu'; cases hu'
   | some q =>
    rw [hp] at hu
    rw [hq] at hu'
    cases hu; cases hu'
    obtain ⟨hi, ei⟩ := List.getElem?_eq_some_iff.1 hp
    obtain ⟨hj, ej⟩ := List.getElem?_eq_some_iff.1 hq
    have hpw := List.pairwise_iff_getElem.1 hapr
    rcases Nat.lt_trichotomy i j with hlt | heq | hgt
    ·have := hpw i j hi hj hlt g
     rw [ei, ej] at this
     exact absurd h2 (this h1)
    ·exact heq
    ·have := hpw j i hj hi hgt g
     rw [ei, ej] at this
     exact absurd h1 (this h2)
end

section
open Go.RowKit
structure DrawnS (n h m : Nat) (l0 : List (Nat × Value)) (D : Nat → Nat) (cs : Nat → Option Nat) (R : Nat → Value → Tg → World → Prop) (Bf : Tg → World → Prop) (E : Nat → Value → Tg → World → Prop) (ec : Nat → Nat) (listed : Array Bool) (a : Act) (w : World) (o : Tg) : Prop where
  fr : Fr a n l0
  base : Bf o w
  done : ∀ i, i < h → listed.getD i false = true → (∀ k, cs i = some k → listed.getD k false = false) → R i (a.tmps.getD (D i) undef) o w
  res : ∀ e, e < m → listed.getD (ec e) false = false → E e undef o w

theorem oD_ {listed : Array Bool} {h i : Nat} (hsz : i < listed.size) (hi : i < h) (hil : listed.getD i true = false) :
  ((List.range h).filter fun j => !(listed.setIfInBounds i true).getD j true).length + 1 = ((List.range h).filter fun j => !listed.getD j true).length := by
 have e1 : ∀ (m : Nat), i < m → ((List.range m).filter fun j => !(listed.setIfInBounds i true).getD j true).length + 1 = ((List.range m).filter fun j => !listed.getD j true).length := by
  intro m
  induction m with
  | zero => intro h; omega
  | succ m ihm =>
   intro him
   rw [List.range_succ, List.filter_append, List.filter_append, List.length_append, List.length_append]
   by_cases e : i = m
   ·subst e
    have e2 : ((List.range i).filter fun j => !(listed.setIfInBounds i true).getD j true) = (List.range i).filter fun j => !listed.getD j true := by
     apply List.filter_congr
     intro j hj
     have := List.mem_range.1 hj
     rw [getD_set_ne true (by omega)]
    rw [e2]
    have e3 : (listed.setIfInBounds i true).getD i true = true := by simp
    simp only [List.filter_cons, List.filter_nil, e3, hil]; simp
   ·have := ihm (by omega)
    have e4 : (listed.setIfInBounds i true).getD m true = listed.getD m true := getD_set_ne true (by omega)
    simp only [List.filter_cons, List.filter_nil, e4]
    omega
 exact e1 h hi
section
variable {P : Program} {Q : Exit → Act → World → Prop} {n h m : Nat} {l0 : List (Nat × Value)} {ops : List Oper} {D : Nat → Nat} {ds es : Nat → List Nat} {cs : Nat → Option Nat}
  {R E : Nat → Value → Tg → World → Prop} {Bf : Tg → World → Prop} {tg ec : Nat → Nat}

theorem oi_ (hds : ∀ i, i < h → ∀ o w a, Fr a n l0 → Bf o w → (∀ e, e ∈ es i → E e undef o w) → (∀ j, j ∈ ds i → R j (a.tmps.getD (D j) undef) o w) → ∀ op, ops[i]? = some op → opS P ops.toArray op a w fun v w' => ∃ o', Stp (tg i) o w o' w' ∧ R i v o' w')
  (hsB : ∀ k o w o' w', k < h → Bf o w → Stp (tg k) o w o' w' → Bf o' w')
  (hsE : ∀ e k o w o' w', e < m → k < h → ec e ≠ k → E e undef o w → Stp (tg k) o w o' w' → E e undef o' w')
  (hsR : ∀ i k v o w o' w', i < h → k < h → i ≠ k → cs i ≠ some k → (∀ op, ops[i]? = some op → ∀ e ∈ op.after, Region.binds .any e = true → e.on ≠ k) → R i v o w → Stp (tg k) o w o' w' → R i v o' w')
  (hN : ∀ i, i < h → n ≤ D i → ∀ v v' o w, R i v o w → R i v' o w)
  (hD : ∀ i, i < h → ∃ op, ops[i]? = some op ∧ ((op.dst = some (D i) ∧ D i < n ∧ (l0.map (·.1)).contains (D i) = false) ∨ (op.dst = none ∧ n ≤ D i)) ∧ (∀ j, j < h → j ≠ i → D j ≠ D i) ∧
   (∀ j, j ∈ ds i → j < h ∧ (∃ e ∈ op.after, Region.binds .any e = true ∧ e.on = j) ∧ (cs j = none ∨ cs j = some i)) ∧
   (∀ e, e ∈ es i → e < m ∧ (ec e = i ∨ ∃ ok, ops[ec e]? = some ok ∧ ∃ e' ∈ ok.after, Region.binds .any e' = true ∧ e'.on = i)))
  (hlow : ∀ i op, ops[i]? = some op → ∀ e ∈ op.after, Region.binds .any e = true → e.on < i)
  (hh : h ≤ ops.length)
  (htl : ∀ listed, HeadInv .any ops.toArray h listed → ∀ i, i < h → listed.getD i true = false → ∀ t, h ≤ t → t ∉ Region.ready .any ops.toArray listed)
  (hsq : Region.seqB .any ops.toArray (ops.length - h) h ((Array.range ops.length).map fun i => decide (i < h)) = true)
  (hfin : ∀ a o w, Fr a n l0 → Bf o w → (∀ i, i < h → cs i = none → R i (a.tmps.getD (D i) undef) o w) → wpList P ops.toArray Q (ops.drop h) a w) :
  ∀ (d : Nat) (listed : Array Bool) (a : Act) (w : World) (o : Tg), DrawnS n h m l0 D cs R Bf E ec listed a w o → HeadInv .any ops.toArray h listed →
   ((List.range h).filter fun i => !listed.getD i true).length = d → wpAny P .any ops.toArray Q (d + (ops.length - h)) listed a w := by
 intro fuel
 induction fuel with
 | zero =>
  intro listed a w o hJ hI heq
  have h0 : (List.range h).filter (fun i => !listed.getD i true) = [] := List.eq_nil_of_length_eq_zero heq
  have hall : ∀ i, i < h → listed.getD i true = true := by
   intro i hi
   have := List.filter_eq_nil_iff.1 h0 i (List.mem_range.2 hi)
   simpa using this
  have hlist : listed = (Array.range ops.length).map fun i => decide (i < h) := by
   apply Array.ext (by simp [hI.size])
   intro i h1 h2
   have h3 : i < ops.length := by simpa [hI.size] using h1
   simp only [Array.getElem_map, Array.getElem_range]
   by_cases hi : i < h
   ·have := hall i hi
    simp [h1] at this
    simp [this, hi]
   ·have := hI.tail i (by omega) (by simpa using h3)
    simp [h1] at this
    simp [this, hi]
  have := wpAny_of_seq (P := P) (md := .any) (ops := ops.toArray) (Q' := Q) (ops.drop h) h listed a w (fun j => by simp [List.getElem?_drop]) (by rw [hlist]; simpa using hsq)
   (hfin a o w hJ.fr hJ.base fun i hi hc => hJ.done i hi (by
    have h1 := hall i hi
    have h2 : i < listed.size := by rw [hI.size]; simp; omega
    simp [h2] at h1 ⊢; exact h1) (fun k hk => by rw [hc] at hk; cases hk))
  have hl : (ops.drop h).length = 0 + (ops.length - h) := by simp
  rw [hl] at this
  exact this
 | succ fuel ih =>
  intro listed a w o hJ hI heq
  rw [show fuel + 1 + (ops.length - h) = (fuel + (ops.length - h)) + 1 by omega]
  have hne : (List.range h).filter (fun i => !listed.getD i true) ≠ [] := fun e => by rw [e] at heq; simp at heq
  obtain ⟨i0, hi0⟩ := List.exists_mem_of_ne_nil _ hne
  have hi0h := List.mem_range.1 (List.mem_filter.1 hi0).1
  have hi0l : listed.getD i0 true = false := by simpa using (List.mem_filter.1 hi0).2
  refine ⟨fun hr => ?_, fun i hi => ?_⟩
  ·exfalso
   have key : ∀ (d i : Nat), i = d → i < h → listed.getD i true = false → ∃ j, j ∈ Region.ready .any ops.toArray listed := by
    intro d
    induction d using Nat.strongRecOn with
    | _ d ihd =>
     intro i hid hih hil
     obtain ⟨op, hop, _⟩ := hD i hih
     by_cases hall : ∀ e ∈ op.after, Region.binds .any e = true → listed.getD e.on false = true
     ·exact ⟨i, mem_ready.2 ⟨hil, op, by simpa using hop, hall⟩⟩
     ·have : ∃ e, e ∈ op.after ∧ Region.binds .any e = true ∧ listed.getD e.on false = false := by
       apply Classical.byContradiction
       intro hno
       apply hall
       intro e he hb
       cases hc : listed.getD e.on false with
       | true => rfl
       | false => exact absurd ⟨e, he, hb, hc⟩ hno
      obtain ⟨e, he, hb, hc⟩ := this
      have hlt := hlow i op hop e he hb
      have hsz : e.on < listed.size := by rw [hI.size]; simp; omega
      exact ihd e.on (by omega) e.on rfl (by omega) (getD_in hsz hc)
   obtain ⟨j, hj⟩ := key i0 i0 rfl hi0h hi0l
   rw [hr] at hj
   cases hj
  ·have hih : i < h := by
    apply Nat.lt_of_not_le
    intro hle
    exact htl listed hI i0 hi0h hi0l i hle hi
   obtain ⟨op, hop, hdst, hdist, hdeps, hres⟩ := hD i hih
   obtain ⟨hil, op', hop', hafter⟩ := mem_ready.1 hi
   have e : op' = op := by
    have : ops.toArray[i]? = ops[i]? := by simp
    rw [this, hop] at hop'
    exact (Option.some.inj hop').symm
   subst e
   have hsz : i < listed.size := by rw [hI.size]; simp; omega
   unfold wpOp
   rw [hop']
   have hob := hds i hih o w a hJ.fr hJ.base (fun e he => by
    obtain ⟨hem, hc⟩ := hres e he
    refine hJ.res e hem ?_
    rcases hc with hc | ⟨ok, hok, e', he', hb', hon⟩
    ·rw [hc]; exact getD_both hil
    ·cases hl : listed.getD (ec e) false with
     | false => rfl
     | true =>
      have := hI.closed (ec e) ok (by simpa using hok) hl e' he' hb'
      rw [hon, getD_both hil] at this
      cases this) (fun j hj => by
    obtain ⟨hjh, ⟨ed, hed1, hed2, hed3⟩, hc⟩ := hdeps j hj
    refine hJ.done j hjh (by rw [← hed3]; exact hafter ed hed1 hed2) (fun k hk => ?_)
    rcases hc with hc | hc
    ·rw [hc] at hk; cases hk
    ·rw [hc] at hk
     cases hk
     exact getD_both hil) op' hop
   have hnext : ∀ (v : Value) (w' : World) (o' : Tg), Stp (tg i) o w o' w' → R i v o' w' → wpAny P .any ops.toArray Q (fuel + (ops.length - h)) (listed.setIfInBounds i true) (a.put op'.dst v) w' := by
    intro v w' o' hst hR
    have hc := oD_ hsz hih hil
    have hres' : ∀ e, e < m → (listed.setIfInBounds i true).getD (ec e) false = false → E e undef o' w' := fun e he hl => by
     have hne : ec e ≠ i := fun h => by rw [h] at hl; simp [hsz] at hl
     rw [getD_set_ne false (fun h => hne h.symm)] at hl
     exact hsE e i o w o' w' he hih hne (hJ.res e he hl) hst
    have hold : ∀ j, j < h → j ≠ i → (listed.setIfInBounds i true).getD j false = true → (∀ k, cs j = some k → (listed.setIfInBounds i true).getD k false = false) → R j (a.tmps.getD (D j) undef) o' w' := fun j hj hji hlj hcj => by
     rw [getD_set_ne false (fun e => hji e.symm)] at hlj
     have hcs : cs j ≠ some i := by
      intro e
      have := hcj i e
      simp [hsz] at this
     refine hsR j i _ o w o' w' hj hih hji hcs (fun oj hoj e he hb hon => ?_) (hJ.done j hj hlj fun k hk => ?_) hst
     ·have := hI.closed j oj (by simpa using hoj) hlj e he hb
      rw [hon, getD_both hil] at this
      cases this
     have := hcj k hk
     by_cases hki : k = i
     ·subst hki; exact absurd hk hcs
     ·rw [getD_set_ne false (fun e => hki e.symm)] at this; exact this
    rcases hdst with ⟨hdst, hDn, hbase⟩ | ⟨hdst, hDn⟩
    ·rw [hdst]
     refine ih _ _ _ o' ⟨hJ.fr.put_ne hbase v, hsB i o w o' w' hih hJ.base hst, fun j hj hlj hcj => ?_, hres'⟩ (hI.set hi hih) (by omega)
     by_cases hji : j = i
     ·subst hji
      have : ((a.put (some (D j)) v).tmps.getD (D j) undef) = v := by
       have hlt : D j < a.tmps.size := by rw [hJ.fr.size]; exact hDn
       simp [Act.put, Array.getD_eq_getD_getElem?, hlt]
      rw [this]; exact hR
     ·have hne := hdist j hj hji
      have : ((a.put (some (D i)) v).tmps.getD (D j) undef) = a.tmps.getD (D j) undef := by
       simp only [Act.put, Array.getD_eq_getD_getElem?]
       rw [Array.getElem?_setIfInBounds_ne (Ne.symm hne)]
      rw [this]
      exact hold j hj hji hlj hcj
    ·rw [hdst]
     refine ih _ _ _ o' ⟨hJ.fr, hsB i o w o' w' hih hJ.base hst, fun j hj hlj hcj => ?_, hres'⟩ (hI.set hi hih) (by omega)
     by_cases hji : j = i
     ·subst hji; exact hN j hih hDn _ _ _ _ hR
     ·exact hold j hj hji hlj hcj
   unfold opS at hob
   simp only [hop', ]
   by_cases hw : Region.wanted op' (yielded ops.toArray a.tmps) = true
   ·rw [if_pos hw] at hob ⊢
    refine .inl (fb_ ?_ ?_ hob)
    ·rintro a' w' ⟨v, rfl, o', hst, hR⟩
     exact hnext v w' o' hst hR
    ·intro _ _ _ h; exact h.elim
   ·rw [if_neg hw] at hob ⊢
    obtain ⟨o', hst, hR⟩ := hob
    have := hnext undef w o' hst hR
    rcases hdst with ⟨hdst, _⟩ | ⟨hdst, _⟩
    ·exact this
    ·exact this
end

def Res (El : List Pr) (o : Tg) (w : World) : List Nat → Prop
  | [] => True
  | e :: es => (El.getD e prT) undef o w ∧ Res El o w es
theorem Res.of {El : List Pr} {o : Tg} {w : World} : ∀ {es : List Nat}, (∀ e, e ∈ es → (El.getD e prT) undef o w) → Res El o w es
 | [], _ => trivial
 | e :: es, h => ⟨h e (by simp), Res.of fun i hi => h i (by simp [hi])⟩
def AllE (o : Tg) (w : World) : List Pr → Prop
  | [] => True
  | p :: ps => p undef o w ∧ AllE o w ps
theorem AllE.get {o : Tg} {w : World} : ∀ {ps : List Pr}, AllE o w ps → ∀ e, (ps.getD e prT) undef o w
 | [], _, _ => trivial
 | p :: ps, h, 0 => h.1
 | p :: ps, h, e + 1 => by simpa using AllE.get h.2 e
def AllN : List Bool → List Pr → Prop
  | true :: bs, p :: ps => (∀ v v' o w, p v o w → p v' o w) ∧ AllN bs ps
  | false :: bs, _ :: ps => True ∧ AllN bs ps
  | _, _ => True
theorem AllN.get : ∀ {bs : List Bool} {ps : List Pr}, AllN bs ps → ∀ i, bs.getD i false = true → ∀ v v' o w, (ps.getD i prT) v o w → (ps.getD i prT) v' o w
 | [], ps, _, i, hb => by simp at hb
 | true :: bs, [], _, i, hb => fun _ _ _ _ _ => trivial
 | false :: bs, [], _, i, hb => fun _ _ _ _ _ => trivial
 | true :: bs, p :: ps, h, 0, _ => h.1
 | false :: bs, p :: ps, h, 0, hb => by simp at hb
 | true :: bs, p :: ps, h, i + 1, hb => by simpa using AllN.get h.2 i (by simpa using hb)
 | false :: bs, p :: ps, h, i + 1, hb => by simpa using AllN.get h.2 i (by simpa using hb)
def ObsS (P : Program) (all : List Oper) (n : Nat) (l0 : List (Nat × Value)) (Bf : Tg → World → Prop) (El : List Pr) (Dl : List Nat) (Rl : List Pr) (tgl : List Nat) (dsl esl : List (List Nat)) : Nat → List Oper → Prop
  | _, [] => True
  | i, op :: ops => (∀ o w a, Fr a n l0 → Bf o w → Res El o w (esl.getD i []) → Deps Dl Rl a o w (dsl.getD i []) → opS P all.toArray op a w fun v w' => ∃ o', Stp (tgl.getD i 999) o w o' w' ∧ (Rl.getD i prT) v o' w') ∧ ObsS P all n l0 Bf El Dl Rl tgl dsl esl (i + 1) ops
theorem ObsS.get {P : Program} {all : List Oper} {n : Nat} {l0 : List (Nat × Value)} {Bf : Tg → World → Prop} {El : List Pr} {Dl : List Nat} {Rl : List Pr} {tgl : List Nat} {dsl esl : List (List Nat)} :
  ∀ {ops : List Oper} {k : Nat}, ObsS P all n l0 Bf El Dl Rl tgl dsl esl k ops → ∀ i op, ops[i]? = some op → ∀ o w a, Fr a n l0 → Bf o w → Res El o w (esl.getD (k + i) []) → Deps Dl Rl a o w (dsl.getD (k + i) []) →
   opS P all.toArray op a w fun v w' => ∃ o', Stp (tgl.getD (k + i) 999) o w o' w' ∧ (Rl.getD (k + i) prT) v o' w'
 | [], k, _, i, op, h => by simp at h
 | o :: ops, k, hO, 0, op, h => by simp at h; subst h; exact hO.1
 | o :: ops, k, hO, i + 1, op, h => by
  have := ObsS.get hO.2 i op (by simpa using h)
  rw [show k + 1 + i = k + (i + 1) by omega] at this
  exact this
def drawnSB (ops : Array Oper) (n : Nat) (base Dl : List Nat) (dsl : List (List Nat)) (csl : List (Option Nat)) (tgl bdl tags ecl ebl : List Nat) (esl : List (List Nat)) (sts : List Bool) : Bool :=
  decide (Dl.length ≤ ops.size) && tags.contains 999 && tags.all (fun t => decide (t ≠ 0 ∧ t ≤ 999)) &&
  ((List.range Dl.length).all fun i =>
    (match ops[i]? with
      | some o => (o.dst == some (Dl.getD i 0) && decide (Dl.getD i 0 < n) && !base.contains (Dl.getD i 0)) || (o.dst == none && decide (n ≤ Dl.getD i 0) && sts.getD i false)
      | none => false) &&
    ((List.range Dl.length).all fun j => decide (j = i) || (decide (Dl.getD j 0 ≠ Dl.getD i 0) && (csl.getD i none == some j || decide (tgl.getD j 999 ≠ bdl.getD i 0) || Region.waitsFor .any ops i j))) &&
    ((dsl.getD i []).all fun j => decide (j < Dl.length) && Region.waitsFor .any ops i j && (csl.getD j none == none || csl.getD j none == some i)) &&
    ((esl.getD i []).all fun e => decide (e < ecl.length) && (ecl.getD e 0 == i || Region.waitsFor .any ops (ecl.getD e 0) i)) &&
    tags.contains (tgl.getD i 999)) &&
  ((List.range ops.size).all fun i => match ops[i]? with | some o => o.after.all (fun e => !Region.binds .any e || decide (e.on < i)) | none => true) &&
  ((List.range ecl.length).all fun e => decide (ebl.getD e 0 ≠ 999) && (List.range Dl.length).all fun k => ecl.getD e 0 == k || decide (tgl.getD k 999 ≠ ebl.getD e 0)) &&
  (decide (Dl.length = ops.size) || (Region.sinkB .any ops Dl.length && Region.chainB .any ops Dl.length)) &&
  Region.seqB .any ops (ops.size - Dl.length) Dl.length ((Array.range ops.size).map fun i => decide (i < Dl.length))

theorem hI_ {P : Program} {Q : Exit → Act → World → Prop} {n id : Nat} {l : List (Nat × Value)} {ops : List Oper} {w : World} {o : Tg}
  (l0 : List (Nat × Value)) (base Dl : List Nat) (dsl : List (List Nat)) (csl : List (Option Nat)) (tgl bdl tags ecl ebl : List Nat) (esl : List (List Nat)) (sts : List Bool) (Rl El : List Pr) (Bf : Tg → World → Prop)
  (hm : P.follows .mixedOrders = true) (hchk : drawnSB ops.toArray n base Dl dsl csl tgl bdl tags ecl ebl esl sts = true) (hbase : l0.map (·.1) = base) (hsub : Sub l0 l) (hB0 : Bf o w) (hE0 : AllE o w El)
  (hSB : ∀ t o w o' w', t ∈ tags → Bf o w → Stp t o w o' w' → Bf o' w') (hSR : AllSt bdl Rl) (hSE : AllSt ebl El) (hNN : AllN sts Rl) (hob : ObsS P ops n l0 Bf El Dl Rl tgl dsl esl 0 (ops.take Dl.length))
  (hfin : ∀ o w a, Fr a n l0 → Bf o w → Fin a o w Dl csl Rl → wpList P ops.toArray Q (ops.drop Dl.length) a w) : wpC P (.region id ops.toArray true) Q n l w := by
 intro a ha
 simp only [drawnSB, Bool.and_eq_true] at hchk
 obtain ⟨⟨⟨⟨⟨⟨⟨c1, c2⟩, c3⟩, c4⟩, c5⟩, c6⟩, c7⟩, c8⟩ := hchk
 have hh : Dl.length ≤ ops.length := by simpa using c1
 have h999 : 999 ∈ tags := by simpa using c2
 have htags : ∀ t, t ∈ tags → t ≠ 0 ∧ t ≤ 999 := fun t ht => by simpa using List.all_eq_true.1 c3 t ht
 have c4' : ∀ i, i < Dl.length → _ := fun i hi => List.all_eq_true.1 c4 i (List.mem_range.2 hi)
 simp only [Bool.and_eq_true] at c4'
 have c6' : ∀ e, e < ecl.length → _ := fun e he => List.all_eq_true.1 c6 e (List.mem_range.2 he)
 simp only [Bool.and_eq_true] at c6'
 refine wp_region_any hm ?_
 have hinv : HeadInv .any ops.toArray Dl.length (Array.replicate ops.toArray.size false) :=
  ⟨by simp, fun j oj _ hl => (by rw [getD_replicate_false] at hl; cases hl), fun t _ ht => getD_in (by simpa using ht) (getD_replicate_false _ _)⟩
 have hcnt : ((List.range Dl.length).filter fun i => !(Array.replicate ops.toArray.size false).getD i true).length = Dl.length := by
  rw [List.filter_eq_self.2]
  ·simp
  ·intro i hi
   have hi' := List.mem_range.1 hi
   have : (Array.replicate ops.toArray.size false).getD i true = false := getD_in (by simp; omega) (getD_replicate_false _ _)
   rw [this]; rfl
 have := oi_ (P := P) (Q := Q) (n := n) (h := Dl.length) (m := ecl.length) (l0 := l0) (ops := ops) (D := fun i => Dl.getD i 0) (ds := fun i => dsl.getD i []) (es := fun i => esl.getD i []) (cs := fun i => csl.getD i none)
  (R := fun i => Rl.getD i prT) (E := fun e => El.getD e prT) (Bf := Bf) (tg := fun i => tgl.getD i 999) (ec := fun e => ecl.getD e 0)
  (fun i hi o w a hf hb he hd op hop => by
   have := ObsS.get hob i op (by rw [List.getElem?_take, if_pos hi]; exact hop) o w a hf hb (by rw [Nat.zero_add]; exact Res.of he) (by rw [Nat.zero_add]; exact Deps.of hd)
   rw [Nat.zero_add] at this; exact this)
  (fun k o w o' w' hk hb hs => hSB _ o w o' w' (by have := (c4' k hk).2; simpa using this) hb hs)
  (fun e k o w o' w' he hk hne hE hs => by
   have h1 := (c4' k hk).2
   have h2 := List.all_eq_true.1 (c6' e he).2 k (List.mem_range.2 hk)
   simp only [Bool.or_eq_true, beq_iff_eq, decide_eq_true_eq] at h2
   rcases h2 with h2 | h2
   ·exact absurd h2 hne
   ·exact hSE.get e _ undef o w o' w' (htags _ (by simpa using h1)) h2 hE hs)
  (fun i k v o w o' w' hi hk hik hcs hno hR hs => by
   have h1 := (c4' k hk).2
   have h2 := List.all_eq_true.1 (c4' i hi).1.1.1.2 k (List.mem_range.2 hk)
   simp only [Bool.or_eq_true, Bool.and_eq_true, decide_eq_true_eq, beq_iff_eq] at h2
   rcases h2 with h2 | ⟨_, h2⟩
   ·exact absurd h2.symm hik
   ·rcases h2 with (h2 | h2) | h2
    ·exact absurd h2 hcs
    rotate_left
    ·obtain ⟨oj, hoj, e, he, hb, hon⟩ := Region.waitsFor_spec h2
     exact absurd hon (hno oj (by simpa using hoj) e he hb)
    ·exact hSR.get i _ v o w o' w' (htags _ (by simpa using h1)) h2 hR hs)
  (fun i hi hDn v v' o w hR => by
   have h1 := (c4' i hi).1.1.1.1
   have hlt : i < ops.length := by omega
   have hop : ops[i]? = some (ops[i]'hlt) := List.getElem?_eq_getElem hlt
   simp only [List.getElem?_toArray, hop, Bool.or_eq_true, Bool.and_eq_true, decide_eq_true_eq] at h1
   rcases h1 with ⟨⟨_, h1⟩, _⟩ | ⟨_, h1⟩
   ·omega
   ·exact hNN.get i h1 v v' o w hR)
  (fun i hi => by
   obtain ⟨⟨⟨⟨g1, g4⟩, g5⟩, g6⟩, g7⟩ := c4' i hi
   have hlt : i < ops.length := by omega
   have hop : ops[i]? = some (ops[i]'hlt) := List.getElem?_eq_getElem hlt
   refine ⟨_, hop, ?_, fun j hj hji => ?_, fun j hj => ?_, fun e he => ?_⟩
   ·simp only [List.getElem?_toArray, hop, Bool.or_eq_true, Bool.and_eq_true, decide_eq_true_eq, beq_iff_eq] at g1
    rcases g1 with ⟨⟨q1, q2⟩, q3⟩ | ⟨⟨q1, q2⟩, _⟩
    ·exact .inl ⟨q1, q2, by rw [hbase]; simpa using q3⟩
    ·exact .inr ⟨q1, q2⟩
   ·have := List.all_eq_true.1 g4 j (List.mem_range.2 hj)
    simp only [Bool.or_eq_true, Bool.and_eq_true, decide_eq_true_eq] at this
    rcases this with h | h
    ·exact absurd h hji
    ·exact h.1
   ·have := List.all_eq_true.1 g5 j hj
    simp only [Bool.and_eq_true, decide_eq_true_eq, Bool.or_eq_true, beq_iff_eq] at this
    obtain ⟨⟨k1, k2⟩, k3⟩ := this
    obtain ⟨oj, hoj, e, he, hb, hon⟩ := Region.waitsFor_spec k2
    have : oj = ops[i]'hlt := by
     simp only [List.getElem?_toArray, hop] at hoj
     exact (Option.some.inj hoj).symm
    subst this
    exact ⟨k1, ⟨e, he, hb, hon⟩, k3⟩
   ·have := List.all_eq_true.1 g6 e he
    simp only [Bool.and_eq_true, decide_eq_true_eq, Bool.or_eq_true, beq_iff_eq] at this
    refine ⟨this.1, this.2.imp (fun h => h) fun h => ?_⟩
    obtain ⟨ok, hok, e', he', hb, hon⟩ := Region.waitsFor_spec h
    exact ⟨ok, by simpa using hok, e', he', hb, hon⟩)
  (fun i op hop e he hb => by
   have hlt : i < ops.length := (List.getElem?_eq_some_iff.1 hop).1
   have := List.all_eq_true.1 c5 i (List.mem_range.2 (by simpa using hlt))
   simp only [List.getElem?_toArray, hop] at this
   have h2 := Array.all_eq_true_iff_forall_mem.1 this e he
   simp only [Bool.or_eq_true, Bool.not_eq_true', decide_eq_true_eq] at h2
   rcases h2 with h2 | h2
   ·rw [hb] at h2; cases h2
   ·exact h2)
  hh
  (fun listed hI i hi hil t ht hr => by
   simp only [Bool.or_eq_true, Bool.and_eq_true, decide_eq_true_eq] at c7
   rcases c7 with c7 | ⟨c7, c7'⟩
   ·obtain ⟨_, ot, hot, _⟩ := mem_ready.1 hr
    have := (Array.getElem?_eq_some_iff.1 hot).1
    omega
   ·by_cases hn : Dl.length < ops.toArray.size
    ·exact tail_waits c7 c7' hn hI _ i rfl hi hil t ht hr
    ·obtain ⟨_, ot, hot, _⟩ := mem_ready.1 hr
     have := (Array.getElem?_eq_some_iff.1 hot).1
     omega)
  (by simpa using c8)
  (fun a o w hf hb hd => hfin o w a hf hb (Fin.of hd))
  Dl.length (Array.replicate ops.toArray.size false) a { w with drawn := w.drawn + 1 } o
  ⟨ha.sub hsub, hSB 999 o w o _ h999 hB0 (is_ o w 999), fun i hi hl => (by rw [getD_replicate_false] at hl; cases hl), fun e he _ => by
   have h1 := (c6' e he).1
   simp only [decide_eq_true_eq] at h1
   exact hSE.get e 999 undef o w o _ (htags 999 h999) (fun h => h1 h.symm) (hE0.get e) (is_ o w 999)⟩ hinv hcnt
 rw [show Dl.length + (ops.length - Dl.length) = ops.toArray.size by simp; omega] at this
 exact this
end

end Go.Proofs.YtdbbeldgdgonfaaGreat
