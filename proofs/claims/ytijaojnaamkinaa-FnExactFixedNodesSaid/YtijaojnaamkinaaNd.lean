/- Orbits and fixed nodes: what both sides compute. -/
import Derived.Test.YtijaojnaamkinaaNc
import Derived.Test.YtijaojnaamkinaaGNd
namespace Go.Proofs.Ytijaojnaamkinaa
set_option linter.unusedSimpArgs false
set_option linter.unusedVariables false

/-! ### The first node with the same code -/
def firstE (c : Nat → List Int) (j v : Nat) : Nat := (List.range j).findIdx fun u => decide (c u = c v)
def orbN (c : Nat → List Int) (v : Nat) : Nat := firstE c (v + 1) v
theorem findIdx_range {p : Nat → Bool} {n : Nat} (h : (List.range n).findIdx p < n) : p ((List.range n).findIdx p) = true := by
  have := List.findIdx_getElem (xs := List.range n) (p := p) (w := by simpa using h)
  simpa using this
theorem findIdx_before {p : Nat → Bool} {n u : Nat} (h : u < (List.range n).findIdx p) : p u = false := by
  have hl : u < n := by
    have := List.findIdx_le_length (xs := List.range n) (p := p)
    simp at this; omega
  have := List.not_of_lt_findIdx (xs := List.range n) (p := p) h
  simpa using this
theorem findIdx_le {p : Nat → Bool} {n u : Nat} (hu : u < n) (h : p u = true) : (List.range n).findIdx p ≤ u := by
  rcases Nat.lt_or_ge u ((List.range n).findIdx p) with h1 | h1
  · rw [findIdx_before h1] at h; cases h
  · exact h1
theorem orbN_le (c : Nat → List Int) (v : Nat) : orbN c v ≤ v := findIdx_le (Nat.lt_succ_self v) (by simp)
theorem orbN_eq (c : Nat → List Int) (v : Nat) : c (orbN c v) = c v := by
  have h : orbN c v < v + 1 := Nat.lt_succ_of_le (orbN_le c v)
  have := findIdx_range (p := fun u => decide (c u = c v)) (n := v + 1) h
  simpa [orbN, firstE] using this
theorem orbN_min (c : Nat → List Int) (v u : Nat) (h : u < orbN c v) : c u ≠ c v := by
  have := findIdx_before (p := fun u => decide (c u = c v)) (n := v + 1) (u := u) h
  simpa using this
theorem orbN_same (c : Nat → List Int) {u v : Nat} (h : c u = c v) : orbN c u = orbN c v := by
  rcases Nat.lt_trichotomy (orbN c u) (orbN c v) with h1 | h1 | h1
  · exact absurd ((orbN_eq c u).trans h) (orbN_min c v _ h1)
  · exact h1
  · exact absurd ((orbN_eq c v).trans h.symm) (orbN_min c u _ h1)
theorem orbN_idem (c : Nat → List Int) (v : Nat) : orbN c (orbN c v) = orbN c v := orbN_same c (orbN_eq c v)
theorem orbN_iff (c : Nat → List Int) (u v : Nat) : orbN c u = orbN c v ↔ c u = c v := ⟨fun h => (orbN_eq c u).symm.trans (by rw [h]; exact orbN_eq c v), orbN_same c⟩
def cdN (p : T_Network) (v : Nat) : List Int := codeN p (walkN p v)
def orbL (p : T_Network) : List Int := (List.range p.Ends.length).map fun v => (orbN (cdN p) v : Int)
theorem cdN_len {p : T_Network} (g : GoodN p) {v : Nat} (hv : v < p.Ends.length) : (cdN p v).length ≤ 1000 := codeN_len g (v := (v : Int)) (by omega)
def outN (p : T_Network) (j : Nat) : List Int := (List.range p.Ends.length).map fun i => if i < j then (orbN (cdN p) i : Int) else 0
theorem outN_get (p : T_Network) {i j : Nat} (hi : i < p.Ends.length) : (outN p j)[i]? = some (if i < j then (orbN (cdN p) i : Int) else 0) := by
  unfold outN
  rw [List.getElem?_map, List.getElem?_range hi]; rfl
theorem outN_set (p : T_Network) {j : Nat} (hj : j < p.Ends.length) : (outN p j).set j (orbN (cdN p) j : Int) = outN p (j + 1) := by
  refine List.ext_getElem? fun i => ?_
  rw [List.getElem?_set]
  by_cases hi : i < p.Ends.length
  · rw [outN_get p hi, outN_get p hi]
    by_cases e : j = i
    · subst e; rw [if_pos rfl, if_pos (by simpa [outN] using hj), if_pos (by omega)]
    · rw [if_neg e]
      by_cases h : i < j
      · rw [if_pos h, if_pos (by omega)]
      · rw [if_neg h, if_neg (by omega)]
  · rw [if_neg (by omega)]
    rw [List.getElem?_eq_none (by simp [outN]; omega), List.getElem?_eq_none (by simp [outN]; omega)]
theorem codes_get (c : Nat → List Int) {i j : Nat} (h : i < j) : ((List.range j).map c)[i]? = some (c i) := by
  rw [List.getElem?_map, List.getElem?_range h]; rfl
theorem outN_0 (p : T_Network) : outN p 0 = List.replicate p.Ends.length 0 := by
  refine List.ext_getElem (by simp [outN]) fun i h1 h2 => ?_
  simp [outN]
theorem outN_n (p : T_Network) : outN p p.Ends.length = orbL p := by
  refine List.map_congr_left fun i hi => ?_
  rw [if_pos (List.mem_range.1 hi)]
theorem push_codes (p : T_Network) {j : Nat} (hj : j < 1000) : push ((List.range j).map (cdN p)) (cdN p j) = some ((List.range (j + 1)).map (cdN p)) := by
  unfold push
  rw [if_pos (by simp; omega), List.range_succ, List.map_append]; rfl
theorem isOrbits_round (fuel : Nat) (hf : 100 ≤ fuel) (p : T_Network) (g : GoodN p) {j : Nat} (hj : j < p.Ends.length) :
    fS_isOrbits_s1 fuel p j ((List.range j).map (cdN p), outN p j) = some (.go ((List.range (j + 1)).map (cdN p), outN p (j + 1))) := by
  have hn := g.n2
  unfold fS_isOrbits_s1
  simp only
  rw [e_isFrom fuel hf p g j (by omega), sb, show codeN p (walkN p (j : Int)) = cdN p j from rfl, push_codes p (by omega), sb]
  have hlen : (outN p j).length = p.Ends.length := by simp [outN]
  have hle := orbN_le (cdN p) j
  have hset : ∀ m : Int, ((outN p j).set j m)[j]? = some m := fun m => by rw [List.getElem?_set_self (by omega)]
  have key : loopF (fS_isOrbits_s2 (j : Int) ((List.range (j + 1)).map (cdN p))) fuel ((outN p j).set j ((0 : Nat) : Int)) = some (.inl ((outN p j).set j (orbN (cdN p) j : Int))) :=
    loopF_nz (f := fS_isOrbits_s2 (j : Int) ((List.range (j + 1)).map (cdN p))) (fun m => (outN p j).set j (m : Int)) (orbN (cdN p) j) _ (fun m hm => by
      unfold fS_isOrbits_s2
      have h1 := cdN_len g (show m < p.Ends.length by omega)
      rw [ix_nat, hset, sb, ix_nat, codes_get _ (by omega), sb, ix_nat, codes_get _ (by omega), sb, e_l1Same _ _ (by omega), sb]
      have hne := orbN_min (cdN p) j m hm
      rw [if_pos (by simp [hne]), sb, ck_in (by omega) (by omega), sb, sb, st_nat _ _ _ (by simp; omega), sb]
      simp) (by
      unfold fS_isOrbits_s2
      have h1 := cdN_len g (show orbN (cdN p) j < p.Ends.length by omega)
      rw [ix_nat, hset, sb, ix_nat, codes_get _ (by omega), sb, ix_nat, codes_get _ (by omega), sb, e_l1Same _ _ (by omega), sb]
      rw [if_neg (by simp [orbN_eq (cdN p) j])]) fuel (by omega)
  have e0 : (outN p j).set j ((0 : Nat) : Int) = outN p j := by
    refine List.ext_getElem? fun i => ?_
    rw [List.getElem?_set]
    by_cases e : j = i
    · subst e; rw [if_pos rfl, if_pos (by omega), outN_get p hj, if_neg (by omega)]; rfl
    · rw [if_neg e]
  rw [e0] at key
  rw [key, sb]
  simp only
  rw [outN_set p hj]
theorem e_isOrbits (fuel : Nat) (hf : 100 ≤ fuel) (p : T_Network) (g : GoodN p) : fS_isOrbits fuel p = some (orbL p) := by
  unfold fS_isOrbits mk
  have hn := g.n2
  rw [if_pos (by omega), sb, ck_in (by omega) (by omega), sb, Int.toNat_natCast]
  have := forN_inv0 (ρ := List Int) (body := fS_isOrbits_s1 fuel p) (fun j => ((List.range j).map (cdN p), outN p j)) p.Ends.length (fun j hj => isOrbits_round fuel hf p g hj)
  simp only [List.range_zero, List.map_nil, outN_0] at this
  rw [show (Rz.z : Int) = 0 from rfl, this, sb]
  simp only
  rw [outN_n]
/-! ### The program -/
theorem e_IndexFuncL (xs : List (List Int)) (f : List Int → Option Bool) (g : List Int → Bool) (hf : ∀ x, x ∈ xs → f x = some (g x)) (hl : xs.length ≤ 1000000000) :
    fX_slices_IndexFunc_LLint_int xs f = some ((firstP (fun k x => if g x then some (k : Int) else none) xs 0).getD (-1)) := by
  unfold fX_slices_IndexFunc_LLint_int
  rw [ck_in (by omega) (by omega), sb]
  simp only [Int.toNat_natCast]
  rw [forN_first0 (fun k x => if g x then some (k : Int) else none) xs (fun j x hj _ => by
    unfold fX_slices_IndexFunc_LLint_int_s1
    rw [ix_nat, hj, sb, hf x (List.mem_of_getElem? hj), sb]
    cases h : g x <;> simp [h, lpP]), sb]
  cases firstP (fun k x => if g x then some (k : Int) else none) xs 0 <;> rfl
theorem first_codes (p : T_Network) (j : Nat) : (firstP (fun k x => if decide (x = cdN p j) then some (k : Int) else none) ((List.range j).map (cdN p)) 0).getD (-1) = if orbN (cdN p) j < j then (orbN (cdN p) j : Int) else -1 := by
  cases h : firstP (fun k x => if decide (x = cdN p j) then some (k : Int) else none) ((List.range j).map (cdN p)) 0 with
  | none =>
    have hn : ¬ orbN (cdN p) j < j := fun hlt => by
      have := firstP_none.1 h (orbN (cdN p) j) _ (codes_get (cdN p) hlt)
      rw [orbN_eq (cdN p) j] at this
      simp at this
    rw [if_neg hn]; rfl
  | some r =>
    -- the first that passes
    have hfirst : ∀ (xs : List (List Int)) (k : Nat) (r : Int), firstP (fun k x => if decide (x = cdN p j) then some (k : Int) else none) xs k = some r → ∃ i, r = ((k + i : Nat) : Int) ∧ xs[i]? = some (cdN p j) ∧ ∀ m, m < i → xs[m]? ≠ some (cdN p j) := by
      intro xs
      induction xs with
      | nil => intro k r h; simp [firstP] at h
      | cons x xs ih =>
        intro k r h
        simp only [firstP] at h
        by_cases e : x = cdN p j
        · rw [if_pos (by simpa using e)] at h
          cases h
          exact ⟨0, by simp, by simp [e], fun m hm => by omega⟩
        · rw [if_neg (by simpa using e)] at h
          obtain ⟨i, h1, h2, h3⟩ := ih (k + 1) r h
          refine ⟨i + 1, by rw [h1]; congr 1; omega, by simpa using h2, fun m hm => ?_⟩
          cases m with
          | zero => simpa using e
          | succ m => simpa using h3 m (by omega)
    obtain ⟨i, h1, h2, h3⟩ := hfirst _ _ _ h
    have hij : i < j := by
      have := (List.getElem?_eq_some_iff.1 h2).1
      simpa using this
    rw [codes_get _ hij] at h2
    have h2' : cdN p i = cdN p j := by simpa using h2
    have ho : orbN (cdN p) j = i := by
      rcases Nat.lt_trichotomy (orbN (cdN p) j) i with q | q | q
      · exact absurd (by rw [codes_get _ (by omega), orbN_eq (cdN p) j]) (h3 _ q)
      · exact q
      · exact absurd h2' (orbN_min (cdN p) j i q)
    rw [ho, if_pos hij, h1]
    simp
theorem orbits_round (fuel : Nat) (hf : 100 ≤ fuel) (p : T_Network) (g : GoodN p) {j : Nat} (hj : j < p.Ends.length) :
    fI_orbitsOf_s1 fuel p j ((List.range j).map (cdN p), outN p j) = some (.go ((List.range (j + 1)).map (cdN p), outN p (j + 1))) := by
  have hn := g.n2
  have hlen : (outN p j).length = p.Ends.length := by simp [outN]
  have hle := orbN_le (cdN p) j
  unfold fI_orbitsOf_s1
  simp only
  rw [e_codeFrom fuel hf p g j (by omega), sb]
  simp only
  rw [show codeN p (walkN p (j : Int)) = cdN p j from rfl, e_IndexFuncL _ _ (fun x => decide (x = cdN p j)) (fun x hx => by
    obtain ⟨i, hi, rfl⟩ := List.mem_map.1 hx
    have h1 := cdN_len g (show i < p.Ends.length by have := List.mem_range.1 hi; omega)
    have h2 := cdN_len g hj
    unfold fI_orbitsOf_1
    rw [e_EqualN _ _ (by omega) (by omega), sb]) (by simp; omega), sb, first_codes, ix_nat, outN_get p hj, sb, st_nat _ _ _ (by omega), sb, ix_nat, List.getElem?_set_self (by omega), sb]
  by_cases h : orbN (cdN p) j < j
  · rw [if_pos h, if_neg (by simp), push_codes p (by omega), sb, outN_set p hj]
  · rw [if_neg h, if_pos (by decide), sb, st_nat _ _ _ (by simp; omega), sb, push_codes p (by omega), sb, List.set_set, show (j : Int) = (orbN (cdN p) j : Int) by omega]
    have := outN_set p hj
    rw [show orbN (cdN p) j = j by omega] at this ⊢
    rw [this]
theorem e_orbitsOf (fuel : Nat) (hf : 100 ≤ fuel) (p : T_Network) (g : GoodN p) : fI_orbitsOf fuel p = some (orbL p) := by
  unfold fI_orbitsOf mk
  have hn := g.n2
  rw [if_pos (by omega), sb, ck_in (by omega) (by omega), sb, Int.toNat_natCast]
  have := forN_inv0 (ρ := List Int) (body := fI_orbitsOf_s1 fuel p) (fun j => ((List.range j).map (cdN p), outN p j)) p.Ends.length (fun j hj => orbits_round fuel hf p g hj)
  simp only [List.range_zero, List.map_nil, outN_0] at this
  rw [show (Rz.z : Int) = 0 from rfl, this, sb]
  simp only
  rw [outN_n]
/-! ### OrbitsOf -/
def orbB (p : T_Network) : List Int × Bool := if netB p then (orbL p, true) else ([], false)
theorem e_specOrbits (fuel : Nat) (hf : 100 ≤ fuel) (p : T_Network) (hp : SzN p) : fS_OrbitsOf fuel p = some (orbB p) := by
  unfold fS_OrbitsOf orbB
  rw [e_neGood p hp, sb]
  cases h : netB p
  · simp
  · rw [if_neg (by simp), e_isOrbits fuel hf p (netB_good h), sb]; simp
theorem e_implOrbits (fuel : Nat) (hf : 100 ≤ fuel) (p : T_Network) (hp : SzN p) : fI_OrbitsOf fuel p = some (orbB p) := by
  unfold fI_OrbitsOf orbB
  rw [e_IsNetwork p hp, sb]
  cases h : netB p
  · simp
  · rw [if_neg (by simp), e_orbitsOf fuel hf p (netB_good h), sb]; simp
/-! ### FixedNodes -/
def fixP (p : T_Network) (v : Nat) : Bool := decide (orbN (cdN p) v = v) && (List.range p.Ends.length).all fun w => decide (w = v) || decide (orbN (cdN p) w ≠ orbN (cdN p) v)
def fixL (p : T_Network) : List Int := ((List.range p.Ends.length).filter (fixP p)).map fun v : Nat => (v : Int)
theorem orbL_get (p : T_Network) {i : Nat} (hi : i < p.Ends.length) : (orbL p)[i]? = some (orbN (cdN p) i : Int) := by
  unfold orbL
  rw [List.getElem?_map, List.getElem?_range hi]; rfl
theorem orbL_len (p : T_Network) : (orbL p).length = p.Ends.length := by simp [orbL]
theorem filt_succ (P : Nat → Bool) (j : Nat) : ((List.range (j + 1)).filter P).map (fun v : Nat => (v : Int)) = ((List.range j).filter P).map (fun v : Nat => (v : Int)) ++ if P j then [(j : Int)] else [] := by
  rw [List.range_succ, List.filter_append, List.map_append]
  by_cases h : P j = true
  · simp [h]
  · simp [h]
theorem filt_len (P : Nat → Bool) (j : Nat) : (((List.range j).filter P).map (fun v : Nat => (v : Int))).length ≤ j := by
  rw [List.length_map]
  have := List.length_filter_le P (List.range j)
  simpa using this
theorem alone_loop (p : T_Network) {v : Nat} : ∀ n, n ≤ p.Ends.length → forI (fS_FixedNodes_s2 (v : Int) (orbN (cdN p) v : Int)) ((orbL p).take n) 0 ((orbN (cdN p) v : Int) == (v : Int)) =
    some (.inl (decide (orbN (cdN p) v = v) && (List.range n).all fun w => decide (w = v) || decide (orbN (cdN p) w ≠ orbN (cdN p) v))) := by
  intro n hn
  have := forI_inv0 (ρ := List Int × Bool) (body := fS_FixedNodes_s2 (v : Int) (orbN (cdN p) v : Int)) (fun j => decide (orbN (cdN p) v = v) && (List.range j).all fun w => decide (w = v) || decide (orbN (cdN p) w ≠ orbN (cdN p) v)) ((orbL p).take n) (fun j x hx => by
    have hjl := (List.getElem?_eq_some_iff.1 hx).1
    rw [List.length_take] at hjl
    rw [List.getElem?_take, if_pos (by omega), orbL_get p (by omega)] at hx
    cases hx
    unfold fS_FixedNodes_s2
    rw [List.range_succ, List.all_append]
    cases hs : (decide (orbN (cdN p) v = v) && (List.range j).all fun w => decide (w = v) || decide (orbN (cdN p) w ≠ orbN (cdN p) v))
    · simp only [Bool.false_eq_true, if_false, sb]
      rw [← Bool.and_assoc, hs]; rfl
    · simp only [if_true]
      rw [← Bool.and_assoc, hs, Bool.true_and]
      by_cases e : (j : Int) = (v : Int)
      · have : j = v := by omega
        simp [e, this, sb]
      · have hne : j ≠ v := by omega
        rw [if_neg (by simpa using e), sb]
        by_cases e2 : orbN (cdN p) j = orbN (cdN p) v
        · simp [e2, hne]
        · have : ¬ (orbN (cdN p) j : Int) = (orbN (cdN p) v : Int) := by omega
          simp [e2, hne, this])
  rw [List.length_take, orbL_len, Nat.min_eq_left hn] at this
  rw [← this]
  congr 1
  by_cases e : orbN (cdN p) v = v
  · simp [e]
  · have : ¬ (orbN (cdN p) v : Int) = (v : Int) := by omega
    simp [e, this]
theorem fixed_loop (p : T_Network) (g : GoodN p) : forI (fS_FixedNodes_s1 (orbL p)) (orbL p) 0 [] = some (.inl (fixL p)) := by
  have hn := g.n2
  have := forI_inv0 (ρ := List Int × Bool) (body := fS_FixedNodes_s1 (orbL p)) (fun j => ((List.range j).filter (fixP p)).map fun v : Nat => (v : Int)) (orbL p) (fun j x hx => by
    have hjl := (List.getElem?_eq_some_iff.1 hx).1
    rw [orbL_len] at hjl
    rw [orbL_get p hjl] at hx
    cases hx
    unfold fS_FixedNodes_s1
    have h2 := alone_loop p (v := j) p.Ends.length (Nat.le_refl _)
    rw [List.take_of_length_le (by rw [orbL_len]; exact Nat.le_refl _)] at h2
    rw [h2, sb]
    simp only
    rw [filt_succ]
    have hl := filt_len (fixP p) j
    cases hf : fixP p j
    · unfold fixP at hf
      rw [hf]; simp
    · have hf' := hf
      unfold fixP at hf'
      rw [hf', if_pos rfl]
      unfold push
      rw [if_pos (by omega), sb]; simp)
  rw [orbL_len] at this
  exact this
/-- How often each has come, the last store first. -/
def cntM : List Int → List (Int × Int)
  | [] => []
  | x :: xs => (x, ((x :: xs).count x : Int)) :: cntM xs
theorem cntM_look : ∀ (xs : List Int) (x : Int), (mlook (cntM xs) x).getD 0 = (xs.count x : Int)
  | [], x => rfl
  | y :: xs, x => by
    simp only [cntM]
    rw [mlook_cons]
    by_cases e : x = y
    · subst e; rw [if_pos rfl]; rfl
    · rw [if_neg e, cntM_look xs x, List.count_cons, if_neg (by simpa using fun h => e h.symm)]; simp
theorem cntM_len (xs : List Int) : (cntM xs).length = xs.length := by
  induction xs with
  | nil => rfl
  | cons x xs ih => simp [cntM, ih]
theorem sizes_loop (O : List Int) (hO : ∀ x, x ∈ O → 0 ≤ x ∧ x ≤ 1000) (hl : O.length ≤ 1000) : forI fI_FixedNodes_s1 O 0 ([] : List (Int × Int)) = some (.inl (cntM O.reverse)) := by
  have := forI_inv0 (ρ := List Int × Bool) (body := fI_FixedNodes_s1) (fun j => cntM (O.take j).reverse) O (fun j x hx => by
    have hjl := (List.getElem?_eq_some_iff.1 hx).1
    have hr := hO x (List.mem_of_getElem? hx)
    have hc : ((O.take j).reverse.count x) ≤ 1000 := by
      have := List.count_le_length (a := x) (l := (O.take j).reverse)
      rw [List.length_reverse, List.length_take] at this; omega
    unfold fI_FixedNodes_s1 mgo
    rw [if_pos (by omega), sb, cntM_look, ck_in (by omega) (by omega), sb]
    unfold mput
    rw [if_pos (by rw [cntM_len, List.length_reverse, List.length_take]; omega), sb, List.take_add_one, hx]
    simp only [Option.toList_some, List.reverse_append, List.reverse_cons, List.reverse_nil, List.nil_append, List.singleton_append, cntM]
    rw [List.count_cons_self]
    simp)
  rw [List.take_length] at this
  exact this
theorem count_one (p : T_Network) {v : Nat} (hv : v < p.Ends.length) : ((orbL p).reverse.count (orbN (cdN p) v : Int) == 1) = fixP p v := by
  rw [List.count_reverse]
  have hcount : (orbL p).count (orbN (cdN p) v : Int) = ((List.range p.Ends.length).filter fun w => decide (orbN (cdN p) w = orbN (cdN p) v)).length := by
    unfold orbL
    rw [List.count, List.countP_map, List.countP_eq_length_filter]
    congr 1
    refine List.filter_congr fun w _ => ?_
    simp only [Function.comp]
    by_cases e : orbN (cdN p) w = orbN (cdN p) v
    · simp [e]
    · have : ¬ (orbN (cdN p) w : Int) = (orbN (cdN p) v : Int) := by omega
      simp [e, this]
  rw [hcount]
  have hmem : ∀ w, w ∈ ((List.range p.Ends.length).filter fun w => decide (orbN (cdN p) w = orbN (cdN p) v)) ↔ w < p.Ends.length ∧ orbN (cdN p) w = orbN (cdN p) v := fun w => by simp
  have hnd : ((List.range p.Ends.length).filter fun w => decide (orbN (cdN p) w = orbN (cdN p) v)).Nodup := List.nodup_range.filter _
  have hov : orbN (cdN p) v < p.Ends.length := Nat.lt_of_le_of_lt (orbN_le _ _) hv
  generalize hF : ((List.range p.Ends.length).filter fun w => decide (orbN (cdN p) w = orbN (cdN p) v)) = F at hmem hnd
  rw [Bool.eq_iff_iff, beq_iff_eq]
  unfold fixP
  rw [Bool.and_eq_true, decide_eq_true_eq, List.all_eq_true]
  have m1 : v ∈ F := (hmem v).2 ⟨hv, rfl⟩
  have m2 : orbN (cdN p) v ∈ F := (hmem _).2 ⟨hov, orbN_idem _ _⟩
  constructor
  · intro h
    obtain ⟨a, rfl⟩ := List.length_eq_one_iff.1 h
    have e1 := List.mem_singleton.1 m1
    have e2 := List.mem_singleton.1 m2
    refine ⟨e2.trans e1.symm, fun w hw => ?_⟩
    by_cases e : w = v
    · simp [e]
    · have : orbN (cdN p) w ≠ orbN (cdN p) v := fun h => e ((List.mem_singleton.1 ((hmem w).2 ⟨List.mem_range.1 hw, h⟩)).trans e1.symm)
      simp [this]
  · rintro ⟨_, h⟩
    have hall : ∀ w, w ∈ F → w = v := fun w hw => by
      have h2 := h w (List.mem_range.2 ((hmem w).1 hw).1)
      simp only [Bool.or_eq_true, decide_eq_true_eq] at h2
      rcases h2 with h2 | h2
      · exact h2
      · exact absurd ((hmem w).1 hw).2 h2
    match F, m1, hnd, hall with
    | [a], _, _, _ => rfl
    | a :: b :: F, _, hnd, hall =>
      have e1 := hall a (by simp)
      have e2 := hall b (by simp)
      rw [e1, e2] at hnd
      simp at hnd
theorem fixedI_loop (p : T_Network) (g : GoodN p) : forI (fI_FixedNodes_s2 (cntM (orbL p).reverse)) (orbL p) 0 [] = some (.inl (fixL p)) := by
  have hn := g.n2
  have := forI_inv0 (ρ := List Int × Bool) (body := fI_FixedNodes_s2 (cntM (orbL p).reverse)) (fun j => ((List.range j).filter (fixP p)).map fun v : Nat => (v : Int)) (orbL p) (fun j x hx => by
    have hjl := (List.getElem?_eq_some_iff.1 hx).1
    rw [orbL_len] at hjl
    rw [orbL_get p hjl] at hx
    cases hx
    have hle := orbN_le (cdN p) j
    unfold fI_FixedNodes_s2 mgo
    rw [if_pos (by omega), sb, cntM_look]
    have hl := filt_len (fixP p) j
    have hc := count_one p hjl
    rw [filt_succ]
    cases hf : fixP p j
    · rw [hf] at hc
      rw [if_neg (by simp at hc ⊢; omega)]; simp
    · rw [hf] at hc
      rw [if_pos (by simp at hc ⊢; omega)]
      unfold push
      rw [if_pos (by omega), sb]; simp)
  rw [orbL_len] at this
  exact this
def fixB (p : T_Network) : List Int × Bool := if netB p then (fixL p, true) else ([], false)
theorem e_specFixed (fuel : Nat) (hf : 100 ≤ fuel) (p : T_Network) (hp : SzN p) : fS_FixedNodes fuel p = some (fixB p) := by
  unfold fS_FixedNodes fixB
  rw [e_neGood p hp, sb]
  cases h : netB p
  · simp
  · rw [if_neg (by simp), e_isOrbits fuel hf p (netB_good h), sb, fixed_loop p (netB_good h), sb]; simp
theorem e_implFixed (fuel : Nat) (hf : 100 ≤ fuel) (p : T_Network) (hp : SzN p) : fI_FixedNodes fuel p = some (fixB p) := by
  unfold fI_FixedNodes fixB
  rw [e_IsNetwork p hp, sb]
  cases h : netB p
  · simp
  · have g := netB_good h
    have hn := g.n2
    rw [if_neg (by simp), e_orbitsOf fuel hf p g, sb, sizes_loop (orbL p) (fun x hx => by
      unfold orbL at hx
      obtain ⟨v, hv, rfl⟩ := List.mem_map.1 hx
      have := orbN_le (cdN p) v
      have := List.mem_range.1 hv
      omega) (by rw [orbL_len]; omega), sb]
    simp only
    rw [fixedI_loop p g, sb]; simp
end Go.Proofs.Ytijaojnaamkinaa
