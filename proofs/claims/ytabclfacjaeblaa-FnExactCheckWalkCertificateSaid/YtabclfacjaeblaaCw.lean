/- Certificates of walk problems: what both sides compute. -/
import Derived.Test.YtabclfacjaeblaaLo
import Derived.Test.YtabclfacjaeblaaPh
import Derived.Test.YtabclfacjaeblaaGSb
import Derived.Test.YtabclfacjaeblaaGSc
namespace Go.Proofs.Ytabclfacjaeblaa
set_option linter.unusedSimpArgs false
set_option linter.unusedVariables false

theorem bit_test0 {S a : Nat} (hS : S < 2 ^ 62) : (band ((S / 2 ^ a : Nat) : Int) 1 == 0) = !S.testBit a := by
  have h1 : S / 2 ^ a < 2 ^ 62 := Nat.lt_of_le_of_lt (Nat.div_le_self _ _) hS
  rw [show (1 : Int) = ((1 : Nat) : Int) from rfl, band_nat h1 (by decide), Nat.and_one_is_mod, Nat.testBit_eq_decide_div_mod_eq]
  rw [Bool.eq_iff_iff, beq_iff_eq]
  simp only [Bool.not_eq_true', decide_eq_false_iff_not]
  omega
/-! ### Walks -/
def chkN (c : Nat → Bool) : Nat → Nat → Bool
  | 0, _ => true
  | d + 1, j => c j && chkN c d (j + 1)
theorem loop_chk {f : Int → Option (Lp Int Int Bool)} (c : Nat → Bool) (n : Nat) (hgo : ∀ j : Nat, 1 ≤ j → j < n → f (j : Int) = if c j then some (.go ((j + 1 : Nat) : Int)) else some (.ret false)) (hout : f (n : Int) = some (.out (n : Int))) :
    ∀ (d j fuel : Nat), 1 ≤ j → j + d = n → d < fuel → (∃ y, loopF f fuel (j : Int) = some (.inl y) ∧ chkN c d j = true) ∨ (loopF f fuel (j : Int) = some (.inr false) ∧ chkN c d j = false) := by
  intro d
  induction d with
  | zero =>
    intro j fuel h1 hj hf
    obtain ⟨m, rfl⟩ : ∃ m, fuel = m + 1 := ⟨fuel - 1, by omega⟩
    have : j = n := by omega
    subst this
    exact .inl ⟨(j : Int), by simp only [loopF, hout], rfl⟩
  | succ d ih =>
    intro j fuel h1 hj hf
    obtain ⟨m, rfl⟩ : ∃ m, fuel = m + 1 := ⟨fuel - 1, by omega⟩
    have hs := hgo j h1 (by omega)
    cases hc : c j
    · rw [hc, if_neg (by simp)] at hs
      exact .inr ⟨by simp only [loopF, hs], by simp [chkN, hc]⟩
    · rw [hc, if_pos rfl] at hs
      have e : chkN c (d + 1) j = chkN c d (j + 1) := by simp [chkN, hc]
      rw [e]
      simp only [loopF, hs]
      exact ih (j + 1) m (by omega) (by omega) (by omega)
def wlkC (A : Nat → Nat) (l : List Int) (j : Nat) : Bool := (A (l.getD (j - 1) 0).toNat).testBit (l.getD j 0).toNat
def wlkB (A : Nat → Nat) (l : List Int) : Bool := chkN (wlkC A l) (l.length - 1) 1
theorem in_row {n : Nat} {l : List Int} (h : l.all (inB 0 ((n : Int) - 1)) = true) {j : Nat} (hj : j < l.length) : ∃ u : Nat, u < n ∧ l[j]? = some (u : Int) ∧ l.getD j 0 = (u : Int) := by
  have h1 := inB_if.1 (List.all_eq_true.1 h l[j] (List.getElem_mem hj))
  refine ⟨l[j].toNat, by omega, ?_, ?_⟩
  · rw [List.getElem?_eq_getElem hj]; congr 1; omega
  · rw [List.getD_eq_getElem?_getD, List.getElem?_eq_getElem hj]; simp only [Option.getD_some]; omega
theorem ix_u {l : List Int} {i : Int} {j : Nat} {u : Int} (e : i = (j : Int)) (h : l[j]? = some u) : ix l i = some u := by rw [e, ix_nat, h]
theorem e_waWalk (n fuel : Nat) (p : T_WalkProblem) (hp : p.Labels = n) (hn : n ≤ 12) (h : okArcs n p.Arcs) (l : List Int) (h2 : 2 ≤ l.length) (h200 : l.length ≤ 200) (hl : l.all (inB 0 ((n : Int) - 1)) = true) (hf : 1000 ≤ fuel) :
    fS_waWalk fuel p l = some (wlkB (aftF p.Arcs) l) := by
  unfold fS_waWalk wlkB
  rw [e_waMay n fuel p hp (by omega) h (by omega), sb]
  rcases loop_chk (f := fS_waWalk_s1 l (matF n (aftF p.Arcs))) (wlkC (aftF p.Arcs) l) l.length (fun j h1 hj => by
    obtain ⟨u, hu, e1, e2⟩ := in_row hl (j := j - 1) (by omega)
    obtain ⟨v, hv, e3, e4⟩ := in_row hl (j := j) hj
    unfold fS_waWalk_s1 wlkC
    rw [if_pos (by simpa using hj), ck_in (by omega) (by omega), sb, ix_u (j := j - 1) (by omega) e1, sb, ix_matF hu, sb, ix_u rfl e3, sb, ix_mrow hv, sb, e2, e4, Int.toNat_natCast, Int.toNat_natCast]
    cases (aftF p.Arcs u).testBit v
    · simp
    · rw [if_neg (by simp), ck_in (by omega) (by omega), sb, if_pos rfl]; rfl) (by
    unfold fS_waWalk_s1
    rw [if_neg (by simp)]) (l.length - 1) 1 fuel (Nat.le_refl _) (by omega) (by omega) with ⟨y, e1, e2⟩ | ⟨e1, e2⟩
  · rw [show ((1 : Nat) : Int) = 1 from rfl] at e1
    rw [e1, sb, e2]
  · rw [show ((1 : Nat) : Int) = 1 from rfl] at e1
    rw [e1, sb, e2]
theorem e_isWalk (n fuel : Nat) (p : T_WalkProblem) (hp : p.Labels = n) (hn : n ≤ 12) (h : okArcs n p.Arcs) (l : List Int) (h2 : 2 ≤ l.length) (h200 : l.length ≤ 200) (hl : l.all (inB 0 ((n : Int) - 1)) = true) (hf : 1000 ≤ fuel) :
    fI_WalkProblem_isWalk fuel p l = some (wlkB (aftF p.Arcs) l) := by
  obtain ⟨ha, hlt⟩ := e_after n p hp (by omega) h
  unfold fI_WalkProblem_isWalk wlkB
  rw [ha, sb]
  rcases loop_chk (f := fI_WalkProblem_isWalk_s1 l ((List.range n).map fun a => ((aftF p.Arcs a : Nat) : Int))) (wlkC (aftF p.Arcs) l) l.length (fun j h1 hj => by
    obtain ⟨u, hu, e1, e2⟩ := in_row hl (j := j - 1) (by omega)
    obtain ⟨v, hv, e3, e4⟩ := in_row hl (j := j) hj
    have hS : aftF p.Arcs u < 2 ^ 62 := Nat.lt_of_lt_of_le (hlt u) (Nat.pow_le_pow_right (by decide) (by omega))
    have hx : ix ((List.range n).map fun a => ((aftF p.Arcs a : Nat) : Int)) (u : Int) = some ((aftF p.Arcs u : Nat) : Int) := by
      rw [ix_nat, List.getElem?_map, List.getElem?_range hu]; rfl
    unfold fI_WalkProblem_isWalk_s1 wlkC
    rw [if_pos (by simpa using hj), ck_in (by omega) (by omega), sb, ix_u (j := j - 1) (by omega) e1, sb, hx, sb, ix_u rfl e3, sb, shr_nat (by omega), sb, bit_test0 hS, e2, e4, Int.toNat_natCast, Int.toNat_natCast]
    cases (aftF p.Arcs u).testBit v
    · simp
    · rw [if_neg (by simp), ck_in (by omega) (by omega), sb, if_pos rfl]; rfl) (by
    unfold fI_WalkProblem_isWalk_s1
    rw [if_neg (by simp)]) (l.length - 1) 1 fuel (Nat.le_refl _) (by omega) (by omega) with ⟨y, e1, e2⟩ | ⟨e1, e2⟩
  · rw [show ((1 : Nat) : Int) = 1 from rfl] at e1
    rw [e1, sb, e2]
  · rw [show ((1 : Nat) : Int) = 1 from rfl] at e1
    rw [e1, sb, e2]
/-! ### Closed walks -/
def roundB (p : T_WalkProblem) (l : List Int) (a : Int) : Bool :=
  decide (2 ≤ l.length ∧ l.length ≤ 200) && l.all (inB 0 (p.Labels - 1)) && (l.headD 0 == a) && (l.getD (l.length - 1) 0 == a) && wlkB (aftF p.Arcs) l
theorem ix_head {l : List Int} (h : 2 ≤ l.length) : ix l 0 = some (l.headD 0) := by
  match l, h with
  | a :: b :: m, _ => rfl
theorem ix_last {l : List Int} (h : 2 ≤ l.length) : ix l ((l.length : Int) - 1) = some (l.getD (l.length - 1) 0) := by
  have e : (l.length : Int) - 1 = ((l.length - 1 : Nat) : Int) := by omega
  rw [e, ix_nat, List.getElem?_eq_getElem (by omega), List.getD_eq_getElem?_getD, List.getElem?_eq_getElem (by omega)]; rfl
theorem e_waRound (n fuel : Nat) (p : T_WalkProblem) (hp : p.Labels = n) (hn : n ≤ 12) (h : okArcs n p.Arcs) (l : List Int) (a : Int) (hf : 1000 ≤ fuel) : fS_waRound fuel p l a = some (roundB p l a) := by
  unfold fS_waRound roundB
  rw [e_l1In, sb]
  by_cases h1 : 2 ≤ l.length ∧ l.length ≤ 200
  · have h1' : (decide ((2 : Int) ≤ (l.length : Int)) && decide ((l.length : Int) ≤ 200)) = true := by simp; omega
    rw [h1', if_pos rfl, ck_in (by omega) (by omega), sb, e_l1All, sb]
    cases hl : l.all (inB 0 (p.Labels - 1))
    · simp [sb]
    · rw [if_pos rfl, ix_head h1.1, sb]
      by_cases hh : (l.headD 0 == a) = true
      · rw [if_pos hh, ck_in (by omega) (by omega), sb, ix_last h1.1, sb]
        by_cases hq : (l.getD (l.length - 1) 0 == a) = true
        · rw [if_pos hq, e_waWalk n fuel p hp hn h l h1.1 h1.2 (by rw [← hp]; exact hl) hf, sb, sb, hh, hq]
          simp [h1]
        · rw [if_neg hq, sb]; simp only [Bool.not_eq_true] at hq; rw [hq]; simp
      · rw [if_neg hh, sb]; simp only [Bool.not_eq_true] at hh; rw [hh]; simp
  · have h1' : (decide ((2 : Int) ≤ (l.length : Int)) && decide ((l.length : Int) ≤ 200)) = false := by simp; omega
    rw [h1', if_neg (by simp), sb, decide_eq_false h1]; simp
theorem e_isClosedFrom (n fuel : Nat) (p : T_WalkProblem) (hp : p.Labels = n) (hn : n ≤ 12) (h : okArcs n p.Arcs) (l : List Int) (a : Int) (hf : 1000 ≤ fuel) : fI_WalkProblem_isClosedFrom fuel p l a = some (roundB p l a) := by
  unfold fI_WalkProblem_isClosedFrom roundB
  rw [e_within, sb]
  by_cases h1 : 2 ≤ l.length ∧ l.length ≤ 200
  · have h1' : (decide ((2 : Int) ≤ (l.length : Int)) && decide ((l.length : Int) ≤ 200)) = true := by simp; omega
    have hh : fI_WalkProblem_hasLabels p l = some (l.all (inB 0 (p.Labels - 1))) := by
      unfold fI_WalkProblem_hasLabels
      rw [ck_in (by omega) (by omega), sb, e_allWithin _ _ _ (by omega), sb]
    rw [h1', if_pos rfl, hh, sb]
    cases hl : l.all (inB 0 (p.Labels - 1))
    · simp [sb]
    · rw [if_pos rfl, ix_head h1.1, sb]
      by_cases hh : (l.headD 0 == a) = true
      · rw [if_pos hh, ck_in (by omega) (by omega), sb, ix_last h1.1, sb]
        by_cases hq : (l.getD (l.length - 1) 0 == a) = true
        · rw [if_pos hq, e_isWalk n fuel p hp hn h l h1.1 h1.2 (by rw [← hp]; exact hl) hf, sb, sb, hh, hq]
          simp [h1]
        · rw [if_neg hq, sb]; simp only [Bool.not_eq_true] at hq; rw [hq]; simp
      · rw [if_neg hh, sb]; simp only [Bool.not_eq_true] at hh; rw [hh]; simp
  · have h1' : (decide ((2 : Int) ≤ (l.length : Int)) && decide ((l.length : Int) ≤ 200)) = false := by simp; omega
    rw [h1', if_neg (by simp), sb, decide_eq_false h1]; simp
/-! ### Ranks -/
def rk (R : List (List Int)) (i k : Nat) : Int := (R.getD i []).getD k 0
def rowOk (r : List Int) : Bool := decide (r.length = 3) && r.all (inB 0 1000)
def rkC (R : List (List Int)) (x : List Int) : Bool := decide (rk R (x.headD 0).toNat 0 < rk R (x.getD 1 0).toNat 0)
def rkI (R : List (List Int)) (x : List Int) : Bool :=
  (rk R (x.headD 0).toNat 0 == rk R (x.getD 1 0).toNat 0) && (rk R (x.headD 0).toNat 1 == rk R (x.getD 1 0).toNat 1) && decide (2 ≤ rk R (x.headD 0).toNat 1) &&
    ((rk R (x.getD 1 0).toNat 2 - rk R (x.headD 0).toNat 2 - 1).tmod (rk R (x.headD 0).toNat 1) == 0)
def ranksB (p : T_WalkProblem) (R : List (List Int)) (f : List Int → Bool) : Bool := ((R.length : Int) == p.Labels) && R.all rowOk && p.Arcs.all f
theorem row_of {R : List (List Int)} (h : R.all rowOk = true) {i : Nat} (hi : i < R.length) : ∃ a b c : Int, R[i]? = some [a, b, c] ∧ R.getD i [] = [a, b, c] ∧ 0 ≤ a ∧ a ≤ 1000 ∧ 0 ≤ b ∧ b ≤ 1000 ∧ 0 ≤ c ∧ c ≤ 1000 := by
  have h1 := List.all_eq_true.1 h R[i] (List.getElem_mem hi)
  have hg : R[i]? = some R[i] := List.getElem?_eq_getElem hi
  have hd : R.getD i [] = R[i] := by rw [List.getD_eq_getElem?_getD, hg]; rfl
  simp only [rowOk, Bool.and_eq_true, decide_eq_true_eq] at h1
  obtain ⟨h2, h3⟩ := h1
  generalize R[i] = r at *
  match r, h2 with
  | [a, b, c], _ =>
    have e1 := inB_if.1 (List.all_eq_true.1 h3 a (by simp))
    have e2 := inB_if.1 (List.all_eq_true.1 h3 b (by simp))
    have e3 := inB_if.1 (List.all_eq_true.1 h3 c (by simp))
    exact ⟨a, b, c, hg, hd, e1.1, e1.2, e2.1, e2.2, e3.1, e3.2⟩
theorem rowOk_spec (R : List (List Int)) : forI (fS_waRanked_s1) R 0 () = some (if R.all rowOk then .inl () else .inr false) := by
  rw [forI_first0 (fun _ x => if rowOk x then none else some false) R (fun j x hj hall => by
    unfold fS_waRanked_s1 rowOk
    by_cases h3 : x.length = 3
    · rw [if_neg (by simp [h3]), e_l1All, sb, sb, decide_eq_true h3]
      cases x.all (inB 0 1000) <;> simp [lpP]
    · rw [if_pos (by simp; omega), sb, if_pos rfl, decide_eq_false h3]; simp [lpP]), firstP_all]
  cases R.all rowOk <;> rfl
theorem rowOk_impl (R : List (List Int)) : forI (fI_WalkProblem_ranksOk_s1) R 0 () = some (if R.all rowOk then .inl () else .inr false) := by
  rw [forI_first0 (fun _ x => if rowOk x then none else some false) R (fun j x hj hall => by
    unfold fI_WalkProblem_ranksOk_s1 rowOk
    by_cases h3 : x.length = 3
    · rw [if_neg (by simp [h3]), e_allWithin _ _ _ (by omega), sb, sb, decide_eq_true h3]
      cases x.all (inB 0 1000) <;> simp [lpP]
    · rw [if_pos (by simp; omega), sb, if_pos rfl, decide_eq_false h3]; simp [lpP]), firstP_all]
  cases R.all rowOk <;> rfl
theorem e_waRanked (n : Nat) (p : T_WalkProblem) (hp : p.Labels = n) (h : okArcs n p.Arcs) (R : List (List Int)) : fS_waRanked p R = some (ranksB p R fun x => rkC R x || rkI R x) := by
  unfold fS_waRanked ranksB
  by_cases hl : (R.length : Int) = p.Labels
  · rw [if_neg (by simp [hl]), rowOk_spec, sb]
    cases hr : R.all rowOk
    · simp
    · simp only [if_true]
      rw [forI_first0 (fun _ x => if (rkC R x || rkI R x) then none else some false) p.Arcs (fun j x hj hall => by
        obtain ⟨u, v, rfl, hu, hv⟩ := h x (List.mem_of_getElem? hj)
        obtain ⟨a0, a1, a2, e1, e2, b0, b1, b2, b3, b4, b5⟩ := row_of hr (i := u) (by omega)
        obtain ⟨c0, c1, c2, f1, f2, d0, d1, d2, d3, d4, d5⟩ := row_of hr (i := v) (by omega)
        unfold fS_waRanked_s2 rkC rkI rk
        rw [show ix [(u : Int), (v : Int)] 0 = some (u : Int) from rfl, sb, ix_nat, e1, sb, show ix [(u : Int), (v : Int)] 1 = some (v : Int) from rfl, sb, ix_nat, f1, sb]
        simp only [show ∀ a b c : Int, ix [a, b, c] 0 = some a from fun _ _ _ => rfl, show ∀ a b c : Int, ix [a, b, c] 1 = some b from fun _ _ _ => rfl, show ∀ a b c : Int, ix [a, b, c] 2 = some c from fun _ _ _ => rfl, sb,
          List.headD_cons, Int.toNat_natCast, List.getD_cons_succ, List.getD_cons_zero, e2, f2]
        have hab : (if (a0 == c0) = true then if (a1 == c1) = true then some (decide (a1 ≥ 2)) else some false else some false : Option Bool) = some ((a0 == c0) && (a1 == c1) && decide (2 ≤ a1)) := by
          cases (a0 == c0)
          · rfl
          · cases (a1 == c1) <;> rfl
        rw [hab, sb]
        by_cases h1 : c0 ≤ a0
        · have n1 : decide (a0 < c0) = false := by simp; omega
          rw [if_pos (by simpa using h1), n1]
          cases hI : (a0 == c0) && (a1 == c1) && decide (2 ≤ a1)
          · rw [Bool.not_false, if_pos rfl, sb, if_pos rfl]; simp [lpP]
          · have h4 : 2 ≤ a1 := by
              simp only [Bool.and_eq_true, decide_eq_true_eq] at hI
              exact hI.2
            rw [Bool.not_true, if_neg (by simp), ck_in (by omega) (by omega), sb, ck_in (by omega) (by omega), sb]
            unfold rem
            rw [if_neg (by omega), sb, sb]
            by_cases h5 : ((c2 - a2 - 1).tmod a1) = 0
            · simp [h5, lpP]
            · simp [h5, lpP]
        · have n1 : decide (a0 < c0) = true := by simp; omega
          have n2 : ¬ decide (c0 ≤ a0) = true := by simp; omega
          rw [if_neg n2, n1]
          simp [lpP, sb]), firstP_all, sb]
      simp only [hl, beq_self_eq_true, Bool.true_and]
      cases p.Arcs.all fun x => rkC R x || rkI R x <;> rfl
  · rw [if_pos (by simp [hl])]; simp [hl]
theorem e_ranksOk (n : Nat) (p : T_WalkProblem) (hp : p.Labels = n) (h : okArcs n p.Arcs) (R : List (List Int)) (ar : Bool) : fI_WalkProblem_ranksOk p R ar = some (ranksB p R fun x => rkC R x || (ar && rkI R x)) := by
  unfold fI_WalkProblem_ranksOk ranksB
  by_cases hl : (R.length : Int) = p.Labels
  · rw [if_neg (by simp [hl]), rowOk_impl, sb]
    cases hr : R.all rowOk
    · simp
    · simp only [if_true]
      rw [forI_first0 (fun _ x => if (rkC R x || (ar && rkI R x)) then none else some false) p.Arcs (fun j x hj hall => by
        obtain ⟨u, v, rfl, hu, hv⟩ := h x (List.mem_of_getElem? hj)
        obtain ⟨a0, a1, a2, e1, e2, b0, b1, b2, b3, b4, b5⟩ := row_of hr (i := u) (by omega)
        obtain ⟨c0, c1, c2, f1, f2, d0, d1, d2, d3, d4, d5⟩ := row_of hr (i := v) (by omega)
        unfold fI_WalkProblem_ranksOk_s2 rkC rkI rk
        rw [show ix [(u : Int), (v : Int)] 0 = some (u : Int) from rfl, sb, ix_nat, e1, sb, show ix [(u : Int), (v : Int)] 1 = some (v : Int) from rfl, sb, ix_nat, f1, sb]
        simp only [show ∀ a b c : Int, ix [a, b, c] 0 = some a from fun _ _ _ => rfl, show ∀ a b c : Int, ix [a, b, c] 1 = some b from fun _ _ _ => rfl, show ∀ a b c : Int, ix [a, b, c] 2 = some c from fun _ _ _ => rfl, sb,
          List.headD_cons, Int.toNat_natCast, List.getD_cons_succ, List.getD_cons_zero, e2, f2]
        by_cases h1 : c0 > a0
        · rw [if_pos (by simpa using h1), decide_eq_true h1]; simp [lpP]
        · have n1 : decide (a0 < c0) = false := by simp; omega
          rw [if_neg (by simpa using h1), n1]
          cases ar
          · simp [lpP, sb]
          · rw [if_neg (by simp)]
            by_cases h2 : a0 = c0
            · rw [if_neg (by simp [h2])]
              by_cases h3 : a1 = c1
              · rw [if_neg (by simp [h3])]
                by_cases h4 : 2 ≤ a1
                · rw [if_neg (by simp; omega), ck_in (by omega) (by omega), sb, ck_in (by omega) (by omega), sb]
                  unfold rem
                  rw [if_neg (by omega), sb, sb, decide_eq_true h4]
                  by_cases h5 : ((c2 - a2 - 1).tmod a1) = 0
                  · subst h2 h3; simp [h5, lpP]
                  · simp [h5, lpP]
                · rw [if_pos (by simp; omega), sb, if_pos rfl, decide_eq_false h4]; simp [lpP]
              · rw [if_pos (by simp [h3]), sb, if_pos rfl]; simp [lpP, h3]
            · rw [if_pos (by simp [h2]), sb, if_pos rfl]; simp [lpP, h2]), firstP_all, sb]
      simp only [hl, beq_self_eq_true, Bool.true_and]
      cases p.Arcs.all fun x => rkC R x || (ar && rkI R x) <;> rfl
  · rw [if_pos (by simp [hl])]; simp [hl]
theorem e_waAbove (n : Nat) (p : T_WalkProblem) (hp : p.Labels = n) (h : okArcs n p.Arcs) (R : List (List Int)) (hl : (R.length : Int) = p.Labels) (hr : R.all rowOk = true) : fS_waAbove p R = some (p.Arcs.all (rkC R)) := by
  unfold fS_waAbove
  rw [forI_first0 (fun _ x => if rkC R x then none else some false) p.Arcs (fun j x hj hall => by
    obtain ⟨u, v, rfl, hu, hv⟩ := h x (List.mem_of_getElem? hj)
    obtain ⟨a0, a1, a2, e1, e2, b0, b1, b2, b3, b4, b5⟩ := row_of hr (i := u) (by omega)
    obtain ⟨c0, c1, c2, f1, f2, d0, d1, d2, d3, d4, d5⟩ := row_of hr (i := v) (by omega)
    unfold fS_waAbove_s1 rkC rk
    rw [show ix [(u : Int), (v : Int)] 1 = some (v : Int) from rfl, sb, ix_nat, f1, sb, show ix [c0, c1, c2] 0 = some c0 from rfl, sb, show ix [(u : Int), (v : Int)] 0 = some (u : Int) from rfl, sb, ix_nat, e1, sb, show ix [a0, a1, a2] 0 = some a0 from rfl, sb]
    simp only [List.headD_cons, Int.toNat_natCast, List.getD_cons_succ, List.getD_cons_zero, e2, f2]
    by_cases h1 : c0 ≤ a0
    · rw [if_pos (by simpa using h1), decide_eq_false (by omega)]; simp [lpP]
    · rw [if_neg (by simpa using h1), decide_eq_true (by omega)]; simp [lpP]), firstP_all, sb]
  cases p.Arcs.all (rkC R) <;> rfl
/-! ### Certificates -/
def certB (p : T_WalkProblem) (c : T_WalkCertificate) : Bool :=
  if c.Class = 3 then inB 0 (p.Labels - 1) c.Label && decide (c.First.length + c.Second.length + c.Ranks.length = 0) && (aftF p.Arcs c.Label.toNat).testBit c.Label.toNat
  else if c.Class = 2 then inB 0 (p.Labels - 1) c.Label && decide (c.Ranks.length = 0) && !loopB p && roundB p c.First c.Label && roundB p c.Second c.Label && decide (Nat.gcd (c.First.length - 1) (c.Second.length - 1) = 1)
  else if c.Class = 1 then inB 0 (p.Labels - 1) c.Label && decide (c.Second.length = 0) && roundB p c.First c.Label && ranksB p c.Ranks (fun x => rkC c.Ranks x || rkI c.Ranks x)
  else if c.Class = 0 then decide (c.Label = 0) && decide (c.First.length + c.Second.length = 0) && ranksB p c.Ranks (rkC c.Ranks)
  else false
theorem roundB_len {p : T_WalkProblem} {l : List Int} {a : Int} (h : roundB p l a = true) : 2 ≤ l.length ∧ l.length ≤ 200 := by
  simp only [roundB, Bool.and_eq_true, decide_eq_true_eq] at h
  exact h.1.1.1.1
theorem loop_neg {r : Int} {b : Bool} (h : r < 0 ↔ b = false) : decide (r < 0) = !b := by
  cases b
  · exact decide_eq_true (h.2 rfl)
  · exact decide_eq_false fun e => by have := h.1 e; cases this
theorem e_waCheck (n fuel : Nat) (p : T_WalkProblem) (hp : p.Labels = n) (hn : n ≤ 12) (hn1 : 1 ≤ n) (h : okArcs n p.Arcs) (c : T_WalkCertificate) (h1 : c.First.length ≤ 1048576) (h2 : c.Second.length ≤ 1048576) (h3 : c.Ranks.length ≤ 1048576) (hf : 1000 ≤ fuel) :
    fS_waCheck fuel p c = some (certB p c) := by
  unfold fS_waCheck certB
  rw [ck_in (by omega) (by omega), sb, e_l1In, sb, show (decide (0 ≤ c.Label) && decide (c.Label ≤ p.Labels - 1)) = inB 0 (p.Labels - 1) c.Label from rfl]
  by_cases k3 : c.Class = 3
  · rw [if_pos (by simp [k3]), if_pos k3]
    cases hb : inB 0 (p.Labels - 1) c.Label
    · simp [sb]
    · rw [if_pos rfl, ck_in (by omega) (by omega), sb, ck_in (by omega) (by omega), sb]
      by_cases hz : c.First.length + c.Second.length + c.Ranks.length = 0
      · rw [if_pos (by simp; omega), e_waMay n fuel p hp (by omega) h (by omega), sb]
        have hi := inB_if.1 hb
        obtain ⟨u, hu⟩ := Int.eq_ofNat_of_zero_le hi.1
        rw [hu, ix_matF (by omega), sb, ix_mrow (by omega), sb, sb, decide_eq_true hz]
        simp
      · rw [if_neg (by simp; omega), sb, decide_eq_false hz]; simp
  · rw [if_neg (by simp [k3]), if_neg k3]
    by_cases k2 : c.Class = 2
    · rw [if_pos (by simp [k2]), if_pos k2]
      cases hb : inB 0 (p.Labels - 1) c.Label
      · simp [sb]
      · rw [if_pos rfl]
        by_cases hz : c.Ranks.length = 0
        · obtain ⟨r, hr, hs⟩ := e_waLoop p n h
          rw [if_pos (by simp [hz]), hr, sb, loop_neg hs]
          cases loopB p
          · rw [Bool.not_false, if_pos rfl, e_waRound n fuel p hp hn h _ _ hf, sb]
            cases hA : roundB p c.First c.Label
            · simp [sb]
            · rw [if_pos rfl, e_waRound n fuel p hp hn h _ _ hf, sb]
              cases hB : roundB p c.Second c.Label
              · simp [sb]
              · have l1 := roundB_len hA
                have l2 := roundB_len hB
                rw [if_pos rfl, ck_in (by omega) (by omega), sb, ck_in (by omega) (by omega), sb]
                unfold fS_waGcd gcd2
                rw [if_pos (by omega), sb, sb, show ((c.First.length : Int) - 1).toNat = c.First.length - 1 by omega, show ((c.Second.length : Int) - 1).toNat = c.Second.length - 1 by omega]
                by_cases hg : Nat.gcd (c.First.length - 1) (c.Second.length - 1) = 1
                · simp [hg, hz]
                · have : (((Nat.gcd (c.First.length - 1) (c.Second.length - 1) : Nat) : Int) == 1) = false := by simp; omega
                  rw [this]; simp [hg]
          · simp [sb]
        · rw [if_neg (by simpa using hz), sb, decide_eq_false hz]; simp
    · rw [if_neg (by simp [k2]), if_neg k2]
      by_cases k1 : c.Class = 1
      · rw [if_pos (by simp [k1]), if_pos k1]
        cases hb : inB 0 (p.Labels - 1) c.Label
        · simp [sb]
        · rw [if_pos rfl]
          by_cases hz : c.Second.length = 0
          · rw [if_pos (by simp [hz]), e_waRound n fuel p hp hn h _ _ hf, sb]
            cases hA : roundB p c.First c.Label
            · simp [sb]
            · rw [if_pos rfl, e_waRanked n p hp h, sb, sb, decide_eq_true hz]; simp
          · rw [if_neg (by simpa using hz), sb, decide_eq_false hz]; simp
      · rw [if_neg (by simp [k1]), if_neg k1]
        by_cases k0 : c.Class = 0
        · rw [if_pos (by simp [k0]), if_pos k0]
          by_cases hz : c.Label = 0
          · rw [if_pos (by simp [hz]), ck_in (by omega) (by omega), sb]
            by_cases hy : c.First.length + c.Second.length = 0
            · rw [if_pos (by simp; omega), e_waRanked n p hp h, sb, decide_eq_true hz, decide_eq_true hy]
              cases hR : ranksB p c.Ranks (fun x => rkC c.Ranks x || rkI c.Ranks x)
              · have : ranksB p c.Ranks (rkC c.Ranks) = false := by
                  cases hc : ranksB p c.Ranks (rkC c.Ranks) with
                  | false => rfl
                  | true =>
                    rw [← hR]
                    symm
                    simp only [ranksB, Bool.and_eq_true, List.all_eq_true] at hc ⊢
                    exact ⟨hc.1, fun x hx => by rw [hc.2 x hx]; rfl⟩
                rw [this]; simp [sb]
              · simp only [ranksB, Bool.and_eq_true] at hR
                rw [if_pos rfl, e_waAbove n p hp h _ (by simpa using hR.1.1) hR.1.2, sb, sb]
                simp only [ranksB, hR.1.1, hR.1.2, Bool.true_and]
            · rw [if_neg (by simp; omega), sb, decide_eq_false hy]; simp
          · rw [if_neg (by simp [hz]), sb, decide_eq_false hz]; simp
        · rw [if_neg (by simp [k0]), if_neg k0]
theorem e_isCertificate (n fuel : Nat) (p : T_WalkProblem) (hp : p.Labels = n) (hn : n ≤ 12) (hn1 : 1 ≤ n) (h : okArcs n p.Arcs) (c : T_WalkCertificate) (h1 : c.First.length ≤ 1048576) (h2 : c.Second.length ≤ 1048576) (h3 : c.Ranks.length ≤ 1048576) (hf : 1000 ≤ fuel) :
    fI_WalkProblem_isCertificate fuel p c = some (certB p c) := by
  have hh : fI_WalkProblem_hasLabels p [c.Label] = some (inB 0 (p.Labels - 1) c.Label) := by
    unfold fI_WalkProblem_hasLabels
    rw [ck_in (by omega) (by omega), sb, e_allWithin _ _ _ (by simp), sb]
    simp
  unfold fI_WalkProblem_isCertificate certB
  rw [hh, sb]
  by_cases k3 : c.Class = 3
  · rw [if_pos (by simp [k3]), if_pos k3]
    cases hb : inB 0 (p.Labels - 1) c.Label
    · simp [sb]
    · have hi := inB_if.1 hb
      obtain ⟨u, hu⟩ := Int.eq_ofNat_of_zero_le hi.1
      obtain ⟨ha, hlt⟩ := e_after n p hp (by omega) h
      have hS : aftF p.Arcs u < 2 ^ 62 := Nat.lt_of_lt_of_le (hlt u) (Nat.pow_le_pow_right (by decide) (by omega))
      have hx : ix ((List.range n).map fun a => ((aftF p.Arcs a : Nat) : Int)) (u : Int) = some ((aftF p.Arcs u : Nat) : Int) := by
        rw [ix_nat, List.getElem?_map, List.getElem?_range (by omega)]; rfl
      rw [if_pos rfl, ha, sb, hu, hx, sb, shr_nat (by omega), sb, bit_test hS, Int.toNat_natCast]
      cases (aftF p.Arcs u).testBit u
      · simp [sb]
      · rw [if_pos rfl, ck_in (by omega) (by omega), sb, ck_in (by omega) (by omega), sb, sb]
        by_cases hz : c.First.length + c.Second.length + c.Ranks.length = 0
        · have : (((c.First.length : Int) + (c.Second.length : Int) + (c.Ranks.length : Int)) == 0) = true := by simp; omega
          rw [this, decide_eq_true hz]; simp
        · have : (((c.First.length : Int) + (c.Second.length : Int) + (c.Ranks.length : Int)) == 0) = false := by simp; omega
          rw [this, decide_eq_false hz]; simp
  · rw [if_neg (by simp [k3]), if_neg k3]
    by_cases k2 : c.Class = 2
    · rw [if_pos (by simp [k2]), if_pos k2]
      cases hb : inB 0 (p.Labels - 1) c.Label
      · simp [sb]
      · obtain ⟨r, hr, hs⟩ := e_loopOf p n hp (by omega) h
        rw [if_pos rfl, hr, sb, loop_neg hs]
        cases loopB p
        · rw [Bool.not_false, if_pos rfl]
          by_cases hz : c.Ranks.length = 0
          · rw [if_pos (by simp [hz]), e_isClosedFrom n fuel p hp hn h _ _ hf, sb]
            cases hA : roundB p c.First c.Label
            · simp [sb]
            · rw [if_pos rfl, e_isClosedFrom n fuel p hp hn h _ _ hf, sb]
              cases hB : roundB p c.Second c.Label
              · simp [sb]
              · have l1 := roundB_len hA
                have l2 := roundB_len hB
                rw [if_pos rfl, ck_in (by omega) (by omega), sb, ck_in (by omega) (by omega), sb]
                unfold fI_gcd
                rw [if_pos (by simp; omega), sb, sb]
                have e : gcdL [(c.First.length : Int) - 1, (c.Second.length : Int) - 1] = Nat.gcd (c.First.length - 1) (c.Second.length - 1) := by
                  unfold gcdL
                  simp only [List.foldl_cons, List.foldl_nil, Nat.gcd_zero_left]
                  rw [show ((c.First.length : Int) - 1).toNat = c.First.length - 1 by omega, show ((c.Second.length : Int) - 1).toNat = c.Second.length - 1 by omega]
                rw [e]
                by_cases hg : Nat.gcd (c.First.length - 1) (c.Second.length - 1) = 1
                · simp [hg, hz]
                · have : (((Nat.gcd (c.First.length - 1) (c.Second.length - 1) : Nat) : Int) == 1) = false := by simp; omega
                  rw [this]; simp [hg]
          · rw [if_neg (by simpa using hz), sb, decide_eq_false hz]; simp
        · simp [sb]
    · rw [if_neg (by simp [k2]), if_neg k2]
      by_cases k1 : c.Class = 1
      · rw [if_pos (by simp [k1]), if_pos k1]
        cases hb : inB 0 (p.Labels - 1) c.Label
        · simp [sb]
        · rw [if_pos rfl]
          by_cases hz : c.Second.length = 0
          · rw [if_pos (by simp [hz]), e_isClosedFrom n fuel p hp hn h _ _ hf, sb]
            cases hA : roundB p c.First c.Label
            · simp [sb]
            · rw [if_pos rfl, e_ranksOk n p hp h, sb, sb, decide_eq_true hz]; simp
          · rw [if_neg (by simpa using hz), sb, decide_eq_false hz]; simp
      · rw [if_neg (by simp [k1]), if_neg k1]
        by_cases k0 : c.Class = 0
        · rw [if_pos (by simp [k0]), if_pos k0]
          by_cases hz : c.Label = 0
          · rw [if_pos (by simp [hz]), ck_in (by omega) (by omega), sb]
            by_cases hy : c.First.length + c.Second.length = 0
            · rw [if_pos (by simp; omega), e_ranksOk n p hp h, sb, sb, decide_eq_true hz, decide_eq_true hy]; simp
            · rw [if_neg (by simp; omega), sb, decide_eq_false hy]; simp
          · rw [if_neg (by simp [hz]), sb, decide_eq_false hz]; simp
        · rw [if_neg (by simp [k0]), if_neg k0]
def ccB (p : T_WalkProblem) (c : T_WalkCertificate) : Bool × Bool := if walkB p then (certB p c, true) else (false, false)
theorem e_specCc (fuel : Nat) (hf : 1000 ≤ fuel) (p : T_WalkProblem) (c : T_WalkCertificate) (hJ : p.Arcs.length ≤ 1000000000) (h1 : c.First.length ≤ 1048576) (h2 : c.Second.length ≤ 1048576) (h3 : c.Ranks.length ≤ 1048576) : fS_CheckWalkCertificate fuel p c = some (ccB p c) := by
  unfold fS_CheckWalkCertificate ccB
  rw [e_waGood p hJ, sb]
  cases h : walkB p
  · rfl
  · obtain ⟨w1, w2, w3, w4⟩ := okArcs_of h
    rw [if_neg (by simp), e_waCheck _ fuel p w1 w3 w2 w4 c h1 h2 h3 hf, sb]; rfl
theorem e_implCc (fuel : Nat) (hf : 1000 ≤ fuel) (p : T_WalkProblem) (c : T_WalkCertificate) (hJ : p.Arcs.length ≤ 1000000000) (h1 : c.First.length ≤ 1048576) (h2 : c.Second.length ≤ 1048576) (h3 : c.Ranks.length ≤ 1048576) : fI_CheckWalkCertificate fuel p c = some (ccB p c) := by
  unfold fI_CheckWalkCertificate ccB
  rw [e_IsWalkProblem p hJ, sb]
  cases h : walkB p
  · rfl
  · obtain ⟨w1, w2, w3, w4⟩ := okArcs_of h
    rw [if_neg (by simp), e_isCertificate _ fuel p w1 w3 w2 w4 c h1 h2 h3 hf, sb]; rfl
end Go.Proofs.Ytabclfacjaeblaa
