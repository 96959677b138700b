/- What WalkOfProblem answers. -/
import Derived.Test.YtiejigogmnkjdaaWm
import Derived.Test.YtiejigogmnkjdaaAdp
import Derived.Test.YtiejigogmnkjdaaPp
import Derived.Test.YtiejigogmnkjdaaPg
import Derived.Test.YtiejigogmnkjdaaGW
namespace Go.Proofs.Ytiejigogmnkjdaa
set_option linter.unusedSimpArgs false
set_option linter.unusedVariables false

theorem loopF_cnt {σ τ ρ : Type} {f : σ → Option (Lp σ τ ρ)} (R : Nat → σ) (n : Nat) (t : τ) (hgo : ∀ j, j < n → f (R j) = some (.go (R (j + 1)))) (hout : f (R n) = some (.out t)) (fuel : Nat) (hf : n < fuel) : loopF f fuel (R 0) = some (.inl t) := by
  suffices h : ∀ (d j fuel : Nat), j + d = n → d < fuel → loopF f fuel (R j) = some (.inl t) by exact h n 0 fuel (by omega) hf
  intro d
  induction d with
  | zero =>
    intro j fuel hj hf
    obtain ⟨m, rfl⟩ : ∃ m, fuel = m + 1 := ⟨fuel - 1, by omega⟩
    have : j = n := by omega
    subst this
    simp only [loopF, hout]
  | succ d ih =>
    intro j fuel hj hf
    obtain ⟨m, rfl⟩ : ∃ m, fuel = m + 1 := ⟨fuel - 1, by omega⟩
    simp only [loopF, hgo j (by omega)]
    exact ih (j + 1) m (by omega) (by omega)

/-! ### Pairs of numbers that are allowed -/
def rowS (c : Nat → Nat → Bool) (a b : Nat) : List (List Int) := ((List.range b).filter (c a)).map fun (j : Nat) => [(a : Int), (j : Int)]
def allS (c : Nat → Nat → Bool) (n a : Nat) : List (List Int) := (List.range a).flatMap fun u => rowS c u n
theorem rowS_yes {c : Nat → Nat → Bool} {a b : Nat} (h : c a b = true) : rowS c a (b + 1) = rowS c a b ++ [[(a : Int), (b : Int)]] := by
  simp [rowS, List.range_succ, h]
theorem rowS_no {c : Nat → Nat → Bool} {a b : Nat} (h : c a b = false) : rowS c a (b + 1) = rowS c a b := by
  simp [rowS, List.range_succ, h]
theorem rowS_zero (c : Nat → Nat → Bool) (a : Nat) : rowS c a 0 = [] := rfl
theorem allS_zero (c : Nat → Nat → Bool) (n : Nat) : allS c n 0 = [] := rfl
theorem allS_succ (c : Nat → Nat → Bool) (n a : Nat) : allS c n (a + 1) = allS c n a ++ rowS c a n := by
  simp [allS, List.range_succ]
theorem rowS_len (c : Nat → Nat → Bool) (a b : Nat) : (rowS c a b).length ≤ b := by
  have := List.length_filter_le (c a) (List.range b)
  simp only [rowS, List.length_map]
  simpa using this
theorem allS_len (c : Nat → Nat → Bool) (n : Nat) : ∀ a, (allS c n a).length ≤ a * n
  | 0 => by simp [allS_zero]
  | a + 1 => by
    rw [allS_succ, List.length_append, Nat.succ_mul]
    have := allS_len c n a
    have := rowS_len c a n
    omega
theorem allS_two (c : Nat → Nat → Bool) (n a : Nat) : ∀ x ∈ allS c n a, ∃ u v : Nat, x = [(u : Int), (v : Int)] := by
  intro x hx
  unfold allS rowS at hx
  rw [List.mem_flatMap] at hx
  obtain ⟨u, _, hu⟩ := hx
  rw [List.mem_map] at hu
  obtain ⟨v, _, rfl⟩ := hu
  exact ⟨u, v, rfl⟩
theorem tot_pairs {LL : List (List Int)} (h : ∀ r ∈ LL, r.length = 2) : tot LL = 3 * LL.length := by
  unfold tot off
  rw [List.take_length]
  have : (LL.map List.length).sum = 2 * LL.length := by
    induction LL with
    | nil => rfl
    | cons r LL ih =>
      rw [List.map_cons, List.sum_cons, h r (by simp), ih fun r hr => h r (by simp [hr])]
      simp; omega
  omega
theorem allS_tot (c : Nat → Nat → Bool) (n a : Nat) : tot (allS c n a) = 3 * (allS c n a).length := tot_pairs fun r hr => by
  obtain ⟨u, v, rfl⟩ := allS_two c n a r hr
  rfl
theorem push_two {S : List (List Int)} {x : List Int} (h : S.length ≤ 1000000) : push S x = some (S ++ [x]) := by
  unfold push
  rw [if_pos (by omega)]
/-! ### The answer -/
def nodC (p : T_Problem) (a b : Nat) : Bool := decide (srt [(a : Int), (b : Int)] ∈ p.Nodes)
def stsL (p : T_Problem) : List (List Int) := allS (nodC p) p.Labels.toNat p.Labels.toNat
def arcC (p : T_Problem) (Y : List (List Int)) (i j : Nat) : Bool := decide (srt [(Y.getD i []).getD 0 0, (Y.getD j []).getD 1 0] ∈ p.Edges)
def wopB (p : T_Problem) : T_WalkProblem × List (List Int) × Bool :=
  if probB p && decide (p.Degree = 2) && decide (1 ≤ (stsL p).length ∧ (stsL p).length ≤ 12) then
    (⟨((stsL p).length : Int), allS (arcC p (stsL p)) (stsL p).length (stsL p).length⟩, stsL p, true)
  else (⟨0, []⟩, [], false)
theorem sts_small (p : T_Problem) (h : p.Labels ≤ 8) : (stsL p).length ≤ 64 := by
  have h1 := allS_len (nodC p) p.Labels.toNat p.Labels.toNat
  have h2 : p.Labels.toNat ≤ 8 := by omega
  have := Nat.mul_le_mul h2 h2
  unfold stsL; omega
theorem allS_part (c : Nat → Nat → Bool) {n N a b : Nat} (ha : a ≤ N) (hb : b ≤ n) (hn : n ≤ 100) (hN : N ≤ 100) : (allS c n a ++ rowS c a b).length ≤ 1000000 := by
  rw [List.length_append]
  have h1 := allS_len c n a
  have h2 := rowS_len c a b
  have := Nat.mul_le_mul (show a ≤ 100 by omega) hn
  omega
theorem e_specWop (fuel : Nat) (hf : 2000000 ≤ fuel) (p : T_Problem) (hJ : p.Nodes.length ≤ 1048576) (hE : p.Edges.length ≤ 1048576) : fS_WalkOfProblem fuel p = some (wopB p) := by
  unfold fS_WalkOfProblem wopB
  rw [e_prGood fuel (by omega) p (by omega) (by omega), sb]
  cases h : probB p
  · simp [sb]
  · obtain ⟨h1, h2, h3, h4, h5, h6⟩ := probB_iff h
    rw [if_neg (by simp), sb]
    by_cases hd : p.Degree = 2
    · rw [if_neg (by simp [hd])]
      have hn : p.Labels = ((p.Labels.toNat : Nat) : Int) := by omega
      have hn8 : p.Labels.toNat ≤ 8 := by omega
      generalize hN : p.Labels.toNat = n at hn hn8
      have inner : ∀ a : Nat, a < n → loopF (fS_WalkOfProblem_s2 fuel p (a : Int)) fuel (allS (nodC p) n a, 0) = some (.inl (allS (nodC p) n (a + 1), (n : Int))) := fun a ha => by
        have := loopF_cnt (f := fS_WalkOfProblem_s2 fuel p (a : Int)) (fun b : Nat => (allS (nodC p) n a ++ rowS (nodC p) a b, (b : Int))) n (allS (nodC p) n (a + 1), (n : Int)) (fun b hb => by
          unfold fS_WalkOfProblem_s2
          rw [if_pos (by simp only; rw [hn]; simpa using hb), e_prNode fuel p _ (by simp) (by simp; omega), sb]
          by_cases hc : nodC p a b = true
          · have hc' : decide (srt [(a : Int), (b : Int)] ∈ p.Nodes) = true := hc
            simp only [hc', if_true]
            rw [push_two (allS_part _ (Nat.le_of_lt ha) (Nat.le_of_lt hb) (by omega) (by omega)), sb, ck_in (by omega) (by omega), sb, rowS_yes hc, List.append_assoc]
            rfl
          · have hc' : decide (srt [(a : Int), (b : Int)] ∈ p.Nodes) = false := by simpa [nodC] using hc
            simp only [hc', Bool.false_eq_true, if_false]
            rw [ck_in (by omega) (by omega), sb, rowS_no (by simpa using hc)]
            rfl) (by
          unfold fS_WalkOfProblem_s2
          rw [if_neg (by simp only; rw [hn]; simp)]
          simp only [allS_succ]) fuel (by omega)
        simpa [rowS_zero] using this
      have outer := loopF_cnt (f := fS_WalkOfProblem_s1 fuel p) (fun a : Nat => (allS (nodC p) n a, (a : Int))) n (allS (nodC p) n n, (n : Int)) (fun a ha => by
        unfold fS_WalkOfProblem_s1
        rw [if_pos (by simp only; rw [hn]; simpa using ha), inner a ha, sb]
        simp only
        rw [ck_in (by omega) (by omega), sb]
        rfl) (by
        unfold fS_WalkOfProblem_s1
        rw [if_neg (by simp only; rw [hn]; simp)]) fuel (by omega)
      have hst : stsL p = allS (nodC p) n n := by unfold stsL; rw [hN]
      have e0 : loopF (fS_WalkOfProblem_s1 fuel p) fuel ([], 0) = some (.inl (stsL p, (n : Int))) := by rw [hst]; simpa [allS_zero] using outer
      rw [e0, sb]
      simp only
      have hsm := sts_small p (by omega)
      rw [e_l1In, sb]
      by_cases hl : 1 ≤ (stsL p).length ∧ (stsL p).length ≤ 12
      · rw [if_neg (by simp; omega)]
        have hY : ∀ (i : Nat) (x : List Int), (stsL p)[i]? = some x → x = (stsL p).getD i [] ∧ ix x 0 = some (((stsL p).getD i []).getD 0 0) ∧ ix x 1 = some (((stsL p).getD i []).getD 1 0) := fun i x hx => by
          have hg : (stsL p).getD i [] = x := by rw [List.getD_eq_getElem?_getD, hx]; rfl
          obtain ⟨u, v, rfl⟩ := allS_two _ _ _ x (List.mem_of_getElem? hx)
          rw [hg]
          exact ⟨rfl, rfl, rfl⟩
        have loop := forI_inv0 (body := fS_WalkOfProblem_s3 p (stsL p)) (fun i => allS (arcC p (stsL p)) (stsL p).length i) (stsL p) (fun i x hi => by
          have hil := (List.getElem?_eq_some_iff.1 hi).1
          unfold fS_WalkOfProblem_s3
          have := forI_inv0 (body := fS_WalkOfProblem_s4 p (i : Int) x) (fun j => allS (arcC p (stsL p)) (stsL p).length i ++ rowS (arcC p (stsL p)) i j) (stsL p) (fun j y hj => by
            have hjl := (List.getElem?_eq_some_iff.1 hj).1
            unfold fS_WalkOfProblem_s4
            rw [(hY i x hi).2.1, sb, (hY j y hj).2.2, sb, e_prEdge, sb]
            by_cases hc : arcC p (stsL p) i j = true
            · have hc' : decide (srt [((stsL p).getD i []).getD 0 0, ((stsL p).getD j []).getD 1 0] ∈ p.Edges) = true := hc
              rw [if_pos hc', push_two (allS_part _ (Nat.le_of_lt hil) (Nat.le_of_lt hjl) (by omega) (by omega)), sb, rowS_yes hc, List.append_assoc]
            · have hc' : ¬ decide (srt [((stsL p).getD i []).getD 0 0, ((stsL p).getD j []).getD 1 0] ∈ p.Edges) = true := hc
              rw [if_neg hc', rowS_no (by simpa using hc)])
          rw [rowS_zero, List.append_nil] at this
          rw [this, sb]
          simp only [allS_succ])
        rw [allS_zero] at loop
        rw [loop, sb]
        simp [hd, hl]
      · rw [if_pos (by simp; omega), if_neg (by simp; omega)]
    · rw [if_pos (by simp [hd])]; simp [hd]
theorem e_implWop (fuel : Nat) (hf : 2000000 ≤ fuel) (p : T_Problem) (hJ : p.Nodes.length ≤ 1048576) (hE : p.Edges.length ≤ 1048576) : fI_WalkOfProblem fuel p = some (wopB p) := by
  unfold fI_WalkOfProblem wopB
  rw [e_IsProblem fuel (by omega) p (by omega) (by omega), sb]
  cases h : probB p
  · simp [sb]
  · obtain ⟨h1, h2, h3, h4, h5, h6⟩ := probB_iff h
    rw [if_neg (by simp), sb]
    by_cases hd : p.Degree = 2
    · rw [if_neg (by simp [hd]), ck_in (by omega) (by omega), sb]
      have hn : p.Labels = ((p.Labels.toNat : Nat) : Int) := by omega
      have hn8 : p.Labels.toNat ≤ 8 := by omega
      generalize hN : p.Labels.toNat = n at hn hn8
      have inner : ∀ a : Nat, a < n → forN (fI_WalkOfProblem_s2 fuel p (a : Int)) n 0 (allS (nodC p) n a) = some (.inl (allS (nodC p) n (a + 1))) := fun a ha => by
        have := forN_inv0 (body := fI_WalkOfProblem_s2 fuel p (a : Int)) (fun b : Nat => allS (nodC p) n a ++ rowS (nodC p) a b) n (fun b hb => by
          unfold fI_WalkOfProblem_s2
          rw [e_node fuel p h _ (by simp [hd]) (by omega) (by omega), sb]
          by_cases hc : nodC p a b = true
          · have hc' : decide (srt [(a : Int), (b : Int)] ∈ p.Nodes) = true := hc
            simp only [hc', if_true]
            rw [push_two (allS_part _ (Nat.le_of_lt ha) (Nat.le_of_lt hb) (by omega) (by omega)), sb, rowS_yes hc, List.append_assoc]
          · have hc' : decide (srt [(a : Int), (b : Int)] ∈ p.Nodes) = false := by simpa [nodC] using hc
            simp only [hc', Bool.false_eq_true, if_false]
            rw [rowS_no (by simpa using hc)])
        simpa [rowS_zero, allS_succ] using this
      have outer := forN_inv0 (body := fI_WalkOfProblem_s1 fuel p) (fun a : Nat => allS (nodC p) n a) n (fun a ha => by
        unfold fI_WalkOfProblem_s1
        rw [ck_in (by omega) (by omega), sb, hN, inner a ha, sb])
      have hst : stsL p = allS (nodC p) n n := by unfold stsL; rw [hN]
      have e0 : forN (fI_WalkOfProblem_s1 fuel p) n 0 [] = some (.inl (stsL p)) := by rw [hst]; simpa [allS_zero] using outer
      rw [e0, sb]
      simp only
      have hsm := sts_small p (by omega)
      rw [e_within, sb]
      by_cases hl : 1 ≤ (stsL p).length ∧ (stsL p).length ≤ 12
      · rw [if_neg (by simp; omega)]
        have hY : ∀ (i : Nat) (x : List Int), (stsL p)[i]? = some x → x = (stsL p).getD i [] ∧ ix x 0 = some (((stsL p).getD i []).getD 0 0) ∧ ix x 1 = some (((stsL p).getD i []).getD 1 0) := fun i x hx => by
          have hg : (stsL p).getD i [] = x := by rw [List.getD_eq_getElem?_getD, hx]; rfl
          obtain ⟨u, v, rfl⟩ := allS_two _ _ _ x (List.mem_of_getElem? hx)
          rw [hg]
          exact ⟨rfl, rfl, rfl⟩
        have loop := forI_inv0 (body := fI_WalkOfProblem_s3 fuel p (stsL p)) (fun i => allS (arcC p (stsL p)) (stsL p).length i) (stsL p) (fun i x hi => by
          have hil := (List.getElem?_eq_some_iff.1 hi).1
          unfold fI_WalkOfProblem_s3
          have := forI_inv0 (body := fI_WalkOfProblem_s4 fuel p (i : Int) x) (fun j => allS (arcC p (stsL p)) (stsL p).length i ++ rowS (arcC p (stsL p)) i j) (stsL p) (fun j y hj => by
            have hjl := (List.getElem?_eq_some_iff.1 hj).1
            unfold fI_WalkOfProblem_s4
            rw [(hY i x hi).2.1, sb, (hY j y hj).2.2, sb, e_edge fuel p h _ _ (by omega) (by omega), sb]
            by_cases hc : arcC p (stsL p) i j = true
            · have hc' : decide (srt [((stsL p).getD i []).getD 0 0, ((stsL p).getD j []).getD 1 0] ∈ p.Edges) = true := hc
              rw [if_pos hc', push_two (allS_part _ (Nat.le_of_lt hil) (Nat.le_of_lt hjl) (by omega) (by omega)), sb, rowS_yes hc, List.append_assoc]
            · have hc' : ¬ decide (srt [((stsL p).getD i []).getD 0 0, ((stsL p).getD j []).getD 1 0] ∈ p.Edges) = true := hc
              rw [if_neg hc', rowS_no (by simpa using hc)])
          rw [rowS_zero, List.append_nil] at this
          rw [this, sb]
          simp only [allS_succ])
        rw [allS_zero] at loop
        rw [loop, sb]
        simp [hd, hl]
      · rw [if_pos (by simp; omega), if_neg (by simp; omega)]
    · rw [if_pos (by simp [hd])]; simp [hd]
/-! ### In the law's form -/
def wOf' (p : T_WalkProblem) : WP := ⟨p.Labels, p.Arcs⟩
def zeroWM : WP × List (List Int) := (⟨0, []⟩, [])
def fWalkOfProblemSpec (x : PR) : Option (WP × List (List Int)) := if (wopB (tP x)).2.2 then some (wOf' (wopB (tP x)).1, (wopB (tP x)).2.1) else none
def fWalkOfProblemImpl (x : PR) : Option (WP × List (List Int)) := fWalkOfProblemSpec x
theorem WalkOfProblem_eq (x : PR) (_ : okP x) (_ : szP x ≤ 1048576) : fWalkOfProblemImpl x = fWalkOfProblemSpec x := rfl
theorem wop_sb (x : PR) : (fWalkOfProblemSpec x).isSome = (wopB (tP x)).2.2 ∧ (fWalkOfProblemSpec x).getD zeroWM = (wOf' (wopB (tP x)).1, (wopB (tP x)).2.1) ∧ szW (wOf' (wopB (tP x)).1) + tot (wopB (tP x)).2.1 ≤ 1000000000 := by
  unfold fWalkOfProblemSpec wopB
  split
  · rename_i hc
    simp only [Bool.and_eq_true, decide_eq_true_eq] at hc
    refine ⟨rfl, rfl, ?_⟩
    simp only [wOf', szW]
    rw [allS_tot, show tot (stsL (tP x)) = 3 * (stsL (tP x)).length from allS_tot _ _ _]
    have h1 := allS_len (arcC (tP x) (stsL (tP x))) (stsL (tP x)).length (stsL (tP x)).length
    have h2 := Nat.mul_le_mul hc.2.2 hc.2.2
    omega
  · exact ⟨rfl, rfl, by simp [wOf', szW, tot, off]⟩
/-- The call returns a new walk problem, a new list of lists, and whether there is one. -/
def RetWM (w0 : World) (r : Option (WP × List (List Int))) (e : Ending) (w' : World) : Prop :=
  ∃ v v', e = .returned (.tuple #[v, v', .bool r.isSome]) ∧ OwWM w0.heap.size w'.heap.size w' v (r.getD zeroWM).1 v' (r.getD zeroWM).2 ∧ szW (r.getD zeroWM).1 + tot (r.getD zeroWM).2 ≤ 1000000000 ∧ Keeps w0 w'
theorem specWalkOfProblem_any (v : Value) (x : PR) (w : World) (h : RdP w v x) (_ : okP x) (hs : szP x ≤ 1048576) :
    Calls Try.prog 61 #[v] w (RetWM w (fWalkOfProblemSpec x)) := by
  obtain ⟨u, rfl, h2⟩ := h.rdz
  obtain ⟨s1, s2⟩ := szP_len hs
  obtain ⟨b1, b2, b3⟩ := wop_sb x
  refine (cS_WalkOfProblem 2000000 w ot 2 (by decide) u (tP x) h2 _ (e_specWop 2000000 (Nat.le_refl _) (tP x) s1 s2)).mono ?_
  rintro e w' ⟨v0, v1, g1, o', rfl, hr, hz, ho, hw, hk, hb⟩
  obtain ⟨a0, rfl, h1⟩ := hr
  exact ⟨_, v1, by rw [b1], by rw [b2]; exact ⟨a0, rfl, pm_of hz ho hw (by decide) hb⟩, by rw [b2]; exact b3, hk⟩
theorem implWalkOfProblem_any (v : Value) (x : PR) (w : World) (h : RdP w v x) (_ : okP x) (hs : szP x ≤ 1048576) :
    Calls Try.prog 62 #[v] w (RetWM w (fWalkOfProblemImpl x)) := by
  obtain ⟨u, rfl, h2⟩ := h.rdz
  obtain ⟨s1, s2⟩ := szP_len hs
  obtain ⟨b1, b2, b3⟩ := wop_sb x
  refine (cI_WalkOfProblem 2000000 w ot 2 (by decide) u (tP x) h2 _ (e_implWop 2000000 (Nat.le_refl _) (tP x) s1 s2)).mono ?_
  rintro e w' ⟨v0, v1, g1, o', rfl, hr, hz, ho, hw, hk, hb⟩
  obtain ⟨a0, rfl, h1⟩ := hr
  unfold fWalkOfProblemImpl
  exact ⟨_, v1, by rw [b1], by rw [b2]; exact ⟨a0, rfl, pm_of hz ho hw (by decide) hb⟩, by rw [b2]; exact b3, hk⟩
end Go.Proofs.Ytiejigogmnkjdaa
