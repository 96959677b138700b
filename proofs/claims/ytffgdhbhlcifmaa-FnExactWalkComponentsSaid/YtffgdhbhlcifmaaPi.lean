/- PowerWalk: what the two sides compute. -/
import Derived.Test.YtffgdhbhlcifmaaPh
import Derived.Test.YtffgdhbhlcifmaaGJ
namespace Go.Proofs.Ytffgdhbhlcifmaa
set_option linter.unusedSimpArgs false
set_option linter.unusedVariables false

/-- The arcs that lead out of the labels below a. -/
def outArcs (n : Nat) (f : Nat → Nat) (a : Nat) : List (List Int) := (List.range a).flatMap fun u => (lbs n (f u)).map fun b => [(u : Int), b]
theorem outArcs_succ (n : Nat) (f : Nat → Nat) (a : Nat) : outArcs n f (a + 1) = outArcs n f a ++ (lbs n (f a)).map fun b => [(a : Int), b] := by
  unfold outArcs
  rw [List.range_succ, List.flatMap_append]
  simp
theorem outArcs_length (n : Nat) (f : Nat → Nat) : ∀ a, (outArcs n f a).length ≤ a * n
  | 0 => by simp [outArcs]
  | a + 1 => by
    rw [outArcs_succ, List.length_append, List.length_map, Nat.succ_mul]
    have := outArcs_length n f a
    have := lbs_length n (f a)
    omega
theorem outArcs_small {n : Nat} (hn : n ≤ 60) (f : Nat → Nat) {a : Nat} (ha : a ≤ n) : (outArcs n f a).length ≤ 3600 := by
  refine Nat.le_trans (outArcs_length n f a) ?_
  exact Nat.le_trans (Nat.mul_le_mul (Nat.le_trans ha hn) hn) (by decide)
theorem pw_s2_spec (n a m : Nat) (hn : n ≤ 60) (S : List (List Int)) (hS : S.length ≤ 3600) : forI (fS_PowerWalk_s2 (a : Int)) (mrow n m) 0 S = some (.inl (S ++ (lbs n m).map fun b => [(a : Int), b])) := by
  have := forI_inv0 (body := fS_PowerWalk_s2 (a : Int)) (fun j => S ++ (lbs j m).map fun b => [(a : Int), b]) (mrow n m) (fun j x hj => by
    have hjn : j < n := by have := (List.getElem?_eq_some_iff.1 hj).1; rwa [mrow_length] at this
    rw [mrow_get hjn] at hj
    cases hj
    unfold fS_PowerWalk_s2
    rw [lbs_succ]
    have hl := lbs_length j m
    cases hb : m.testBit j
    · simp
    · simp only [if_true]
      unfold push
      rw [if_pos (by simp; omega), sb]
      simp)
  rw [mrow_length] at this
  have h0 : (S ++ (lbs 0 m).map fun b => [(a : Int), b]) = S := by simp [lbs]
  rw [h0] at this
  exact this
theorem pw_s2_impl (n a m : Nat) (hn : n ≤ 60) (S : List (List Int)) (hS : S.length ≤ 3600) : forI (fI_PowerWalk_s2 (a : Int)) (lbs n m) 0 S = some (.inl (S ++ (lbs n m).map fun b => [(a : Int), b])) := by
  have hl := lbs_length n m
  have := forI_inv0 (body := fI_PowerWalk_s2 (a : Int)) (fun j => S ++ ((lbs n m).take j).map fun b => [(a : Int), b]) (lbs n m) (fun j x hj => by
    have hjn := (List.getElem?_eq_some_iff.1 hj).1
    unfold fI_PowerWalk_s2 push
    rw [if_pos (by simp; omega), sb, List.take_add_one, hj]
    simp)
  rw [List.take_length] at this
  have h0 : (S ++ ((lbs n m).take 0).map fun b => [(a : Int), b]) = S := by simp
  rw [h0] at this
  exact this
theorem mulP_take (g : Nat → Nat) (m n : Nat) (T : Nat → Nat) : True := trivial
/-- The labels behind a set of labels, by the list of the set. -/
theorem reach_s2 (n m fuel : Nat) (A : Nat → Nat) (hn : n ≤ 60) (hA : ∀ a, A a < 2 ^ n) : forI (fI_WalkProblem_reached_s2 ((List.range n).map fun a => ((A a : Nat) : Int))) (lbs n m) 0 0 = some (.inl ((mulP A m n : Nat) : Int)) := by
  have h60 : 2 ^ n ≤ 2 ^ 60 := Nat.pow_le_pow_right (by decide) hn
  have key : ∀ j, j ≤ n → ∀ (k : Int) (s : Nat), s < 2 ^ n → forI (fI_WalkProblem_reached_s2 ((List.range n).map fun a => ((A a : Nat) : Int))) (lbs j m) k ((s : Nat) : Int) = some (.inl ((s ||| mulP A m j : Nat) : Int)) := by
    intro j
    induction j with
    | zero => intro _ k s hs; simp [lbs, forI, mulP]
    | succ j ih =>
      intro hj k s hs
      have app : ∀ (xs ys : List Int) (k : Int) (s t : Int), forI (fI_WalkProblem_reached_s2 ((List.range n).map fun a => ((A a : Nat) : Int))) xs k s = some (.inl t) →
          forI (fI_WalkProblem_reached_s2 ((List.range n).map fun a => ((A a : Nat) : Int))) (xs ++ ys) k s = forI (fI_WalkProblem_reached_s2 ((List.range n).map fun a => ((A a : Nat) : Int))) ys (k + xs.length) t := by
        intro xs
        induction xs with
        | nil => intro ys k s t h; simp only [forI] at h; cases h; simp
        | cons x xs ihx =>
          intro ys k s t h
          simp only [forI, List.cons_append] at h ⊢
          cases hb : fI_WalkProblem_reached_s2 ((List.range n).map fun a => ((A a : Nat) : Int)) k x s with
          | none => rw [hb] at h; cases h
          | some r =>
            rw [hb] at h
            cases r with
            | go s' =>
              simp only at h ⊢
              rw [ihx ys (k + 1) s' t h, List.length_cons]
              congr 1; omega
            | out s' =>
              exfalso
              unfold fI_WalkProblem_reached_s2 at hb
              cases hx : ix ((List.range n).map fun a => ((A a : Nat) : Int)) x with
              | none => rw [hx] at hb; cases hb
              | some q => rw [hx, sb] at hb; cases hb
            | ret s' => cases h
      rw [lbs_succ]
      cases hb : m.testBit j
      · simp only [mulP, hb, Bool.false_eq_true, if_false, Nat.or_zero]
        exact ih (by omega) k s hs
      · simp only [if_true]
        rw [app _ _ k _ _ (ih (by omega) k s hs)]
        have hlt := mulP_lt hA m j
        have hs2 : s ||| mulP A m j < 2 ^ n := Nat.or_lt_two_pow hs hlt
        have h1 : s ||| mulP A m j < 2 ^ 62 := Nat.lt_trans (Nat.lt_of_lt_of_le hs2 h60) (by decide)
        have h2 : A j < 2 ^ 62 := Nat.lt_trans (Nat.lt_of_lt_of_le (hA j) h60) (by decide)
        have hg : ix ((List.range n).map fun a => ((A a : Nat) : Int)) (j : Int) = some ((A j : Nat) : Int) := by rw [ix_nat]; simp [show j < n by omega]
        simp only [forI, fI_WalkProblem_reached_s2, hg, sb, bor_nat h1 h2, mulP, hb, if_true, Nat.or_assoc]
  have := key n (Nat.le_refl _) 0 0 (Nat.two_pow_pos n)
  rw [Nat.zero_or] at this
  exact this
theorem pwF_lt {A : Nat → Nat} {n a : Nat} (hA : ∀ a, A a < 2 ^ n) (ha : a < n) : ∀ k, pwF A n a k < 2 ^ n
  | 0 => Nat.pow_lt_pow_right (by decide) ha
  | k + 1 => mulP_lt hA _ _
theorem e_reached (n a k fuel : Nat) (p : T_WalkProblem) (hp : p.Labels = n) (hn : n ≤ 60) (h : okArcs n p.Arcs) (ha : a < n) (hk : k ≤ 1000) (hf : n < fuel) :
    fI_WalkProblem_reached fuel p (a : Int) (k : Int) = some ((List.range (k + 1)).map fun j => ((pwF (aftF p.Arcs) n a j : Nat) : Int)) := by
  obtain ⟨e1, hA⟩ := e_after n p hp hn h
  unfold fI_WalkProblem_reached
  rw [e1, sb, shl_one (by omega), sb, ck_in (by omega) (by omega), sb, Int.toNat_natCast]
  have := forN_inv0 (body := fI_WalkProblem_reached_s1 fuel ((List.range n).map fun a => ((aftF p.Arcs a : Nat) : Int))) (fun j => (List.range (j + 1)).map fun i => ((pwF (aftF p.Arcs) n a i : Nat) : Int)) k (fun j hj => by
    unfold fI_WalkProblem_reached_s1
    have hg : ix ((List.range (j + 1)).map fun i => ((pwF (aftF p.Arcs) n a i : Nat) : Int)) (j : Int) = some ((pwF (aftF p.Arcs) n a j : Nat) : Int) := by rw [ix_nat]; simp
    rw [hg, sb, e_labelsIn n _ fuel (pwF_lt hA ha j) (by omega) hf, sb, reach_s2 n _ fuel _ hn hA, sb]
    simp only
    unfold push
    rw [if_pos (by simp; omega), sb, List.range_succ (n := j + 1), List.map_append]
    rfl)
  rw [show ([((2 ^ a : Nat) : Int)] : List Int) = (List.range (0 + 1)).map fun i => ((pwF (aftF p.Arcs) n a i : Nat) : Int) from rfl, this, sb]
/-- The power of a walk problem, and whether there is one. -/
def powB (p : T_WalkProblem) (k : Int) : T_WalkProblem × Bool :=
  if walkB p && inB 1 200 k then (⟨p.Labels, outArcs p.Labels.toNat (fun a => pwF (aftF p.Arcs) p.Labels.toNat a k.toNat) p.Labels.toNat⟩, true) else (⟨0, []⟩, false)
theorem e_specPower (fuel : Nat) (hf : 1000 ≤ fuel) (p : T_WalkProblem) (k : Int) (hJ : p.Arcs.length ≤ 1000000000) : fS_PowerWalk fuel p k = some (powB p k) := by
  unfold fS_PowerWalk powB
  rw [e_waGood p hJ, sb]
  cases h : walkB p
  · simp [sb]
  · obtain ⟨h1, h0, h2, h3⟩ := okArcs_of h
    rw [if_neg (by simp), e_l1In, sb, sb]
    rw [show (decide (1 ≤ k) && decide (k ≤ 200)) = inB 1 200 k from rfl]
    cases hd : inB 1 200 k
    · simp
    · have hd' := inB_if.1 hd
      obtain ⟨K, rfl⟩ : ∃ K : Nat, k = K := ⟨k.toNat, by omega⟩
      rw [if_neg (by simp), e_waPowers p.Labels.toNat K fuel p h1 (by omega) h3 (by omega) (by omega), sb]
      have hg : ix ((List.range (K + 1)).map fun j => matF p.Labels.toNat fun a => pwF (aftF p.Arcs) p.Labels.toNat a j) (K : Int) = some (matF p.Labels.toNat fun a => pwF (aftF p.Arcs) p.Labels.toNat a K) := by rw [ix_nat]; simp
      rw [hg, sb, matF_length, ck_in (by omega) (by omega), sb, Int.toNat_natCast]
      have := forN_inv0 (body := fS_PowerWalk_s1 (matF p.Labels.toNat fun a => pwF (aftF p.Arcs) p.Labels.toNat a K)) (fun j => outArcs p.Labels.toNat (fun a => pwF (aftF p.Arcs) p.Labels.toNat a K) j) p.Labels.toNat (fun j hj => by
        unfold fS_PowerWalk_s1
        rw [ix_matF hj, sb, pw_s2_spec _ _ _ (by omega) _ (outArcs_small (by omega) _ (by omega)), sb, outArcs_succ])
      rw [show outArcs p.Labels.toNat (fun a => pwF (aftF p.Arcs) p.Labels.toNat a K) 0 = [] from rfl] at this
      rw [this, sb]
      simp
theorem e_implPower (fuel : Nat) (hf : 1000 ≤ fuel) (p : T_WalkProblem) (k : Int) (hJ : p.Arcs.length ≤ 1000000000) : fI_PowerWalk fuel p k = some (powB p k) := by
  unfold fI_PowerWalk powB
  rw [e_IsWalkProblem p hJ, sb]
  cases h : walkB p
  · simp [sb]
  · obtain ⟨h1, h0, h2, h3⟩ := okArcs_of h
    rw [if_neg (by simp), e_within, sb, sb]
    rw [show (decide (1 ≤ k) && decide (k ≤ 200)) = inB 1 200 k from rfl]
    cases hd : inB 1 200 k
    · simp
    · have hd' := inB_if.1 hd
      obtain ⟨K, rfl⟩ : ∃ K : Nat, k = K := ⟨k.toNat, by omega⟩
      rw [if_neg (by simp), ck_in (by omega) (by omega), sb]
      have hA := (e_after p.Labels.toNat p h1 (by omega) h3).2
      have := forN_inv0 (body := fI_PowerWalk_s1 fuel p (K : Int)) (fun j => outArcs p.Labels.toNat (fun a => pwF (aftF p.Arcs) p.Labels.toNat a K) j) p.Labels.toNat (fun j hj => by
        unfold fI_PowerWalk_s1
        have hg : ix ((List.range (K + 1)).map fun i => ((pwF (aftF p.Arcs) p.Labels.toNat j i : Nat) : Int)) (K : Int) = some ((pwF (aftF p.Arcs) p.Labels.toNat j K : Nat) : Int) := by rw [ix_nat]; simp
        rw [e_reached p.Labels.toNat j K fuel p h1 (by omega) h3 hj (by omega) (by omega), sb, hg, sb, e_labelsIn p.Labels.toNat _ fuel (pwF_lt hA hj K) (by omega) (by omega), sb,
          pw_s2_impl _ _ _ (by omega) _ (outArcs_small (by omega) _ (by omega)), sb, outArcs_succ])
      rw [show outArcs p.Labels.toNat (fun a => pwF (aftF p.Arcs) p.Labels.toNat a K) 0 = [] from rfl] at this
      rw [this, sb]
      simp
end Go.Proofs.Ytffgdhbhlcifmaa
