/- IsConfigMap of both sides, as the law calls them. -/
import Derived.Test.YtiejigogmnkjdaaLm
import Derived.Test.YtiejigogmnkjdaaGU
namespace Go.Proofs.Ytiejigogmnkjdaa
open Go.RowKit
set_option linter.unusedSimpArgs false
set_option linter.unusedVariables false

/-- A loop with a known state that may end early. -/
theorem forI_firstS {α σ ρ : Type} {body : Int → α → σ → Option (Lp σ σ ρ)} (R : Nat → σ) (p : Nat → α → Option ρ) : ∀ (xs : List α) (k : Nat),
    (∀ (j : Nat) x, xs[j]? = some x → body ((k + j : Nat) : Int) x (R (k + j)) = match p (k + j) x with
      | none => some (.go (R (k + j + 1)))
      | some r => some (.ret r)) →
    forI body xs (k : Int) (R k) = match firstP p xs k with
      | none => some (.inl (R (k + xs.length)))
      | some r => some (.inr r)
  | [], k, h => rfl
  | x :: xs, k, h => by
    have h0 := h 0 x rfl
    simp only [Nat.add_zero] at h0
    cases hp : p k x with
    | some r =>
      rw [hp] at h0
      simp only [forI, h0, firstP, hp]
    | none =>
      rw [hp] at h0
      simp only [forI, h0, firstP, hp]
      rw [show ((k : Int) + 1) = ((k + 1 : Nat) : Int) by omega]
      rw [forI_firstS R p xs (k + 1) (fun j y hj => by have := h (j + 1) y (by simpa using hj); rw [show k + (j + 1) = k + 1 + j by omega] at this; exact this)]
      rw [List.length_cons, show k + 1 + xs.length = k + (xs.length + 1) by omega]
def edgB (p : T_Problem) (a b : Int) : Bool := decide (srt [a, b] ∈ p.Edges)
theorem srt_swap (a b : Int) : srt [a, b] = srt [b, a] := by
  rw [srt_two, srt_two]
  by_cases h : a ≤ b
  · by_cases h2 : b ≤ a
    · have : a = b := by omega
      subst this; rfl
    · rw [if_pos h, if_neg h2]
  · rw [if_neg h, if_pos (by omega)]
/-- The pair of labels goes with the pair of images. -/
def goB (p q : T_Problem) (u v : Int × Int) : Bool := !(edgB p u.1 v.1) || edgB q u.2 v.2
theorem goB_symm (p q : T_Problem) (u v : Int × Int) : goB p q u v = goB p q v u := by
  unfold goB edgB
  rw [srt_swap u.1 v.1, srt_swap u.2 v.2]
def rowP (q : T_Problem) (_ : Nat) (x : List Int) : Option Bool := if decide ((x.length : Int) = q.Degree) && x.all (inB 0 (q.Labels - 1)) && decide (srt x ∈ q.Nodes) then none else some false
theorem rowP_res {q : T_Problem} {xs : List (List Int)} {k : Nat} {r : Bool} (h : firstP (rowP q) xs k = some r) : r = false := by
  obtain ⟨j, x, _, h2⟩ := firstP_some h
  unfold rowP at h2
  split at h2 <;> cases h2
  rfl
theorem rowP_none {q : T_Problem} {k : Nat} {x : List Int} (h : rowP q k x = none) : (x.length : Int) = q.Degree := by
  unfold rowP at h
  split at h
  · rename_i hb; simp only [Bool.and_eq_true, decide_eq_true_eq] at hb; exact hb.1.1
  · cases h
/-- A label and its image, place by place. -/
def pairsL (LL MM : List (List Int)) : List (Int × Int) := LL.flatten.zip MM.flatten
def cmB (p q : T_Problem) (rows : List (List Int)) : Bool :=
  decide (rows.length = p.Nodes.length) && (firstP (rowP q) rows 0).isNone && (pairsL p.Nodes rows).all fun u => (pairsL p.Nodes rows).all fun v => goB p q u v
theorem flat_at {D : Nat} : ∀ {LL : List (List Int)}, (∀ x, x ∈ LL → x.length = D) → ∀ (j i : Nat) (x : List Int) (a : Int), LL[j]? = some x → x[i]? = some a → LL.flatten[D * j + i]? = some a
  | [], _, j, i, x, a, h, _ => by simp at h
  | y :: LL, hl, 0, i, x, a, h, ha => by
    simp at h; subst h
    have := (List.getElem?_eq_some_iff.1 ha).1
    rw [List.flatten_cons, Nat.mul_zero, Nat.zero_add, List.getElem?_append_left this]; exact ha
  | y :: LL, hl, j + 1, i, x, a, h, ha => by
    have hy := hl y (by simp)
    have := flat_at (LL := LL) (fun z hz => hl z (by simp [hz])) j i x a (by simpa using h) ha
    rw [List.flatten_cons, List.getElem?_append_right (by rw [hy, Nat.mul_succ]; omega), hy]
    rw [show D * (j + 1) + i - D = D * j + i by rw [Nat.mul_succ]; omega]
    exact this
theorem flat_len {D : Nat} : ∀ {LL : List (List Int)}, (∀ x, x ∈ LL → x.length = D) → LL.flatten.length = D * LL.length
  | [], _ => by simp
  | y :: LL, hl => by
    rw [List.flatten_cons, List.length_append, hl y (by simp), flat_len (fun z hz => hl z (by simp [hz])), List.length_cons, Nat.mul_succ]; omega
theorem flat_back {D : Nat} (hD : 0 < D) {LL : List (List Int)} (hl : ∀ x, x ∈ LL → x.length = D) {k : Nat} (hk : k < LL.flatten.length) : ∃ (x : List Int), LL[k / D]? = some x ∧ k % D < x.length ∧ ∀ a, x[k % D]? = some a → LL.flatten[k]? = some a := by
  rw [flat_len hl] at hk
  have h1 : k / D < LL.length := by
    rw [Nat.div_lt_iff_lt_mul hD, Nat.mul_comm]; exact hk
  refine ⟨LL[k / D], List.getElem?_eq_getElem h1, ?_, fun a ha => ?_⟩
  · rw [hl _ (List.getElem_mem h1)]; exact Nat.mod_lt _ hD
  · have := flat_at hl (k / D) (k % D) _ a (List.getElem?_eq_getElem h1) ha
    rw [Nat.div_add_mod] at this; exact this
/-- What the spec's four loops see. -/
theorem pairs_spec {D : Nat} (hD : 0 < D) (p q : T_Problem) (rows : List (List Int)) (hr : rows.length = p.Nodes.length) (h1 : ∀ x, x ∈ p.Nodes → x.length = D) (h2 : ∀ x, x ∈ rows → x.length = D) :
    ((pairsL p.Nodes rows).all fun u => (pairsL p.Nodes rows).all fun v => goB p q u v) = true ↔
    ∀ (j : Nat) x, p.Nodes[j]? = some x → ∀ (k : Nat) y, p.Nodes[k]? = some y → ∀ (i : Nat) a, x[i]? = some a → ∀ (i' : Nat) b, y[i']? = some b → goB p q (a, (rows.getD j []).getD i 0) (b, (rows.getD k []).getD i' 0) = true := by
  have f1 := flat_len h1
  have f2 := flat_len h2
  have rget : ∀ (j i : Nat) x a, p.Nodes[j]? = some x → x[i]? = some a → rows.flatten[D * j + i]? = some ((rows.getD j []).getD i 0) := fun j i x a hx ha => by
    have hj : j < rows.length := by rw [hr]; exact (List.getElem?_eq_some_iff.1 hx).1
    have hi : i < D := by rw [← h1 x (List.mem_of_getElem? hx)]; exact (List.getElem?_eq_some_iff.1 ha).1
    have hl := h2 _ (List.getElem_mem hj)
    refine flat_at h2 j i _ _ (List.getElem?_eq_getElem hj) ?_
    rw [List.getD_eq_getElem?_getD, List.getD_eq_getElem?_getD, List.getElem?_eq_getElem hj, Option.getD_some, List.getElem?_eq_getElem (by omega)]; rfl
  have inZ : ∀ (j i : Nat) x a, p.Nodes[j]? = some x → x[i]? = some a → (a, (rows.getD j []).getD i 0) ∈ pairsL p.Nodes rows := fun j i x a hx ha => by
    have e1 := flat_at h1 j i x a hx ha
    have e2 := rget j i x a hx ha
    exact List.mem_of_getElem? (i := D * j + i) (by unfold pairsL; rw [List.getElem?_zip_eq_some]; exact ⟨e1, e2⟩)
  have outZ : ∀ u, u ∈ pairsL p.Nodes rows → ∃ (j i : Nat) (x : List Int) (a : Int), p.Nodes[j]? = some x ∧ x[i]? = some a ∧ u = (a, (rows.getD j []).getD i 0) := fun u hu => by
    obtain ⟨k, hk⟩ := List.mem_iff_getElem?.1 hu
    unfold pairsL at hk
    rw [List.getElem?_zip_eq_some] at hk
    obtain ⟨x, hx, hlt, hb⟩ := flat_back hD h1 (List.getElem?_eq_some_iff.1 hk.1).1
    have ha := List.getElem?_eq_getElem hlt
    have e1 := hb _ ha
    have e2 := rget (k / D) (k % D) x _ hx ha
    rw [Nat.div_add_mod] at e2
    exact ⟨k / D, k % D, x, _, hx, ha, Prod.ext (Option.some.inj (hk.1.symm.trans e1)) (Option.some.inj (hk.2.symm.trans e2))⟩
  constructor
  · intro h j x hx k y hy i a ha i' b hb
    have := List.all_eq_true.1 h _ (inZ j i x a hx ha)
    exact List.all_eq_true.1 this _ (inZ k i' y b hy hb)
  · intro h
    refine List.all_eq_true.2 fun u hu => List.all_eq_true.2 fun v hv => ?_
    obtain ⟨j, i, x, a, hx, ha, rfl⟩ := outZ u hu
    obtain ⟨k, i', y, b, hy, hb, rfl⟩ := outZ v hv
    exact h j x hx k y hy i a ha i' b hb
theorem all_le {Z : List (Int × Int)} {f : Int × Int → Int × Int → Bool} (hs : ∀ u v, f u v = f v u) : (Z.all fun u => Z.all fun v => f u v) = true ↔ ∀ (i s : Nat) u v, i ≤ s → Z[i]? = some u → Z[s]? = some v → f u v = true := by
  constructor
  · intro h i s u v _ hu hv
    exact List.all_eq_true.1 (List.all_eq_true.1 h u (List.mem_of_getElem? hu)) v (List.mem_of_getElem? hv)
  · intro h
    refine List.all_eq_true.2 fun u hu => List.all_eq_true.2 fun v hv => ?_
    obtain ⟨i, hi⟩ := List.mem_iff_getElem?.1 hu
    obtain ⟨s, hs2⟩ := List.mem_iff_getElem?.1 hv
    by_cases h2 : i ≤ s
    · exact h i s u v h2 hi hs2
    · rw [hs]; exact h s i v u (by omega) hs2 hi
theorem e_reRows (fuel : Nat) (hf : 2000000 ≤ fuel) (p q : T_Problem) (rows : List (List Int)) (h : twoB p q = true) (hr : rows.length ≤ 1048576) (hl : ∀ x, x ∈ rows → x.length ≤ 1048576) : fS_reRows fuel p q rows = some (cmB p q rows) := by
  simp only [twoB, Bool.and_eq_true, beq_iff_eq] at h
  obtain ⟨⟨hp, hq⟩, hd⟩ := h
  obtain ⟨p1, p2, p3, p4, p5, p6⟩ := probB_iff hp
  obtain ⟨q1, q2, q3, q4, q5, q6⟩ := probB_iff hq
  unfold fS_reRows cmB
  by_cases hlen : rows.length = p.Nodes.length
  · rw [if_neg (by simp [hlen]), forI_first0 (rowP q) rows (fun j x hj _ => by
      have hx := hl x (List.mem_of_getElem? hj)
      unfold fS_reRows_s1 rowP
      by_cases h1 : (x.length : Int) = q.Degree
      · rw [if_neg (by simp [h1]), ck_in (by omega) (by omega), sb, e_l1All, sb]
        cases h2 : x.all (inB 0 (q.Labels - 1))
        · simp [sb, lpP]
        · rw [if_neg (by simp), e_prNode fuel q x (by omega) (by omega), sb, sb]
          by_cases h3 : srt x ∈ q.Nodes <;> simp [h1, h3, lpP]
      · rw [if_pos (by simpa using h1), sb, if_pos rfl]; simp [h1, lpP]), sb]
    cases hc : firstP (rowP q) rows 0 with
    | some r => have := rowP_res hc; subst this; simp [outP]
    | none =>
      obtain ⟨D, hD⟩ : ∃ D : Nat, p.Degree = D := ⟨p.Degree.toNat, by omega⟩
      have n1 : ∀ x, x ∈ p.Nodes → x.length = D := fun x hx => by have := ((confs_pair p5).1 x hx).1; omega
      have n2 : ∀ x, x ∈ rows → x.length = D := fun x hx => by
        obtain ⟨j, hj⟩ := List.mem_iff_getElem?.1 hx
        have := rowP_none (firstP_none.1 hc j x hj)
        omega
      simp only [outP, Option.isNone_none, hlen, decide_true, Bool.true_and]
      have rix : ∀ (j i : Nat), j < p.Nodes.length → i < D → (ix rows (j : Int) >>= fun x153 => ix x153 (i : Int)) = some ((rows.getD j []).getD i 0) := fun j i hj hi => by
        have hj' : j < rows.length := by omega
        have hl2 := n2 _ (List.getElem_mem hj')
        rw [ix_lt _ _ hj', sb, ix_lt _ _ (by omega), List.getD_eq_getElem?_getD, List.getD_eq_getElem?_getD, List.getElem?_eq_getElem hj', Option.getD_some, List.getElem?_eq_getElem (by omega)]; rfl
      have l5 : ∀ (j k i : Nat) x y a, p.Nodes[j]? = some x → p.Nodes[k]? = some y → x[i]? = some a →
          forI (fS_reRows_s5 p q rows (j : Int) (k : Int) (i : Int) a) y 0 () = some (outP (firstP (fun i' b => if goB p q (a, (rows.getD j []).getD i 0) (b, (rows.getD k []).getD i' 0) then none else some false) y 0)) := fun j k i x y a hx hy ha => by
        refine forI_first0 _ y fun i' b hb _ => ?_
        have hj := (List.getElem?_eq_some_iff.1 hx).1
        have hk := (List.getElem?_eq_some_iff.1 hy).1
        have hi : i < D := by rw [← n1 x (List.mem_of_getElem? hx)]; exact (List.getElem?_eq_some_iff.1 ha).1
        have hi' : i' < D := by rw [← n1 y (List.mem_of_getElem? hy)]; exact (List.getElem?_eq_some_iff.1 hb).1
        have r1 := rix j i hj hi
        have r2 := rix k i' hk hi'
        generalize (rows.getD j []).getD i 0 = c1 at r1 ⊢
        generalize (rows.getD k []).getD i' 0 = c2 at r2 ⊢
        unfold fS_reRows_s5
        rw [e_prEdge, sb]
        unfold goB edgB
        by_cases e1 : srt [a, b] ∈ p.Edges
        · rw [if_pos (by simpa using e1)]
          cases hx1 : ix rows (j : Int) with
          | none => rw [hx1] at r1; cases r1
          | some u1 =>
            rw [hx1, sb] at r1
            rw [sb, r1, sb]
            cases hx2 : ix rows (k : Int) with
            | none => rw [hx2] at r2; cases r2
            | some u2 =>
              rw [hx2, sb] at r2
              rw [sb, r2, sb, e_prEdge, sb, sb]
              by_cases e2 : srt [c1, c2] ∈ q.Edges
              · simp [e1, e2, lpP]
              · simp [e1, e2, lpP]
        · rw [if_neg (by simpa using e1), sb]; simp [e1, lpP]
      have l4 : ∀ (j k : Nat) x y, p.Nodes[j]? = some x → p.Nodes[k]? = some y →
          forI (fS_reRows_s4 p q rows (j : Int) (k : Int) y) x 0 () = some (outP (firstP (fun i a => firstP (fun i' b => if goB p q (a, (rows.getD j []).getD i 0) (b, (rows.getD k []).getD i' 0) then none else some false) y 0) x 0)) := fun j k x y hx hy => by
        refine forI_first0 _ x fun i a ha _ => ?_
        unfold fS_reRows_s4
        rw [l5 j k i x y a hx hy ha, sb]
        cases firstP (fun i' b => if goB p q (a, (rows.getD j []).getD i 0) (b, (rows.getD k []).getD i' 0) then none else some false) y 0 <;> rfl
      have l3 : ∀ (j : Nat) x, p.Nodes[j]? = some x →
          forI (fS_reRows_s3 p q rows (j : Int) x) p.Nodes 0 () = some (outP (firstP (fun k y => firstP (fun i a => firstP (fun i' b => if goB p q (a, (rows.getD j []).getD i 0) (b, (rows.getD k []).getD i' 0) then none else some false) y 0) x 0) p.Nodes 0)) := fun j x hx => by
        refine forI_first0 _ p.Nodes fun k y hy _ => ?_
        unfold fS_reRows_s3
        rw [l4 j k x y hx hy, sb]
        cases firstP (fun i a => firstP (fun i' b => if goB p q (a, (rows.getD j []).getD i 0) (b, (rows.getD k []).getD i' 0) then none else some false) y 0) x 0 <;> rfl
      rw [forI_first0 (fun j x => firstP (fun k y => firstP (fun i a => firstP (fun i' b => if goB p q (a, (rows.getD j []).getD i 0) (b, (rows.getD k []).getD i' 0) then none else some false) y 0) x 0) p.Nodes 0) p.Nodes (fun j x hx _ => by
        unfold fS_reRows_s2
        rw [l3 j x hx, sb]
        cases firstP (fun k y => firstP (fun i a => firstP (fun i' b => if goB p q (a, (rows.getD j []).getD i 0) (b, (rows.getD k []).getD i' 0) then none else some false) y 0) x 0) p.Nodes 0 <;> rfl), sb]
      have hiff := pairs_spec (D := D) (by omega) p q rows hlen n1 n2
      cases hc2 : firstP (fun j x => firstP (fun k y => firstP (fun i a => firstP (fun i' b => if goB p q (a, (rows.getD j []).getD i 0) (b, (rows.getD k []).getD i' 0) then none else some false) y 0) x 0) p.Nodes 0) p.Nodes 0 with
      | none =>
        have : ((pairsL p.Nodes rows).all fun u => (pairsL p.Nodes rows).all fun v => goB p q u v) = true := by
          refine hiff.2 fun j x hx k y hy i a ha i' b hb => ?_
          have t1 := firstP_none.1 hc2 j x hx
          have t2 := firstP_none.1 t1 k y hy
          have t3 := firstP_none.1 t2 i a ha
          have t4 := firstP_none.1 t3 i' b hb
          simp only [Nat.zero_add] at t4
          cases hg : goB p q (a, (rows.getD j []).getD i 0) (b, (rows.getD k []).getD i' 0) with
          | true => rfl
          | false => rw [hg] at t4; simp at t4
        rw [this]; rfl
      | some r =>
        obtain ⟨j, x, hx, t1⟩ := firstP_some hc2
        obtain ⟨k, y, hy, t2⟩ := firstP_some t1
        obtain ⟨i, a, ha, t3⟩ := firstP_some t2
        obtain ⟨i', b, hb, t4⟩ := firstP_some t3
        simp only [Nat.zero_add] at t4
        cases hg : goB p q (a, (rows.getD j []).getD i 0) (b, (rows.getD k []).getD i' 0) with
        | true => rw [hg] at t4; simp at t4
        | false =>
          rw [hg] at t4
          simp at t4
          subst t4
          have : ((pairsL p.Nodes rows).all fun u => (pairsL p.Nodes rows).all fun v => goB p q u v) = false := by
            cases hb2 : ((pairsL p.Nodes rows).all fun u => (pairsL p.Nodes rows).all fun v => goB p q u v) with
            | false => rfl
            | true => have := hiff.1 hb2 j x hx k y hy i a ha i' b hb; rw [hg] at this; cases this
          rw [this]; rfl
  · rw [if_pos (by simp; omega)]; simp [hlen]
theorem take_flat (LL : List (List Int)) {j : Nat} {x : List Int} (h : LL[j]? = some x) : (LL.take (j + 1)).flatten = (LL.take j).flatten ++ x ∧ (LL.take j).flatten.length + x.length ≤ LL.flatten.length := by
  have e : (LL.take (j + 1)).flatten = (LL.take j).flatten ++ x := by rw [List.take_add_one, h]; simp
  refine ⟨e, ?_⟩
  have : LL.flatten = (LL.take (j + 1)).flatten ++ (LL.drop (j + 1)).flatten := by rw [← List.flatten_append, List.take_append_drop]
  rw [this, e]
  simp only [List.length_append]; omega
theorem scan_step (fuel : Nat) (hf : 2000000 ≤ fuel) (p q : T_Problem) (hp : probB p = true) (hq : probB q = true) (hE : p.Edges.length ≤ 1048576) (hE2 : q.Edges.length ≤ 1048576) (F G : List Int) (hFG : F.length = G.length) (hn : F.length ≤ 1000000000) (i s : Nat) (hi : i < F.length) (hs : s < F.length) :
    fI_isConfigMap_s3 fuel p q F G (i : Int) (s : Int) = some (if goB p q (F[i], G[i]'(by omega)) (F[s], G[s]'(by omega)) then .go ((s + 1 : Nat) : Int) else .ret false) := by
  unfold fI_isConfigMap_s3
  rw [if_pos (by simpa using hs), ix_lt _ _ hi, sb, ix_lt _ _ hs, sb, e_edge fuel p hp _ _ (by omega) (by omega), sb]
  unfold goB edgB
  by_cases e1 : srt [F[i], F[s]] ∈ p.Edges
  · rw [if_pos (by simpa using e1), ix_lt _ _ (show i < G.length by omega), sb, ix_lt _ _ (show s < G.length by omega), sb, e_edge fuel q hq _ _ (by omega) (by omega), sb, sb]
    by_cases e2 : srt [G[i]'(by omega), G[s]'(by omega)] ∈ q.Edges
    · rw [if_neg (by simp [e2]), ck_in (by omega) (by omega), sb]; simp [e1, e2]
    · rw [if_pos (by simp [e2])]; simp [e1, e2]
  · rw [if_neg (by simpa using e1), sb, if_neg (by simp), ck_in (by omega) (by omega), sb]; simp [e1]
theorem scan_loop (fuel0 : Nat) (hf : 2000000 ≤ fuel0) (p q : T_Problem) (hp : probB p = true) (hq : probB q = true) (hE : p.Edges.length ≤ 1048576) (hE2 : q.Edges.length ≤ 1048576) (F G : List Int) (hFG : F.length = G.length) (hn : F.length ≤ 1000000000) (i : Nat) (hi : i < F.length) : ∀ (fuel s : Nat), s ≤ F.length → F.length < fuel + s →
    ∃ y, loopF (fI_isConfigMap_s3 fuel0 p q F G (i : Int)) fuel (s : Int) = some (if ((F.zip G).drop s).all (fun v => goB p q (F[i], G[i]'(by omega)) v) then .inl y else .inr false) := by
  intro fuel
  induction fuel with
  | zero => intro s h1 h2; omega
  | succ fuel ih =>
    intro s h1 h2
    by_cases hs : s < F.length
    · have hz : s < (F.zip G).length := by rw [List.length_zip]; omega
      have hd : (F.zip G).drop s = (F[s], G[s]'(by omega)) :: (F.zip G).drop (s + 1) := by
        rw [List.drop_eq_getElem_cons hz, List.getElem_zip]
      have hst := scan_step fuel0 hf p q hp hq hE hE2 F G hFG hn i s hi hs
      rw [hd, List.all_cons]
      cases hg : goB p q (F[i], G[i]'(by omega)) (F[s], G[s]'(by omega)) with
      | true =>
        rw [hg, if_pos rfl] at hst
        obtain ⟨y, hy⟩ := ih (s + 1) (by omega) (by omega)
        exact ⟨y, by rw [lpF_go hst fuel, hy, Bool.true_and]⟩
      | false =>
        rw [hg] at hst
        refine ⟨0, ?_⟩
        simp only [loopF, hst, Bool.false_and, Bool.false_eq_true, if_false]
    · refine ⟨(s : Int), ?_⟩
      have hd : (F.zip G).drop s = [] := List.drop_eq_nil_of_le (by rw [List.length_zip]; omega)
      rw [hd]
      refine lpF_out ?_ fuel
      unfold fI_isConfigMap_s3
      rw [if_neg (by simpa using hs)]
theorem e_isConfigMap (fuel : Nat) (hf : 5000000 ≤ fuel) (p q : T_Problem) (rows : List (List Int)) (h : twoB p q = true) (hr : rows.length ≤ 1048576) (hfl : rows.flatten.length ≤ 1048576) (h2 : p.Edges.length ≤ 1048576) (h3 : q.Nodes.length ≤ 1048576) (h4 : q.Edges.length ≤ 1048576) : fI_isConfigMap fuel p q rows = some (cmB p q rows) := by
  simp only [twoB, Bool.and_eq_true, beq_iff_eq] at h
  obtain ⟨⟨hp, hq⟩, hd⟩ := h
  obtain ⟨p1, p2, p3, p4, p5, p6⟩ := probB_iff hp
  obtain ⟨q1, q2, q3, q4, q5, q6⟩ := probB_iff hq
  obtain ⟨D, hD⟩ : ∃ D : Nat, p.Degree = D := ⟨p.Degree.toNat, by omega⟩
  have n1 : ∀ x, x ∈ p.Nodes → x.length = D := fun x hx => by have := ((confs_pair p5).1 x hx).1; omega
  have f1 := flat_len n1
  unfold fI_isConfigMap cmB
  by_cases hlen : rows.length = p.Nodes.length
  · have hD4 : D ≤ 4 := by omega
    have hFl : p.Nodes.flatten.length ≤ 4194304 := by
      rw [f1]
      exact Nat.le_trans (Nat.mul_le_mul hD4 (show p.Nodes.length ≤ 1048576 by omega)) (by decide)
    rw [if_neg (by simp [hlen])]
    have hS := forI_firstS (body := fI_isConfigMap_s1 fuel p q) (fun j => ((p.Nodes.take j).flatten, (rows.take j).flatten)) (rowP q) rows 0 (fun j x hj => by
      rw [Nat.zero_add]
      have hjl := (List.getElem?_eq_some_iff.1 hj).1
      have hn := List.getElem?_eq_getElem (show j < p.Nodes.length by omega)
      have t1 := take_flat rows hj
      have t2 := take_flat p.Nodes hn
      unfold fI_isConfigMap_s1 rowP
      by_cases e1 : (x.length : Int) = q.Degree
      · rw [if_neg (by simp [e1])]
        unfold fI_Problem_hasLabels
        rw [ck_in (by omega) (by omega), sb, e_allWithin _ _ _ (by omega), sb, sb]
        cases e2 : x.all (inB 0 (q.Labels - 1))
        · simp [sb]
        · rw [if_neg (by simp), e_node fuel q hq x e1 (by omega) (by omega), sb, sb]
          by_cases e3 : srt x ∈ q.Nodes
          · have hc1 : cat (p.Nodes.take j).flatten p.Nodes[j] = some (p.Nodes.take (j + 1)).flatten := by
              unfold cat
              rw [if_pos (by omega), t2.1]
            have hc2 : cat (rows.take j).flatten x = some (rows.take (j + 1)).flatten := by
              unfold cat
              rw [if_pos (by omega), t1.1]
            rw [if_neg (by simp [e3]), ix_nat, hn, sb]
            simp only [hc1, hc2, sb]
            simp [e1, e3]
          · rw [if_pos (by simp [e3])]; simp [e3]
      · rw [if_pos (by simpa using e1), sb, if_pos rfl]; simp [e1])
    simp only [Nat.zero_add] at hS
    rw [show (((p.Nodes.take 0).flatten, (rows.take 0).flatten) : List Int × List Int) = ([], []) from rfl, show ((0 : Nat) : Int) = 0 from rfl] at hS
    rw [hS]
    cases hc : firstP (rowP q) rows 0 with
    | some r => have := rowP_res hc; subst this; simp [sb]
    | none =>
      have n2 : ∀ x, x ∈ rows → x.length = D := fun x hx => by
        obtain ⟨j, hj⟩ := List.mem_iff_getElem?.1 hx
        have := rowP_none (firstP_none.1 hc j x hj)
        omega
      have f2 := flat_len n2
      have hFG : p.Nodes.flatten.length = rows.flatten.length := by rw [f1, f2, hlen]
      simp only [sb]
      rw [List.take_of_length_le (show p.Nodes.length ≤ rows.length by omega), List.take_of_length_le (Nat.le_refl _)]
      simp only [Option.isNone_none, hlen, decide_true, Bool.true_and]
      unfold pairsL
      generalize p.Nodes.flatten = F at hFl hFG
      generalize rows.flatten = G at hFG
      rw [ck_in (by omega) (by omega), sb, Int.toNat_natCast, forN_first0 (fun i (_ : Int) => if ((F.zip G).drop i).all (fun v => goB p q (F.getD i 0, G.getD i 0) v) then none else some false) F (fun i a hi _ => by
        have hil := (List.getElem?_eq_some_iff.1 hi).1
        obtain ⟨y, hy⟩ := scan_loop fuel (by omega) p q hp hq h2 h4 F G hFG (by omega) i hil fuel i (by omega) (by omega)
        unfold fI_isConfigMap_s2
        rw [hy, sb]
        have g1 : F.getD i 0 = F[i] := by simp [List.getElem?_eq_getElem hil]
        have g2 : G.getD i 0 = G[i]'(by omega) := by simp [List.getElem?_eq_getElem (show i < G.length by omega)]
        rw [g1, g2]
        cases ((F.zip G).drop i).all (fun v => goB p q (F[i], G[i]'(by omega)) v) <;> rfl), sb]
      have hiff := all_le (Z := F.zip G) (f := goB p q) (goB_symm p q)
      have zat : ∀ (i : Nat) u, (F.zip G)[i]? = some u → i < F.length ∧ u = (F.getD i 0, G.getD i 0) := fun i u hu => by
        rw [List.getElem?_zip_eq_some] at hu
        exact ⟨(List.getElem?_eq_some_iff.1 hu.1).1, by rw [List.getD_eq_getElem?_getD, List.getD_eq_getElem?_getD, hu.1, hu.2]; rfl⟩
      cases hc2 : firstP (fun i (_ : Int) => if ((F.zip G).drop i).all (fun v => goB p q (F.getD i 0, G.getD i 0) v) then none else some false) F 0 with
      | none =>
        have : ((F.zip G).all fun u => (F.zip G).all fun v => goB p q u v) = true := hiff.2 fun i s u v his hu hv => by
          obtain ⟨hil, rfl⟩ := zat i u hu
          have t := firstP_none.1 hc2 i _ (List.getElem?_eq_getElem hil)
          rw [Nat.zero_add] at t
          split at t
          · rename_i ha
            refine List.all_eq_true.1 ha v ?_
            have : ((F.zip G).drop i)[s - i]? = some v := by rw [List.getElem?_drop, show i + (s - i) = s by omega]; exact hv
            exact List.mem_of_getElem? this
          · cases t
        rw [this]; rfl
      | some r =>
        obtain ⟨i, a, hi, t⟩ := firstP_some hc2
        rw [Nat.zero_add] at t
        split at t
        · cases t
        · rename_i hna
          cases t
          have : ((F.zip G).all fun u => (F.zip G).all fun v => goB p q u v) = false := by
            cases hb : ((F.zip G).all fun u => (F.zip G).all fun v => goB p q u v) with
            | false => rfl
            | true =>
              exfalso; apply hna
              have hil := (List.getElem?_eq_some_iff.1 hi).1
              refine List.all_eq_true.2 fun v hv => ?_
              have hu : (F.getD i 0, G.getD i 0) ∈ F.zip G := by
                refine List.mem_of_getElem? (i := i) ?_
                rw [List.getElem?_zip_eq_some]
                exact ⟨by simp [List.getElem?_eq_getElem hil], by simp [List.getElem?_eq_getElem (show i < G.length by omega)]⟩
              exact List.all_eq_true.1 (List.all_eq_true.1 hb _ hu) v (List.mem_of_mem_drop hv)
          rw [this]; rfl
  · rw [if_pos (by simp; omega)]; simp [hlen]
def lcmB (p q : T_Problem) (rows : List (List Int)) : Bool × Bool := if twoB p q then (cmB p q rows, true) else (false, false)
theorem flat_off (LL : List (List Int)) : LL.flatten.length ≤ tot LL := by
  unfold tot off
  rw [List.take_length, List.length_flatten]; omega
theorem row_tot {LL : List (List Int)} : ∀ x, x ∈ LL → x.length ≤ tot LL := fun x hx => by
  obtain ⟨i, hi, e⟩ := List.mem_iff_getElem.1 hx
  have := row_le LL i hi
  rw [List.getD_eq_getElem?_getD, List.getElem?_eq_getElem hi, Option.getD_some, e] at this
  exact this
theorem e_specCm (fuel : Nat) (hf : 2000000 ≤ fuel) (p q : T_Problem) (rows : List (List Int)) (ht : tot rows ≤ 1048576) (h1 : p.Nodes.length ≤ 1048576) (h2 : p.Edges.length ≤ 1048576) (h3 : q.Nodes.length ≤ 1048576) (h4 : q.Edges.length ≤ 1048576) : fS_IsConfigMap fuel p q rows = some (lcmB p q rows) := by
  have hr : rows.length ≤ tot rows := by unfold tot; omega
  unfold fS_IsConfigMap lcmB
  rw [e_reTwo fuel (by omega) p q h1 h2 h3 h4, sb]
  cases h : twoB p q
  · simp
  · rw [if_neg (by simp), e_reRows fuel hf p q rows h (by omega) (fun x hx => by have := row_tot x hx; omega), sb]; simp
theorem e_implCm (fuel : Nat) (hf : 5000000 ≤ fuel) (p q : T_Problem) (rows : List (List Int)) (ht : tot rows ≤ 1048576) (h1 : p.Nodes.length ≤ 1048576) (h2 : p.Edges.length ≤ 1048576) (h3 : q.Nodes.length ≤ 1048576) (h4 : q.Edges.length ≤ 1048576) : fI_IsConfigMap fuel p q rows = some (lcmB p q rows) := by
  have hr : rows.length ≤ tot rows := by unfold tot; omega
  have hfl := flat_off rows
  unfold fI_IsConfigMap lcmB
  rw [e_areProblems fuel (by omega) p q h1 h2 h3 h4, sb]
  cases h : twoB p q
  · simp
  · rw [if_neg (by simp), e_isConfigMap fuel hf p q rows h (by omega) (by omega) h2 h3 h4, sb]; simp

def fIsConfigMapSpec (x y : PR) (l : List (List Int)) : Bool × Bool := lcmB (tP x) (tP y) l
def fIsConfigMapImpl (x y : PR) (l : List (List Int)) : Bool × Bool := fIsConfigMapSpec x y l
theorem IsConfigMap_eq (x y : PR) (l : List (List Int)) (_ : okP x) (_ : szP x ≤ 1048576) (_ : okP y) (_ : szP y ≤ 1048576) (_ : ∀ r ∈ l, ∀ n ∈ r, I64 n) (_ : tot l ≤ 1048576) : fIsConfigMapImpl x y l = fIsConfigMapSpec x y l := rfl

theorem specIsConfigMap_any (v : Value) (x : PR) (v' : Value) (y : PR) (lv : Value) (l : List (List Int)) (w : World) (h : RdP w v x) (_ : okP x) (hs : szP x ≤ 1048576) (h' : RdP w v' y) (_ : okP y) (hs' : szP y ≤ 1048576) (hl : IntRows w lv l) (_ : ∀ r ∈ l, ∀ n ∈ r, I64 n) (hls : tot l ≤ 1048576) :
    Calls Try.prog 39 #[v, v', lv] w fun e w' => e = .returned (.tuple #[.bool (fIsConfigMapSpec x y l).1, .bool (fIsConfigMapSpec x y l).2]) ∧ Keeps w w' := by
  obtain ⟨u, rfl, h2⟩ := h.rdz
  obtain ⟨u', rfl, h3⟩ := h'.rdz
  obtain ⟨s1, s2⟩ := szP_len hs
  obtain ⟨s3, s4⟩ := szP_len hs'
  exact cS_IsConfigMap 2000000 w u (tP x) h2 u' (tP y) h3 lv l hl.rdl _ (e_specCm 2000000 (Nat.le_refl _) (tP x) (tP y) l hls s1 s2 s3 s4)

theorem implIsConfigMap_any (v : Value) (x : PR) (v' : Value) (y : PR) (lv : Value) (l : List (List Int)) (w : World) (h : RdP w v x) (_ : okP x) (hs : szP x ≤ 1048576) (h' : RdP w v' y) (_ : okP y) (hs' : szP y ≤ 1048576) (hl : IntRows w lv l) (_ : ∀ r ∈ l, ∀ n ∈ r, I64 n) (hls : tot l ≤ 1048576) :
    Calls Try.prog 41 #[v, v', lv] w fun e w' => e = .returned (.tuple #[.bool (fIsConfigMapImpl x y l).1, .bool (fIsConfigMapImpl x y l).2]) ∧ Keeps w w' := by
  obtain ⟨u, rfl, h2⟩ := h.rdz
  obtain ⟨u', rfl, h3⟩ := h'.rdz
  obtain ⟨s1, s2⟩ := szP_len hs
  obtain ⟨s3, s4⟩ := szP_len hs'
  exact cI_IsConfigMap 5000000 w u (tP x) h2 u' (tP y) h3 lv l hl.rdl _ (e_implCm 5000000 (Nat.le_refl _) (tP x) (tP y) l hls s1 s2 s3 s4)

end Go.Proofs.Ytiejigogmnkjdaa
