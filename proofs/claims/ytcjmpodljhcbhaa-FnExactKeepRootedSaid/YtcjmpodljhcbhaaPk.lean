/- KeepRooted: what the two sides compute. -/
import Derived.Test.YtcjmpodljhcbhaaPe
import Derived.Test.YtcjmpodljhcbhaaGK
namespace Go.Proofs.Ytcjmpodljhcbhaa
set_option linter.unusedSimpArgs false
set_option linter.unusedVariables false

theorem forI_invk {α σ ρ : Type} {body : Int → α → σ → Option (Lp σ σ ρ)} (R : Nat → σ) : ∀ (xs : List α) (k : Nat), (∀ (j : Nat) x, xs[j]? = some x → body ((k + j : Nat) : Int) x (R (k + j)) = some (.go (R (k + j + 1)))) →
    forI body xs (k : Int) (R k) = some (.inl (R (k + xs.length)))
  | [], k, h => rfl
  | x :: xs, k, h => by
    have h0 := h 0 x rfl
    simp only [Nat.add_zero] at h0
    simp only [forI, h0]
    rw [show ((k : Int) + 1) = ((k + 1 : Nat) : Int) by omega]
    rw [forI_invk R xs (k + 1) (fun j y hj => by have := h (j + 1) y (by simpa using hj); rw [show k + (j + 1) = k + 1 + j by omega] at this; exact this)]
    rw [List.length_cons, show k + 1 + xs.length = k + (xs.length + 1) by omega]
theorem forI_invk0 {α σ ρ : Type} {body : Int → α → σ → Option (Lp σ σ ρ)} (R : Nat → σ) (xs : List α) (h : ∀ (j : Nat) x, xs[j]? = some x → body (j : Int) x (R j) = some (.go (R (j + 1)))) :
    forI body xs 0 (R 0) = some (.inl (R xs.length)) := by
  have := forI_invk R xs 0 (fun j x hj => by rw [Nat.zero_add]; exact h j x hj)
  rw [Nat.zero_add] at this; exact this
/-! ### Rising lists -/
def risP (xs : List Int) (lo hi : Int) (k : Nat) (x : Int) : Option Bool := if inB lo hi x && (decide (k = 0) || decide (xs.getD (k - 1) 0 < x)) then none else some false
def risB (xs : List Int) (lo hi : Int) : Bool := (firstP (risP xs lo hi) xs 0).isNone
theorem risP_res {xs ys : List Int} {lo hi : Int} {r : Bool} {k : Nat} (h : firstP (risP xs lo hi) ys k = some r) : r = false := by
  obtain ⟨j, x, _, h2⟩ := firstP_some h
  unfold risP at h2
  split at h2 <;> cases h2
  rfl
theorem ris_step (xs : List Int) (lo hi : Int) (j : Nat) (x : Int) (hj : xs[j]? = some x) (hl : xs.length ≤ 1000000000) :
    ((if !(decide (lo ≤ x) && decide (x ≤ hi)) then some true else if decide ((j : Int) > 0) then (ck ((j : Int) - 1) >>= fun x30 => ix xs x30 >>= fun x31 => some (decide (x31 ≥ x))) else some false) >>= fun q25 =>
      if q25 then some (Lp.ret (σ := Unit) (τ := Unit) false) else some (.go ())) = some (lpP (risP xs lo hi j x)) := by
  have hjl := (List.getElem?_eq_some_iff.1 hj).1
  rw [show (decide (lo ≤ x) && decide (x ≤ hi)) = inB lo hi x from rfl]
  unfold risP
  cases h : inB lo hi x
  · simp [sb, lpP]
  · cases j with
    | zero => simp [sb, lpP]
    | succ j =>
      rw [if_neg (by simp), if_pos (by simp), ck_in (by omega) (by omega), sb, show (((j + 1 : Nat) : Int) - 1) = (j : Int) by omega, ix_lt _ _ (by omega), sb, sb]
      have hg : xs.getD (j + 1 - 1) 0 = xs[j] := by simp [List.getElem?_eq_getElem (show j < xs.length by omega)]
      rw [hg]
      by_cases h2 : xs[j] < x
      · rw [if_neg (by simp; omega)]; simp [h2, lpP]
      · rw [if_pos (by simp; omega)]; simp [h2, lpP]
theorem e_l1Rising (xs : List Int) (lo hi : Int) (hl : xs.length ≤ 1000000000) : fS_l1Rising xs lo hi = some (risB xs lo hi) := by
  unfold fS_l1Rising
  rw [forI_first0 (risP xs lo hi) xs (fun j x hj _ => by
    unfold fS_l1Rising_s1
    rw [e_l1In, sb]
    exact ris_step xs lo hi j x hj hl), sb]
  unfold risB
  cases hc : firstP (risP xs lo hi) xs 0 with
  | none => rfl
  | some r => have := risP_res hc; subst this; rfl
theorem e_increasing (xs : List Int) (lo hi : Int) (hl : xs.length ≤ 1000000000) : fI_increasing xs lo hi = some (risB xs lo hi) := by
  unfold fI_increasing
  rw [forI_first0 (risP xs lo hi) xs (fun j x hj _ => by
    unfold fI_increasing_s1
    rw [e_within, sb]
    exact ris_step xs lo hi j x hj hl), sb]
  unfold risB
  cases hc : firstP (risP xs lo hi) xs 0 with
  | none => rfl
  | some r => have := risP_res hc; subst this; rfl
theorem risB_in {xs : List Int} {lo hi : Int} (h : risB xs lo hi = true) : ∀ x, x ∈ xs → lo ≤ x ∧ x ≤ hi := by
  unfold risB at h
  rw [Option.isNone_iff_eq_none] at h
  intro x hx
  obtain ⟨j, hj⟩ := List.mem_iff_getElem?.1 hx
  have := firstP_none.1 h j x hj
  unfold risP at this
  split at this
  · rename_i hb
    rw [Bool.and_eq_true] at hb
    simpa [inB] using hb.1
  · cases this
/-! ### The lines that stay -/
def toR (n : Nat) (keep : List Int) : Nat → List Int
  | 0 => List.replicate n 0
  | j + 1 => (toR n keep j).set (keep.getD j 0).toNat (j : Int)
theorem toR_length (n : Nat) (keep : List Int) : ∀ j, (toR n keep j).length = n
  | 0 => by simp [toR]
  | j + 1 => by simp [toR, toR_length n keep j]
def imgL (t x : List Int) : List Int := x.map fun y => t.getD y.toNat 0
def keptL (keep t : List Int) (LL : List (List Int)) : List (List Int) := (LL.filter fun x => x.all fun y => decide (y ∈ keep)).map (imgL t)
theorem keptL_snoc (keep t : List Int) (LL : List (List Int)) (x : List Int) : keptL keep t (LL ++ [x]) = if x.all fun y => decide (y ∈ keep) then keptL keep t LL ++ [imgL t x] else keptL keep t LL := by
  unfold keptL
  rw [List.filter_append, List.map_append]
  cases h : x.all fun y => decide (y ∈ keep) <;> simp [List.filter, h]
theorem keptL_length (keep t : List Int) (LL : List (List Int)) : (keptL keep t LL).length ≤ LL.length := by
  unfold keptL
  rw [List.length_map]
  exact List.length_filter_le _ _
theorem take_snoc {α : Type} {xs : List α} {j : Nat} {x : α} (h : xs[j]? = some x) : xs.take (j + 1) = xs.take j ++ [x] := by
  rw [List.take_add_one, h]; rfl
theorem e_coThrough (t x : List Int) (ht : t.length ≤ 100) (h : ∀ y, y ∈ x → 0 ≤ y ∧ y < t.length) (hx : x.length ≤ 100) : fS_coThrough t x = some (imgL t x) ∧ fI_images x t = some (imgL t x) := by
  have step : ∀ (j : Nat) (y : Int), x[j]? = some y → ix t y = some (t.getD y.toNat 0) := fun j y hj => by
    have := h y (List.mem_of_getElem? hj)
    unfold ix
    rw [if_pos this.1, List.getD_eq_getElem?_getD, List.getElem?_eq_getElem (by omega)]
    rfl
  constructor
  · unfold fS_coThrough
    have := forI_invk0 (body := fS_coThrough_s1 t) (fun j => imgL t (x.take j)) x (fun j y hj => by
      unfold fS_coThrough_s1 push
      rw [step j y hj, sb, if_pos (by simp [imgL]; omega), sb, take_snoc hj]
      simp [imgL])
    rw [List.take_length] at this
    rw [show ([] : List Int) = imgL t (x.take 0) from rfl, this, sb]
  · unfold fI_images
    have := forI_invk0 (body := fI_images_s1 t) (fun j => imgL t (x.take j)) x (fun j y hj => by
      unfold fI_images_s1 push
      rw [step j y hj, sb, if_pos (by simp [imgL]; omega), sb, take_snoc hj]
      simp [imgL])
    rw [List.take_length] at this
    rw [show ([] : List Int) = imgL t (x.take 0) from rfl, this, sb]
def setB (keep : List Int) : Nat := keep.foldl (fun T x => T ||| 2 ^ x.toNat) 0
theorem setB_fold : ∀ (keep : List Int) (T b : Nat), (keep.foldl (fun T x => T ||| 2 ^ x.toNat) T).testBit b = (T.testBit b || keep.any fun x => decide (x.toNat = b))
  | [], T, b => by simp
  | x :: keep, T, b => by
    rw [List.foldl_cons, setB_fold keep, List.any_cons, Nat.testBit_or, Nat.testBit_two_pow, Bool.or_assoc]
theorem e_setOf (n : Nat) (hn : n ≤ 60) (keep : List Int) (h : ∀ y, y ∈ keep → 0 ≤ y ∧ y < n) : fI_setOf keep = some ((setB keep : Nat) : Int) ∧ setB keep < 2 ^ 60 := by
  have := forI_fold (body := fI_setOf_s1) (fun T x => T ||| 2 ^ x.toNat) (fun T : Nat => (T : Int)) (fun T => T < 2 ^ 60) keep 0 0 (by decide) fun k x T hx hT => by
    have hb := h x hx
    have hp : 2 ^ x.toNat < 2 ^ 60 := Nat.pow_lt_pow_right (by decide) (by omega)
    refine ⟨?_, Nat.or_lt_two_pow hT hp⟩
    unfold fI_setOf_s1
    have hxx : shl 1 x = some ((2 ^ x.toNat : Nat) : Int) := by
      have := shl_one (a := x.toNat) (by omega)
      rwa [Int.toNat_of_nonneg hb.1] at this
    rw [hxx, sb, bor_nat (Nat.lt_trans hT (by decide)) (Nat.lt_trans hp (by decide))]
  rw [show ((0 : Nat) : Int) = 0 from rfl] at this
  refine ⟨?_, this.2⟩
  unfold fI_setOf
  rw [this.1, sb]; rfl
theorem set_all (n : Nat) (keep x : List Int) (h : ∀ y, y ∈ keep → 0 ≤ y ∧ y < n) (hx : ∀ y, y ∈ x → 0 ≤ y ∧ y < n) : (x.all fun y => (setB keep).testBit y.toNat) = x.all fun y => decide (y ∈ keep) := by
  rw [Bool.eq_iff_iff, List.all_eq_true, List.all_eq_true]
  have key : ∀ y, y ∈ x → ((setB keep).testBit y.toNat = true ↔ y ∈ keep) := fun y hy => by
    have h1 := hx y hy
    unfold setB
    rw [setB_fold]
    simp only [Nat.zero_testBit, Bool.false_or, List.any_eq_true, decide_eq_true_eq]
    constructor
    · rintro ⟨z, hz, e⟩
      have h2 := h z hz
      rwa [show y = z by omega]
    · intro hy'; exact ⟨y, hy', rfl⟩
  constructor
  · intro h' y hy; simpa using (key y hy).1 (h' y hy)
  · intro h' y hy; exact (key y hy).2 (by simpa using h' y hy)
/-- The rooted problem on the labels that are kept, and whether there is one. -/
def keepB (p : T_RootedProblem) (keep : List Int) : T_RootedProblem × Bool :=
  if rootedB p && !keep.isEmpty && risB keep 0 (p.Labels - 1) then (⟨(keep.length : Int), p.Children, keptL keep (toR p.Labels.toNat keep keep.length) p.Lines⟩, true) else (⟨0, 0, []⟩, false)
theorem to_step {σ ρ : Type} (n : Nat) (keep : List Int) (h : ∀ y, y ∈ keep → 0 ≤ y ∧ y < n) (j : Nat) (x : Int) (hj : keep[j]? = some x) :
    (ix (toR n keep j) x >>= fun _ => st (toR n keep j) x (j : Int)) = some (toR n keep (j + 1)) := by
  have hb := h x (List.mem_of_getElem? hj)
  obtain ⟨k, rfl⟩ : ∃ k : Nat, x = k := ⟨x.toNat, by omega⟩
  have hl := toR_length n keep j
  rw [ix_lt _ _ (by omega), sb, st_nat _ _ _ (by omega)]
  simp only [toR]
  rw [List.getD_eq_getElem?_getD, hj]
  simp
theorem e_specKeep (fuel : Nat) (hf : 100 ≤ fuel) (p : T_RootedProblem) (keep : List Int) (hJ : p.Lines.length ≤ 1048576) (hk : keep.length ≤ 1048576) : fS_KeepRooted fuel p keep = some (keepB p keep) := by
  unfold fS_KeepRooted keepB
  rw [e_roGood fuel (by omega) p (by omega), sb]
  cases h : rootedB p
  · simp [sb]
  · obtain ⟨h1, h2, h3⟩ := okLines_of h
    rw [if_neg (by simp)]
    cases he : keep.isEmpty
    · have hne : keep.length ≠ 0 := by cases keep with
        | nil => simp at he
        | cons a r => simp
      rw [if_neg (by simp; intro e; simp [e] at hne), ck_in (by omega) (by omega), sb, e_l1Rising _ _ _ (by omega), sb, sb]
      cases hr : risB keep 0 (p.Labels - 1)
      · simp
      · have hin := risB_in hr
        have hin' : ∀ y, y ∈ keep → 0 ≤ y ∧ y < p.Labels.toNat := fun y hy => by have := hin y hy; omega
        rw [if_neg (by simp)]
        have hb1 : 0 ≤ p.Labels := by omega
        have hb2 : p.Labels < 1000000000 := by omega
        have hm : mk (Rz.z : Int) p.Labels = some (List.replicate p.Labels.toNat (Rz.z : Int)) := if_pos ⟨hb1, hb2⟩
        unfold fS_roKeep
        rw [hm, sb]
        have ha := forI_invk0 (body := fS_roKeep_s1) (toR p.Labels.toNat keep) keep (fun j x hj => by
          have hs := to_step (σ := Unit) (ρ := Unit) p.Labels.toNat keep hin' j x hj
          unfold fS_roKeep_s1
          cases hx : ix (toR p.Labels.toNat keep j) x with
          | none => rw [hx] at hs; cases hs
          | some y => rw [hx, sb] at hs; rw [sb, hs, sb])
        rw [show List.replicate p.Labels.toNat (Rz.z : Int) = toR p.Labels.toNat keep 0 from rfl, ha, sb]
        simp only
        have htl := toR_length p.Labels.toNat keep keep.length
        have hb := forI_invk0 (body := fS_roKeep_s2 keep (toR p.Labels.toNat keep keep.length)) (fun j => keptL keep (toR p.Labels.toNat keep keep.length) (p.Lines.take j)) p.Lines (fun j x hj => by
          have hx := h3 x (List.mem_of_getElem? hj)
          have hjl := (List.getElem?_eq_some_iff.1 hj).1
          have hkl := keptL_length keep (toR p.Labels.toNat keep keep.length) (p.Lines.take j)
          rw [List.length_take] at hkl
          unfold fS_roKeep_s2
          rw [e_prAll, sb, take_snoc hj, keptL_snoc]
          cases hc : x.all fun y => decide (y ∈ keep)
          · simp
          · simp only [if_true]
            rw [(e_coThrough _ x (by omega) (fun y hy => by have := hx.2.2 y hy; omega) (by omega)).1, sb]
            unfold push
            rw [if_pos (by omega), sb])
        rw [List.take_length] at hb
        rw [show ([] : List (List Int)) = keptL keep (toR p.Labels.toNat keep keep.length) (p.Lines.take 0) from rfl, hb, sb]
        simp [sb]
    · have : keep.length = 0 := by cases keep with
        | nil => rfl
        | cons a r => simp at he
      rw [if_pos (by simp [this]), sb]
      simp
theorem e_implKeep (fuel : Nat) (hf : 100 ≤ fuel) (p : T_RootedProblem) (keep : List Int) (hJ : p.Lines.length ≤ 1048576) (hk : keep.length ≤ 1048576) : fI_KeepRooted fuel p keep = some (keepB p keep) := by
  unfold fI_KeepRooted keepB
  rw [e_implIsRooted fuel (by omega) p (by omega), sb]
  cases h : rootedB p
  · simp [sb]
  · obtain ⟨h1, h2, h3⟩ := okLines_of h
    rw [if_neg (by simp)]
    cases he : keep.isEmpty
    · have hne : keep.length ≠ 0 := by cases keep with
        | nil => simp at he
        | cons a r => simp
      rw [if_neg (by simp; intro e; simp [e] at hne), ck_in (by omega) (by omega), sb, e_increasing _ _ _ (by omega), sb, sb]
      cases hr : risB keep 0 (p.Labels - 1)
      · simp
      · have hin := risB_in hr
        have hin' : ∀ y, y ∈ keep → 0 ≤ y ∧ y < p.Labels.toNat := fun y hy => by have := hin y hy; omega
        rw [if_neg (by simp)]
        have hb1 : 0 ≤ p.Labels := by omega
        have hb2 : p.Labels < 1000000000 := by omega
        have hm : mk (Rz.z : Int) p.Labels = some (List.replicate p.Labels.toNat (Rz.z : Int)) := if_pos ⟨hb1, hb2⟩
        rw [hm, sb]
        have ha := forI_invk0 (body := fI_KeepRooted_s1) (toR p.Labels.toNat keep) keep (fun j x hj => by
          have hs := to_step (σ := Unit) (ρ := Unit) p.Labels.toNat keep hin' j x hj
          unfold fI_KeepRooted_s1
          cases hx : ix (toR p.Labels.toNat keep j) x with
          | none => rw [hx] at hs; cases hs
          | some y => rw [hx, sb] at hs; rw [sb, hs, sb])
        rw [show List.replicate p.Labels.toNat (Rz.z : Int) = toR p.Labels.toNat keep 0 from rfl, ha, sb]
        simp only
        have htl := toR_length p.Labels.toNat keep keep.length
        obtain ⟨hset, hlt⟩ := e_setOf p.Labels.toNat (by omega) keep hin'
        have hb := forI_invk0 (body := fI_KeepRooted_s2 keep (toR p.Labels.toNat keep keep.length)) (fun j => keptL keep (toR p.Labels.toNat keep keep.length) (p.Lines.take j)) p.Lines (fun j x hj => by
          have hx := h3 x (List.mem_of_getElem? hj)
          have hjl := (List.getElem?_eq_some_iff.1 hj).1
          have hkl := keptL_length keep (toR p.Labels.toNat keep keep.length) (p.Lines.take j)
          rw [List.length_take] at hkl
          unfold fI_KeepRooted_s2
          rw [hset, sb, e_onlyIn _ hlt x (by omega) (fun y hy => by have := hx.2.2 y hy; omega), sb, set_all p.Labels.toNat keep x hin' hx.2.2, take_snoc hj, keptL_snoc]
          cases hc : x.all fun y => decide (y ∈ keep)
          · simp
          · simp only [if_true]
            rw [(e_coThrough _ x (by omega) (fun y hy => by have := hx.2.2 y hy; omega) (by omega)).2, sb]
            unfold push
            rw [if_pos (by omega), sb])
        rw [List.take_length] at hb
        rw [show ([] : List (List Int)) = keptL keep (toR p.Labels.toNat keep keep.length) (p.Lines.take 0) from rfl, hb, sb]
        simp
    · have : keep.length = 0 := by cases keep with
        | nil => rfl
        | cons a r => simp at he
      rw [if_pos (by simp [this]), sb]
      simp
end Go.Proofs.Ytcjmpodljhcbhaa
