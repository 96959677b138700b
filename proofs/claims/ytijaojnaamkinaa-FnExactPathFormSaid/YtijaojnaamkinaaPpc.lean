/- PathForm: what the two sides compute. -/
import Derived.Test.YtijaojnaamkinaaPe
import Derived.Test.YtijaojnaamkinaaIm
import Derived.Test.YtijaojnaamkinaaSlp
import Derived.Test.YtijaojnaamkinaaGPpa

namespace Go.Proofs.Ytijaojnaamkinaa
set_option linter.unusedSimpArgs false
set_option linter.unusedVariables false

/-! ### Where a list goes in -/
def posS (l : List (List Int)) (x : List Int) : Nat := (l.takeWhile fun y => decide (ordL y x < 0)).length
theorem posS_le (l : List (List Int)) (x : List Int) : posS l x ≤ l.length := (List.takeWhile_sublist _).length_le
theorem posS_yes {y x : List Int} {l : List (List Int)} (h : ordL y x < 0) : posS (y :: l) x = posS l x + 1 := by
  unfold posS
  rw [List.takeWhile_cons, if_pos (by simpa using h), List.length_cons]
theorem posS_no {y x : List Int} {l : List (List Int)} (h : ¬ ordL y x < 0) : posS (y :: l) x = 0 := by
  unfold posS
  rw [List.takeWhile_cons, if_neg (by simpa using h)]; rfl
theorem insS_at (x : List Int) : ∀ (l : List (List Int)), insS l x = if l[posS l x]? = some x then l else l.take (posS l x) ++ [x] ++ l.drop (posS l x)
  | [] => by simp [insS, posS]
  | y :: l => by
    by_cases h : ordL y x < 0
    · rw [posS_yes h]
      simp only [insS, if_pos h, insS_at x l, List.getElem?_cons_succ, List.take_succ_cons, List.drop_succ_cons]
      split <;> rfl
    · rw [posS_no h]
      simp only [insS, if_neg h]
      by_cases e : y = x
      · simp [e]
      · simp [e]
def smallL (x : List Int) : Prop := x.length = 2 ∧ ∀ y, y ∈ x → 0 ≤ y ∧ y ≤ 1000000000
theorem insS_small {l : List (List Int)} {x : List Int} (hl : ∀ z ∈ l, smallL z) (hx : smallL x) : ∀ z ∈ insS l x, smallL z := fun z hz => by
  rcases insS_mem.1 hz with rfl | hz
  · exact hx
  · exact hl z hz
theorem insS_len (x : List Int) : ∀ (l : List (List Int)), (insS l x).length ≤ l.length + 1
  | [] => by simp [insS]
  | y :: l => by
    have := insS_len x l
    unfold insS
    split
    · simp; omega
    · split <;> simp
theorem sxd_len : ∀ (xs l : List (List Int)), (xs.foldl insS l).length ≤ l.length + xs.length
  | [], l => by simp
  | x :: xs, l => by
    have h1 := insS_len x l
    have h2 := sxd_len xs (insS l x)
    rw [List.foldl_cons, List.length_cons]; omega
theorem sxd_small : ∀ (xs l : List (List Int)), (∀ z ∈ l, smallL z) → (∀ z ∈ xs, smallL z) → ∀ z ∈ xs.foldl insS l, smallL z
  | [], l, h1, _ => h1
  | x :: xs, l, h1, h2 => by
    rw [List.foldl_cons]
    exact sxd_small xs (insS l x) (insS_small h1 (h2 x (by simp))) fun z hz => h2 z (by simp [hz])
theorem prI_loop (x : List Int) (hx : smallL x) : ∀ (ys pre : List (List Int)) (fuel : Nat), ys.length < fuel → pre.length + ys.length ≤ 1000000000 → (∀ z ∈ ys, smallL z) →
    loopF (fS_prInsert_s1 (pre ++ ys) x) fuel (pre.length : Int) = some (.inl ((pre.length + posS ys x : Nat) : Int))
  | [], pre, fuel, hf, hl, hz => by
    obtain ⟨fuel, rfl⟩ : ∃ q, fuel = q + 1 := ⟨fuel - 1, by omega⟩
    refine loopF_out ?_ fuel
    unfold fS_prInsert_s1
    rw [if_neg (by simp), sb]
    simp [posS]
  | y :: ys, pre, fuel, hf, hl, hz => by
    simp only [List.length_cons] at hf hl
    obtain ⟨fuel, rfl⟩ : ∃ q, fuel = q + 1 := ⟨fuel - 1, by omega⟩
    have hy := hz y (by simp)
    have ho := e_prOrder y x (by rw [hy.1, hx.1]) hy.2 hx.2
    by_cases h : ordL y x < 0
    · have e1 : fS_prInsert_s1 (pre ++ y :: ys) x (pre.length : Int) = some (.go ((pre.length : Int) + 1)) := by
        unfold fS_prInsert_s1
        rw [if_pos (by simp; omega), ix_mid, sb, ho, sb, sb, if_pos (by simpa using h), ck_in (by omega) (by omega), sb]
      rw [loopF_go e1]
      have := prI_loop x hx ys (pre ++ [y]) fuel (by omega) (by simp; omega) fun z hz' => hz z (by simp [hz'])
      rw [List.append_assoc, List.singleton_append, List.length_append, List.length_singleton] at this
      rw [show ((pre.length : Int) + 1) = ((pre.length + 1 : Nat) : Int) by omega, this, posS_yes h]
      congr 3
      omega
    · refine loopF_out ?_ fuel
      unfold fS_prInsert_s1
      rw [if_pos (by simp; omega), ix_mid, sb, ho, sb, sb, if_neg (by simpa using h), posS_no h]
      simp
theorem e_prInsert (fuel : Nat) (l : List (List Int)) (x : List Int) (hf : l.length < fuel) (hl : l.length < 1000000000) (hz : ∀ z ∈ l, smallL z) (hx : smallL x) : fS_prInsert fuel l x = some (insS l x) := by
  unfold fS_prInsert
  have h1 := prI_loop x hx l [] fuel hf (by simp; omega) hz
  rw [List.nil_append, List.length_nil, Nat.zero_add, show ((0 : Nat) : Int) = 0 from rfl] at h1
  rw [h1, sb, insS_at]
  have hp := posS_le l x
  simp only
  generalize posS l x = k at hp ⊢
  have hcut1 : cut l 0 (k : Int) = some (l.take k) := by
    unfold cut
    rw [if_pos (by omega)]; simp
  have hcut2 : cut l (k : Int) l.length = some (l.drop k) := by
    unfold cut
    rw [if_pos (by omega)]; simp
  have hrest : ((cut l 0 (k : Int)) >>= fun x67 => (cat ([] : List (List Int)) x67) >>= fun x70 => (push x70 x) >>= fun x82 => (cut l (k : Int) l.length) >>= fun x88 => (cat x82 x88) >>= fun x91 => some x91) = some (l.take k ++ [x] ++ l.drop k) := by
    rw [hcut1, sb, cat_nil _ (by rw [List.length_take]; omega), sb]
    unfold push
    rw [if_pos (by rw [List.length_take]; omega), sb, hcut2, sb]
    unfold cat
    rw [if_pos (by simp; omega), sb]
  by_cases hk : k < l.length
  · rw [if_pos (by simp; omega), ix_lt _ _ hk, sb, e_l1Same _ _ (by have := (hz _ (List.getElem_mem hk)).1; omega), sb, sb, List.getElem?_eq_getElem hk]
    by_cases e : l[k] = x
    · simp [e]
    · rw [if_neg (by simpa using e), if_neg (by simpa using e)]
      exact hrest
  · rw [if_neg (by simp; omega), sb, if_neg (by simp), List.getElem?_eq_none (by omega), if_neg (by simp)]
    exact hrest
/-! ### The arcs -/
def arcsOf (x : List Int) : List (List Int) := x.tail.map fun b => [x.headD 0, b]
def arcsL (LL : List (List Int)) : List (List Int) := LL.flatMap arcsOf
theorem arcsL_snoc (LL : List (List Int)) (x : List Int) : arcsL (LL ++ [x]) = arcsL LL ++ arcsOf x := by simp [arcsL, List.flatMap_append]
theorem arcsOf_small {n : Nat} {x : List Int} (hn : n ≤ 60) (h1 : 1 ≤ x.length) (h2 : ∀ y, y ∈ x → 0 ≤ y ∧ y < n) : ∀ z ∈ arcsOf x, smallL z := fun z hz => by
  obtain ⟨b, hb, rfl⟩ := List.mem_map.1 hz
  refine ⟨rfl, fun y hy => ?_⟩
  cases x with
  | nil => simp at h1
  | cons a x =>
    simp only [List.tail_cons] at hb
    simp only [List.headD_cons, List.mem_cons, List.not_mem_nil, or_false] at hy
    rcases hy with rfl | rfl
    · have := h2 y (by simp); omega
    · have := h2 y (by simp [hb]); omega
theorem arcsL_small {n : Nat} {LL : List (List Int)} (hn : n ≤ 60) (h : okLines n LL) : ∀ z ∈ arcsL LL, smallL z := fun z hz => by
  obtain ⟨x, hx, hz⟩ := List.mem_flatMap.1 hz
  exact arcsOf_small hn (h x hx).1 (h x hx).2.2 z hz
theorem arcsL_len {n : Nat} : ∀ {LL : List (List Int)}, okLines n LL → (arcsL LL).length ≤ 3 * LL.length
  | [], _ => by simp [arcsL]
  | x :: LL, h => by
    have h1 := arcsL_len (LL := LL) fun y hy => h y (by simp [hy])
    have h2 := (h x (by simp)).2.1
    have : arcsL (x :: LL) = arcsOf x ++ arcsL LL := by simp [arcsL]
    rw [this, List.length_append, List.length_cons]
    have : (arcsOf x).length ≤ 3 := by unfold arcsOf; rw [List.length_map, List.length_tail]; omega
    omega
theorem okLines_take {n : Nat} {LL : List (List Int)} (h : okLines n LL) (j : Nat) : okLines n (LL.take j) := fun x hx => h x (List.mem_of_mem_take hx)
theorem head_ix {x : List Int} (h : 1 ≤ x.length) : ix x 0 = some (x.headD 0) := by
  cases x with
  | nil => simp at h
  | cons a x => rfl
def pathB (p : T_RootedProblem) : T_WalkProblem × Bool := if rootedB p then (⟨p.Labels, sxd (arcsL p.Lines)⟩, true) else (⟨0, []⟩, false)
theorem e_roPath (n fuel : Nat) (p : T_RootedProblem) (h : okLines n p.Lines) (hn : n ≤ 60) (hf : 4000000 ≤ fuel) (hJ : p.Lines.length ≤ 1048576) : fS_roPath fuel p (lbs n (2 ^ n - 1)) = some ⟨p.Labels, sxd (arcsL p.Lines)⟩ := by
  unfold fS_roPath
  have hb := forI_invk0 (body := fS_roPath_s1 fuel (lbs n (2 ^ n - 1))) (fun j => sxd (arcsL (p.Lines.take j))) p.Lines (fun j x hj => by
    have hx := h x (List.mem_of_getElem? hj)
    have hjl := (List.getElem?_eq_some_iff.1 hj).1
    unfold fS_roPath_s1
    have hall : (x.all fun y => decide (y ∈ lbs n (2 ^ n - 1))) = true := by
      rw [List.all_eq_true]
      intro y hy
      rw [decide_eq_true_eq, mem_lbs]
      have := hx.2.2 y hy
      exact ⟨y.toNat, by omega, by omega, by rw [Nat.testBit_two_pow_sub_one]; simp; omega⟩
    rw [e_prAll, sb, hall, if_neg (by simp), cut_tail x hx.1, sb]
    have hok := okLines_take h j
    have hl1 := arcsL_len hok
    rw [List.length_take] at hl1
    have hs1 := arcsL_small hn hok
    have hz := arcsOf_small hn hx.1 hx.2.2
    have hi := forI_invk0 (body := fS_roPath_s2 fuel x) (fun i => ((x.tail.take i).map fun b => [x.headD 0, b]).foldl insS (sxd (arcsL (p.Lines.take j)))) x.tail (fun i b hb => by
      have hil := (List.getElem?_eq_some_iff.1 hb).1
      rw [List.length_tail] at hil
      unfold fS_roPath_s2
      rw [head_ix hx.1, sb, take_snoc hb, List.map_append, List.foldl_append]
      have q1 := sxd_len ((x.tail.take i).map fun b => [x.headD 0, b]) (sxd (arcsL (p.Lines.take j)))
      have q2 := sxd_len (arcsL (p.Lines.take j)) []
      have q3 : (sxd (arcsL (p.Lines.take j))).length ≤ (arcsL (p.Lines.take j)).length := by simpa [sxd] using q2
      have q4 : ((x.tail.take i).map fun b => [x.headD 0, b]).length ≤ 3 := by rw [List.length_map, List.length_take, List.length_tail]; omega
      rw [e_prInsert fuel (((x.tail.take i).map fun b => [x.headD 0, b]).foldl insS (sxd (arcsL (p.Lines.take j)))) [x.headD 0, b] (by omega) (by omega) (sxd_small _ _ (sxd_small _ _ (by simp) hs1) (fun z hz' => by
        obtain ⟨c, hc, rfl⟩ := List.mem_map.1 hz'
        exact hz _ (List.mem_map.2 ⟨c, List.mem_of_mem_take hc, rfl⟩))) (hz _ (List.mem_map.2 ⟨b, List.mem_of_getElem? hb, rfl⟩)), sb]
      rfl)
    rw [show sxd (arcsL (p.Lines.take j)) = ((x.tail.take 0).map fun b => [x.headD 0, b]).foldl insS (sxd (arcsL (p.Lines.take j))) from rfl, hi, sb, List.take_length, take_snoc hj, arcsL_snoc]
    simp only [sxd, List.foldl_append]
    rfl)
  rw [List.take_length] at hb
  rw [show ([] : List (List Int)) = sxd (arcsL (p.Lines.take 0)) from rfl, hb, sb]
theorem e_specPath (fuel : Nat) (hf : 4000000 ≤ fuel) (p : T_RootedProblem) (hJ : p.Lines.length ≤ 1048576) : fS_PathForm fuel p = some (pathB p) := by
  unfold fS_PathForm pathB
  rw [e_roGood fuel (by omega) p (by omega), sb]
  cases h : rootedB p
  · simp
  · obtain ⟨h1, h2, h3⟩ := okLines_of h
    rw [if_neg (by simp), e_roAll p.Labels.toNat p h1 (by omega) fuel (by omega), sb, e_roPath p.Labels.toNat fuel p h3 (by omega) hf hJ, sb]
    rfl
end Go.Proofs.Ytijaojnaamkinaa
