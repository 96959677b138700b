/- The components of a walk problem: the specification's list. -/
import Derived.Test.YtffgdhbhlcifmaaWh
import Derived.Test.YtffgdhbhlcifmaaGWa
namespace Go.Proofs.Ytffgdhbhlcifmaa
set_option linter.unusedSimpArgs false
set_option linter.unusedVariables false

/-! ### Matrices of bits -/
def rowB (n : Nat) (g : Nat → Bool) : List Bool := (List.range n).map g
def matB (n : Nat) (g : Nat → Nat → Bool) : List (List Bool) := (List.range n).map fun a => rowB n (g a)
theorem rowB_get {n i : Nat} {g : Nat → Bool} (h : i < n) : (rowB n g)[i]? = some (g i) := by simp [rowB, h]
theorem matB_get {n i : Nat} {g : Nat → Nat → Bool} (h : i < n) : (matB n g)[i]? = some (rowB n (g i)) := by simp [matB, h]
theorem rowB_len (n : Nat) (g : Nat → Bool) : (rowB n g).length = n := by simp [rowB]
theorem matB_len (n : Nat) (g : Nat → Nat → Bool) : (matB n g).length = n := by simp [matB]
theorem ix_rowB {n i : Nat} {g : Nat → Bool} (h : i < n) : ix (rowB n g) (i : Int) = some (g i) := by rw [ix_nat, rowB_get h]
theorem ix_matB {n i : Nat} {g : Nat → Nat → Bool} (h : i < n) : ix (matB n g) (i : Int) = some (rowB n (g i)) := by rw [ix_nat, matB_get h]
theorem rowB_set {n i : Nat} {g : Nat → Bool} (h : i < n) (v : Bool) : (rowB n g).set i v = rowB n (fun b => if b = i then v else g b) := by
  refine List.ext_getElem (by simp [rowB]) fun j h1 h2 => ?_
  simp only [rowB, List.getElem_set, List.getElem_map, List.getElem_range]
  by_cases e : i = j
  · subst e; simp
  · rw [if_neg e, if_neg (fun q => e q.symm)]
theorem matB_set {n i : Nat} {g : Nat → Nat → Bool} (h : i < n) (r : Nat → Bool) : (matB n g).set i (rowB n r) = matB n (fun a => if a = i then r else g a) := by
  refine List.ext_getElem (by simp [matB]) fun j h1 h2 => ?_
  simp only [matB, List.getElem_set, List.getElem_map, List.getElem_range]
  by_cases e : i = j
  · subst e; simp
  · rw [if_neg e, if_neg (fun q => e q.symm)]
theorem matF_B (n : Nat) (f : Nat → Nat) : matF n f = matB n fun a b => (f a).testBit b := rfl
theorem mrow_B (n m : Nat) : mrow n m = rowB n fun b => m.testBit b := rfl
/-! ### Reach -/
def accB (A : Nat → Nat) (n j a b : Nat) : Bool := (List.range (j - 1)).any fun k => (pwF A n a (k + 1)).testBit b
theorem accB_next (A : Nat → Nat) (n j a b : Nat) : accB A n (j + 1) a b = (accB A n j a b || ((pwF A n a j).testBit b && decide (0 < j))) := by
  unfold accB
  cases j with
  | zero => simp
  | succ j =>
    simp only [Nat.add_sub_cancel]
    rw [List.range_succ, List.any_append]
    simp
theorem reach_row (n j a : Nat) (ha : a < n) (g h : Nat → Nat → Bool) : forI (fS_waReach_s3 (j : Int) (a : Int)) (rowB n (h a)) 0 (matB n g) = some (.inl (matB n fun a' b => if a' = a then g a b || (h a b && decide (0 < j)) else g a' b)) := by
  have := forI_inv0 (ρ := List (List Bool)) (body := fS_waReach_s3 (j : Int) (a : Int)) (fun c => matB n fun a' b => if a' = a ∧ b < c then g a b || (h a b && decide (0 < j)) else g a' b) (rowB n (h a)) (fun c x hx => by
    have hc := (List.getElem?_eq_some_iff.1 hx).1
    rw [rowB_len] at hc
    rw [rowB_get hc] at hx
    have hxe : h a c = x := by simpa using hx
    have hfin : ∀ v : Bool, v = (g a c || (h a c && decide (0 < j))) → (matB n fun a' b => if a' = a ∧ b < c then g a b || (h a b && decide (0 < j)) else g a' b).set a ((rowB n fun b => if a = a ∧ b < c then g a b || (h a b && decide (0 < j)) else g a b).set c v) = matB n fun a' b => if a' = a ∧ b < c + 1 then g a b || (h a b && decide (0 < j)) else g a' b := fun v hv => by
      rw [rowB_set hc, matB_set ha]
      congr 1
      funext a' b
      by_cases e : a' = a
      · subst e
        simp only [if_true, true_and]
        by_cases e2 : b = c
        · subst e2; rw [if_pos rfl, if_pos (by omega), hv]
        · rw [if_neg e2]
          by_cases e3 : b < c
          · rw [if_pos e3, if_pos (by omega)]
          · rw [if_neg e3, if_neg (by omega)]
      · simp [e]
    have hcur : (if a = a ∧ c < c then g a c || (h a c && decide (0 < j)) else g a c) = g a c := by simp
    unfold fS_waReach_s3
    rw [ix_matB ha, sb, sb, ix_rowB hc, sb, hcur]
    have hst : ∀ v : Bool, st (rowB n fun b => if a = a ∧ b < c then g a b || (h a b && decide (0 < j)) else g a b) (c : Int) v = some ((rowB n fun b => if a = a ∧ b < c then g a b || (h a b && decide (0 < j)) else g a b).set c v) := fun v => st_nat _ _ _ (by rw [rowB_len]; exact hc)
    cases hg : g a c with
    | true =>
      rw [if_pos rfl, sb, hst, sb, sb, Int.toNat_natCast, hfin true (by rw [hg]; rfl)]
    | false =>
      rw [if_neg (by decide)]
      cases x with
      | true =>
        rw [if_pos rfl, sb, hst, sb, sb, Int.toNat_natCast, hfin _ (by rw [hg, hxe]; simp)]
      | false =>
        rw [if_neg (by decide), sb, hst, sb, sb, Int.toNat_natCast, hfin false (by rw [hg, hxe]; rfl)])
  rw [rowB_len] at this
  have e0 : (matB n fun a' b => if a' = a ∧ b < 0 then g a b || (h a b && decide (0 < j)) else g a' b) = matB n g := by
    congr 1
    funext a' b
    simp
  have e1 : (matB n fun a' b => if a' = a ∧ b < n then g a b || (h a b && decide (0 < j)) else g a' b) = matB n fun a' b => if a' = a then g a b || (h a b && decide (0 < j)) else g a' b := by
    unfold matB rowB
    refine List.map_congr_left fun a' _ => List.map_congr_left fun b hb => ?_
    have := List.mem_range.1 hb
    simp [this]
  rw [e0, e1] at this
  exact this
theorem reach_mat (n j : Nat) (hn : n ≤ 60) (g h : Nat → Nat → Bool) : fS_waReach_s1 (j : Int) (matB n h) (matB n g) = some (.go (matB n fun a b => g a b || (h a b && decide (0 < j)))) := by
  unfold fS_waReach_s1
  rw [matB_len, ck_in (by omega) (by omega), sb, Int.toNat_natCast]
  have := forN_inv0 (ρ := List (List Bool)) (body := fS_waReach_s2 (j : Int) (matB n h)) (fun a => matB n fun a' b => if a' < a then g a' b || (h a' b && decide (0 < j)) else g a' b) n (fun a ha => by
    unfold fS_waReach_s2
    rw [ix_matB ha, sb, reach_row n j a ha _ h, sb]
    simp only
    congr 3
    funext a' b
    by_cases e : a' = a
    · subst e
      rw [if_pos rfl, if_neg (by omega), if_pos (by omega)]
    · rw [if_neg e]
      by_cases e2 : a' < a
      · rw [if_pos e2, if_pos (by omega)]
      · rw [if_neg e2, if_neg (by omega)])
  have e0 : (matB n fun a' b => if a' < 0 then g a' b || (h a' b && decide (0 < j)) else g a' b) = matB n g := by
    congr 1
  have e1 : (matB n fun a' b => if a' < n then g a' b || (h a' b && decide (0 < j)) else g a' b) = matB n fun a b => g a b || (h a b && decide (0 < j)) := by
    unfold matB
    refine List.map_congr_left fun a' ha => ?_
    have := List.mem_range.1 ha
    simp [this]
  rw [e0, e1] at this
  rw [this, sb]
theorem e_waReach (n fuel : Nat) (p : T_WalkProblem) (hp : p.Labels = n) (hn : n ≤ 60) (h : okArcs n p.Arcs) (hf : 2 * n + 2 < fuel) : fS_waReach fuel p = some (matB n (rB (aftF p.Arcs) n)) := by
  unfold fS_waReach
  rw [e_waMay n fuel ⟨p.Labels, []⟩ hp hn (by intro x hx; simp at hx) (by omega), sb, hp, e_waPowers n n fuel p hp hn h (by omega) (by omega), sb]
  have := forI_inv0 (ρ := List (List Bool)) (body := fS_waReach_s1) (fun j => matB n (accB (aftF p.Arcs) n j)) ((List.range (n + 1)).map fun j => matF n fun a => pwF (aftF p.Arcs) n a j) (fun j x hx => by
    have hj := (List.getElem?_eq_some_iff.1 hx).1
    simp only [List.length_map, List.length_range] at hj
    rw [List.getElem?_map, List.getElem?_range hj] at hx
    obtain rfl : (matF n fun a => pwF (aftF p.Arcs) n a j) = x := by simpa using hx
    rw [matF_B, reach_mat n j hn]
    congr 3
    funext a b
    rw [accB_next])
  simp only [List.length_map, List.length_range] at this
  have e0 : matB n (accB (aftF p.Arcs) n 0) = matF n (aftF []) := by
    rw [matF_B]
    congr 1
    funext a b
    simp [accB, aftF]
  rw [e0] at this
  rw [this, sb]
  rfl
/-! ### Depths -/
def negs (d : List Int) : Nat := (d.filter fun x => decide (x < 0)).length
theorem negs_le (d : List Int) : negs d ≤ d.length := List.length_filter_le _ _
theorem negs_set : ∀ {d : List Int} {i : Nat} {y : Int}, i < d.length → d.getD i 0 < 0 → 0 ≤ y → negs (d.set i y) + 1 = negs d
  | [], i, y, h, _, _ => by simp at h
  | x :: d, 0, y, _, h, hy => by
    have h : x < 0 := h
    have h2 : ¬ y < 0 := by omega
    unfold negs
    rw [List.set_cons_zero, List.filter_cons_of_neg (by simpa using h2), List.filter_cons_of_pos (by simpa using h), List.length_cons]
  | x :: d, i + 1, y, hl, h, hy => by
    have := negs_set (d := d) (i := i) (y := y) (by simpa using hl) (by rw [List.getD_cons_succ] at h; exact h) hy
    unfold negs at this ⊢
    simp only [List.set_cons_succ, List.filter_cons]
    split <;> (try simp only [List.length_cons]) <;> omega
theorem getDs {f : List Int} {i j : Nat} {y : Int} (h : i < f.length) : (f.set i y).getD j 0 = if j = i then y else f.getD j 0 := by
  rw [List.getD_eq_getElem?_getD, List.getElem?_set, List.getD_eq_getElem?_getD]
  by_cases e : i = j
  · subst e; simp [h]
  · rw [if_neg e, if_neg (fun q => e q.symm)]
/-- Arcs within a component. -/
def EC (arcs : List (List Int)) (C : Nat → Prop) (x y : Nat) : Prop := C x ∧ C y ∧ [(x : Int), (y : Int)] ∈ arcs
structure Dep (n : Nat) (arcs : List (List Int)) (C : Nat → Prop) (r : Nat) (d : List Int) : Prop where
  len : d.length = n
  root : d.getD r 0 = 0
  wlk : ∀ b, b < n → 0 ≤ d.getD b 0 → C b ∧ ∃ k : Nat, d.getD b 0 = k ∧ Wk (EC arcs C) k r b
  bnd : ∀ b, b < n → d.getD b 0 + negs d ≤ n
  low : ∀ b, b < n → 0 ≤ d.getD b 0 + 1
theorem ixg {f : List Int} {i : Nat} (h : i < f.length) : ix f (i : Int) = some (f.getD i 0) := by
  rw [ix_nat, List.getD_eq_getElem?_getD, List.getElem?_eq_getElem h]; rfl
theorem dep_step {n : Nat} (hn : n ≤ 60) {arcs : List (List Int)} {Cl : List Int} {C : Nat → Prop} (hC : ∀ b : Nat, (b : Int) ∈ Cl ↔ C b) {r x y : Nat} (hx : x < n) (hy : y < n) (hm : [(x : Int), (y : Int)] ∈ arcs) (i : Int) {d : List Int} (D : Dep n arcs C r d) (hr : r < n) (again : Bool) :
    ∃ d', fS_waDepths_s3 Cl i [(x : Int), (y : Int)] (d, again) = some (.go (d', again || decide (negs d' ≠ negs d))) ∧ Dep n arcs C r d' ∧ negs d' ≤ negs d ∧ (∀ b, b < n → 0 ≤ d.getD b 0 → d'.getD b 0 = d.getD b 0) ∧ (∀ b, b < n → 0 ≤ d'.getD b 0 → 0 ≤ d.getD b 0 ∨ negs d' < negs d) ∧ (0 ≤ d.getD x 0 → d'.getD y 0 < 0 → ¬ C y) := by
  have hlx : x < d.length := by rw [D.len]; exact hx
  have hly : y < d.length := by rw [D.len]; exact hy
  unfold fS_waDepths_s3
  simp only
  rw [show ix [(x : Int), (y : Int)] 0 = some (x : Int) from rfl, sb, ixg hlx, sb]
  have keep : ¬ (0 ≤ d.getD x 0 ∧ d.getD y 0 < 0 ∧ C y) → (∃ d', some (Lp.go (σ := List Int × Bool) (τ := List Int × Bool) (ρ := List Int) (d, again)) = some (.go (d', again || decide (negs d' ≠ negs d))) ∧ Dep n arcs C r d' ∧ negs d' ≤ negs d ∧ (∀ b, b < n → 0 ≤ d.getD b 0 → d'.getD b 0 = d.getD b 0) ∧ (∀ b, b < n → 0 ≤ d'.getD b 0 → 0 ≤ d.getD b 0 ∨ negs d' < negs d) ∧ (0 ≤ d.getD x 0 → d'.getD y 0 < 0 → ¬ C y)) := fun hno =>
    ⟨d, by simp, D, Nat.le_refl _, fun _ _ _ => rfl, fun _ _ h => .inl h, fun h1 h2 h3 => hno ⟨h1, h2, h3⟩⟩
  by_cases h1 : d.getD x 0 ≥ 0
  · rw [if_pos (by simpa using h1), show ix [(x : Int), (y : Int)] 1 = some (y : Int) from rfl, sb, ixg hly, sb]
    by_cases h2 : d.getD y 0 < 0
    · rw [if_pos (by simpa using h2), sb, e_l1Has, sb, sb]
      by_cases h3 : C y
      · have hb := D.bnd x hx
        have hnx := negs_le d
        have hneg : 0 < negs d := by have := negs_set hly h2 (Int.le_refl 0); omega
        have hset := negs_set (y := d.getD x 0 + 1) hly h2 (by omega)
        obtain ⟨hcx, k, hk, wk⟩ := D.wlk x hx h1
        rw [if_pos (by simpa using (hC y).2 h3), sb, sb, ixg hlx, sb, ck_in (by omega) (by omega), sb, ixg hly, sb, st_nat _ _ _ hly, sb]
        refine ⟨d.set y (d.getD x 0 + 1), by rw [show decide (negs (d.set y (d.getD x 0 + 1)) ≠ negs d) = true by rw [decide_eq_true_eq]; omega]; simp, ⟨by rw [List.length_set]; exact D.len, ?_, fun b hb2 hb0 => ?_, fun b hb2 => ?_, fun b hb2 => ?_⟩, by omega, fun b hb2 hb0 => ?_, fun b _ _ => .inr (by omega), fun _ h5 => ?_⟩
        · rw [getDs hly]
          have : r ≠ y := fun e => by subst e; rw [D.root] at h2; omega
          rw [if_neg this]; exact D.root
        · rw [getDs hly] at hb0 ⊢
          by_cases e : b = y
          · subst e
            rw [if_pos rfl]
            exact ⟨h3, k + 1, by omega, x, wk, hcx, h3, hm⟩
          · rw [if_neg e] at hb0 ⊢
            exact D.wlk b hb2 hb0
        · rw [getDs hly]
          have := D.bnd b hb2
          split <;> omega
        · rw [getDs hly]
          have := D.low b hb2
          split <;> omega
        · rw [getDs hly]
          have : b ≠ y := fun e => by subst e; omega
          rw [if_neg this]
        · rw [getDs hly, if_pos rfl] at h5; omega
      · rw [if_neg (by simpa using fun q => h3 ((hC y).1 q))]
        exact keep fun q => h3 q.2.2
    · rw [if_neg (by simpa using h2), sb, if_neg (by decide)]
      exact keep fun q => h2 q.2.1
  · rw [if_neg (by simpa using h1), sb, if_neg (by decide)]
    exact keep fun q => h1 q.1
theorem dep_sweep {n : Nat} (hn : n ≤ 60) {arcs : List (List Int)} {Cl : List Int} {C : Nat → Prop} (hC : ∀ b : Nat, (b : Int) ∈ Cl ↔ C b) {r : Nat} (hr : r < n) : ∀ (xs : List (List Int)) (i : Int) (d : List Int) (again : Bool), (∀ z, z ∈ xs → z ∈ arcs) → okArcs n xs → Dep n arcs C r d →
    ∃ d', forI (fS_waDepths_s3 Cl) xs i (d, again) = some (.inl (d', again || decide (negs d' ≠ negs d))) ∧ Dep n arcs C r d' ∧ negs d' ≤ negs d ∧ (∀ b, b < n → 0 ≤ d.getD b 0 → d'.getD b 0 = d.getD b 0) ∧ (∀ b, b < n → 0 ≤ d'.getD b 0 → 0 ≤ d.getD b 0 ∨ negs d' < negs d) ∧ (∀ x y : Nat, [(x : Int), (y : Int)] ∈ xs → 0 ≤ d.getD x 0 → d'.getD y 0 < 0 → ¬ C y)
  | [], i, d, again, _, _, D => ⟨d, by simp [forI], D, Nat.le_refl _, fun _ _ _ => rfl, fun _ _ h => .inl h, fun x y h => by simp at h⟩
  | z :: xs, i, d, again, hs, ho, D => by
    obtain ⟨x, y, rfl, hx, hy⟩ := ho z (by simp)
    obtain ⟨d1, h1, D1, n1, k1, b1, c1⟩ := dep_step hn hC hx hy (hs _ (by simp)) i D hr again
    obtain ⟨d2, h2, D2, n2, k2, b2, c2⟩ := dep_sweep hn hC hr xs (i + 1) d1 (again || decide (negs d1 ≠ negs d)) (fun z hz => hs z (by simp [hz])) (fun z hz => ho z (by simp [hz])) D1
    refine ⟨d2, ?_, D2, by omega, fun b hb h0 => ?_, fun b hb h0 => ?_, fun x' y' hm h0 h5 => ?_⟩
    · simp only [forI, h1, h2]
      congr 3
      cases again
      · by_cases e1 : negs d1 = negs d
        · simp [e1]
        · have : negs d2 ≠ negs d := by omega
          simp [e1, this]
      · simp
    · rw [k2 b hb (by rw [k1 b hb h0]; exact h0), k1 b hb h0]
    · rcases b2 b hb h0 with q | q
      · rcases b1 b hb q with q | q
        · exact .inl q
        · exact .inr (by omega)
      · exact .inr (by omega)
    · rcases List.mem_cons.1 hm with e | hm
      · simp only [List.cons.injEq, and_true] at e
        have ex : x' = x := by omega
        have ey : y' = y := by omega
        subst ex; subst ey
        refine c1 h0 ?_
        apply Int.not_le.1
        intro hge
        have := k2 y' hy hge
        omega
      · have hx' : x' < n := by
          obtain ⟨u, v, e, hu, _⟩ := ho [(x' : Int), (y' : Int)] (by simp [hm])
          simp only [List.cons.injEq] at e
          omega
        exact c2 x' y' hm (by rw [k1 x' hx' h0]; exact h0) h5
theorem dep_loop {n : Nat} (hn : n ≤ 60) {p : T_WalkProblem} (ho : okArcs n p.Arcs) {Cl : List Int} {C : Nat → Prop} (hC : ∀ b : Nat, (b : Int) ∈ Cl ↔ C b) {r : Nat} (hr : r < n) : ∀ (m : Nat) (d : List Int) (fuel : Nat), negs d ≤ m → m + 1 < fuel → Dep n p.Arcs C r d →
    ∃ d', loopF (fS_waDepths_s2 p Cl) fuel (d, true) = some (.inl (d', false)) ∧ Dep n p.Arcs C r d' ∧ (∀ x y : Nat, [(x : Int), (y : Int)] ∈ p.Arcs → 0 ≤ d'.getD x 0 → C y → 0 ≤ d'.getD y 0)
  | m, d, fuel, hm, hf, D => by
    obtain ⟨fuel, rfl⟩ : ∃ k, fuel = k + 1 := ⟨fuel - 1, by omega⟩
    obtain ⟨d1, h1, D1, n1, k1, b1, c1⟩ := dep_sweep hn hC hr p.Arcs 0 d false (fun z h => h) ho D
    have hstep : fS_waDepths_s2 p Cl (d, true) = some (.go (d1, decide (negs d1 ≠ negs d))) := by
      unfold fS_waDepths_s2
      simp only
      rw [if_pos trivial, h1, sb]; simp
    rw [loopF_go hstep]
    by_cases e : negs d1 = negs d
    · obtain ⟨fuel, rfl⟩ : ∃ k, fuel = k + 1 := ⟨fuel - 1, by omega⟩
      refine ⟨d1, ?_, D1, fun x y hxy h0 hy => ?_⟩
      · rw [show decide (negs d1 ≠ negs d) = false by simp [e]]
        exact loopF_out (by unfold fS_waDepths_s2; simp) fuel
      · -- nothing new: what is set now was set before
        obtain ⟨u, v, e3, hu, hv⟩ := ho _ hxy
        simp only [List.cons.injEq, and_true] at e3
        have hx : x < n := by omega
        have hyn : y < n := by omega
        have hd : ∀ b, b < n → 0 ≤ d1.getD b 0 → 0 ≤ d.getD b 0 := fun b hb h => (b1 b hb h).resolve_right (by omega)
        exact Int.not_lt.1 fun hlt => c1 x y hxy (hd x hx h0) hlt hy
    · rw [show decide (negs d1 ≠ negs d) = true by simp [e]]
      cases m with
      | zero => omega
      | succ m => exact dep_loop hn ho hC hr m d1 fuel (by omega) (by omega) D1
/-! ### Arcs and masks -/
theorem putA_test (T : Nat → Nat) (a b x y : Nat) : (putA T [(a : Int), (b : Int)] x).testBit y = true ↔ (T x).testBit y = true ∨ (x = a ∧ y = b) := by
  unfold putA
  simp only [List.headD_cons, Int.toNat_natCast, List.getD_cons_succ, List.getD_cons_zero]
  by_cases e : x = a
  · subst e
    rw [if_pos rfl, Nat.testBit_or, Bool.or_eq_true, Nat.testBit_two_pow, decide_eq_true_eq]
    constructor
    · rintro (h | h)
      · exact .inl h
      · exact .inr ⟨rfl, h.symm⟩
    · rintro (h | h)
      · exact .inl h
      · exact .inr h.2.symm
  · rw [if_neg e]
    constructor
    · exact .inl
    · rintro (h | h)
      · exact h
      · exact absurd h.1 e
theorem aft_fold {n : Nat} : ∀ (LL : List (List Int)) (T : Nat → Nat), okArcs n LL → ∀ x y : Nat, ((LL.foldl putA T) x).testBit y = true ↔ (T x).testBit y = true ∨ [(x : Int), (y : Int)] ∈ LL
  | [], T, _, x, y => by simp
  | z :: LL, T, ho, x, y => by
    obtain ⟨a, b, rfl, _, _⟩ := ho z (by simp)
    rw [List.foldl_cons, aft_fold LL _ (fun w hw => ho w (by simp [hw])) x y, putA_test]
    simp only [List.mem_cons, List.cons.injEq, and_true]
    constructor
    · rintro ((h | h) | h)
      · exact .inl h
      · exact .inr (.inl ⟨by omega, by omega⟩)
      · exact .inr (.inr h)
    · rintro (h | h | h)
      · exact .inl (.inl h)
      · exact .inl (.inr ⟨by omega, by omega⟩)
      · exact .inr h
theorem aft_mem {n : Nat} {LL : List (List Int)} (ho : okArcs n LL) (x y : Nat) : (aftF LL x).testBit y = true ↔ [(x : Int), (y : Int)] ∈ LL := by
  unfold aftF
  rw [aft_fold LL _ ho x y]
  simp
theorem EA_mem {n : Nat} {LL : List (List Int)} (ho : okArcs n LL) (x y : Nat) : EA (aftF LL) n x y ↔ [(x : Int), (y : Int)] ∈ LL := by
  unfold EA
  rw [aft_mem ho]
  constructor
  · exact fun h => h.2
  · intro h
    obtain ⟨a, b, e, ha, hb⟩ := ho _ h
    simp only [List.cons.injEq] at e
    exact ⟨by omega, h⟩
section
variable {n : Nat} {arcs : List (List Int)}
/-- The component of a. -/
def CC (arcs : List (List Int)) (n a : Nat) (b : Nat) : Prop := rr (aftF arcs) n a b = true
theorem walkIn (ho : okArcs n arcs) (hA : ∀ a, aftF arcs a < 2 ^ n) {a : Nat} (ha : a < n) (haa : rB (aftF arcs) n a a = true) : ∀ {k b : Nat}, Wk (EA (aftF arcs) n) k a b → qB (aftF arcs) n b a = true → Wk (EC arcs (CC arcs n a)) k a b ∧ CC arcs n a b
  | 0, b, h, _ => by
    have : a = b := h
    subst this
    exact ⟨rfl, rr_iff.2 ⟨haa, haa⟩⟩
  | k + 1, b, ⟨c, h1, h2⟩, h3 => by
    have hc := h1.lt (EA_lt hA) ha
    have hb := (EA_lt hA _ _ h2).2
    have hqc : qB (aftF arcs) n c a = true := by
      obtain ⟨m, w⟩ := (qB_iff hA hb).1 h3
      exact (qB_iff hA hc).2 ⟨_, (Wk.one h2).add w⟩
    obtain ⟨w1, c1⟩ := walkIn ho hA ha haa h1 hqc
    have hab : rB (aftF arcs) n a b = true := (rB_iff hA ha).2 ⟨k, c, h1, h2⟩
    have hba : rB (aftF arcs) n b a = true := by
      by_cases e : b = a
      · subst e; exact hab
      · exact q_ne hA hb h3 e
    have c2 : CC arcs n a b := rr_iff.2 ⟨hab, hba⟩
    exact ⟨⟨c, w1, c1, c2, (EA_mem ho c b).1 h2⟩, c2⟩
theorem comp_walk (ho : okArcs n arcs) (hA : ∀ a, aftF arcs a < 2 ^ n) {a b : Nat} (ha : a < n) (h : CC arcs n a b) : ∃ k, Wk (EC arcs (CC arcs n a)) (k + 1) a b := by
  obtain ⟨h1, h2⟩ := rr_iff.1 h
  have hb := rB_lt hA ha h1
  obtain ⟨k, w⟩ := (rB_iff hA ha).1 h1
  exact ⟨k, (walkIn ho hA ha (rr_refl hA ha h) w (rB_q hA hb h2)).1⟩
/-- What a potential leaves at the arcs of a component. -/
def restV (d : List Int) (x y : Nat) : Int := d.getD x 0 + 1 - d.getD y 0
def absV (v : Int) : Int := max v (-v)
def inC (Cl : List Int) (z : List Int) : Bool := decide (z.getD 0 0 ∈ Cl) && decide (z.getD 1 0 ∈ Cl)
def vals (Cl : List Int) (d : List Int) (arcs : List (List Int)) : List Int := (arcs.filter (inC Cl)).map fun z => absV (restV d (z.getD 0 0).toNat (z.getD 1 0).toNat)
theorem absV_dvd (g v : Int) : g ∣ absV v ↔ g ∣ v := by
  unfold absV
  rcases Int.le_total v (-v) with h | h
  · rw [Int.max_eq_right h]; exact Int.dvd_neg
  · rw [Int.max_eq_left h]
/-- A good potential. -/
structure Pot (n : Nat) (arcs : List (List Int)) (a : Nat) (d : List Int) : Prop where
  root : d.getD a 0 = 0
  wlk : ∀ b, CC arcs n a b → ∃ k : Nat, d.getD b 0 = k ∧ Wk (EC arcs (CC arcs n a)) k a b
theorem vals_mem {Cl : List Int} {d : List Int} (ho : okArcs n arcs) {a : Nat} (hC : ∀ b : Nat, (b : Int) ∈ Cl ↔ CC arcs n a b) (g : Int) : (∀ v, v ∈ vals Cl d arcs → g ∣ v) ↔ ∀ x y, EC arcs (CC arcs n a) x y → g ∣ d.getD x 0 + 1 - d.getD y 0 := by
  constructor
  · rintro h x y ⟨hx, hy, hm⟩
    have := h (absV (restV d x y)) (List.mem_map.2 ⟨[(x : Int), (y : Int)], List.mem_filter.2 ⟨hm, by simp [inC, (hC x).2 hx, (hC y).2 hy]⟩, rfl⟩)
    exact (absV_dvd g _).1 this
  · intro h v hv
    obtain ⟨z, hz, rfl⟩ := List.mem_map.1 hv
    obtain ⟨hm, hin⟩ := List.mem_filter.1 hz
    obtain ⟨x, y, rfl, hx, hy⟩ := ho z hm
    unfold inC at hin
    rw [Bool.and_eq_true, decide_eq_true_eq, decide_eq_true_eq] at hin
    exact (absV_dvd g _).2 (h x y ⟨(hC x).1 hin.1, (hC y).1 hin.2, hm⟩)
/-- The period does not hang on the potential. -/
theorem per_uniq {Cl : List Int} (ho : okArcs n arcs) {a : Nat} (hC : ∀ b : Nat, (b : Int) ∈ Cl ↔ CC arcs n a b) {d1 d2 : List Int} (p1 : Pot n arcs a d1) (p2 : Pot n arcs a d2) {g1 g2 : Int} (h1 : Gof g1 (vals Cl d1 arcs)) (h2 : Gof g2 (vals Cl d2 arcs)) : g1 = g2 := by
  have hE : ∀ x y, EC arcs (CC arcs n a) x y → CC arcs n a x ∧ CC arcs n a y := fun x y h => ⟨h.1, h.2.1⟩
  refine h1.uniq h2 ?_ ?_
  · exact (vals_mem ho hC g1).2 (dvd_other (d1 := fun b => d1.getD b 0) (d2 := fun b => d2.getD b 0) hE p1.root p2.wlk ((vals_mem ho hC g1).1 h1.dvd))
  · exact (vals_mem ho hC g2).2 (dvd_other (d1 := fun b => d2.getD b 0) (d2 := fun b => d1.getD b 0) hE p2.root p1.wlk ((vals_mem ho hC g2).1 h2.dvd))
/-- A component with a closed walk has a period. -/
theorem per_pos {Cl : List Int} (ho : okArcs n arcs) (hA : ∀ a, aftF arcs a < 2 ^ n) {a : Nat} (ha : a < n) (haa : rB (aftF arcs) n a a = true) (hC : ∀ b : Nat, (b : Int) ∈ Cl ↔ CC arcs n a b) {d : List Int} (p : Pot n arcs a d) {g : Int} (h : Gof g (vals Cl d arcs)) : g ≠ 0 := by
  intro e
  subst e
  obtain ⟨k, w⟩ := comp_walk ho hA ha (show CC arcs n a a from rr_iff.2 ⟨haa, haa⟩)
  have := tele (d := fun b => d.getD b 0) ((vals_mem ho hC 0).1 h.dvd) w
  have := Int.zero_dvd.1 this
  rw [show d.getD a 0 = 0 from p.root] at this
  omega
end
/-! ### The specification's depths -/
theorem minus_list (n : Nat) : forN fS_waDepths_s1 n 0 (List.replicate n 0) = some (.inl (List.replicate n (-1))) := by
  have := forN_inv0 (ρ := List Int) (body := fS_waDepths_s1) (fun j => (List.range n).map fun i => if i < j then (-1 : Int) else 0) n (fun j hj => by
    unfold fS_waDepths_s1
    rw [ix_nat, List.getElem?_map, List.getElem?_range hj, show Option.map (fun i => if i < j then (-1 : Int) else 0) (some j) = some (if j < j then (-1 : Int) else 0) from rfl, sb, st_nat _ _ _ (by simpa using hj), sb]
    congr 2
    refine List.ext_getElem (by simp) fun i h1 h2 => ?_
    simp only [List.getElem_set, List.getElem_map, List.getElem_range]
    by_cases e : j = i
    · subst e; simp
    · rw [if_neg e]
      by_cases q : i < j
      · rw [if_pos q, if_pos (by omega)]
      · rw [if_neg q, if_neg (by omega)])
  have e0 : ((List.range n).map fun i => if i < 0 then (-1 : Int) else 0) = List.replicate n 0 := by
    refine List.ext_getElem (by simp) fun i h1 h2 => ?_
    simp
  have e1 : ((List.range n).map fun i => if i < n then (-1 : Int) else 0) = List.replicate n (-1) := by
    refine List.ext_getElem (by simp) fun i h1 h2 => ?_
    have : i < n := by simpa using h1
    simp [this]
  rw [e0, e1] at this
  exact this
theorem e_waDepths (n fuel : Nat) {p : T_WalkProblem} (hp : p.Labels = n) (hn : n ≤ 60) (ho : okArcs n p.Arcs) (hA : ∀ a, aftF p.Arcs a < 2 ^ n) (hf : n + 1 < fuel) {a : Nat} (ha : a < n) {Cl : List Int} (hC : ∀ b : Nat, (b : Int) ∈ Cl ↔ CC p.Arcs n a b) (hh : Cl[0]? = some (a : Int)) :
    ∃ d, fS_waDepths fuel p Cl = some d ∧ d.length = n ∧ Pot n p.Arcs a d ∧ ∀ b, b < n → 0 ≤ d.getD b 0 + 1 ∧ d.getD b 0 ≤ n := by
  have hl : (List.replicate n (-1 : Int)).length = n := by simp
  have hg : ∀ b, b < n → (List.replicate n (-1 : Int)).getD b 0 = -1 := fun b hb => by rw [List.getD_eq_getElem?_getD, List.getElem?_replicate, if_pos hb]; rfl
  have hng : negs (List.replicate n (-1 : Int)) ≤ n := by have := negs_le (List.replicate n (-1 : Int)); omega
  have hset := negs_set (d := List.replicate n (-1 : Int)) (i := a) (y := 0) (by omega) (by rw [hg a ha]; decide) (Int.le_refl _)
  have haC : CC p.Arcs n a a := (hC a).1 (List.mem_of_getElem? hh)
  have D0 : Dep n p.Arcs (CC p.Arcs n a) a ((List.replicate n (-1 : Int)).set a 0) := by
    refine ⟨by simp, by rw [getDs (by omega), if_pos rfl], fun b hb h0 => ?_, fun b hb => ?_, fun b hb => ?_⟩
    · rw [getDs (by omega)] at h0 ⊢
      by_cases e : b = a
      · subst e; rw [if_pos rfl]; exact ⟨haC, 0, rfl, rfl⟩
      · rw [if_neg e, hg b hb] at h0; omega
    · rw [getDs (by omega)]
      split
      · omega
      · rw [hg b hb]; omega
    · rw [getDs (by omega)]
      split
      · omega
      · rw [hg b hb]; omega
  obtain ⟨d, h1, D, hcl⟩ := dep_loop hn ho hC ha n _ fuel (by omega) (by omega) D0
  refine ⟨d, ?_, D.len, ⟨D.root, fun b hb => ?_⟩, fun b hb => by have := D.bnd b hb; have := D.low b hb; omega⟩
  · unfold fS_waDepths mk
    rw [hp, if_pos (by omega), sb, Int.toNat_natCast, List.length_replicate, ck_in (by omega) (by omega), sb, Int.toNat_natCast, show (Rz.z : Int) = 0 from rfl, minus_list, sb]
    simp only
    rw [show (0 : Int) = ((0 : Nat) : Int) from rfl, ix_nat Cl, hh, sb, ix_nat, List.getElem?_replicate, if_pos ha, sb, st_nat _ _ _ (by omega), sb]
    rw [show ((0 : Nat) : Int) = 0 from rfl, h1, sb]
  · obtain ⟨k, w⟩ := comp_walk ho hA ha hb
    have hreach : ∀ {k b : Nat}, Wk (EC p.Arcs (CC p.Arcs n a)) k a b → 0 ≤ d.getD b 0 := by
      intro k
      induction k with
      | zero => intro b h; have : a = b := h; subst this; rw [D.root]; exact Int.le_refl _
      | succ k ih =>
        rintro b ⟨c, h2, h3, h4, h5⟩
        exact hcl c b h5 (ih h2) h4
    have hbn : b < n := rB_lt hA ha (rr_iff.1 hb).1
    exact (D.wlk b hbn (hreach w)).2
/-! ### The period, specification -/
theorem gcd_int {g v : Int} (hg : 0 ≤ g) (hv : 0 ≤ v) : (Int.gcd g v : Int) = (Nat.gcd g.toNat v.toNat : Nat) := by
  unfold Int.gcd
  rw [show g.natAbs = g.toNat by omega, show v.natAbs = v.toNat by omega]
theorem gcd_le {g v : Int} {M : Int} (hg : 0 ≤ g) (hgM : g ≤ M) (hv : 0 ≤ v) (hvM : v ≤ M) : (Int.gcd g v : Int) ≤ M := by
  by_cases e : v = 0
  · subst e
    rw [Int.gcd_zero_right]
    omega
  · have := Int.le_of_dvd (by omega) (Int.gcd_dvd_right (a := g) (b := v))
    omega
theorem perS_step {n : Nat} (hn : n ≤ 60) {Cl d : List Int} (hd : d.length = n) (hb : ∀ b, b < n → 0 ≤ d.getD b 0 + 1 ∧ d.getD b 0 ≤ n) {z : List Int} (hz : ∃ a b : Nat, z = [(a : Int), (b : Int)] ∧ a < n ∧ b < n) (i g : Int) (hg0 : 0 ≤ g) (hg1 : g ≤ 1000) :
    fS_waParts_s3 Cl d i z g = some (.go (if inC Cl z then (Int.gcd g (absV (restV d (z.getD 0 0).toNat (z.getD 1 0).toNat)) : Int) else g)) := by
  obtain ⟨x, y, rfl, hx, hy⟩ := hz
  have bx := hb x hx
  have by' := hb y hy
  unfold fS_waParts_s3
  rw [show ix [(x : Int), (y : Int)] 0 = some (x : Int) from rfl, sb, e_l1Has, sb]
  have hin : inC Cl [(x : Int), (y : Int)] = (decide ((x : Int) ∈ Cl) && decide ((y : Int) ∈ Cl)) := rfl
  rw [hin]
  cases h1 : decide ((x : Int) ∈ Cl) with
  | false => rw [if_neg (by decide), sb, if_neg (by decide)]; simp
  | true =>
    rw [if_pos rfl, show ix [(x : Int), (y : Int)] 1 = some (y : Int) from rfl, sb, e_l1Has, sb, sb]
    cases h2 : decide ((y : Int) ∈ Cl) with
    | false => rw [if_neg (by decide)]; simp
    | true =>
      have e1 : ([(x : Int), (y : Int)].getD 0 0).toNat = x := rfl
      have e2 : ([(x : Int), (y : Int)].getD 1 0).toNat = y := rfl
      have hv : 0 ≤ absV (restV d x y) ∧ absV (restV d x y) ≤ 1000 := by unfold absV restV; omega
      rw [if_pos rfl, sb, ixg (by omega), sb, ck_in (by omega) (by omega), sb, sb, ixg (by omega), sb, ck_in (by omega) (by omega), sb]
      have hab : fS_l1Abs (d.getD x 0 + 1 - d.getD y 0) = some (absV (restV d x y)) := by
        unfold fS_l1Abs fS_l1Most
        rw [ck_in (by omega) (by omega), sb]
        unfold absV restV
        by_cases q : d.getD x 0 + 1 - d.getD y 0 > -(d.getD x 0 + 1 - d.getD y 0)
        · rw [if_pos (by simpa using q), sb, Int.max_eq_left (by omega)]
        · rw [if_neg (by simpa using q), sb, Int.max_eq_right (by omega)]
      rw [hab, sb]
      unfold fS_waGcd gcd2
      rw [if_pos ⟨hg0, by omega, hv.1, by omega⟩, sb, e1, e2, gcd_int hg0 hv.1]
      simp
theorem per_fold {ρ : Type} {n : Nat} {Cl d : List Int} (f : Int → List Int → Int → Option (Lp Int Int ρ)) (hs : ∀ (z : List Int) (i g : Int), (∃ a b : Nat, z = [(a : Int), (b : Int)] ∧ a < n ∧ b < n) → 0 ≤ g → g ≤ 1000 → f i z g = some (.go (if inC Cl z then (Int.gcd g (absV (restV d (z.getD 0 0).toNat (z.getD 1 0).toNat)) : Int) else g)))
    (hv : ∀ z : List Int, (∃ a b : Nat, z = [(a : Int), (b : Int)] ∧ a < n ∧ b < n) → 0 ≤ absV (restV d (z.getD 0 0).toNat (z.getD 1 0).toNat) ∧ absV (restV d (z.getD 0 0).toNat (z.getD 1 0).toNat) ≤ 1000) :
    ∀ (xs : List (List Int)) (i g : Int) (vs : List Int), okArcs n xs → Gof g vs → g ≤ 1000 → ∃ g', forI f xs i g = some (.inl g') ∧ Gof g' (vs ++ vals Cl d xs) ∧ g' ≤ 1000
  | [], i, g, vs, _, hg, h1 => ⟨g, rfl, by simpa [vals] using hg, h1⟩
  | z :: xs, i, g, vs, ho, hg, h1 => by
    have hz := ho z (by simp)
    have h2 := hv z hz
    simp only [forI, hs z i g hz hg.nn h1]
    by_cases e : inC Cl z = true
    · obtain ⟨g', h3, h4, h5⟩ := per_fold f hs hv xs (i + 1) _ _ (fun w hw => ho w (by simp [hw])) (hg.snoc (absV (restV d (z.getD 0 0).toNat (z.getD 1 0).toNat))) (gcd_le hg.nn h1 h2.1 h2.2)
      refine ⟨g', by rw [if_pos e]; exact h3, ?_, h5⟩
      have : vals Cl d (z :: xs) = absV (restV d (z.getD 0 0).toNat (z.getD 1 0).toNat) :: vals Cl d xs := by
        unfold vals; rw [List.filter_cons_of_pos e, List.map_cons]
      rw [this]
      simpa using h4
    · obtain ⟨g', h3, h4, h5⟩ := per_fold f hs hv xs (i + 1) g vs (fun w hw => ho w (by simp [hw])) hg h1
      refine ⟨g', by rw [if_neg e]; exact h3, ?_, h5⟩
      have : vals Cl d (z :: xs) = vals Cl d xs := by unfold vals; rw [List.filter_cons_of_neg e]
      rw [this]; exact h4
def compI (A : Nat → Nat) (n a : Nat) : List Int := (comp A n a).map fun b : Nat => (b : Int)
theorem compI_mem {A : Nat → Nat} {n a : Nat} (hA : ∀ a, A a < 2 ^ n) (ha : a < n) (b : Nat) : (b : Int) ∈ compI A n a ↔ rr A n a b = true := by
  unfold compI comp
  rw [List.mem_map]
  constructor
  · rintro ⟨c, hc, e⟩
    have : c = b := by omega
    subst this
    exact (List.mem_filter.1 hc).2
  · intro h
    exact ⟨b, List.mem_filter.2 ⟨List.mem_range.2 (rB_lt hA ha (rr_iff.1 h).1), h⟩, rfl⟩
theorem lead_iff {A : Nat → Nat} {n a : Nat} : lead A n a = true ↔ dnR A n a a = false ∧ rB A n a a = true := by
  unfold lead
  rw [Bool.and_eq_true, Bool.not_eq_true']
theorem compI_head {A : Nat → Nat} {n a : Nat} (ha : a < n) (h : lead A n a = true) : (compI A n a)[0]? = some (a : Int) := by
  obtain ⟨h1, h2⟩ := lead_iff.1 h
  unfold compI comp
  rw [List.getElem?_map, ← List.head?_eq_getElem?, List.head?_filter]
  have : (List.range n).find? (rr A n a) = some a := by
    rw [List.find?_range_eq_some]
    refine ⟨rr_iff.2 ⟨h2, h2⟩, List.mem_range.2 ha, fun j hj => ?_⟩
    cases hr : rr A n a j with
    | false => rfl
    | true =>
      exfalso
      unfold dnR at h1
      rw [List.any_eq_false] at h1
      exact h1 j (List.mem_range.2 hj) (rr_symm hr)
  rw [this]; rfl
/-! ### The period -/
def distO (A : Nat → Nat) (n a b m : Nat) : Option Nat := firstN (fun k => if (pwF A n a k).testBit b then some k else none) m 0
def distL (A : Nat → Nat) (n a : Nat) : List Int := (List.range n).map fun b => match distO A n a b (n + 1) with | some k => (k : Int) | none => -1
def perA (arcs : List (List Int)) (n a : Nat) : Int := (vals (compI (aftF arcs) n a) (distL (aftF arcs) n a) arcs).foldl (fun g v => (Int.gcd g v : Int)) 0
theorem gof_fold : ∀ (ws vs : List Int) (g : Int), Gof g vs → Gof (ws.foldl (fun g v => (Int.gcd g v : Int)) g) (vs ++ ws)
  | [], vs, g, h => by simpa using h
  | w :: ws, vs, g, h => by
    have := gof_fold ws (vs ++ [w]) _ (h.snoc w)
    simpa using this
theorem firstN_first {α : Type} {P : Nat → Bool} : ∀ (m k : Nat), firstN (fun j => if P j then some j else none) m k = none → ∀ j, j < m → P (k + j) = false
  | 0, k, _, j, hj => by omega
  | m + 1, k, h, j, hj => by
    simp only [firstN] at h
    cases hp : P k with
    | true => rw [hp] at h; simp at h
    | false =>
      rw [hp] at h
      simp only [Bool.false_eq_true, if_false] at h
      cases j with
      | zero => exact hp
      | succ j =>
        have := firstN_first (α := α) m (k + 1) h j (by omega)
        rw [show k + (j + 1) = k + 1 + j by omega]
        exact this
theorem firstN_hit {P : Nat → Bool} : ∀ {m k w : Nat}, firstN (fun j => if P j then some j else none) m k = some w → k ≤ w ∧ w < k + m ∧ P w = true
  | 0, k, w, h => by simp [firstN] at h
  | m + 1, k, w, h => by
    simp only [firstN] at h
    cases hp : P k with
    | true => rw [hp] at h; simp at h; subst h; exact ⟨by omega, by omega, hp⟩
    | false =>
      rw [hp] at h
      simp only [Bool.false_eq_true, if_false] at h
      have := firstN_hit h
      exact ⟨by omega, by omega, this.2.2⟩
theorem distL_get {A : Nat → Nat} {n a b : Nat} (hb : b < n) : (distL A n a).getD b 0 = match distO A n a b (n + 1) with | some k => (k : Int) | none => -1 := by
  unfold distL
  rw [List.getD_eq_getElem?_getD, List.getElem?_map, List.getElem?_range hb]; rfl
theorem distL_len (A : Nat → Nat) (n a : Nat) : (distL A n a).length = n := by simp [distL]
theorem distL_bnd {A : Nat → Nat} {n a b : Nat} (hb : b < n) : 0 ≤ (distL A n a).getD b 0 + 1 ∧ (distL A n a).getD b 0 ≤ n := by
  rw [distL_get hb]
  cases h : distO A n a b (n + 1) with
  | none => show (0 : Int) ≤ -1 + 1 ∧ (-1 : Int) ≤ n; omega
  | some k =>
    have := (firstN_hit h).2.1
    simp only
    omega
theorem dist_pot {n : Nat} {arcs : List (List Int)} (ho : okArcs n arcs) (hA : ∀ a, aftF arcs a < 2 ^ n) {a : Nat} (ha : a < n) (haa : rB (aftF arcs) n a a = true) : Pot n arcs a (distL (aftF arcs) n a) := by
  refine ⟨?_, fun b hb => ?_⟩
  · rw [distL_get ha]
    have : distO (aftF arcs) n a a (n + 1) = some 0 := by
      unfold distO
      simp only [firstN]
      have : (pwF (aftF arcs) n a 0).testBit a = true := (pw_iff hA ha 0 a).2 rfl
      rw [this]; rfl
    rw [this]; rfl
  · obtain ⟨h1, h2⟩ := rr_iff.1 hb
    have hbn := rB_lt hA ha h1
    rw [distL_get hbn]
    cases h : distO (aftF arcs) n a b (n + 1) with
    | none =>
      exfalso
      have hq := rB_q hA ha h1
      unfold qB at hq
      obtain ⟨k, hk, h3⟩ := List.any_eq_true.1 hq
      have := firstN_first (α := Nat) (n + 1) 0 h k (List.mem_range.1 hk)
      rw [Nat.zero_add, h3] at this
      cases this
    | some k =>
      have h3 := (firstN_hit h).2.2
      exact ⟨k, rfl, (walkIn ho hA ha haa ((pw_iff hA ha k b).1 h3) (rB_q hA hbn h2)).1⟩
theorem perA_gof (arcs : List (List Int)) (n a : Nat) : Gof (perA arcs n a) (vals (compI (aftF arcs) n a) (distL (aftF arcs) n a) arcs) := by
  have := gof_fold (vals (compI (aftF arcs) n a) (distL (aftF arcs) n a) arcs) [] 0 Gof.nil
  rw [List.nil_append] at this
  unfold perA
  exact this
/-! ### The labels of a component, specification -/
def doneB (A : Nat → Nat) (n a : Nat) : List Bool := rowB n (dnR A n a)
theorem labels_loop {n : Nat} (hn : n ≤ 60) {p : T_WalkProblem} (hp : p.Labels = n) {A : Nat → Nat} {a : Nat} (ha : a < n) : ∀ (d b fuel : Nat), b + d = n → d < fuel →
    loopF (fS_waParts_s2 p (matB n (rB A n)) (a : Int)) fuel (rowB n (fun c => dnR A n a c || (rr A n a c && decide (c < b))), (b : Int), ((List.range b).filter (rr A n a)).map fun c : Nat => (c : Int)) =
      some (.inl (rowB n (fun c => dnR A n a c || rr A n a c), (n : Int), compI A n a))
  | 0, b, fuel, hd, hf => by
    obtain ⟨fuel, rfl⟩ : ∃ k, fuel = k + 1 := ⟨fuel - 1, by omega⟩
    have hb : b = n := by omega
    subst hb
    have e : rowB b (fun c => dnR A b a c || (rr A b a c && decide (c < b))) = rowB b (fun c => dnR A b a c || rr A b a c) := by
      unfold rowB
      refine List.map_congr_left fun c hc => ?_
      have := List.mem_range.1 hc
      simp [this]
    rw [e]
    refine loopF_out ?_ fuel
    unfold fS_waParts_s2
    simp only
    rw [if_neg (by simp [hp])]
    rfl
  | d + 1, b, fuel, hd, hf => by
    obtain ⟨fuel, rfl⟩ : ∃ k, fuel = k + 1 := ⟨fuel - 1, by omega⟩
    have hb : b < n := by omega
    have hll : (((List.range b).filter (rr A n a)).map fun c : Nat => (c : Int)).length ≤ b := by
      rw [List.length_map]
      have := List.length_filter_le (rr A n a) (List.range b)
      simpa using this
    have hstep : fS_waParts_s2 p (matB n (rB A n)) (a : Int) (rowB n (fun c => dnR A n a c || (rr A n a c && decide (c < b))), (b : Int), ((List.range b).filter (rr A n a)).map fun c : Nat => (c : Int)) =
        some (.go (rowB n (fun c => dnR A n a c || (rr A n a c && decide (c < b + 1))), ((b + 1 : Nat) : Int), ((List.range (b + 1)).filter (rr A n a)).map fun c : Nat => (c : Int))) := by
      unfold fS_waParts_s2
      simp only
      rw [if_pos (by simp [hp]; omega), ix_matB ha, sb, ix_rowB hb, sb]
      have hno : rr A n a b = false → (rowB n (fun c => dnR A n a c || (rr A n a c && decide (c < b))) = rowB n (fun c => dnR A n a c || (rr A n a c && decide (c < b + 1)))) ∧ (List.range (b + 1)).filter (rr A n a) = (List.range b).filter (rr A n a) := fun h => by
        constructor
        · unfold rowB
          refine List.map_congr_left fun c hc => ?_
          by_cases e : c = b
          · subst e; simp [h]
          · have : decide (c < b) = decide (c < b + 1) := by
              by_cases q : c < b
              · have : c < b + 1 := by omega
                simp [q, this]
              · have : ¬ c < b + 1 := by omega
                simp [q, this]
            rw [this]
        · rw [List.range_succ, List.filter_append]
          simp [List.filter_cons, h]
      cases h1 : rB A n a b with
      | false =>
        have hr : rr A n a b = false := by unfold rr; rw [h1]; rfl
        obtain ⟨e1, e2⟩ := hno hr
        rw [if_neg (by decide), sb, if_neg (by decide), ck_in (by omega) (by omega), sb, e1, e2]; simp
      | true =>
        rw [if_pos rfl, ix_matB hb, sb, ix_rowB ha, sb, sb]
        cases h2 : rB A n b a with
        | false =>
          have hr : rr A n a b = false := by unfold rr; rw [h1, h2]; rfl
          obtain ⟨e1, e2⟩ := hno hr
          rw [if_neg (by decide), ck_in (by omega) (by omega), sb, e1, e2]; simp
        | true =>
          have hr : rr A n a b = true := rr_iff.2 ⟨h1, h2⟩
          rw [if_pos rfl]
          unfold push
          rw [if_pos (by omega), sb, ix_rowB hb, sb, st_nat _ _ _ (by rw [rowB_len]; exact hb), sb, ck_in (by omega) (by omega), sb, rowB_set hb]
          have e1 : (rowB n fun c => if c = b then true else (dnR A n a c || (rr A n a c && decide (c < b)))) = rowB n (fun c => dnR A n a c || (rr A n a c && decide (c < b + 1))) := by
            unfold rowB
            refine List.map_congr_left fun c hc => ?_
            by_cases e : c = b
            · subst e; simp [hr]
            · rw [if_neg e]
              have : decide (c < b) = decide (c < b + 1) := by
                by_cases q : c < b
                · have : c < b + 1 := by omega
                  simp [q, this]
                · have : ¬ c < b + 1 := by omega
                  simp [q, this]
              rw [this]
          have e2 : (List.range (b + 1)).filter (rr A n a) = (List.range b).filter (rr A n a) ++ [b] := by
            rw [List.range_succ, List.filter_append]
            simp [List.filter_cons, hr]
          rw [e1, e2]
          simp
    rw [loopF_go hstep]
    exact labels_loop hn hp ha d (b + 1) fuel (by omega) (by omega)
theorem res_loop {d : List Int} {n : Nat} {y : Int} (hd : d.length = n) (hy : y ≠ 0) : ∀ (xs : List Int) (i : Int) (s : List Int), (∀ x, x ∈ xs → 0 ≤ x ∧ x < n) → s.length + xs.length ≤ 1000 → ∃ s', forI (fS_waParts_s4 d y) xs i s = some (.inl s')
  | [], i, s, _, _ => ⟨s, rfl⟩
  | x :: xs, i, s, hx, hl => by
    have h1 := hx x (by simp)
    have hg : ix d x = some (d.getD x.toNat 0) := by
      have := ixg (f := d) (i := x.toNat) (by omega)
      rw [Int.toNat_of_nonneg h1.1] at this
      exact this
    have hs : fS_waParts_s4 d y i x s = some (.go (s ++ [(d.getD x.toNat 0).tmod y])) := by
      unfold fS_waParts_s4 rem push
      rw [hg, sb, if_neg hy, sb, if_pos (by simp at hl; omega), sb]
    simp only [forI, hs]
    exact res_loop hd hy xs (i + 1) _ (fun z hz => hx z (by simp [hz])) (by simp at hl ⊢; omega)
/-! ### The list -/
def leads (A : Nat → Nat) (n a : Nat) : List Nat := (List.range a).filter (lead A n)
def okParts (arcs : List (List Int)) (n a : Nat) (out : List T_waPart) : Prop := out.map (fun x => (x.labels, x.period)) = (leads (aftF arcs) n a).map fun c => (compI (aftF arcs) n c, perA arcs n c)
theorem leads_len (A : Nat → Nat) (n a : Nat) : (leads A n a).length ≤ a := by
  have := List.length_filter_le (lead A n) (List.range a)
  simpa [leads] using this
theorem okParts_len {arcs : List (List Int)} {n a : Nat} {out : List T_waPart} (h : okParts arcs n a out) : out.length ≤ a := by
  have e := congrArg List.length h
  simp only [List.length_map] at e
  have := leads_len (aftF arcs) n a
  omega
theorem compI_len (A : Nat → Nat) (n a : Nat) : (compI A n a).length ≤ n := by
  unfold compI comp
  rw [List.length_map]
  have := List.length_filter_le (rr A n a) (List.range n)
  simpa using this
theorem parts_step (n fuel : Nat) {p : T_WalkProblem} (hp : p.Labels = n) (hn : n ≤ 60) (ho : okArcs n p.Arcs) (hA : ∀ a, aftF p.Arcs a < 2 ^ n) (hf : n + 2 < fuel) {a : Nat} (ha : a < n) {out : List T_waPart} (hout : okParts p.Arcs n a out) :
    ∃ out', fS_waParts_s1 fuel p (matB n (rB (aftF p.Arcs) n)) (out, doneB (aftF p.Arcs) n a, (a : Int)) = some (.go (out', doneB (aftF p.Arcs) n (a + 1), ((a + 1 : Nat) : Int))) ∧ okParts p.Arcs n (a + 1) out' := by
  unfold fS_waParts_s1
  simp only
  rw [if_pos (by simp [hp]; omega)]
  unfold doneB
  rw [ix_rowB ha, sb]
  have hskip : lead (aftF p.Arcs) n a = false → (∃ out', (ck ((a : Int) + 1) >>= fun x75 => some (Lp.go (σ := (List T_waPart) × (List Bool) × Int) (τ := (List T_waPart) × (List Bool) × Int) (ρ := List T_waPart) (out, rowB n (dnR (aftF p.Arcs) n a), x75))) = some (.go (out', rowB n (dnR (aftF p.Arcs) n (a + 1)), ((a + 1 : Nat) : Int))) ∧ okParts p.Arcs n (a + 1) out') := fun hl => by
    refine ⟨out, ?_, ?_⟩
    · rw [ck_in (by omega) (by omega), sb]
      have : rowB n (dnR (aftF p.Arcs) n (a + 1)) = rowB n (dnR (aftF p.Arcs) n a) := by
        unfold rowB
        exact List.map_congr_left fun c _ => dnR_skip hA ha hl
      rw [this]; simp
    · unfold okParts leads at hout ⊢
      rw [List.range_succ, List.filter_append]
      simp [List.filter_cons, hl, hout]
  cases h1 : dnR (aftF p.Arcs) n a a with
  | true =>
    rw [if_pos rfl, sb, if_pos rfl]
    exact hskip (by unfold lead; rw [h1]; rfl)
  | false =>
    rw [if_neg (by decide), ix_matB ha, sb, ix_rowB ha, sb, sb]
    cases h2 : rB (aftF p.Arcs) n a a with
    | false =>
      rw [if_pos (by rfl)]
      exact hskip (by unfold lead; rw [h1, h2]; rfl)
    | true =>
      have hl : lead (aftF p.Arcs) n a = true := lead_iff.2 ⟨h1, h2⟩
      have hlab := labels_loop hn hp (A := aftF p.Arcs) ha n 0 fuel (by omega) (by omega)
      have e0 : rowB n (fun c => dnR (aftF p.Arcs) n a c || (rr (aftF p.Arcs) n a c && decide (c < 0))) = rowB n (dnR (aftF p.Arcs) n a) := by
        unfold rowB
        exact List.map_congr_left fun c _ => by simp
      rw [e0, show ((0 : Nat) : Int) = 0 from rfl, show ((List.range 0).filter (rr (aftF p.Arcs) n a)).map (fun c : Nat => (c : Int)) = [] from rfl] at hlab
      rw [if_neg (by decide), hlab, sb]
      simp only
      have hC : ∀ b : Nat, (b : Int) ∈ compI (aftF p.Arcs) n a ↔ CC p.Arcs n a b := fun b => compI_mem hA ha b
      obtain ⟨d, d1, d2, d3, d4⟩ := e_waDepths n fuel hp hn ho hA (by omega) ha hC (compI_head ha hl)
      have hdneg : ∀ b, b < n → 0 ≤ d.getD b 0 + 1 ∧ d.getD b 0 ≤ n := fun b hb => d4 b hb
      have hval : ∀ z : List Int, (∃ a b : Nat, z = [(a : Int), (b : Int)] ∧ a < n ∧ b < n) → 0 ≤ absV (restV d (z.getD 0 0).toNat (z.getD 1 0).toNat) ∧ absV (restV d (z.getD 0 0).toNat (z.getD 1 0).toNat) ≤ 1000 := by
        rintro z ⟨x, y, rfl, hx, hy⟩
        have b1 := hdneg x hx
        have b2 := hdneg y hy
        have e1 : ([(x : Int), (y : Int)].getD 0 0).toNat = x := rfl
        have e2 : ([(x : Int), (y : Int)].getD 1 0).toNat = y := rfl
        rw [e1, e2]
        unfold absV restV
        omega
      obtain ⟨g, g1, g2, g3⟩ := per_fold (n := n) (Cl := compI (aftF p.Arcs) n a) (d := d) (fS_waParts_s3 (compI (aftF p.Arcs) n a) d) (fun z i g hz h0 h1 => perS_step hn d2 hdneg hz i g h0 h1) hval p.Arcs 0 0 [] ho Gof.nil (by omega)
      rw [List.nil_append] at g2
      have hg : g = perA p.Arcs n a := per_uniq ho hC d3 (dist_pot ho hA ha h2) g2 (perA_gof _ _ _)
      have hg0 := per_pos ho hA ha h2 hC d3 g2
      rw [d1, sb, g1, sb]
      simp only
      obtain ⟨ys, hys⟩ := res_loop (n := n) d2 hg0 (compI (aftF p.Arcs) n a) 0 [] (fun x hx => by
        unfold compI comp at hx
        obtain ⟨c, hc, rfl⟩ := List.mem_map.1 hx
        have := List.mem_range.1 (List.mem_filter.1 hc).1
        omega) (by have := compI_len (aftF p.Arcs) n a; simp; omega)
      have hol := okParts_len hout
      rw [hys, sb]
      simp only
      unfold push
      rw [if_pos (by omega), sb, ck_in (by omega) (by omega), sb]
      refine ⟨out ++ [⟨compI (aftF p.Arcs) n a, g, ys⟩], ?_, ?_⟩
      · have : rowB n (dnR (aftF p.Arcs) n (a + 1)) = rowB n (fun c => dnR (aftF p.Arcs) n a c || rr (aftF p.Arcs) n a c) := by
          unfold rowB
          exact List.map_congr_left fun c _ => dnR_take
        rw [this]; simp
      · unfold okParts leads at hout ⊢
        rw [List.range_succ, List.filter_append]
        simp [List.filter_cons, hl, hout, hg]
theorem parts_loop (n fuel0 : Nat) {p : T_WalkProblem} (hp : p.Labels = n) (hn : n ≤ 60) (ho : okArcs n p.Arcs) (hA : ∀ a, aftF p.Arcs a < 2 ^ n) (hf0 : n + 2 < fuel0) : ∀ (d a fuel : Nat) (out : List T_waPart), a + d = n → d < fuel → okParts p.Arcs n a out →
    ∃ out' dn x, loopF (fS_waParts_s1 fuel0 p (matB n (rB (aftF p.Arcs) n))) fuel (out, doneB (aftF p.Arcs) n a, (a : Int)) = some (.inl (out', dn, x)) ∧ okParts p.Arcs n n out'
  | 0, a, fuel, out, hd, hf, h => by
    obtain ⟨fuel, rfl⟩ : ∃ k, fuel = k + 1 := ⟨fuel - 1, by omega⟩
    have : a = n := by omega
    subst this
    exact ⟨out, _, _, loopF_out (by unfold fS_waParts_s1; simp only; rw [if_neg (by simp [hp])]) fuel, h⟩
  | d + 1, a, fuel, out, hd, hf, h => by
    obtain ⟨fuel, rfl⟩ : ∃ k, fuel = k + 1 := ⟨fuel - 1, by omega⟩
    obtain ⟨out1, h1, h2⟩ := parts_step n fuel0 hp hn ho hA hf0 (show a < n by omega) h
    rw [loopF_go h1]
    exact parts_loop n fuel0 hp hn ho hA hf0 d (a + 1) fuel out1 (by omega) (by omega) h2
theorem e_waParts (n fuel : Nat) {p : T_WalkProblem} (hp : p.Labels = n) (hn : n ≤ 60) (ho : okArcs n p.Arcs) (hA : ∀ a, aftF p.Arcs a < 2 ^ n) (hf : 2 * n + 2 < fuel) : ∃ out, fS_waParts fuel p = some out ∧ okParts p.Arcs n n out := by
  unfold fS_waParts mk
  rw [e_waReach n fuel p hp hn ho hf, sb, hp, if_pos (by omega), sb, Int.toNat_natCast]
  have e0 : List.replicate n (Rz.z : Bool) = doneB (aftF p.Arcs) n 0 := by
    unfold doneB rowB
    refine List.ext_getElem (by simp) fun i h1 h2 => ?_
    simp [dnR]
    rfl
  rw [e0]
  obtain ⟨out, dn, x, h1, h2⟩ := parts_loop n fuel hp hn ho hA (by omega) n 0 fuel [] (by omega) (by omega) rfl
  rw [show ((0 : Nat) : Int) = 0 from rfl] at h1
  exact ⟨out, by rw [h1, sb], h2⟩
end Go.Proofs.Ytffgdhbhlcifmaa
