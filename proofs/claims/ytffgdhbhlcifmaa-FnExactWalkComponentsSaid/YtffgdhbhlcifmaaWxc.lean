/- WalkComponents: rows and a list among the results; the answer, as the laws call it. -/
import Derived.Test.YtffgdhbhlcifmaaRng
import Derived.Test.YtffgdhbhlcifmaaWxa
import Derived.Test.YtffgdhbhlcifmaaPi
import Derived.Test.YtffgdhbhlcifmaaGWb
import Derived.Test.YtffgdhbhlcifmaaGWc
import Derived.Test.YtffgdhbhlcifmaaGWd
import Derived.Test.YtffgdhbhlcifmaaLo
import Derived.Test.YtffgdhbhlcifmaaAd
import Derived.Test.YtffgdhbhlcifmaaWp
import Derived.Test.YtffgdhbhlcifmaaGWe
namespace Go.Proofs.Ytffgdhbhlcifmaa
set_option linter.unusedSimpArgs false
set_option linter.unusedVariables false

open Go.RowKit
theorem szIntSS_kp (v : Value) (LL : List (List Int)) (left : Int) (w : World) (h : IntRows w v LL) (h0 : 0 ≤ left) (h1 : left ≤ 1048576) :
    Calls Try.prog 36 #[v, .int .i64 left] w fun e w' => e = .returned (.int .i64 (szL left (tot LL))) ∧ Keeps w w' :=
  (szIntSS_any v LL left w h h0 h1).mono fun e w' ⟨he, hw⟩ => ⟨he, hw ▸ Keeps.refl _⟩
theorem heldIntSS_kp (v : Value) (LL : List (List Int)) (k : Int) (w : World) (h : IntRows w v (numbered k LL LL.length)) (hk : 0 ≤ k) (hk2 : k + tot LL ≤ 4611686018427387904) :
    Calls Try.prog 19 #[v, .int .i64 k] w fun e w' => e = .returned (.int .i64 (k + off LL LL.length)) ∧ Keeps w w' :=
  (heldIntSS_any v LL k w h hk hk2).mono fun e w' ⟨he, hw⟩ => ⟨he, hw ▸ Keeps.refl _⟩
theorem off_tot (LL : List (List Int)) : off LL LL.length ≤ tot LL := by unfold tot; omega
/-- The call returns a new list of lists and whether there is one. -/
def RetM (w0 : World) (r : Option (List (List Int))) (e : Ending) (w' : World) : Prop :=
  ∃ v, e = .returned (.tuple #[v, .bool r.isSome]) ∧ OwM w0.heap.size w'.heap.size w' v (r.getD []) ∧ tot (r.getD []) ≤ 1000000000 ∧ Keeps w0 w'
/-! ### Masks -/
theorem tst_nat {S a : Nat} (hS : S < 2 ^ 62) (ha : a ≤ 62) : (shr (S : Int) (a : Int) >>= fun x => some (band x 1 == 1)) = some (S.testBit a) := by
  have h1 : S / 2 ^ a < 2 ^ 62 := Nat.lt_of_le_of_lt (Nat.div_le_self _ _) hS
  rw [shr_nat ha, sb, show (1 : Int) = ((1 : Nat) : Int) from rfl, band_nat h1 (by decide), Nat.and_one_is_mod]
  congr 1
  rw [Bool.eq_iff_iff, beq_iff_eq, Nat.testBit_eq_decide_div_mod_eq, decide_eq_true_eq]
  omega
theorem tst_eq {S a : Nat} (hS : S < 2 ^ 62) (ha : a ≤ 62) : ∃ x, shr (S : Int) (a : Int) = some x ∧ (band x 1 == 1) = S.testBit a := by
  have h1 : S / 2 ^ a < 2 ^ 62 := Nat.lt_of_le_of_lt (Nat.div_le_self _ _) hS
  refine ⟨_, shr_nat ha, ?_⟩
  have := tst_nat hS ha
  rw [shr_nat ha, sb] at this
  exact Option.some.inj this
def qmask (A : Nat → Nat) (n a : Nat) : Nat → Nat
  | 0 => 0
  | m + 1 => qmask A n a m ||| pwF A n a m
theorem qmask_test (A : Nat → Nat) (n a b : Nat) : ∀ m, (qmask A n a m).testBit b = (List.range m).any fun k => (pwF A n a k).testBit b
  | 0 => by simp [qmask]
  | m + 1 => by
    rw [qmask, Nat.testBit_or, qmask_test A n a b m, List.range_succ, List.any_append]
    simp
theorem qmask_lt {A : Nat → Nat} {n a : Nat} (hA : ∀ a, A a < 2 ^ n) (ha : a < n) : ∀ m, qmask A n a m < 2 ^ n
  | 0 => Nat.two_pow_pos n
  | m + 1 => Nat.or_lt_two_pow (qmask_lt hA ha m) (pwF_lt hA ha m)
theorem lt62 {n S : Nat} (hn : n ≤ 60) (h : S < 2 ^ n) : S < 2 ^ 62 := Nat.lt_of_lt_of_le h (Nat.pow_le_pow_right (by decide) (by omega))
def qM (A : Nat → Nat) (n a : Nat) : Nat := qmask A n a (n + 1)
theorem qM_test (A : Nat → Nat) (n a b : Nat) : (qM A n a).testBit b = qB A n a b := qmask_test A n a b (n + 1)
theorem closure_row (n j : Nat) (hn : n ≤ 60) {A : Nat → Nat} (hA : ∀ a, A a < 2 ^ n) (hj : j < n) (f : Nat → Nat) (hf0 : f j = 0) : forI (fI_WalkProblem_closure_s2 (j : Int)) ((List.range (n + 1)).map fun k => ((pwF A n j k : Nat) : Int)) 0 ((List.range n).map fun a => ((f a : Nat) : Int)) =
    some (.inl ((List.range n).map fun a => (((if a = j then qM A n j else f a) : Nat) : Int))) := by
  have := forI_inv0 (ρ := List Int) (body := fI_WalkProblem_closure_s2 (j : Int)) (fun m => (List.range n).map fun a => (((if a = j then qmask A n j m else f a) : Nat) : Int)) ((List.range (n + 1)).map fun k => ((pwF A n j k : Nat) : Int)) (fun m x hx => by
    have hm := (List.getElem?_eq_some_iff.1 hx).1
    simp only [List.length_map, List.length_range] at hm
    rw [List.getElem?_map, List.getElem?_range hm] at hx
    obtain rfl : ((pwF A n j m : Nat) : Int) = x := by simpa using hx
    have hg : ix ((List.range n).map fun a => (((if a = j then qmask A n j m else f a) : Nat) : Int)) (j : Int) = some ((qmask A n j m : Nat) : Int) := by
      rw [ix_nat, List.getElem?_map, List.getElem?_range hj]; simp
    unfold fI_WalkProblem_closure_s2
    rw [hg, sb, sb, bor_nat (lt62 hn (qmask_lt hA hj m)) (lt62 hn (pwF_lt hA hj m)), st_nat _ _ _ (by simpa using hj), sb]
    congr 2
    refine List.ext_getElem (by simp) fun i h1 h2 => ?_
    simp only [List.getElem_set, List.getElem_map, List.getElem_range]
    by_cases e : j = i
    · subst e; simp [qmask]
    · have e' : ¬ i = j := fun q => e q.symm
      rw [if_neg e, if_neg e', if_neg e'])
  simp only [List.length_map, List.length_range] at this
  have e0 : ((List.range n).map fun a => (((if a = j then qmask A n j 0 else f a) : Nat) : Int)) = (List.range n).map fun a => ((f a : Nat) : Int) := by
    refine List.map_congr_left fun a _ => ?_
    by_cases e : a = j
    · subst e; simp [qmask, hf0]
    · rw [if_neg e]
  rw [e0] at this
  exact this
theorem e_closure (n fuel : Nat) {p : T_WalkProblem} (hp : p.Labels = n) (hn : n ≤ 60) (ho : okArcs n p.Arcs) (hA : ∀ a, aftF p.Arcs a < 2 ^ n) (hf : n < fuel) : fI_WalkProblem_closure fuel p = some ((List.range n).map fun a => ((qM (aftF p.Arcs) n a : Nat) : Int)) := by
  unfold fI_WalkProblem_closure mk
  rw [hp, if_pos (by omega), sb, Int.toNat_natCast, List.length_replicate, ck_in (by omega) (by omega), sb, Int.toNat_natCast, show (Rz.z : Int) = 0 from rfl]
  have := forN_inv0 (ρ := List Int) (body := fI_WalkProblem_closure_s1 fuel p) (fun j => (List.range n).map fun a => (((if a < j then qM (aftF p.Arcs) n a else 0) : Nat) : Int)) n (fun j hj => by
    unfold fI_WalkProblem_closure_s1
    rw [hp, e_reached n j n fuel p hp hn ho hj (by omega) hf, sb, closure_row n j hn hA hj (fun a => if a < j then qM (aftF p.Arcs) n a else 0) (by simp), sb]
    simp only
    congr 2
    refine List.map_congr_left fun a _ => ?_
    by_cases e : a = j
    · subst e; simp
    · rw [if_neg e]
      by_cases q : a < j
      · rw [if_pos q, if_pos (by omega)]
      · rw [if_neg q, if_neg (by omega)])
  have e0 : ((List.range n).map fun a => (((if a < 0 then qM (aftF p.Arcs) n a else 0) : Nat) : Int)) = List.replicate n 0 := by
    refine List.ext_getElem (by simp) fun i h1 h2 => ?_
    simp
  have e1 : ((List.range n).map fun a => (((if a < n then qM (aftF p.Arcs) n a else 0) : Nat) : Int)) = (List.range n).map fun a => ((qM (aftF p.Arcs) n a : Nat) : Int) := by
    refine List.map_congr_left fun a ha => ?_
    rw [if_pos (List.mem_range.1 ha)]
  rw [e0, e1] at this
  rw [this, sb]
/-! ### Distances -/
def distK (A : Nat → Nat) (n a k : Nat) : List Int := (List.range n).map fun b => match distO A n a b k with | some j => (j : Int) | none => -1
theorem firstN_snoc {P : Nat → Bool} : ∀ (m k : Nat), firstN (fun j => if P j then some j else none) (m + 1) k = match firstN (fun j => if P j then some j else none) m k with | some j => some j | none => if P (k + m) then some (k + m) else none
  | 0, k => by
    simp only [firstN, Nat.add_zero]
    cases P k <;> simp
  | m + 1, k => by
    have ih := firstN_snoc (P := P) m (k + 1)
    rw [show k + 1 + m = k + (m + 1) by omega] at ih
    cases hp : P k with
    | true => simp [firstN, hp]
    | false =>
      simp only [firstN, hp, Bool.false_eq_true, if_false] at ih ⊢
      exact ih
def putD (k : Int) (cur : List Int) (x : Int) : List Int := if cur.getD x.toNat 0 < 0 then cur.set x.toNat k else cur
theorem putD_len (k : Int) (cur : List Int) (x : Int) : (putD k cur x).length = cur.length := by unfold putD; split <;> simp
theorem putD_fold (k : Int) (S n : Nat) (cur : List Int) (hc : cur.length = n) : ∀ j, j ≤ n → ((lbs j S).foldl (putD k) cur) = (List.range n).map fun b => if b < j ∧ S.testBit b = true ∧ cur.getD b 0 < 0 then k else cur.getD b 0
  | 0, _ => by
    refine List.ext_getElem (by simp [lbs, hc]) fun i h1 h2 => ?_
    have hi : i < cur.length := by simpa [lbs] using h1
    simp [lbs, hi]
  | j + 1, hj => by
    have ih := putD_fold k S n cur hc j (by omega)
    rw [lbs_succ]
    have hpt : ∀ b, b < n → ((List.range n).map fun b => if b < j ∧ S.testBit b = true ∧ cur.getD b 0 < 0 then k else cur.getD b 0).getD b 0 = if b < j ∧ S.testBit b = true ∧ cur.getD b 0 < 0 then k else cur.getD b 0 := fun b hb => by
      rw [List.getD_eq_getElem?_getD, List.getElem?_map, List.getElem?_range hb]; rfl
    cases hs : S.testBit j with
    | false =>
      rw [if_neg (by decide), ih]
      refine List.map_congr_left fun b hb => ?_
      by_cases e : b = j
      · subst e; simp [hs]
      · by_cases q : b < j
        · have : b < j + 1 := by omega
          simp only [q, this]
        · have : ¬ b < j + 1 := by omega
          simp only [q, this]
    | true =>
      rw [if_pos rfl, List.foldl_append, ih]
      simp only [List.foldl_cons, List.foldl_nil]
      unfold putD
      rw [Int.toNat_natCast, hpt j (by omega), if_neg (show ¬ (j < j ∧ S.testBit j = true ∧ cur.getD j 0 < 0) by omega)]
      by_cases hneg : cur.getD j 0 < 0
      · rw [if_pos hneg]
        refine List.ext_getElem (by simp) fun i h1 h2 => ?_
        have hi : i < n := by simpa using h2
        simp only [List.getElem_set, List.getElem_map, List.getElem_range]
        by_cases e : j = i
        · subst e; rw [if_pos rfl, if_pos ⟨by omega, hs, hneg⟩]
        · rw [if_neg e]
          by_cases q : i < j
          · have : i < j + 1 := by omega
            simp only [q, this]
          · have : ¬ i < j + 1 := by omega
            simp only [q, this]
      · rw [if_neg hneg]
        refine List.map_congr_left fun b hb => ?_
        by_cases e : b = j
        · subst e
          rw [if_neg (by omega), if_neg (fun q => hneg q.2.2)]
        · by_cases q : b < j
          · have : b < j + 1 := by omega
            simp only [q, this]
          · have : ¬ b < j + 1 := by omega
            simp only [q, this]
theorem dist_step (n k fuel : Nat) (hn : n ≤ 60) {A : Nat → Nat} (hA : ∀ a, A a < 2 ^ n) {a : Nat} (ha : a < n) (hf : n < fuel) : fI_WalkProblem_distancesIn_s1 fuel (k : Int) ((pwF A n a k : Nat) : Int) (distK A n a k) = some (.go (distK A n a (k + 1))) := by
  unfold fI_WalkProblem_distancesIn_s1
  rw [e_labelsIn n _ fuel (pwF_lt hA ha k) (by omega) hf, sb]
  have hl : (distK A n a k).length = n := by simp [distK]
  have := (forI_foldp (ρ := List Int) (body := fI_WalkProblem_distancesIn_s2 (k : Int)) (putD (k : Int)) id (fun s => s.length = n) (lbs n (pwF A n a k)) 0 (distK A n a k) hl fun i x s hx hs => by
    obtain ⟨y, rfl, hy, _⟩ := mem_lbs.1 hx
    refine ⟨?_, by rw [putD_len]; exact hs⟩
    unfold fI_WalkProblem_distancesIn_s2 putD
    simp only [id_eq]
    rw [ixg (by omega), sb, Int.toNat_natCast]
    by_cases q : s.getD y 0 < 0
    · rw [if_pos (by simpa using q), sb, st_nat _ _ _ (by omega), sb, if_pos q]
    · rw [if_neg (by simpa using q), if_neg q]).1
  simp only [id_eq] at this
  rw [this, sb]
  simp only
  congr 2
  rw [putD_fold (k : Int) (pwF A n a k) n (distK A n a k) hl n (Nat.le_refl _)]
  unfold distK
  refine List.map_congr_left fun b hb => ?_
  have hbn := List.mem_range.1 hb
  have hg : ((List.range n).map fun b => match distO A n a b k with | some j => (j : Int) | none => -1).getD b 0 = match distO A n a b k with | some j => (j : Int) | none => -1 := by
    rw [List.getD_eq_getElem?_getD, List.getElem?_map, List.getElem?_range hbn]; rfl
  rw [hg]
  have hs : distO A n a b (k + 1) = match distO A n a b k with | some j => some j | none => if (pwF A n a k).testBit b then some k else none := by
    unfold distO
    have := firstN_snoc (P := fun j => (pwF A n a j).testBit b) k 0
    rw [Nat.zero_add] at this
    exact this
  rw [hs]
  cases distO A n a b k with
  | some j =>
    simp only
    rw [if_neg (by omega)]
  | none =>
    simp only
    cases h : (pwF A n a k).testBit b
    · rw [if_neg (by simp)]; rfl
    · rw [if_pos ⟨hbn, rfl, by decide⟩]; rfl
theorem e_distancesIn (n fuel : Nat) {p : T_WalkProblem} (hp : p.Labels = n) (hn : n ≤ 60) (ho : okArcs n p.Arcs) (hA : ∀ a, aftF p.Arcs a < 2 ^ n) {a : Nat} (ha : a < n) (hf : n < fuel) : fI_WalkProblem_distancesIn fuel p (a : Int) = some (distL (aftF p.Arcs) n a) := by
  unfold fI_WalkProblem_distancesIn repO
  simp only
  rw [hp, if_pos (by omega), sb, e_reached n a n fuel p hp hn ho ha (by omega) hf, sb, Int.toNat_natCast]
  have := forI_inv0 (ρ := List Int) (body := fI_WalkProblem_distancesIn_s1 fuel) (distK (aftF p.Arcs) n a) ((List.range (n + 1)).map fun j => ((pwF (aftF p.Arcs) n a j : Nat) : Int)) (fun k x hx => by
    have hk := (List.getElem?_eq_some_iff.1 hx).1
    simp only [List.length_map, List.length_range] at hk
    rw [List.getElem?_map, List.getElem?_range hk] at hx
    obtain rfl : ((pwF (aftF p.Arcs) n a k : Nat) : Int) = x := by simpa using hx
    exact dist_step n k fuel hn hA ha hf)
  simp only [List.length_map, List.length_range] at this
  have e0 : distK (aftF p.Arcs) n a 0 = List.replicate n (-1) := by
    refine List.ext_getElem (by simp [distK]) fun i h1 h2 => ?_
    simp [distK, distO, firstN]
  rw [e0] at this
  rw [this, sb]
  rfl
/-! ### The period -/
theorem e_Index (xs : List Int) (a : Int) (hl : xs.length ≤ 1000000) : ∃ r, fX_slices_Index_int_int xs a = some r ∧ (0 ≤ r ↔ a ∈ xs) := by
  unfold fX_slices_Index_int_int
  rw [ck_in (by omega) (by omega), sb, Int.toNat_natCast]
  rw [forN_first0 (fun k x => if a = x then some (k : Int) else none) xs (fun j x hj _ => by
    unfold fX_slices_Index_int_int_s1
    rw [ix_nat, hj, sb]
    by_cases e : a = x
    · rw [if_pos (by simp [e]), if_pos e]; rfl
    · rw [if_neg (by simpa using e), if_neg e]; rfl), sb]
  cases h : firstP (fun k x => if a = x then some (k : Int) else none) xs 0 with
  | none =>
    refine ⟨-1, rfl, ⟨fun h => by omega, fun hm => ?_⟩⟩
    obtain ⟨j, hj⟩ := List.mem_iff_getElem?.1 hm
    have := firstP_none.1 h j a hj
    simp at this
  | some r =>
    obtain ⟨j, x, h1, h2⟩ := firstP_some h
    split at h2
    · rename_i e
      cases h2
      subst e
      exact ⟨_, rfl, ⟨fun _ => List.mem_of_getElem? h1, fun _ => by omega⟩⟩
    · cases h2
theorem e_Contains (xs : List Int) (a : Int) (hl : xs.length ≤ 1000000) : fX_slices_Contains_int_int xs a = some (decide (a ∈ xs)) := by
  obtain ⟨r, h1, h2⟩ := e_Index xs a hl
  unfold fX_slices_Contains_int_int
  rw [h1, sb]
  congr 1
  rw [decide_eq_decide]
  exact h2
theorem perI_step {n : Nat} (hn : n ≤ 60) {Cl d : List Int} (hcl : Cl.length ≤ 1000) (hd : d.length = n) (hb : ∀ b, b < n → 0 ≤ d.getD b 0 + 1 ∧ d.getD b 0 ≤ n) {z : List Int} (hz : ∃ a b : Nat, z = [(a : Int), (b : Int)] ∧ a < n ∧ b < n) (i g : Int) (hg0 : 0 ≤ g) (hg1 : g ≤ 1000) :
    fI_WalkProblem_periodOf_s1 Cl d i z g = some (.go (if inC Cl z then (Int.gcd g (absV (restV d (z.getD 0 0).toNat (z.getD 1 0).toNat)) : Int) else g)) := by
  obtain ⟨x, y, rfl, hx, hy⟩ := hz
  have bx := hb x hx
  have by' := hb y hy
  unfold fI_WalkProblem_periodOf_s1
  rw [show ix [(x : Int), (y : Int)] 0 = some (x : Int) from rfl, sb, e_Contains Cl _ (by omega), sb]
  have hin : inC Cl [(x : Int), (y : Int)] = (decide ((x : Int) ∈ Cl) && decide ((y : Int) ∈ Cl)) := rfl
  rw [hin]
  cases h1 : decide ((x : Int) ∈ Cl) with
  | false => rw [if_neg (by decide), sb, if_neg (by decide)]; simp
  | true =>
    rw [if_pos rfl, show ix [(x : Int), (y : Int)] 1 = some (y : Int) from rfl, sb, e_Contains Cl _ (by omega), sb, sb]
    cases h2 : decide ((y : Int) ∈ Cl) with
    | false => rw [if_neg (by decide)]; simp
    | true =>
      have e1 : ([(x : Int), (y : Int)].getD 0 0).toNat = x := rfl
      have e2 : ([(x : Int), (y : Int)].getD 1 0).toNat = y := rfl
      have hv : 0 ≤ absV (restV d x y) ∧ absV (restV d x y) ≤ 1000 := by unfold absV restV; omega
      rw [if_pos rfl, sb, ixg (by omega), sb, ck_in (by omega) (by omega), sb, sb, ixg (by omega), sb, ck_in (by omega) (by omega), sb, ck_in (by omega) (by omega), sb]
      have hab : max (d.getD x 0 + 1 - d.getD y 0) (-(d.getD x 0 + 1 - d.getD y 0)) = absV (restV d x y) := rfl
      rw [hab]
      unfold fI_gcd
      rw [if_pos (by simp; omega), sb, e1, e2]
      unfold gcdL
      simp only [List.foldl_cons, List.foldl_nil, Nat.gcd_zero_left, Bool.and_self, if_true]
      rw [gcd_int hg0 hv.1]
theorem gof_same {g1 g2 : Int} {v : List Int} (h1 : Gof g1 v) (h2 : Gof g2 v) : g1 = g2 := h1.uniq h2 h1.dvd h2.dvd
theorem e_periodOf (n fuel : Nat) {p : T_WalkProblem} (hp : p.Labels = n) (hn : n ≤ 60) (ho : okArcs n p.Arcs) (hA : ∀ a, aftF p.Arcs a < 2 ^ n) {a : Nat} (ha : a < n) (hl : lead (aftF p.Arcs) n a = true) (hf : n < fuel) : fI_WalkProblem_periodOf fuel p (compI (aftF p.Arcs) n a) = some (perA p.Arcs n a) := by
  unfold fI_WalkProblem_periodOf
  have hcl := compI_len (aftF p.Arcs) n a
  rw [show (0 : Int) = ((0 : Nat) : Int) from rfl, ix_nat, compI_head ha hl, sb, e_distancesIn n fuel hp hn ho hA ha hf, sb]
  have hd := distL_len (aftF p.Arcs) n a
  have hb : ∀ b, b < n → 0 ≤ (distL (aftF p.Arcs) n a).getD b 0 + 1 ∧ (distL (aftF p.Arcs) n a).getD b 0 ≤ n := fun b hb => distL_bnd hb
  have hval : ∀ z : List Int, (∃ x b : Nat, z = [(x : Int), (b : Int)] ∧ x < n ∧ b < n) → 0 ≤ absV (restV (distL (aftF p.Arcs) n a) (z.getD 0 0).toNat (z.getD 1 0).toNat) ∧ absV (restV (distL (aftF p.Arcs) n a) (z.getD 0 0).toNat (z.getD 1 0).toNat) ≤ 1000 := by
    rintro z ⟨x, y, rfl, hx, hy⟩
    have b1 := hb x hx
    have b2 := hb y hy
    have e1 : ([(x : Int), (y : Int)].getD 0 0).toNat = x := rfl
    have e2 : ([(x : Int), (y : Int)].getD 1 0).toNat = y := rfl
    rw [e1, e2]
    unfold absV restV
    omega
  obtain ⟨g, g1, g2, _⟩ := per_fold (n := n) (Cl := compI (aftF p.Arcs) n a) (d := distL (aftF p.Arcs) n a) (fI_WalkProblem_periodOf_s1 (compI (aftF p.Arcs) n a) (distL (aftF p.Arcs) n a)) (fun z i g hz h0 h1 => perI_step hn (by omega) hd hb hz i g h0 h1) hval p.Arcs 0 0 [] ho Gof.nil (by omega)
  rw [List.nil_append] at g2
  rw [show ((0 : Nat) : Int) = 0 from rfl, g1, sb]
  simp only
  rw [gof_same g2 (perA_gof p.Arcs n a)]
/-! ### Sets -/
def setN (xs : List Int) : Nat := xs.foldl (fun s x => s ||| 2 ^ x.toNat) 0
theorem setN_fold : ∀ (xs : List Int) (s b : Nat), (∀ x, x ∈ xs → 0 ≤ x) → (xs.foldl (fun s x => s ||| 2 ^ x.toNat) s).testBit b = (s.testBit b || decide ((b : Int) ∈ xs))
  | [], s, b, _ => by simp
  | x :: xs, s, b, h => by
    have hx := h x (by simp)
    rw [List.foldl_cons, setN_fold xs _ b (fun y hy => h y (by simp [hy])), Nat.testBit_or, Nat.testBit_two_pow, Bool.or_assoc]
    congr 1
    rw [Bool.eq_iff_iff]
    simp only [Bool.or_eq_true, decide_eq_true_eq, List.mem_cons]
    constructor
    · rintro (e | e)
      · exact .inl (by omega)
      · exact .inr e
    · rintro (e | e)
      · exact .inl (by omega)
      · exact .inr e
theorem setN_test {xs : List Int} (h : ∀ x, x ∈ xs → 0 ≤ x) (b : Nat) : (setN xs).testBit b = decide ((b : Int) ∈ xs) := by
  unfold setN
  rw [setN_fold xs 0 b h]
  simp
theorem setN_lt {n : Nat} : ∀ (xs : List Int) (s : Nat), (∀ x, x ∈ xs → 0 ≤ x ∧ x < n) → s < 2 ^ n → xs.foldl (fun s x => s ||| 2 ^ x.toNat) s < 2 ^ n
  | [], s, _, hs => hs
  | x :: xs, s, h, hs => by
    have hx := h x (by simp)
    exact setN_lt xs _ (fun y hy => h y (by simp [hy])) (Nat.or_lt_two_pow hs (Nat.pow_lt_pow_right (by decide) (by omega)))
theorem setN_lt' {n : Nat} {xs : List Int} (h : ∀ x, x ∈ xs → 0 ≤ x ∧ x < n) : setN xs < 2 ^ n := setN_lt xs 0 h (Nat.two_pow_pos n)
theorem qM_lt {A : Nat → Nat} {n a : Nat} (hA : ∀ a, A a < 2 ^ n) (ha : a < n) : qM A n a < 2 ^ n := qmask_lt hA ha (n + 1)
theorem e_setOf (n : Nat) (hn : n ≤ 60) (xs : List Int) (h : ∀ x, x ∈ xs → 0 ≤ x ∧ x < n) : fI_setOf xs = some ((setN xs : Nat) : Int) := by
  unfold fI_setOf
  have := (forI_foldp (ρ := Int) (body := fI_setOf_s1) (fun (s : Nat) (x : Int) => s ||| 2 ^ x.toNat) (fun s : Nat => (s : Int)) (fun s => s < 2 ^ n) xs 0 0 (Nat.two_pow_pos n) fun i x s hx hs => by
    have hr := h x hx
    have h2 : 2 ^ x.toNat < 2 ^ n := Nat.pow_lt_pow_right (by decide) (by omega)
    have e := shl_one (a := x.toNat) (by omega)
    rw [Int.toNat_of_nonneg hr.1] at e
    refine ⟨?_, Nat.or_lt_two_pow hs h2⟩
    unfold fI_setOf_s1
    rw [e, sb, bor_nat (lt62 hn hs) (lt62 hn h2)]).1
  rw [show ((0 : Nat) : Int) = 0 from rfl] at this
  rw [this, sb]
  rfl
/-! ### A component, program -/
def compQ (A : Nat → Nat) (n a : Nat) : List Int := ((List.range n).filter (qq A n a)).map fun b : Nat => (b : Int)
theorem compQ_mem {A : Nat → Nat} {n a : Nat} (hA : ∀ a, A a < 2 ^ n) (ha : a < n) (b : Nat) : (b : Int) ∈ compQ A n a ↔ qq A n a b = true := by
  unfold compQ
  rw [List.mem_map]
  constructor
  · rintro ⟨c, hc, e⟩
    have : c = b := by omega
    subst this
    exact (List.mem_filter.1 hc).2
  · intro h
    exact ⟨b, List.mem_filter.2 ⟨List.mem_range.2 (qB_lt hA ha (qq_iff.1 h).1), h⟩, rfl⟩
theorem compQ_rng {A : Nat → Nat} {n a : Nat} : ∀ x, x ∈ compQ A n a → 0 ≤ x ∧ x < n := fun x hx => by
  unfold compQ at hx
  obtain ⟨c, hc, rfl⟩ := List.mem_map.1 hx
  have := List.mem_range.1 (List.mem_filter.1 hc).1
  omega
theorem compQ_len (A : Nat → Nat) (n a : Nat) : (compQ A n a).length ≤ n := by
  unfold compQ
  rw [List.length_map]
  have := List.length_filter_le (qq A n a) (List.range n)
  simpa using this
theorem comp_loop (n : Nat) (hn : n ≤ 60) {A : Nat → Nat} (hA : ∀ a, A a < 2 ^ n) {a : Nat} (ha : a < n) : forI (fI_WalkProblem_walkComponents_s2 ((List.range n).map fun a => ((qM A n a : Nat) : Int)) (a : Int)) (lbs n (qM A n a)) 0 [] = some (.inl (compQ A n a)) := by
  have := forI_inv0 (ρ := (List (List Int)) × (List Int)) (body := fI_WalkProblem_walkComponents_s2 ((List.range n).map fun a => ((qM A n a : Nat) : Int)) (a : Int)) (fun j => ((lbs n (qM A n a)).take j).filter fun x => (qM A n x.toNat).testBit a) (lbs n (qM A n a)) (fun j x hx => by
    have hj := (List.getElem?_eq_some_iff.1 hx).1
    have hll := lbs_length n (qM A n a)
    obtain ⟨y, rfl, hy, _⟩ := mem_lbs.1 (List.mem_of_getElem? hx)
    have hlen := List.length_filter_le (fun x : Int => (qM A n x.toNat).testBit a) ((lbs n (qM A n a)).take j)
    rw [List.length_take] at hlen
    have hg : ix ((List.range n).map fun a => ((qM A n a : Nat) : Int)) (y : Int) = some ((qM A n y : Nat) : Int) := by
      rw [ix_nat, List.getElem?_map, List.getElem?_range hy]; rfl
    obtain ⟨v, h1, h2⟩ := tst_eq (S := qM A n y) (a := a) (lt62 hn (qmask_lt hA hy (n + 1))) (by omega)
    unfold fI_WalkProblem_walkComponents_s2
    rw [hg, sb, h1, sb, h2, List.take_add_one, hx, List.filter_append]
    cases h : (qM A n y).testBit a with
    | true =>
      rw [if_pos rfl]
      unfold push
      rw [if_pos (by omega), sb]
      simp [List.filter_cons, h]
    | false =>
      rw [if_neg (by decide)]
      simp [List.filter_cons, h])
  simp only [List.take_zero, List.filter_nil, List.take_length] at this
  rw [this]
  congr 2
  unfold compQ lbs
  rw [List.filter_map, List.filter_filter]
  congr 1
  refine List.filter_congr fun b _ => ?_
  simp only [Function.comp, Int.toNat_natCast, qM_test]
  unfold qq
  rw [Bool.and_comm]
theorem inner_loop (n : Nat) (hn : n ≤ 60) {A : Nat → Nat} (hA : ∀ a, A a < 2 ^ n) (Cl : List Int) (hr : ∀ x, x ∈ Cl → 0 ≤ x ∧ x < n) : ∀ (xs : List Int) (i : Int) (s : Bool), (∀ x, x ∈ xs → 0 ≤ x ∧ x < n) →
    forI (fI_WalkProblem_walkComponents_s3 ((List.range n).map fun a => ((A a : Nat) : Int)) Cl) xs i s = some (.inl (s || xs.any fun x => (A x.toNat &&& setN Cl) != 0))
  | [], i, s, _ => by simp [forI]
  | x :: xs, i, s, h => by
    have hx := h x (by simp)
    have hs : fI_WalkProblem_walkComponents_s3 ((List.range n).map fun a => ((A a : Nat) : Int)) Cl i x s = some (.go (s || ((A x.toNat &&& setN Cl) != 0))) := by
      unfold fI_WalkProblem_walkComponents_s3
      cases s with
      | true => rw [if_pos rfl, sb]; simp
      | false =>
        have hg : ix ((List.range n).map fun a => ((A a : Nat) : Int)) x = some ((A x.toNat : Nat) : Int) := by
          unfold ix
          rw [if_pos hx.1, List.getElem?_map, List.getElem?_range (by omega)]; rfl
        rw [if_neg (by decide), hg, sb, e_setOf n hn Cl hr, sb, sb, band_nat (lt62 hn (hA _)) (lt62 hn (setN_lt' hr))]
        congr 2
        rw [Bool.false_or, Bool.eq_iff_iff, bne_iff_ne, bne_iff_ne]
        omega
    simp only [forI, hs]
    rw [inner_loop n hn hA Cl hr xs (i + 1) _ (fun y hy => h y (by simp [hy])), List.any_cons, Bool.or_assoc]
theorem inner_iff (n : Nat) {A : Nat → Nat} (hA : ∀ a, A a < 2 ^ n) {a : Nat} (ha : a < n) : ((compQ A n a).any fun x => (A x.toNat &&& setN (compQ A n a)) != 0) = rB A n a a := by
  have hr : ∀ x, x ∈ compQ A n a → 0 ≤ x := fun x hx => (compQ_rng x hx).1
  rw [Bool.eq_iff_iff, List.any_eq_true]
  constructor
  · rintro ⟨x, hx, h⟩
    have hxr := compQ_rng x hx
    rw [bne_iff_ne] at h
    obtain ⟨y, hy⟩ := Nat.exists_testBit_of_ne_zero h
    rw [Nat.testBit_and, Bool.and_eq_true, setN_test hr, decide_eq_true_eq] at hy
    have hx' : ((x.toNat : Nat) : Int) ∈ compQ A n a := by rw [Int.toNat_of_nonneg hxr.1]; exact hx
    have q1 := qq_iff.1 ((compQ_mem hA ha _).1 hx')
    have q2 := qq_iff.1 ((compQ_mem hA ha _).1 hy.2)
    obtain ⟨k1, w1⟩ := (qB_iff hA ha).1 q1.1
    have hyn := qB_lt hA ha q2.1
    obtain ⟨k2, w2⟩ := (qB_iff hA hyn).1 q2.2
    refine (rB_iff hA ha).2 ⟨k1 + k2, ?_⟩
    have := (w1.add (Wk.one (E := EA A n) ⟨by omega, hy.1⟩)).add w2
    rw [show k1 + 1 + k2 = k1 + k2 + 1 by omega] at this
    exact this
  · intro h
    obtain ⟨k, w⟩ := (rB_iff hA ha).1 h
    obtain ⟨c, ⟨d, h1, h2⟩, h3⟩ := Wk.split (j := 1) (k := k) (by rw [Nat.add_comm]; exact w)
    have hd : a = d := h1
    subst hd
    have hc := (EA_lt hA _ _ h2).2
    have ma : ((a : Nat) : Int) ∈ compQ A n a := (compQ_mem hA ha a).2 (qq_iff.2 ⟨qB_refl hA ha, qB_refl hA ha⟩)
    have mc : ((c : Nat) : Int) ∈ compQ A n a := (compQ_mem hA ha c).2 (qq_iff.2 ⟨(qB_iff hA ha).2 ⟨1, Wk.one h2⟩, (qB_iff hA hc).2 ⟨k, h3⟩⟩)
    refine ⟨(a : Int), ma, ?_⟩
    rw [bne_iff_ne, Int.toNat_natCast]
    intro e
    have : (A a &&& setN (compQ A n a)).testBit c = true := by
      rw [Nat.testBit_and, h2.2, setN_test hr]
      simpa using mc
    rw [e] at this
    simp at this
/-! ### The program's list -/
structure PI (arcs : List (List Int)) (n a : Nat) (l : List (List Int)) (q : List Int) (m : Nat) : Prop where
  li : l = (leads (aftF arcs) n a).map (compI (aftF arcs) n)
  pe : q = (leads (aftF arcs) n a).map (perA arcs n)
  lt : m < 2 ^ n
  dn : ∀ b, m.testBit b = dnQ (aftF arcs) n a b
theorem compQ_I {A : Nat → Nat} {n a : Nat} (hA : ∀ a, A a < 2 ^ n) (ha : a < n) (h : rB A n a a = true) : compQ A n a = compI A n a := by
  unfold compQ compI comp
  congr 1
  exact List.filter_congr fun b _ => (rr_qq hA ha h).symm
theorem comps_step (n fuel : Nat) {p : T_WalkProblem} (hp : p.Labels = n) (hn : n ≤ 60) (ho : okArcs n p.Arcs) (hA : ∀ a, aftF p.Arcs a < 2 ^ n) (hf : n < fuel) {a : Nat} (ha : a < n) {l : List (List Int)} {q : List Int} {m : Nat} (h : PI p.Arcs n a l q m) :
    ∃ l' q' m', fI_WalkProblem_walkComponents_s1 fuel p ((List.range n).map fun a => ((qM (aftF p.Arcs) n a : Nat) : Int)) ((List.range n).map fun a => ((aftF p.Arcs a : Nat) : Int)) (a : Int) (l, q, (m : Int)) = some (.go (l', q', ((m' : Nat) : Int))) ∧ PI p.Arcs n (a + 1) l' q' m' := by
  obtain ⟨v, v1, v2⟩ := tst_eq (S := m) (a := a) (lt62 hn h.lt) (by omega)
  have hlen := leads_len (aftF p.Arcs) n a
  unfold fI_WalkProblem_walkComponents_s1
  simp only
  rw [v1, sb, v2, h.dn]
  have hsame := dn_same hA ha (A := aftF p.Arcs)
  cases hd : dnQ (aftF p.Arcs) n a a with
  | true =>
    rw [if_pos rfl]
    have hl : lead (aftF p.Arcs) n a = false := by unfold lead; rw [hsame, hd]; rfl
    refine ⟨l, q, m, rfl, ?_, ?_, h.lt, fun b => by rw [h.dn, dnQ_skip hA ha hd]⟩
    · rw [h.li]; unfold leads; rw [List.range_succ, List.filter_append]; simp [List.filter_cons, hl]
    · rw [h.pe]; unfold leads; rw [List.range_succ, List.filter_append]; simp [List.filter_cons, hl]
  | false =>
    have hg : ix ((List.range n).map fun a => ((qM (aftF p.Arcs) n a : Nat) : Int)) (a : Int) = some ((qM (aftF p.Arcs) n a : Nat) : Int) := by
      rw [ix_nat, List.getElem?_map, List.getElem?_range ha]; rfl
    have hsl : setN (compQ (aftF p.Arcs) n a) < 2 ^ n := setN_lt' compQ_rng
    rw [if_neg (by decide), hg, sb, e_labelsIn n _ fuel (qM_lt hA ha) (by omega) hf, sb, comp_loop n hn hA ha, sb]
    simp only
    rw [e_setOf n hn _ compQ_rng, sb, inner_loop n hn hA _ compQ_rng _ 0 false compQ_rng, sb]
    simp only
    rw [Bool.false_or, inner_iff n hA ha]
    have hbor : bor (m : Int) ((setN (compQ (aftF p.Arcs) n a) : Nat) : Int) = ((m ||| setN (compQ (aftF p.Arcs) n a) : Nat) : Int) := bor_nat (lt62 hn h.lt) (lt62 hn hsl)
    have hdn : ∀ b, (m ||| setN (compQ (aftF p.Arcs) n a)).testBit b = dnQ (aftF p.Arcs) n (a + 1) b := fun b => by
      rw [Nat.testBit_or, h.dn, setN_test (fun x hx => (compQ_rng x hx).1), dnQ_take]
      congr 1
      rw [Bool.eq_iff_iff, decide_eq_true_eq]
      exact compQ_mem hA ha b
    cases hr : rB (aftF p.Arcs) n a a with
    | false =>
      have hl : lead (aftF p.Arcs) n a = false := by unfold lead; rw [hr, Bool.and_false]
      rw [if_neg (by decide), hbor]
      refine ⟨l, q, _, rfl, ?_, ?_, Nat.or_lt_two_pow h.lt hsl, hdn⟩
      · rw [h.li]; unfold leads; rw [List.range_succ, List.filter_append]; simp [List.filter_cons, hl]
      · rw [h.pe]; unfold leads; rw [List.range_succ, List.filter_append]; simp [List.filter_cons, hl]
    | true =>
      have hl : lead (aftF p.Arcs) n a = true := by unfold lead; rw [hsame, hd, hr]; rfl
      have hll : l.length ≤ a := by rw [h.li, List.length_map]; exact hlen
      have hql : q.length ≤ a := by rw [h.pe, List.length_map]; exact hlen
      rw [if_pos rfl]
      unfold push
      rw [if_pos (by omega), sb, compQ_I hA ha hr, e_periodOf n fuel hp hn ho hA ha hl hf, sb, if_pos (by omega), sb, ← compQ_I hA ha hr, hbor]
      refine ⟨_, _, _, rfl, ?_, ?_, Nat.or_lt_two_pow h.lt hsl, hdn⟩
      · rw [h.li]; unfold leads; rw [List.range_succ, List.filter_append]; simp [List.filter_cons, hl, compQ_I hA ha hr]
      · rw [h.pe]; unfold leads; rw [List.range_succ, List.filter_append]; simp [List.filter_cons, hl]
theorem comps_loop (n fuel : Nat) {p : T_WalkProblem} (hp : p.Labels = n) (hn : n ≤ 60) (ho : okArcs n p.Arcs) (hA : ∀ a, aftF p.Arcs a < 2 ^ n) (hf : n < fuel) : ∀ (d a : Nat) (l : List (List Int)) (q : List Int) (m : Nat), a + d = n → PI p.Arcs n a l q m →
    ∃ l' q' m', forN (fI_WalkProblem_walkComponents_s1 fuel p ((List.range n).map fun a => ((qM (aftF p.Arcs) n a : Nat) : Int)) ((List.range n).map fun a => ((aftF p.Arcs a : Nat) : Int))) d (a : Int) (l, q, (m : Int)) = some (.inl (l', q', ((m' : Nat) : Int))) ∧ PI p.Arcs n n l' q' m'
  | 0, a, l, q, m, hd, h => by
    have : a = n := by omega
    subst this
    exact ⟨l, q, m, rfl, h⟩
  | d + 1, a, l, q, m, hd, h => by
    obtain ⟨l1, q1, m1, h1, h2⟩ := comps_step n fuel hp hn ho hA hf (show a < n by omega) h
    simp only [forN, h1]
    rw [show ((a : Int) + 1) = ((a + 1 : Nat) : Int) by omega]
    exact comps_loop n fuel hp hn ho hA hf d (a + 1) l1 q1 m1 (by omega) h2
theorem e_walkComponents (n fuel : Nat) {p : T_WalkProblem} (hp : p.Labels = n) (hn : n ≤ 60) (ho : okArcs n p.Arcs) (hf : n < fuel) : fI_WalkProblem_walkComponents fuel p = some ((leads (aftF p.Arcs) n n).map (compI (aftF p.Arcs) n), (leads (aftF p.Arcs) n n).map (perA p.Arcs n)) := by
  obtain ⟨e1, hA⟩ := e_after n p hp hn ho
  unfold fI_WalkProblem_walkComponents
  rw [e_closure n fuel hp hn ho hA hf, sb, e1, sb, List.length_map, List.length_range, ck_in (by omega) (by omega), sb, Int.toNat_natCast]
  obtain ⟨l, q, m, h1, h2⟩ := comps_loop n fuel hp hn ho hA hf n 0 [] [] 0 (by omega) ⟨rfl, rfl, Nat.two_pow_pos n, fun b => by simp [dnQ]⟩
  rw [show ((0 : Nat) : Int) = 0 from rfl] at h1
  rw [h1, sb]
  simp only
  rw [h2.li, h2.pe]
theorem sorted_eq : ∀ {xs ys : List Int}, xs.Pairwise (· < ·) → ys.Pairwise (· < ·) → (∀ x, x ∈ xs ↔ x ∈ ys) → xs = ys
  | [], [], _, _, _ => rfl
  | [], y :: ys, _, _, h => by have := (h y).2 (by simp); simp at this
  | x :: xs, [], _, _, h => by have := (h x).1 (by simp); simp at this
  | x :: xs, y :: ys, hx, hy, h => by
    rw [List.pairwise_cons] at hx hy
    have e : x = y := by
      have h1 := (h x).1 (by simp)
      have h2 := (h y).2 (by simp)
      rcases List.mem_cons.1 h1 with e | h1
      · exact e
      · rcases List.mem_cons.1 h2 with e | h2
        · exact e.symm
        · have := hy.1 x h1
          have := hx.1 y h2
          omega
    subst e
    rw [sorted_eq hx.2 hy.2 fun z => ?_]
    constructor
    · intro hz
      have h1 := hx.1 z hz
      rcases List.mem_cons.1 ((h z).1 (by simp [hz])) with e | h2
      · omega
      · exact h2
    · intro hz
      have h1 := hy.1 z hz
      rcases List.mem_cons.1 ((h z).2 (by simp [hz])) with e | h2
      · omega
      · exact h2
theorem srt_le (xs : List Int) : (srt xs).Pairwise (· ≤ ·) := by
  have := List.pairwise_mergeSort (le := fun x y : Int => decide (x ≤ y)) (fun a b c h1 h2 => by simp at *; omega) (fun a b => by simp; omega) xs
  exact this.imp fun h => by simpa using h
theorem srt_prm (xs : List Int) : (srt xs).Perm xs := List.mergeSort_perm xs _
/-! ### The mask of the flexible labels -/
def orL (S : Nat) (xs : List Int) : Nat := xs.foldl (fun s x => s ||| 2 ^ x.toNat) S
def flexM (arcs : List (List Int)) (n : Nat) (cs : List Nat) (S : Nat) : Nat := cs.foldl (fun S c => if perA arcs n c == 1 then orL S (compI (aftF arcs) n c) else S) S
theorem compI_nn {A : Nat → Nat} {n a : Nat} : ∀ x, x ∈ compI A n a → 0 ≤ x ∧ x < n := fun x hx => by
  unfold compI comp at hx
  obtain ⟨c, hc, rfl⟩ := List.mem_map.1 hx
  have := List.mem_range.1 (List.mem_filter.1 hc).1
  omega
theorem flexM_test (arcs : List (List Int)) (n b : Nat) : ∀ (cs : List Nat) (S : Nat), (flexM arcs n cs S).testBit b = true ↔ S.testBit b = true ∨ ∃ c, c ∈ cs ∧ perA arcs n c = 1 ∧ (b : Int) ∈ compI (aftF arcs) n c
  | [], S => by simp [flexM]
  | c :: cs, S => by
    have ih := flexM_test arcs n b cs (if perA arcs n c == 1 then orL S (compI (aftF arcs) n c) else S)
    have e : flexM arcs n (c :: cs) S = flexM arcs n cs (if perA arcs n c == 1 then orL S (compI (aftF arcs) n c) else S) := rfl
    rw [e, ih]
    by_cases hp : perA arcs n c = 1
    · rw [if_pos (by simp [hp])]
      unfold orL
      rw [setN_fold _ S b (fun x hx => (compI_nn x hx).1), Bool.or_eq_true, decide_eq_true_eq]
      constructor
      · rintro ((h | h) | ⟨d, h1, h2⟩)
        · exact .inl h
        · exact .inr ⟨c, by simp, hp, h⟩
        · exact .inr ⟨d, by simp [h1], h2⟩
      · rintro (h | ⟨d, h1, h2, h3⟩)
        · exact .inl (.inl h)
        · rcases List.mem_cons.1 h1 with e | h1
          · subst e; exact .inl (.inr h3)
          · exact .inr ⟨d, h1, h2, h3⟩
    · rw [if_neg (by simpa using hp)]
      constructor
      · rintro (h | ⟨d, h1, h2⟩)
        · exact .inl h
        · exact .inr ⟨d, by simp [h1], h2⟩
      · rintro (h | ⟨d, h1, h2, h3⟩)
        · exact .inl h
        · rcases List.mem_cons.1 h1 with e | h1
          · subst e; exact absurd h2 hp
          · exact .inr ⟨d, h1, h2, h3⟩
def FM (arcs : List (List Int)) (n : Nat) : Nat := flexM arcs n (leads (aftF arcs) n n) 0
def FL (arcs : List (List Int)) (n : Nat) : List Int := lbs n (FM arcs n)
/-! ### Specification -/
theorem foldl_keep {α β : Type} : ∀ (xs : List α) (s : β), xs.foldl (fun s _ => s) s = s
  | [], s => rfl
  | x :: xs, s => foldl_keep xs s
theorem flex_part (n fuel : Nat) (hn : n ≤ 60) (hf : n < fuel) (x : T_waPart) (hx : ∀ b, b ∈ x.labels → 0 ≤ b ∧ b < n) (S : Nat) : forI (fS_waFlexible_s2 fuel x) x.labels 0 (lbs n S) = some (.inl (lbs n (if x.period == 1 then orL S x.labels else S))) := by
  by_cases h : x.period = 1
  · have := (forI_foldp (ρ := List Int) (body := fS_waFlexible_s2 fuel x) (fun (s : Nat) (b : Int) => s ||| 2 ^ b.toNat) (lbs n) (fun _ => True) x.labels 0 S trivial fun i b s hb _ => by
      have hr := hx b hb
      have e := e_put_lbs n s b.toNat fuel (by omega) hn hf
      rw [Int.toNat_of_nonneg hr.1] at e
      refine ⟨?_, trivial⟩
      unfold fS_waFlexible_s2
      rw [if_pos (by simp [h]), e, sb]).1
    rw [this, if_pos (by simp [h])]
    rfl
  · have := (forI_foldp (ρ := List Int) (body := fS_waFlexible_s2 fuel x) (fun (s : Nat) (b : Int) => s) (lbs n) (fun _ => True) x.labels 0 S trivial fun i b s hb _ => by
      refine ⟨?_, trivial⟩
      unfold fS_waFlexible_s2
      rw [if_neg (by simpa using h)]).1
    rw [this, foldl_keep, if_neg (by simpa using h)]
theorem okParts_mem {arcs : List (List Int)} {n a : Nat} {out : List T_waPart} (h : okParts arcs n a out) {x : T_waPart} (hx : x ∈ out) : ∀ b, b ∈ x.labels → 0 ≤ b ∧ b < n := by
  have h1 : (x.labels, x.period) ∈ out.map (fun x => (x.labels, x.period)) := List.mem_map.2 ⟨x, hx, rfl⟩
  rw [h] at h1
  obtain ⟨c, _, e⟩ := List.mem_map.1 h1
  have e1 : compI (aftF arcs) n c = x.labels := congrArg Prod.fst e
  rw [← e1]
  exact compI_nn
theorem okParts_fold {arcs : List (List Int)} {n a : Nat} {out : List T_waPart} (h : okParts arcs n a out) (S : Nat) : out.foldl (fun S x => if x.period == 1 then orL S x.labels else S) S = flexM arcs n (leads (aftF arcs) n a) S := by
  have e1 : out.foldl (fun S x => if x.period == 1 then orL S x.labels else S) S = (out.map fun x => (x.labels, x.period)).foldl (fun S y => if y.2 == 1 then orL S y.1 else S) S := by rw [List.foldl_map]
  rw [e1, h, List.foldl_map]
  rfl
theorem e_waFlexible (n fuel : Nat) {p : T_WalkProblem} (hp : p.Labels = n) (hn : n ≤ 60) (ho : okArcs n p.Arcs) (hf : 2 * n + 2 < fuel) : fS_waFlexible fuel p = some (FL p.Arcs n) := by
  obtain ⟨_, hA⟩ := e_after n p hp hn ho
  obtain ⟨out, h1, h2⟩ := e_waParts n fuel hp hn ho hA hf
  unfold fS_waFlexible
  rw [h1, sb]
  have := (forI_foldp (ρ := List Int) (body := fS_waFlexible_s1 fuel) (fun (S : Nat) (x : T_waPart) => if x.period == 1 then orL S x.labels else S) (lbs n) (fun _ => True) out 0 0 trivial fun i x S hx _ => by
    refine ⟨?_, trivial⟩
    unfold fS_waFlexible_s1
    rw [flex_part n fuel hn (by omega) x (okParts_mem h2 hx), sb]).1
  rw [show lbs n 0 = [] from by simp [lbs]] at this
  rw [this, sb, okParts_fold h2]
  rfl
/-! ### Program -/
theorem flat_len (arcs : List (List Int)) (n : Nat) : ∀ cs : List Nat, (cs.flatMap (compI (aftF arcs) n)).length ≤ cs.length * n
  | [] => by simp
  | c :: cs => by
    have h1 := compI_len (aftF arcs) n c
    have h2 := flat_len arcs n cs
    rw [List.flatMap_cons, List.length_append, List.length_cons, Nat.succ_mul]
    omega
theorem compI_pair (A : Nat → Nat) (n a : Nat) : (compI A n a).Pairwise (· < ·) := by
  unfold compI comp
  rw [List.pairwise_map]
  refine List.Pairwise.imp ?_ (List.Pairwise.filter _ List.pairwise_lt_range)
  intro a b h
  omega
theorem leads_mem {A : Nat → Nat} {n c : Nat} (h : c ∈ leads A n n) : c < n ∧ lead A n c = true := by
  unfold leads at h
  obtain ⟨h1, h2⟩ := List.mem_filter.1 h
  exact ⟨List.mem_range.1 h1, h2⟩
theorem leads_apart {A : Nat → Nat} {n : Nat} (hA : ∀ a, A a < 2 ^ n) {c d b : Nat} (hc : c < n) (hd : d < n) (hcd : c < d) (ld : lead A n d = true) (h1 : rr A n c b = true) (h2 : rr A n d b = true) : False := by
  have h3 := rr_trans hA hc h1 (rr_symm h2)
  obtain ⟨e, _⟩ := lead_iff.1 ld
  unfold dnR at e
  rw [List.any_eq_false] at e
  exact e c (List.mem_range.2 hcd) h3
theorem flat_nodup {arcs : List (List Int)} {n : Nat} (hA : ∀ a, aftF arcs a < 2 ^ n) (P : Nat → Bool) : (((leads (aftF arcs) n n).filter P).flatMap (compI (aftF arcs) n)).Nodup := by
  rw [List.Nodup, List.pairwise_flatMap]
  constructor
  · intro c _
    exact (compI_pair _ n c).imp fun h => by omega
  · have h1 : ((leads (aftF arcs) n n).filter P).Pairwise (· < ·) := List.Pairwise.filter _ (List.Pairwise.filter _ List.pairwise_lt_range)
    refine List.Pairwise.imp_of_mem (fun {c d} hc hd hcd x hx y hy e => ?_) h1
    subst e
    obtain ⟨c1, c2⟩ := leads_mem (List.mem_filter.1 hc).1
    obtain ⟨d1, d2⟩ := leads_mem (List.mem_filter.1 hd).1
    have hr := compI_nn x hx
    have hx' : ((x.toNat : Nat) : Int) ∈ compI (aftF arcs) n c := by rw [Int.toNat_of_nonneg hr.1]; exact hx
    have hy' : ((x.toNat : Nat) : Int) ∈ compI (aftF arcs) n d := by rw [Int.toNat_of_nonneg hr.1]; exact hy
    exact leads_apart hA c1 d1 hcd d2 ((compI_mem hA c1 _).1 hx') ((compI_mem hA d1 _).1 hy')
theorem e_flexibleLabels (n fuel : Nat) {p : T_WalkProblem} (hp : p.Labels = n) (hn : n ≤ 60) (ho : okArcs n p.Arcs) (hf : n < fuel) : fI_WalkProblem_flexibleLabels fuel p = some (FL p.Arcs n) := by
  obtain ⟨_, hA⟩ := e_after n p hp hn ho
  have hll := leads_len (aftF p.Arcs) n n
  unfold fI_WalkProblem_flexibleLabels
  rw [e_walkComponents n fuel hp hn ho hf, sb]
  simp only
  have hfl : ∀ j, (((leads (aftF p.Arcs) n n).take j).filter fun c => perA p.Arcs n c == 1).length ≤ n := fun j => by
    have h1 := List.length_filter_le (fun c => perA p.Arcs n c == 1) ((leads (aftF p.Arcs) n n).take j)
    have h2 := List.length_take_le j (leads (aftF p.Arcs) n n)
    have h3 : ((leads (aftF p.Arcs) n n).take j).length ≤ (leads (aftF p.Arcs) n n).length := by rw [List.length_take]; omega
    omega
  have hbig : ∀ cs : List Nat, cs.length ≤ n → (cs.flatMap (compI (aftF p.Arcs) n)).length ≤ 3600 := fun cs hcs => by
    have h1 := flat_len p.Arcs n cs
    have h2 : cs.length * n ≤ 60 * 60 := Nat.mul_le_mul (by omega) hn
    omega
  have := forI_inv0 (ρ := List Int) (body := fI_WalkProblem_flexibleLabels_s1 ((leads (aftF p.Arcs) n n).map (compI (aftF p.Arcs) n), (leads (aftF p.Arcs) n n).map (perA p.Arcs n))) (fun j => (((leads (aftF p.Arcs) n n).take j).filter fun c => perA p.Arcs n c == 1).flatMap (compI (aftF p.Arcs) n)) ((leads (aftF p.Arcs) n n).map (compI (aftF p.Arcs) n)) (fun j x hx => by
    rw [List.getElem?_map, Option.map_eq_some_iff] at hx
    obtain ⟨c, hc, rfl⟩ := hx
    unfold fI_WalkProblem_flexibleLabels_s1
    simp only
    rw [ix_nat, List.getElem?_map, hc, show Option.map (perA p.Arcs n) (some c) = some (perA p.Arcs n c) from rfl, sb, List.take_add_one, hc, List.filter_append, List.flatMap_append]
    have h1 := hbig _ (hfl j)
    have h2 := compI_len (aftF p.Arcs) n c
    cases hp1 : perA p.Arcs n c == 1 with
    | true =>
      rw [if_pos rfl]
      unfold cat
      rw [if_pos (by omega), sb]
      simp [List.filter_cons, hp1]
    | false =>
      rw [if_neg (by decide)]
      simp [List.filter_cons, hp1])
  simp only [List.take_zero, List.filter_nil, List.flatMap_nil, List.length_map, List.take_length] at this
  rw [this, sb]
  simp only
  unfold srtO
  rw [if_pos (by have := hbig _ (by have := hfl (leads (aftF p.Arcs) n n).length; rw [List.take_length] at this; exact this); omega), sb]
  congr 1
  have hnd := flat_nodup hA (fun c => perA p.Arcs n c == 1)
  refine sorted_eq ?_ (lbs_pair _ _) fun x => ?_
  · have h1 := (srt_prm (((leads (aftF p.Arcs) n n).filter fun c => perA p.Arcs n c == 1).flatMap (compI (aftF p.Arcs) n))).nodup_iff.2 hnd
    exact List.Pairwise.imp₂ (fun a b h1 h2 => by omega) (srt_le _) h1
  · rw [(srt_prm _).mem_iff, List.mem_flatMap]
    unfold FL
    rw [mem_lbs]
    constructor
    · rintro ⟨c, hc, hx⟩
      obtain ⟨h1, h2⟩ := List.mem_filter.1 hc
      have hr := compI_nn x hx
      refine ⟨x.toNat, by omega, by omega, ?_⟩
      unfold FM
      refine (flexM_test p.Arcs n _ _ 0).2 (.inr ⟨c, h1, by simpa using h2, ?_⟩)
      rw [Int.toNat_of_nonneg hr.1]; exact hx
    · rintro ⟨b, rfl, hb, ht⟩
      unfold FM at ht
      rcases (flexM_test p.Arcs n b _ 0).1 ht with h | ⟨c, h1, h2, h3⟩
      · simp at h
      · exact ⟨c, List.mem_filter.2 ⟨h1, by simpa using h2⟩, h3⟩
/-! ### FlexibleLabels -/
def flexB (p : T_WalkProblem) : List Int × Bool := if walkB p then (FL p.Arcs p.Labels.toNat, true) else ([], false)
theorem e_specFlex (fuel : Nat) (hf : 200 ≤ fuel) (p : T_WalkProblem) (hJ : p.Arcs.length ≤ 1000000000) : fS_FlexibleLabels fuel p = some (flexB p) := by
  unfold fS_FlexibleLabels flexB
  rw [e_waGood p hJ, sb]
  cases h : walkB p
  · simp
  · obtain ⟨h1, h0, h2, h3⟩ := okArcs_of h
    rw [if_neg (by simp), e_waFlexible p.Labels.toNat fuel h1 (by omega) h3 (by omega), sb]; simp
theorem e_implFlex (fuel : Nat) (hf : 200 ≤ fuel) (p : T_WalkProblem) (hJ : p.Arcs.length ≤ 1000000000) : fI_FlexibleLabels fuel p = some (flexB p) := by
  unfold fI_FlexibleLabels flexB
  rw [e_IsWalkProblem p hJ, sb]
  cases h : walkB p
  · simp
  · obtain ⟨h1, h0, h2, h3⟩ := okArcs_of h
    rw [if_neg (by simp), e_flexibleLabels p.Labels.toNat fuel h1 (by omega) h3 (by omega), sb]; simp
/-! ### ClassOfWalk -/
def clsN (p : T_WalkProblem) : Int := if loopB p then 3 else if decide (((FL p.Arcs p.Labels.toNat).length : Int) > 0) then 2 else if decide (((leads (aftF p.Arcs) p.Labels.toNat p.Labels.toNat).length : Int) > 0) then 1 else 0
def clsB (p : T_WalkProblem) : Int × Bool := if walkB p then (clsN p, true) else (0, false)
theorem e_specClass (fuel : Nat) (hf : 200 ≤ fuel) (p : T_WalkProblem) (hJ : p.Arcs.length ≤ 1000000000) : fS_ClassOfWalk fuel p = some (clsB p) := by
  unfold fS_ClassOfWalk clsB
  rw [e_waGood p hJ, sb]
  cases h : walkB p
  · simp
  · obtain ⟨h1, h0, h2, h3⟩ := okArcs_of h
    rw [if_neg (by simp)]
    unfold fS_waClass clsN
    obtain ⟨r, r1, r2⟩ := e_waLoop p p.Labels.toNat h3
    rw [r1, sb]
    cases hl : loopB p with
    | true =>
      have : ¬ r < 0 := fun q => by rw [r2.1 q] at hl; cases hl
      rw [if_pos (by simp; omega), sb]; simp
    | false =>
      have := r2.2 hl
      obtain ⟨_, hA⟩ := e_after p.Labels.toNat p h1 (by omega) h3
      obtain ⟨out, o1, o2⟩ := e_waParts p.Labels.toNat fuel h1 (by omega) h3 hA (by omega)
      have hlen : out.length = (leads (aftF p.Arcs) p.Labels.toNat p.Labels.toNat).length := by
        have e := congrArg List.length o2
        simpa using e
      rw [if_neg (by simp; omega), e_waFlexible p.Labels.toNat fuel h1 (by omega) h3 (by omega), sb]
      simp only [Bool.false_eq_true, if_false, if_true]
      split
      · rw [sb]
      · rw [o1, sb, hlen]
        split <;> rw [sb]
theorem e_implClass (fuel : Nat) (hf : 200 ≤ fuel) (p : T_WalkProblem) (hJ : p.Arcs.length ≤ 1000000000) : fI_ClassOfWalk fuel p = some (clsB p) := by
  unfold fI_ClassOfWalk clsB
  rw [e_IsWalkProblem p hJ, sb]
  cases h : walkB p
  · simp
  · obtain ⟨h1, h0, h2, h3⟩ := okArcs_of h
    rw [if_neg (by simp)]
    unfold fI_WalkProblem_classOf clsN
    obtain ⟨r, r1, r2⟩ := e_loopOf p p.Labels.toNat h1 (by omega) h3
    rw [e_walkComponents p.Labels.toNat fuel h1 (by omega) h3 (by omega), sb, r1, sb]
    cases hl : loopB p with
    | true =>
      have : ¬ r < 0 := fun q => by rw [r2.1 q] at hl; cases hl
      rw [if_pos (by simp; omega), sb]; simp
    | false =>
      have := r2.2 hl
      rw [if_neg (by simp; omega), e_flexibleLabels p.Labels.toNat fuel h1 (by omega) h3 (by omega), sb]
      simp only [Bool.false_eq_true, if_false, if_true, List.length_map]
      split
      · rw [sb]
      · split <;> rw [sb]
/-! ### FlexibilityOf -/
def scan (f : Nat → Bool) : Nat → Nat
  | 0 => 0
  | k + 1 => if f (k + 1) then scan f k else k + 1
theorem scan_top {f : Nat → Bool} {m : Nat} : ∀ k, m ≤ k → (∀ j, m < j → j ≤ k → f j = true) → scan f k = scan f m
  | 0, h, _ => by have : m = 0 := by omega
                  subst this; rfl
  | k + 1, h, hall => by
    by_cases e : m = k + 1
    · subst e; rfl
    · show (if f (k + 1) then scan f k else k + 1) = scan f m
      rw [if_pos (hall (k + 1) (by omega) (Nat.le_refl _))]
      exact scan_top k (by omega) fun j h1 h2 => hall j h1 (by omega)
theorem scan_le (f : Nat → Bool) : ∀ k, scan f k ≤ k
  | 0 => Nat.le_refl _
  | k + 1 => by
    unfold scan
    split
    · have := scan_le f k; omega
    · exact Nat.le_refl _
theorem scan_loop {body : Int → Option (Lp Int Int Int)} {f : Nat → Bool} {K : Nat} (h : ∀ k, k + 1 ≤ K → body ((k + 1 : Nat) : Int) = some (if f (k + 1) then .go (k : Int) else .out ((k + 1 : Nat) : Int))) (h0 : body 0 = some (.out 0)) : ∀ (k fuel : Nat), k ≤ K → k < fuel → loopF body fuel (k : Int) = some (.inl ((scan f k : Nat) : Int))
  | 0, fuel, _, hf => by
    obtain ⟨fuel, rfl⟩ : ∃ m, fuel = m + 1 := ⟨fuel - 1, by omega⟩
    exact loopF_out h0 fuel
  | k + 1, fuel, hk, hf => by
    obtain ⟨fuel, rfl⟩ : ∃ m, fuel = m + 1 := ⟨fuel - 1, by omega⟩
    have hs := h k hk
    unfold scan
    cases hfk : f (k + 1) with
    | true =>
      rw [hfk, if_pos rfl] at hs
      rw [loopF_go hs, if_pos rfl]
      exact scan_loop h h0 k fuel (by omega) (by omega)
    | false =>
      rw [hfk, if_neg (by decide)] at hs
      rw [loopF_out hs, if_neg (by decide)]
def wf (p : T_WalkProblem) (n b k : Nat) : Bool := (pwF (aftF p.Arcs) n b k).testBit b
theorem FL_mem {arcs : List (List Int)} {n : Nat} {a : Int} (h : a ∈ FL arcs n) : ∃ b c : Nat, a = b ∧ b < n ∧ c ∈ leads (aftF arcs) n n ∧ perA arcs n c = 1 ∧ (b : Int) ∈ compI (aftF arcs) n c := by
  unfold FL at h
  obtain ⟨b, rfl, hb, ht⟩ := mem_lbs.1 h
  unfold FM at ht
  rcases (flexM_test arcs n b _ 0).1 ht with h | ⟨c, h1, h2, h3⟩
  · simp at h
  · exact ⟨b, c, rfl, hb, h1, h2, h3⟩
theorem flex_all {arcs : List (List Int)} {n : Nat} (ho : okArcs n arcs) (hA : ∀ a, aftF arcs a < 2 ^ n) {b c : Nat} (hb : b < n) (hc : c ∈ leads (aftF arcs) n n) (hp : perA arcs n c = 1) (hbc : (b : Int) ∈ compI (aftF arcs) n c) : ∀ L, n * n ≤ L → Wk (EA (aftF arcs) n) L b b := by
  obtain ⟨hcn, hl⟩ := leads_mem hc
  have hcc := (lead_iff.1 hl).2
  have hr := (compI_mem hA hcn b).1 hbc
  obtain ⟨r1, r2⟩ := rr_iff.1 hr
  have hbb : rB (aftF arcs) n b b = true := rB_trans hA hb r2 r1
  obtain ⟨k0, w0⟩ := (rB_iff hA hb).1 hbb
  obtain ⟨s, s1, s2, s3⟩ := w0.short1 (EA_lt hA)
  refine flex (EA_lt hA) hb s1 s2 s3 fun g hg => ?_
  have hC : ∀ x : Nat, (x : Int) ∈ compI (aftF arcs) n c ↔ CC arcs n c x := fun x => compI_mem hA hcn x
  have hpot := dist_pot ho hA hcn hcc
  have hgof := perA_gof arcs n c
  rw [hp] at hgof
  refine hgof.best g ((vals_mem ho hC g).2 fun x y hxy => ?_)
  obtain ⟨hx, hy, hm⟩ := hxy
  have hEA : ∀ {k u v : Nat}, Wk (EC arcs (CC arcs n c)) k u v → Wk (EA (aftF arcs) n) k u v := by
    intro k
    induction k with
    | zero => intro u v h; exact h
    | succ k ih => rintro u v ⟨d, h1, _, _, h2⟩; exact ⟨d, ih h1, (EA_mem ho d v).2 h2⟩
  obtain ⟨kx, ex, wx⟩ := hpot.wlk x hx
  obtain ⟨ky, ey, wy⟩ := hpot.wlk y hy
  obtain ⟨u, wu⟩ := (rB_iff hA hb).1 r2
  have hyb : rB (aftF arcs) n y b = true := by
    have hyc : rr (aftF arcs) n c y = true := hy
    exact rB_trans hA (rB_lt hA hcn (rr_iff.1 hyc).1) (rr_iff.1 hyc).2 r1
  have hyn : y < n := rB_lt hA hcn (rr_iff.1 (show rr (aftF arcs) n c y = true from hy)).1
  obtain ⟨v, wv⟩ := (rB_iff hA hyn).1 hyb
  have c1 := ((wu.add (hEA wx)).add (Wk.one ((EA_mem ho x y).2 hm))).add wv
  have c2 := (wu.add (hEA wy)).add wv
  have e := Int.dvd_sub (hg _ c1) (hg _ c2)
  rw [ex, ey]
  have e2 : ((u + 1 + kx + 1 + (v + 1) : Nat) : Int) - ((u + 1 + ky + (v + 1) : Nat) : Int) = (kx : Int) + 1 - ky := by omega
  rw [e2] at e
  exact e
def fleN (p : T_WalkProblem) (a : Int) : Int := ((scan (wf p p.Labels.toNat a.toNat) (p.Labels.toNat * p.Labels.toNat + 1) : Nat) : Int) + 1
def fleB (p : T_WalkProblem) (a : Int) : Int × Bool := if walkB p && decide (a ∈ FL p.Arcs p.Labels.toNat) then (fleN p a, true) else (0, false)
theorem e_specFle (fuel : Nat) (hf : 1000 ≤ fuel) (p : T_WalkProblem) (a : Int) (hJ : p.Arcs.length ≤ 1000000000) : fS_FlexibilityOf fuel p a = some (fleB p a) := by
  unfold fS_FlexibilityOf fleB
  rw [e_waGood p hJ, sb]
  cases h : walkB p
  · simp [sb]
  · obtain ⟨h1, h0, h2, h3⟩ := okArcs_of h
    rw [if_neg (by simp), e_waFlexible p.Labels.toNat fuel h1 (by omega) h3 (by omega), sb, e_l1Has, sb, sb]
    cases hm : decide (a ∈ FL p.Arcs p.Labels.toNat) with
    | false => simp
    | true =>
      obtain ⟨b, c, rfl, hb, hc, hp1, hbc⟩ := FL_mem (of_decide_eq_true hm)
      rw [if_neg (by simp)]
      unfold fS_waFlexibility fleN
      generalize hN : p.Labels.toNat = n at *
      have hnn : n * n ≤ 144 := Nat.mul_le_mul (show n ≤ 12 by omega) (show n ≤ 12 by omega)
      rw [h1, show (n : Int) * n = ((n * n : Nat) : Int) by simp, ck_in (by omega) (by omega), sb, ck_in (by omega) (by omega), sb, show ((n * n : Nat) : Int) + 1 = ((n * n + 1 : Nat) : Int) by omega, e_waPowers n (n * n + 1) fuel p h1 (by omega) h3 (by omega) (by omega), sb,
        List.length_map, List.length_range, ck_in (by omega) (by omega), sb, show ((n * n + 1 + 1 : Nat) : Int) - 1 = ((n * n + 1 : Nat) : Int) by omega]
      have := scan_loop (body := fS_waFlexibility_s1 (b : Int) ((List.range (n * n + 1 + 1)).map fun j => matF n fun a => pwF (aftF p.Arcs) n a j)) (f := wf p n b) (K := n * n + 1) (fun k hk => by
        unfold fS_waFlexibility_s1
        rw [if_pos (by simp), ix_nat, List.getElem?_map, List.getElem?_range (by omega)]
        rw [show Option.map (fun j => matF n fun a => pwF (aftF p.Arcs) n a j) (some (k + 1)) = some (matF n fun a => pwF (aftF p.Arcs) n a (k + 1)) from rfl, sb, ix_matF hb, sb, ix_mrow hb, sb, sb]
        unfold wf
        cases (pwF (aftF p.Arcs) n b (k + 1)).testBit b
        · rw [if_neg (by decide), if_neg (by decide)]
        · rw [if_pos rfl, if_pos rfl, ck_in (by omega) (by omega), sb]
          congr 2
          omega) (by unfold fS_waFlexibility_s1; rw [if_neg (by decide), sb, if_neg (by decide)]) (n * n + 1) fuel (Nat.le_refl _) (by omega)
      have hsl := scan_le (wf p n b) (n * n + 1)
      rw [this, sb]
      simp only
      rw [ck_in (by omega) (by omega), sb, sb, Int.toNat_natCast]; simp
theorem e_implFle (fuel : Nat) (hf : 1000 ≤ fuel) (p : T_WalkProblem) (a : Int) (hJ : p.Arcs.length ≤ 1000000000) : fI_FlexibilityOf fuel p a = some (fleB p a) := by
  unfold fI_FlexibilityOf fleB
  rw [e_IsWalkProblem p hJ, sb]
  cases h : walkB p
  · simp [sb]
  · obtain ⟨h1, h0, h2, h3⟩ := okArcs_of h
    have hfl : (FL p.Arcs p.Labels.toNat).length ≤ 1000 := by
      have := lbs_length p.Labels.toNat (FM p.Arcs p.Labels.toNat)
      unfold FL
      omega
    rw [if_neg (by simp), e_flexibleLabels p.Labels.toNat fuel h1 (by omega) h3 (by omega), sb, e_Contains _ _ (by omega), sb, sb]
    cases hm : decide (a ∈ FL p.Arcs p.Labels.toNat) with
    | false => simp
    | true =>
      obtain ⟨b, c, rfl, hb, hc, hp1, hbc⟩ := FL_mem (of_decide_eq_true hm)
      obtain ⟨_, hA⟩ := e_after p.Labels.toNat p h1 (by omega) h3
      rw [if_neg (by simp)]
      unfold fI_WalkProblem_flexibilityOf fleN
      generalize hN : p.Labels.toNat = n at *
      have hnn : n * n ≤ 144 := Nat.mul_le_mul (show n ≤ 12 by omega) (show n ≤ 12 by omega)
      rw [show (288 : Int) = ((288 : Nat) : Int) from rfl, e_reached n b 288 fuel p h1 (by omega) h3 hb (by omega) (by omega), sb, List.length_map, List.length_range, ck_in (by omega) (by omega), sb, show ((288 + 1 : Nat) : Int) - 1 = ((288 : Nat) : Int) by omega]
      have := scan_loop (body := fI_WalkProblem_flexibilityOf_s1 (b : Int) ((List.range (288 + 1)).map fun j => ((pwF (aftF p.Arcs) n b j : Nat) : Int))) (f := wf p n b) (K := 288) (fun k hk => by
        unfold fI_WalkProblem_flexibilityOf_s1
        rw [if_pos (by simp), ix_nat, List.getElem?_map, List.getElem?_range (by omega)]
        obtain ⟨v, v1, v2⟩ := tst_eq (S := pwF (aftF p.Arcs) n b (k + 1)) (a := b) (lt62 (by omega) (pwF_lt hA hb (k + 1))) (by omega)
        rw [show Option.map (fun j => ((pwF (aftF p.Arcs) n b j : Nat) : Int)) (some (k + 1)) = some ((pwF (aftF p.Arcs) n b (k + 1) : Nat) : Int) from rfl, sb, v1, sb, sb, v2]
        unfold wf
        cases (pwF (aftF p.Arcs) n b (k + 1)).testBit b
        · rw [if_neg (by decide), if_neg (by decide)]
        · rw [if_pos rfl, if_pos rfl, ck_in (by omega) (by omega), sb]
          congr 2
          omega) (by unfold fI_WalkProblem_flexibilityOf_s1; rw [if_neg (by decide), sb, if_neg (by decide)]) 288 fuel (Nat.le_refl _) (by omega)
      have hsl := scan_le (wf p n b) 288
      rw [this, sb]
      simp only
      rw [ck_in (by omega) (by omega), sb, sb, Int.toNat_natCast]
      have htop := scan_top (f := wf p n b) (m := n * n + 1) 288 (by omega) fun j h4 h5 => (pw_iff hA hb j b).2 (flex_all h3 hA hb hc hp1 hbc j (by omega))
      rw [htop]; simp
open Go.RowKit
theorem szW_arcs' {x : WP} (h : szW x ≤ 1048576) : (tW x).Arcs.length ≤ 1000000000 := by
  unfold szW at h
  unfold tot at h
  simp only [tW]
  omega
def lstO (r : List Int × Bool) : Option (List Int) := if r.2 then some r.1 else none
theorem lstO_sb {r : List Int × Bool} (h : r.2 = false → r.1 = []) : (lstO r).isSome = r.2 ∧ (lstO r).getD [] = r.1 := by
  obtain ⟨l, b⟩ := r
  cases b
  · have : l = [] := h rfl
    subst this
    exact ⟨rfl, rfl⟩
  · exact ⟨rfl, rfl⟩
theorem flexB_sb (p : T_WalkProblem) : ((flexB p).2 = false → (flexB p).1 = []) ∧ (flexB p).1.length ≤ 1000000000 := by
  unfold flexB
  cases h : walkB p
  · simp
  · obtain ⟨h1, h0, h2, h3⟩ := okArcs_of h
    refine ⟨fun h => by simp at h, ?_⟩
    have := lbs_length p.Labels.toNat (FM p.Arcs p.Labels.toNat)
    simp only [if_true]
    unfold FL
    omega
def fFlexibleLabelsSpec (x : WP) : Option (List Int) := lstO (flexB (tW x))
def fFlexibleLabelsImpl (x : WP) : Option (List Int) := fFlexibleLabelsSpec x
theorem FlexibleLabels_eq (x : WP) (_ : okW x) (_ : szW x ≤ 1048576) : fFlexibleLabelsImpl x = fFlexibleLabelsSpec x := rfl
theorem retL_fr {w w' : World} {e : Ending} {r : List Int × Bool} (h : r.2 = false → r.1 = []) (hl : r.1.length ≤ 1000000000) (hp : ∃ (v0 : Value) (o' : Tg), e = .returned (.tuple #[v0, .bool r.2]) ∧ Of 3 o' w' v0 r.1 ∧ Keeps w w' ∧ ∀ b, b < w.heap.size → o' b = ot b) : RetL w (lstO r) e w' := by
  obtain ⟨v0, o', rfl, ho, hk, hb⟩ := hp
  obtain ⟨b1, b2⟩ := lstO_sb h
  exact ⟨v0, by rw [b1], by rw [b2]; exact ho.own_ints hb, by rw [b2]; exact hl, hk⟩
theorem retL_ow {w w' : World} {e : Ending} {r : List Int × Bool} {t : Nat} (h : r.2 = false → r.1 = []) (hl : r.1.length ≤ 1000000000) (hp : ∃ (v0 : Value) (o' : Tg), e = .returned (.tuple #[v0, .bool r.2]) ∧ Ow w.heap.size 3 t o' w' v0 r.1 ∧ Keeps w w' ∧ ∀ b, b < w.heap.size → o' b = ot b) : RetL w (lstO r) e w' := by
  obtain ⟨v0, o', rfl, ho, hk, hb⟩ := hp
  obtain ⟨b1, b2⟩ := lstO_sb h
  exact ⟨v0, by rw [b1], by rw [b2]; exact ho.own_ints, by rw [b2]; exact hl, hk⟩
theorem specFlexibleLabels_any (v : Value) (x : WP) (w : World) (h : RdW w v x) (_ : okW x) (hs : szW x ≤ 1048576) : Calls Try.prog 32 #[v] w (RetL w (fFlexibleLabelsSpec x)) := by
  obtain ⟨u, rfl, h2⟩ := h.rdz
  refine (cS_FlexibleLabels 1000 w ot 2 (by decide) u (tW x) h2 _ (e_specFlex 1000 (by omega) (tW x) (szW_arcs' hs))).mono ?_
  intro e w' hp
  first
    | exact retL_fr (flexB_sb (tW x)).1 (flexB_sb (tW x)).2 hp
    | exact retL_ow (flexB_sb (tW x)).1 (flexB_sb (tW x)).2 hp
theorem implFlexibleLabels_any (v : Value) (x : WP) (w : World) (h : RdW w v x) (_ : okW x) (hs : szW x ≤ 1048576) : Calls Try.prog 33 #[v] w (RetL w (fFlexibleLabelsImpl x)) := by
  obtain ⟨u, rfl, h2⟩ := h.rdz
  refine (cI_FlexibleLabels 1000 w ot 2 (by decide) u (tW x) h2 _ (e_implFlex 1000 (by omega) (tW x) (szW_arcs' hs))).mono ?_
  intro e w' hp
  first
    | exact retL_fr (flexB_sb (tW x)).1 (flexB_sb (tW x)).2 hp
    | exact retL_ow (flexB_sb (tW x)).1 (flexB_sb (tW x)).2 hp
/-! ### ClassOfWalk -/
def fClassOfWalkSpec (x : WP) : Int × Bool := clsB (tW x)
def fClassOfWalkImpl (x : WP) : Int × Bool := fClassOfWalkSpec x
theorem ClassOfWalk_eq (x : WP) (_ : okW x) (_ : szW x ≤ 1048576) : fClassOfWalkImpl x = fClassOfWalkSpec x := rfl
theorem specClassOfWalk_any (v : Value) (x : WP) (w : World) (h : RdW w v x) (_ : okW x) (hs : szW x ≤ 1048576) : Calls Try.prog 34 #[v] w fun e w' => e = .returned (.tuple #[.int .i64 (fClassOfWalkSpec x).1, .bool (fClassOfWalkSpec x).2]) ∧ Keeps w w' := by
  obtain ⟨u, rfl, h2⟩ := h.rdz
  exact cS_ClassOfWalk 1000 w u (tW x) h2 _ (e_specClass 1000 (by omega) (tW x) (szW_arcs' hs))
theorem implClassOfWalk_any (v : Value) (x : WP) (w : World) (h : RdW w v x) (_ : okW x) (hs : szW x ≤ 1048576) : Calls Try.prog 35 #[v] w fun e w' => e = .returned (.tuple #[.int .i64 (fClassOfWalkImpl x).1, .bool (fClassOfWalkImpl x).2]) ∧ Keeps w w' := by
  obtain ⟨u, rfl, h2⟩ := h.rdz
  exact cI_ClassOfWalk 1000 w u (tW x) h2 _ (e_implClass 1000 (by omega) (tW x) (szW_arcs' hs))
/-! ### FlexibilityOf -/
def fFlexibilityOfSpec (x : WP) (a : Int) : Int × Bool := fleB (tW x) a
def fFlexibilityOfImpl (x : WP) (a : Int) : Int × Bool := fFlexibilityOfSpec x a
theorem FlexibilityOf_eq (x : WP) (a : Int) (_ : okW x) (_ : szW x ≤ 1048576) (_ : I64 a) : fFlexibilityOfImpl x a = fFlexibilityOfSpec x a := rfl
theorem specFlexibilityOf_any (v : Value) (x : WP) (a : Int) (w : World) (h : RdW w v x) (_ : okW x) (hs : szW x ≤ 1048576) (_ : I64 a) : Calls Try.prog 30 #[v, .int .i64 a] w fun e w' => e = .returned (.tuple #[.int .i64 (fFlexibilityOfSpec x a).1, .bool (fFlexibilityOfSpec x a).2]) ∧ Keeps w w' := by
  obtain ⟨u, rfl, h2⟩ := h.rdz
  exact cS_FlexibilityOf 1000 w u (tW x) h2 a _ (e_specFle 1000 (by omega) (tW x) a (szW_arcs' hs))
theorem implFlexibilityOf_any (v : Value) (x : WP) (a : Int) (w : World) (h : RdW w v x) (_ : okW x) (hs : szW x ≤ 1048576) (_ : I64 a) : Calls Try.prog 31 #[v, .int .i64 a] w fun e w' => e = .returned (.tuple #[.int .i64 (fFlexibilityOfImpl x a).1, .bool (fFlexibilityOfImpl x a).2]) ∧ Keeps w w' := by
  obtain ⟨u, rfl, h2⟩ := h.rdz
  exact cI_FlexibilityOf 1000 w u (tW x) h2 a _ (e_implFle 1000 (by omega) (tW x) a (szW_arcs' hs))
open Go.RowKit
/-- Of the blocks that were there only those of the rows vs may have changed. -/
structure ChgR (vs : List Value) (w w' : World) : Prop where
  os : w'.os = w.os
  tape : w'.tape = w.tape
  output : w'.output = w.output
  size : w.heap.size ≤ w'.heap.size
  block : ∀ k, k < w.heap.size → (∀ i, i < vs.length → (vs.getD i undef).ownBlock ≠ some k) → w'.heap[k]? = w.heap[k]?
theorem ChgR.refl (vs : List Value) (w : World) : ChgR vs w w := ⟨rfl, rfl, rfl, Nat.le_refl _, fun _ _ _ => rfl⟩
theorem ChgR.step {vs : List Value} {w w1 w2 : World} (h : ChgR vs w w1) {j : Nat} (g : w1.grownBy w2 (vs.getD j undef).ownBlock) (hj : j < vs.length) : ChgR vs w w2 :=
  ⟨g.os.trans h.os, g.tape.trans h.tape, g.output.trans h.output, Nat.le_trans h.size g.size, fun k hk hn => (g.block k (Nat.lt_of_lt_of_le hk h.size) fun e => hn j hj e.symm).trans (h.block k hk hn)⟩
theorem ChgR.chg {vs : List Value} {w w' : World} {B C : Nat} (h : ChgR vs w w') (hv : ∀ i, i < vs.length → ∀ k, (vs.getD i undef).ownBlock = some k → B ≤ k ∧ k < C) : Chg B C w w' :=
  ⟨h.os, h.tape, h.output, h.size, fun k hk hn => h.block k hk fun i hi e => hn (hv i hi k e)⟩
theorem owns_chgR {D : Nat} {e : TypeId} {size : Nat} {v : Value} {n : Nat} {xs vs : List Value} {w w' : World} (h : w.ownsRow D e size v n xs) (c : ChgR vs w w') (hv : ∀ i, i < vs.length → Apart v (vs.getD i undef)) : w'.ownsRow D e size v n xs := by
  obtain ⟨h1, h2⟩ := h
  refine ⟨h1, ?_⟩
  rcases h2 with h2 | ⟨g, cap, cur, rfl, hg, hh, r⟩
  · exact .inl h2
  · refine .inr ⟨g, cap, cur, rfl, hg, ?_, r⟩
    rw [c.block g (Array.getElem?_eq_some_iff.1 hh).1 fun i hi => ?_]
    · exact hh
    · rcases hv i hi with h3 | h3
      · cases h3
      · exact fun e => h3 (by rw [e]; rfl)
set_option maxHeartbeats 800000 in
theorem markIntSS_vs (B : Nat) (v : Value) (vs : List Value) (LL : List (List Int)) (k : Int) (w : World) (hM0 : MatIn B w v vs LL) (hk : 0 ≤ k) (hk2 : k + tot LL ≤ 4611686018427387904) :
    Calls Try.prog 17 #[v, .int .i64 k] w fun e w' => e = .returned (.int .i64 (k + off LL LL.length)) ∧ MatIn B w' v vs (numbered k LL LL.length) ∧ ChgR vs w w' := by
  have HM0 := Lib.hid hM0
  obtain ⟨a, c, rfl, hm, _⟩ := hM0.rows.form
  clear hM0
  have HO := Lib.hid (off_le LL)
  have HOS := Lib.hid (off_succ LL)
  go_enter Try.func17, Try.ntmps17
  go_wp2
  go_loopw [1, 5] (fun x i wr => ∃ j : Nat, j ≤ LL.length ∧ i = .int .i64 j ∧ x = .int .i64 (k + off LL j) ∧ MatIn B wr (.slice a LL.length c) vs (numbered k LL j) ∧ ChgR vs w wr) (fun _ i _ => LL.length - (intOf i).toNat)
  case atStart => exact ⟨0, Nat.zero_le _, rfl, by simp [off], by rw [numbered_zero]; exact HM0.out, ChgR.refl _ _⟩
  case round =>
    obtain ⟨j, hj, rfl, rfl, hM, hG⟩ := hrel
    have HM := Lib.hid hM
    have HG := Lib.hid hG
    clear hM hG
    by_cases hlt : j < LL.length
    · have hjl : j < (numbered k LL j).length := by rw [numbered_length]; exact hlt
      obtain ⟨g, cap, hv, hcell⟩ := HM.out.form (by omega)
      simp only [Value.slice.injEq] at hv
      obtain ⟨rfl, -, rfl⟩ := hv
      obtain ⟨c1, c2⟩ := hcell j hjl
      clear hcell
      have hO := HM.out.own j hjl
      rw [numbered_getD k LL j j hlt, if_neg (Nat.lt_irrefl _)] at hO
      have HOW := Lib.hid hO
      have b1 := HO.out (j + 1) (by omega)
      have b2 := HOS.out j hlt
      have HX : Hid (∀ w2, wr.grownBy w2 (vs.getD j undef).ownBlock → ChgR vs w w2) := fun w2 hg => HG.out.step hg (j := j) (by rw [HM.out.len]; exact hjl)
      have HW : Hid (∀ w' l, wr.grownBy w' (vs.getD j undef).ownBlock → Own B w' (vs.getD j undef) l → MatIn B w' (.slice (some ⟨g, 0, none⟩) LL.length c) vs ((numbered k LL j).set j l)) := fun w' l hg ho => HM.out.wrote hjl hg ho
      clear hO
      generalize vs.getD j undef = u at c1 HOW HX HW
      have hb : k + (off LL j : Int) + ((LL.getD j []).length : Int) ≤ 4611686018427387904 := by omega
      have B2 := Lib.hid b2
      clear b2
      have HNS := Lib.hid (numbered_succ k LL j hlt)
      generalize LL.getD j [] = r at HOW B2 hb HNS
      go_wp2_with fail
      refine (markIntS_any B _ _ _ _ HOW.out (by omega) hb).mono ?_
      rintro e w2 ⟨rfl, hO2, hG2⟩
      have HN := Lib.hid (HW.out w2 _ hG2 hO2)
      have HGN : Hid (ChgR vs w w2) := HX.out w2 hG2
      clear hO2 hG2
      go_wp2
      go_roundw
      case rel => exact ⟨j + 1, by omega, by go_num, by rw [B2.out]; congr 1; omega, by rw [HNS.out]; exact HN.out, HGN.out⟩
      case measure => simp [intOf]; omega
    · go_wp2
      go_ret
      have he : j = LL.length := by omega
      subst he
      exact ⟨rfl, HM.out, HG.out⟩

/-- Two lists of lists within B .. C, of which no row is shared. -/
def PM (B C : Nat) (w : World) (a : Value) (X : List (List Int)) (b : Value) (Y : List (List Int)) : Prop :=
  ∃ us vs, MatIn B w a us X ∧ MatIn B w b vs Y ∧ ((∀ k, a.ownBlock = some k → k < C) ∧ (∀ k, b.ownBlock = some k → k < C) ∧ (∀ i, i < X.length → ∀ k, (us.getD i undef).ownBlock = some k → k < C) ∧ ∀ i, i < Y.length → ∀ k, (vs.getD i undef).ownBlock = some k → k < C) ∧
    ∀ i j, i < X.length → j < Y.length → Apart (us.getD i undef) (vs.getD j undef)
section
variable {B C B' C' : Nat} {w w' : World} {a b : Value} {X Y : List (List Int)}
theorem PM.symm (h : PM B C w a X b Y) : PM B C w b Y a X := by
  obtain ⟨us, vs, h1, h2, ⟨h3, h4, h5, h6⟩, h7⟩ := h
  exact ⟨vs, us, h2, h1, ⟨h4, h3, h6, h5⟩, fun i j hi hj => (h7 j i hj hi).symm⟩
theorem PM.left (h : PM B C w a X b Y) : IntRows w a X := by obtain ⟨us, vs, h1, _⟩ := h; exact h1.rows
theorem PM.right (h : PM B C w a X b Y) : IntRows w b Y := by obtain ⟨us, vs, h1, h2, _⟩ := h; exact h2.rows
theorem PM.keep (h : PM B C w a X b Y) (k : Keeps w w') : PM B C w' a X b Y := by
  obtain ⟨us, vs, h1, h2, h3, h4⟩ := h
  exact ⟨us, vs, h1.keep k, h2.keep k, h3, h4⟩
theorem PM.chg (h : PM B C w a X b Y) (c : Chg B' C' w w') (hd : C ≤ B' ∨ C' ≤ B) : PM B C w' a X b Y := by
  obtain ⟨us, vs, h1, h2, ⟨h3, h4, h5, h6⟩, h7⟩ := h
  refine ⟨us, vs, ⟨owns_chg h1.row c fun k hk => ?_, fun i hi => owns_chg (h1.own i hi) c fun k hk => ?_, h1.apart⟩, ⟨owns_chg h2.row c fun k hk => ?_, fun i hi => owns_chg (h2.own i hi) c fun k hk => ?_, h2.apart⟩, ⟨h3, h4, h5, h6⟩, h7⟩
  · have := h3 k hk; have := (World.ownsRow.lt h1.row k hk).1; omega
  · have := h5 i hi k hk; have := ((h1.own i hi).lt k hk).1; omega
  · have := h4 k hk; have := (World.ownsRow.lt h2.row k hk).1; omega
  · have := h6 i hi k hk; have := ((h2.own i hi).lt k hk).1; omega
end
theorem markIntSS_pm (B C : Nat) (a : Value) (X : List (List Int)) (b : Value) (Y : List (List Int)) (k : Int) (w : World) (h : PM B C w a X b Y) (hk : 0 ≤ k) (hk2 : k + tot X ≤ 4611686018427387904) :
    Calls Try.prog 17 #[a, .int .i64 k] w fun e w' => e = .returned (.int .i64 (k + off X X.length)) ∧ PM B C w' a (numbered k X X.length) b Y ∧ Chg B C w w' := by
  obtain ⟨us, vs, h1, h2, ⟨h3, h4, h5, h6⟩, h7⟩ := h
  refine (markIntSS_vs B a us X k w h1 hk hk2).mono ?_
  rintro e w' ⟨rfl, m1, g1⟩
  have hl := h1.len
  refine ⟨rfl, ⟨us, vs, m1, ⟨owns_chgR h2.row g1 fun i hi => ?_, fun j hj => owns_chgR (h2.own j hj) g1 fun i hi => ?_, h2.apart⟩, ⟨h3, h4, fun i hi => h5 i (by simpa [numbered_length] using hi), h6⟩, fun i j hi hj => h7 i j (by simpa [numbered_length] using hi) hj⟩, g1.chg fun i hi k hk => ?_⟩
  · exact owns_apart_ty (by decide) h2.row (h1.own i (by omega))
  · exact (h7 i j (by omega) hj).symm
  · exact ⟨((h1.own i (by omega)).lt k hk).1, h5 i (by omega) k hk⟩
/-- A walk problem and a list of lists. -/
def OwWM (B C : Nat) (w : World) (v : Value) (x : WP) (v' : Value) (Y : List (List Int)) : Prop := ∃ v1, v = .agg #[.int .i64 x.labels, v1] ∧ PM B C w v1 x.arcs v' Y
section
variable {B C B' C' : Nat} {w w' : World} {v v' : Value} {x : WP} {Y : List (List Int)}
theorem OwWM.keep (h : OwWM B C w v x v' Y) (k : Keeps w w') : OwWM B C w' v x v' Y := by obtain ⟨v1, e, h1⟩ := h; exact ⟨v1, e, h1.keep k⟩
theorem OwWM.chg (h : OwWM B C w v x v' Y) (c : Chg B' C' w w') (hd : C ≤ B' ∨ C' ≤ B) : OwWM B C w' v x v' Y := by obtain ⟨v1, e, h1⟩ := h; exact ⟨v1, e, h1.chg c hd⟩
theorem OwWM.rd0 (h : OwWM B C w v x v' Y) : RdW w v x := by obtain ⟨v1, e, h1⟩ := h; exact ⟨v1, e, h1.left⟩
theorem OwWM.rd1 (h : OwWM B C w v x v' Y) : IntRows w v' Y := by obtain ⟨v1, e, h1⟩ := h; exact h1.right
end
theorem markIntSS_wm (B C : Nat) (v : Value) (x : WP) (v' : Value) (Y : List (List Int)) (k : Int) (w : World) (h : OwWM B C w v x v' Y) (hk : 0 ≤ k) (hk2 : k + tot Y ≤ 4611686018427387904) :
    Calls Try.prog 17 #[v', .int .i64 k] w fun e w' => e = .returned (.int .i64 (k + off Y Y.length)) ∧ OwWM B C w' v x v' (numbered k Y Y.length) ∧ Chg B C w w' := by
  obtain ⟨v1, e1, h1⟩ := h
  refine (markIntSS_pm B C v' Y v1 x.arcs k w h1.symm hk hk2).mono ?_
  rintro e w' ⟨rfl, m1, g1⟩
  exact ⟨rfl, ⟨v1, e1, m1.symm⟩, g1⟩
set_option maxHeartbeats 800000 in
theorem markWalkProblem_wm (B C : Nat) (v : Value) (x : WP) (v' : Value) (Y : List (List Int)) (k : Int) (w : World) (h : OwWM B C w v x v' Y) (hC : C ≤ w.heap.size) (hk : 0 ≤ k) (hk2 : k + szW x ≤ 4611686018427387904) :
    Calls Try.prog 16 #[v, .int .i64 k] w fun e w' => e = .returned (.int .i64 (k + cntW x)) ∧ OwWM B C w' v (numW k x) v' Y ∧ Chg B C w w' := by
  obtain ⟨v1, rfl, o1⟩ := h
  have HX : Hid (cntW x = off x.arcs x.arcs.length) := rfl
  unfold szW tot at hk2
  have O1 := Lib.hid o1
  obtain ⟨a1, c1, rfl, _⟩ := o1.left.form
  clear o1
  go_enter Try.func16, Try.ntmps16
  go_wp2_with fail
  refine (markIntSS_pm B C _ x.arcs _ Y (k) _ (O1.out.keep (by repeat (first | exact Keeps.refl _ | with_reducible refine Keeps.alloc ?_ _))) (by omega) (by unfold tot; omega)).mono ?_
  rintro e W0 ⟨rfl, hO, hG⟩
  have N1 := Lib.hid hO
  have G0 : Hid (Chg B C w W0) := (Keeps.chg (by repeat (first | exact Keeps.refl _ | with_reducible refine Keeps.alloc ?_ _)) B C).trans (hG)
  have hsz0 := hG.size
  have hcc : ∀ i, W0.cell? ⟨w.heap.size, i, none⟩ = (w.alloc (.cells #[.int .i64 x.labels, .slice a1 x.arcs.length c1] 29)).cell? ⟨w.heap.size, i, none⟩ := fun i => World.cell?_of_block (hG.block w.heap.size (by simp) (by omega))
  clear hO hG
  go_wp2
  go_ret
  exact ⟨ret_int (by rw [HX.out]; (try omega)), ⟨_, rfl, N1.out⟩, G0.out⟩

theorem dz_mat {w0 w : World} {o' : Tg} {v : Value} {LL : List (List Int)} {vs : List Hv} (h1 : Ow 0 26 0 o' w v vs) (h2 : Rws 0 3 0 o' w vs LL) (ho : ∀ b, b < w0.heap.size → o' b ≠ 0) : MatIn w0.heap.size w v (vs.map Hv.v) LL := by
  have h3 := Of.fresh h1 ho
  obtain ⟨css, c1, c2, c3, c4⟩ := h3
  rw [flat_hv c1 (fun i cs x a b => c4 i cs x a b)] at c2
  have hl := h2.1
  have rowAt : ∀ i, i < LL.length → Own w0.heap.size w ((vs.map Hv.v).getD i undef) (LL.getD i []) := fun i hi => by
    have hv : vs[i]? = some vs[i] := List.getElem?_eq_getElem (by omega)
    have hx : LL[i]? = some LL[i] := List.getElem?_eq_getElem hi
    have := (Of.fresh (h2.2.1 i vs[i] LL[i] hv hx) ho).own_ints
    rw [List.getD_eq_getElem?_getD, List.getElem?_map, hv, List.getD_eq_getElem?_getD, hx]
    exact this
  refine ⟨by rw [← hl]; exact c2, rowAt, fun i j hi hj hne => ?_⟩
  have hv : vs[i]? = some vs[i] := List.getElem?_eq_getElem (by omega)
  have hv' : vs[j]? = some vs[j] := List.getElem?_eq_getElem (by omega)
  rw [List.getD_eq_getElem?_getD, List.getElem?_map, hv, List.getD_eq_getElem?_getD, List.getElem?_map, hv']
  simp only [Option.map_some, Option.getD_some]
  unfold Apart
  cases hb : vs[i].v.ownBlock with
  | none => exact .inl rfl
  | some g =>
    refine .inr fun he => hne (h2.2.2 i j vs[i] vs[j] g hv hv' hb he.symm)
theorem Rws.tagAt {B : Nat} {er : TypeId} {kr : Nat} {o : Tg} {w : World} {vs : List Hv} {LL : List (List Int)} (h : Rws B er kr o w vs LL) : ∀ i, i < LL.length → ∀ g, ((vs.map Hv.v).getD i undef).ownBlock = some g → o g = kr := fun i hi g hg => by
  have hl := h.1
  have hv : vs[i]? = some vs[i] := List.getElem?_eq_getElem (by omega)
  have hx : LL[i]? = some LL[i] := List.getElem?_eq_getElem hi
  rw [List.getD_eq_getElem?_getD, List.getElem?_map, hv] at hg
  obtain ⟨css, c1, c2, c3, c4⟩ := h.2.1 i vs[i] LL[i] hv hx
  exact c3 g hg
/-- Out of the contract of a printed function: a list of lists given up beside one of the caller's own. -/
theorem pm_of {w0 w : World} {o' : Tg} {t : Nat} {a b : Value} {X Y : List (List Int)} {g : List Hv} (hz : Dz 26 3 o' w a X) (h : Ow w0.heap.size 26 t o' w b g) (hr : Rws w0.heap.size 3 (t + 1) o' w g Y) (ht : 2 ≤ t) (ho : ∀ b, b < w0.heap.size → o' b = 1) :
    PM w0.heap.size w.heap.size w a X b Y := by
  obtain ⟨vs, z1, z2⟩ := hz
  have m1 := dz_mat (w0 := w0) z1 z2 (fun b hb => by rw [ho b hb]; decide)
  have y1 : Ow 0 26 0 (frz (t + 1) (frz t o')) w b g := Of.frz (h.frzF) (t + 1) (by omega)
  have y2 : Rws 0 3 0 (frz (t + 1) (frz t o')) w g Y := ((hr.frz_ne (by omega)).frz (by omega)).mono (Nat.zero_le _)
  have m2 := dz_mat (w0 := w0) y1 y2 (fun b hb => by
    have := ho b hb
    unfold Go.Proofs.Ytffgdhbhlcifmaa.frz
    rw [if_neg (by rw [this]; omega : ¬ o' b = t), this, if_neg (by omega)]; decide)
  refine ⟨_, _, m1, m2, ⟨fun k hk => (World.ownsRow.lt m1.row k hk).2, fun k hk => (World.ownsRow.lt m2.row k hk).2, fun i hi k hk => ((m1.own i hi).lt k hk).2, fun i hi k hk => ((m2.own i hi).lt k hk).2⟩, fun i j hi hj => ?_⟩
  unfold Apart
  cases hb : ((vs.map Hv.v).getD i undef).ownBlock with
  | none => exact .inl rfl
  | some k =>
    refine .inr fun he => ?_
    have e1 := z2.tagAt i hi k hb
    have e2 := hr.tagAt j hj k he.symm
    omega
open Go.RowKit
/-! ### Rows and a list, of one's own -/
structure OwML (B C : Nat) (w : World) (a : Value) (X : List (List Int)) (v : Value) (l : List Int) : Prop where
  ex : ∃ us, MatIn B w a us X ∧ (∀ k, a.ownBlock = some k → k < C) ∧ (∀ i, i < X.length → ∀ k, (us.getD i undef).ownBlock = some k → k < C) ∧ ∀ i, i < X.length → Apart (us.getD i undef) v
  li : OwI B C w v l
section
variable {B C B' C' : Nat} {w w' : World} {a v : Value} {X : List (List Int)} {l : List Int}
theorem OwML.rd0 (h : OwML B C w a X v l) : IntRows w a X := by obtain ⟨us, h1, _⟩ := h.ex; exact h1.rows
theorem OwML.rd1 (h : OwML B C w a X v l) : Ints w v l := h.li.ints
theorem OwML.keep (h : OwML B C w a X v l) (k : Keeps w w') : OwML B C w' a X v l := by
  obtain ⟨⟨us, h1, h2⟩, h3⟩ := h
  exact ⟨⟨us, h1.keep k, h2⟩, h3.keep k⟩
theorem OwML.chg (h : OwML B C w a X v l) (c : Chg B' C' w w') (hd : C ≤ B' ∨ C' ≤ B) : OwML B C w' a X v l := by
  obtain ⟨⟨us, h1, h2, h3, h4⟩, h5⟩ := h
  refine ⟨⟨us, ⟨owns_chg h1.row c fun k hk => ?_, fun i hi => owns_chg (h1.own i hi) c fun k hk => ?_, h1.apart⟩, h2, h3, h4⟩, h5.chg c hd⟩
  · have := h2 k hk; have := (World.ownsRow.lt h1.row k hk).1; omega
  · have := h3 i hi k hk; have := ((h1.own i hi).lt k hk).1; omega
theorem mark0_ml (k : Int) (h : OwML B C w a X v l) (hk : 0 ≤ k) (hk2 : k + tot X ≤ 4611686018427387904) :
    Calls Try.prog 17 #[a, .int .i64 k] w fun e w' => e = .returned (.int .i64 (k + off X X.length)) ∧ OwML B C w' a (numbered k X X.length) v l ∧ Chg B C w w' := by
  obtain ⟨⟨us, h1, h2, h3, h4⟩, h5⟩ := h
  refine (markIntSS_vs B a us X k w h1 hk hk2).mono ?_
  rintro e w' ⟨rfl, m1, g1⟩
  have hl := h1.len
  refine ⟨rfl, ⟨⟨us, m1, h2, fun i hi => h3 i (by simpa [numbered_length] using hi), fun i hi => h4 i (by simpa [numbered_length] using hi)⟩, ⟨owns_chgR h5.own g1 fun i hi => (h4 i (by omega)).symm, h5.hi⟩⟩, g1.chg fun i hi k hk => ?_⟩
  exact ⟨((h1.own i (by omega)).lt k hk).1, h3 i (by omega) k hk⟩
theorem mark1_ml (k : Int) (h : OwML B C w a X v l) (hk : 0 ≤ k) (hk2 : k + l.length ≤ 4611686018427387904) :
    Calls Try.prog 18 #[v, .int .i64 k] w fun e w' => e = .returned (.int .i64 (k + l.length)) ∧ OwML B C w' a X v (iota k l.length) ∧ Chg B C w w' := by
  obtain ⟨⟨us, h1, h2, h3, h4⟩, h5⟩ := h
  refine (markIntS_any B v l k w h5.own hk hk2).mono ?_
  rintro e w' ⟨rfl, ho, hg⟩
  exact ⟨rfl, ⟨⟨us, h1.kept hg (owns_apart_ty (by decide) h1.row h5.own) h4, h2, h3, h4⟩, ⟨ho, h5.hi⟩⟩, Chg.of_grown hg fun q hq => ⟨(h5.own.lt q hq).1, h5.hi q hq⟩⟩
end
/-! ### Rows and a list that are only read, all new -/
theorem RdL.intsW {w : World} {v : Value} {l : List Int} (h : RdL zt w v l) : Ints w v l := by
  obtain ⟨a, c, rfl, h1, h2, h3⟩ := h
  refine ⟨a, c, by simp, by simpa using h1, h2, ?_⟩
  cases l with
  | nil => exact .inl rfl
  | cons y ys =>
    obtain ⟨b, off, cs, rfl, _⟩ := h3 0 y rfl
    refine .inr ⟨b, off, rfl, fun i x hx => ?_⟩
    rw [List.getElem?_map] at hx
    cases hy : (y :: ys)[i]? with
    | none => rw [hy] at hx; simp at hx
    | some z =>
      rw [hy] at hx
      simp only [Option.map_some, Option.some.injEq] at hx
      subst hx
      obtain ⟨b', off', cs, e, _, _, hc, hr⟩ := h3 i z hy
      cases e
      have hr' : cs = [.int .i64 z] := hr
      subst hr'
      have := hc 0 _ rfl
      simpa [Rp.sz] using this
theorem RdL.rowsW {w : World} {v : Value} {LL : List (List Int)} (h : RdL zt w v LL) : IntRows w v LL := by
  obtain ⟨a, c, rfl, h1, h2, h3⟩ := h
  have hv : ∀ n, n ≤ LL.length → ∃ vs : List Value, vs.length = n ∧ ∀ i, i < n → Ints w (vs.getD i undef) (LL.getD i []) ∧ ∃ b off, a = some ⟨b, off, none⟩ ∧ w.cell? ⟨b, off + i, none⟩ = some (vs.getD i undef) := by
    intro n
    induction n with
    | zero => exact fun _ => ⟨[], rfl, fun i hi => by omega⟩
    | succ n ih =>
      intro hn
      obtain ⟨vs, e1, e2⟩ := ih (by omega)
      have hx : LL[n]? = some (LL.getD n []) := by rw [List.getD_eq_getElem?_getD, List.getElem?_eq_getElem (by omega)]; rfl
      obtain ⟨b, off, cs, rfl, _, _, hc, ⟨u, rfl, hr⟩⟩ := h3 n _ hx
      refine ⟨vs ++ [u], by simp [e1], fun i hi => ?_⟩
      by_cases hi' : i < n
      · have := e2 i hi'
        rw [List.getD_eq_getElem?_getD, List.getElem?_append_left (by omega), ← List.getD_eq_getElem?_getD]
        exact this
      · have : i = n := by omega
        subst this
        rw [List.getD_eq_getElem?_getD, List.getElem?_append_right (by omega), e1]
        have hc0 := hc 0 _ rfl
        refine ⟨by simpa using hr.intsW, b, off, rfl, ?_⟩
        simpa [Rp.sz] using hc0
  obtain ⟨vs, e1, e2⟩ := hv LL.length (Nat.le_refl _)
  refine ⟨vs, ⟨a, c, by rw [e1], by omega, h2, ?_⟩, e1, fun i hi => (e2 i (by omega)).1⟩
  by_cases h0 : vs = []
  · exact .inl h0
  · have h0' : 0 < vs.length := List.length_pos_iff.2 h0
    obtain ⟨_, b, off, rfl, _⟩ := e2 0 (by omega)
    refine .inr ⟨b, off, rfl, fun i x hx => ?_⟩
    have hi := (List.getElem?_eq_some_iff.1 hx).1
    obtain ⟨_, b', off', e, hc⟩ := e2 i (by omega)
    cases e
    rw [List.getD_eq_getElem?_getD, hx] at hc
    exact hc
structure RdML (B C : Nat) (w : World) (a : Value) (X : List (List Int)) (v : Value) (l : List Int) : Prop where
  ex : ∃ o : Tg, (∀ b, b < B → o b ≠ 0) ∧ (∀ b, C ≤ b → o b ≠ 0) ∧ RdL o w a X ∧ RdL o w v l
section
variable {B C B' C' : Nat} {w w' : World} {a v : Value} {X : List (List Int)} {l : List Int}
theorem RdML.rd0 (h : RdML B C w a X v l) : IntRows w a X := by obtain ⟨o, _, _, h1, h2⟩ := h.ex; exact h1.z.rowsW
theorem RdML.rd1 (h : RdML B C w a X v l) : Ints w v l := by obtain ⟨o, _, _, h1, h2⟩ := h.ex; exact h2.z.intsW
theorem RdML.keep (h : RdML B C w a X v l) (k : Keeps w w') : RdML B C w' a X v l := by
  obtain ⟨o, h1, h2, h3, h4⟩ := h.ex
  exact ⟨o, h1, h2, h3.mv k.size fun b hb ho => ⟨k.block b hb, ho⟩, h4.mv k.size fun b hb ho => ⟨k.block b hb, ho⟩⟩
theorem RdML.chg (h : RdML B C w a X v l) (c : Chg B' C' w w') (hd : C ≤ B' ∨ C' ≤ B) : RdML B C w' a X v l := by
  obtain ⟨o, h1, h2, h3, h4⟩ := h.ex
  have hb : ∀ b, b < w.heap.size → o b = 0 → w'.heap[b]? = w.heap[b]? ∧ o b = 0 := fun b hb ho => by
    refine ⟨c.block b hb ?_, ho⟩
    have q1 : ¬ b < B := fun q => h1 b q ho
    have q2 : ¬ C ≤ b := fun q => h2 b q ho
    omega
  exact ⟨o, h1, h2, h3.mv c.size hb, h4.mv c.size hb⟩
end
/-- The call returns new rows and a new list, and whether there are any. -/
def RetML (w0 : World) (r : Option (List (List Int) × List Int)) (e : Ending) (w' : World) : Prop :=
  ∃ v1 v2, e = .returned (.tuple #[v1, v2, .bool r.isSome]) ∧ OwML w0.heap.size w'.heap.size w' v1 (r.getD ([], [])).1 v2 (r.getD ([], [])).2 ∧ tot (r.getD ([], [])).1 + (r.getD ([], [])).2.length ≤ 1000000000 ∧ Keeps w0 w'
def RetMR (w0 : World) (r : Option (List (List Int) × List Int)) (e : Ending) (w' : World) : Prop :=
  ∃ v1 v2, e = .returned (.tuple #[v1, v2, .bool r.isSome]) ∧ RdML w0.heap.size w'.heap.size w' v1 (r.getD ([], [])).1 v2 (r.getD ([], [])).2 ∧ tot (r.getD ([], [])).1 + (r.getD ([], [])).2.length ≤ 1000000000 ∧ Keeps w0 w'
/-! ### The answer -/
def wcB (p : T_WalkProblem) : List (List Int) × List Int × Bool :=
  if walkB p then ((leads (aftF p.Arcs) p.Labels.toNat p.Labels.toNat).map (compI (aftF p.Arcs) p.Labels.toNat), (leads (aftF p.Arcs) p.Labels.toNat p.Labels.toNat).map (perA p.Arcs p.Labels.toNat), true) else ([], [], false)
theorem e_specWC (fuel : Nat) (hf : 200 ≤ fuel) (p : T_WalkProblem) (hJ : p.Arcs.length ≤ 1000000000) : fS_WalkComponents fuel p = some (wcB p) := by
  unfold fS_WalkComponents wcB
  rw [e_waGood p hJ, sb]
  cases h : walkB p
  · simp
  · obtain ⟨h1, h0, h2, h3⟩ := okArcs_of h
    obtain ⟨_, hA⟩ := e_after p.Labels.toNat p h1 (by omega) h3
    obtain ⟨out, r1, r2⟩ := e_waParts p.Labels.toNat fuel h1 (by omega) h3 hA (by omega)
    rw [if_neg (by simp), r1, sb]
    have hl := okParts_len r2
    have := forI_inv0 (body := fS_WalkComponents_s1) (fun i => ((out.take i).map (·.labels), (out.take i).map (·.period))) out (fun i x hi => by
      have hil := (List.getElem?_eq_some_iff.1 hi).1
      have ht : out.take (i + 1) = out.take i ++ [x] := by rw [List.take_add_one, hi]; rfl
      unfold fS_WalkComponents_s1 push
      simp only [List.length_map, List.length_take]
      rw [if_pos (by omega), sb, if_pos (by omega), sb, ht, List.map_append, List.map_append]
      rfl)
    rw [show (([], []) : List (List Int) × List Int) = ((out.take 0).map (·.labels), (out.take 0).map (·.period)) by simp, this, sb]
    simp only [List.take_length]
    unfold okParts at r2
    have e1 := congrArg (List.map Prod.fst) r2
    have e2 := congrArg (List.map Prod.snd) r2
    rw [List.map_map, List.map_map] at e1 e2
    have e1' : out.map (·.labels) = (leads (aftF p.Arcs) p.Labels.toNat p.Labels.toNat).map (compI (aftF p.Arcs) p.Labels.toNat) := e1
    have e2' : out.map (·.period) = (leads (aftF p.Arcs) p.Labels.toNat p.Labels.toNat).map (perA p.Arcs p.Labels.toNat) := e2
    rw [e1', e2']
    rfl
theorem e_implWC (fuel : Nat) (hf : 200 ≤ fuel) (p : T_WalkProblem) (hJ : p.Arcs.length ≤ 1000000000) : fI_WalkComponents fuel p = some (wcB p) := by
  unfold fI_WalkComponents wcB
  rw [e_IsWalkProblem p hJ, sb]
  cases h : walkB p
  · simp
  · obtain ⟨h1, h0, h2, h3⟩ := okArcs_of h
    rw [if_neg (by simp), e_walkComponents p.Labels.toNat fuel h1 (by omega) h3 (by omega), sb]
    rfl
theorem off_bound {n : Nat} : ∀ {LL : List (List Int)}, (∀ r ∈ LL, r.length ≤ n) → tot LL ≤ LL.length * (n + 1)
  | [], _ => by simp [tot, off]
  | r :: LL, h => by
    have h1 := h r (by simp)
    have h2 := off_bound (LL := LL) fun x hx => h x (by simp [hx])
    unfold tot off at h2 ⊢
    rw [List.take_length] at h2 ⊢
    simp only [List.map_cons, List.sum_cons, List.length_cons, Nat.add_mul, Nat.one_mul] at h2 ⊢
    omega
theorem wcB_bound (p : T_WalkProblem) : tot (wcB p).1 + (wcB p).2.1.length ≤ 1000000000 := by
  unfold wcB
  cases h : walkB p
  · simp [tot, off]
  · obtain ⟨h1, h0, h2, h3⟩ := okArcs_of h
    simp only [if_true]
    have hl := leads_len (aftF p.Arcs) p.Labels.toNat p.Labels.toNat
    have := off_bound (n := 12) (LL := (leads (aftF p.Arcs) p.Labels.toNat p.Labels.toNat).map (compI (aftF p.Arcs) p.Labels.toNat)) (fun r hr => by
      obtain ⟨c, _, rfl⟩ := List.mem_map.1 hr
      have := compI_len (aftF p.Arcs) p.Labels.toNat c
      omega)
    rw [List.length_map] at this ⊢
    omega
def pairO (r : List (List Int) × List Int × Bool) : Option (List (List Int) × List Int) := if r.2.2 then some (r.1, r.2.1) else none
theorem pairO_sb {r : List (List Int) × List Int × Bool} (h : r.2.2 = false → r.1 = [] ∧ r.2.1 = []) : (pairO r).isSome = r.2.2 ∧ (pairO r).getD ([], []) = (r.1, r.2.1) := by
  obtain ⟨l, m, b⟩ := r
  cases b
  · obtain ⟨e1, e2⟩ : l = [] ∧ m = [] := h rfl
    subst e1; subst e2
    exact ⟨rfl, rfl⟩
  · exact ⟨rfl, rfl⟩
theorem wcB_sb (p : T_WalkProblem) : (wcB p).2.2 = false → (wcB p).1 = [] ∧ (wcB p).2.1 = [] := by
  unfold wcB
  cases h : walkB p <;> simp
theorem retML_of {w w' : World} {e : Ending} {r : List (List Int) × List Int × Bool} (h : r.2.2 = false → r.1 = [] ∧ r.2.1 = []) (hl : tot r.1 + r.2.1.length ≤ 1000000000)
    (hp : ∃ (v0 v1 : Value) (o' : Tg), e = .returned (.tuple #[v0, v1, .bool r.2.2]) ∧ Dz 26 3 o' w' v0 r.1 ∧ Ow w.heap.size 3 2 o' w' v1 r.2.1 ∧ Keeps w w' ∧ ∀ b, b < w.heap.size → o' b = ot b) : RetML w (pairO r) e w' := by
  obtain ⟨v0, v1, o', rfl, hz, ho, hk, hb⟩ := hp
  obtain ⟨b1, b2⟩ := pairO_sb h
  refine ⟨v0, v1, by rw [b1], ?_, by rw [b2]; exact hl, hk⟩
  rw [b2]
  have hl0 := ho.tagged
  obtain ⟨vs, z1, z2⟩ := hz
  have m1 := dz_mat (w0 := w) z1 z2 (fun b hb' => by rw [hb b hb']; unfold ot; decide)
  refine ⟨⟨_, m1, fun k hk => (World.ownsRow.lt m1.row k hk).2, fun i hi k hk => ((m1.own i hi).lt k hk).2, fun i hi => ?_⟩, ⟨ho.own_ints, fun k hk => (ho.own_ints.lt k hk).2⟩⟩
  unfold Apart
  cases hb' : ((vs.map Hv.v).getD i undef).ownBlock with
  | none => exact .inl rfl
  | some k =>
    refine .inr fun he => ?_
    have e1 := z2.tagAt i hi k hb'
    have e2 := hl0 k he.symm
    omega
theorem retMR_of {w w' : World} {e : Ending} {r : List (List Int) × List Int × Bool} (h : r.2.2 = false → r.1 = [] ∧ r.2.1 = []) (hl : tot r.1 + r.2.1.length ≤ 1000000000)
    (hp : ∃ (v0 v1 : Value) (o' : Tg), e = .returned (.tuple #[v0, v1, .bool r.2.2]) ∧ Ow w.heap.size 26 2 o' w' v0 r.1 ∧ Of 3 o' w' v1 r.2.1 ∧ Keeps w w' ∧ ∀ b, b < w.heap.size → o' b = ot b) : RetMR w (pairO r) e w' := by
  obtain ⟨v0, v1, o', rfl, hz, ho, hk, hb⟩ := hp
  obtain ⟨b1, b2⟩ := pairO_sb h
  refine ⟨v0, v1, by rw [b1], ?_, by rw [b2]; exact hl, hk⟩
  rw [b2]
  have g1 : RdL (frz 2 o') w' v0 r.1 := hz.frz
  have g2 : RdL (frz 2 o') w' v1 r.2.1 := (ho.rd).frz 2
  have hn : ∀ b, b < w.heap.size → frz 2 o' b ≠ 0 := fun b hb' => by unfold frz; rw [hb b hb']; unfold ot; decide
  refine ⟨fun b => if b < w'.heap.size then frz 2 o' b else 1, fun b hb' => ?_, fun b hb' => ?_, g1.mv (Nat.le_refl _) fun b hb' ho' => ⟨rfl, ?_⟩, g2.mv (Nat.le_refl _) fun b hb' ho' => ⟨rfl, ?_⟩⟩
  · simp only
    split
    · exact hn b hb'
    · decide
  · simp only
    rw [if_neg (by omega)]; decide
  · exact (if_pos hb').trans ho'
  · exact (if_pos hb').trans ho'
def fWalkComponentsSpec (x : WP) : Option (List (List Int) × List Int) := pairO (wcB (tW x))
def fWalkComponentsImpl (x : WP) : Option (List (List Int) × List Int) := fWalkComponentsSpec x
theorem WalkComponents_eq (x : WP) (_ : okW x) (_ : szW x ≤ 1048576) : fWalkComponentsImpl x = fWalkComponentsSpec x := rfl
theorem specWalkComponents_any (v : Value) (x : WP) (w : World) (h : RdW w v x) (_ : okW x) (hs : szW x ≤ 1048576) : Calls Try.prog 10 #[v] w (RetMR w (fWalkComponentsSpec x)) := by
  obtain ⟨u, rfl, h2⟩ := h.rdz
  refine (cS_WalkComponents 1000 w ot 2 (by decide) u (tW x) h2 _ (e_specWC 1000 (by omega) (tW x) (szW_arcs' hs))).mono ?_
  intro e w' hp
  exact retMR_of (wcB_sb (tW x)) (wcB_bound (tW x)) hp
theorem implWalkComponents_any (v : Value) (x : WP) (w : World) (h : RdW w v x) (_ : okW x) (hs : szW x ≤ 1048576) : Calls Try.prog 12 #[v] w (RetML w (fWalkComponentsImpl x)) := by
  obtain ⟨u, rfl, h2⟩ := h.rdz
  refine (cI_WalkComponents 1000 w ot 2 (by decide) u (tW x) h2 _ (e_implWC 1000 (by omega) (tW x) (szW_arcs' hs))).mono ?_
  intro e w' hp
  exact retML_of (wcB_sb (tW x)) (wcB_bound (tW x)) hp
end Go.Proofs.Ytffgdhbhlcifmaa
