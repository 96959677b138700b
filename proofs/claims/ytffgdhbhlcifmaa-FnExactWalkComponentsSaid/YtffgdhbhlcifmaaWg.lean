/- Walks in a graph, their lengths, and the period of a component: what knows no program. -/
import Derived.Test.YtffgdhbhlcifmaaPl
namespace Go.Proofs.Ytffgdhbhlcifmaa
set_option linter.unusedSimpArgs false
set_option linter.unusedVariables false

section
variable {E : Nat → Nat → Prop} {n : Nat}
/-- A walk of k arcs. -/
def Wk (E : Nat → Nat → Prop) : Nat → Nat → Nat → Prop
  | 0, a, b => a = b
  | k + 1, a, b => ∃ c, Wk E k a c ∧ E c b
theorem Wk.add : ∀ {k j a b c : Nat}, Wk E j a c → Wk E k c b → Wk E (j + k) a b
  | 0, j, a, b, c, h1, h2 => by have : c = b := h2; subst this; exact h1
  | k + 1, j, a, b, c, h1, ⟨d, h2, h3⟩ => ⟨d, h1.add h2, h3⟩
theorem Wk.one {a b : Nat} (h : E a b) : Wk E 1 a b := ⟨a, rfl, h⟩
theorem Wk.split : ∀ {k j a b : Nat}, Wk E (j + k) a b → ∃ c, Wk E j a c ∧ Wk E k c b
  | 0, j, a, b, h => ⟨b, h, rfl⟩
  | k + 1, j, a, b, ⟨d, h1, h2⟩ => by
    obtain ⟨c, h3, h4⟩ := Wk.split (k := k) (j := j) h1
    exact ⟨c, h3, d, h4, h2⟩
theorem Wk.path : ∀ {k a b : Nat}, Wk E k a b → ∃ f : Nat → Nat, f 0 = a ∧ f k = b ∧ ∀ i, i < k → E (f i) (f (i + 1))
  | 0, a, b, h => ⟨fun _ => a, rfl, h, fun i hi => by omega⟩
  | k + 1, a, b, ⟨c, h1, h2⟩ => by
    obtain ⟨f, h3, h4, h5⟩ := h1.path
    refine ⟨fun i => if i ≤ k then f i else b, by simp [h3], if_neg (by omega), fun i hi => ?_⟩
    by_cases e : i < k
    · simp only [show i ≤ k by omega, show i + 1 ≤ k by omega, if_true]
      exact h5 i e
    · have : i = k := by omega
      subst this
      simp only [Nat.le_refl, if_true, show ¬ i + 1 ≤ i by omega, if_false]
      rw [h4]; exact h2
theorem Wk.seg {f : Nat → Nat} {k : Nat} (h : ∀ i, i < k → E (f i) (f (i + 1))) : ∀ d i, i + d ≤ k → Wk E d (f i) (f (i + d))
  | 0, i, _ => rfl
  | d + 1, i, hd => ⟨f (i + d), Wk.seg h d i (by omega), h (i + d) (by omega)⟩
theorem nodupN_le : ∀ (n : Nat) (s : List Nat), (∀ x, x ∈ s → x < n) → s.Nodup → s.length ≤ n
  | 0, s, h, _ => by
    cases s with
    | nil => simp
    | cons a s => have := h a (by simp); omega
  | n + 1, s, h, nd => by
    by_cases hm : n ∈ s
    · have h1 := nodupN_le n (s.erase n) (fun x hx => by
        have h2 := h x (List.mem_of_mem_erase hx)
        have h3 : x ≠ n := fun e => by subst e; exact (List.Nodup.not_mem_erase nd) hx
        omega) (nd.erase _)
      rw [List.length_erase_of_mem hm] at h1
      omega
    · exact Nat.le_succ_of_le (nodupN_le n s (fun x hx => by
        have h2 := h x hx
        have h3 : x ≠ n := fun e => by subst e; exact hm hx
        omega) nd)
theorem Wk.lt (hE : ∀ a b, E a b → a < n ∧ b < n) {k a b : Nat} (ha : a < n) (h : Wk E k a b) : b < n := by
  cases k with
  | zero => have : a = b := h; omega
  | succ k => obtain ⟨c, _, h2⟩ := h; exact (hE _ _ h2).2
/-- A walk may be had with less than n arcs. -/
theorem Wk.short (hE : ∀ a b, E a b → a < n ∧ b < n) {a b : Nat} (ha : a < n) : ∀ {k : Nat}, Wk E k a b → ∃ m, m < n ∧ m ≤ k ∧ Wk E m a b := by
  intro k
  induction k using Nat.strongRecOn with
  | _ k ih =>
    intro h
    by_cases hk : k < n
    · exact ⟨k, hk, Nat.le_refl _, h⟩
    obtain ⟨f, h0, h1, h2⟩ := h.path
    have hf : ∀ i, i ≤ k → f i < n := fun i hi => by
      cases i with
      | zero => rw [h0]; exact ha
      | succ i => exact (hE _ _ (h2 i (by omega))).2
    have hex : ∃ i j, i < j ∧ j ≤ k ∧ f i = f j := by
      apply Classical.byContradiction
      intro hno
      have hnd : ((List.range (k + 1)).map f).Nodup := by
        rw [List.Nodup, List.pairwise_map]
        refine List.Pairwise.imp_of_mem (fun {i j} hi hj hij e => hno ⟨i, j, hij, ?_, e⟩) List.pairwise_lt_range
        have := List.mem_range.1 hj
        omega
      have := nodupN_le n _ (fun x hx => by
        obtain ⟨i, hi, rfl⟩ := List.mem_map.1 hx
        exact hf i (by have := List.mem_range.1 hi; omega)) hnd
      simp at this
      omega
    obtain ⟨i, j, hij, hj, e⟩ := hex
    have w1 := Wk.seg h2 i 0 (by omega)
    have w2 := Wk.seg h2 (k - j) j (by omega)
    rw [Nat.zero_add, h0, e] at w1
    rw [show j + (k - j) = k by omega, h1] at w2
    obtain ⟨m, h3, h4, h5⟩ := ih (i + (k - j)) (by omega) (w1.add w2)
    exact ⟨m, h3, by omega, h5⟩
theorem Wk.short1 (hE : ∀ a b, E a b → a < n ∧ b < n) {a b k : Nat} (h : Wk E (k + 1) a b) : ∃ m, 1 ≤ m ∧ m ≤ n ∧ Wk E m a b := by
  obtain ⟨c, h1, h2⟩ := Wk.split (j := 1) (k := k) (by rw [Nat.add_comm]; exact h)
  obtain ⟨d, h3, h4⟩ := h1
  have hd : a = d := h3
  subst hd
  have hc := (hE _ _ h4).2
  obtain ⟨m, h5, _, h6⟩ := h2.short hE hc
  exact ⟨1 + m, by omega, by omega, (Wk.one h4).add h6⟩
/-! ### Potentials -/
theorem tele {g : Int} {d : Nat → Int} (h : ∀ x y, E x y → g ∣ d x + 1 - d y) : ∀ {k a b : Nat}, Wk E k a b → g ∣ (k : Int) + d a - d b
  | 0, a, b, hw => by
    have : a = b := hw
    subst this
    exact ⟨0, by simp⟩
  | k + 1, a, b, ⟨c, h1, h2⟩ => by
    have e := Int.dvd_add (tele h h1) (h c b h2)
    rw [show (k : Int) + d a - d c + (d c + 1 - d b) = ((k + 1 : Nat) : Int) + d a - d b by omega] at e
    exact e
/-- Two potentials of a component: what divides the one's rests divides the other's. -/
theorem dvd_other {C : Nat → Prop} {g : Int} {r : Nat} {d1 d2 : Nat → Int} (hE : ∀ x y, E x y → C x ∧ C y) (h0 : d1 r = 0) (h2 : ∀ b, C b → ∃ k : Nat, d2 b = k ∧ Wk E k r b)
    (hg : ∀ x y, E x y → g ∣ d1 x + 1 - d1 y) : ∀ x y, E x y → g ∣ d2 x + 1 - d2 y := fun x y hxy => by
  obtain ⟨hx, hy⟩ := hE x y hxy
  obtain ⟨k, e1, w1⟩ := h2 x hx
  obtain ⟨m, e2, w2⟩ := h2 y hy
  have t1 := tele hg w1
  have t2 := tele hg w2
  have t3 := hg x y hxy
  rw [h0] at t1 t2
  have e := Int.dvd_add (Int.dvd_sub t1 t2) t3
  rw [show (k : Int) + 0 - d1 x - ((m : Int) + 0 - d1 y) + (d1 x + 1 - d1 y) = d2 x + 1 - d2 y by omega] at e
  exact e
end
/-! ### The greatest divisor of many -/
structure Gof (g : Int) (vs : List Int) : Prop where
  nn : 0 ≤ g
  dvd : ∀ v, v ∈ vs → g ∣ v
  best : ∀ c : Int, (∀ v, v ∈ vs → c ∣ v) → c ∣ g
theorem Gof.nil : Gof 0 [] := ⟨Int.le_refl _, fun v h => by simp at h, fun c _ => ⟨0, by simp⟩⟩
theorem Gof.snoc {g : Int} {vs : List Int} (h : Gof g vs) (v : Int) : Gof (Int.gcd g v : Int) (vs ++ [v]) := by
  refine ⟨by omega, fun u hu => ?_, fun c hc => ?_⟩
  · rcases List.mem_append.1 hu with hu | hu
    · exact Int.dvd_trans (Int.gcd_dvd_left ..) (h.dvd u hu)
    · rw [List.mem_singleton.1 hu]; exact Int.gcd_dvd_right ..
  · exact Int.dvd_coe_gcd (h.best c fun u hu => hc u (by simp [hu])) (hc v (by simp))
theorem Gof.uniq {g1 g2 : Int} {v1 v2 : List Int} (h1 : Gof g1 v1) (h2 : Gof g2 v2) (a : ∀ v, v ∈ v2 → g1 ∣ v) (b : ∀ v, v ∈ v1 → g2 ∣ v) : g1 = g2 := by
  have e1 := h2.best g1 a
  have e2 := h1.best g2 b
  exact Int.dvd_antisymm h1.nn h2.nn e1 e2
/-! ### Closed walks of all great lengths -/
theorem exists_least {P : Nat → Prop} : ∀ n, P n → ∃ m, P m ∧ ∀ k, k < m → ¬ P k := by
  intro n
  induction n using Nat.strongRecOn with
  | _ n ih =>
    intro h
    by_cases hk : ∃ k, k < n ∧ P k
    · obtain ⟨k, h1, h2⟩ := hk
      exact ih k h1 h2
    · exact ⟨n, h, fun k h1 h2 => hk ⟨k, h1, h2⟩⟩
theorem Wk.times {E : Nat → Nat → Prop} {s a : Nat} (h : Wk E s a a) : ∀ j, Wk E (s * j) a a
  | 0 => rfl
  | j + 1 => by rw [Nat.mul_succ]; exact (Wk.times h j).add h
/-- The pair of a label and a rest, as a number. -/
def E2 (E : Nat → Nat → Prop) (s : Nat) (p q : Nat) : Prop := E (p / s) (q / s) ∧ q % s = (p % s + 1) % s
theorem pair_div {s v r : Nat} (hr : r < s) : (v * s + r) / s = v := by
  rw [Nat.mul_comm, Nat.mul_add_div (by omega), Nat.div_eq_of_lt hr, Nat.add_zero]
theorem pair_mod {s v r : Nat} (hr : r < s) : (v * s + r) % s = r := by
  rw [Nat.mul_comm, Nat.mul_add_mod, Nat.mod_eq_of_lt hr]
theorem lift2 {E : Nat → Nat → Prop} {s : Nat} (hs : 0 < s) : ∀ {k a b : Nat}, Wk E k a b → Wk (E2 E s) k (a * s) (b * s + k % s)
  | 0, a, b, h => by have : a = b := h; subst this; simp [Wk]
  | k + 1, a, b, ⟨c, h1, h2⟩ => by
    have m1 := Nat.mod_lt k hs
    have m2 := Nat.mod_lt (k + 1) hs
    refine ⟨c * s + k % s, lift2 hs h1, ?_, ?_⟩
    · rw [pair_div m1, pair_div m2]; exact h2
    · rw [pair_mod m1, pair_mod m2, Nat.mod_add_mod]
theorem drop2 {E : Nat → Nat → Prop} {s : Nat} : ∀ {k p q : Nat}, Wk (E2 E s) k p q → Wk E k (p / s) (q / s) ∧ q % s = (p % s + k) % s
  | 0, p, q, h => by have : p = q := h; subst this; exact ⟨rfl, by simp⟩
  | k + 1, p, q, ⟨c, h1, h2, h3⟩ => by
    obtain ⟨h4, h5⟩ := drop2 h1
    refine ⟨⟨c / s, h4, h2⟩, ?_⟩
    rw [h3, h5, Nat.mod_add_mod, Nat.add_assoc]
theorem flex {E : Nat → Nat → Prop} {n a s : Nat} (hE : ∀ a b, E a b → a < n ∧ b < n) (ha : a < n) (hs : 1 ≤ s) (hsn : s ≤ n) (hcyc : Wk E s a a) (hgcd : ∀ g : Int, (∀ k : Nat, Wk E k a a → g ∣ (k : Int)) → g ∣ 1) :
    ∀ L, n * n ≤ L → Wk E L a a := by
  let T : Int → Prop := fun t => ∃ m : Nat, Wk E m a a ∧ (s : Int) ∣ t - m
  have hadd : ∀ t u, T t → T u → T (t + u) := fun t u ⟨m, h1, h2⟩ ⟨k, h3, h4⟩ => ⟨m + k, h1.add h3, by
    have := Int.dvd_add h2 h4
    rw [show t - (m : Int) + (u - k) = t + u - ((m + k : Nat) : Int) by omega] at this
    exact this⟩
  have hzero : T 0 := ⟨0, rfl, ⟨0, by simp⟩⟩
  have hmul : ∀ (j : Nat) t, T t → T (j * t) := fun j => by
    induction j with
    | zero => intro t _; rw [show ((0 : Nat) : Int) * t = 0 by simp]; exact hzero
    | succ j ih =>
      intro t ht
      have := hadd _ _ (ih t ht) ht
      rw [show (j : Int) * t + t = ((j + 1 : Nat) : Int) * t by rw [show ((j + 1 : Nat) : Int) = (j : Int) + 1 by omega, Int.add_mul, Int.one_mul]] at this
      exact this
  have hshift : ∀ t (z : Int), T t → T (t + s * z) := fun t z ⟨m, h1, h2⟩ => ⟨m, h1, by
    have := Int.dvd_add h2 (Int.dvd_mul_right (s : Int) z)
    rw [show t - (m : Int) + s * z = t + s * z - m by omega] at this
    exact this⟩
  have hneg : ∀ t, T t → T (-t) := fun t ht => by
    have := hshift _ (-t) (hmul (s - 1) t ht)
    have e : ((s - 1 : Nat) : Int) * t + (s : Int) * (-t) = -t := by
      rw [show ((s - 1 : Nat) : Int) = (s : Int) - 1 by omega, Int.sub_mul, Int.one_mul, Int.mul_neg]; omega
    rw [e] at this
    exact this
  have hsT : T ((s : Nat) : Int) := by
    have := hshift 0 1 hzero
    rw [Int.zero_add, Int.mul_one] at this
    exact this
  obtain ⟨g, ⟨hg0, hgT⟩, hgmin⟩ := exists_least (P := fun g => 0 < g ∧ T (g : Int)) s ⟨by omega, hsT⟩
  have hdvd : ∀ t, T t → (g : Int) ∣ t := fun t ht => by
    have h1 : T (t % (g : Int)) := by
      have e : t % (g : Int) = t + -((g : Int) * (t / g)) := by have := Int.emod_add_mul_ediv t (g : Int); omega
      rw [e]
      refine hadd _ _ ht (hneg _ ?_)
      rcases Int.le_total 0 (t / g) with hq | hq
      · have := hmul (t / g).toNat _ hgT
        rw [Int.toNat_of_nonneg hq, Int.mul_comm] at this
        exact this
      · have := hneg _ (hmul (-(t / g)).toNat _ hgT)
        rw [Int.toNat_of_nonneg (by omega), Int.neg_mul, Int.neg_neg, Int.mul_comm] at this
        exact this
    have h2 := Int.emod_nonneg t (show (g : Int) ≠ 0 by omega)
    have h3 := Int.emod_lt_of_pos t (show (0 : Int) < g by omega)
    have h4 : ¬ (0 < (t % (g : Int)).toNat ∧ T ((t % (g : Int)).toNat : Int)) := hgmin _ (by omega)
    rw [Int.toNat_of_nonneg h2] at h4
    have h5 : t % (g : Int) = 0 := by
      apply Classical.byContradiction
      intro hne
      exact h4 ⟨by omega, h1⟩
    exact Int.dvd_of_emod_eq_zero h5
  have hone : (g : Int) ∣ 1 := hgcd g fun k hk => hdvd k ⟨k, hk, ⟨0, by simp⟩⟩
  have hg1 : g = 1 := by
    have := Int.le_of_dvd (by decide) hone
    omega
  subst hg1
  have hall : ∀ L : Nat, T (L : Int) := fun L => by
    have := hmul L _ hgT
    rw [show (L : Int) * ((1 : Nat) : Int) = L by omega] at this
    exact this
  intro L hL
  obtain ⟨m, h1, h2⟩ := hall L
  have hE2 : ∀ p q, E2 E s p q → p < n * s ∧ q < n * s := fun p q h => by
    obtain ⟨h3, h4⟩ := hE _ _ h.1
    exact ⟨(Nat.div_lt_iff_lt_mul (by omega)).1 h3, (Nat.div_lt_iff_lt_mul (by omega)).1 h4⟩
  have w := lift2 (s := s) (by omega) h1
  obtain ⟨k, k1, _, k3⟩ := w.short hE2 (show a * s < n * s from Nat.mul_lt_mul_of_pos_right ha (by omega))
  obtain ⟨k4, k5⟩ := drop2 k3
  have m1 := Nat.mod_lt m (show s > 0 by omega)
  rw [pair_div m1, Nat.mul_div_cancel _ (by omega)] at k4
  rw [pair_mod m1, Nat.mul_mod_left, Nat.zero_add] at k5
  have hns : n * s ≤ n * n := Nat.mul_le_mul_left n hsn
  have hmod : L % s = k % s := by
    rw [← k5]
    have h6 := Int.emod_emod_of_dvd
    have h7 : ((L : Int) - m) % s = 0 := Int.emod_eq_zero_of_dvd h2
    have h8 : (L : Int) % s = (m : Int) % s := Int.emod_eq_emod_iff_emod_sub_eq_zero.2 h7
    omega
  have hkL : k ≤ L := by omega
  obtain ⟨j, hj⟩ : ∃ j, L = k + s * j := by
    refine ⟨(L - k) / s, ?_⟩
    have h9 : (L - k) % s = 0 := by rw [Nat.sub_mod_eq_zero_of_mod_eq hmod]
    have := Nat.mod_add_div (L - k) s
    omega
  rw [hj]
  exact k4.add (hcyc.times j)
end Go.Proofs.Ytffgdhbhlcifmaa
