/- Walks of a walk problem, by its masks. -/
import Derived.Test.YtffgdhbhlcifmaaWg
import Derived.Test.YtffgdhbhlcifmaaPh
namespace Go.Proofs.Ytffgdhbhlcifmaa
set_option linter.unusedSimpArgs false
set_option linter.unusedVariables false

theorem loopF_go {σ τ ρ : Type} {f : σ → Option (Lp σ τ ρ)} {s s' : σ} (h : f s = some (.go s')) (fuel : Nat) : loopF f (fuel + 1) s = loopF f fuel s' := by simp only [loopF, h]
theorem loopF_out {σ τ ρ : Type} {f : σ → Option (Lp σ τ ρ)} {s : σ} {t : τ} (h : f s = some (.out t)) (fuel : Nat) : loopF f (fuel + 1) s = some (.inl t) := by simp only [loopF, h]
def EA (A : Nat → Nat) (n x y : Nat) : Prop := x < n ∧ (A x).testBit y = true
theorem bit_lt {m n b : Nat} (h : m < 2 ^ n) (hb : m.testBit b = true) : b < n := by
  apply Nat.lt_of_not_le
  intro hle
  have : 2 ^ n ≤ 2 ^ b := Nat.pow_le_pow_right (by decide) hle
  rw [Nat.testBit_lt_two_pow (by omega)] at hb
  cases hb
theorem EA_lt {A : Nat → Nat} {n : Nat} (hA : ∀ a, A a < 2 ^ n) (x y : Nat) (h : EA A n x y) : x < n ∧ y < n := ⟨h.1, bit_lt (hA x) h.2⟩
theorem mulP_test (g : Nat → Nat) (m b : Nat) : ∀ j, (mulP g m j).testBit b = true ↔ ∃ c, c < j ∧ m.testBit c = true ∧ (g c).testBit b = true
  | 0 => by simp [mulP]
  | j + 1 => by
    rw [mulP, Nat.testBit_or, Bool.or_eq_true, mulP_test g m b j]
    constructor
    · rintro (⟨c, h1, h2, h3⟩ | h)
      · exact ⟨c, by omega, h2, h3⟩
      · cases hm : m.testBit j with
        | true => rw [hm] at h; exact ⟨j, by omega, hm, by simpa using h⟩
        | false => rw [hm] at h; simp at h
    · rintro ⟨c, h1, h2, h3⟩
      by_cases e : c = j
      · subst e; exact .inr (by rw [h2]; simpa using h3)
      · exact .inl ⟨c, by omega, h2, h3⟩
theorem pw_iff {A : Nat → Nat} {n a : Nat} (hA : ∀ a, A a < 2 ^ n) (ha : a < n) : ∀ k b, (pwF A n a k).testBit b = true ↔ Wk (EA A n) k a b
  | 0, b => by
    rw [pwF, Nat.testBit_two_pow]
    simp [Wk]
  | k + 1, b => by
    rw [pwF, mulP_test]
    constructor
    · rintro ⟨c, h1, h2, h3⟩
      exact ⟨c, (pw_iff hA ha k c).1 h2, h1, h3⟩
    · rintro ⟨c, h1, h2, h3⟩
      exact ⟨c, h2, (pw_iff hA ha k c).2 h1, h3⟩
/-- A walk of one arc or more; a walk. -/
def rB (A : Nat → Nat) (n a b : Nat) : Bool := (List.range n).any fun k => (pwF A n a (k + 1)).testBit b
def qB (A : Nat → Nat) (n a b : Nat) : Bool := (List.range (n + 1)).any fun k => (pwF A n a k).testBit b
section
variable {A : Nat → Nat} {n : Nat}
theorem rB_iff (hA : ∀ a, A a < 2 ^ n) {a b : Nat} (ha : a < n) : rB A n a b = true ↔ ∃ k, Wk (EA A n) (k + 1) a b := by
  unfold rB
  rw [List.any_eq_true]
  constructor
  · rintro ⟨k, _, h⟩
    exact ⟨k, (pw_iff hA ha _ _).1 h⟩
  · rintro ⟨k, h⟩
    obtain ⟨m, h1, h2, h3⟩ := h.short1 (EA_lt hA)
    obtain ⟨m, rfl⟩ : ∃ j, m = j + 1 := ⟨m - 1, by omega⟩
    exact ⟨m, List.mem_range.2 (by omega), (pw_iff hA ha _ _).2 h3⟩
theorem qB_iff (hA : ∀ a, A a < 2 ^ n) {a b : Nat} (ha : a < n) : qB A n a b = true ↔ ∃ k, Wk (EA A n) k a b := by
  unfold qB
  rw [List.any_eq_true]
  constructor
  · rintro ⟨k, _, h⟩
    exact ⟨k, (pw_iff hA ha _ _).1 h⟩
  · rintro ⟨k, h⟩
    obtain ⟨m, h1, h2, h3⟩ := h.short (EA_lt hA) ha
    exact ⟨m, List.mem_range.2 (by omega), (pw_iff hA ha _ _).2 h3⟩
theorem rB_lt (hA : ∀ a, A a < 2 ^ n) {a b : Nat} (ha : a < n) (h : rB A n a b = true) : b < n := by
  obtain ⟨k, w⟩ := (rB_iff hA ha).1 h
  exact w.lt (EA_lt hA) ha
theorem qB_lt (hA : ∀ a, A a < 2 ^ n) {a b : Nat} (ha : a < n) (h : qB A n a b = true) : b < n := by
  obtain ⟨k, w⟩ := (qB_iff hA ha).1 h
  exact w.lt (EA_lt hA) ha
theorem rB_trans (hA : ∀ a, A a < 2 ^ n) {a b c : Nat} (ha : a < n) (h1 : rB A n a b = true) (h2 : rB A n b c = true) : rB A n a c = true := by
  have hb := rB_lt hA ha h1
  obtain ⟨k, w1⟩ := (rB_iff hA ha).1 h1
  obtain ⟨m, w2⟩ := (rB_iff hA hb).1 h2
  refine (rB_iff hA ha).2 ⟨k + m + 1, ?_⟩
  have := w1.add w2
  rw [show k + 1 + (m + 1) = k + m + 1 + 1 by omega] at this
  exact this
theorem qB_refl (hA : ∀ a, A a < 2 ^ n) {a : Nat} (ha : a < n) : qB A n a a = true := (qB_iff hA ha).2 ⟨0, rfl⟩
theorem qB_trans (hA : ∀ a, A a < 2 ^ n) {a b c : Nat} (ha : a < n) (h1 : qB A n a b = true) (h2 : qB A n b c = true) : qB A n a c = true := by
  have hb := qB_lt hA ha h1
  obtain ⟨k, w1⟩ := (qB_iff hA ha).1 h1
  obtain ⟨m, w2⟩ := (qB_iff hA hb).1 h2
  exact (qB_iff hA ha).2 ⟨k + m, w1.add w2⟩
theorem rB_q (hA : ∀ a, A a < 2 ^ n) {a b : Nat} (ha : a < n) (h : rB A n a b = true) : qB A n a b = true := by
  obtain ⟨k, w⟩ := (rB_iff hA ha).1 h
  exact (qB_iff hA ha).2 ⟨_, w⟩
theorem q_ne (hA : ∀ a, A a < 2 ^ n) {a b : Nat} (ha : a < n) (h : qB A n a b = true) (hne : a ≠ b) : rB A n a b = true := by
  obtain ⟨k, w⟩ := (qB_iff hA ha).1 h
  cases k with
  | zero => exact absurd w hne
  | succ k => exact (rB_iff hA ha).2 ⟨k, w⟩
/-- Two labels of one component. -/
def rr (A : Nat → Nat) (n a b : Nat) : Bool := rB A n a b && rB A n b a
def qq (A : Nat → Nat) (n a b : Nat) : Bool := qB A n a b && qB A n b a
theorem rr_iff {a b : Nat} : rr A n a b = true ↔ rB A n a b = true ∧ rB A n b a = true := by unfold rr; rw [Bool.and_eq_true]
theorem qq_iff {a b : Nat} : qq A n a b = true ↔ qB A n a b = true ∧ qB A n b a = true := by unfold qq; rw [Bool.and_eq_true]
theorem rr_symm {a b : Nat} (h : rr A n a b = true) : rr A n b a = true := rr_iff.2 ⟨(rr_iff.1 h).2, (rr_iff.1 h).1⟩
theorem rr_trans (hA : ∀ a, A a < 2 ^ n) {a b c : Nat} (ha : a < n) (h1 : rr A n a b = true) (h2 : rr A n b c = true) : rr A n a c = true := by
  obtain ⟨p1, p2⟩ := rr_iff.1 h1
  obtain ⟨q1, q2⟩ := rr_iff.1 h2
  have hb := rB_lt hA ha p1
  have hc := rB_lt hA hb q1
  exact rr_iff.2 ⟨rB_trans hA ha p1 q1, rB_trans hA hc q2 p2⟩
theorem rr_refl (hA : ∀ a, A a < 2 ^ n) {a b : Nat} (ha : a < n) (h : rr A n a b = true) : rB A n a a = true := rB_trans hA ha (rr_iff.1 h).1 (rr_iff.1 h).2
theorem rr_qq (hA : ∀ a, A a < 2 ^ n) {a b : Nat} (ha : a < n) (haa : rB A n a a = true) : rr A n a b = qq A n a b := by
  rw [Bool.eq_iff_iff, rr_iff, qq_iff]
  constructor
  · rintro ⟨h1, h2⟩
    exact ⟨rB_q hA ha h1, rB_q hA (rB_lt hA ha h1) h2⟩
  · rintro ⟨h1, h2⟩
    by_cases e : a = b
    · subst e; exact ⟨haa, haa⟩
    · exact ⟨q_ne hA ha h1 e, q_ne hA (qB_lt hA ha h1) h2 (fun q => e q.symm)⟩
/-- Has an earlier label taken this one? -/
def dnR (A : Nat → Nat) (n a b : Nat) : Bool := (List.range a).any fun c => rr A n c b
def dnQ (A : Nat → Nat) (n a b : Nat) : Bool := (List.range a).any fun c => qq A n c b
def lead (A : Nat → Nat) (n a : Nat) : Bool := !dnR A n a a && rB A n a a
theorem dn_same (hA : ∀ a, A a < 2 ^ n) {a : Nat} (ha : a < n) : dnR A n a a = dnQ A n a a := by
  rw [Bool.eq_iff_iff]
  unfold dnR dnQ
  rw [List.any_eq_true, List.any_eq_true]
  constructor
  · rintro ⟨c, hc, h⟩
    have hca := List.mem_range.1 hc
    obtain ⟨h1, h2⟩ := rr_iff.1 h
    exact ⟨c, hc, qq_iff.2 ⟨rB_q hA (by omega) h1, rB_q hA ha h2⟩⟩
  · rintro ⟨c, hc, h⟩
    have hca := List.mem_range.1 hc
    obtain ⟨h1, h2⟩ := qq_iff.1 h
    exact ⟨c, hc, rr_iff.2 ⟨q_ne hA (by omega) h1 (by omega), q_ne hA ha h2 (by omega)⟩⟩
theorem dnR_skip (hA : ∀ a, A a < 2 ^ n) {a b : Nat} (ha : a < n) (h : lead A n a = false) : dnR A n (a + 1) b = dnR A n a b := by
  unfold dnR
  rw [List.range_succ, List.any_append]
  simp only [List.any_cons, List.any_nil, Bool.or_false]
  cases hr : rr A n a b with
  | false => simp
  | true =>
    rw [Bool.or_true]
    symm
    have haa := rr_refl hA ha hr
    unfold lead at h
    rw [haa, Bool.and_true, Bool.not_eq_false'] at h
    unfold dnR at h
    obtain ⟨c, hc, h2⟩ := List.any_eq_true.1 h
    have hca := List.mem_range.1 hc
    exact List.any_eq_true.2 ⟨c, hc, rr_trans hA (by omega) h2 hr⟩
theorem dnR_take {a b : Nat} : dnR A n (a + 1) b = (dnR A n a b || rr A n a b) := by
  unfold dnR
  rw [List.range_succ, List.any_append]
  simp
theorem dnQ_take {a b : Nat} : dnQ A n (a + 1) b = (dnQ A n a b || qq A n a b) := by
  unfold dnQ
  rw [List.range_succ, List.any_append]
  simp
theorem dnQ_skip (hA : ∀ a, A a < 2 ^ n) {a b : Nat} (ha : a < n) (h : dnQ A n a a = true) : dnQ A n (a + 1) b = dnQ A n a b := by
  rw [dnQ_take]
  cases hr : qq A n a b with
  | false => simp
  | true =>
    rw [Bool.or_true]
    symm
    unfold dnQ at h
    obtain ⟨c, hc, h2⟩ := List.any_eq_true.1 h
    have hca := List.mem_range.1 hc
    obtain ⟨p1, p2⟩ := qq_iff.1 h2
    obtain ⟨q1, q2⟩ := qq_iff.1 hr
    exact List.any_eq_true.2 ⟨c, hc, qq_iff.2 ⟨qB_trans hA (by omega) p1 q1, qB_trans hA (qB_lt hA ha q1) q2 p2⟩⟩
/-- A component's labels. -/
def comp (A : Nat → Nat) (n a : Nat) : List Nat := (List.range n).filter (rr A n a)
end
end Go.Proofs.Ytffgdhbhlcifmaa
