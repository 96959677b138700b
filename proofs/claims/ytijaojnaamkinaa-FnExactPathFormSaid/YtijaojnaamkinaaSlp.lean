/- Lists of rows: their order; rows in order, each once. -/
import Derived.Test.YtijaojnaamkinaaPb
namespace Go.Proofs.Ytijaojnaamkinaa
set_option linter.unusedSimpArgs false
set_option linter.unusedVariables false

/-! ### The order of rows -/
theorem lx_zero : ∀ {a b : List Int}, a.length = b.length → (ordL a b = 0 ↔ a = b)
  | [], [], _ => by simp [ordL]
  | x :: a, y :: b, h => by
    have ih := lx_zero (a := a) (b := b) (by simpa using h)
    unfold ordL
    by_cases h1 : x < y
    · rw [if_pos h1]; constructor
      · intro h; omega
      · intro h; cases h; omega
    · rw [if_neg h1]
      by_cases h2 : x > y
      · rw [if_pos h2]; constructor
        · intro h; omega
        · intro h; cases h; omega
      · rw [if_neg h2, ih]
        have : x = y := by omega
        subst this; simp
  | [], _ :: _, h => by simp at h
  | _ :: _, [], h => by simp at h
theorem lx_anti : ∀ (a b : List Int), ordL b a = - ordL a b
  | [], [] => by simp [ordL]
  | [], _ :: _ => by simp [ordL]
  | _ :: _, [] => by simp [ordL]
  | x :: a, y :: b => by
    have ih := lx_anti a b
    simp only [ordL]
    by_cases h1 : x < y
    · have h2 : ¬ y < x := by omega
      simp [h1, h2]
    · by_cases h2 : y < x
      · simp [h1, h2]
      · simp [h1, h2, ih]
theorem lx_trans : ∀ {a b c : List Int}, a.length = b.length → b.length = c.length → ordL a b < 0 → ordL b c < 0 → ordL a c < 0
  | [], [], [], _, _, h, _ => by simp [ordL] at h
  | x :: a, y :: b, z :: c, h1, h2, h3, h4 => by
    have ih := lx_trans (a := a) (b := b) (c := c) (by simpa using h1) (by simpa using h2)
    simp only [ordL] at h3 h4 ⊢
    by_cases e1 : x < y
    · by_cases e2 : y < z
      · rw [if_pos (by omega)]; decide
      · rw [if_neg e2] at h4
        by_cases e3 : y > z
        · rw [if_pos e3] at h4; omega
        · rw [if_pos (by omega)]; decide
    · rw [if_neg e1] at h3
      by_cases e2 : x > y
      · rw [if_pos e2] at h3; omega
      · rw [if_neg e2] at h3
        by_cases e3 : y < z
        · rw [if_pos (by omega)]; decide
        · rw [if_neg e3] at h4
          by_cases e4 : y > z
          · rw [if_pos e4] at h4; omega
          · rw [if_neg e4] at h4
            rw [if_neg (by omega), if_neg (by omega)]
            exact ih h3 h4
  | [], _ :: _, _, h, _, _, _ => by simp at h
  | _ :: _, [], _, h, _, _, _ => by simp at h
  | [], [], _ :: _, _, h, _, _ => by simp at h
  | _ :: _, _ :: _, [], _, h, _, _ => by simp at h
theorem lx_ntrans {a b c : List Int} (h1 : a.length = b.length) (h2 : b.length = c.length) (h3 : ¬ ordL a b < 0) (h4 : ¬ ordL b c < 0) : ¬ ordL a c < 0 := fun h => by
  have e1 := lx_anti a b
  have e2 := lx_anti b c
  have e3 := lx_anti a c
  by_cases q1 : ordL a b = 0
  · have := (lx_zero h1).1 q1
    subst this
    exact h4 h
  · by_cases q2 : ordL b c = 0
    · have := (lx_zero h2).1 q2
      subst this
      exact h3 h
    · have := lx_trans (a := c) (b := b) (c := a) (by omega) (by omega) (by omega) (by omega)
      omega
/-! ### Rows in order, each once, as a function -/
def insS : List (List Int) → List Int → List (List Int)
  | [], x => [x]
  | y :: l, x => if ordL y x < 0 then y :: insS l x else if y = x then y :: l else x :: y :: l
def sxd (xs : List (List Int)) : List (List Int) := xs.foldl insS []
def sorS (l : List (List Int)) : Prop := l.Pairwise fun a b => ordL a b < 0
theorem insS_mem {z x : List Int} : ∀ {l : List (List Int)}, z ∈ insS l x ↔ z = x ∨ z ∈ l
  | [] => by simp [insS]
  | y :: l => by
    unfold insS
    split
    · rw [List.mem_cons, insS_mem, List.mem_cons]
      constructor
      · rintro (h | h | h) <;> simp [h]
      · rintro (h | h | h) <;> simp [h]
    · split
      · rename_i h; subst h
        simp
      · simp
theorem insS_sor {L : Nat} {x : List Int} (hx : x.length = L) : ∀ {l : List (List Int)}, (∀ z ∈ l, z.length = L) → sorS l → sorS (insS l x)
  | [], _, _ => by simp [insS, sorS]
  | y :: l, hl, h => by
    have hy := hl y (by simp)
    obtain ⟨h1, h2⟩ := List.pairwise_cons.1 h
    unfold insS
    split
    · rename_i hlt
      refine List.pairwise_cons.2 ⟨fun z hz => ?_, insS_sor hx (fun z hz => hl z (by simp [hz])) h2⟩
      rcases insS_mem.1 hz with rfl | hz
      · exact hlt
      · exact h1 z hz
    · rename_i hge
      split
      · exact h
      · rename_i hne
        have hxy : ordL x y < 0 := by
          have e1 := lx_anti y x
          have : ordL y x ≠ 0 := fun e => hne ((lx_zero (by omega)).1 e)
          omega
        refine List.pairwise_cons.2 ⟨fun z hz => ?_, h⟩
        rcases List.mem_cons.1 hz with rfl | hz
        · exact hxy
        · exact lx_trans (by omega) (by have := hl z (by simp [hz]); omega) hxy (h1 z hz)
theorem fold_sxd {L : Nat} : ∀ (xs l : List (List Int)), (∀ z ∈ xs, z.length = L) → (∀ z ∈ l, z.length = L) → sorS l → sorS (xs.foldl insS l) ∧ ∀ z, z ∈ xs.foldl insS l ↔ z ∈ l ∨ z ∈ xs
  | [], l, _, _, h => ⟨h, fun z => by simp⟩
  | x :: xs, l, h1, h2, h3 => by
    have hx := h1 x (by simp)
    obtain ⟨g1, g2⟩ := fold_sxd xs (insS l x) (fun z hz => h1 z (by simp [hz])) (fun z hz => by
      rcases insS_mem.1 hz with rfl | hz
      · exact hx
      · exact h2 z hz) (insS_sor hx h2 h3)
    refine ⟨g1, fun z => ?_⟩
    rw [List.foldl_cons, g2, insS_mem, List.mem_cons]
    constructor
    · rintro ((h | h) | h) <;> simp [h]
    · rintro (h | h | h) <;> simp [h]
theorem sor_uniq {L : Nat} {a b : List (List Int)} (ha : ∀ z ∈ a, z.length = L) (h1 : sorS a) (h2 : sorS b) (h : ∀ z, z ∈ a ↔ z ∈ b) : a = b := by
  have hn : ∀ {l : List (List Int)}, sorS l → l.Nodup := fun {l} hl => hl.imp fun {x y} hxy e => by
    subst e
    rw [(lx_zero rfl).2 rfl] at hxy; omega
  have hp : a.Perm b := (List.perm_ext_iff_of_nodup (hn h1) (hn h2)).2 h
  refine hp.eq_of_pairwise (le := fun x y => ordL x y < 0) (fun x y hx hy q1 q2 => ?_) h1 h2
  have := lx_anti x y
  omega
def srtL (xs : List (List Int)) : Option (List (List Int)) :=
  if xs.length ≤ 1000000000 ∧ (xs.headD []).length ≤ 1000000000 ∧ (∀ x ∈ xs, x.length = (xs.headD []).length) then some (sxd xs) else none
theorem srtL_in {xs : List (List Int)} {L : Nat} (h1 : xs.length ≤ 1000000000) (h2 : L ≤ 1000000000) (h3 : ∀ x ∈ xs, x.length = L) : srtL xs = some (sxd xs) := by
  unfold srtL
  cases xs with
  | nil => rw [if_pos (by simp)]
  | cons x xs =>
    have := h3 x (by simp)
    rw [if_pos ⟨h1, by show x.length ≤ _; omega, fun y hy => by show y.length = x.length; rw [h3 y hy, this]⟩]
end Go.Proofs.Ytijaojnaamkinaa
