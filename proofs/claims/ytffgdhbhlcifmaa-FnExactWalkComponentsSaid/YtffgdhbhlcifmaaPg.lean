/- Matrices of bits as masks; the labels behind each label. -/
import Derived.Test.YtffgdhbhlcifmaaPf
namespace Go.Proofs.Ytffgdhbhlcifmaa
set_option linter.unusedSimpArgs false
set_option linter.unusedVariables false

theorem forI_foldp {α σ τ ρ : Type} {body : Int → α → σ → Option (Lp σ σ ρ)} (g : τ → α → τ) (R : τ → σ) (P : τ → Prop) : ∀ (xs : List α) (k : Int) (s : τ), P s →
    (∀ (k : Int) x s, x ∈ xs → P s → body k x (R s) = some (.go (R (g s x))) ∧ P (g s x)) → forI body xs k (R s) = some (.inl (R (xs.foldl g s))) ∧ P (xs.foldl g s)
  | [], k, s, hs, h => ⟨rfl, hs⟩
  | x :: xs, k, s, hs, h => by
    obtain ⟨h1, h2⟩ := h k x s (by simp) hs
    simp only [forI, h1, List.foldl_cons]
    exact forI_foldp g R P xs (k + 1) (g s x) h2 fun k y s hy hs => h k y s (by simp [hy]) hs
theorem forI_inv {α σ ρ : Type} {body : Int → α → σ → Option (Lp σ σ ρ)} (R : Nat → σ) : ∀ (xs : List α) (k : Nat), (∀ (j : Nat) x, xs[j]? = some x → body ((k + j : Nat) : Int) x (R (k + j)) = some (.go (R (k + j + 1)))) →
    forI body xs (k : Int) (R k) = some (.inl (R (k + xs.length)))
  | [], k, h => rfl
  | x :: xs, k, h => by
    have h0 := h 0 x rfl
    simp only [Nat.add_zero] at h0
    simp only [forI, h0]
    rw [show ((k : Int) + 1) = ((k + 1 : Nat) : Int) by omega]
    rw [forI_inv R xs (k + 1) (fun j y hj => by have := h (j + 1) y (by simpa using hj); rw [show k + (j + 1) = k + 1 + j by omega] at this; exact this)]
    rw [List.length_cons, show k + 1 + xs.length = k + (xs.length + 1) by omega]
theorem forN_inv {σ ρ : Type} {body : Int → σ → Option (Lp σ σ ρ)} (R : Nat → σ) : ∀ (n k : Nat), (∀ (j : Nat), j < n → body ((k + j : Nat) : Int) (R (k + j)) = some (.go (R (k + j + 1)))) →
    forN body n (k : Int) (R k) = some (.inl (R (k + n)))
  | 0, k, h => rfl
  | n + 1, k, h => by
    have h0 := h 0 (by omega)
    simp only [Nat.add_zero] at h0
    simp only [forN, h0]
    rw [show ((k : Int) + 1) = ((k + 1 : Nat) : Int) by omega]
    rw [forN_inv R n (k + 1) (fun j hj => by have := h (j + 1) (by omega); rw [show k + (j + 1) = k + 1 + j by omega] at this; exact this)]
    rw [show k + 1 + n = k + (n + 1) by omega]
theorem forI_inv0 {α σ ρ : Type} {body : Int → α → σ → Option (Lp σ σ ρ)} (R : Nat → σ) (xs : List α) (h : ∀ (j : Nat) x, xs[j]? = some x → body (j : Int) x (R j) = some (.go (R (j + 1)))) :
    forI body xs 0 (R 0) = some (.inl (R xs.length)) := by
  have := forI_inv R xs 0 (fun j x hj => by rw [Nat.zero_add]; exact h j x hj)
  rw [Nat.zero_add] at this; exact this
theorem forN_inv0 {σ ρ : Type} {body : Int → σ → Option (Lp σ σ ρ)} (R : Nat → σ) (n : Nat) (h : ∀ (j : Nat), j < n → body (j : Int) (R j) = some (.go (R (j + 1)))) :
    forN body n 0 (R 0) = some (.inl (R n)) := by
  have := forN_inv R n 0 (fun j hj => by rw [Nat.zero_add]; exact h j hj)
  rw [Nat.zero_add] at this; exact this
/-! ### Rows and matrices -/
def mrow (n m : Nat) : List Bool := (List.range n).map fun i => m.testBit i
def matF (n : Nat) (f : Nat → Nat) : List (List Bool) := (List.range n).map fun a => mrow n (f a)
theorem mrow_length (n m : Nat) : (mrow n m).length = n := by simp [mrow]
theorem matF_length (n : Nat) (f : Nat → Nat) : (matF n f).length = n := by simp [matF]
theorem mrow_get {n m i : Nat} (h : i < n) : (mrow n m)[i]? = some (m.testBit i) := by simp [mrow, h]
theorem matF_get {n i : Nat} {f : Nat → Nat} (h : i < n) : (matF n f)[i]? = some (mrow n (f i)) := by simp [matF, h]
theorem ix_mrow {n m i : Nat} (h : i < n) : ix (mrow n m) (i : Int) = some (m.testBit i) := by rw [ix_nat, mrow_get h]
theorem ix_matF {n i : Nat} {f : Nat → Nat} (h : i < n) : ix (matF n f) (i : Int) = some (mrow n (f i)) := by rw [ix_nat, matF_get h]
theorem mrow_zero (n : Nat) : mrow n 0 = List.replicate n false := by
  refine List.ext_getElem (by simp [mrow]) fun i h1 h2 => ?_
  simp [mrow]
theorem mrow_set {n m i : Nat} (h : i < n) : (mrow n m).set i true = mrow n (m ||| 2 ^ i) := by
  refine List.ext_getElem (by simp [mrow]) fun j h1 h2 => ?_
  simp only [List.getElem_set, mrow, List.getElem_map, List.getElem_range, Nat.testBit_or, Nat.testBit_two_pow]
  by_cases e : i = j
  · subst e; simp
  · simp [e]
theorem st_mrow {n m i : Nat} (h : i < n) : st (mrow n m) (i : Int) true = some (mrow n (m ||| 2 ^ i)) := by
  rw [st_nat _ _ _ (by rw [mrow_length]; exact h), mrow_set h]
theorem matF_set {n i : Nat} {f : Nat → Nat} (h : i < n) (m : Nat) : (matF n f).set i (mrow n m) = matF n (fun a => if a = i then m else f a) := by
  refine List.ext_getElem (by simp [matF]) fun j h1 h2 => ?_
  simp only [List.getElem_set, matF, List.getElem_map, List.getElem_range]
  by_cases e : i = j
  · subst e; simp
  · rw [if_neg e, if_neg (Ne.symm e)]
/-- The labels behind each label, arc by arc. -/
def putA (T : Nat → Nat) (x : List Int) : Nat → Nat := fun a => if a = (x.headD 0).toNat then T (x.headD 0).toNat ||| 2 ^ (x.getD 1 0).toNat else T a
def aftF (LL : List (List Int)) : Nat → Nat := LL.foldl putA fun _ => 0
theorem putA_lt {T : Nat → Nat} {n a b : Nat} (hT : ∀ a, T a < 2 ^ n) (hb : b < n) (c : Nat) : putA T [(a : Int), (b : Int)] c < 2 ^ n := by
  have hpb : 2 ^ b < 2 ^ n := Nat.pow_lt_pow_right (by decide) hb
  unfold putA
  by_cases hc : c = ([(a : Int), (b : Int)].headD 0).toNat
  · rw [if_pos hc]
    exact Nat.or_lt_two_pow (hT _) (by simpa using hpb)
  · rw [if_neg hc]; exact hT c
theorem e_after (n : Nat) (p : T_WalkProblem) (hp : p.Labels = n) (hn : n ≤ 60) (h : okArcs n p.Arcs) : fI_WalkProblem_after p = some ((List.range n).map fun a => ((aftF p.Arcs a : Nat) : Int)) ∧ ∀ a, aftF p.Arcs a < 2 ^ n := by
  have hstep := forI_foldp (body := fI_WalkProblem_after_s1) putA (fun T => (List.range n).map fun a => ((T a : Nat) : Int)) (fun T => ∀ a, T a < 2 ^ n) p.Arcs 0 (fun _ => 0) (fun a => Nat.two_pow_pos n) fun k x T hx hT => by
    obtain ⟨a, b, rfl, ha, hb⟩ := h x hx
    have h60 : 2 ^ n ≤ 2 ^ 60 := Nat.pow_le_pow_right (by decide) hn
    have hpb : 2 ^ b < 2 ^ n := Nat.pow_lt_pow_right (by decide) hb
    refine ⟨?_, fun c => ?_⟩
    · unfold fI_WalkProblem_after_s1
      have hg : ix ((List.range n).map fun a => ((T a : Nat) : Int)) (a : Int) = some ((T a : Nat) : Int) := by rw [ix_nat]; simp [ha]
      rw [show ix [(a : Int), (b : Int)] 0 = some (a : Int) from rfl, sb, hg, sb, show ix [(a : Int), (b : Int)] 1 = some (b : Int) from rfl, sb, shl_one (by omega), sb, sb]
      have h1 : T a < 2 ^ 62 := Nat.lt_trans (Nat.lt_of_lt_of_le (hT a) h60) (by decide)
      have h2 : 2 ^ b < 2 ^ 62 := Nat.lt_trans (Nat.lt_of_lt_of_le hpb h60) (by decide)
      rw [bor_nat h1 h2, st_nat _ _ _ (by simpa using ha), sb]
      congr 2
      refine List.ext_getElem (by simp) fun j h1 h2 => ?_
      simp only [List.getElem_set, List.getElem_map, List.getElem_range, putA, List.headD_cons, Int.toNat_natCast]
      by_cases e : a = j
      · subst e; simp
      · rw [if_neg e, if_neg (Ne.symm e)]
    · exact putA_lt hT hb c
  refine ⟨?_, hstep.2⟩
  unfold fI_WalkProblem_after
  rw [hp]
  unfold mk
  rw [if_pos ⟨by omega, by omega⟩, sb]
  rw [show List.replicate (n : Int).toNat (Rz.z : Int) = (List.range n).map fun a => (((fun _ => 0 : Nat → Nat) a : Nat) : Int) by
    refine List.ext_getElem (by simp) fun i h1 h2 => ?_
    simp; rfl]
  rw [hstep.1, sb]; rfl
end Go.Proofs.Ytffgdhbhlcifmaa
