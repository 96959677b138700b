/- Products of matrices of bits. -/
import Derived.Test.YtffgdhbhlcifmaaPg
import Derived.Test.YtffgdhbhlcifmaaGH
namespace Go.Proofs.Ytffgdhbhlcifmaa
set_option linter.unusedSimpArgs false
set_option linter.unusedVariables false

theorem e_waMay (n fuel : Nat) (p : T_WalkProblem) (hp : p.Labels = n) (hn : n ≤ 60) (h : okArcs n p.Arcs) (hf : n < fuel) : fS_waMay fuel p = some (matF n (aftF p.Arcs)) := by
  have key : ∀ (d k fuel : Nat), k + d = n → d < fuel → loopF (fS_waMay_s1 p) fuel (List.replicate k (mrow n 0), (k : Int)) = some (.inl (List.replicate n (mrow n 0), (n : Int))) := by
    intro d
    induction d with
    | zero =>
      intro k fuel hk hf
      cases fuel with
      | zero => omega
      | succ fuel =>
        have : k = n := by omega
        subst this
        have hs : fS_waMay_s1 p (List.replicate k (mrow k 0), (k : Int)) = some (.out (List.replicate k (mrow k 0), (k : Int))) := by
          unfold fS_waMay_s1
          rw [if_neg (by simp [hp])]
        simp only [loopF, hs]
    | succ d ih =>
      intro k fuel hk hf
      cases fuel with
      | zero => omega
      | succ fuel =>
        have hs : fS_waMay_s1 p (List.replicate k (mrow n 0), (k : Int)) = some (.go (List.replicate (k + 1) (mrow n 0), ((k + 1 : Nat) : Int))) := by
          unfold fS_waMay_s1
          simp only
          rw [if_pos (by rw [decide_eq_true_eq, hp]; omega), hp]
          unfold mk
          rw [if_pos ⟨by omega, by omega⟩, sb]
          rw [show List.replicate (n : Int).toNat (Rz.z : Bool) = mrow n 0 by rw [mrow_zero]; rfl]
          unfold push
          rw [if_pos (by simp; omega), sb, ck_in (by omega) (by omega), sb, List.replicate_succ']
          simp
        simp only [loopF, hs]
        exact ih (k + 1) fuel (by omega) (by omega)
  unfold fS_waMay
  have h0 := key n 0 fuel (by omega) hf
  rw [show List.replicate 0 (mrow n 0) = [] from rfl, show ((0 : Nat) : Int) = 0 from rfl] at h0
  rw [h0, sb]
  have hz : List.replicate n (mrow n 0) = matF n (fun _ => 0) := by
    refine List.ext_getElem (by simp [matF]) fun i h1 h2 => ?_
    simp [matF]
  have := forI_foldp (body := fS_waMay_s2) putA (fun T => matF n T) (fun _ => True) p.Arcs 0 (fun _ => 0) trivial fun k x T hx _ => by
    obtain ⟨a, b, rfl, ha, hb⟩ := h x hx
    refine ⟨?_, trivial⟩
    unfold fS_waMay_s2
    rw [show ix [(a : Int), (b : Int)] 0 = some (a : Int) from rfl, sb, ix_matF ha, sb, show ix [(a : Int), (b : Int)] 1 = some (b : Int) from rfl, sb, ix_mrow hb, sb, st_mrow hb, sb, Int.toNat_natCast, matF_set ha]
    rfl
  simp only
  rw [hz, this.1, sb]; rfl
/-- What the rows of g at the bits of m hold together, up to j. -/
def mulP (g : Nat → Nat) (m : Nat) : Nat → Nat
  | 0 => 0
  | j + 1 => mulP g m j ||| if m.testBit j then g j else 0
theorem mulP_lt {g : Nat → Nat} {n : Nat} (h : ∀ a, g a < 2 ^ n) (m : Nat) : ∀ j, mulP g m j < 2 ^ n
  | 0 => Nat.two_pow_pos n
  | j + 1 => by
    simp only [mulP]
    refine Nat.or_lt_two_pow (mulP_lt h m j) ?_
    split
    · exact h j
    · exact Nat.two_pow_pos n
theorem e_waTimes (n : Nat) (hn : n ≤ 60) (f g : Nat → Nat) : fS_waTimes (matF n f) (matF n g) = some (matF n fun a => mulP g (f a) n) := by
  have s3 : ∀ (i : Nat) (b : Bool) (m : Nat), i < n → forN (fS_waTimes_s3 (matF n g) (i : Int) b) n 0 (mrow n m) = some (.inl (mrow n (m ||| if b then g i else 0))) := fun i b m hi => by
    have := forN_inv0 (body := fS_waTimes_s3 (matF n g) (i : Int) b) (fun j => (List.range n).map fun c => if c < j then (m ||| if b then g i else 0).testBit c else m.testBit c) n (fun j hj => by
      have hg : ix ((List.range n).map fun c => if c < j then (m ||| if b then g i else 0).testBit c else m.testBit c) (j : Int) = some (m.testBit j) := by rw [ix_nat]; simp [hj]
      unfold fS_waTimes_s3
      simp only [hg, sb]
      have hq : (if m.testBit j then some true else if b then (ix (matF n g) (i : Int) >>= fun x81 => ix x81 (j : Int) >>= fun x89 => some x89) else some false) = some ((m ||| if b then g i else 0).testBit j) := by
        cases h1 : m.testBit j
        · cases b
          · simp [h1]
          · simp only [Bool.false_eq_true, if_false, if_true, ix_matF hi, sb, ix_mrow hj, Nat.testBit_or, h1, Bool.false_or]
        · simp [h1]
      rw [hq, sb, st_nat _ _ _ (by simpa using hj), sb]
      congr 2
      refine List.ext_getElem (by simp) fun c h1 h2 => ?_
      simp only [List.getElem_set, List.getElem_map, List.getElem_range]
      by_cases e : j = c
      · subst e; simp
      · rw [if_neg e]
        by_cases e2 : c < j
        · have e3 : c < j + 1 := by omega
          simp only [e2, e3, if_true]
        · have e3 : ¬ c < j + 1 := by omega
          simp only [e2, e3, if_false])
    have h0 : ((List.range n).map fun c => if c < 0 then (m ||| if b then g i else 0).testBit c else m.testBit c) = mrow n m := by simp [mrow]
    have h1 : ((List.range n).map fun c => if c < n then (m ||| if b then g i else 0).testBit c else m.testBit c) = mrow n (m ||| if b then g i else 0) := by
      unfold mrow
      refine List.map_congr_left fun c hc => ?_
      rw [if_pos (List.mem_range.1 hc)]
    rw [h0, h1] at this
    exact this
  have s2 : ∀ m : Nat, forI (fS_waTimes_s2 (matF n g)) (mrow n m) 0 (mrow n 0) = some (.inl (mrow n (mulP g m n))) := fun m => by
    have := forI_inv0 (body := fS_waTimes_s2 (matF n g)) (fun j => mrow n (mulP g m j)) (mrow n m) (fun j x hj => by
      have hjn : j < n := by have := (List.getElem?_eq_some_iff.1 hj).1; rwa [mrow_length] at this
      rw [mrow_get hjn] at hj
      cases hj
      unfold fS_waTimes_s2
      rw [mrow_length, ck_in (by omega) (by omega), sb, Int.toNat_natCast, s3 j _ _ hjn, sb]
      rfl)
    rw [mrow_length] at this
    exact this
  unfold fS_waTimes
  have := forI_inv0 (body := fS_waTimes_s1 (matF n g)) (fun j => (List.range j).map fun a => mrow n (mulP g (f a) n)) (matF n f) (fun j x hj => by
    have hjn : j < n := by have := (List.getElem?_eq_some_iff.1 hj).1; rwa [matF_length] at this
    rw [matF_get hjn] at hj
    cases hj
    unfold fS_waTimes_s1
    rw [mrow_length]
    unfold mk
    rw [if_pos ⟨by omega, by omega⟩, sb]
    rw [show List.replicate (n : Int).toNat (Rz.z : Bool) = mrow n 0 by rw [mrow_zero]; rfl]
    rw [s2, sb]
    simp only
    unfold push
    rw [if_pos (by simp; omega), sb, List.range_succ, List.map_append]
    rfl)
  rw [matF_length] at this
  rw [show ([] : List (List Bool)) = (List.range 0).map fun a => mrow n (mulP g (f a) n) from rfl, this, sb]
  rfl
/-- The labels that k arcs lead to. -/
def pwF (A : Nat → Nat) (n a : Nat) : Nat → Nat
  | 0 => 2 ^ a
  | k + 1 => mulP A (pwF A n a k) n
theorem e_waPowers (n k fuel : Nat) (p : T_WalkProblem) (hp : p.Labels = n) (hn : n ≤ 60) (h : okArcs n p.Arcs) (hk : k ≤ 1000) (hf : n + k < fuel) :
    fS_waPowers fuel p (k : Int) = some ((List.range (k + 1)).map fun j => matF n fun a => pwF (aftF p.Arcs) n a j) := by
  unfold fS_waPowers
  rw [e_waMay n fuel ⟨p.Labels, []⟩ hp hn (by intro x hx; simp at hx) (by omega), sb, matF_length, ck_in (by omega) (by omega), sb, Int.toNat_natCast]
  have h1 := forN_inv0 (body := fS_waPowers_s1) (fun j => matF n fun a => if a < j then 2 ^ a else 0) n (fun j hj => by
    unfold fS_waPowers_s1
    rw [ix_matF hj, sb, ix_mrow hj, sb, st_mrow hj, sb, Int.toNat_natCast, matF_set hj]
    congr 3
    funext a
    by_cases e : a = j
    · subst e; simp
    · by_cases e2 : a < j
      · rw [if_neg e, if_pos e2, if_pos (by omega)]
      · rw [if_neg e, if_neg e2, if_neg (by omega)])
  have z0 : (matF n fun a => if a < 0 then 2 ^ a else 0) = matF n (aftF []) := by congr 1
  have z1 : (matF n fun a => if a < n then 2 ^ a else 0) = matF n fun a => pwF (aftF p.Arcs) n a 0 := by
    unfold matF
    refine List.map_congr_left fun a ha => ?_
    show mrow n (if a < n then 2 ^ a else 0) = _
    rw [if_pos (List.mem_range.1 ha)]; rfl
  rw [z0, z1] at h1
  rw [h1, sb]
  simp only
  rw [e_waMay n fuel p hp hn h (by omega), sb]
  have key : ∀ (d j fuel : Nat), j + d = k → d < fuel → loopF (fS_waPowers_s2 (k : Int) (matF n (aftF p.Arcs))) fuel ((List.range (j + 1)).map fun i => matF n fun a => pwF (aftF p.Arcs) n a i) = some (.inl ((List.range (k + 1)).map fun i => matF n fun a => pwF (aftF p.Arcs) n a i)) := by
    intro d
    induction d with
    | zero =>
      intro j fuel hj hf
      cases fuel with
      | zero => omega
      | succ fuel =>
        have : j = k := by omega
        subst this
        have hs : fS_waPowers_s2 (j : Int) (matF n (aftF p.Arcs)) ((List.range (j + 1)).map fun i => matF n fun a => pwF (aftF p.Arcs) n a i) = some (.out ((List.range (j + 1)).map fun i => matF n fun a => pwF (aftF p.Arcs) n a i)) := by
          unfold fS_waPowers_s2
          rw [if_neg (by simp; omega)]
        simp only [loopF, hs]
    | succ d ih =>
      intro j fuel hj hf
      cases fuel with
      | zero => omega
      | succ fuel =>
        have hs : fS_waPowers_s2 (k : Int) (matF n (aftF p.Arcs)) ((List.range (j + 1)).map fun i => matF n fun a => pwF (aftF p.Arcs) n a i) = some (.go ((List.range (j + 1 + 1)).map fun i => matF n fun a => pwF (aftF p.Arcs) n a i)) := by
          unfold fS_waPowers_s2
          have hl : (((List.range (j + 1)).map fun i => matF n fun a => pwF (aftF p.Arcs) n a i).length : Int) = ((j + 1 : Nat) : Int) := by simp
          have hg : ix ((List.range (j + 1)).map fun i => matF n fun a => pwF (aftF p.Arcs) n a i) (j : Int) = some (matF n fun a => pwF (aftF p.Arcs) n a j) := by rw [ix_nat]; simp
          rw [hl, if_pos (by simp; omega), ck_in (by omega) (by omega), sb, show (((j + 1 : Nat) : Int) - 1) = (j : Int) by omega, hg, sb, e_waTimes n hn, sb]
          unfold push
          rw [if_pos (by simp; omega), sb, List.range_succ (n := j + 1), List.map_append]
          rfl
        simp only [loopF, hs]
        exact ih (j + 1) fuel (by omega) (by omega)
  have := key k 0 fuel (by omega) (by omega)
  rw [show ([matF n fun a => pwF (aftF p.Arcs) n a 0] : List (List (List Bool))) = (List.range (0 + 1)).map fun i => matF n fun a => pwF (aftF p.Arcs) n a i from rfl, this, sb]
end Go.Proofs.Ytffgdhbhlcifmaa
