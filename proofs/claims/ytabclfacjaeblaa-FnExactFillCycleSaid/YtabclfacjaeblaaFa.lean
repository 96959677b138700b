/- Walks of a length between two labels: what both sides compute. -/
import Derived.Test.YtabclfacjaeblaaPh
import Derived.Test.YtabclfacjaeblaaLo
import Derived.Test.YtabclfacjaeblaaGFa
import Derived.Test.YtabclfacjaeblaaGFb
namespace Go.Proofs.Ytabclfacjaeblaa
set_option linter.unusedSimpArgs false
set_option linter.unusedVariables false

theorem mulP_test (g : Nat → Nat) (m b : Nat) : ∀ j, (mulP g m j).testBit b = true ↔ ∃ x, x < j ∧ m.testBit x = true ∧ (g x).testBit b = true
  | 0 => by simp [mulP]
  | j + 1 => by
    simp only [mulP, Nat.testBit_or, Bool.or_eq_true, mulP_test g m b j]
    constructor
    · rintro (⟨x, h1, h2, h3⟩ | h)
      · exact ⟨x, by omega, h2, h3⟩
      · by_cases hb : m.testBit j = true
        · rw [if_pos hb] at h; exact ⟨j, by omega, hb, h⟩
        · rw [if_neg hb] at h; simp at h
    · rintro ⟨x, h1, h2, h3⟩
      by_cases e : x = j
      · subst e; exact .inr (by rw [if_pos h2]; exact h3)
      · exact .inl ⟨x, by omega, h2, h3⟩
theorem pwF_small {A : Nat → Nat} {n a : Nat} (hA : ∀ a, A a < 2 ^ n) (ha : a < n) : ∀ k, pwF A n a k < 2 ^ n
  | 0 => Nat.pow_lt_pow_right (by decide) ha
  | k + 1 => mulP_lt hA _ _
/-- Walks, from either end. -/
theorem pw_left (A : Nat → Nat) (n b : Nat) (hA : ∀ a, A a < 2 ^ n) (hb : b < n) : ∀ i c, c < n → ((pwF A n c (i + 1)).testBit b = true ↔ ∃ x, x < n ∧ (A c).testBit x = true ∧ (pwF A n x i).testBit b = true)
  | 0, c, hc => by
    simp only [pwF, mulP_test]
    constructor
    · rintro ⟨x, h1, h2, h3⟩
      have : c = x := by simpa [Nat.testBit_two_pow] using h2
      subst this
      exact ⟨b, hb, h3, by simp [Nat.testBit_two_pow]⟩
    · rintro ⟨x, h1, h2, h3⟩
      have : x = b := by simpa [Nat.testBit_two_pow] using h3
      subst this
      exact ⟨c, hc, by simp [Nat.testBit_two_pow], h2⟩
  | i + 1, c, hc => by
    rw [pwF, mulP_test]
    constructor
    · rintro ⟨y, h1, h2, h3⟩
      obtain ⟨x, e1, e2, e3⟩ := (pw_left A n y hA h1 i c hc).1 h2
      refine ⟨x, e1, e2, ?_⟩
      rw [pwF, mulP_test]
      exact ⟨y, h1, e3, h3⟩
    · rintro ⟨x, h1, h2, h3⟩
      rw [pwF, mulP_test] at h3
      obtain ⟨y, e1, e2, e3⟩ := h3
      exact ⟨y, e1, (pw_left A n y hA e1 i c hc).2 ⟨x, h1, h2, e2⟩, e3⟩
theorem pw_back (A R : Nat → Nat) (n b : Nat) (hA : ∀ a, A a < 2 ^ n) (hR : ∀ x y, x < n → y < n → (R x).testBit y = (A y).testBit x) (hb : b < n) : ∀ i c, c < n → ((pwF R n b i).testBit c = (pwF A n c i).testBit b)
  | 0, c, hc => by simp only [pwF, Nat.testBit_two_pow]; simp [eq_comm]
  | i + 1, c, hc => by
    rw [Bool.eq_iff_iff, pw_left A n b hA hb i c hc, pwF, mulP_test]
    constructor
    · rintro ⟨x, h1, h2, h3⟩
      exact ⟨x, h1, by rw [← hR x c h1 hc]; exact h3, by rw [← pw_back A R n b hA hR hb i x h1]; exact h2⟩
    · rintro ⟨x, h1, h2, h3⟩
      exact ⟨x, h1, by rw [pw_back A R n b hA hR hb i x h1]; exact h3, by rw [hR x c h1 hc]; exact h2⟩
/-! ### The labels ahead of each label -/
def swp (x : List Int) : List Int := [x.getD 1 0, x.headD 0]
def befF (LL : List (List Int)) : Nat → Nat := aftF (LL.map swp)
theorem okArcs_swp {n : Nat} {LL : List (List Int)} (h : okArcs n LL) : okArcs n (LL.map swp) := by
  intro x hx
  rw [List.mem_map] at hx
  obtain ⟨y, hy, rfl⟩ := hx
  obtain ⟨a, b, rfl, ha, hb⟩ := h y hy
  exact ⟨b, a, rfl, hb, ha⟩
theorem aftF_lt {n : Nat} {LL : List (List Int)} (h : okArcs n LL) : ∀ a, aftF LL a < 2 ^ n := by
  suffices hs : ∀ (LL : List (List Int)) (T : Nat → Nat), okArcs n LL → (∀ a, T a < 2 ^ n) → ∀ a, LL.foldl putA T a < 2 ^ n from hs LL _ h fun a => Nat.two_pow_pos n
  intro LL
  induction LL with
  | nil => intro T _ hT a; exact hT a
  | cons x LL ih =>
    intro T hk hT a
    obtain ⟨u, v, rfl, hu, hv⟩ := hk x (by simp)
    exact ih _ (fun y hy => hk y (by simp [hy])) (fun c => putA_lt hT hv c) a
theorem befF_test {n : Nat} {LL : List (List Int)} (h : okArcs n LL) (x y : Nat) (hx : x < n) (hy : y < n) : (befF LL x).testBit y = (aftF LL y).testBit x := by
  unfold befF aftF
  rw [aftF_test, aftF_test]
  simp only [Nat.zero_testBit, Bool.false_or, List.any_map]
  rw [Bool.eq_iff_iff, List.any_eq_true, List.any_eq_true]
  constructor
  · rintro ⟨z, hz, e⟩
    obtain ⟨a, b, rfl, ha, hb⟩ := h z hz
    refine ⟨_, hz, ?_⟩
    simp [swp] at e ⊢
    exact ⟨e.2, e.1⟩
  · rintro ⟨z, hz, e⟩
    obtain ⟨a, b, rfl, ha, hb⟩ := h z hz
    refine ⟨_, hz, ?_⟩
    simp [swp] at e ⊢
    exact ⟨e.2, e.1⟩
theorem e_before (n : Nat) (hn : n ≤ 60) (LL : List (List Int)) (h : okArcs n LL) : forI (fI_WalkProblem_walkBetween_s1) LL 0 ((List.range n).map fun _ => (0 : Int)) = some (.inl ((List.range n).map fun a => ((befF LL a : Nat) : Int))) := by
  have hstep := forI_foldp (body := fI_WalkProblem_walkBetween_s1) (fun T x => putA T (swp x)) (fun T => (List.range n).map fun a => ((T a : Nat) : Int)) (fun T => ∀ a, T a < 2 ^ n) LL 0 (fun _ => 0) (fun a => Nat.two_pow_pos n) fun k x T hx hT => by
    obtain ⟨b, a, rfl, hb, ha⟩ := h x hx
    have h60 : 2 ^ n ≤ 2 ^ 60 := Nat.pow_le_pow_right (by decide) hn
    have hpb : 2 ^ b < 2 ^ n := Nat.pow_lt_pow_right (by decide) hb
    refine ⟨?_, fun c => ?_⟩
    · unfold fI_WalkProblem_walkBetween_s1
      have hg : ix ((List.range n).map fun a => ((T a : Nat) : Int)) (a : Int) = some ((T a : Nat) : Int) := by rw [ix_nat]; simp [ha]
      rw [show ix [(b : Int), (a : Int)] 1 = some (a : Int) from rfl, sb, hg, sb, show ix [(b : Int), (a : Int)] 0 = some (b : Int) from rfl, sb, shl_one (by omega), sb, sb]
      have h1 : T a < 2 ^ 62 := Nat.lt_trans (Nat.lt_of_lt_of_le (hT a) h60) (by decide)
      have h2 : 2 ^ b < 2 ^ 62 := Nat.lt_trans (Nat.lt_of_lt_of_le hpb h60) (by decide)
      rw [bor_nat h1 h2, st_nat _ _ _ (by simpa using ha), sb]
      congr 2
      refine List.ext_getElem (by simp) fun j h1 h2 => ?_
      simp only [List.getElem_set, List.getElem_map, List.getElem_range, putA, swp, List.headD_cons, List.getD_cons_succ, List.getD_cons_zero, Int.toNat_natCast]
      by_cases e : a = j
      · subst e; simp
      · rw [if_neg e, if_neg (Ne.symm e)]
    · exact putA_lt (a := a) hT hb c
  have e : befF LL = LL.foldl (fun T x => putA T (swp x)) fun _ => 0 := by unfold befF aftF; rw [List.foldl_map]
  rw [e]
  exact hstep.1
theorem left_s3 (n m : Nat) (A : Nat → Nat) (hn : n ≤ 60) (hA : ∀ a, A a < 2 ^ n) : forI (fI_WalkProblem_walkBetween_s3 ((List.range n).map fun a => ((A a : Nat) : Int))) (lbs n m) 0 0 = some (.inl ((mulP A m n : Nat) : Int)) := by
  have h60 : 2 ^ n ≤ 2 ^ 60 := Nat.pow_le_pow_right (by decide) hn
  have key : ∀ j, j ≤ n → ∀ (k : Int) (s : Nat), s < 2 ^ n → forI (fI_WalkProblem_walkBetween_s3 ((List.range n).map fun a => ((A a : Nat) : Int))) (lbs j m) k ((s : Nat) : Int) = some (.inl ((s ||| mulP A m j : Nat) : Int)) := by
    intro j
    induction j with
    | zero => intro _ k s hs; simp [lbs, forI, mulP]
    | succ j ih =>
      intro hj k s hs
      have app : ∀ (xs ys : List Int) (k : Int) (s t : Int), forI (fI_WalkProblem_walkBetween_s3 ((List.range n).map fun a => ((A a : Nat) : Int))) xs k s = some (.inl t) →
          forI (fI_WalkProblem_walkBetween_s3 ((List.range n).map fun a => ((A a : Nat) : Int))) (xs ++ ys) k s = forI (fI_WalkProblem_walkBetween_s3 ((List.range n).map fun a => ((A a : Nat) : Int))) ys (k + xs.length) t := by
        intro xs
        induction xs with
        | nil => intro ys k s t h; simp only [forI] at h; cases h; simp
        | cons x xs ihx =>
          intro ys k s t h
          simp only [forI, List.cons_append] at h ⊢
          cases hb : fI_WalkProblem_walkBetween_s3 ((List.range n).map fun a => ((A a : Nat) : Int)) k x s with
          | none => rw [hb] at h; cases h
          | some r =>
            rw [hb] at h
            cases r with
            | go s' =>
              simp only at h ⊢
              rw [ihx ys (k + 1) s' t h, List.length_cons]
              congr 1; omega
            | out s' =>
              exfalso
              unfold fI_WalkProblem_walkBetween_s3 at hb
              cases hx : ix ((List.range n).map fun a => ((A a : Nat) : Int)) x with
              | none => rw [hx] at hb; cases hb
              | some q => rw [hx, sb] at hb; cases hb
            | ret s' => cases h
      rw [lbs_succ]
      cases hb : m.testBit j
      · simp only [mulP, hb, Bool.false_eq_true, if_false, Nat.or_zero]
        exact ih (by omega) k s hs
      · simp only [if_true]
        rw [app _ _ k _ _ (ih (by omega) k s hs)]
        have hlt := mulP_lt hA m j
        have hs2 : s ||| mulP A m j < 2 ^ n := Nat.or_lt_two_pow hs hlt
        have h1 : s ||| mulP A m j < 2 ^ 62 := Nat.lt_trans (Nat.lt_of_lt_of_le hs2 h60) (by decide)
        have h2 : A j < 2 ^ 62 := Nat.lt_trans (Nat.lt_of_lt_of_le (hA j) h60) (by decide)
        have hg : ix ((List.range n).map fun a => ((A a : Nat) : Int)) (j : Int) = some ((A j : Nat) : Int) := by rw [ix_nat]; simp [show j < n by omega]
        simp only [forI, fI_WalkProblem_walkBetween_s3, hg, sb, bor_nat h1 h2, mulP, hb, if_true, Nat.or_assoc]
  have := key n (Nat.le_refl _) 0 0 (Nat.two_pow_pos n)
  rw [Nat.zero_or] at this
  exact this
/-! ### The first walk -/
def nxt (A : Nat → Nat) (n b m l : Nat) : Option Nat := (List.range n).find? fun c => (A l).testBit c && (pwF A n c m).testBit b
def wk (A : Nat → Nat) (n b : Nat) : Nat → Nat → List Nat
  | 0, _ => []
  | m + 1, l => match nxt A n b m l with
    | some c => c :: wk A n b m c
    | none => []
theorem nxt_some {A : Nat → Nat} {n b m l : Nat} (hA : ∀ a, A a < 2 ^ n) (hb : b < n) (hl : l < n) (h : (pwF A n l (m + 1)).testBit b = true) : ∃ c, nxt A n b m l = some c ∧ c < n ∧ (A l).testBit c = true ∧ (pwF A n c m).testBit b = true := by
  obtain ⟨x, h1, h2, h3⟩ := (pw_left A n b hA hb m l hl).1 h
  unfold nxt
  cases hf : (List.range n).find? fun c => (A l).testBit c && (pwF A n c m).testBit b with
  | none =>
    have := List.find?_eq_none.1 hf x (List.mem_range.2 h1)
    simp [h2, h3] at this
  | some c =>
    have h4 := List.find?_some hf
    have h5 := List.mem_range.1 (List.mem_of_find?_eq_some hf)
    simp only [Bool.and_eq_true] at h4
    exact ⟨c, rfl, h5, h4.1, h4.2⟩
theorem wk_facts {A : Nat → Nat} {n b : Nat} (hA : ∀ a, A a < 2 ^ n) (hb : b < n) : ∀ m l, l < n → (pwF A n l m).testBit b = true → (wk A n b m l).length = m ∧ (l :: wk A n b m l).getD m 0 = b
  | 0, l, hl, h => by
    have : l = b := by simpa [pwF, Nat.testBit_two_pow] using h
    simp [wk, this]
  | m + 1, l, hl, h => by
    obtain ⟨c, e, h1, h2, h3⟩ := nxt_some hA hb hl h
    have ih := wk_facts hA hb m c h1 h3
    rw [wk, e]
    exact ⟨by simp [ih.1], by simpa using ih.2⟩
def toI (l : List Nat) : List Int := l.map fun i : Nat => (i : Int)
theorem find_loop {out : List Int} {n : Nat} {f : (List Int × Int) → Option (Lp (List Int × Int) (List Int × Int) ((List Int) × Bool))} (q : Nat → Bool) (hgo : ∀ j : Nat, j < n → q j = false → f (out, (j : Int)) = some (.go (out, ((j + 1 : Nat) : Int))))
    (hhit : ∀ j : Nat, j < n → q j = true → f (out, (j : Int)) = some (.out (out ++ [(j : Int)], 0))) {c : Nat} (hc : (List.range n).find? q = some c) {fuel : Nat} (hf : n < fuel) : loopF f fuel (out, 0) = some (.inl (out ++ [(c : Int)], 0)) := by
  have h4 := List.find?_some hc
  have h5 := List.mem_range.1 (List.mem_of_find?_eq_some hc)
  have h6 : ∀ j, j < c → q j = false := fun j hj => by
    have := (List.find?_range_eq_some.1 hc).2.2 j hj
    simpa using this
  suffices hs : ∀ (d j fuel : Nat), j + d = c → d < fuel → loopF f fuel (out, (j : Int)) = some (.inl (out ++ [(c : Int)], 0)) from hs c 0 fuel (by omega) (by omega)
  intro d
  induction d with
  | zero =>
    intro j fuel hj hf
    obtain ⟨m, rfl⟩ : ∃ m, fuel = m + 1 := ⟨fuel - 1, by omega⟩
    have : j = c := by omega
    subst this
    simp only [loopF, hhit j h5 h4]
  | succ d ih =>
    intro j fuel hj hf
    obtain ⟨m, rfl⟩ : ∃ m, fuel = m + 1 := ⟨fuel - 1, by omega⟩
    simp only [loopF, hgo j (by omega) (h6 j (by omega))]
    exact ih (j + 1) m (by omega) (by omega)
theorem ix_lastI {pre : List Int} {l : Int} : ix (pre ++ [l]) ((((pre ++ [l]).length : Nat) : Int) - 1) = some l := by
  have e : (((pre ++ [l]).length : Nat) : Int) - 1 = ((pre.length : Nat) : Int) := by simp
  rw [e, ix_nat]; simp
theorem push_ok {S : List Int} {x : Int} (h : S.length ≤ 1000000) : push S x = some (S ++ [x]) := by
  unfold push
  rw [if_pos (by omega)]
theorem spec_walk (n b k fuel0 : Nat) (p : T_WalkProblem) (hp : p.Labels = n) (hn : n ≤ 60) (h : okArcs n p.Arcs) (hb : b < n) (hk : k ≤ 1000) (hf0 : n < fuel0) : ∀ (m : Nat) (pre : List Int) (l fuel : Nat), m ≤ k → l < n → (pwF (aftF p.Arcs) n l m).testBit b = true → pre.length + m ≤ 10000 → m < fuel →
    loopF (fS_waBetween_s1 fuel0 p (b : Int) ((List.range (k + 1)).map fun j => matF n fun a => pwF (aftF p.Arcs) n a j) (matF n (aftF p.Arcs))) fuel (pre ++ [(l : Int)], (m : Int) - 1) = some (.inl (pre ++ (l : Int) :: toI (wk (aftF p.Arcs) n b m l), -1)) := by
  intro m
  induction m with
  | zero =>
    intro pre l fuel hm hl hw hpre hf
    obtain ⟨q, rfl⟩ : ∃ q, fuel = q + 1 := ⟨fuel - 1, by omega⟩
    have hs : fS_waBetween_s1 fuel0 p (b : Int) ((List.range (k + 1)).map fun j => matF n fun a => pwF (aftF p.Arcs) n a j) (matF n (aftF p.Arcs)) (pre ++ [(l : Int)], ((0 : Nat) : Int) - 1) = some (.out (pre ++ [(l : Int)], -1)) := by
      unfold fS_waBetween_s1
      rw [if_neg (by simp)]; rfl
    simp only [loopF, hs, wk, toI, List.map_nil]
  | succ m ih =>
    intro pre l fuel hm hl hw hpre hf
    obtain ⟨q, rfl⟩ : ∃ q, fuel = q + 1 := ⟨fuel - 1, by omega⟩
    obtain ⟨c, e, h1, h2, h3⟩ := nxt_some (aftF_lt h) hb hl hw
    have hpm : ix ((List.range (k + 1)).map fun j => matF n fun a => pwF (aftF p.Arcs) n a j) (m : Int) = some (matF n fun a => pwF (aftF p.Arcs) n a m) := by
      rw [ix_nat, List.getElem?_map, List.getElem?_range (by omega)]; rfl
    have inner := find_loop (out := pre ++ [(l : Int)]) (f := fS_waBetween_s2 p (b : Int) ((List.range (k + 1)).map fun j => matF n fun a => pwF (aftF p.Arcs) n a j) (matF n (aftF p.Arcs)) (m : Int))
      (fun c => (aftF p.Arcs l).testBit c && (pwF (aftF p.Arcs) n c m).testBit b) (fun j hj hq => by
        unfold fS_waBetween_s2
        simp only
        rw [if_pos (by rw [hp]; simpa using hj), ck_in (by first | (simp; done) | (simp; omega)) (by first | (simp; done) | (simp; omega)), sb, ix_lastI, sb, ix_matF hl, sb, ix_mrow hj, sb]
        cases ha : (aftF p.Arcs l).testBit j
        · rw [if_neg (by simp), sb, if_neg (by simp), ck_in (by omega) (by omega), sb]; rfl
        · rw [ha, Bool.true_and] at hq
          rw [if_pos rfl, hpm, sb, ix_matF hj, sb, ix_mrow hb, sb, sb, hq, if_neg (by simp), ck_in (by omega) (by omega), sb]; rfl) (fun j hj hq => by
        simp only [Bool.and_eq_true] at hq
        unfold fS_waBetween_s2
        simp only
        rw [if_pos (by rw [hp]; simpa using hj), ck_in (by first | (simp; done) | (simp; omega)) (by first | (simp; done) | (simp; omega)), sb, ix_lastI, sb, ix_matF hl, sb, ix_mrow hj, sb, hq.1, if_pos rfl, hpm, sb, ix_matF hj, sb, ix_mrow hb, sb, sb, hq.2, if_pos rfl, push_ok (by simp; omega), sb]) (c := c) e hf0
    have hs : fS_waBetween_s1 fuel0 p (b : Int) ((List.range (k + 1)).map fun j => matF n fun a => pwF (aftF p.Arcs) n a j) (matF n (aftF p.Arcs)) (pre ++ [(l : Int)], ((m + 1 : Nat) : Int) - 1) = some (.go ((pre ++ [(l : Int)]) ++ [(c : Int)], (m : Int) - 1)) := by
      unfold fS_waBetween_s1
      simp only
      rw [show ((m + 1 : Nat) : Int) - 1 = (m : Int) by omega, if_pos (by simp), inner, sb]
      simp only
      rw [ck_in (by omega) (by omega), sb]
    simp only [loopF, hs]
    rw [ih (pre ++ [(l : Int)]) c q (by omega) h1 h3 (by simp; omega) (by omega), wk, e]
    simp [toI]
def wbL (p : T_WalkProblem) (n a b k : Nat) : List Int := if (pwF (aftF p.Arcs) n a k).testBit b then (a : Int) :: toI (wk (aftF p.Arcs) n b k a) else []
theorem e_waBetween (n a b k fuel : Nat) (p : T_WalkProblem) (hp : p.Labels = n) (hn : n ≤ 60) (h : okArcs n p.Arcs) (ha : a < n) (hb : b < n) (hk : k ≤ 1000) (hf : 2000 ≤ fuel) :
    fS_waBetween fuel p (a : Int) (b : Int) (k : Int) = some (wbL p n a b k, (pwF (aftF p.Arcs) n a k).testBit b) := by
  unfold fS_waBetween wbL
  have hpk : ix ((List.range (k + 1)).map fun j => matF n fun a => pwF (aftF p.Arcs) n a j) (k : Int) = some (matF n fun a => pwF (aftF p.Arcs) n a k) := by
    rw [ix_nat, List.getElem?_map, List.getElem?_range (by omega)]; rfl
  rw [e_waPowers n k fuel p hp hn h hk (by omega), sb, hpk, sb, ix_matF ha, sb, ix_mrow hb, sb]
  cases hw : (pwF (aftF p.Arcs) n a k).testBit b
  · simp
  · rw [if_neg (by simp), e_waMay n fuel p hp hn h (by omega), sb, ck_in (by omega) (by omega), sb]
    have := spec_walk n b k fuel p hp hn h hb hk (by omega) k [] a fuel (Nat.le_refl _) ha hw (by simp; omega) (by omega)
    rw [List.nil_append, List.nil_append] at this
    rw [this, sb]
    rfl
theorem ix_first {n S c : Nat} (h : ((List.range n).find? fun i => S.testBit i) = some c) : ix (lbs n S) 0 = some (c : Int) := by
  rw [show (0 : Int) = ((0 : Nat) : Int) from rfl, ix_nat, ← List.head?_eq_getElem?]
  unfold lbs
  rw [List.head?_map, List.head?_filter, h]; rfl
theorem impl_walk (n b k fuel0 : Nat) (p : T_WalkProblem) (hp : p.Labels = n) (hn : n ≤ 60) (h : okArcs n p.Arcs) (hb : b < n) (hk : k ≤ 1000) (hf0 : n < fuel0) : ∀ (m : Nat) (pre : List Int) (l fuel : Nat), m ≤ k → l < n → (pwF (aftF p.Arcs) n l m).testBit b = true → pre.length + m ≤ 10000 → m < fuel →
    loopF (fI_WalkProblem_walkBetween_s4 fuel0 ((List.range (k + 1)).map fun j => ((pwF (befF p.Arcs) n b j : Nat) : Int)) ((List.range n).map fun a => ((aftF p.Arcs a : Nat) : Int))) fuel (pre ++ [(l : Int)], (m : Int) - 1) = some (.inl (pre ++ (l : Int) :: toI (wk (aftF p.Arcs) n b m l), -1)) := by
  have hB : ∀ a, befF p.Arcs a < 2 ^ n := aftF_lt (okArcs_swp h)
  have h60 : 2 ^ n ≤ 2 ^ 60 := Nat.pow_le_pow_right (by decide) hn
  intro m
  induction m with
  | zero =>
    intro pre l fuel hm hl hw hpre hf
    obtain ⟨q, rfl⟩ : ∃ q, fuel = q + 1 := ⟨fuel - 1, by omega⟩
    have hs : fI_WalkProblem_walkBetween_s4 fuel0 ((List.range (k + 1)).map fun j => ((pwF (befF p.Arcs) n b j : Nat) : Int)) ((List.range n).map fun a => ((aftF p.Arcs a : Nat) : Int)) (pre ++ [(l : Int)], ((0 : Nat) : Int) - 1) = some (.out (pre ++ [(l : Int)], -1)) := by
      unfold fI_WalkProblem_walkBetween_s4
      rw [if_neg (by simp)]; rfl
    simp only [loopF, hs, wk, toI, List.map_nil]
  | succ m ih =>
    intro pre l fuel hm hl hw hpre hf
    obtain ⟨q, rfl⟩ : ∃ q, fuel = q + 1 := ⟨fuel - 1, by omega⟩
    obtain ⟨c, e, h1, h2, h3⟩ := nxt_some (aftF_lt h) hb hl hw
    have hpm : ix ((List.range (k + 1)).map fun j => ((pwF (befF p.Arcs) n b j : Nat) : Int)) (m : Int) = some ((pwF (befF p.Arcs) n b m : Nat) : Int) := by
      rw [ix_nat, List.getElem?_map, List.getElem?_range (by omega)]; rfl
    have hal : ix ((List.range n).map fun a => ((aftF p.Arcs a : Nat) : Int)) (l : Int) = some ((aftF p.Arcs l : Nat) : Int) := by
      rw [ix_nat, List.getElem?_map, List.getElem?_range hl]; rfl
    have hA2 : aftF p.Arcs l < 2 ^ 62 := Nat.lt_of_lt_of_le (aftF_lt h l) (Nat.le_trans h60 (by decide))
    have hB2 : pwF (befF p.Arcs) n b m < 2 ^ 62 := Nat.lt_of_lt_of_le (pwF_small hB hb m) (Nat.le_trans h60 (by decide))
    have hS : aftF p.Arcs l &&& pwF (befF p.Arcs) n b m < 2 ^ n := Nat.lt_of_le_of_lt Nat.and_le_left (aftF_lt h l)
    have hfind : ((List.range n).find? fun i => (aftF p.Arcs l &&& pwF (befF p.Arcs) n b m).testBit i) = some c := by
      rw [← e]
      unfold nxt
      rw [← List.head?_filter, ← List.head?_filter]
      congr 1
      refine List.filter_congr fun x hx => ?_
      rw [Nat.testBit_and, pw_back (aftF p.Arcs) (befF p.Arcs) n b (aftF_lt h) (fun x y hx hy => befF_test h x y hx hy) hb m x (List.mem_range.1 hx)]
    have hs : fI_WalkProblem_walkBetween_s4 fuel0 ((List.range (k + 1)).map fun j => ((pwF (befF p.Arcs) n b j : Nat) : Int)) ((List.range n).map fun a => ((aftF p.Arcs a : Nat) : Int)) (pre ++ [(l : Int)], ((m + 1 : Nat) : Int) - 1) = some (.go ((pre ++ [(l : Int)]) ++ [(c : Int)], (m : Int) - 1)) := by
      unfold fI_WalkProblem_walkBetween_s4
      simp only
      rw [show ((m + 1 : Nat) : Int) - 1 = (m : Int) by omega, if_pos (by simp), ck_in (by first | (simp; done) | (simp; omega)) (by first | (simp; done) | (simp; omega)), sb, ix_lastI, sb, hal, sb, hpm, sb, band_nat hA2 hB2, e_labelsIn n _ fuel0 hS (by omega) hf0, sb, ix_first hfind, sb, push_ok (by simp; omega), sb, ck_in (by omega) (by omega), sb]
    simp only [loopF, hs]
    rw [ih (pre ++ [(l : Int)]) c q (by omega) h1 h3 (by simp; omega) (by omega), wk, e]
    simp [toI]
theorem e_walkBetween (n a b k fuel : Nat) (p : T_WalkProblem) (hp : p.Labels = n) (hn : n ≤ 60) (h : okArcs n p.Arcs) (ha : a < n) (hb : b < n) (hk : k ≤ 1000) (hf : 2000 ≤ fuel) :
    fI_WalkProblem_walkBetween fuel p (a : Int) (b : Int) (k : Int) = some (wbL p n a b k) := by
  have hB : ∀ a, befF p.Arcs a < 2 ^ n := aftF_lt (okArcs_swp h)
  have h60 : 2 ^ n ≤ 2 ^ 60 := Nat.pow_le_pow_right (by decide) hn
  obtain ⟨e1, hA⟩ := e_after n p hp hn h
  unfold fI_WalkProblem_walkBetween wbL
  have hmk : mk (Rz.z : Int) (n : Int) = some ((List.range n).map fun _ => (0 : Int)) := by
    unfold mk
    rw [if_pos ⟨by omega, by omega⟩, Int.toNat_natCast]
    congr 1
    refine List.ext_getElem (by simp) fun i h1 h2 => ?_
    simp; rfl
  have hl := forN_inv0 (body := fI_WalkProblem_walkBetween_s2 fuel ((List.range n).map fun a => ((befF p.Arcs a : Nat) : Int))) (fun j => (List.range (j + 1)).map fun i => ((pwF (befF p.Arcs) n b i : Nat) : Int)) k (fun j hj => by
    unfold fI_WalkProblem_walkBetween_s2
    have hg : ix ((List.range (j + 1)).map fun i => ((pwF (befF p.Arcs) n b i : Nat) : Int)) (j : Int) = some ((pwF (befF p.Arcs) n b j : Nat) : Int) := by rw [ix_nat]; simp
    rw [hg, sb, e_labelsIn n _ fuel (pwF_small hB hb j) (by omega) (by omega), sb, left_s3 n _ _ hn hB, sb]
    simp only
    unfold push
    rw [if_pos (by simp; omega), sb, List.range_succ (n := j + 1), List.map_append]
    rfl)
  have hk2 : ix ((List.range (k + 1)).map fun j => ((pwF (befF p.Arcs) n b j : Nat) : Int)) (k : Int) = some ((pwF (befF p.Arcs) n b k : Nat) : Int) := by
    rw [ix_nat, List.getElem?_map, List.getElem?_range (by omega)]; rfl
  have hB2 : pwF (befF p.Arcs) n b k < 2 ^ 62 := Nat.lt_of_lt_of_le (pwF_small hB hb k) (Nat.le_trans h60 (by decide))
  rw [hp, hmk, sb, e_before n hn p.Arcs h, sb]
  simp only
  rw [shl_one (by omega), sb, ck_in (by omega) (by omega), sb, Int.toNat_natCast, show ([((2 ^ b : Nat) : Int)] : List Int) = (List.range (0 + 1)).map fun i => ((pwF (befF p.Arcs) n b i : Nat) : Int) from rfl, hl, sb]
  simp only
  rw [hk2, sb, shr_nat (by omega), sb]
  have hbk := pw_back (aftF p.Arcs) (befF p.Arcs) n b (aftF_lt h) (fun x y hx hy => befF_test h x y hx hy) hb k a ha
  have hb0 : (band ((pwF (befF p.Arcs) n b k / 2 ^ a : Nat) : Int) 1 == 0) = !(pwF (aftF p.Arcs) n a k).testBit b := by
    have hS := hB2
    have h1 : pwF (befF p.Arcs) n b k / 2 ^ a < 2 ^ 62 := Nat.lt_of_le_of_lt (Nat.div_le_self _ _) hS
    rw [← hbk, show (1 : Int) = ((1 : Nat) : Int) from rfl, band_nat h1 (by decide), Nat.and_one_is_mod, Nat.testBit_eq_decide_div_mod_eq]
    rw [Bool.eq_iff_iff, beq_iff_eq]
    simp only [Bool.not_eq_true', decide_eq_false_iff_not]
    omega
  rw [hb0]
  cases hw : (pwF (aftF p.Arcs) n a k).testBit b
  · simp
  · rw [Bool.not_true, if_neg (by simp), e1, sb, ck_in (by omega) (by omega), sb]
    have := impl_walk n b k fuel p hp hn h hb hk (by omega) k [] a fuel (Nat.le_refl _) ha hw (by simp; omega) (by omega)
    rw [List.nil_append, List.nil_append] at this
    rw [this, sb]
    simp only [if_true, nem, List.isEmpty_cons, Bool.false_eq_true, if_false, sb]
end Go.Proofs.Ytabclfacjaeblaa
