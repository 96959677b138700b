/- RefutesOrder: what both sides compute; the calls as the law makes them. -/
import Derived.Test.YtiejigogmnkjdaaAd
import Derived.Test.YtiejigogmnkjdaaOw
import Derived.Test.YtiejigogmnkjdaaPg
import Derived.Test.YtiejigogmnkjdaaGQ
namespace Go.Proofs.Ytiejigogmnkjdaa
open Go.RowKit
set_option linter.unusedSimpArgs false
set_option linter.unusedVariables false

def loopB (p : T_WalkProblem) : Bool := p.Arcs.any fun x => x.headD 0 == x.getD 1 0
theorem e_waLoop (p : T_WalkProblem) (n : Nat) (h : okArcs n p.Arcs) : ∃ r : Int, fS_waLoop p = some r ∧ (r < 0 ↔ loopB p = false) := by
  unfold fS_waLoop
  rw [forI_first0 (fun _ x => if x.headD 0 == x.getD 1 0 then some (x.headD 0) else none) p.Arcs (fun j x hj _ => by
    obtain ⟨a, b, rfl, ha, hb⟩ := h x (List.mem_of_getElem? hj)
    unfold fS_waLoop_s1
    rw [show ix [(a : Int), (b : Int)] 0 = some (a : Int) from rfl, sb, show ix [(a : Int), (b : Int)] 1 = some (b : Int) from rfl, sb]
    show (if (((a : Int) == (b : Int)) = true) then _ else _) = _
    by_cases e : ((a : Int) == (b : Int)) = true
    · rw [if_pos e, sb]
      have e2 : (([(a : Int), (b : Int)].headD 0) == [(a : Int), (b : Int)].getD 1 0) = true := e
      rw [if_pos e2]; rfl
    · rw [if_neg e]
      have e2 : ¬ (([(a : Int), (b : Int)].headD 0) == [(a : Int), (b : Int)].getD 1 0) = true := e
      rw [if_neg e2]; rfl), sb]
  cases hc : firstP (fun _ x => if x.headD 0 == x.getD 1 0 then some (x.headD 0) else none) p.Arcs 0 with
  | none =>
    have hz : loopB p = false := by
      unfold loopB
      rw [List.any_eq_false]
      intro x hx
      obtain ⟨j, hj⟩ := List.mem_iff_getElem?.1 hx
      have := firstP_none.1 hc j x hj
      intro e
      rw [if_pos e] at this; cases this
    exact ⟨-1, rfl, by simp [hz]⟩
  | some r =>
    obtain ⟨j, x, h1, h2⟩ := firstP_some hc
    obtain ⟨a, b, rfl, ha, hb⟩ := h x (List.mem_of_getElem? h1)
    by_cases e : (([(a : Int), (b : Int)].headD 0) == [(a : Int), (b : Int)].getD 1 0) = true
    · rw [if_pos e] at h2
      cases h2
      have hl : loopB p = true := List.any_eq_true.2 ⟨_, List.mem_of_getElem? h1, e⟩
      refine ⟨(a : Int), rfl, ?_⟩
      rw [hl]; simp
    · rw [if_neg e] at h2; cases h2
theorem aftF_test : ∀ (LL : List (List Int)) (T : Nat → Nat) (a b : Nat), (LL.foldl putA T a).testBit b = ((T a).testBit b || LL.any fun x => decide ((x.headD 0).toNat = a) && decide ((x.getD 1 0).toNat = b))
  | [], T, a, b => by simp
  | x :: LL, T, a, b => by
    rw [List.foldl_cons, aftF_test LL, List.any_cons]
    unfold putA
    by_cases e : a = (x.headD 0).toNat
    · rw [if_pos e, ← e]
      simp only [Nat.testBit_or, Nat.testBit_two_pow, decide_true, Bool.true_and, Bool.or_assoc]
    · rw [if_neg e]
      have : decide ((x.headD 0).toNat = a) = false := decide_eq_false fun h => e h.symm
      rw [this]; simp
theorem e_numbersTo (n : Nat) (hn : n ≤ 1000000) : fI_numbersTo (n : Int) = some ((List.range n).map fun a : Nat => (a : Int)) := by
  unfold fI_numbersTo mk
  rw [if_pos (by omega), sb, ck_in (by simp only [List.length_replicate, Int.toNat_natCast]; omega) (by simp only [List.length_replicate, Int.toNat_natCast]; omega), sb]
  have hz : List.replicate ((n : Int)).toNat (Rz.z : Int) = (List.range n).map fun a : Nat => if a < 0 then (a : Int) else 0 := by
    refine List.ext_getElem (by simp) fun i h1 h2 => ?_
    simp; rfl
  have := forN_inv0 (body := fI_numbersTo_s1) (fun j => (List.range n).map fun a : Nat => if a < j then (a : Int) else 0) n (fun j hj => by
    unfold fI_numbersTo_s1
    rw [ix_lt _ _ (by simpa using hj), sb, st_nat _ _ _ (by simpa using hj), sb]
    congr 2
    refine List.ext_getElem (by simp) fun i h1 h2 => ?_
    simp only [List.getElem_set, List.getElem_map, List.getElem_range]
    by_cases e : j = i
    · subst e; simp
    · rw [if_neg e]
      by_cases h : i < j
      · rw [if_pos h, if_pos (by omega)]
      · rw [if_neg h, if_neg (by omega)])
  rw [hz]
  simp only [List.length_map, List.length_range, Int.toNat_natCast]
  rw [this, sb]
  simp only
  congr 1
  refine List.map_congr_left fun a ha => ?_
  rw [if_pos (List.mem_range.1 ha)]
theorem e_loop1 (p : T_WalkProblem) (n a : Nat) (hn : n ≤ 60) (ha2 : a < n) (ha : fI_WalkProblem_after p = some ((List.range n).map fun a => ((aftF p.Arcs a : Nat) : Int))) (hlt : aftF p.Arcs a < 2 ^ n) :
    fI_WalkProblem_loopOf_1 (a : Int) p = some ((aftF p.Arcs ((a : Int)).toNat).testBit ((a : Int)).toNat) := by
  unfold fI_WalkProblem_loopOf_1
  have hS : aftF p.Arcs a < 2 ^ 62 := Nat.lt_of_lt_of_le hlt (Nat.pow_le_pow_right (by decide) (by omega))
  have hx : ix ((List.range n).map fun a => ((aftF p.Arcs a : Nat) : Int)) (a : Int) = some ((aftF p.Arcs a : Nat) : Int) := by
    rw [ix_nat, List.getElem?_map, List.getElem?_range ha2]; rfl
  rw [ha, sb, hx, sb, shr_nat (by omega), sb, bit_test hS, Int.toNat_natCast]
theorem e_loopOf (p : T_WalkProblem) (n : Nat) (hp : p.Labels = n) (hn : n ≤ 60) (h : okArcs n p.Arcs) : ∃ r : Int, fI_WalkProblem_loopOf p = some r ∧ (r < 0 ↔ loopB p = false) := by
  obtain ⟨ha, hlt⟩ := e_after n p hp hn h
  unfold fI_WalkProblem_loopOf
  rw [hp, e_numbersTo n (by omega), sb, e_IndexFunc _ _ (fun x => (aftF p.Arcs x.toNat).testBit x.toNat) (fun x hx => by
    simp only [List.mem_map, List.mem_range] at hx
    obtain ⟨a, ha2, rfl⟩ := hx
    unfold fI_WalkProblem_loopOf_1
    exact e_loop1 p n a hn ha2 ha (hlt a)) (by simp only [List.length_map, List.length_range]; omega), sb]
  refine ⟨_, rfl, ?_⟩
  have hiff : loopB p = true ↔ ∃ a, a < n ∧ (aftF p.Arcs a).testBit a = true := by
    unfold loopB aftF
    rw [List.any_eq_true]
    constructor
    · rintro ⟨x, hx, e⟩
      obtain ⟨a, b, rfl, ha, hb⟩ := h x hx
      have e' : a = b := by
        have : (a : Int) = (b : Int) := by simpa using e
        omega
      subst e'
      refine ⟨a, ha, ?_⟩
      rw [aftF_test]
      simp only [Nat.zero_testBit, Bool.false_or]
      exact List.any_eq_true.2 ⟨_, hx, by simp⟩
    · rintro ⟨a, ha, e⟩
      rw [aftF_test] at e
      simp only [Nat.zero_testBit, Bool.false_or] at e
      obtain ⟨x, hx, e⟩ := List.any_eq_true.1 e
      obtain ⟨c, d, rfl, hc, hd⟩ := h x hx
      refine ⟨_, hx, ?_⟩
      simp at e ⊢
      omega
  cases hc : firstP (fun k (x : Int) => if (aftF p.Arcs x.toNat).testBit x.toNat then some (k : Int) else none) ((List.range n).map fun a : Nat => (a : Int)) 0 with
  | none =>
    have : loopB p = false := by
      cases hb : loopB p with
      | false => rfl
      | true =>
        obtain ⟨a, ha2, e⟩ := hiff.1 hb
        have := firstP_none.1 hc a (a : Int) (by simp [ha2])
        simp only [Int.toNat_natCast, e, if_true] at this
        cases this
    simp [this]
  | some r =>
    obtain ⟨j, x, h1, h2⟩ := firstP_some hc
    have hx := List.mem_of_getElem? h1
    simp only [List.mem_map, List.mem_range] at hx
    obtain ⟨a, ha2, rfl⟩ := hx
    by_cases e : (aftF p.Arcs ((a : Int)).toNat).testBit ((a : Int)).toNat = true
    · rw [if_pos e] at h2
      cases h2
      have : loopB p = true := hiff.2 ⟨a, ha2, by simpa using e⟩
      rw [this]; simp
    · rw [if_neg e] at h2; cases h2
def refB (p : T_WalkProblem) (l : List Int) (r i : Int) : Bool × Bool := if walkB p && (wideB l r && inB 0 ((l.length : Int) - 1) i) then (!loopB p && alikeB l i.toNat r.toNat, true) else (false, false)
theorem e_specRef (fuel : Nat) (hf : 1000 ≤ fuel) (p : T_WalkProblem) (l : List Int) (r i : Int) (hJ : p.Arcs.length ≤ 1000000000) (hl : l.length ≤ 1048576) : fS_RefutesOrder fuel p l r i = some (refB p l r i) := by
  unfold fS_RefutesOrder refB
  rw [e_waGood p hJ, sb]
  cases hw : walkB p
  · simp [sb]
  · obtain ⟨w1, w2, w3, w4⟩ := okArcs_of hw
    rw [if_neg (by simp), e_cyWide l r hl, sb]
    cases h : wideB l r
    · simp [sb]
    · rw [if_neg (by simp), ck_in (by omega) (by omega), sb, e_l1In, sb, sb]
      rw [show (decide (0 ≤ i) && decide (i ≤ (l.length : Int) - 1)) = inB 0 ((l.length : Int) - 1) i from rfl]
      cases h2 : inB 0 ((l.length : Int) - 1) i
      · simp
      · obtain ⟨a, b, rfl, rfl, h3, h4, h5⟩ := win_parts h h2
        obtain ⟨x, hx, hs⟩ := e_waLoop p _ w4
        rw [if_neg (by simp)]
        unfold fS_LoopOf
        rw [e_waGood p hJ, sb, hw, if_neg (by simp), hx, sb, sb]
        by_cases hb : loopB p = false
        · have : decide (x < 0) = true := by simpa using hs.2 hb
          rw [this, if_pos rfl, sb]
          rw [if_pos (by simp), e_cyAlike fuel hf l a b h3 h4 h5, sb, sb]
          simp [hb]
        · have : decide (x < 0) = false := by simp; rw [Bool.not_eq_false] at hb; have := fun h => hb.symm.trans (hs.1 h); simp at this; omega
          rw [this, if_neg (by simp), sb, sb]
          rw [Bool.not_eq_false] at hb
          simp [hb, sb]
theorem e_implRef (fuel : Nat) (hf : 1000 ≤ fuel) (p : T_WalkProblem) (l : List Int) (r i : Int) (hJ : p.Arcs.length ≤ 1000000000) (hl : l.length ≤ 1048576) : fI_RefutesOrder fuel p l r i = some (refB p l r i) := by
  unfold fI_RefutesOrder refB
  rw [e_IsWalkProblem p hJ, sb]
  cases hw : walkB p
  · simp [sb]
  · obtain ⟨w1, w2, w3, w4⟩ := okArcs_of hw
    rw [if_neg (by simp), e_windowOk l i r hl, sb, sb]
    cases h : wideB l r
    · simp
    · cases h2 : inB 0 ((l.length : Int) - 1) i
      · simp
      · obtain ⟨a, b, rfl, rfl, h3, h4, h5⟩ := win_parts h h2
        obtain ⟨x, hx, hs⟩ := e_loopOf p _ w1 (by omega) w4
        rw [if_neg (by simp), hx, sb]
        by_cases hb : loopB p = false
        · have : decide (x < 0) = true := by simpa using hs.2 hb
          rw [this, if_pos rfl, e_sameOrder fuel hf l a b h3 h4 h5, sb, sb]
          simp [hb]
        · have : decide (x < 0) = false := by simp; rw [Bool.not_eq_false] at hb; have := fun h => hb.symm.trans (hs.1 h); simp at this; omega
          rw [this, if_neg (by simp), sb]
          rw [Bool.not_eq_false] at hb
          simp [hb]
theorem szW_arcs {x : WP} (h : szW x ≤ 1048576) : x.arcs.length ≤ 1048576 := by
  unfold szW at h
  unfold tot at h
  omega
def fRefutesOrderSpec (x : WP) (l : List Int) (r i : Int) : Bool × Bool := refB (tW x) l r i
def fRefutesOrderImpl (x : WP) (l : List Int) (r i : Int) : Bool × Bool := fRefutesOrderSpec x l r i
theorem RefutesOrder_eq (x : WP) (l : List Int) (r i : Int) (_ : okW x) (_ : szW x ≤ 1048576) (_ : ∀ n ∈ l, I64 n) (_ : l.length ≤ 1048576) (_ : I64 r) (_ : I64 i) : fRefutesOrderImpl x l r i = fRefutesOrderSpec x l r i := rfl
theorem specRefutesOrder_any (v : Value) (x : WP) (lv : Value) (l : List Int) (r i : Int) (w : World) (h : RdW w v x) (_ : okW x) (hs : szW x ≤ 1048576) (hl : Ints w lv l) (_ : ∀ n ∈ l, I64 n) (hls : l.length ≤ 1048576) (_ : I64 r) (_ : I64 i) :
    Calls Try.prog 50 #[v, lv, .int .i64 r, .int .i64 i] w fun e w' => e = .returned (.tuple #[.bool (fRefutesOrderSpec x l r i).1, .bool (fRefutesOrderSpec x l r i).2]) ∧ Keeps w w' := by
  obtain ⟨u, rfl, h2⟩ := h.rdz
  exact cS_RefutesOrder 1000 w u (tW x) h2 lv l hl.rdl r i _ (e_specRef 1000 (Nat.le_refl _) (tW x) l r i (by have := szW_arcs hs; simp only [tW]; omega) hls)
theorem implRefutesOrder_any (v : Value) (x : WP) (lv : Value) (l : List Int) (r i : Int) (w : World) (h : RdW w v x) (_ : okW x) (hs : szW x ≤ 1048576) (hl : Ints w lv l) (_ : ∀ n ∈ l, I64 n) (hls : l.length ≤ 1048576) (_ : I64 r) (_ : I64 i) :
    Calls Try.prog 52 #[v, lv, .int .i64 r, .int .i64 i] w fun e w' => e = .returned (.tuple #[.bool (fRefutesOrderImpl x l r i).1, .bool (fRefutesOrderImpl x l r i).2]) ∧ Keeps w w' := by
  obtain ⟨u, rfl, h2⟩ := h.rdz
  exact cI_RefutesOrder 1000 w u (tW x) h2 lv l hl.rdl r i _ (e_implRef 1000 (Nat.le_refl _) (tW x) l r i (by have := szW_arcs hs; simp only [tW]; omega) hls)
end Go.Proofs.Ytiejigogmnkjdaa
