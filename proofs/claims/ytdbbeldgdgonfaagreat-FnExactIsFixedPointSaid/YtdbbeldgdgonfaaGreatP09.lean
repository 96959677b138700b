/- Part 9 of what this claim rests on (Pp, Tyz, Knp, Kh, Ks, Kpv, Kpx, Khl), packed by pack.py. -/
import Derived.Test.YtdbbeldgdgonfaaGreatP04
import Derived.Test.YtdbbeldgdgonfaaGreatP06
import Derived.Test.YtdbbeldgdgonfaaGreatP07
import Derived.Test.YtdbbeldgdgonfaaGreatP08
namespace Go.Proofs.YtdbbeldgdgonfaaGreat
set_option linter.unusedSimpArgs false
set_option linter.unusedVariables false

section
theorem hz_ : ∀ {a b : List Int}, a.length = b.length → (ordL a b = 0 ↔ a = b)
 | [], [], _ => by simp [ordL]
 | [], _ :: _, h => by simp at h
 | _ :: _, [], h => by simp at h
 | x :: a, y :: b, h => by
  have ih := hz_ (a := a) (b := b) (by simpa using h)
  simp only [ordL]
  by_cases e : x < y
  ·rw [if_pos e]; simp; omega
  ·rw [if_neg e]
   by_cases e2 : x > y
   ·rw [if_pos e2]; simp; omega
   ·rw [if_neg e2, ih]
    have : x = y := by omega
    simp [this]
theorem hN_ : ∀ {a b c : List Int}, a.length = b.length → b.length = c.length → ordL a b < 0 → ordL b c < 0 → ordL a c < 0
 | [], [], [], _, _, h, _ => by simp [ordL] at h
 | [], [], _ :: _, _, h, _, _ => by simp at h
 | [], _ :: _, _, h, _, _, _ => by simp at h
 | _ :: _, [], _, h, _, _, _ => by simp at h
 | _ :: _, _ :: _, [], _, h, _, _ => by simp at h
 | x :: a, y :: b, z :: c, h1, h2, h3, h4 => by
  have ih := hN_ (a := a) (b := b) (c := c) (by simpa using h1) (by simpa using h2)
  simp only [ordL] at h3 h4 ⊢
  by_cases e : x < y
  ·by_cases e2 : y < z
   ·rw [if_pos (by omega)]; omega
   ·rw [if_neg e2] at h4
    by_cases e3 : y > z
    ·rw [if_pos e3] at h4; omega
    ·rw [if_pos (by omega)]; omega
  ·rw [if_neg e] at h3
   by_cases e2 : x > y
   ·rw [if_pos e2] at h3; omega
   ·rw [if_neg e2] at h3
    have : x = y := by omega
    subst this
    by_cases e3 : x < z
    ·rw [if_pos e3]; omega
    ·rw [if_neg e3] at h4 ⊢
     by_cases e4 : x > z
     ·rw [if_pos e4] at h4; omega
     ·rw [if_neg e4] at h4 ⊢
      exact ih h3 h4
def confB (LL : List (List Int)) (m n : Int) (k : Nat) (x : List Int) : Bool :=
  decide ((x.length : Int) = m) && sortB x && x.all (inB 0 (n - 1)) && (decide (k = 0) || decide (ordL (LL.getD (k - 1) []) x < 0))
def confP (LL : List (List Int)) (m n : Int) (k : Nat) (x : List Int) : Option Bool := if confB LL m n k x then none else some false
def confsB (LL : List (List Int)) (m n : Int) : Bool := (firstP (confP LL m n) LL 0).isNone
theorem kY_ {LL xs : List (List Int)} {m n : Int} {k : Nat} {r : Bool} (h : firstP (confP LL m n) xs k = some r) : r = false := by
 obtain ⟨j, x, _, h2⟩ := cw_ h
 unfold confP at h2
 split at h2 <;> cases h2
 rfl
theorem hJ_ {LL : List (List Int)} {m n : Int} {k : Nat} {x : List Int} (h : confP LL m n k x = none) : (x.length : Int) = m ∧ sortB x = true ∧ (∀ y, y ∈ x → 0 ≤ y ∧ y ≤ n - 1) ∧ (k = 0 ∨ ordL (LL.getD (k - 1) []) x < 0) := by
 unfold confP at h
 split at h
 ·rename_i hb
  simp only [confB, Bool.and_eq_true, decide_eq_true_eq, Bool.or_eq_true] at hb
  exact ⟨hb.1.1.1, hb.1.1.2, fun y hy => dV_.1 (List.all_eq_true.1 hb.1.2 y hy), hb.2⟩
 ·cases h
theorem fc_ {LL : List (List Int)} {m n : Int} {k : Nat} {x : List Int} (h : confB LL m n k x = false) : lpP (confP LL m n k x) = .ret false := by simp [confP, h, lpP]
theorem lc_ {LL : List (List Int)} {m n : Int} {k : Nat} {x : List Int} (h : confB LL m n k x = true) : lpP (confP LL m n k x) = .go () := by simp [confP, h, lpP]
theorem mj_ (m : Nat) (x : List Int) (hx : x.length = m) (hm : m ≤ 1000) : ∀ (fuel j : Nat), 1 ≤ j → (∀ (k : Nat) a b, k + 1 < j → x[k]? = some a → x[k + 1]? = some b → a ≤ b) → m < fuel + j ∧ j ≤ m →
  (∃ y, loopF (bm_ (m : Int) x) fuel (j : Int) = some (.inl y) ∧ sortB x = true) ∨ (loopF (bm_ (m : Int) x) fuel (j : Int) = some (.inr false) ∧ sortB x = false) := by
 intro fuel
 induction fuel with
 | zero =>
  intro j h1 h2 h3
  omega
 | succ fuel ih =>
  intro j h1 h2 h3
  by_cases hj : j < m
  ·have e1 : x[j - 1]? = some (x[j - 1]'(by omega)) := List.getElem?_eq_getElem (by omega)
   have e2 : x[j]? = some (x[j]'(by omega)) := List.getElem?_eq_getElem (by omega)
   by_cases hle : x[j - 1]'(by omega) ≤ x[j]'(by omega)
   ·have hs : bm_ (m : Int) x (j : Int) = some (.go ((j + 1 : Nat) : Int)) := by
     unfold bm_
     rw [if_pos (by simp; omega), G_ (by omega) (by omega), sb, show (j : Int) - 1 = ((j - 1 : Nat) : Int) by omega, ct_, e1, sb, ct_, e2, sb, if_neg (by simp; omega), G_ (by omega) (by omega), sb]; rfl
    rw [lj_ hs fuel]
    refine ih (j + 1) (by omega) (fun k a b hk ha hb => ?_) (by omega)
    by_cases e : k + 1 = j
    ·have : k = j - 1 := by omega
     subst this
     rw [e] at hb
     rw [e1] at ha; rw [e2] at hb; cases ha; cases hb; exact hle
    ·exact h2 k a b (by omega) ha hb
   ·right
    constructor
    ·have hs : bm_ (m : Int) x (j : Int) = some (.ret false) := by
      unfold bm_
      rw [if_pos (by simp; omega), G_ (by omega) (by omega), sb, show (j : Int) - 1 = ((j - 1 : Nat) : Int) by omega, ct_, e1, sb, ct_, e2, sb, if_pos (by simp; omega)]
     simp only [loopF, hs]
    ·cases hb : sortB x with
     | false => rfl
     | true =>
      exfalso; apply hle
      exact fo_.1 hb (j - 1) _ _ e1 (by rw [show j - 1 + 1 = j by omega]; exact e2)
  ·left
   refine ⟨(j : Int), ?_, ?_⟩
   ·refine hU_ ?_ fuel
    unfold bm_
    rw [if_neg (by simp; omega)]
   ·refine fo_.2 fun k a b ha hb => h2 k a b ?_ ha hb
    have := (List.getElem?_eq_some_iff.1 hb).1
    omega
theorem lS_ (fuel : Nat) (LL : List (List Int)) (m : Nat) (n : Int) (hm0 : 1 ≤ m) (hm : m ≤ 4) (hn : 1 ≤ n ∧ n ≤ 8) (hf : 10 ≤ fuel) (hJ : LL.length ≤ 1000000000) : eH_ fuel LL (m : Int) n = some (confsB LL m n) := by
 unfold eH_ confsB
 rw [cU_ (confP LL m n) LL (fun j x hj hall => by
  have hjl := (List.getElem?_eq_some_iff.1 hj).1
  unfold eA_
  by_cases h1 : (x.length : Int) = m
  ·rw [if_neg (by simp [h1]), G_ (by omega) (by omega), sb, rO_, sb]
   by_cases h2 : x.all (inB 0 (n - 1)) = true
   ·rw [if_neg (by simp [h2])]
    have hlast : (if decide ((j : Int) > 0) then (ck ((j : Int) - 1) >>= fun x34 => ix LL x34 >>= fun x35 => dX_ x35 x >>= fun x43 => some (decide (x43 ≥ 0))) else some false) = some (!(decide (j = 0) || decide (ordL (LL.getD (j - 1) []) x < 0))) := by
     cases j with
     | zero => simp
     | succ j =>
      have hp := hJ_ (hall j LL[j] (by omega) (List.getElem?_eq_getElem (by omega)))
      rw [if_pos (by simp), G_ (by omega) (by omega), sb, show (((j + 1 : Nat) : Int) - 1) = (j : Int) by omega, fW_ _ _ (by omega), sb,
       ma_ _ _ (by omega) (fun y hy => by have := hp.2.2.1 y hy; omega) (fun y hy => by have := dV_.1 (List.all_eq_true.1 h2 y hy); omega), sb]
      have : LL.getD (j + 1 - 1) [] = LL[j] := by simp [List.getElem?_eq_getElem (show j < LL.length by omega)]
      rw [this]
      by_cases h4 : ordL LL[j] x < 0
      ·simp [h4]
      ·simp [h4]; omega
    rw [hlast, sb]
    cases h4 : (decide (j = 0) || decide (ordL (LL.getD (j - 1) []) x < 0))
    ·rw [if_pos (by simp), fc_ (by simp only [confB, h4, Bool.and_false])]
    ·rw [if_neg (by simp)]
     rcases mj_ m x (by omega) (by omega) fuel 1 (Nat.le_refl _) (fun k a b hk => by omega) ⟨by omega, by omega⟩ with ⟨y, e1, e2⟩ | ⟨e1, e2⟩
     ·rw [show ((1 : Nat) : Int) = 1 from rfl] at e1
      rw [e1, sb, lc_ (by simp only [confB, h1, h2, e2, h4, decide_true, Bool.and_self])]
     ·rw [show ((1 : Nat) : Int) = 1 from rfl] at e1
      rw [e1, sb, fc_ (by simp [confB, e2])]
   ·rw [if_pos (by simp [h2]), sb, if_pos rfl, fc_ (by simp [confB, h2])]
  ·rw [if_pos (by simp; omega), sb, if_pos rfl, fc_ (by simp [confB, h1])]), sb]
 cases hc : firstP (confP LL m n) LL 0 with
 | none => rfl
 | some r => have := kY_ hc; subst this; rfl
theorem ff_ (fuel : Nat) (LL : List (List Int)) (m : Nat) (n : Int) (hm : m ≤ 4) (hn : 1 ≤ n ∧ n ≤ 8) (hf : 10 ≤ fuel) (hJ : LL.length ≤ 1000000000) : bj_ fuel LL (m : Int) n = some (confsB LL m n) := by
 unfold bj_ confsB
 rw [cU_ (confP LL m n) LL (fun j x hj hall => by
  have hjl := (List.getElem?_eq_some_iff.1 hj).1
  unfold bO_
  by_cases h1 : (x.length : Int) = m
  ·rw [if_neg (by simp [h1]), ou_ _ _ (by omega) (by omega), sb]
   by_cases h3 : sortB x = true
   ·rw [if_neg (by simp [h3]), G_ (by omega) (by omega), sb, mo_ _ _ _ (by omega), sb]
    by_cases h2 : x.all (inB 0 (n - 1)) = true
    ·rw [if_neg (by simp [h2])]
     have hlast : (if decide ((j : Int) > 0) then (ck ((j : Int) - 1) >>= fun x34 => ix LL x34 >>= fun x35 => K_ x35 x >>= fun x43 => some (decide (x43 ≥ 0))) else some false) = some (!(decide (j = 0) || decide (ordL (LL.getD (j - 1) []) x < 0))) := by
      cases j with
      | zero => simp
      | succ j =>
       have hp := hJ_ (hall j LL[j] (by omega) (List.getElem?_eq_getElem (by omega)))
       rw [if_pos (by simp), G_ (by omega) (by omega), sb, show (((j + 1 : Nat) : Int) - 1) = (j : Int) by omega, fW_ _ _ (by omega), sb, iG_ _ _ (by omega), sb]
       have : LL.getD (j + 1 - 1) [] = LL[j] := by simp [List.getElem?_eq_getElem (show j < LL.length by omega)]
       rw [this]
       by_cases h4 : ordL LL[j] x < 0
       ·simp [h4]
       ·simp [h4]; omega
     rw [hlast, sb]
     cases h4 : (decide (j = 0) || decide (ordL (LL.getD (j - 1) []) x < 0))
     ·rw [if_pos (by simp), fc_ (by simp only [confB, h4, Bool.and_false])]
     ·rw [if_neg (by simp), lc_ (by simp only [confB, h1, h2, h3, h4, decide_true, Bool.and_self])]
    ·rw [if_pos (by simp [h2]), sb, if_pos rfl, fc_ (by simp [confB, h2])]
   ·rw [if_pos (by simp [h3]), sb, if_pos rfl, fc_ (by simp [confB, h3])]
  ·rw [if_pos (by simp; omega), sb, if_pos rfl, fc_ (by simp [confB, h1])]), sb]
 cases hc : firstP (confP LL m n) LL 0 with
 | none => rfl
 | some r => have := kY_ hc; subst this; rfl
def probB (p : b_) : Bool := inB 1 8 p.Labels && inB 1 4 p.Degree && confsB p.Nodes p.Degree p.Labels && confsB p.Edges 2 p.Labels
theorem iq_ (fuel : Nat) (hf : 10 ≤ fuel) (p : b_) (hJ : p.Nodes.length ≤ 1000000000) (hE : p.Edges.length ≤ 1000000000) : eR_ fuel p = some (probB p) := by
 unfold eR_ probB
 rw [nz_, sb]
 rw [show (decide (1 ≤ p.Labels) && decide (p.Labels ≤ 8)) = inB 1 8 p.Labels from rfl]
 cases h1 : inB 1 8 p.Labels
 ·simp [sb]
 ·rw [if_pos rfl, nz_, sb]
  rw [show (decide (1 ≤ p.Degree) && decide (p.Degree ≤ 4)) = inB 1 4 p.Degree from rfl]
  cases h2 : inB 1 4 p.Degree
  ·simp [sb]
  ·have h1' := dV_.1 h1
   have h2' := dV_.1 h2
   obtain ⟨m, hm⟩ : ∃ m : Nat, p.Degree = m := ⟨p.Degree.toNat, by omega⟩
   rw [if_pos rfl, hm, lS_ fuel p.Nodes m p.Labels (by omega) (by omega) h1' hf hJ, sb]
   cases h3 : confsB p.Nodes m p.Labels
   ·simp [sb]
   ·rw [if_pos rfl]
    have := lS_ fuel p.Edges 2 p.Labels (by omega) (by omega) h1' hf hE
    rw [show ((2 : Nat) : Int) = 2 from rfl] at this
    rw [this, sb, sb]; simp
theorem hc_ (fuel : Nat) (hf : 10 ≤ fuel) (p : b_) (hJ : p.Nodes.length ≤ 1000000000) (hE : p.Edges.length ≤ 1000000000) : cW_ fuel p = some (probB p) := by
 unfold cW_ probB
 rw [hg_, sb]
 rw [show (decide (1 ≤ p.Labels) && decide (p.Labels ≤ 8)) = inB 1 8 p.Labels from rfl]
 cases h1 : inB 1 8 p.Labels
 ·simp [sb]
 ·rw [if_pos rfl, hg_, sb]
  rw [show (decide (1 ≤ p.Degree) && decide (p.Degree ≤ 4)) = inB 1 4 p.Degree from rfl]
  cases h2 : inB 1 4 p.Degree
  ·simp [sb]
  ·have h1' := dV_.1 h1
   have h2' := dV_.1 h2
   obtain ⟨m, hm⟩ : ∃ m : Nat, p.Degree = m := ⟨p.Degree.toNat, by omega⟩
   rw [if_pos rfl, hm, ff_ fuel p.Nodes m p.Labels (by omega) h1' hf hJ, sb]
   cases h3 : confsB p.Nodes m p.Labels
   ·simp [sb]
   ·rw [if_pos rfl]
    have := ff_ fuel p.Edges 2 p.Labels (by omega) h1' hf hE
    rw [show ((2 : Nat) : Int) = 2 from rfl] at this
    rw [this, sb, sb]; simp
theorem gJ_ {LL : List (List Int)} {m n : Int} (h : confsB LL m n = true) : (∀ x, x ∈ LL → (x.length : Int) = m ∧ sortB x = true ∧ ∀ y, y ∈ x → 0 ≤ y ∧ y ≤ n - 1) ∧ LL.Pairwise (fun a b => ordL a b < 0) := by
 unfold confsB at h
 rw [Option.isNone_iff_eq_none] at h
 have hp := cc_.1 h
 have hm : ∀ (j : Nat) x, LL[j]? = some x → (x.length : Int) = m ∧ sortB x = true ∧ (∀ y, y ∈ x → 0 ≤ y ∧ y ≤ n - 1) ∧ (j = 0 ∨ ordL (LL.getD (j - 1) []) x < 0) := fun j x hj => by
  have := hp j x hj
  rw [Nat.zero_add] at this
  exact hJ_ this
 refine ⟨fun x hx => ?_, ?_⟩
 ·obtain ⟨j, hj⟩ := List.mem_iff_getElem?.1 hx
  have := hm j x hj
  exact ⟨this.1, this.2.1, this.2.2.1⟩
 ·have key : ∀ (d i : Nat) (hi : i + d + 1 < LL.length), ordL (LL[i]'(by omega)) LL[i + d + 1] < 0 := by
   intro d
   induction d with
   | zero =>
    intro i hi
    have := (hm (i + 1) _ (List.getElem?_eq_getElem hi)).2.2.2
    simpa [List.getElem?_eq_getElem (show i < LL.length by omega)] using this
   | succ d ih =>
    intro i hi
    have h1 := ih i (by omega)
    have := (hm (i + d + 1 + 1) _ (List.getElem?_eq_getElem hi)).2.2.2
    have h2 : ordL (LL[i + d + 1]'(by omega)) LL[i + (d + 1) + 1] < 0 := by simpa [List.getElem?_eq_getElem (show i + d + 1 < LL.length by omega)] using this
    have l1 := (hm i _ (List.getElem?_eq_getElem (by omega))).1
    have l2 := (hm (i + d + 1) _ (List.getElem?_eq_getElem (by omega))).1
    have l3 := (hm (i + (d + 1) + 1) _ (List.getElem?_eq_getElem hi)).1
    exact hN_ (by omega) (by omega) h1 h2
  rw [List.pairwise_iff_getElem]
  intro i j hi hj hij
  have := key (j - i - 1) i (by omega)
  simpa [show i + (j - i - 1) + 1 = j by omega] using this
theorem jf_ (fuel : Nat) (LL : List (List Int)) (m n : Int) (hc : confsB LL m n = true) (t : List Int) (ht : (t.length : Int) = m) (hJ : LL.length ≤ 1000000000) (hl : t.length ≤ 1000000000) (hf : LL.length < fuel) : aW_ fuel LL t = some (decide (srt t ∈ LL)) := by
 obtain ⟨hm, hp⟩ := gJ_ hc
 have hs := dq_ t
 generalize hst : srt t = s at hs
 unfold aW_ srtO
 rw [if_pos hl, sb, hst]
 have hcmp : ∀ x, x ∈ LL → K_ x s = some (ordL x s) := fun x hx => iG_ x s (by have := (hm x hx).1; omega)
 obtain ⟨c1, c2⟩ := gt_ (fun x => decide (x.length = s.length) && decide (ordL x s < 0)) LL (hp.imp_of_mem fun {a b} ha hb hab h => by
  simp only [Bool.and_eq_true, decide_eq_true_eq] at h ⊢
  have l1 := (hm a ha).1
  exact ⟨by omega, hN_ (by omega) h.1 hab h.2⟩)
 have hcl : LL.countP (fun x => decide (x.length = s.length) && decide (ordL x s < 0)) ≤ LL.length := List.countP_le_length
 generalize LL.countP (fun x => decide (x.length = s.length) && decide (ordL x s < 0)) = c at c1 c2 hcl
 have hat : ∀ (j : Nat) (hj : j < LL.length), (decide (LL[j].length = s.length) && decide (ordL LL[j] s < 0)) = decide (ordL LL[j] s < 0) := fun j hj => by
  have := (hm _ (List.getElem_mem hj)).1
  rw [show decide (LL[j].length = s.length) = true by rw [decide_eq_true_eq]; omega, Bool.true_and]
 unfold ae_
 have := pW_ (f := N_ LL s (fun z18 : (List Int) × (List Int) => K_ z18.1 z18.2)) (fun j => decide (ordL (LL.getD j []) s < 0)) LL.length c hcl (fun lo hi h1 h2 => by
   have hmid : (lo + hi) / 2 < LL.length := by omega
   unfold N_
   simp only
   rw [if_pos (by simpa using h1)]
   have e := rj_ (lo := lo) (hi := hi) (by omega)
   rw [G_ (by omega) (by omega), sb] at e ⊢
   unfold cvU at e ⊢
   rw [if_pos (by omega), sb] at e ⊢
   cases hsh : shr ((lo : Int) + hi) 1 with
   | none => rw [hsh] at e; cases e
   | some z =>
    rw [hsh, sb] at e
    rw [sb]
    rw [e, sb, fW_ _ _ hmid, sb, hcmp _ (List.getElem_mem hmid), sb]
    rw [show LL.getD ((lo + hi) / 2) [] = LL[(lo + hi) / 2] by simp [List.getElem?_eq_getElem hmid]]
    by_cases hlt : ordL LL[(lo + hi) / 2] s < 0
    ·simp only [decide_eq_true hlt, if_true]
     rw [G_ (by omega) (by omega), sb]; rfl
    ·simp only [decide_eq_false hlt]; rfl)
  (fun lo h => by
   unfold N_
   simp only
   rw [if_neg (by simp)]) (fun j hj => by
   have hjl : j < LL.length := by omega
   have := c1 j _ (List.getElem?_eq_getElem hjl) hj
   rw [hat j hjl] at this
   simpa [List.getElem?_eq_getElem hjl] using this) (fun j hj hjl => by
   have := c2 j _ (List.getElem?_eq_getElem hjl) hj
   rw [hat j hjl] at this
   simpa [List.getElem?_eq_getElem hjl] using this) fuel 0 LL.length (Nat.zero_le _) hcl (Nat.le_refl _) (by omega)
 rw [show ((0 : Nat) : Int) = 0 from rfl] at this
 rw [this, sb]
 simp only
 have hnot : ∀ (j : Nat) (hj : j < LL.length), LL[j] = s → c ≤ j := fun j hj e => by
  rcases Nat.lt_or_ge j c with h | h
  ·have := c1 j _ (List.getElem?_eq_getElem hj) h
   rw [hat j hj, e, decide_eq_true_eq, (hz_ rfl).2 rfl] at this
   omega
  ·exact h
 by_cases hlt : c < LL.length
 ·rw [if_pos (by simpa using hlt), fW_ _ _ hlt, sb, hcmp _ (List.getElem_mem hlt), sb, sb, sb]
  simp only
  congr 1
  rw [Bool.eq_iff_iff, beq_iff_eq, decide_eq_true_eq, hz_ (by have := (hm _ (List.getElem_mem hlt)).1; omega)]
  constructor
  ·intro e; rw [← e]; exact List.getElem_mem hlt
  ·intro e
   obtain ⟨j, hj, hj2⟩ := List.mem_iff_getElem.1 e
   have h1 := hnot j hj hj2
   by_cases hjc : c = j
   ·subst hjc; exact hj2
   ·exfalso
    rw [List.pairwise_iff_getElem] at hp
    have h2 := hp c j hlt hj (by omega)
    rw [hj2] at h2
    have := c2 c _ (List.getElem?_eq_getElem hlt) (Nat.le_refl _)
    rw [hat c hlt, decide_eq_false_iff_not] at this
    exact this h2
 ·rw [if_neg (by simpa using hlt), sb, sb]
  have : s ∉ LL := by
   intro e
   obtain ⟨j, hj, hj2⟩ := List.mem_iff_getElem.1 e
   have := hnot j hj hj2
   omega
  simp [this]
theorem hP_ (LL : List (List Int)) (x : List Int) (hl : x.length ≤ 1000000000) : fa_ LL x = some (decide (x ∈ LL)) := by
 unfold fa_
 rw [cU_ (fun _ y => if decide (x = y) then some true else none) LL (fun j y hj _ => by
  unfold fP_
  rw [iv_ _ _ hl, sb]
  by_cases h : x = y <;> simp [h, lpP]), sb]
 cases hc : firstP (fun _ y => if decide (x = y) then some true else none) LL 0 with
 | none =>
  have : x ∉ LL := fun hm => by
   obtain ⟨j, hj⟩ := List.mem_iff_getElem?.1 hm
   have := cc_.1 hc j x hj
   simp at this
  simp [outP, this]
 | some r =>
  obtain ⟨j, y, h1, h2⟩ := cw_ hc
  by_cases e : x = y
  ·subst e
   simp at h2
   subst h2
   simp [outP, List.mem_of_getElem? h1]
  ·simp [e] at h2
theorem qC_ (fuel : Nat) (p : b_) (t : List Int) (hl : t.length ≤ 1000000) (hf : t.length < fuel) : gm_ fuel p t = some (decide (srt t ∈ p.Nodes)) := by
 unfold gm_
 rw [gM_ _ _ hf (by omega), sb, ← eZ_, hP_ _ _ (by rw [dq_]; omega), sb]
theorem rG_ (a b : Int) : srt [a, b] = if a ≤ b then [a, b] else [b, a] := by
 refine List.Perm.eq_of_pairwise (le := fun a b => a ≤ b) (fun a b _ _ h1 h2 => Int.le_antisymm h1 h2) (jG_ _) ?_ ((nI_ _).trans ?_)
 ·split <;> simp <;> omega
 ·split
  ·exact List.Perm.refl _
  ·exact List.Perm.swap _ _ _
theorem qF_ (p : b_) (a b : Int) : gA_ p a b = some (decide (srt [a, b] ∈ p.Edges)) := by
 unfold gA_ gO_ ht_
 have : srt [a, b] = [if a < b then a else b, if a > b then a else b] := by
  rw [rG_]
  by_cases h : a < b
  ·rw [if_pos (by omega), if_pos h, if_neg (by omega)]
  ·by_cases h2 : a > b
   ·rw [if_neg (by omega), if_neg h, if_pos h2]
   ·have : a = b := by omega
    subst this; simp
 rw [this]
 by_cases h : a < b
 ·have h2 : ¬ a > b := by omega
  rw [if_pos (by simpa using h), sb, if_neg (by simpa using h2), sb, if_pos h, if_neg h2, hP_ _ _ (by simp), sb]
 ·by_cases h2 : a > b
  ·rw [if_neg (by simpa using h), sb, if_pos (by simpa using h2), sb, if_neg h, if_pos h2, hP_ _ _ (by simp), sb]
  ·rw [if_neg (by simpa using h), sb, if_neg (by simpa using h2), sb, if_neg h, if_neg h2, hP_ _ _ (by simp), sb]
theorem aU_ {p : b_} (h : probB p = true) : 1 ≤ p.Labels ∧ p.Labels ≤ 8 ∧ 1 ≤ p.Degree ∧ p.Degree ≤ 4 ∧ confsB p.Nodes p.Degree p.Labels = true ∧ confsB p.Edges 2 p.Labels = true := by
 simp only [probB, Bool.and_eq_true] at h
 have h1 := dV_.1 h.1.1.1
 have h2 := dV_.1 h.1.1.2
 exact ⟨h1.1, h1.2, h2.1, h2.2, h.1.2, h.2⟩
theorem rg_ (fuel : Nat) (p : b_) (h : probB p = true) (t : List Int) (ht : (t.length : Int) = p.Degree) (hJ : p.Nodes.length ≤ 1000000000) (hf : p.Nodes.length < fuel) : co_ fuel p t = some (decide (srt t ∈ p.Nodes)) := by
 obtain ⟨h1, h2, h3, h4, h5, h6⟩ := aU_ h
 unfold co_
 rw [jf_ fuel _ _ _ h5 t ht hJ (by omega) hf, sb]
theorem rp_ (fuel : Nat) (p : b_) (h : probB p = true) (a b : Int) (hJ : p.Edges.length ≤ 1000000000) (hf : p.Edges.length < fuel) : cl_ fuel p a b = some (decide (srt [a, b] ∈ p.Edges)) := by
 obtain ⟨h1, h2, h3, h4, h5, h6⟩ := aU_ h
 unfold cl_
 rw [jf_ fuel _ _ _ h6 [a, b] (by simp) hJ (by simp) hf, sb]
end

section
open Go.RowKit
structure bc_ where
  p : b_
  good : List Bool
  deriving DecidableEq
instance : Rp bc_ where
  sz := 5
  pos := by decide
  rd o w cs x := ∃ v1 v2 v3, cs = [.int .i64 x.p.Labels, .int .i64 x.p.Degree, v1, v2, v3] ∧ RdL o w v1 x.p.Nodes ∧ RdL o w v2 x.p.Edges ∧ RdL o w v3 x.good
  len h := by obtain ⟨v1, v2, v3, rfl, h1, h2, h3⟩ := h; rfl
  one h := by 
    obtain ⟨v1, v2, v3, rfl, h1, h2, h3⟩ := h
    intro c hc
    simp only [List.mem_cons, List.not_mem_nil, or_false] at hc
    rcases hc with rfl | rfl | rfl | rfl | rfl <;> first | rfl | exact h1.one1 | exact h2.one1 | exact h3.one1
  mv h hs hb := by obtain ⟨v1, v2, v3, rfl, h1, h2, h3⟩ := h; exact ⟨v1, v2, v3, rfl, h1.mv hs hb, h2.mv hs hb, h3.mv hs hb⟩
instance : Rz bc_ := ⟨⟨⟨0, 0, [], []⟩, []⟩, [.int .i64 0, .int .i64 0, .slice none 0 0, .slice none 0 0, .slice none 0 0], fun o w => ⟨_, _, _, rfl, RdL.nil o w, RdL.nil o w, RdL.nil o w⟩⟩

structure ag_ where
  p : b_
  after : List Int
  deriving DecidableEq
instance : Rp ag_ where
  sz := 5
  pos := by decide
  rd o w cs x := ∃ v1 v2 v3, cs = [.int .i64 x.p.Labels, .int .i64 x.p.Degree, v1, v2, v3] ∧ RdL o w v1 x.p.Nodes ∧ RdL o w v2 x.p.Edges ∧ RdL o w v3 x.after
  len h := by obtain ⟨v1, v2, v3, rfl, h1, h2, h3⟩ := h; rfl
  one h := by 
    obtain ⟨v1, v2, v3, rfl, h1, h2, h3⟩ := h
    intro c hc
    simp only [List.mem_cons, List.not_mem_nil, or_false] at hc
    rcases hc with rfl | rfl | rfl | rfl | rfl <;> first | rfl | exact h1.one1 | exact h2.one1 | exact h3.one1
  mv h hs hb := by obtain ⟨v1, v2, v3, rfl, h1, h2, h3⟩ := h; exact ⟨v1, v2, v3, rfl, h1.mv hs hb, h2.mv hs hb, h3.mv hs hb⟩
instance : Rz ag_ := ⟨⟨⟨0, 0, [], []⟩, []⟩, [.int .i64 0, .int .i64 0, .slice none 0 0, .slice none 0 0, .slice none 0 0], fun o w => ⟨_, _, _, rfl, RdL.nil o w, RdL.nil o w, RdL.nil o w⟩⟩
end

section
open Go.RowKit
section
variable {P : Program} {n : Nat} {l : List (Nat × Value)} {w w0 : World} {o oo : Tg} {d : Nat} {ty : TypeId} {ps : String} {af : Array Edge} {g : Option (Nat × Bool)} {R : Value → World → Prop} {B k : Nat} {e : TypeId}
theorem bh_ {d : Option Nat} {x : Operand} {a : Addr} (hx : ev l x = some (.pointer (some a))) :
  ∀ ρ, Agr ρ l → (execOp ρ ⟨d, .nilCheck x, ty, ps, af, g⟩).run P w = .ok (.value (.pointer (some a))) w := by
 intro ρ hρ
 simp only [execOp, hρ x _ hx, Sem.run_pure]
def mkc (c : Int) : Option Unit := if 0 ≤ c ∧ c ≤ 1000000000 then some () else none
theorem qD_ {c : Int} {u : Unit} (h : mkc c = some u) : 0 ≤ c ∧ c ≤ 1000000000 := by
 unfold mkc at h
 split at h
 ·assumption
 ·cases h
theorem qU_ {α : Type} [Rp α] {t : TypeId} {z : Value} {bytes : Nat} {x y : Operand} {c : Int} {u : Unit} (B k : Nat) (hB : B ≤ w.heap.size) (hc : mkc c = some u) (hx : ev l x = some (.int .i64 0)) (hy : ev l y = some (.int .i64 c))
  (ht : P.underlying t = some (.slice e)) (hi : Inf P e z (Rp.sz α) bytes) (hb : bytes ≤ 1000)
  (h : ∀ o' w' v', Ow B e k o' w' v' ([] : List α) → Stp k o w o' w' → R v' w') : op1 P ⟨some d, .makeSlice t x y, ty, ps, af, g⟩ n l w R := by
 obtain ⟨h0, h1⟩ := qD_ hc
 obtain ⟨i0, hi0, hz0, hz1, hz2⟩ := info_parts hi
 obtain ⟨c, rfl⟩ : ∃ m : Nat, c = m := ⟨c.toNat, by omega⟩
 have hr := run_make (P := P) w t e i0 z ht hi0 hz0 .i64 .i64 0 (c : Int) (Int.le_refl _) h0 (by
  rw [hz2]
  have := Int.mul_le_mul (show (bytes : Int) ≤ 1000 by omega) h1 h0 (by omega)
  omega) (by omega)
 simp only [Int.toNat_zero, Int.toNat_natCast] at hr
 rw [hz1] at hr
 refine d_ (fun ρ hρ => by simp only [execOp, hρ x _ hx, hρ y _ hy, Sem.run_bind, hr, Result.andThen_ok]; rfl) (h (ext o w.heap.size k) _ _ ⟨[], rfl, ?_, fun g' hg => ?_, by simp⟩ (gD_ _ _ _ _ _))
 ·exact World.ownsRow_made w _ c hB (by unfold maxLen; omega) (size_madeCells _ _)
 ·simp [Value.ownBlock] at hg
  subst hg
  exact hT_ _ _ _ _ (Nat.le_refl _)
theorem Bx.frzP {α : Type} [Rp α] {b : Nat} {cs : List Value} {x : α} (h : Bx B k o w b e cs) (hr : Rp.rd o w cs x) : RdL (Go.Proofs.YtdbbeldgdgonfaaGreat.frz k o) w (.slice (some ⟨b, 0, none⟩) 1 1) [x] :=
 ⟨some ⟨b, 0, none⟩, 1, rfl, Nat.le_refl _, by decide, fun i y hy => by
  cases i with
  | zero =>
   simp at hy; subst hy
   refine ⟨b, 0, cs, rfl, ?_, (Array.getElem?_eq_some_iff.1 h.blk).1, ?_, Rp.frz hr k⟩
   ·unfold Go.Proofs.YtdbbeldgdgonfaaGreat.frz
    rw [h.tag, if_pos rfl]
   ·rw [Nat.zero_mul, Nat.add_zero]; exact h.cells
  | succ i => simp at hy⟩
theorem qX_ {α : Type} [Rp α] {b : Nat} {x : α} (h : RdL o w (.slice (some ⟨b, 0, none⟩) 1 1) [x]) : ∃ cs, Cells w b 0 cs ∧ Rp.rd o w cs x := by
 obtain ⟨a, c, e, h1, h2, h4⟩ := h
 obtain ⟨b', off, cs, ha, ho, hl, hc, hr⟩ := h4 0 x rfl
 cases e
 cases ha
 rw [Nat.zero_mul, Nat.add_zero] at hc
 exact ⟨cs, hc, hr⟩
end
end

section
section
variable {α β : Type} [Rp α] [Rp β] {e er : TypeId} {o oo : Tg} {w w0 : World} {v : Value}
theorem Of.rt2 {xs : List α} (h : Of e o w v xs) (hB : Bs oo o w0 w) (k kr t : Nat) (hk : 2 ≤ k) (hkr : 2 ≤ kr) : Of e (Go.Proofs.YtdbbeldgdgonfaaGreat.rt2 oo o w0.heap.size k kr t) w v xs := by
 obtain ⟨css, h1, h2, h3, h4⟩ := h
 exact ⟨css, h1, h2, fun g hg => hs_ hB k kr t g hk hkr (h3 g hg), fun i cs x a b => Rp.mv (h4 i cs x a b) (Nat.le_refl _) fun b _ hb => ⟨rfl, hs_ hB k kr t b hk hkr hb⟩⟩
theorem Dz.rt2 {xs : List (List α)} (h : Dz e er o w v xs) (hB : Bs oo o w0 w) (k kr t : Nat) (hk : 2 ≤ k) (hkr : 2 ≤ kr) : Dz e er (Go.Proofs.YtdbbeldgdgonfaaGreat.rt2 oo o w0.heap.size k kr t) w v xs := by
 obtain ⟨vs, h1, h2⟩ := h
 exact ⟨vs, Of.rt2 h1 hB k kr t hk hkr, h2.1, fun i u x a b => Of.rt2 (h2.2.1 i u x a b) hB k kr t hk hkr, h2.2.2⟩
theorem RdL.rt2 {xs : List β} (h : RdL o w v xs) (hB : Bs oo o w0 w) (k kr t : Nat) (hk : 2 ≤ k) (hkr : 2 ≤ kr) : RdL (Go.Proofs.YtdbbeldgdgonfaaGreat.rt2 oo o w0.heap.size k kr t) w v xs := h.mv (Nat.le_refl _) fun b _ hb => ⟨rfl, hs_ hB k kr t b hk hkr hb⟩
end
end

section
open Go.RowKit
def putMany (zs : List Value) (j : Nat) : List Value → List Value
  | [] => zs
  | u :: us => putMany (zs.set j u) (j + 1) us
theorem iD_ : ∀ (us A M C : List Value), M.length = us.length → putMany (A ++ M ++ C) A.length us = A ++ us ++ C
 | [], A, M, C, h => by
  have : M = [] := List.eq_nil_of_length_eq_zero h
  subst this; rfl
 | u :: us, A, M, C, h => by
  cases M with
  | nil => simp at h
  | cons m M =>
   have h2 := iD_ us (A ++ [u]) M C (by simpa using h)
   simp only [putMany]
   have e : (A ++ m :: M ++ C).set A.length u = A ++ [u] ++ M ++ C := by simp
   rw [e]
   simpa using h2
section
variable {P : Program} {n : Nat} {l : List (Nat × Value)} {w w0 : World} {o oo : Tg} {α : Type} [Rp α] {B k : Nat} {e : TypeId}
theorem gX_ {g cap m sz : Nat} (hk : o g = k) : ∀ (us : List Value) (i off : Nat) (w : World) (zs : List Value), w.ownsRow B e sz (.slice (some ⟨g, 0, none⟩) m cap) m zs → off + i + us.length ≤ zs.length →
  (∀ u ∈ us, u.oneCell' = true) → ∃ w', (storeCells ⟨g, off, none⟩ us i).run P w = .ok () w' ∧ w'.ownsRow B e sz (.slice (some ⟨g, 0, none⟩) m cap) m (putMany zs (off + i) us) ∧ Stp k o w o w'
 | [], i, off, w, zs, h, _, _ => ⟨w, by simp [storeCells], h, Stp.refl _ _ _⟩
 | u :: us, i, off, w, zs, h, hl, h1 => by
  simp only [List.length_cons] at hl
  have hcell := h.cellAt (off + i) (by have := h.1; omega)
  have hf := h.frozenAt (off + i)
  obtain ⟨g1, g2⟩ := h.stored (off + i) u
  have hst : Stp k o w o (w.setCell ⟨g, off + i, none⟩ u) := mN_ hk
  obtain ⟨w', r1, r2, r3⟩ := gX_ hk us (i + 1) off _ _ g1 (by simp; omega) (fun x hx => h1 x (by simp [hx]))
  have hs := run_store P w ⟨g, off + i, none⟩ u .plain (h1 u (by simp))
  refine ⟨w', ?_, by simp only [putMany]; rw [show off + i + 1 = off + (i + 1) by omega]; exact r2, hst.trans r3⟩
  have ha : (⟨g, off, none⟩ : Addr).add i = ⟨g, off + i, none⟩ := by simp [Addr.add]
  have hz : zs[off + i]? = some (zs[off + i]'(by omega)) := List.getElem?_eq_getElem (by omega)
  simp only [storeCells, ha, Sem.run_bind, hs, hcell, hf, hz]
  simpa using r1
variable {d : Nat} {ty : TypeId} {ps : String} {af : Array Edge} {g : Option (Nat × Bool)} {R : Value → World → Prop}
end
end

section
open Go.RowKit
structure Pv where
  v : Value
  x : List Int
instance : Inhabited Pv := ⟨⟨.slice none 0 0, []⟩⟩
instance : Rp Pv where
  sz := 1
  pos := by decide
  rd o w cs p := cs = [p.v] ∧ p.v.oneCell' = true ∧ RdL o w p.v p.x
  len h := by rw [h.1]; rfl
  one h := by obtain ⟨rfl, h, _⟩ := h; intro c hc; simp at hc; subst hc; exact h
  mv h hs hb := ⟨h.1, h.2.1, h.2.2.mv hs hb⟩
theorem qJ_ {o : Tg} {w : World} {p : Pv} (h : RdL o w p.v p.x) : Rp.rd o w [p.v] p := ⟨rfl, h.one1, h⟩
theorem Stp.tr9 {o o1 o2 : Tg} {w w1 w2 : World} (h : Stp 10 o w o1 w1) (hO : ∀ b, b < w.heap.size → o b ≠ 999) (k : Stp 999 o1 w1 o2 w2) : Stp 10 o w o2 w2 :=
 ⟨k.os.trans h.os, k.tape.trans h.tape, k.output.trans h.output, Nat.le_trans h.size k.size,
  fun b hb hn => (k.block b (Nat.lt_of_lt_of_le hb h.size) (by rw [h.own b hb]; exact hO b hb)).trans (h.block b hb hn),
  fun b hb => (k.own b (Nat.lt_of_lt_of_le hb h.size)).trans (h.own b hb)⟩
def subv (v : Value) (k : Nat) : Value := match v with
  | .slice a n c => sliced a k n c 1
  | v => v
def prev (v : Value) (k : Nat) : Value := match v with
  | .slice a n c => sliced a 0 k c 1
  | v => v
section
variable {P : Program} {n : Nat} {l : List (Nat × Value)} {w w0 : World} {o oo : Tg} {d : Nat} {ty : TypeId} {ps : String} {af : Array Edge} {g : Option (Nat × Bool)} {R : Value → World → Prop} {B k : Nat} {e : TypeId} {v : Value} {xs ys : List Pv} {lo i : Int} {u : Pv}
theorem Addr.add_zero' (g k : Nat) : (⟨g, 0, none⟩ : Addr).add k = ⟨g, 0 + k, none⟩ := by
 unfold Addr.add
 split
 ·rename_i h; rw [h]
 ·rfl
theorem iE_ {t e' : TypeId} {x : Operand} {lo' : Operand} (h : Ow B e k o w v xs) (hc : cut xs lo xs.length = some ys) (hx : ev l x = some v) (hlo : ev l lo' = some (.int .i64 lo)) (ht : P.underlying t = some (.slice e')) (hs : ∀ w, (sizeOf e').run P w = .ok 1 w)
  (hR : R (subv v lo.toNat) w) : op1 P ⟨some d, .slice t x (some lo') none none, ty, ps, af, g⟩ n l w R := by
 obtain ⟨a, c, rfl⟩ := h.form
 obtain ⟨h1, h2, h3, h4, h5, h6⟩ := nk_ h.z hc
 refine d_ (fun ρ hρ => ?_) hR
 have := kl_ (P := P) (w := w) (a := a) (n := xs.length) (c := c) (lo := some (.int .i64 lo)) (hi := none) (lo' := lo) (hi' := xs.length) ht hs (.inl rfl) (.inr ⟨rfl, rfl⟩) h3 h4 h5
 simp only [execOp, hρ x _ hx, hρ lo' _ hlo, Sem.run_bind, this, Result.andThen_ok, Option.map_none, Option.map_some]
 rfl
theorem pE_ {d : Option Nat} {t e' : TypeId} {x : Operand} (h : Ow B e k o w v xs) (hc : cut xs lo xs.length = some ys) (hx : ev l x = some (subv v lo.toNat)) (ht : P.underlying t = some (.slice e')) :
  ∀ ρ, Agr ρ l → (execOp ρ ⟨d, .call { callee := .builtin .len, args := #[x], argTypes := #[t] }, ty, ps, af, g⟩).run P w = .ok (.value (.int .i64 ((xs.length : Int) - lo))) w := by
 obtain ⟨a, c, rfl⟩ := h.form
 obtain ⟨g1, g2, g3, rfl⟩ := gS_ hc
 have := oQ_ (P := P) (w := w) (l := l) (d := d) (ty := ty) (ps := ps) (af := af) (g := g) (x := x) (t := t) (e := e') hx ht
 rw [show ((xs.length : Int) - lo) = ((xs.length - lo.toNat : Nat) : Int) by omega]
 exact this
theorem kK_ (h : Ow B e k o w v xs) (hc : cut xs lo xs.length = some ys) (hi : ix xs (lo + i) = some u) (h0 : 0 ≤ i) :
  ∃ b cap, v = .slice (some ⟨b, 0, none⟩) xs.length cap ∧ subv v lo.toNat = .slice (some ⟨b, 0 + lo.toNat, none⟩) (xs.length - lo.toNat) (cap - lo.toNat) ∧ Cells w b (0 + (lo + i).toNat) [u.v] ∧ RdL o w u.v u.x ∧ (lo + i).toNat = lo.toNat + i.toNat ∧ i < ((xs.length - lo.toNat : Nat) : Int) := by
 obtain ⟨a, c, rfl⟩ := h.form
 obtain ⟨g1, g2, g3, rfl⟩ := gS_ hc
 obtain ⟨i0, i1, i2⟩ := fL_ hi
 obtain ⟨b, cs, rfl, _, hcl, hrd, _⟩ := h.at i2
 have hcap : xs.length ≤ c := by
  obtain ⟨css, h1, h2, h3, h4⟩ := h
  rcases h2.2 with ⟨e, _⟩ | ⟨g, cap, cur, e, _, _, hh, _⟩
  ·cases e
  ·cases e; exact hh
 refine ⟨b, c, rfl, ?_, ?_, hrd.2.2, by omega, by omega⟩
 ·unfold subv sliced
  simp only
  rw [if_neg (by omega), Option.map_some, Nat.mul_one, Addr.add_zero']
 ·obtain ⟨e1, _⟩ := hrd
  subst e1
  simpa [Rp.sz] using hcl
theorem qB_ {x y : Operand} {t e' : TypeId} (h : Ow B e k o w v xs) (hc : cut xs lo xs.length = some ys) (hi : ix xs (lo + i) = some u) (h0 : 0 ≤ i) (hx : ev l x = some (subv v lo.toNat)) (hy : ev l y = some (.int .i64 i))
  (ht : P.underlying t = some (.slice e')) (hs : ∀ w, (sizeOf e').run P w = .ok 1 w)
  (hR : ∀ b off cs, Cells w b off cs → Rp.rd o w cs u → R (.pointer (some ⟨b, off, none⟩)) w) : op1 P ⟨some d, .indexAddr t x y, ty, ps, af, g⟩ n l w R := by
 obtain ⟨b, cap, rfl, e1, e2, e3, e4, e5⟩ := kK_ h hc hi h0
 rw [e1] at hx
 refine d_ (gL_ hx hy h0 e5 ht hs) (hR b _ [u.v] ?_ (qJ_ e3))
 rw [Nat.mul_one, Nat.zero_add, ← e4]
 simpa using e2
theorem iU_ {x y : Operand} {t e' : TypeId} {d : Option Nat} (h : Ow B e k o w v xs) (hc : cut xs lo xs.length = some ys) (hi : ix xs (lo + i) = some u) (h0 : 0 ≤ i) (hx : ev l x = some (subv v lo.toNat)) (hy : ev l y = some (.int .i64 i))
  (ht : P.underlying t = some (.slice e')) (hs : ∀ w, (sizeOf e').run P w = .ok 1 w) (hR : R (adr v ((lo + i).toNat * Rp.sz Pv)) w) : op1 P ⟨d, .indexAddr t x y, ty, ps, af, g⟩ n l w R := by
 obtain ⟨b, cap, rfl, e1, e2, e3, e4, e5⟩ := kK_ h hc hi h0
 rw [e1] at hx
 have := gL_ (P := P) (w := w) (d := d) (ty := ty) (ps := ps) (af := af) (g := g) hx hy h0 e5 ht hs
 refine d_ this ?_
 have ee : adr (.slice (some ⟨b, 0, none⟩) xs.length cap) ((lo + i).toNat * Rp.sz Pv) = .pointer (some ⟨b, 0 + lo.toNat + i.toNat * 1, none⟩) := by
  simp only [adr, Rp.sz, Nat.mul_one, e4, Nat.zero_add]
 rw [← ee]
 exact hR
theorem iM_ {t e' : TypeId} {x : Operand} {zs : List Pv} (h : Ow B e k o w v xs) (hc : cut xs lo xs.length = some ys) (hz : cut xs 0 lo = some zs) (hk : k ≠ 0) (hx : ev l x = some (subv v lo.toNat)) (ht : P.underlying t = some (.slice e'))
  (hzv : ∀ w, (zeroValue e').run P w = .ok (.slice none 0 0) w)
  (hR : ∀ w' v', Ow B e k o w' (prev v lo.toNat) zs → Stp k o w o w' → R v' w') : op1 P ⟨none, .call { callee := .builtin .clear, args := #[x], argTypes := #[t] }, ty, ps, af, g⟩ n l w R := by
 obtain ⟨a, c, rfl⟩ := h.form
 obtain ⟨g1, g2, g3, -⟩ := gS_ hc
 obtain ⟨-, -, -, rfl⟩ := gS_ hz
 have hpre : ∀ w', (∃ css : List (List Value), css.length = xs.length ∧ w'.ownsRow B e 1 (.slice a xs.length c) xs.length css.flatten ∧ ∀ j cs, j < lo.toNat → css[j]? = some cs → ∃ u, xs[j]? = some u ∧ Rp.rd o w' cs u) →
   Ow B e k o w' (prev (.slice a xs.length c) lo.toNat) ((xs.take lo.toNat).drop (0 : Int).toNat) := fun w' ⟨css, q1, q2, q3⟩ => by
  have htag := h.tagged
  have hl1 : ∀ cs ∈ css.take lo.toNat, cs.length = 1 := fun cs hcs => by
   obtain ⟨j, hj⟩ := List.mem_iff_getElem?.1 hcs
   have hjl : j < lo.toNat := by
    have := (List.getElem?_eq_some_iff.1 hj).1
    simp at this; omega
   rw [List.getElem?_take, if_pos hjl] at hj
   obtain ⟨u, _, hu⟩ := q3 j cs hjl hj
   exact Rp.len hu
  have hfl : ∀ {L : List (List Value)}, (∀ cs ∈ L, cs.length = 1) → L.flatten.length = L.length := by
   intro L
   induction L with
   | nil => intro _; rfl
   | cons a L ih =>
    intro hh
    rw [List.flatten_cons, List.length_append, ih fun x hx => hh x (by simp [hx]), hh a (by simp), List.length_cons]
    omega
  have hsp : css.flatten.take lo.toNat = (css.take lo.toNat).flatten := by
   have e1 : css.flatten = (css.take lo.toNat).flatten ++ (css.drop lo.toNat).flatten := by rw [← List.flatten_append, List.take_append_drop]
   have e2 := hfl hl1
   rw [e1, List.take_append_of_le_length (by rw [e2, List.length_take]; omega), List.take_of_length_le (by rw [e2, List.length_take]; omega)]
  have hlen : ((xs.take lo.toNat).drop (0 : Int).toNat).length = lo.toNat := by simp; omega
  refine ⟨css.take lo.toNat, by rw [hlen, List.length_take]; omega, ?_, fun g hg => ?_, fun j cs u h1 h2 => ?_⟩
  ·rw [hlen]
   obtain ⟨p1, p2⟩ := q2
   refine ⟨by rw [hfl hl1, List.length_take]; show _ = lo.toNat * 1; omega, ?_⟩
   rcases p2 with ⟨e1, e2⟩ | ⟨gg, cap, cur, e1, p3, p4, p5, p6, p7, p8⟩
   ·simp only [Value.slice.injEq] at e1
    obtain ⟨rfl, _, rfl⟩ := e1
    exact .inl ⟨by unfold prev sliced; simp only; rw [show lo.toNat = 0 by omega]; simp, by omega⟩
   ·simp only [Value.slice.injEq] at e1
    obtain ⟨rfl, _, rfl⟩ := e1
    refine .inr ⟨gg, c, cur, ?_, p3, p4, by omega, p6, p7, ?_⟩
    ·unfold prev sliced
     simp only
     by_cases hc0 : c = 0
     ·rw [if_pos hc0, Nat.sub_zero, Nat.sub_zero]
     ·rw [if_neg hc0, Option.map_some, Nat.zero_mul, Addr.add_zero', Nat.sub_zero, Nat.sub_zero]
    ·show cur.toList.take (lo.toNat * 1) = _
     rw [← hsp, ← p8, List.take_take]
     congr 1
     show lo.toNat * 1 = min lo.toNat (xs.length * 1)
     omega
  ·refine htag g ?_
   cases a with
   | none => unfold prev sliced at hg; simp only at hg; split at hg <;> simp [Value.ownBlock] at hg
   | some ad =>
    have : (prev (.slice (some ad) xs.length c) lo.toNat).ownBlock = some ad.block := by
     unfold prev sliced
     simp only
     split
     ·rfl
     ·simp only [Option.map_some, Value.ownBlock, Nat.zero_mul]
      unfold Addr.add
      split <;> rfl
    rw [this] at hg
    exact hg
  ·have hjl : j < lo.toNat := by
    have := (List.getElem?_eq_some_iff.1 h1).1
    simp at this; omega
   rw [List.getElem?_take, if_pos hjl] at h1
   obtain ⟨u', hu1, hu2⟩ := q3 j cs hjl h1
   rw [show (0 : Int).toNat = 0 from rfl, List.drop_zero, List.getElem?_take, if_pos hjl, hu1] at h2
   cases h2
   exact hu2
 obtain ⟨css, q1, q2, q3, q4⟩ := id h
 by_cases hfull : lo.toNat = xs.length
 ·have hu := run_underlying (w := w) ht
  have hr : ∀ ρ, Agr ρ l → (execOp ρ ⟨none, .call { callee := .builtin .clear, args := #[x], argTypes := #[t] }, ty, ps, af, g⟩).run P w = .ok (.value (.tuple #[])) w := by
   intro ρ hρ
   have : subv (.slice a xs.length c) lo.toNat = .slice (if c = lo.toNat then a else a.map (·.add (lo.toNat * 1))) 0 (c - lo.toNat) := by
    unfold subv sliced
    simp only
    rw [hfull, Nat.sub_self]
   rw [this] at hx
   have hcl : (Builtin.clear_ #[t] ty #[.slice (if c = lo.toNat then a else a.map (·.add (lo.toNat * 1))) 0 (c - lo.toNat)]).run P w = .ok (.tuple #[]) w := by
    unfold Builtin.clear_
    cases hq : (if c = lo.toNat then a else a.map (·.add (lo.toNat * 1))) <;> simp [Sem.run_bind, hu, Sem.run_pure]
   simp only [execOp, resolve, invoke, builtin, Sem.run_bind, Sem.run_pure, Result.andThen_ok, List.map_toArray, List.map_cons, List.map_nil, hρ x _ hx, hcl]
  refine d_ hr (hR w _ (hpre w ⟨css, q1, q2, fun j cs hj hcs => ?_⟩) (Stp.refl _ _ _))
  exact ⟨xs[j]'(by omega), List.getElem?_eq_getElem (by omega), q4 j cs _ hcs (List.getElem?_eq_getElem (by omega))⟩
 ·have hlt : lo.toNat < xs.length := by omega
  obtain ⟨b, cap, ee, e1, -, -, -, -⟩ := kK_ (i := 0) h hc (u := xs[lo.toNat]'hlt) (by unfold ix; rw [if_pos (by omega)]; rw [Int.add_zero]; exact List.getElem?_eq_getElem hlt) (by omega)
  cases ee
  have hlz := Ow.lens (e := e) (B := B) q1 q4
  have hfl : css.flatten.length = xs.length := by have := q2.1; rw [this]; exact Nat.mul_one _
  obtain ⟨w', r1, r2, r3⟩ := gX_ (P := P) (o := o) (q3 _ rfl) (List.replicate (xs.length - lo.toNat) (.slice none 0 0)) 0 (0 + lo.toNat) w css.flatten q2 (by rw [hfl, List.length_replicate]; omega) (fun u hu => by rw [List.eq_of_mem_replicate hu]; rfl)
  have hu := run_underlying (w := w) ht
  have hzc : (Builtin.zeroCells (Value.cells (.slice none 0 0)) (xs.length - lo.toNat)).toList = List.replicate (xs.length - lo.toNat) (.slice none 0 0) := by
   unfold Builtin.zeroCells
   apply List.ext_getElem
   ·simp [Value.cells]
   ·intro j h1 h2
    simp [Value.cells, Nat.mod_one]
  have hr : ∀ ρ, Agr ρ l → (execOp ρ ⟨none, .call { callee := .builtin .clear, args := #[x], argTypes := #[t] }, ty, ps, af, g⟩).run P w = .ok (.value (.tuple #[])) w' := by
   intro ρ hρ
   rw [e1] at hx
   have hcl : (Builtin.clear_ #[t] ty #[.slice (some ⟨b, 0 + lo.toNat, none⟩) (xs.length - lo.toNat) (c - lo.toNat)]).run P w = .ok (.tuple #[]) w' := by
    unfold Builtin.clear_
    obtain ⟨q, hq⟩ : ∃ q, xs.length - lo.toNat = q + 1 := ⟨xs.length - lo.toNat - 1, by omega⟩
    rw [hq] at hzc r1
    simp only [hq, List.getElem?_toArray, List.getElem?_cons_zero, Sem.run_bind, hu, Result.andThen_ok, hzv, hzc, r1, Sem.run_pure]
   simp only [execOp, resolve, invoke, builtin, Sem.run_bind, Sem.run_pure, Result.andThen_ok, List.map_toArray, List.map_cons, List.map_nil, hρ x _ hx, hcl]
  refine d_ hr (hR w' _ (hpre w' ⟨css.take lo.toNat ++ List.replicate (xs.length - lo.toNat) [.slice none 0 0], by simp; omega, ?_, fun j cs hj hcs => ?_⟩) r3)
  ·have hsp : css.flatten.take lo.toNat = (css.take lo.toNat).flatten := by
    have hf2 : ∀ {L : List (List Value)}, (∀ cs ∈ L, cs.length = 1) → L.flatten.length = L.length := by
     intro L
     induction L with
     | nil => intro _; rfl
     | cons a L ih =>
      intro hh
      rw [List.flatten_cons, List.length_append, ih fun x hx => hh x (by simp [hx]), hh a (by simp), List.length_cons]
      omega
    have e1 : css.flatten = (css.take lo.toNat).flatten ++ (css.drop lo.toNat).flatten := by rw [← List.flatten_append, List.take_append_drop]
    have e2 := hf2 (L := css.take lo.toNat) fun cs hcs => hlz cs (List.mem_of_mem_take hcs)
    rw [e1, List.take_append_of_le_length (by rw [e2, List.length_take]; omega), List.take_of_length_le (by rw [e2, List.length_take]; omega)]
   have hm := iD_ (List.replicate (xs.length - lo.toNat) (.slice none 0 0)) (css.flatten.take lo.toNat) (css.flatten.drop lo.toNat) [] (by rw [List.length_drop, List.length_replicate, hfl])
   rw [List.append_nil, List.take_append_drop, List.append_nil, List.length_take, hfl, Nat.min_eq_left (by omega)] at hm
   rw [show 0 + lo.toNat + 0 = lo.toNat by omega, hm, hsp] at r2
   rw [List.flatten_append, List.flatten_replicate_singleton]
   exact r2
  ·rw [List.getElem?_append_left (by rw [List.length_take]; omega), List.getElem?_take, if_pos hj] at hcs
   exact ⟨xs[j]'(by omega), List.getElem?_eq_getElem (by omega), Rp.stp (q4 j cs _ hcs (List.getElem?_eq_getElem (by omega))) r3 hk⟩
theorem oc_ {d : Option Nat} {ff : Operand} {f : FuncId} {xs : List Operand} {vs : List Value} {ats : Array TypeId} {C : Ending → World → Prop} (hc : Calls P f vs.toArray w C) (hcall : ∀ args w, (callFunc f args).run P w = .ok (.enter f args) w) (hf : ev l ff = some (.func (.func f) #[] #[])) (hv : EvL l xs vs)
  (h : ∀ e w', C e w' → ∃ v, e = .returned v ∧ R v w') : op1 P ⟨d, .call { callee := .value ff, args := xs.toArray, argTypes := ats }, ty, ps, af, g⟩ n l w R := by
 refine hC_ (f := f) (args := vs.toArray) (fun ρ hρ => ?_) hc h
 simp only [execOp, resolve, Sem.run_bind, hρ ff _ hf, Deferred.ofValue, Sem.run_pure, Result.andThen_ok, invoke, List.map_toArray, EvL.map hρ hv]
 simp [hcall]
def nn (i : Int) : Option Unit := if 0 ≤ i then some () else none
theorem mW_ {i : Int} {x : Unit} (h : nn i = some x) : 0 ≤ i := by
 unfold nn at h
 split at h
 ·assumption
 ·cases h
def PreF (v : Value) (lo : Int) : Prop := ∃ a n c, v = .slice a n c ∧ 0 ≤ lo ∧ lo ≤ c
theorem nE_ {zs : List Pv} (h : Ow B e k o w v xs) (hz : cut xs 0 lo = some zs) : PreF v lo := by
 obtain ⟨a, c, rfl⟩ := h.form
 obtain ⟨h1, h2, h3, h4, h5, h6⟩ := nk_ h.z hz
 exact ⟨a, _, c, rfl, h4, h5⟩
theorem la_ {d : Option Nat} {t e' : TypeId} {x hi : Operand} (h : PreF v lo) (hx : ev l x = some v) (hhi : ev l hi = some (.int .i64 lo)) (ht : P.underlying t = some (.slice e')) (hs : ∀ w, (sizeOf e').run P w = .ok 1 w) :
  ∀ ρ, Agr ρ l → (execOp ρ ⟨d, .slice t x none (some hi) none, ty, ps, af, g⟩).run P w = .ok (.value (prev v lo.toNat)) w := by
 obtain ⟨a, n, c, rfl, h1, h2⟩ := h
 intro ρ hρ
 have := kl_ (P := P) (w := w) (a := a) (n := n) (c := c) (lo := none) (hi := some (.int .i64 lo)) (lo' := 0) (hi' := lo) ht hs (.inr ⟨rfl, rfl⟩) (.inl rfl) (by omega) h1 h2
 simp only [execOp, hρ x _ hx, hρ hi _ hhi, Sem.run_bind, this, Result.andThen_ok, Option.map_none, Option.map_some]
 rfl
end
end

section
open Go.RowKit
structure RawN (n : Nat) where
  cs : List Value
  len : cs.length = n + 1
  one : ∀ c ∈ cs, c.oneCell' = true
instance (n : Nat) : Rp (RawN n) where
  sz := n + 1
  pos := Nat.succ_pos n
  rd o w cs x := cs = x.cs
  len h := by rename_i x; subst h; exact x.len
  one h := by rename_i x; subst h; exact x.one
  mv h _ _ := h
section
variable {P : Program} {n : Nat} {l : List (Nat × Value)} {w w0 : World} {o oo : Tg} {α : Type} [Rp α] {d : Nat} {ty : TypeId} {ps : String} {af : Array Edge} {g : Option (Nat × Bool)} {R : Value → World → Prop}
variable {B k k2 : Nat} {e : TypeId} {v v2 u : Value} {xs ys zs : List α} {lo hi i : Int} {x1 : α}
theorem mL_ (a : Option Addr) (h m s : Nat) : sliced a 0 h m s = sliced a 0 h m 1 := by simp [sliced]
theorem oH_ {t e' : TypeId} {x hi' : Operand} {dd : Option Nat} (h : Ow B e k o w v xs) (hc : cut xs 0 hi = some ys) (hx : ev l x = some v) (hhi : ev l hi' = some (.int .i64 hi)) (ht : P.underlying t = some (.slice e')) (hs : ∀ w, (sizeOf e').run P w = .ok (Rp.sz α) w) :
  ∀ ρ, Agr ρ l → (execOp ρ ⟨dd, .slice t x none (some hi') none, ty, ps, af, g⟩).run P w = .ok (.value (prev v hi.toNat)) w := by
 obtain ⟨a, c, rfl⟩ := h.form
 obtain ⟨h1, h2, h3, h4, h5, h6⟩ := nk_ h.z hc
 intro ρ hρ
 have := kl_ (P := P) (w := w) (a := a) (n := xs.length) (c := c) (lo := none) (hi := some (.int .i64 hi)) (lo' := 0) (hi' := hi) ht hs (.inr ⟨rfl, rfl⟩) (.inl rfl) (by omega) h4 h5
 rw [show ((0 : Int)).toNat = 0 from rfl, mL_] at this
 simp only [execOp, hρ x _ hx, hρ hi' _ hhi, Sem.run_bind, this, Result.andThen_ok, Option.map_none, Option.map_some]
 rfl
theorem gb_ {s : Nat} : ∀ {css : List (List Value)} (m : Nat), (∀ cs ∈ css, cs.length = s) → m ≤ css.length → (css.take m).flatten = css.flatten.take (m * s) ∧ (css.take m).flatten.length = m * s
 | css, 0, _, _ => by simp
 | [], m + 1, _, h => by simp at h
 | c :: css, m + 1, hh, hm => by
  obtain ⟨h1, h2⟩ := gb_ (css := css) m (fun x hx => hh x (by simp [hx])) (by simpa using hm)
  have hc := hh c (by simp)
  have e1 : (m + 1) * s = s + m * s := by rw [Nat.succ_mul, Nat.add_comm]
  rw [List.take_succ_cons, List.flatten_cons, List.flatten_cons, List.length_append, h2, h1, hc, e1]
  refine ⟨?_, rfl⟩
  rw [List.take_append, hc, List.take_of_length_le (l := c) (by rw [hc]; exact Nat.le_add_right _ _), Nat.add_sub_cancel_left]
theorem Ow.pre (h : Ow B e k o w v xs) (hc : cut xs 0 hi = some ys) : Ow B e k o w (prev v hi.toNat) ys := by
 have htag := h.tagged
 obtain ⟨css, h1, h2, h3, h4⟩ := h
 obtain ⟨g1, g2, g3, rfl⟩ := gS_ hc
 have hlz := Ow.lens (e := e) (B := B) h1 h4
 have hlen : ((xs.take hi.toNat).drop (0 : Int).toNat) = xs.take hi.toNat := by simp
 obtain ⟨f1, f2⟩ := gb_ (css := css) hi.toNat hlz (by omega)
 rw [hlen]
 refine ⟨css.take hi.toNat, by rw [List.length_take, List.length_take, h1], ?_, fun g hg => ?_, fun j cs u hj hu => ?_⟩
 ·have hl2 : (xs.take hi.toNat).length = hi.toNat := by rw [List.length_take]; omega
  rw [hl2]
  obtain ⟨p1, p2⟩ := h2
  refine ⟨f2, ?_⟩
  rcases p2 with ⟨rfl, e2⟩ | ⟨gg, cap, cur, rfl, p3, p4, p5, p6, p7, p8⟩
  ·exact .inl ⟨by unfold prev sliced; simp only; rw [show hi.toNat = 0 by omega]; simp, by omega⟩
  ·refine .inr ⟨gg, cap, cur, ?_, p3, p4, by omega, p6, p7, ?_⟩
   ·unfold prev sliced
    simp only
    by_cases hc0 : cap = 0
    ·rw [if_pos hc0, Nat.sub_zero, Nat.sub_zero]
    ·rw [if_neg hc0, Option.map_some, Nat.zero_mul, Addr.add_zero', Nat.sub_zero, Nat.sub_zero]
   ·rw [f1, ← p8, List.take_take, Nat.min_eq_left (Nat.mul_le_mul_right _ (by omega))]
 ·refine htag g ?_
  rcases h2.2 with ⟨rfl, _⟩ | ⟨gg, cap, cur, rfl, _⟩
  ·unfold prev sliced at hg; simp only at hg; split at hg <;> simp [Value.ownBlock] at hg
  ·have : (prev (.slice (some ⟨gg, 0, none⟩) xs.length cap) hi.toNat).ownBlock = some gg := by
    unfold prev sliced
    simp only
    split
    ·rfl
    ·simp only [Option.map_some, Value.ownBlock, Nat.zero_mul]
     unfold Addr.add
     split <;> rfl
   rw [this] at hg
   exact hg
 ·have hjl : j < hi.toNat := by
   have := (List.getElem?_eq_some_iff.1 hj).1
   rw [List.length_take] at this; omega
  rw [List.getElem?_take_of_lt hjl] at hj hu
  exact h4 j cs u hj hu
end
end

section
open Go.RowKit
inductive HRow where
  | rd (xs : List Int)
  | hole (u : Value)
instance : Rp HRow where
  sz := 1
  pos := by decide
  rd o w cs x := match x with
    | .rd xs => ∃ v, cs = [v] ∧ RdL o w v xs
    | .hole u => cs = [u] ∧ u.oneCell' = true
  len {o w cs x} h := by
    cases x with
    | rd xs => obtain ⟨v, rfl, _⟩ := h; rfl
    | hole u => obtain ⟨rfl, _⟩ := h; rfl
  one {o w cs x} h := by
    cases x with
    | rd xs => obtain ⟨v, rfl, a, c, rfl, _⟩ := h; simp [Value.oneCell']
    | hole u => obtain ⟨rfl, h1⟩ := h; intro c hc; rw [List.mem_singleton.1 hc]; exact h1
  mv {o o' w w' cs x} h hs hb := by
    cases x with
    | rd xs => obtain ⟨v, e, h⟩ := h; exact ⟨v, e, h.mv hs hb⟩
    | hole u => exact h
section
variable {P : Program} {n : Nat} {l : List (Nat × Value)} {w w0 : World} {o oo : Tg} {d : Nat} {ty : TypeId} {ps : String} {af : Array Edge} {g : Option (Nat × Bool)} {R : Value → World → Prop}
variable {B k : Nat} {e : TypeId} {v u : Value} {xs ys : List (List Int)} {i : Int} {r : List Int}
theorem FnV.cells1 {A ρ : Type} [Ar A] [Rs ρ] {F : A → Option ρ} (h : FnV P w v F) : v.cells = #[v] := by obtain ⟨m, cap, rfl, _⟩ := h; rfl
theorem ir_ {d : Option Nat} {ff : Operand} {f : FuncId} {xs : List Operand} {vs cap : List Value} {ats : Array TypeId} {C : Ending → World → Prop} (hc : Calls P f (vs ++ cap).toArray w C) (hcall : ∀ args w, (callFunc f args).run P w = .ok (.enter f args) w) (hf : ev l ff = some (.func (.func f) #[] cap.toArray)) (hv : EvL l xs vs)
  (h : ∀ e w', C e w' → ∃ v, e = .returned v ∧ R v w') : op1 P ⟨d, .call { callee := .value ff, args := xs.toArray, argTypes := ats }, ty, ps, af, g⟩ n l w R := by
 refine hC_ (f := f) (args := (vs ++ cap).toArray) (fun ρ hρ => ?_) hc h
 simp only [execOp, resolve, Sem.run_bind, hρ ff _ hf, Deferred.ofValue, Sem.run_pure, Result.andThen_ok, invoke, List.map_toArray, EvL.map hρ hv]
 simp [hcall]
end
end

end Go.Proofs.YtdbbeldgdgonfaaGreat
