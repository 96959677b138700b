/- Part 6 of what this claim rests on (GIm, Im, Rna, Pa, Pb, Slp, Ris, GB, Kc, Vals), packed by pack.py. -/
import Derived.Test.YtdbbeldgdgonfaaGreatLay
import Derived.Shelf.SlIterI.Collect
import Derived.Shelf.SlIterI.Sorted
import Derived.RangeFuncKeeps
import Derived.OwnWalkIn
import Derived.TacticsInMore
import Derived.LoopNIn
import Derived.LoopIn
import Derived.Deep.LoopGhost
import Derived.Test.YtdbbeldgdgonfaaGreatP03
import Derived.Test.YtdbbeldgdgonfaaGreatP04
import Derived.Test.YtdbbeldgdgonfaaGreatP05
namespace Go.Proofs.YtdbbeldgdgonfaaGreat
set_option linter.unusedSimpArgs false
set_option linter.unusedVariables false

section
set_option maxRecDepth 100000
set_option maxHeartbeats 2000000
open Go.RowKit
def gI_ (d : List Int) : Int → Int → (List Int) → Option (Lp (List Int) (List Int) (List Int)) := fun (f : Int) (a : Int) (s : List Int) =>
  (ix d a) >>= fun b =>
  (push s b) >>= fun c =>
  some (.go c)
def ld_ (a : List Int) (b : List Int) : Option (List Int) :=
  (forI (gI_ b) a 0 []) >>= fun c =>
  match c with
  | .inl d =>
    some d
  | .inr _ => none
end

section
theorem lb_ {α σ ρ : Type} {body : Int → α → σ → Option (Lp σ σ ρ)} (R : Nat → σ) : ∀ (xs : List α) (k : Nat), (∀ (j : Nat) x, xs[j]? = some x → body ((k + j : Nat) : Int) x (R (k + j)) = some (.go (R (k + j + 1)))) →
  forI body xs (k : Int) (R k) = some (.inl (R (k + xs.length)))
 | [], k, h => rfl
 | x :: xs, k, h => by
  have h0 := h 0 x rfl
  simp only [Nat.add_zero] at h0
  simp only [forI, h0]
  rw [show ((k : Int) + 1) = ((k + 1 : Nat) : Int) by omega]
  rw [lb_ R xs (k + 1) (fun j y hj => by have := h (j + 1) y (by simpa using hj); rw [show k + (j + 1) = k + 1 + j by omega] at this; exact this)]
  rw [List.length_cons, show k + 1 + xs.length = k + (xs.length + 1) by omega]
theorem jT_ {α σ ρ : Type} {body : Int → α → σ → Option (Lp σ σ ρ)} (R : Nat → σ) (xs : List α) (h : ∀ (j : Nat) x, xs[j]? = some x → body (j : Int) x (R j) = some (.go (R (j + 1)))) :
  forI body xs 0 (R 0) = some (.inl (R xs.length)) := by
 have := lb_ R xs 0 (fun j x hj => by rw [Nat.zero_add]; exact h j x hj)
 rw [Nat.zero_add] at this; exact this
def imgL (t x : List Int) : List Int := x.map fun y => t.getD y.toNat 0
theorem kW_ {α : Type} {xs : List α} {j : Nat} {x : α} (h : xs[j]? = some x) : xs.take (j + 1) = xs.take j ++ [x] := by
 rw [List.take_add_one, h]; rfl
theorem iZ_ (t x : List Int) (ht : t.length ≤ 1000000) (h : ∀ y, y ∈ x → 0 ≤ y ∧ y < t.length) (hx : x.length ≤ 1000) : ds_ t x = some (imgL t x) ∧ ld_ x t = some (imgL t x) := by
 have step : ∀ (j : Nat) (y : Int), x[j]? = some y → ix t y = some (t.getD y.toNat 0) := fun j y hj => by
  have := h y (List.mem_of_getElem? hj)
  unfold ix
  rw [if_pos this.1, List.getD_eq_getElem?_getD, List.getElem?_eq_getElem (by omega)]
  rfl
 constructor
 ·unfold ds_
  have := jT_ (body := cP_ t) (fun j => imgL t (x.take j)) x (fun j y hj => by
   unfold cP_ push
   rw [step j y hj, sb, if_pos (by simp [imgL]; omega), sb, kW_ hj]
   simp [imgL])
  rw [List.take_length] at this
  rw [show ([] : List Int) = imgL t (x.take 0) from rfl, this, sb]
 ·unfold ld_
  have := jT_ (body := gI_ t) (fun j => imgL t (x.take j)) x (fun j y hj => by
   unfold gI_ push
   rw [step j y hj, sb, if_pos (by simp [imgL]; omega), sb, kW_ hj]
   simp [imgL])
  rw [List.take_length] at this
  rw [show ([] : List Int) = imgL t (x.take 0) from rfl, this, sb]
end

section
def Cpl (ok : List Int → Prop) (n : Nat) : Nat → List Int → Prop
  | 0, _ => True
  | d + 1, f => ∃ b : Nat, b < n ∧ (b : Int) ∉ f ∧ ok (f ++ [(b : Int)]) ∧ Cpl ok n d (f ++ [(b : Int)])
theorem Cpl.full {ok : List Int → Prop} {n : Nat} : ∀ {d : Nat} {f : List Int}, Cpl ok n d f → f.Nodup → (∀ y ∈ f, 0 ≤ y ∧ y < n) → ∃ g : List Int, g.length = d ∧ (f ++ g).Nodup ∧ (∀ y ∈ f ++ g, 0 ≤ y ∧ y < n) ∧ ∀ k, k < d → ok (f ++ g.take (k + 1))
 | 0, f, _, hn, hr => ⟨[], rfl, by simpa using hn, by simpa using hr, fun k hk => by omega⟩
 | d + 1, f, ⟨b, hb, hnb, hok, hx⟩, hn, hr => by
  obtain ⟨g, g1, g2, g3, g4⟩ := Cpl.full hx (List.pairwise_append.2 ⟨hn, by simp, fun y hy z hz e => hnb (by simp at hz; rw [← hz, ← e]; exact hy)⟩) (fun y hy => by
   rcases List.mem_append.1 hy with hy | hy
   ·exact hr y hy
   ·simp at hy; subst hy; omega)
  refine ⟨(b : Int) :: g, by simp [g1], by simpa using g2, by simpa using g3, fun k hk => ?_⟩
  rw [List.take_succ_cons]
  cases k with
  | zero => simpa using hok
  | succ k => have := g4 k (by omega); simpa using this
theorem Cpl.of_full {ok : List Int → Prop} {n : Nat} : ∀ {g f : List Int}, (∀ y ∈ g, 0 ≤ y ∧ y < n) → (f ++ g).Nodup → (∀ k, k < g.length → ok (f ++ g.take (k + 1))) → Cpl ok n g.length f
 | [], f, _, _, _ => trivial
 | y :: g, f, hr, hn, hk => by
  have hy := hr y (by simp)
  have e : ((y.toNat : Nat) : Int) = y := Int.toNat_of_nonneg hy.1
  refine ⟨y.toNat, by omega, ?_, ?_, ?_⟩
  ·rw [e]
   intro hm
   exact (List.pairwise_append.1 hn).2.2 y hm y (by simp) rfl
  ·rw [e]
   have := hk 0 (by simp)
   simpa using this
  ·rw [e]
   exact Cpl.of_full (fun z hz => hr z (by simp [hz])) (by simpa using hn) (fun k h => by have := hk (k + 1) (by simp; omega); simpa using this)
theorem Cpl.mono {ok ok' : List Int → Prop} {n : Nat} (h : ∀ f, ok f → ok' f) : ∀ {d : Nat} {f : List Int}, Cpl ok n d f → Cpl ok' n d f
 | 0, _, _ => trivial
 | d + 1, f, ⟨b, hb, hn, hok, hx⟩ => ⟨b, hb, hn, h _ hok, Cpl.mono h hx⟩
def keptP (l m : List (List Int)) (f : List Int) : Prop := ∀ x ∈ l, x.getD (x.length - 1) 0 = (f.length : Int) - 1 → srt (imgL f x) ∈ m
theorem ns_ {x : List Int} (hs : x.Pairwise (· ≤ ·)) : ∀ y ∈ x, y ≤ x.getD (x.length - 1) 0 := fun y hy => by
 obtain ⟨i, hi, rfl⟩ := List.getElem_of_mem hy
 rw [List.getD_eq_getElem?_getD, List.getElem?_eq_getElem (by omega)]
 simp only [Option.getD_some]
 by_cases e : i = x.length - 1
 ·subst e; exact Int.le_refl _
 ·exact (List.pairwise_iff_getElem.1 hs) i (x.length - 1) hi (by omega) (by omega)
theorem rd_ {x : List Int} (h : x ≠ []) : x.getD (x.length - 1) 0 ∈ x := by
 have hp : 0 < x.length := List.length_pos_iff.2 h
 rw [List.getD_eq_getElem?_getD, List.getElem?_eq_getElem (by omega)]
 exact List.getElem_mem _
theorem po_ {P Q : List (List Int)} {g : List Int} {n : Nat} (hl : g.length = n) (hP : ∀ x ∈ P, x ≠ [] ∧ x.Pairwise (· ≤ ·) ∧ ∀ y ∈ x, 0 ≤ y ∧ y < n) (hk : ∀ k, k < n → keptP P Q (g.take (k + 1))) : ∀ x ∈ P, srt (imgL g x) ∈ Q := fun x hx => by
 obtain ⟨h1, h2, h3⟩ := hP x hx
 have ha := h3 _ (rd_ h1)
 have hm := ns_ h2
 generalize hL : x.getD (x.length - 1) 0 = a at ha hm
 have hlen : (g.take (a.toNat + 1)).length = a.toNat + 1 := by rw [List.length_take]; omega
 have := hk a.toNat (by omega) x hx (by rw [hL, hlen]; omega)
 have e : imgL (g.take (a.toNat + 1)) x = imgL g x := by
  unfold imgL
  refine List.map_congr_left fun y hy => ?_
  have q1 := hm y hy
  have q2 := h3 y hy
  rw [List.getD_eq_getElem?_getD, List.getElem?_take, if_pos (by omega), List.getD_eq_getElem?_getD]
 rwa [e] at this
def occ (a : Int) (m : Nat) (l : List (List Int)) : Nat := (l.filter fun x => x.count a == m).length
theorem rl_ {α : Type} [DecidableEq α] : ∀ {L Q : List α}, L.Nodup → (∀ x ∈ L, x ∈ Q) → L.length ≤ Q.length
 | [], _, _, _ => Nat.zero_le _
 | x :: L, Q, hn, hs => by
  have hx := hs x (by simp)
  have hn' := List.pairwise_cons.1 hn
  have := rl_ (L := L) (Q := Q.erase x) hn'.2 (fun y hy => (List.mem_erase_of_ne (fun e => hn'.1 y hy e.symm)).2 (hs y (by simp [hy])))
  rw [List.length_erase_of_mem hx] at this
  have : 0 < Q.length := List.length_pos_of_mem hx
  simp
  omega
theorem rk_ {P Q : List (List Int)} (F : List Int → List Int) (hF : ∀ x ∈ P, F x ∈ Q) (hi : ∀ x ∈ P, ∀ y ∈ P, F x = F y → x = y) (hn : P.Nodup) (p q : List Int → Bool) (hpq : ∀ x ∈ P, p x = q (F x)) : (P.filter p).length ≤ (Q.filter q).length := by
 have := rl_ (L := (P.filter p).map F) (Q := Q.filter q) (by
  show List.Pairwise (· ≠ ·) _
  rw [List.pairwise_map]
  refine List.Pairwise.imp_of_mem ?_ (List.Pairwise.filter p hn)
  intro a b ha hb hne he
  exact hne (hi a (List.mem_filter.1 ha).1 b (List.mem_filter.1 hb).1 he)) (fun z hz => by
  obtain ⟨x, hx, rfl⟩ := List.mem_map.1 hz
  have hx := List.mem_filter.1 hx
  exact List.mem_filter.2 ⟨hF x hx.1, by rw [← hpq x hx.1]; exact hx.2⟩)
 simpa using this
theorem pG_ (P : List (List Int)) (p : List Int → Bool) : (P.filter p).length + (P.filter fun x => !p x).length = P.length := by
 induction P with
 | nil => rfl
 | cons x P ih =>
  simp only [List.filter_cons]
  cases h : p x
  ·simp; omega
  ·simp; omega
theorem sj_ {P Q : List (List Int)} (F : List Int → List Int) (hF : ∀ x ∈ P, F x ∈ Q) (hi : ∀ x ∈ P, ∀ y ∈ P, F x = F y → x = y) (hn : P.Nodup) (hl : P.length = Q.length) (p q : List Int → Bool) (hpq : ∀ x ∈ P, p x = q (F x)) : (P.filter p).length = (Q.filter q).length := by
 have h1 := rk_ F hF hi hn p q hpq
 have h2 := rk_ F hF hi hn (fun x => !p x) (fun x => !q x) (fun x hx => by rw [hpq x hx])
 have h3 := pG_ P p
 have h4 := pG_ Q q
 omega
theorem ndI {g : List Int} (hg : g.Nodup) {i j : Nat} (hi : i < g.length) (hj : j < g.length) (e : g.getD i 0 = g.getD j 0) : i = j := by
 rw [List.getD_eq_getElem?_getD, List.getD_eq_getElem?_getD, List.getElem?_eq_getElem hi, List.getElem?_eq_getElem hj] at e
 simp only [Option.getD_some] at e
 have hp := List.pairwise_iff_getElem.1 hg
 refine Classical.byContradiction fun hne => ?_
 rcases Nat.lt_or_gt_of_ne hne with h | h
 ·exact hp i j hi hj h e
 ·exact hp j i hj hi h e.symm
theorem kv_ {g : List Int} {n : Nat} (hl : g.length = n) (hg : g.Nodup) {a : Nat} (ha : a < n) : ∀ {x : List Int}, (∀ y ∈ x, 0 ≤ y ∧ y < n) → (imgL g x).count (g.getD a 0) = x.count (a : Int)
 | [], _ => rfl
 | y :: x, h => by
  have ih := kv_ hl hg ha (x := x) (fun z hz => h z (by simp [hz]))
  have hy := h y (by simp)
  show (g.getD y.toNat 0 :: imgL g x).count _ = _
  rw [List.count_cons, List.count_cons, ih]
  have : (g.getD y.toNat 0 == g.getD a 0) = (y == (a : Int)) := by
   rw [Bool.eq_iff_iff, beq_iff_eq, beq_iff_eq]
   constructor
   ·intro e
    have := ndI hg (by omega) (by omega) e
    omega
   ·intro e
    subst e
    rfl
  rw [this]
theorem mH_ (a : Int) (x : List Int) : (srt x).count a = x.count a := (fe_ x).count_eq a
theorem rK_ {g : List Int} {n : Nat} (hl : g.length = n) (hg : g.Nodup) {x y : List Int} (hx : x.Pairwise (· ≤ ·) ∧ ∀ z ∈ x, 0 ≤ z ∧ z < n) (hy : y.Pairwise (· ≤ ·) ∧ ∀ z ∈ y, 0 ≤ z ∧ z < n) (e : srt (imgL g x) = srt (imgL g y)) : x = y := by
 have hc : ∀ a : Int, x.count a = y.count a := fun a => by
  by_cases ha : 0 ≤ a ∧ a < n
  ·have h1 := kv_ hl hg (a := a.toNat) (by omega) hx.2
   have h2 := kv_ hl hg (a := a.toNat) (by omega) hy.2
   rw [← mH_, e, mH_, h2, Int.toNat_of_nonneg ha.1] at h1
   exact h1.symm
  ·rw [List.count_eq_zero.2 (fun hm => ha (hx.2 a hm)), List.count_eq_zero.2 (fun hm => ha (hy.2 a hm))]
 have hp : x.Perm y := List.perm_iff_count.2 hc
 rw [← mn_ hx.1, ← mn_ hy.1, hk_ hp]
theorem nO_ {P Q : List (List Int)} {g : List Int} {n : Nat} (hl : g.length = n) (hg : g.Nodup) (hP : ∀ x ∈ P, x ≠ [] ∧ x.Pairwise (· ≤ ·) ∧ ∀ y ∈ x, 0 ≤ y ∧ y < n) (hn : P.Nodup) (hlen : P.length = Q.length) (hmap : ∀ x ∈ P, srt (imgL g x) ∈ Q) {a : Nat} (ha : a < n) (m : Nat) :
  occ (a : Int) m P = occ (g.getD a 0) m Q :=
 sj_ (fun x => srt (imgL g x)) hmap (fun x hx y hy e => rK_ hl hg (hP x hx).2 (hP y hy).2 e) hn hlen _ _ (fun x hx => by rw [mH_, kv_ hl hg ha (hP x hx).2.2])
end

section
theorem nz_ (a b c : Int) : ge_ a b c = some (decide (b ≤ a) && decide (a ≤ c)) := by
 unfold ge_
 by_cases h : a ≥ b
 ·simp [h, show b ≤ a from h]
 ·simp [h, show ¬ b ≤ a from h]
theorem hg_ (a b c : Int) : dE_ a b c = some (decide (b ≤ a) && decide (a ≤ c)) := by
 unfold dE_
 by_cases h : b ≤ a <;> simp [h]
def inB (b c a : Int) : Bool := decide (b ≤ a) && decide (a ≤ c)
theorem rO_ (xs : List Int) (b c : Int) : hp_ xs b c = some (xs.all (inB b c)) := by
 unfold hp_
 rw [cU_ (fun _ x => if inB b c x then none else some false) xs (fun j x hj _ => by
  unfold fJ_
  rw [nz_, sb]
  cases h : inB b c x <;> simp only [inB] at h <;> simp [h, lpP, inB]), jW_, sb]
 cases xs.all (inB b c) <;> rfl
theorem mS_ (xs : List Int) (f : Int → Option Bool) (g : Int → Bool) (hf : ∀ x, x ∈ xs → f x = some (g x)) (hl : xs.length ≤ 1000000000) :
  aF_ xs f = some ((firstP (fun k x => if g x then some (k : Int) else none) xs 0).getD (-1)) := by
 unfold aF_
 rw [G_ (by omega) (by omega), sb]
 simp only [Int.toNat_natCast]
 rw [eI_ (fun k x => if g x then some (k : Int) else none) xs (fun j x hj _ => by
  unfold aR_
  rw [ct_, hj, sb, hf x (List.mem_of_getElem? hj), sb]
  cases h : g x <;> simp [h, lpP]), sb]
 cases firstP (fun k x => if g x then some (k : Int) else none) xs 0 <;> rfl
theorem jv_ (xs : List Int) (f : Int → Option Bool) (g : Int → Bool) (hf : ∀ x, x ∈ xs → f x = some (g x)) (hl : xs.length ≤ 1000000000) :
  ar_ xs f = some (xs.any g) := by
 unfold ar_
 rw [mS_ xs f g hf hl, sb]
 cases h : firstP (fun k x => if g x then some (k : Int) else none) xs 0 with
 | some r =>
  obtain ⟨j, x, h1, h2⟩ := cw_ h
  have h3 : g x = true := by
   cases hg : g x with
   | true => rfl
   | false => rw [hg] at h2; cases h2
  have h4 : xs.any g = true := List.any_eq_true.2 ⟨x, List.mem_of_getElem? h1, h3⟩
  rw [h3, if_pos rfl] at h2
  cases h2
  rw [h4]
  simp
 | none =>
  have h4 : xs.any g = false := by
   rw [List.any_eq_false]
   intro x hx hg
   obtain ⟨j, hj⟩ := List.mem_iff_getElem?.1 hx
   have := cc_.1 h j x hj
   rw [hg] at this
   simp at this
  rw [h4]
  simp
theorem mo_ (xs : List Int) (b c : Int) (hl : xs.length ≤ 1000000000) : ef_ xs b c = some (xs.all (inB b c)) := by
 unfold ef_
 rw [jv_ xs _ (fun x => !inB b c x) (fun x _ => by unfold cD_; rw [hg_, sb]; rfl) hl, sb]
 congr 1
 rw [List.not_any_eq_all_not]
 simp
theorem sn_ (a b : Int) : be_ a b = some (if a < b then -1 else if a > b then 1 else 0) := by
 unfold be_ aJ_
 simp only [sb, bne_self_eq_false, Bool.false_eq_true, if_false]
 by_cases h : a < b
 ·simp [h]
 ·by_cases h2 : a > b <;> simp [h, h2]
theorem rh_ (a b : Int) : cm_ a b = some (decide (a < b)) := by
 unfold cm_ aJ_
 simp [sb]
def sortB : List Int → Bool
  | a :: b :: r => decide (a ≤ b) && sortB (b :: r)
  | _ => true
theorem fo_ : ∀ {xs : List Int}, sortB xs = true ↔ ∀ (k : Nat) a b, xs[k]? = some a → xs[k + 1]? = some b → a ≤ b
 | [] => by simp [sortB]
 | [a] => by simp [sortB]
 | a :: b :: r => by
  simp only [sortB, Bool.and_eq_true, decide_eq_true_eq]
  rw [fo_]
  constructor
  ·rintro ⟨h1, h2⟩ k x y hx hy
   cases k with
   | zero => simp at hx hy; subst hx; subst hy; exact h1
   | succ k => exact h2 k x y (by simpa using hx) (by simpa using hy)
  ·intro h
   exact ⟨h 0 a b rfl rfl, fun k x y hx hy => h (k + 1) x y (by simpa using hx) (by simpa using hy)⟩
theorem kL_ (xs : List Int) (hl : xs.length ≤ 1000000000) (fuel : Nat) : ∀ (k : Nat), k < fuel → k < xs.length →
  loopF (S_ xs) fuel (k : Int) = some (if sortB (xs.take (k + 1)) then .inl 0 else .inr false) := by
 induction fuel with
 | zero => intro k h; omega
 | succ fuel ih =>
  intro k hk hkl
  cases k with
  | zero =>
   have hs : S_ xs ((0 : Nat) : Int) = some (.out 0) := by unfold S_; simp
   have : sortB (xs.take 1) = true := by
    cases xs with
    | nil => simp at hkl
    | cons a r => simp [sortB]
   simp only [loopF, hs, this, Nat.zero_add, if_true]
  | succ k =>
   have hs : S_ xs ((k + 1 : Nat) : Int) = some (if xs[k + 1] < xs[k]'(by omega) then .ret false else .go (k : Int)) := by
    unfold S_
    rw [if_pos (by rw [decide_eq_true_eq]; omega)]
    rw [fW_ _ _ hkl, sb, G_ (by omega) (by omega), sb, show (((k + 1 : Nat) : Int) - 1) = (k : Int) by omega, fW_ _ _ (by omega), sb, rh_, sb]
    by_cases hlt : xs[k + 1] < xs[k]'(by omega)
    ·rw [if_pos (by rw [decide_eq_true_eq]; exact hlt), if_pos hlt]
    ·rw [if_neg (by rw [decide_eq_true_eq]; exact hlt), if_neg hlt]
     first | rfl | (rw [G_ (by omega) (by omega), sb, show (((k + 1 : Nat) : Int) - 1) = (k : Int) by omega])
   simp only [loopF, hs]
   by_cases hlt : xs[k + 1] < xs[k]'(by omega)
   ·have : sortB (xs.take (k + 1 + 1)) = false := by
     rw [Bool.eq_false_iff]
     intro h
     have := fo_.1 h k (xs[k]'(by omega)) xs[k + 1] (by simp [List.getElem?_take, show k < k + 1 + 1 by omega]) (by simp [List.getElem?_take])
     omega
    simp [hlt, this]
   ·rw [if_neg hlt]
    simp only
    rw [ih k (by omega) (by omega)]
    have : sortB (xs.take (k + 1 + 1)) = sortB (xs.take (k + 1)) := by
     rw [Bool.eq_iff_iff, fo_, fo_]
     constructor
     ·intro h j a b ha hb
      rw [List.getElem?_take] at ha hb
      split at hb
      ·rename_i hj
       refine h j a b ?_ ?_
       ·rw [List.getElem?_take, if_pos (by omega)]; rw [if_pos (by omega)] at ha; exact ha
       ·rw [List.getElem?_take, if_pos (by omega)]; exact hb
      ·cases hb
     ·intro h j a b ha hb
      rw [List.getElem?_take] at ha hb
      by_cases hj : j = k
      ·subst hj
       rw [if_pos (by omega), List.getElem?_eq_getElem (by omega)] at ha hb
       cases ha; cases hb; omega
      ·split at hb
       ·refine h j a b ?_ ?_
        ·rw [List.getElem?_take, if_pos (by omega)]; rw [if_pos (by omega)] at ha; exact ha
        ·rw [List.getElem?_take, if_pos (by omega)]; exact hb
       ·cases hb
    rw [this]
theorem ou_ (xs : List Int) (fuel : Nat) (hf : xs.length < fuel) (hl : xs.length ≤ 1000000000) : aP_ fuel xs = some (sortB xs) := by
 unfold aP_
 rw [G_ (by omega) (by omega), sb]
 cases xs with
 | nil =>
  cases fuel with
  | zero => simp at hf
  | succ fuel => simp [loopF, S_, sortB]
 | cons a r =>
  have := kL_ (a :: r) hl fuel r.length (by simp at hf; omega) (by simp)
  rw [show (((a :: r).length : Int) - 1) = (r.length : Int) by simp, this, sb]
  rw [List.take_of_length_le (by simp)]
  cases sortB (a :: r) <;> rfl
end

section
theorem jN_ {α : Type} (a : List α) (x : α) (b : List α) : ix (a ++ x :: b) (a.length : Int) = some x := by
 rw [ct_]; simp
theorem pc_ {α : Type} (a : List α) (x : α) (b : List α) (n : Int) (h : n = a.length) : ix (a ++ x :: b) n = some x := by subst h; exact jN_ a x b
theorem qE_ {α : Type} (a : List α) (x y : α) (b : List α) (n : Int) (h : n = a.length) : st (a ++ x :: b) n y = some (a ++ y :: b) := by
 subst h
 rw [iO_ _ _ _ (by simp)]
 simp
def insR : List Int → Int → List Int → List Int
  | [], x, b => x :: b
  | y :: ra, x, b => if y > x then insR ra x (y :: b) else ra.reverse ++ y :: x :: b
theorem hn_ (x : Int) : ∀ (ra b : List Int) (fuel : Nat), ra.length < fuel → ra.length ≤ 1000000000 →
  ∃ j, loopF cb_ fuel (ra.reverse ++ x :: b, (ra.length : Int)) = some (.inl (insR ra x b, j))
 | [], b, fuel, hf, _ => by
  cases fuel with
  | zero => simp at hf
  | succ fuel => exact ⟨0, by simp [loopF, cb_, insR, sb]⟩
 | y :: ra, b, fuel, hf, hl => by
  cases fuel with
  | zero => simp at hf
  | succ fuel =>
   have e1 : (y :: ra).reverse ++ x :: b = ra.reverse ++ y :: x :: b := by simp
   have e2 : (((y :: ra).length : Nat) : Int) - 1 = (ra.length : Int) := by simp
   have hi : ix (ra.reverse ++ y :: x :: b) ((y :: ra).length : Int) = some x := by
    rw [← e1, ← List.length_reverse]; exact jN_ _ _ _
   have hs : cb_ ((y :: ra).reverse ++ x :: b, ((y :: ra).length : Int)) = some (if y > x then .go (ra.reverse ++ x :: y :: b, (ra.length : Int)) else .out (ra.reverse ++ y :: x :: b, ((y :: ra).length : Int))) := by
    unfold cb_
    simp only [e1]
    rw [if_pos (by rw [decide_eq_true_eq]; simp), G_ (by omega) (by simp at hl ⊢; omega), sb, e2, pc_ _ y _ _ (by simp), sb, hi, sb, sb]
    by_cases h : y > x
    ·have hs1 : st (ra.reverse ++ y :: x :: b) ((y :: ra).length : Int) y = some (ra.reverse ++ y :: y :: b) := by
      have := qE_ (ra.reverse ++ [y]) x y b ((y :: ra).length : Int) (by simp)
      simpa using this
     simp only [h, decide_true, if_true, sb, pc_ ra.reverse y (x :: b) (ra.length : Int) (by simp), hs1, pc_ ra.reverse y (y :: b) (ra.length : Int) (by simp), qE_ ra.reverse y x (y :: b) (ra.length : Int) (by simp)]
    ·simp only [h, decide_false, if_false, Bool.false_eq_true]
   simp only [loopF, hs]
   by_cases h : y > x
   ·simp only [h, if_true, insR]
    simp at hf hl
    exact hn_ x ra (y :: b) fuel (by omega) (by omega)
   ·simp only [h, if_false, insR]
    exact ⟨_, rfl⟩
def ssort (xs : List Int) : List Int := xs.foldl (fun acc x => insR acc.reverse x []) []
theorem og_ : ∀ (ra : List Int) (x : Int) (b c : List Int), insR ra x (b ++ c) = insR ra x b ++ c
 | [], x, b, c => by simp [insR]
 | y :: ra, x, b, c => by
  simp only [insR]
  split
  ·rw [← List.cons_append]; exact og_ ra x (y :: b) c
  ·simp
theorem iC_ : ∀ (ra : List Int) (x : Int) (b : List Int), (insR ra x b).Perm (ra.reverse ++ x :: b)
 | [], x, b => by simp [insR]
 | y :: ra, x, b => by
  simp only [insR]
  split
  ·refine (iC_ ra x (y :: b)).trans ?_
   simp only [List.reverse_cons, List.append_assoc, List.cons_append, List.nil_append]
   exact (List.Perm.refl _).append (List.Perm.swap _ _ _)
  ·simp
theorem mz_ (ra : List Int) (x : Int) (b : List Int) : (insR ra x b).length = ra.length + 1 + b.length := by
 rw [(iC_ ra x b).length_eq]; simp; omega
theorem iP_ : ∀ (ra : List Int) (x : Int) (b : List Int), (ra.reverse ++ b).Pairwise (· ≤ ·) → (∀ z, z ∈ b → x ≤ z) → (insR ra x b).Pairwise (· ≤ ·)
 | [], x, b, h, hz => by simpa [insR] using ⟨hz, by simpa using h⟩
 | y :: ra, x, b, h, hz => by
  simp only [insR]
  split
  ·rename_i hy
   refine iP_ ra x (y :: b) (by simpa using h) fun z hz' => ?_
   rcases List.mem_cons.1 hz' with rfl | h'
   ·omega
   ·exact hz z h'
  ·rename_i hy
   have h' : (ra.reverse ++ y :: b).Pairwise (· ≤ ·) := by simpa using h
   rw [List.pairwise_append] at h' ⊢
   obtain ⟨h1, h2, h3⟩ := h'
   rw [List.pairwise_cons] at h2
   refine ⟨h1, ?_, ?_⟩
   ·rw [List.pairwise_cons, List.pairwise_cons]
    refine ⟨fun z hz' => ?_, hz, h2.2⟩
    rcases List.mem_cons.1 hz' with rfl | h'
    ·omega
    ·exact h2.1 z h'
   ·intro a ha z hz'
    rcases List.mem_cons.1 hz' with rfl | hz'
    ·exact h3 a ha _ (by simp)
    ·rcases List.mem_cons.1 hz' with rfl | hz'
     ·have := h3 a ha y (by simp); omega
     ·exact h3 a ha _ (by simp [hz'])
theorem fA_ : ∀ (xs acc : List Int), acc.Pairwise (· ≤ ·) → (xs.foldl (fun acc x => insR acc.reverse x []) acc).Pairwise (· ≤ ·)
 | [], acc, h => h
 | x :: xs, acc, h => by
  rw [List.foldl_cons]
  exact fA_ xs _ (iP_ _ _ _ (by simpa using h) (by simp))
theorem gj_ : ∀ (xs acc : List Int), (xs.foldl (fun acc x => insR acc.reverse x []) acc).Perm (acc ++ xs)
 | [], acc => by simp
 | x :: xs, acc => by
  rw [List.foldl_cons]
  refine (gj_ xs _).trans ?_
  have := (iC_ acc.reverse x []).append_right xs
  simpa using this
theorem lX_ (xs : List Int) : (ssort xs).Pairwise (· ≤ ·) := fA_ xs [] (by simp)
theorem oA_ (xs : List Int) : (ssort xs).Perm xs := by
 have := gj_ xs []
 rwa [List.nil_append] at this
theorem gP_ : ∀ {xs : List Int}, sortB xs = true ↔ xs.Pairwise (· ≤ ·)
 | [] => by simp [sortB]
 | [a] => by simp [sortB]
 | a :: b :: r => by
  rw [List.pairwise_cons]
  simp only [sortB, Bool.and_eq_true, decide_eq_true_eq]
  rw [gP_]
  constructor
  ·rintro ⟨h1, h2⟩
   refine ⟨fun z hz => ?_, h2⟩
   rcases List.mem_cons.1 hz with rfl | hz
   ·exact h1
   ·have := (List.pairwise_cons.1 h2).1 z hz; omega
  ·rintro ⟨h1, h2⟩
   exact ⟨h1 b (by simp), h2⟩
theorem hD_ (fuel : Nat) : ∀ (xs pre : List Int), (pre.length + xs.length < fuel) → (pre.length + xs.length ≤ 1000000000) →
  forN (ce_ fuel) xs.length (pre.length : Int) (pre ++ xs) = some (.inl (xs.foldl (fun acc x => insR acc.reverse x []) pre))
 | [], pre, _, _ => by simp [forN]
 | x :: xs, pre, hf, hl => by
  simp only [List.length_cons] at hf hl
  obtain ⟨j, hj⟩ := hn_ x pre.reverse xs fuel (by simp; omega) (by simp; omega)
  rw [List.reverse_reverse, List.length_reverse] at hj
  have hi : insR pre.reverse x xs = insR pre.reverse x [] ++ xs := by
   have := og_ pre.reverse x [] xs
   simpa using this
  have hs : ce_ fuel (pre.length : Int) (pre ++ x :: xs) = some (.go (insR pre.reverse x [] ++ xs)) := by
   unfold ce_
   rw [hj, sb, hi]
  have hlen : (insR pre.reverse x []).length = pre.length + 1 := by rw [mz_]; simp
  simp only [List.length_cons, forN, hs, List.foldl_cons]
  have := hD_ fuel xs (insR pre.reverse x []) (by omega) (by omega)
  rw [hlen] at this
  rw [show ((pre.length : Int) + 1) = ((pre.length + 1 : Nat) : Int) by omega]
  exact this
theorem jc_ (xs : List Int) (h : xs.length ≤ 1000000000) : ed_ xs = some xs := by
 unfold ed_
 rw [iV_ xs h, sb]
theorem gM_ (xs : List Int) (fuel : Nat) (hf : xs.length < fuel) (hl : xs.length ≤ 1000000000) : cM_ fuel xs = some (ssort xs) := by
 unfold cM_
 rw [jc_ xs hl, sb, G_ (by omega) (by omega), sb]
 simp only [Int.toNat_natCast]
 have := hD_ fuel xs [] (by simpa using hf) (by simpa using hl)
 simp only [List.length_nil, List.nil_append, Int.ofNat_zero] at this
 rw [show (0 : Int) = ((0 : Nat) : Int) from rfl] at *
 rw [show forN (ce_ fuel) xs.length ((0 : Nat) : Int) xs = _ from this, sb]; rfl
theorem jY_ : ∀ {xs ys : List Int} {k : Nat}, xs.length = ys.length → (firstP (fun _ (p : Int × Int) => if p.1 != p.2 then some false else none) (xs.zip ys) k = if decide (xs = ys) then none else some false)
 | [], [], k, h => rfl
 | x :: xs, y :: ys, k, h => by
  simp only [List.zip_cons_cons, firstP]
  by_cases e : x = y
  ·subst e
   simp only [bne_self_eq_false, Bool.false_eq_true, if_false]
   rw [jY_ (by simpa using h)]
   simp
  ·simp [e]
 | [], y :: ys, k, h => by simp at h
 | x :: xs, [], k, h => by simp at h
theorem iv_ (xs ys : List Int) (hl : xs.length ≤ 1000000000) : em_ xs ys = some (decide (xs = ys)) := by
 unfold em_
 by_cases h : xs.length = ys.length
 ·rw [if_neg (by simp [h]), G_ (by omega) (by omega), sb]
  simp only [Int.toNat_natCast]
  have hz : xs.length = (xs.zip ys).length := by simp [h]
  rw [hz, eI_ (fun _ (p : Int × Int) => if p.1 != p.2 then some false else none) (xs.zip ys) (fun j x hj _ => by
   unfold fd_
   rw [List.getElem?_zip_eq_some] at hj
   rw [ct_, hj.1, sb, ct_, hj.2, sb]
   cases h' : (x.1 != x.2) <;> simp [lpP]), jY_ h, sb]
  by_cases e : xs = ys <;> simp [e, outP]
 ·rw [if_pos (by simp; omega)]
  rw [show decide (xs = ys) = false from by rw [decide_eq_false_iff_not]; rintro rfl; exact h rfl]
def ordL : List Int → List Int → Int
  | x :: xs, y :: ys => if x < y then -1 else if x > y then 1 else ordL xs ys
  | _, _ => 0
def ordP (ys : List Int) (k : Nat) (x : Int) : Option Int := match ys[k]? with
  | some y => if x < y then some (-1) else if x > y then some 1 else none
  | none => none
theorem hS_ (Y : List Int) : ∀ (xs ys : List Int) (k : Nat), ys = Y.drop k → xs.length = ys.length → (firstP (ordP Y) xs k).getD 0 = ordL xs ys
 | [], [], k, _, h => rfl
 | x :: xs, y :: ys, k, hy, h => by
  have h1 : Y[k]? = some y := by
   have h1 : (Y.drop k)[0]? = some y := by rw [← hy]; rfl
   rw [List.getElem?_drop] at h1
   simpa using h1
  have h2 : ys = Y.drop (k + 1) := by rw [← List.drop_drop, ← hy]; rfl
  simp only [firstP, ordL, ordP, h1]
  by_cases e : x < y
  ·simp [e]
  ·by_cases e2 : x > y
   ·simp [e, e2]
   ·simp only [e, e2, if_false]
    have := hS_ Y xs ys (k + 1) h2 (by simpa using h)
    exact this
 | [], y :: ys, k, _, h => by simp at h
 | x :: xs, [], k, _, h => by simp at h
theorem iG_ (xs ys : List Int) (h : xs.length = ys.length) : K_ xs ys = some (ordL xs ys) := by
 unfold K_
 rw [cU_ (ordP ys) xs (fun j x hj _ => by
  have hjl : j < ys.length := by rw [← h]; exact (List.getElem?_eq_some_iff.1 hj).1
  unfold aj_
  rw [if_neg (by rw [decide_eq_true_eq]; omega), fW_ _ _ hjl, sb, sn_, sb]
  simp only [ordP, List.getElem?_eq_getElem hjl]
  by_cases e : x < ys[j]
  ·simp [e, lpP]
  ·by_cases e2 : x > ys[j] <;> simp [e, e2, lpP]), sb]
 have := hS_ ys xs ys 0 (by simp) h
 cases hc : firstP (ordP ys) xs 0 with
 | some r => rw [hc] at this; simp only [outP]; rw [← this]; rfl
 | none => rw [hc] at this; simp only [outP]; rw [if_neg (by simp [h]), ← this]; rfl
theorem ma_ (xs ys : List Int) (h : xs.length = ys.length) (hx : ∀ x, x ∈ xs → 0 ≤ x ∧ x ≤ 1000000000) (hy : ∀ y, y ∈ ys → 0 ≤ y ∧ y ≤ 1000000000) : dX_ xs ys = some (ordL xs ys) := by
 unfold dX_
 rw [cU_ (ordP ys) xs (fun j x hj _ => by
  have hjl : j < ys.length := by rw [← h]; exact (List.getElem?_eq_some_iff.1 hj).1
  have h1 := hx x (List.mem_of_getElem? hj)
  have h2 := hy ys[j] (List.getElem_mem hjl)
  unfold ez_
  rw [fW_ _ _ hjl, sb]
  simp only [ordP, List.getElem?_eq_getElem hjl]
  by_cases e : x < ys[j]
  ·rw [if_pos (by simp; omega), sb, G_ (by omega) (by omega), sb]
   unfold gz_
   rw [if_neg (by simp; omega), if_pos (by simp; omega), sb]
   simp [e, lpP]
  ·by_cases e2 : x > ys[j]
   ·rw [if_pos (by simp; omega), sb, G_ (by omega) (by omega), sb]
    unfold gz_
    rw [if_pos (by simp; omega), sb]
    simp [e, e2, lpP]
   ·rw [if_neg (by simp; omega)]
    simp [e, e2, lpP]), sb]
 have := hS_ ys xs ys 0 (by simp) h
 cases hc : firstP (ordP ys) xs 0 with
 | some r => rw [hc] at this; simp only [outP]; rw [← this]; rfl
 | none => rw [hc] at this; simp only [outP]; rw [← this]; rfl
end

section
theorem gZ_ : ∀ {a b : List Int}, a.length = b.length → (ordL a b = 0 ↔ a = b)
 | [], [], _ => by simp [ordL]
 | x :: a, y :: b, h => by
  have ih := gZ_ (a := a) (b := b) (by simpa using h)
  unfold ordL
  by_cases h1 : x < y
  ·rw [if_pos h1]; constructor
   ·intro h; omega
   ·intro h; cases h; omega
  ·rw [if_neg h1]
   by_cases h2 : x > y
   ·rw [if_pos h2]; constructor
    ·intro h; omega
    ·intro h; cases h; omega
   ·rw [if_neg h2, ih]
    have : x = y := by omega
    subst this; simp
 | [], _ :: _, h => by simp at h
 | _ :: _, [], h => by simp at h
theorem hb_ : ∀ (a b : List Int), ordL b a = - ordL a b
 | [], [] => by simp [ordL]
 | [], _ :: _ => by simp [ordL]
 | _ :: _, [] => by simp [ordL]
 | x :: a, y :: b => by
  have ih := hb_ a b
  simp only [ordL]
  by_cases h1 : x < y
  ·have h2 : ¬ y < x := by omega
   simp [h1, h2]
  ·by_cases h2 : y < x
   ·simp [h1, h2]
   ·simp [h1, h2, ih]
theorem hA_ : ∀ {a b c : List Int}, a.length = b.length → b.length = c.length → ordL a b < 0 → ordL b c < 0 → ordL a c < 0
 | [], [], [], _, _, h, _ => by simp [ordL] at h
 | x :: a, y :: b, z :: c, h1, h2, h3, h4 => by
  have ih := hA_ (a := a) (b := b) (c := c) (by simpa using h1) (by simpa using h2)
  simp only [ordL] at h3 h4 ⊢
  by_cases e1 : x < y
  ·by_cases e2 : y < z
   ·rw [if_pos (by omega)]; decide
   ·rw [if_neg e2] at h4
    by_cases e3 : y > z
    ·rw [if_pos e3] at h4; omega
    ·rw [if_pos (by omega)]; decide
  ·rw [if_neg e1] at h3
   by_cases e2 : x > y
   ·rw [if_pos e2] at h3; omega
   ·rw [if_neg e2] at h3
    by_cases e3 : y < z
    ·rw [if_pos (by omega)]; decide
    ·rw [if_neg e3] at h4
     by_cases e4 : y > z
     ·rw [if_pos e4] at h4; omega
     ·rw [if_neg e4] at h4
      rw [if_neg (by omega), if_neg (by omega)]
      exact ih h3 h4
 | [], _ :: _, _, h, _, _, _ => by simp at h
 | _ :: _, [], _, h, _, _, _ => by simp at h
 | [], [], _ :: _, _, h, _, _ => by simp at h
 | _ :: _, _ :: _, [], _, h, _, _ => by simp at h
theorem qi_ {a b c : List Int} (h1 : a.length = b.length) (h2 : b.length = c.length) (h3 : ¬ ordL a b < 0) (h4 : ¬ ordL b c < 0) : ¬ ordL a c < 0 := fun h => by
 have e1 := hb_ a b
 have e2 := hb_ b c
 have e3 := hb_ a c
 by_cases q1 : ordL a b = 0
 ·have := (gZ_ h1).1 q1
  subst this
  exact h4 h
 ·by_cases q2 : ordL b c = 0
  ·have := (gZ_ h2).1 q2
   subst this
   exact h3 h
  ·have := hA_ (a := c) (b := b) (c := a) (by omega) (by omega) (by omega) (by omega)
   omega
def insS : List (List Int) → List Int → List (List Int)
  | [], x => [x]
  | y :: l, x => if ordL y x < 0 then y :: insS l x else if y = x then y :: l else x :: y :: l
def sxd (xs : List (List Int)) : List (List Int) := xs.foldl insS []
def sorS (l : List (List Int)) : Prop := l.Pairwise fun a b => ordL a b < 0
theorem hu_ {z x : List Int} : ∀ {l : List (List Int)}, z ∈ insS l x ↔ z = x ∨ z ∈ l
 | [] => by simp [insS]
 | y :: l => by
  unfold insS
  split
  ·rw [List.mem_cons, hu_, List.mem_cons]
   constructor
   ·rintro (h | h | h) <;> simp [h]
   ·rintro (h | h | h) <;> simp [h]
  ·split
   ·rename_i h; subst h
    simp
   ·simp
theorem nH_ {L : Nat} {x : List Int} (hx : x.length = L) : ∀ {l : List (List Int)}, (∀ z ∈ l, z.length = L) → sorS l → sorS (insS l x)
 | [], _, _ => by simp [insS, sorS]
 | y :: l, hl, h => by
  have hy := hl y (by simp)
  obtain ⟨h1, h2⟩ := List.pairwise_cons.1 h
  unfold insS
  split
  ·rename_i hlt
   refine List.pairwise_cons.2 ⟨fun z hz => ?_, nH_ hx (fun z hz => hl z (by simp [hz])) h2⟩
   rcases hu_.1 hz with rfl | hz
   ·exact hlt
   ·exact h1 z hz
  ·rename_i hge
   split
   ·exact h
   ·rename_i hne
    have hxy : ordL x y < 0 := by
     have e1 := hb_ y x
     have : ordL y x ≠ 0 := fun e => hne ((gZ_ (by omega)).1 e)
     omega
    refine List.pairwise_cons.2 ⟨fun z hz => ?_, h⟩
    rcases List.mem_cons.1 hz with rfl | hz
    ·exact hxy
    ·exact hA_ (by omega) (by have := hl z (by simp [hz]); omega) hxy (h1 z hz)
theorem kB_ {L : Nat} : ∀ (xs l : List (List Int)), (∀ z ∈ xs, z.length = L) → (∀ z ∈ l, z.length = L) → sorS l → sorS (xs.foldl insS l) ∧ ∀ z, z ∈ xs.foldl insS l ↔ z ∈ l ∨ z ∈ xs
 | [], l, _, _, h => ⟨h, fun z => by simp⟩
 | x :: xs, l, h1, h2, h3 => by
  have hx := h1 x (by simp)
  obtain ⟨g1, g2⟩ := kB_ xs (insS l x) (fun z hz => h1 z (by simp [hz])) (fun z hz => by
   rcases hu_.1 hz with rfl | hz
   ·exact hx
   ·exact h2 z hz) (nH_ hx h2 h3)
  refine ⟨g1, fun z => ?_⟩
  rw [List.foldl_cons, g2, hu_, List.mem_cons]
  constructor
  ·rintro ((h | h) | h) <;> simp [h]
  ·rintro (h | h | h) <;> simp [h]
theorem nT_ {L : Nat} {a b : List (List Int)} (ha : ∀ z ∈ a, z.length = L) (h1 : sorS a) (h2 : sorS b) (h : ∀ z, z ∈ a ↔ z ∈ b) : a = b := by
 have hn : ∀ {l : List (List Int)}, sorS l → l.Nodup := fun {l} hl => hl.imp fun {x y} hxy e => by
  subst e
  rw [(gZ_ rfl).2 rfl] at hxy; omega
 have hp : a.Perm b := (List.perm_ext_iff_of_nodup (hn h1) (hn h2)).2 h
 refine hp.eq_of_pairwise (le := fun x y => ordL x y < 0) (fun x y hx hy q1 q2 => ?_) h1 h2
 have := hb_ x y
 omega
def srtL (xs : List (List Int)) : Option (List (List Int)) :=
  if xs.length ≤ 1000000000 ∧ (xs.headD []).length ≤ 1000000000 ∧ (∀ x ∈ xs, x.length = (xs.headD []).length) then some (sxd xs) else none
theorem pb_ {xs : List (List Int)} {L : Nat} (h1 : xs.length ≤ 1000000000) (h2 : L ≤ 1000000000) (h3 : ∀ x ∈ xs, x.length = L) : srtL xs = some (sxd xs) := by
 unfold srtL
 cases xs with
 | nil => rw [if_pos (by simp)]
 | cons x xs =>
  have := h3 x (by simp)
  rw [if_pos ⟨h1, by show x.length ≤ _; omega, fun y hy => by show y.length = x.length; rw [h3 y hy, this]⟩]
end

section
open Go.RowKit
def cvU (a : Int) : Option Int := if 0 ≤ a ∧ a ≤ 9223372036854775807 then some a else none
theorem nP_ {a b : Int} (h : cvU a = some b) : b = a ∧ 0 ≤ a ∧ a ≤ 9223372036854775807 := by
 unfold cvU at h
 split at h
 ·rename_i hh; cases h; exact ⟨rfl, hh⟩
 ·cases h
section
variable {P : Program} {l : List (Nat × Value)} {w : World} {d : Option Nat} {ty src dst : TypeId} {ps : String} {af : Array Edge} {g : Option (Nat × Bool)} {x y : Operand} {a b c : Int}
theorem nS_ (h : cvU a = some b) (hx : ev l x = some (.int .i64 a)) (hs : P.underlying src = some (.int .i64)) (hd : P.underlying dst = some (.int .u64)) :
  ∀ ρ, Agr ρ l → (execOp ρ ⟨d, .convert src dst x, ty, ps, af, g⟩).run P w = .ok (.value (.int .u64 b)) w := by
 obtain ⟨rfl, h1, h2⟩ := nP_ h
 intro ρ hρ
 have e : IntKind.u64.wrap b = b := by simp [IntKind.wrap, IntKind.bits, IntKind.signed]; omega
 simp only [execOp, hρ x _ hx, convert, Sem.run_bind, run_underlying hs, run_underlying hd, Result.andThen_ok, Conv.intToInt, Sem.run_pure, e]
theorem nL_ (h : cvU a = some b) (hx : ev l x = some (.int .u64 a)) (hs : P.underlying src = some (.int .u64)) (hd : P.underlying dst = some (.int .i64)) :
  ∀ ρ, Agr ρ l → (execOp ρ ⟨d, .convert src dst x, ty, ps, af, g⟩).run P w = .ok (.value (.int .i64 b)) w := by
 obtain ⟨rfl, h1, h2⟩ := nP_ h
 intro ρ hρ
 have e : IntKind.i64.wrap b = b := by rw [IntKind.wrap_i64]; omega
 simp only [execOp, hρ x _ hx, convert, Sem.run_bind, run_underlying hs, run_underlying hd, Result.andThen_ok, Conv.intToInt, Sem.run_pure, e]
theorem pa_ {t t' : TypeId} (hx : ev l x = some (.int .u64 a)) (hy : ev l y = some (.int .u64 b)) (h : shr a b = some c) :
  ∀ ρ, Agr ρ l → (execOp ρ ⟨d, .binOp .shr t x y t', ty, ps, af, g⟩).run P w = .ok (.value (.int .u64 c)) w := by
 unfold shr at h
 split at h
 ·cases h
 ·rename_i h0
  cases h
  intro ρ hρ
  have hg : (eqGuard .shr t x y (.int .u64 a) (.int .u64 b)).run P w = .ok () w := rfl
  have hv : (binOp .shr t (.int .u64 a) (.int .u64 b)).run P w = .ok (.int .u64 (a.fdiv (2 ^ (min b.toNat 64)))) w := by
   simp only [binOp, Op.shift, if_neg h0]; rfl
  simp only [execOp, hρ x _ hx, hρ y _ hy, Sem.run_bind, hg, Result.andThen_ok, hv]
  rfl
end
def isnil : Value → Bool
  | .slice none _ _ => true
  | _ => false
theorem oN_ {α : Type} [Rp α] {w : World} {v : Value} {xs : List α} (h : RdL zt w v xs) (hn : isnil v = true) : xs = [] := by
 obtain ⟨a, c, rfl, _, _, h4⟩ := h
 cases a with
 | some a => simp [isnil] at hn
 | none =>
  cases xs with
  | nil => rfl
  | cons x xs =>
   obtain ⟨b, off, cs, e, _⟩ := h4 0 x rfl
   cases e
section
variable {P : Program} {l : List (Nat × Value)} {w : World} {d : Option Nat} {ty : TypeId} {ps : String} {af : Array Edge} {g : Option (Nat × Bool)} {x y : Operand} {v : Value} {α : Type} [Rp α] {xs : List α}
theorem pR_ {t t' e : TypeId} (h : RdL zt w v xs) (hx : ev l x = some v) (hy : ev l y = some (.slice none 0 0)) (ht : P.underlying t = some (.slice e)) :
  ∀ ρ, Agr ρ l → (execOp ρ ⟨d, .binOp .eql t x y t', ty, ps, af, g⟩).run P w = .ok (.value (.bool (isnil v))) w := by
 obtain ⟨a, c, rfl, _⟩ := h
 intro ρ hρ
 have hg : (eqGuard .eql t x y (.slice a xs.length c) (.slice none 0 0)).run P w = .ok () w := rfl
 have hv : (binOp .eql t (.slice a xs.length c) (.slice none 0 0)).run P w = .ok (.bool (isnil (.slice a xs.length c))) w := by
  have key : ∀ n, (Op.equalIn (n + 1) t (.slice a xs.length c) (.slice none 0 0)).run P w = .ok (isnil (.slice a xs.length c)) w := fun n => by
   cases a <;> simp [Op.equalIn, Sem.run_bind, run_underlying ht, isnil]
  have k2 := key 9999
  have e : binOp .eql t (.slice a xs.length c) (.slice none 0 0) = (Op.equalIn (9999 + 1) t (.slice a xs.length c) (.slice none 0 0) >>= fun b => pure (Value.bool b)) := rfl
  rw [e, Sem.run_bind, k2]; rfl
 simp only [execOp, hρ x _ hx, hρ y _ hy, Sem.run_bind, hg, Result.andThen_ok, hv]
 rfl
end
section
variable {P : Program} {n : Nat} {l : List (Nat × Value)} {w : World} {d : Nat} {ty : TypeId} {ps : String} {af : Array Edge} {g : Option (Nat × Bool)} {R : Value → World → Prop} {α : Type} [Rp α] {o : Tg}
end
end

section
open Go.RowKit Go.Sort Go.Shelf
def Sq (o : Tg) (w : World) (v u : Value) : Prop :=
  ∃ b, v = .func (.func 200) #[] #[.pointer (some ⟨b, 0, none⟩)] ∧ o b = 0 ∧ b < w.heap.size ∧ w.cell? ⟨b, 0, none⟩ = some u
section
variable {o o' : Tg} {w w' : World} {v u : Value} {t k : Nat}
theorem Sq.mv (h : Sq o w v u) (hs : w.heap.size ≤ w'.heap.size) (hb : ∀ b, b < w.heap.size → o b = 0 → w'.heap[b]? = w.heap[b]? ∧ o' b = 0) : Sq o' w' v u := by
 obtain ⟨b, rfl, h1, h2, h3⟩ := h
 refine ⟨b, rfl, (hb b h2 h1).2, Nat.lt_of_lt_of_le h2 hs, ?_⟩
 rw [← h3]
 simp only [World.cell?, (hb b h2 h1).1]
theorem Sq.stp (h : Sq o w v u) (s : Stp t o w o' w') (ht : t ≠ 0 := by decide) : Sq o' w' v u :=
 h.mv s.size fun b hb h0 => ⟨s.block b hb (by rw [h0]; exact fun e => ht e.symm), by rw [s.own b hb]; exact h0⟩
theorem Sq.frz (h : Sq o w v u) (j : Nat) : Sq (Go.Proofs.YtdbbeldgdgonfaaGreat.frz j o) w v u := h.mv (Nat.le_refl _) fun b _ hb => ⟨rfl, by unfold Go.Proofs.YtdbbeldgdgonfaaGreat.frz; rw [hb]; split <;> rfl⟩
theorem Sq.rtg (h : Sq o w v u) (k k' : Nat) (hk : k ≠ 0) : Sq (Go.Proofs.YtdbbeldgdgonfaaGreat.rtg k k' o) w v u := h.mv (Nat.le_refl _) fun b _ hb => ⟨rfl, by
 unfold Go.Proofs.YtdbbeldgdgonfaaGreat.rtg
 rw [hb, if_neg (Ne.symm hk)]
 split <;> rfl⟩
theorem Sq.rc (h : Sq o w v u) (r : Rtc t o o') (ht : t ≠ 0) : Sq o' w v u := h.mv (Nat.le_refl _) fun b _ hb => ⟨rfl, r.zero ht hb⟩
end
theorem oC_ (a : Option Addr) (m c : Nat) (u : Value) (hu : u = .slice a m c) (w : World) :
  Calls Tryz.prog 186 #[u] w fun e w' => e = .returned (.func (.func 200) #[] #[.pointer (some ⟨w.heap.size, 0, none⟩)]) ∧ w' = w.alloc (.cells #[u] 41) := by
 subst hu
 have hmf : ∀ (fn : Fn) (first cap : Array Value) (w : World), (Instr.makeFunc fn first cap).run Tryz.prog w = .ok (.func fn first cap) w := fun _ _ _ _ => rfl
 go_enter Tryz.func186, Tryz.ntmps186
 go_wp2
 go_ret
 exact ⟨rfl, rfl⟩
def qj_ (oo : Tg) (w : World) (u : Value) : Ending → World → Prop := fun e w' => ∃ (v : Value) (o' : Tg), e = .returned v ∧ Sq o' w' v u ∧ Keeps w w' ∧ ∀ b, b < w.heap.size → o' b = oo b
theorem oT_ (w : World) (oo : Tg) (u : Value) (xs : List Int) (hu : RdL zt w u xs) : Calls Tryz.prog 186 #[u] w (qj_ oo w u) := by
 obtain ⟨a, c, e, _⟩ := hu
 refine (oC_ a _ c u e w).mono ?_
 rintro e w' ⟨rfl, rfl⟩
 refine ⟨_, fun b => if b < w.heap.size then oo b else 0, rfl, ⟨_, rfl, if_neg (by omega), by simp, ?_⟩, (Keeps.refl w).alloc _, fun b hb => if_pos hb⟩
 rw [World.cell?_alloc_at _ _ _ _ rfl]; rfl
set_option maxRecDepth 100000 in
set_option maxHeartbeats 2000000 in
theorem qP_ (l b : Nat) (u : Value) (xs : List Int) (w0 : World) (hb : b < w0.heap.size) (hc : w0.cell? ⟨b, 0, none⟩ = some u) (hu : RdL zt w0 u xs) (n : Nat) (J : List Int → World → Prop)
  (hJ : ∀ pre W, J pre W → Below w0.heap.size w0 W)
  (hY : ∀ pre x W, J pre W → pre.length < xs.length → YieldAt Fence.wide (n - 1) Tryz.prog l #[.int .i64 x] W fun e W' => e = .returned (.bool true) ∧ J (pre ++ [x]) W' ∧ KeepsWalks W W')
  (W : World) (h0 : J [] W) :
  CallsIn Fence.wide n Tryz.prog 200 #[.func (.yield l) #[] #[], .pointer (some ⟨b, 0, none⟩)] W fun e W' => (∃ v, e = .returned v) ∧ J xs W' := by
 obtain ⟨a, cap, rfl, h1, h2, h4⟩ := hu
 have hcell : ∀ pre W', J pre W' → W'.cell? ⟨b, 0, none⟩ = some (.slice a xs.length cap) := fun pre W' h => ((hJ pre W' h).cell (p := ⟨b, 0, none⟩) hb).trans hc
 have hat : ∀ (k : Nat) x, xs[k]? = some x → ∃ g off, a = some ⟨g, off, none⟩ ∧ ∀ pre W', J pre W' → W'.cell? ⟨g, off + k, none⟩ = some (.int .i64 x) := fun k x hx => by
  obtain ⟨g, off, cs, ha, _, hg, hcs, hr⟩ := h4 k x hx
  have hr' : cs = [.int .i64 x] := hr
  subst hr'
  refine ⟨g, off, ha, fun pre W' h => ((hJ pre W' h).cell (p := ⟨g, off + k, none⟩) hg).trans ?_⟩
  have := hcs 0 (.int .i64 x) rfl
  simpa [Rp.sz] using this
 have hc0 := hcell [] W h0
 have H1 := Lib.hid hcell
 have H2 := Lib.hid hat
 have HY := Lib.hid hY
 have HJ := Lib.hid hJ
 clear hcell hat hY hJ h4 hc
 refine callsIn_of_wp Tryz.func200 rfl trivial ?_ rfl
 simp only [Tryz.ntmps200, List.size_toArray, List.length_cons, List.length_nil, Nat.reduceAdd, Nat.reduceSub, Array.replicate_succ, Array.replicate_zero, List.push_toArray, List.append_toArray, List.nil_append, List.cons_append]
 gi_wp2
 gi_loopw [7] (fun p wr => ∃ k : Nat, p = .int .i64 k ∧ k ≤ xs.length ∧ J (xs.take k) wr) (fun p wr => xs.length - (intOf p).toNat)
 case atStart =>
  exact ⟨0, rfl, Nat.zero_le _, h0⟩
 case round =>
  obtain ⟨k, rfl, hk, hJs⟩ := hrel
  by_cases hlt : k < xs.length
  ·have hw : wrap64 ((k : Int) + 1) = (k : Int) + 1 := by have : cap ≤ 9223372036854775807 := h2; unfold wrap64; omega
   obtain ⟨g, off, rfl, hat'⟩ := H2.out k _ (List.getElem?_eq_getElem hlt)
   have hck := hat' _ _ hJs
   generalize hx : xs[k] = x at hck
   obtain ⟨fn, tmps, assign, body, hy, hR⟩ := HY.out (xs.take k) x wr hJs (by simp; omega)
   gi_wp2
   refine ⟨fun h => (by cases h), hR.mono ?_⟩
   rintro e W3 ⟨rfl, hJ3, hk3⟩
   gi_wp2
   go_roundw
   case rel =>
    refine ⟨k + 1, by rw [hw]; simp, by omega, ?_⟩
    have : xs.take (k + 1) = xs.take k ++ [x] := by rw [List.take_add_one, List.getElem?_eq_getElem hlt, hx]; rfl
    rw [this]; exact hJ3
   case measure => rw [hw]; simp only [intOf]; omega
  ·have : k = xs.length := by omega
   subst this
   gi_wp2
   go_end0
   rw [List.take_length] at hJs
   exact ⟨⟨_, rfl⟩, hJs⟩
set_option maxRecDepth 100000 in
set_option maxHeartbeats 2000000 in
theorem appendVals (b : Nat) (u : Value) (xs : List Int) (hl : xs.length ≤ 1000000000) (w : World) (hb : b < w.heap.size) (hc : w.cell? ⟨b, 0, none⟩ = some u) (hu : RdL zt w u xs) :
  Calls Tryz.prog 216 #[.slice none 0 0, .func (.func 200) #[] #[.pointer (some ⟨b, 0, none⟩)]] w fun e w' =>
   ∃ v, e = .returned v ∧ w'.ownsRow w.heap.size 3 1 v xs.length (xs.map (Value.int .i64)) ∧ Below w.heap.size w w' := by
 refine (callsIn_wide (n := 9)).1 ?_
 refine callsIn_of_wp_marks Tryz.func216 rfl trivial ?_ rfl
 simp only [Tryz.ntmps216, List.size_toArray, List.length_cons, List.length_nil, Nat.reduceAdd, Nat.reduceSub, Array.replicate_succ, Array.replicate_zero, List.push_toArray, List.append_toArray, List.nil_append, List.cons_append]
 gi_wp2
 refine wpIn_rangeFunc ?_
 intro fn hfn
 generalize hsv : Value.func (.func 200) #[] #[.pointer (some ⟨b, 0, none⟩)] = sv
 -- the box of s, the record of what is put off, the loop's record: three new blocks
 obtain ⟨W1, hW1⟩ : ∃ W1, ((w.alloc (.cells #[.slice none 0 0] 41)).alloc (.deferred (some []))).alloc (.loop (AnyZI.apRec Tryz.laysAp_ren fn sv w.heap.size (w.heap.size + 1) .ready none)) = W1 := ⟨_, rfl⟩
 have n0 : W1.heap[w.heap.size]? = some (.cells #[.slice none 0 0] 41 (0, 0)) := by
  rw [← hW1]
  exact (Below.heap_alloc _ _ _ (by simp; omega)).trans ((Below.heap_alloc _ _ _ (by simp)).trans (World.alloc_heap_new w _))
 have n1 : W1.heap[w.heap.size + 1]? = some (.deferred (some [])) := by
  rw [← hW1]
  have := World.alloc_heap_new (w.alloc (.cells #[.slice none 0 0] 41)) (.deferred (some []))
  rw [World.size_alloc] at this
  exact (Below.heap_alloc _ _ _ (by simp)).trans this
 have n2 : W1.heap[w.heap.size + 2]? = some (.loop (AnyZI.apRec Tryz.laysAp_ren fn sv w.heap.size (w.heap.size + 1) .ready none)) := by
  rw [← hW1]
  have := World.alloc_heap_new ((w.alloc (.cells #[.slice none 0 0] 41)).alloc (.deferred (some []))) (.loop (AnyZI.apRec Tryz.laysAp_ren fn sv w.heap.size (w.heap.size + 1) .ready none))
  rw [World.size_alloc, World.size_alloc] at this
  exact this
 have hb1 : Below w.heap.size w W1 := by
  rw [← hW1]
  exact (((Below.refl _ w).alloc (Nat.le_refl _) _).alloc (by simp) _).alloc (by simp; omega) _
 have hAt : AnyZI.ApAt Tryz.laysAp_ren w fn sv w.heap.size (w.heap.size + 2) (w.heap.size + 1) [] W1 := ⟨⟨_, n0, ⟨rfl, .inl ⟨rfl, rfl⟩⟩, by simp⟩, n2, n1, hb1⟩
 refine ⟨w.heap.size + 2, [{ target := .collected (w.heap.size + 1), args := #[] }], W1, { target := .fn (.func 200) #[.pointer (some ⟨b, 0, none⟩)], args := #[.func (.yield (w.heap.size + 2)) #[] #[]] }, W1, 200,
  #[.func (.yield (w.heap.size + 2)) #[] #[]] ++ #[.pointer (some ⟨b, 0, none⟩)], W1, ?_, ?_, ?_, ?_, fun h => (by cases h), ?_⟩
 ·rw [← hW1, ← hsv]; refine (run_enterLoop_outer _ _ _ _ _).trans ?_; rw [World.size_alloc]; rfl
 ·rw [← hsv]; simp [resolve, go_sem]
 ·intro f' hf'; trivial
 ·simp [invoke, go_sem, enters_of Tryz.func200 (by kernel_rfl) rfl]
 ·refine (qP_ (w.heap.size + 2) b u xs w hb hc hu _ (AnyZI.ApAt Tryz.laysAp_ren w fn sv w.heap.size (w.heap.size + 2) (w.heap.size + 1)) (fun pre W h => h.below)
   (fun pre x W h hlen => AnyZI.apYield Tryz.laysAp Fence.wide _ w fn hfn sv w.heap.size (w.heap.size + 2) (w.heap.size + 1) (by omega) (by omega) (by omega) (Nat.le_refl _) (by omega) 1000000000 (by decide) (by decide) pre x W h (by omega)) W1 hAt).mono ?_
  rintro e W2 ⟨⟨v0, rfl⟩, h2⟩
  obtain ⟨v, hv, hrow, hnil⟩ := h2.box
  have hend := run_endLoop (P := Tryz.prog) h2.L (by simp [AnyZI.apRec])
  obtain ⟨W3, hW3⟩ : ∃ W3, W2.putObj (w.heap.size + 2) (.loop { AnyZI.apRec Tryz.laysAp_ren fn sv w.heap.size (w.heap.size + 1) .ready none with state := .exhausted }) = W3 := ⟨_, rfl⟩
  rw [hW3] at hend
  have hg3 : W2.grownBy W3 (some (w.heap.size + 2)) := by rw [← hW3]; exact grownBy_putObj_a _ _ _
  have hv3 : W3.heap[w.heap.size]? = some (.cells #[v] 41 (0, 0)) := by rw [← hW3]; exact (World.putObj_heap_other (by omega)).trans hv
  have hK3 : W3.heap[w.heap.size + 1]? = some (.deferred (some [])) := by rw [← hW3]; exact (World.putObj_heap_other (by omega)).trans h2.K
  have hrow3 := hrow.kept hg3 (ownsRow_ne_a hrow h2.L (fun cur e => by cases e))
  have hb3 : Below w.heap.size w W3 := h2.below.grown hg3 h2.below.size (fun k e => by cases e; omega)
  obtain ⟨hc3, hf3⟩ := cell_of_box_a hv3
  clear hW3
  refine ⟨none, W3, hend, ?_⟩
  gi_wp2
  refine ⟨by simp, .inl ⟨_, _, rfl, run_takeDeferred hK3, ?_⟩⟩
  exact ⟨_, results_tmp rfl _ _ _, v, rfl, hrow3.kept (grownBy_putObj_a _ _ _) (ownsRow_ne_a hrow3 hK3 (fun cur e => by cases e)), hb3.grown (grownBy_putObj_a _ _ _) hb3.size (fun k e => by cases e; omega)⟩
set_option maxRecDepth 100000 in
theorem collectVals (b : Nat) (u : Value) (xs : List Int) (hl : xs.length ≤ 1000000000) (w : World) (hb : b < w.heap.size) (hc : w.cell? ⟨b, 0, none⟩ = some u) (hu : RdL zt w u xs) :
  Calls Tryz.prog 199 #[.func (.func 200) #[] #[.pointer (some ⟨b, 0, none⟩)]] w fun e w' =>
   ∃ v, e = .returned v ∧ w'.ownsRow w.heap.size 3 1 v xs.length (xs.map (Value.int .i64)) ∧ Below w.heap.size w w' := by
 have hc1 := appendVals b u xs hl w hb hc hu
 go_enter Tryz.func199, Tryz.ntmps199
 go_wp2_with (go_at_call 216; refine hc1.mono ?_; rintro e w' ⟨v, rfl, hrow, hbl⟩)
 go_ret
 exact ⟨v, rfl, hrow, hbl⟩
theorem nD_ {w w' : World} {v : Value} {xs : List Int} (oo : Tg) (t : Nat) (h : w'.ownsRow w.heap.size 3 1 v xs.length (xs.map (Value.int .i64))) (hb : Below w.heap.size w w') :
  ∃ o' : Tg, Ow w.heap.size 3 t o' w' v xs ∧ Keeps w w' ∧ ∀ b, b < w.heap.size → o' b = oo b := by
 refine ⟨fun b => if b < w.heap.size then oo b else t, mT_ (fun g hg => if_neg ?_) h, ?_, fun b hb => if_pos hb⟩
 ·have := (World.ownsRow.lt h g hg).1; omega
 ·exact hb
def lm_ (oo : Tg) (t : Nat) (w : World) (r : List Int) : Ending → World → Prop := fun e w' => ∃ (v0 : Value) (o' : Tg), e = .returned v0 ∧ Ow w.heap.size 3 t o' w' v0 r ∧ Keeps w w' ∧ ∀ b, b < w.heap.size → o' b = oo b
theorem ol_ (w : World) (oo : Tg) (t : Nat) (v u : Value) (o : Tg) (hs : Sq o w v u) (xs : List Int) (g : RdL zt w u xs) (r : List Int) (hF : cat [] xs = some r) :
  Calls Tryz.prog 199 #[v] w (lm_ oo t w r) := by
 obtain ⟨hl, hr⟩ := nq_ hF
 rw [List.nil_append] at hr
 subst hr
 obtain ⟨b, rfl, _, hb, hc⟩ := hs
 refine (collectVals b u r (by simpa using hl) w hb hc g).mono ?_
 rintro e w' ⟨v, rfl, hrow, hbl⟩
 obtain ⟨o', h1, h2, h3⟩ := nD_ oo t hrow hbl
 exact ⟨v, o', rfl, h1, h2, h3⟩
set_option maxRecDepth 100000 in
theorem qh_ (w : World) (oo : Tg) (t : Nat) (v u : Value) (o : Tg) (hs : Sq o w v u) (xs : List Int) (g : RdL zt w u xs) (r : List Int) (hF : srtO xs = some r) :
  Calls Tryz.prog 185 #[v] w (lm_ oo t w r) := by
 have hl := (lM_ hF).1
 have hC := ol_ w (fun _ => 1) 2 v u o hs xs g xs (by unfold cat; rw [if_pos (by simpa using hl)]; rfl)
 have hC1 : Calls Tryz.prog 199 #[v] w fun e w' => ∃ v1, e = .returned v1 ∧ Calls Tryz.prog 141 #[v1] w' fun e2 w2 => e2 = .returned (.tuple #[]) ∧ w2.ownsRow w.heap.size 3 1 v1 r.length (r.map (Value.int .i64)) ∧ Keeps w w2 := by
  refine hC.mono ?_
  rintro e w1 ⟨v1, o1, rfl, h1, hk, ho⟩
  refine ⟨v1, rfl, (ko_ h1 hF).mono ?_⟩
  rintro e2 w2 ⟨rfl, h3, hs⟩
  obtain ⟨css, c1, c2, c3, c4⟩ := h3
  rw [le_ c1 (fun i cs x a b => c4 i cs x a b)] at c2
  refine ⟨rfl, c2, ⟨hs.os.trans hk.os, hs.tape.trans hk.tape, hs.output.trans hk.output, Nat.le_trans hk.size hs.size, fun b hb => ?_⟩⟩
  exact (hs.block b (Nat.lt_of_lt_of_le hb hk.size) (by rw [ho b hb]; show (1 : Nat) ≠ 2; decide)).trans (hk.block b hb)
 have HC := Lib.hid hC1
 clear hC hC1 g hs hF hl
 refine Calls.mono (R := fun e w' => ∃ v0, e = .returned v0 ∧ w'.ownsRow w.heap.size 3 1 v0 r.length (r.map (Value.int .i64)) ∧ Keeps w w') ?_ ?_
 ·go_enter Tryz.func185, Tryz.ntmps185
  go_wp2_with (go_at_call 199; refine (HC.out).mono ?_; rintro e w1 ⟨v1, rfl, hS⟩)
  go_wp2_with (go_at_call 141; refine hS.mono ?_; rintro e w2 ⟨rfl, hrow, hk⟩)
  go_ret
  exact ⟨_, rfl, hrow, hk⟩
 ·rintro e w' ⟨v0, rfl, hrow, hk⟩
  obtain ⟨o', h1, h2, h3⟩ := nD_ oo t hrow hk
  exact ⟨v0, o', rfl, h1, h2, h3⟩
end

end Go.Proofs.YtdbbeldgdgonfaaGreat
