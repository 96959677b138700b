/- Part 27 of what this claim rests on (Help, Mat, Open, Lzp, Elj, LeastRoundsLaw, OpG, OpP2), packed by pack.py. -/
import Derived.BigQuiet
import Derived.Outline
import Derived.OpenShut
import Derived.ShutString
import Derived.ChangeOld
import Derived.Deep.Matrix
import Derived.Lib.SmallJoins
import Derived.Test.YtdbbeldgdgonfaaGreatP01
import Derived.Test.YtdbbeldgdgonfaaGreatP03
import Derived.Test.YtdbbeldgdgonfaaGreatP04
import Derived.Test.YtdbbeldgdgonfaaGreatP21
import Derived.Test.YtdbbeldgdgonfaaGreatP23
import Derived.Test.YtdbbeldgdgonfaaGreatP26
namespace Go.Proofs.YtdbbeldgdgonfaaGreat
set_option linter.unusedSimpArgs false
set_option linter.unusedVariables false

section
open Go.RowKit
theorem qo_ (p q : List Int) (x y : Int) : ((p ++ x :: q).map (Value.int .i64)).set p.length (.int .i64 y) = (p ++ y :: q).map (Value.int .i64) := by
  simp [List.set_append]

theorem Own.form {B : Nat} {w : World} {v : Value} {l : List Int} (h : Own B w v l) (hn : 0 < l.length) :
    ∃ g cap, v = .slice (some ⟨g, 0, none⟩) l.length cap ∧ ∀ i, i < l.length → w.cell? ⟨g, i, none⟩ = some (.int .i64 (l.getD i 0)) ∧ w.frozen? ⟨g, i, none⟩ = false := by
  obtain ⟨g, cap, rfl, _, _⟩ := World.ownsRow.form h hn
  refine ⟨g, cap, rfl, fun i hi => ⟨?_, World.ownsRow.frozenAt h i⟩⟩
  rw [World.ownsRow.cellAt h i (by omega)]
  simp [hi]

theorem Own.cellAt {B : Nat} {w : World} {g c : Nat} {l : List Int} (h : Own B w (.slice (some ⟨g, 0, none⟩) l.length c) l) (i : Nat) (hi : i < l.length) : w.cell? ⟨g, i, none⟩ = some (.int .i64 (l.getD i 0)) := by
  rw [World.ownsRow.cellAt h i (by omega)]
  simp [hi]

theorem Own.set {B : Nat} {w : World} {g cap n : Nat} {p q : List Int} {x y : Int} (h : Own B w (.slice (some ⟨g, 0, none⟩) n cap) (p ++ x :: q)) (j : Nat) (hj : j = p.length) :
    Own B (w.setCell ⟨g, j, none⟩ (.int .i64 y)) (.slice (some ⟨g, 0, none⟩) n cap) (p ++ y :: q) ∧ w.grownBy (w.setCell ⟨g, j, none⟩ (.int .i64 y)) (some g) := by
  subst hj
  have hn : n = (p ++ x :: q).length := by
    obtain ⟨a, c, h1, _⟩ := h.len
    simp at h1
    simp [h1]
  subst hn
  obtain ⟨h1, h2⟩ := World.ownsRow.stored h p.length (.int .i64 y)
  rw [qo_] at h1
  refine ⟨?_, h2⟩
  unfold Own
  simpa using h1
end

section
open Go.RowKit
def IntRows (w : World) (v : Value) (LL : List (List Int)) : Prop := ∃ vs : List Value, Sl w v vs ∧ vs.length = LL.length ∧ ∀ i, i < vs.length → Ints w (vs.getD i undef) (LL.getD i [])
theorem IntRows.keep {w w' : World} {v : Value} {LL : List (List Int)} (h : IntRows w v LL) (k : Keeps w w') : IntRows w' v LL := by
  obtain ⟨vs, h1, h2, h3⟩ := h
  exact ⟨vs, h1.keep k, h2, fun i hi => (h3 i hi).keep k⟩
theorem IntRows.form {w : World} {v : Value} {LL : List (List Int)} (h : IntRows w v LL) :
    ∃ a c, v = .slice a LL.length c ∧ LL.length ≤ 9223372036854775807 ∧
      ∀ i, i < LL.length → ∃ b o u, a = some ⟨b, o, none⟩ ∧ w.cell? ⟨b, o + i, none⟩ = some u ∧ Ints w u (LL.getD i []) := by
  obtain ⟨vs, h1, h2, h3⟩ := h
  obtain ⟨a, c, rfl, h4, h5⟩ := h1.form
  rw [h2] at h4
  refine ⟨a, c, by rw [h2], h4, fun i hi => ?_⟩
  obtain ⟨b, o, rfl, hc⟩ := h5 i (by omega)
  exact ⟨b, o, _, rfl, hc, h3 i (by omega)⟩

structure MatIn (B : Nat) (w : World) (v : Value) (vs : List Value) (LL : List (List Int)) : Prop where
  row : w.ownsRow B 41 1 v LL.length vs
  own : ∀ i, i < LL.length → Own B w (vs.getD i undef) (LL.getD i [])
  apart : ∀ i j, i < LL.length → j < LL.length → i ≠ j → Apart (vs.getD i undef) (vs.getD j undef)

section
variable {B : Nat} {w w' : World} {v : Value} {vs : List Value} {LL : List (List Int)}
theorem MatIn.len (h : MatIn B w v vs LL) : vs.length = LL.length := by simpa using h.row.1
theorem MatIn.keep (h : MatIn B w v vs LL) (k : Keeps w w') : MatIn B w' v vs LL := ⟨in_ h.row k, fun i hi => (h.own i hi).keep k, h.apart⟩
theorem MatIn.kept {r : Option Nat} (h : MatIn B w v vs LL) (hg : w.grownBy w' r) (hv : v.ownBlock = none ∨ v.ownBlock ≠ r) (hvs : ∀ i, i < LL.length → (vs.getD i undef).ownBlock = none ∨ (vs.getD i undef).ownBlock ≠ r) : MatIn B w' v vs LL :=
  ⟨World.ownsRow.kept h.row hg hv, fun i hi => World.ownsRow.kept (h.own i hi) hg (hvs i hi), h.apart⟩
theorem MatIn.rows (h : MatIn B w v vs LL) : IntRows w v LL := by
  have hl := h.len
  refine ⟨vs, pp_ (B := B) (e := 41) (by rw [hl]; exact h.row), hl, fun i hi => (h.own i (by omega)).ints⟩
theorem MatIn.form (h : MatIn B w v vs LL) (hn : 0 < LL.length) :
    ∃ g cap, v = .slice (some ⟨g, 0, none⟩) LL.length cap ∧ ∀ i, i < LL.length → w.cell? ⟨g, i, none⟩ = some (vs.getD i undef) ∧ w.frozen? ⟨g, i, none⟩ = false := by
  obtain ⟨g, cap, rfl, _, _⟩ := World.ownsRow.form h.row hn
  refine ⟨g, cap, rfl, fun i hi => ⟨?_, World.ownsRow.frozenAt h.row i⟩⟩
  rw [World.ownsRow.cellAt h.row i (by omega)]
  have := h.len
  simp [show i < vs.length by omega]
end

theorem getD_set_ne {α : Type} (l : List α) (i j : Nat) (x d : α) (h : j ≠ i) : (l.set i x).getD j d = l.getD j d := by
  simp [List.getElem?_set, Ne.symm h]
end

section
open Go.ChangeShapes Go.WideShapes Go.ChangeAt Go.RowKit
set_option maxRecDepth 100000
def I64 (n : Int) : Prop := -9223372036854775808 ≤ n ∧ n ≤ 9223372036854775807
theorem oW_ {n : Int} (h : (Lit.int .i64 n).wf = true) : I64 n := by
  have := bounds_i64 h
  exact this

variable {H : Type} {enc : TypeId × Value → H} {W : World}

theorem openInt {base : Nat} {v : Value} {d : DataW H} {p : List MemPlace} (hval : Value.okWide Tryz.prog W .any base 3 v)
    (h : DataW.Trod enc Tryz.prog W 0 (fun _ => true) true 3 v d p) : ∃ n : Int, v = .int .i64 n ∧ I64 n := by
  obtain ⟨n, hv, _, _, hw⟩ := open_int Tryz.underlying3 hval h
  exact ⟨n, hv, oW_ hw⟩
end

section
theorem nD_ {σ τ ρ : Type} {f : σ → Option (Lp σ τ ρ)} (R : Nat → σ) (n : Nat) (t : τ) (hgo : ∀ j, j < n → f (R j) = some (.go (R (j + 1)))) (hout : f (R n) = some (.out t)) (fuel : Nat) (hf : n < fuel) : loopF f fuel (R 0) = some (.inl t) := by
  suffices h : ∀ (d j fuel : Nat), j + d = n → d < fuel → loopF f fuel (R j) = some (.inl t) by exact h n 0 fuel (by omega) hf
  intro d
  induction d with
  | zero =>
    intro j fuel hj hf
    obtain ⟨m, rfl⟩ : ∃ m, fuel = m + 1 := ⟨fuel - 1, by omega⟩
    have : j = n := by omega
    subst this
    simp only [loopF, hout]
  | succ d ih =>
    intro j fuel hj hf
    obtain ⟨m, rfl⟩ : ∃ m, fuel = m + 1 := ⟨fuel - 1, by omega⟩
    simp only [loopF, hgo j (by omega)]
    exact ih (j + 1) m (by omega) (by omega)
theorem RdL.lenz {α : Type} [Rp α] {o : Tg} {w : World} {v : Value} {xs : List α} (h : RdL o w v xs) : xs.length ≤ 9223372036854775807 := by
  obtain ⟨a, c, rfl, h1, h2, _⟩ := h
  exact Nat.le_trans h1 (Nat.le_trans h2 (by decide))
theorem RdL.rowz {α : Type} [Rp α] {o : Tg} {w : World} {v : Value} {xs : List (List α)} (h : RdL o w v xs) : ∀ x, x ∈ xs → x.length ≤ 9223372036854775807 := by
  obtain ⟨a, c, rfl, h1, h2, h3⟩ := h
  intro x hx
  obtain ⟨i, hi, rfl⟩ := List.getElem_of_mem hx
  obtain ⟨b, off, cs, _, _, _, _, hd⟩ := h3 i xs[i] (List.getElem?_eq_getElem hi)
  obtain ⟨u, rfl, hu⟩ := hd
  exact hu.lenz
def szN' (left : Int) (n : Nat) : Int := if (n : Int) ≤ left then left - n else -1
def sumN {α : Type} (LL : List (List α)) : Nat := (LL.map List.length).sum
theorem pj_ (l : List Int) (left : Int) (h : l.length ≤ 9223372036854775807) (h0 : 0 ≤ left) (h1 : left ≤ 1048576) : fO_ l left = some (szN' left l.length) := by
  unfold fO_ szN'
  rw [C_ (by omega) (by omega), sb]
  by_cases e : (l.length : Int) ≤ left
  · rw [if_neg (by simp; omega), if_pos e]
  · rw [if_pos (by simp; omega), if_neg e]
theorem ln_ {α : Type} (f : List α × Int → Option (Lp (List α × Int) (List α × Int) (List α))) (z : α) (xs : List α) (hgo : ∀ (j : Nat) (h : j < xs.length) (s : List α), s.length = xs.length → f (s, (j : Int)) = some (.go (s.set j xs[j], ((j + 1 : Nat) : Int))))
    (hout : ∀ s : List α, f (s, (xs.length : Int)) = some (.out (s, (xs.length : Int)))) (fuel : Nat) (hf : xs.length < fuel) : loopF f fuel (List.replicate xs.length z, 0) = some (.inl (xs, (xs.length : Int))) := by
  have := nD_ (f := f) (fun j => (xs.take j ++ List.replicate (xs.length - j) z, (j : Int))) xs.length (xs, (xs.length : Int)) (fun j hj => by
    rw [hgo j hj _ (by simp; omega)]
    congr 3
    refine List.ext_getElem (by simp; omega) fun i h1 h2 => ?_
    rw [List.getElem_set]
    by_cases e : j = i
    · subst e
      rw [if_pos rfl, List.getElem_append_left (by simp; omega), List.getElem_take]
    · rw [if_neg e]
      by_cases h : i < j
      · rw [List.getElem_append_left (by simp; omega), List.getElem_append_left (by simp; omega), List.getElem_take, List.getElem_take]
      · rw [List.getElem_append_right (by simp; omega), List.getElem_append_right (by simp; omega)]
        simp) (by simp only [List.take_length, Nat.sub_self, List.replicate_zero, List.append_nil]; exact hout xs) fuel hf
  simpa using this
theorem oZ_ (fuel : Nat) (l : List Int) (hf : l.length < fuel) (h : l.length ≤ 1048576) : gg_ fuel l = some l := by
  unfold gg_ mk
  rw [if_pos (by omega), sb, Int.toNat_natCast, ln_ (dj_ l) _ l (fun j hj s hs => by
    unfold dj_
    simp only
    rw [if_pos (by simp; omega), cv_, List.getElem?_eq_getElem hj, sb, cv_, List.getElem?_eq_getElem (by omega), sb, jE_ _ _ _ (by omega), sb, C_ (by omega) (by omega), sb]; simp)
    (fun s => by unfold dj_; simp only; rw [if_neg (by simp)]) fuel hf, sb]
theorem nk_ {α : Type} {LL : List (List α)} {x : List α} (h : x ∈ LL) : x.length ≤ sumN LL := by
  unfold sumN
  induction LL with
  | nil => cases h
  | cons y LL ih =>
    rw [List.map_cons, List.sum_cons]
    rcases List.mem_cons.1 h with h | h
    · subst h; omega
    · have := ih h; omega
theorem pB_ {α : Type} (f : Int → Option (Lp Int Int Bool)) (xs : List α) (hgo : ∀ (j : Nat) (h : j < xs.length), f (j : Int) = some (.go ((j + 1 : Nat) : Int))) (hout : f (xs.length : Int) = some (.out (xs.length : Int))) (fuel : Nat) (hf : xs.length < fuel) :
    loopF f fuel 0 = some (.inl (xs.length : Int)) := nD_ (f := f) (fun j => (j : Int)) xs.length _ hgo hout fuel hf
theorem pG_ (fuel : Nat) (l : List Int) (hf : l.length < fuel) (h : l.length ≤ 1048576) : gi_ fuel l l = some true := by
  unfold gi_
  rw [if_neg (by simp), pB_ (dm_ l l) l (fun j hj => by
    unfold dm_
    rw [if_pos (by simp; omega), cv_, List.getElem?_eq_getElem hj, sb, sb, if_neg (by simp), C_ (by omega) (by omega), sb]; simp)
    (by unfold dm_; rw [if_neg (by simp)]) fuel hf, sb]
theorem oc_ (LL : List (List Int)) (hr : ∀ x, x ∈ LL → x.length ≤ 9223372036854775807) (hl : LL.length ≤ 1048576) : ∀ (d j fuel : Nat) (x : Int), j + d = LL.length → d < fuel → 0 ≤ x → x ≤ 1048576 →
    loopF (bI_ LL) fuel (x, (j : Int)) = some (if (sumN (LL.drop j) : Int) ≤ x then .inl (x - (sumN (LL.drop j) : Nat), (LL.length : Int)) else .inr (-1)) := by
  intro d
  induction d with
  | zero =>
    intro j fuel x hj hf h0 h1
    obtain ⟨m, rfl⟩ : ∃ m, fuel = m + 1 := ⟨fuel - 1, by omega⟩
    have e : LL.drop j = [] := List.drop_eq_nil_of_le (by omega)
    have hs : bI_ LL (x, (j : Int)) = some (.out (x, (j : Int))) := by
      unfold bI_
      rw [if_neg (by simp; omega)]
    have hjl : j = LL.length := by omega
    simp only [loopF, hs, e, sumN, List.map_nil, List.sum_nil]
    rw [if_pos (by omega), hjl]
    simp
  | succ d ih =>
    intro j fuel x hj hf h0 h1
    obtain ⟨m, rfl⟩ : ∃ m, fuel = m + 1 := ⟨fuel - 1, by omega⟩
    have hjl : j < LL.length := by omega
    have hq : LL[j]? = some LL[j] := List.getElem?_eq_getElem hjl
    have hle := hr LL[j] (List.getElem_mem hjl)
    have e : sumN (LL.drop j) = LL[j].length + sumN (LL.drop (j + 1)) := by unfold sumN; rw [List.drop_eq_getElem_cons hjl, List.map_cons, List.sum_cons]
    have hs : bI_ LL (x, (j : Int)) = some (if (LL[j].length : Int) ≤ x then .go (x - LL[j].length, ((j + 1 : Nat) : Int)) else .ret (-1)) := by
      unfold bI_
      simp only
      rw [if_pos (by simp; omega), cv_, hq, sb, pj_ _ _ hle h0 h1, sb]
      unfold szN'
      by_cases hx : (LL[j].length : Int) ≤ x
      · rw [if_pos hx, if_pos hx, if_neg (by simp; omega), C_ (by omega) (by omega), sb]; simp
      · rw [if_neg hx, if_neg hx, if_pos (by decide)]
    by_cases hx : (LL[j].length : Int) ≤ x
    · rw [if_pos hx] at hs
      simp only [loopF, hs]
      rw [ih (j + 1) m _ (by omega) (by omega) (by omega) (by omega), e]
      by_cases h2 : (sumN (LL.drop (j + 1)) : Int) ≤ x - LL[j].length
      · rw [if_pos h2, if_pos (by omega)]
        simp only [Option.some.injEq, Sum.inl.injEq, Prod.mk.injEq, and_true]
        omega
      · rw [if_neg h2, if_neg (by omega)]
    · rw [if_neg hx] at hs
      simp only [loopF, hs]
      rw [if_neg (by rw [e]; omega)]
theorem jt_ (fuel : Nat) (hf : 2000000 ≤ fuel) (LL : List (List Int)) (hl : LL.length ≤ 9223372036854775807) (hr : ∀ x, x ∈ LL → x.length ≤ 9223372036854775807) (left : Int) (h0 : 0 ≤ left) (h1 : left ≤ 1048576) :
    er_ fuel LL left = some (szN' left (LL.length + sumN LL)) := by
  unfold er_ szN'
  rw [C_ (by omega) (by omega), sb]
  by_cases a1 : (LL.length : Int) ≤ left
  · have hq := oc_ LL hr (by omega) LL.length 0 fuel (left - LL.length) (by omega) (by omega) (by omega) (by omega)
    rw [show ((0 : Nat) : Int) = 0 from rfl, List.drop_zero] at hq
    rw [if_neg (by simp; omega), hq, sb]
    by_cases a2 : (sumN LL : Int) ≤ left - LL.length
    · rw [if_pos a2, if_pos (by omega)]
      simp only [Option.some.injEq]
      omega
    · rw [if_neg a2, if_neg (by omega)]
  · rw [if_pos (by simp; omega), if_neg (by omega)]
theorem jh_ (fuel : Nat) (LL : List (List Int)) (hf : 2000000 ≤ fuel) (h : LL.length + sumN LL ≤ 1048576) : eo_ fuel LL = some LL := by
  unfold eo_ mk
  rw [if_pos (by omega), sb, Int.toNat_natCast, ln_ (cL_ fuel LL) _ LL (fun j hj s hs => by
    have := nk_ (List.getElem_mem hj)
    unfold cL_
    simp only
    rw [if_pos (by simp; omega), cv_, List.getElem?_eq_getElem hj, sb, oZ_ fuel _ (by omega) (by omega), sb, cv_, List.getElem?_eq_getElem (by omega), sb, jE_ _ _ _ (by omega), sb, C_ (by omega) (by omega), sb]; simp)
    (fun s => by unfold cL_; simp only; rw [if_neg (by simp)]) fuel (by omega), sb]
theorem jB_ (fuel : Nat) (LL : List (List Int)) (hf : 2000000 ≤ fuel) (h : LL.length + sumN LL ≤ 1048576) : eq_ fuel LL LL = some true := by
  unfold eq_
  rw [if_neg (by simp), pB_ (cJ_ fuel LL LL) LL (fun j hj => by
    have := nk_ (List.getElem_mem hj)
    unfold cJ_
    rw [if_pos (by simp; omega), cv_, List.getElem?_eq_getElem hj, sb, sb, pG_ fuel _ (by omega) (by omega), sb, if_neg (by simp), C_ (by omega) (by omega), sb]; simp)
    (by unfold cJ_; rw [if_neg (by simp)]) fuel (by omega), sb]
structure FitP (p : a_) : Prop where
  nodes : p.Nodes.length ≤ 9223372036854775807
  nrows : ∀ r, r ∈ p.Nodes → r.length ≤ 9223372036854775807
  edges : p.Edges.length ≤ 9223372036854775807
  erows : ∀ r, r ∈ p.Edges → r.length ≤ 9223372036854775807
def szPr (p : a_) : Nat := (p.Nodes.length + sumN p.Nodes) + (p.Edges.length + sumN p.Edges)
theorem lZ_ (fuel : Nat) (hf : 2000000 ≤ fuel) (p : a_) (hp : FitP p) (left : Int) (h0 : 0 ≤ left) (h1 : left ≤ 1048576) : ec_ fuel p left = some (szN' left (szPr p)) := by
  unfold ec_
  rw [jt_ fuel hf _ hp.nodes hp.nrows left h0 h1, sb]
  unfold szPr
  generalize p.Nodes.length + sumN p.Nodes = a
  unfold szN'
  by_cases a1 : (a : Int) ≤ left
  · rw [if_pos a1, if_neg (by simp; omega), jt_ fuel hf _ hp.edges hp.erows _ (by omega) (by omega), sb]
    generalize p.Edges.length + sumN p.Edges = b
    unfold szN'
    by_cases a2 : (b : Int) ≤ left - a
    · rw [if_pos a2, if_neg (by simp; omega), if_pos (by omega)]
      congr 1; omega
    · rw [if_neg a2, if_pos (by decide), if_neg (by omega)]
  · rw [if_neg a1, if_pos (by decide), if_neg (by omega)]
theorem lY_ (fuel : Nat) (hf : 2000000 ≤ fuel) (p : a_) (h : szPr p ≤ 1048576) : cD_ fuel p = some p := by
  unfold cD_
  unfold szPr at h
  rw [jh_ fuel _ hf (by omega), sb, jh_ fuel _ hf (by omega), sb]
theorem lN_ (fuel : Nat) (hf : 2000000 ≤ fuel) (p : a_) (h : szPr p ≤ 1048576) : ee_ fuel p p = some true := by
  unfold ee_
  unfold szPr at h
  rw [if_neg (by simp), if_neg (by simp), jB_ fuel _ hf (by omega), sb, if_neg (by simp), jB_ fuel _ hf (by omega), sb, if_neg (by simp)]
end

section
def zgP (p : a_) : Prop := ∃ x ∈ p.Nodes, ∀ a ∈ x, ∀ c ∈ x, srt [a, c] ∈ p.Edges
theorem rl_ (p : a_) (xs ys : List Int) : ∃ i j b, gY_ p xs ys = some (i, j, b) ∧ (b = true ↔ ∃ a ∈ xs, ∃ c ∈ ys, srt [a, c] ∉ p.Edges) := by
  have hin : ∀ i a, ∃ z, forI (dD_ p i a) ys 0 () = some z ∧ ((z = .inl () ∧ ∀ c ∈ ys, ¬ srt [a, c] ∉ p.Edges) ∨ ∃ r, z = .inr r ∧ r.2.2 = true ∧ ∃ c ∈ ys, srt [a, c] ∉ p.Edges) := fun i a =>
    cB_ (body := dD_ p i a) (fun c => srt [a, c] ∉ p.Edges) (fun r : Int × Int × Bool => r.2.2 = true) ys 0 (fun c _ j => by
      unfold dD_
      rw [mM_, sb]
      by_cases hc : srt [a, c] ∈ p.Edges
      · exact ⟨_, by rw [if_neg (by simpa using hc)], .inl ⟨rfl, fun hn => hn hc⟩⟩
      · exact ⟨_, by rw [if_pos (by simpa using hc)], .inr ⟨_, rfl, rfl, hc⟩⟩)
  obtain ⟨z, h1, h2⟩ := cB_ (body := et_ p ys) (fun a => ∃ c ∈ ys, srt [a, c] ∉ p.Edges) (fun r : Int × Int × Bool => r.2.2 = true) xs 0 (fun a _ j => by
    obtain ⟨z, h1, h2⟩ := hin j a
    unfold et_
    rw [h1, sb]
    rcases h2 with ⟨rfl, hno⟩ | ⟨r, rfl, hr, hq⟩
    · exact ⟨_, rfl, .inl ⟨rfl, fun ⟨c, hc, hn⟩ => hno c hc hn⟩⟩
    · exact ⟨_, rfl, .inr ⟨r, rfl, hr, hq⟩⟩)
  unfold gY_
  rw [h1, sb]
  rcases h2 with ⟨rfl, hno⟩ | ⟨⟨i, j, b⟩, rfl, hr, hq⟩
  · refine ⟨0, 0, false, rfl, by simp, fun ⟨a, ha, hc⟩ => absurd hc (hno a ha)⟩
  · exact ⟨i, j, b, rfl, fun _ => hq, fun _ => hr⟩
theorem qj_ (p : a_) (hl : ∀ x ∈ p.Nodes, x.length ≤ 1000000000) : ∃ l b, fR_ p = some (l, b) ∧ (b = true ↔ zgP p) := by
  obtain ⟨z, h1, h2⟩ := cB_ (body := ef_ p) (fun x => ∀ a ∈ x, ∀ c ∈ x, srt [a, c] ∈ p.Edges) (fun r : List Int × Bool => r.2 = true) p.Nodes 0 (fun x hx j => by
    obtain ⟨i, j, b, e1, e2⟩ := rl_ p x x
    unfold ef_ gv_
    rw [e1, sb, sb]
    cases b
    · have hall : ∀ a ∈ x, ∀ c ∈ x, srt [a, c] ∈ p.Edges := fun a ha c hc => Classical.byContradiction fun hn => by simpa using e2.2 ⟨a, ha, c, hc, hn⟩
      exact ⟨_, by rw [if_pos (by rfl), iF_ x (hl x hx), sb], .inr ⟨_, rfl, rfl, hall⟩⟩
    · obtain ⟨a, ha, c, hc, hn⟩ := e2.1 rfl
      exact ⟨_, by rw [if_neg (by simp)], .inl ⟨rfl, fun hh => hn (hh a ha c hc)⟩⟩)
  unfold fR_
  rw [h1, sb]
  rcases h2 with ⟨rfl, hno⟩ | ⟨⟨l, b⟩, rfl, hr, hq⟩
  · exact ⟨[], false, rfl, by simp, fun ⟨x, hx, hh⟩ => absurd hh (hno x hx)⟩
  · exact ⟨l, b, rfl, fun _ => hq, fun _ => hr⟩
theorem ez_ (fuel : Nat) (p : a_) (h : probB p = true) (hJ : p.Nodes.length ≤ 100000000) (hE : p.Edges.length ≤ 100000000) (hf : 1000000000 ≤ fuel) : ∃ l b, bq_ fuel p = some (l, b) ∧ (b = true ↔ zgP p) := by
  obtain ⟨g1, g2, g3, g4, g5, -⟩ := bb_ h
  have hrow : ∀ x ∈ p.Nodes, x.length ≤ 1000000000 := fun x hx => by
    have := ((gz_ g5).1 x hx).1
    omega
  obtain ⟨z, h1, h2⟩ := cB_ (body := aW_ fuel p) (fun x => ∀ a ∈ x, ∀ c ∈ x, srt [a, c] ∈ p.Edges) (fun r : List Int × Bool => r.2 = true) p.Nodes 0 (fun x hx j => by
    unfold aW_
    rw [hO_ fuel p h (by omega) (by omega) x x, sb]
    by_cases hall : ∀ a ∈ x, ∀ c ∈ x, srt [a, c] ∈ p.Edges
    · exact ⟨_, by rw [if_pos (decide_eq_true hall), ic_ x (hrow x hx), sb], .inr ⟨_, rfl, rfl, hall⟩⟩
    · exact ⟨_, by rw [if_neg (by simpa using hall)], .inl ⟨rfl, hall⟩⟩)
  unfold bq_
  rw [iI_ fuel (by omega) p (by omega) (by omega), sb, h, if_neg (by simp), h1, sb]
  rcases h2 with ⟨rfl, hno⟩ | ⟨⟨l, b⟩, rfl, hr, hq⟩
  · exact ⟨[], false, rfl, by simp, fun ⟨x, hx, hh⟩ => absurd hh (hno x hx)⟩
  · exact ⟨l, b, rfl, fun _ => hq, fun _ => hr⟩
def okP (p : a_) : Prop := probB p = true ∧ p.Nodes.length ≤ 100000000 ∧ p.Edges.length ≤ 100000000
theorem okP.next {p : a_} (h : okP p) (hv : (roundV p).2.2.2 = true) : okP (roundV p).1 := by
  obtain ⟨a1, a2, a3, -⟩ := lV_ p h.1 hv
  exact ⟨a1, a2, a3⟩
noncomputable def itV (p : a_) : Nat → Option a_
  | 0 => some p
  | k + 1 => (itV p k).bind fun q => if (roundV q).2.2.2 then some (roundV q).1 else none
theorem pn_ {p : a_} (h : okP p) : ∀ {k : Nat} {q : a_}, itV p k = some q → okP q
  | 0, q, e => by cases e; exact h
  | k + 1, q, e => by
    unfold itV at e
    cases hk : itV p k with
    | none => rw [hk] at e; cases e
    | some r =>
      rw [hk, Option.bind_some] at e
      have hr := pn_ h hk
      cases hv : (roundV r).2.2.2
      · rw [hv, if_neg (by simp)] at e; cases e
      · rw [hv, if_pos rfl] at e
        cases e
        exact hr.next hv
open Classical in
noncomputable def lrF : Nat → Nat → a_ → Int × Bool
  | 0, k, q => if zgP q then ((k : Int), true) else (0, false)
  | n + 1, k, q => if zgP q then ((k : Int), true) else if (roundV q).2.2.2 then lrF n (k + 1) (roundV q).1 else (0, false)
theorem mN_ (fuel : Nat) (hf : 1000000000 ≤ fuel) (most : Nat) (hm : most ≤ 5) : ∀ (n k f : Nat) (q : a_), k + n = most → n < f → okP q → loopF (ag_ fuel (most : Int)) f ((k : Int), q.Labels, q.Degree, q.Nodes, q.Edges) = some (.inr (lrF n k q))
  | 0, k, f, q, hk, hfl, hq => by
    obtain ⟨f, rfl⟩ : ∃ m, f = m + 1 := ⟨f - 1, by omega⟩
    obtain ⟨l, b, e1, e2⟩ := ez_ fuel q hq.1 hq.2.1 hq.2.2 hf
    have h0 : ag_ fuel (most : Int) ((k : Int), q.Labels, q.Degree, q.Nodes, q.Edges) = some (.ret (lrF 0 k q)) := by
      unfold ag_ lrF
      simp only
      rw [e1, sb]
      cases b
      · have hz : ¬ zgP q := fun hh => by simpa using e2.2 hh
        rw [if_neg (by simp), gO_ fuel hf q hq.1 hq.2.1 hq.2.2, sb, if_neg hz]
        have : (if (!(roundV q).2.2.2) = true then some true else some ((k : Int) == (most : Int))) = some true := by
          split
          · rfl
          · have : k = most := by omega
            subst this
            simp
        rw [this, sb, if_pos rfl]
      · rw [if_pos (by rfl), if_pos (e2.1 rfl)]
    simp only [loopF, h0]
  | n + 1, k, f, q, hk, hfl, hq => by
    obtain ⟨f, rfl⟩ : ∃ m, f = m + 1 := ⟨f - 1, by omega⟩
    obtain ⟨l, b, e1, e2⟩ := ez_ fuel q hq.1 hq.2.1 hq.2.2 hf
    cases b
    · have hz : ¬ zgP q := fun hh => by simpa using e2.2 hh
      cases hv : (roundV q).2.2.2
      · have h0 : ag_ fuel (most : Int) ((k : Int), q.Labels, q.Degree, q.Nodes, q.Edges) = some (.ret (lrF (n + 1) k q)) := by
          unfold ag_ lrF
          simp only
          rw [e1, sb, if_neg (by simp), gO_ fuel hf q hq.1 hq.2.1 hq.2.2, sb, if_neg hz, hv, if_pos (by rfl), sb, if_pos rfl, if_neg (by simp)]
        simp only [loopF, h0]
      · have h0 : ag_ fuel (most : Int) ((k : Int), q.Labels, q.Degree, q.Nodes, q.Edges) = some (.go (((k + 1 : Nat) : Int), (roundV q).1.Labels, (roundV q).1.Degree, (roundV q).1.Nodes, (roundV q).1.Edges)) := by
          unfold ag_
          simp only
          rw [e1, sb, if_neg (by simp), gO_ fuel hf q hq.1 hq.2.1 hq.2.2, sb, hv, if_neg (by simp), sb, if_neg (by simp; omega), C_ (by omega) (by omega), sb]
          rfl
        simp only [loopF, h0]
        rw [mN_ fuel hf most hm n (k + 1) f _ (by omega) (by omega) (hq.next hv)]
        conv => rhs; unfold lrF
        rw [if_neg hz, hv, if_pos rfl]
    · have h0 : ag_ fuel (most : Int) ((k : Int), q.Labels, q.Degree, q.Nodes, q.Edges) = some (.ret (lrF (n + 1) k q)) := by
        unfold ag_ lrF
        simp only
        rw [e1, sb, if_pos (by rfl), if_pos (e2.1 rfl)]
      simp only [loopF, h0]
open Classical in
noncomputable def lrV (p : a_) (most : Int) : Int × Bool := if probB p = true ∧ 0 ≤ most ∧ most ≤ 5 then lrF most.toNat 0 p else (0, false)
theorem iT_ (fuel : Nat) (hf : 1000000000 ≤ fuel) (p : a_) (most : Int) (hJ : p.Nodes.length ≤ 100000000) (hE : p.Edges.length ≤ 100000000) : cU_ fuel p most = some (lrV p most) := by
  unfold cU_ lrV fx_
  rw [iI_ fuel (by omega) p (by omega) (by omega), sb]
  cases h : probB p
  · rw [if_pos (by rfl), sb, if_pos rfl, if_neg (by simp)]
  · rw [if_neg (by simp), gB_, sb, sb, sb]
    by_cases hc : 0 ≤ most ∧ most ≤ 5
    · have := mN_ fuel hf most.toNat (by omega) most.toNat 0 fuel p (by omega) (by omega) ⟨h, hJ, hE⟩
      rw [Int.toNat_of_nonneg hc.1, show ((0 : Nat) : Int) = 0 from rfl] at this
      rw [if_neg (by simp; omega), this, sb, if_pos ⟨rfl, hc⟩]
    · rw [if_pos (by simp; omega), if_neg (fun hh => hc hh.2)]
theorem pa_ (x : List Int) (hx : ∀ y ∈ x, 0 ≤ y ∧ y ≤ 1000) : ∀ (c : List Int) (k : Int) (acc : List Int), acc ++ c = x → x.length ≤ 1000000000 → forI (cb_ 0) c k acc = some (.inl x)
  | [], k, acc, e, _ => by simp only [forI]; rw [← e, List.append_nil]
  | y :: c, k, acc, e, h => by
    have hy := hx y (by rw [← e]; simp)
    have hl : acc.length + c.length + 1 = x.length := by rw [← e]; simp; omega
    have h0 : cb_ 0 k y acc = some (.go (acc ++ [y])) := by
      unfold cb_
      rw [C_ (by omega) (by omega), sb]
      unfold push
      rw [if_pos (by omega), sb, Int.add_zero]
    simp only [forI, h0]
    exact pa_ x hx c (k + 1) _ (by rw [← e]; simp) h
theorem nH_ (X : List (List Int)) (hX : ∀ x ∈ X, x.length ≤ 1000 ∧ ∀ y ∈ x, 0 ≤ y ∧ y ≤ 1000) : ∀ (c : List (List Int)) (k : Int) (acc : List (List Int)), acc ++ c = X → X.length ≤ 1000000000 → forI (bX_ 0) c k acc = some (.inl X)
  | [], k, acc, e, _ => by simp only [forI]; rw [← e, List.append_nil]
  | x :: c, k, acc, e, h => by
    have hx := hX x (by rw [← e]; simp)
    have hl : acc.length + c.length + 1 = X.length := by rw [← e]; simp; omega
    have h0 : bX_ 0 k x acc = some (.go (acc ++ [x])) := by
      unfold bX_
      rw [pa_ x hx.2 x 0 [] rfl (by omega), sb]
      simp only
      unfold push
      rw [if_pos (by omega), sb]
    simp only [forI, h0]
    exact nH_ X hX c (k + 1) _ (by rw [← e]; simp) h
theorem nc_ (X : List (List Int)) (hX : ∀ x ∈ X, x.length ≤ 1000 ∧ ∀ y ∈ x, 0 ≤ y ∧ y ≤ 1000) (h : X.length ≤ 1000000000) : gC_ X = some X := by
  unfold gC_ eO_
  rw [nH_ X hX X 0 [] rfl h, sb, sb]
theorem kA_ {X : List (List Int)} {m n : Int} (h : confsB X m n = true) (hm : m ≤ 4) (hn : n ≤ 8) : ∀ x ∈ X, x.length ≤ 1000 ∧ ∀ y ∈ x, 0 ≤ y ∧ y ≤ 1000 := fun x hx => by
  obtain ⟨a, -, b⟩ := (gz_ h).1 x hx
  exact ⟨by omega, fun y hy => by have := b y hy; omega⟩
noncomputable def itL (p : a_) (k : Nat) : List a_ := (List.range (k + 1)).filterMap (itV p)
theorem qu_ {p q : a_} {k : Nat} (h : itV p (k + 1) = some q) : ∃ r, itV p k = some r ∧ (roundV r).2.2.2 = true ∧ q = (roundV r).1 := by
  unfold itV at h
  cases hk : itV p k with
  | none => rw [hk] at h; cases h
  | some r =>
    rw [hk, Option.bind_some] at h
    cases hv : (roundV r).2.2.2
    · rw [hv, if_neg (by simp)] at h; cases h
    · rw [hv, if_pos rfl] at h
      cases h
      exact ⟨r, rfl, hv, rfl⟩
theorem nw_ {p q : a_} {k : Nat} (h : itV p (k + 1) = some q) : itL p (k + 1) = itL p k ++ [q] := by
  unfold itL
  rw [List.range_succ, List.filterMap_append]
  simp [h]
theorem jZ_ {p : a_} : ∀ {k : Nat} {q : a_}, itV p k = some q → (itL p k).length = k + 1 ∧ (itL p k)[k]? = some q
  | 0, q, h => by
    cases h
    exact ⟨by simp [itL, itV], by simp [itL, itV]⟩
  | k + 1, q, h => by
    obtain ⟨r, h1, -, -⟩ := qu_ h
    have ih := jZ_ h1
    rw [nw_ h]
    refine ⟨by rw [List.length_append, ih.1]; rfl, ?_⟩
    rw [List.getElem?_append_right (by omega), ih.1]
    simp
theorem jl_ (fuel : Nat) (hf : 1000000000 ≤ fuel) (p : a_) (hp : okP p) (k : Nat) (hk : k ≤ 5) : ∀ (d j f : Nat) (q : a_), j + d = k → d < f → itV p j = some q →
    loopF (ad_ fuel (k : Int)) f (itL p j) = if (itV p k).isSome then some (.inl (itL p k)) else some (.inr ([], false))
  | 0, j, f, q, hj, hfl, hq => by
    obtain ⟨f, rfl⟩ : ∃ m, f = m + 1 := ⟨f - 1, by omega⟩
    have : j = k := by omega
    subst this
    have hl := (jZ_ hq).1
    have h0 : ad_ fuel (j : Int) (itL p j) = some (.out (itL p j)) := by
      unfold ad_
      rw [if_neg (by simp; omega)]
    simp only [loopF, h0]
    rw [hq]; rfl
  | d + 1, j, f, q, hj, hfl, hq => by
    obtain ⟨f, rfl⟩ : ∃ m, f = m + 1 := ⟨f - 1, by omega⟩
    obtain ⟨hl, hat⟩ := jZ_ hq
    have hok := pn_ hp hq
    have hix : ix (itL p j) (j : Int) = some q := by unfold ix; rw [if_pos (by omega), Int.toNat_natCast, hat]
    cases hv : (roundV q).2.2.2
    · have h0 : ad_ fuel (k : Int) (itL p j) = some (.ret ([], false)) := by
        unfold ad_
        rw [if_pos (by simp; omega), C_ (by omega) (by omega), sb, show (((itL p j).length : Int) - 1) = (j : Int) by omega, hix, sb, fF_ fuel hf q hok.1 hok.2.1 hok.2.2, sb, hv, if_pos (by rfl)]
      have hno : ∀ i, itV p (j + 1 + i) = none := fun i => by
        induction i with
        | zero =>
          show itV p (j + 1) = none
          unfold itV
          rw [hq, Option.bind_some, hv, if_neg (by simp)]
        | succ i ih =>
          show itV p (j + 1 + i + 1) = none
          unfold itV
          rw [ih]; rfl
      have := hno d
      rw [show j + 1 + d = k by omega] at this
      simp only [loopF, h0]
      rw [this]; rfl
    · have hnx : itV p (j + 1) = some (roundV q).1 := by
        unfold itV
        rw [hq, Option.bind_some, hv, if_pos rfl]
      have h0 : ad_ fuel (k : Int) (itL p j) = some (.go (itL p (j + 1))) := by
        unfold ad_
        rw [if_pos (by simp; omega), C_ (by omega) (by omega), sb, show (((itL p j).length : Int) - 1) = (j : Int) by omega, hix, sb, fF_ fuel hf q hok.1 hok.2.1 hok.2.2, sb, hv, if_neg (by simp)]
        unfold push
        rw [if_pos (by omega), sb, nw_ hnx]
      simp only [loopF, h0]
      exact jl_ fuel hf p hp k hk d (j + 1) f _ (by omega) (by omega) hnx
theorem fG_ (fuel : Nat) (hf : 1000000000 ≤ fuel) (p : a_) (hp : okP p) (k : Nat) (hk : k ≤ 5) : aJ_ fuel p (k : Int) = some (if (itV p k).isSome then (itL p k, true) else ([], false)) := by
  obtain ⟨g1, g2, g3, g4, g5, g6⟩ := bb_ hp.1
  have hN := hp.2.1
  have hE := hp.2.2
  unfold aJ_
  rw [jY_ fuel (by omega) p (by omega) (by omega), sb, hp.1, if_neg (by simp), jy_, sb, sb, if_neg (by simp; omega), nc_ _ (kA_ g5 g4 g2) (by omega), sb, nc_ _ (kA_ g6 (by omega) g2) (by omega), sb]
  have := jl_ fuel hf p hp k hk k 0 fuel p (by omega) (by omega) rfl
  rw [show itL p 0 = [p] by simp [itL, itV]] at this
  rw [show ([(⟨p.Labels, p.Degree, p.Nodes, p.Edges⟩ : a_)] : List a_) = [p] from rfl, this]
  cases (itV p k).isSome
  · rw [if_neg (by simp), sb, if_neg (by simp)]
  · rw [if_pos rfl, sb, if_pos rfl]
theorem nS_ (fuel : Nat) (hf : 1000000000 ≤ fuel) (p : a_) (hN : p.Nodes.length ≤ 100000000) (hE : p.Edges.length ≤ 100000000) (hp : probB p = false) (k : Int) : aJ_ fuel p k = some ([], false) := by
  unfold aJ_
  rw [jY_ fuel (by omega) p (by omega) (by omega), sb, hp, if_pos (by rfl), sb, if_pos rfl]
theorem mW_ (fuel : Nat) (hf : 1000000000 ≤ fuel) (p : a_) (hp : okP p) (most : Nat) (hm : most ≤ 5) : ∀ (n k f : Nat) (q : a_), k + n = most → n + 1 < f → itV p k = some q →
    (loopF (U_ fuel p (most : Int)) f (k : Int) = some (.inr (lrF n k q))) ∨ (loopF (U_ fuel p (most : Int)) f (k : Int) = some (.inl ((most + 1 : Nat) : Int)) ∧ lrF n k q = (0, false))
  | n, k, f, q, hk, hfl, hq => by
    obtain ⟨f, rfl⟩ : ∃ m, f = m + 1 := ⟨f - 1, by omega⟩
    obtain ⟨hl, hat⟩ := jZ_ hq
    have hok := pn_ hp hq
    obtain ⟨g1, g2, g3, g4, g5, -⟩ := bb_ hok.1
    obtain ⟨l, b, e1, e2⟩ := qj_ q (fun x hx => by have := ((gz_ g5).1 x hx).1; omega)
    have hix : ix (itL p k) (k : Int) = some q := by unfold ix; rw [if_pos (by omega), Int.toNat_natCast, hat]
    have hT := fG_ fuel hf p hp k (by omega)
    rw [hq] at hT
    replace hT : aJ_ fuel p (k : Int) = some (itL p k, true) := hT
    cases b
    · have hz : ¬ zgP q := fun hh => by simpa using e2.2 hh
      have h0 : U_ fuel p (most : Int) (k : Int) = some (.go ((k + 1 : Nat) : Int)) := by
        unfold U_
        rw [if_pos (by simp; omega), hT, sb, if_neg (by simp), hix, sb, e1, sb, if_neg (by simp), C_ (by omega) (by omega), sb]
        rfl
      simp only [loopF, h0]
      cases n with
      | zero =>
        obtain ⟨f, rfl⟩ : ∃ m, f = m + 1 := ⟨f - 1, by omega⟩
        have : k = most := by omega
        subst this
        have h1 : U_ fuel p (k : Int) ((k + 1 : Nat) : Int) = some (.out ((k + 1 : Nat) : Int)) := by
          unfold U_
          rw [if_neg (by simp; omega)]
        simp only [loopF, h1]
        refine .inr ⟨trivial, ?_⟩
        unfold lrF
        rw [if_neg hz]
      | succ n =>
        cases hv : (roundV q).2.2.2
        · obtain ⟨f, rfl⟩ : ∃ m, f = m + 1 := ⟨f - 1, by omega⟩
          have hno : itV p (k + 1) = none := by
            unfold itV
            rw [hq, Option.bind_some, hv, if_neg (by simp)]
          have hT2 := fG_ fuel hf p hp (k + 1) (by omega)
          rw [hno] at hT2
          replace hT2 : aJ_ fuel p ((k + 1 : Nat) : Int) = some ([], false) := hT2
          have h1 : U_ fuel p (most : Int) ((k + 1 : Nat) : Int) = some (.ret (0, false)) := by
            unfold U_
            rw [if_pos (by simp; omega), hT2, sb, if_pos (by rfl)]
          simp only [loopF, h1]
          refine .inl ?_
          unfold lrF
          rw [if_neg hz, hv, if_neg (by simp)]
        · have hnx : itV p (k + 1) = some (roundV q).1 := by
            unfold itV
            rw [hq, Option.bind_some, hv, if_pos rfl]
          have hlr : lrF (n + 1) k q = lrF n (k + 1) (roundV q).1 := by
            conv => lhs; unfold lrF
            rw [if_neg hz, hv, if_pos rfl]
          rw [hlr]
          exact mW_ fuel hf p hp most hm n (k + 1) f _ (by omega) (by omega) hnx
    · have h0 : U_ fuel p (most : Int) (k : Int) = some (.ret ((k : Int), true)) := by
        unfold U_
        rw [if_pos (by simp; omega), hT, sb, if_neg (by simp), hix, sb, e1, sb, if_pos (by rfl)]
      simp only [loopF, h0]
      refine .inl ?_
      have hz : zgP q := e2.1 rfl
      cases n <;> (unfold lrF; rw [if_pos hz])
theorem iX_ (fuel : Nat) (hf : 1000000000 ≤ fuel) (p : a_) (most : Int) (hJ : p.Nodes.length ≤ 100000000) (hE : p.Edges.length ≤ 100000000) : cW_ fuel p most = some (lrV p most) := by
  unfold cW_ lrV
  rw [jy_, sb]
  by_cases hc : 0 ≤ most ∧ most ≤ 5
  · rw [if_neg (by simp; omega)]
    obtain ⟨m, rfl⟩ : ∃ m : Nat, most = m := ⟨most.toNat, by omega⟩
    cases h : probB p
    · obtain ⟨f, rfl⟩ : ∃ f, fuel = f + 1 := ⟨fuel - 1, by omega⟩
      have h0 : U_ (f + 1) p (m : Int) 0 = some (.ret (0, false)) := by
        unfold U_
        rw [if_pos (by simp), nS_ (f + 1) hf p hJ hE h, sb, if_pos (by rfl)]
      have h1 : loopF (U_ (f + 1) p (m : Int)) (f + 1) 0 = some (.inr (0, false)) := by
        simp only [loopF, h0]
      rw [h1, sb, if_neg (by simp)]
    · rw [if_pos ⟨rfl, hc⟩, Int.toNat_natCast]
      rcases mW_ fuel hf p ⟨h, hJ, hE⟩ m (by omega) m 0 fuel p (by omega) (by omega) rfl with h1 | ⟨h1, h2⟩
      · rw [show ((0 : Nat) : Int) = 0 from rfl] at h1
        rw [h1, sb]
      · rw [show ((0 : Nat) : Int) = 0 from rfl] at h1
        rw [h1, sb, h2]
  · rw [if_pos (by simp; omega), if_neg (fun hh => hc hh.2)]
end

section
theorem qY_ {w : World} {u : List Value} {p : a_} (h : Rp.rd zt w u p) : FitP p := by
  obtain ⟨v1, v2, rfl, h1, h2⟩ := h
  exact ⟨h1.lenz, h1.rowz, h2.lenz, h2.rowz⟩
theorem hU_ (p : a_) (most : Int) (hp : FitP p) : bH_ 1000000000 p most = some true := by
  unfold bH_
  rw [lZ_ 1000000000 (by omega) p hp _ (by omega) (by omega), sb]
  unfold szN'
  by_cases a1 : (szPr p : Int) ≤ 1048576
  · have z1 : szPr p ≤ 1048576 := by omega
    have q1 : p.Nodes.length ≤ 100000000 := by unfold szPr at z1; omega
    have q2 : p.Edges.length ≤ 100000000 := by unfold szPr at z1; omega
    rw [if_pos a1, if_neg (by simp; omega)]
    simp only [lY_ 1000000000 (by omega) p z1, iX_ 1000000000 (by omega) p most q1 q2, iT_ 1000000000 (by omega) p most q1 q2, lN_ 1000000000 (by omega) p z1, sb, bne_self_eq_false, Bool.false_eq_true, if_false, Bool.not_true]
  · rw [if_neg a1, if_pos (by decide)]
theorem lawLeastRounds (u0 : List Value) (l0 : a_) (most : Int) (w : World) (r0 : Rp.rd zt w u0 l0) :
    Calls Tryz.prog 3 #[.agg u0.toArray, .int .i64 most] w fun e w' => e = .returned (.bool true) ∧ Keeps w w' :=
  fY_ 1000000000 w u0 l0 r0 most true (hU_ l0 most (qY_ r0))
end

section
open Go.ChangeShapes Go.WideShapes Go.ChangeAt Go.RowKit Go.Deep Go.Joins
set_option maxRecDepth 100000
section
variable {H : Type} {enc : TypeId × Value → H} {W : World}
def Opn (enc : TypeId × Value → H) (W : World) (t : TypeId) (α : Type) [Rp α] : Prop :=
  ∀ (n : Nat) (cs : List Value) (y : DataW H × List MemPlace), DataW.trod enc Tryz.prog W 0 (fun _ => true) true n t cs = some y → ∃ x : α, Rp.rd zt W cs x
theorem lW_ : Opn enc W 3 Int := fun n cs y h => by
  obtain ⟨m, h1, _, h2⟩ := DataW.trod_int Tryz.underlying3 h
  exact ⟨m, h1⟩
theorem kC_ {α : Type} [Rp α] {t e : TypeId} (ht : Tryz.prog.underlying t = some (.slice e)) (hc : Tryz.prog.cellsOf e = Rp.sz α) (he : Opn enc W e α) : Opn enc W t (List α) := fun n cs y h => by
  rcases DataW.trod_slice ht h with ⟨rfl, _⟩ | ⟨a, len, cap, elems, rest, m, _, rfl, _, hb, hl, hm, hlen, hel, _, _⟩
  · exact ⟨[], _, rfl, RdL.nil zt W⟩
  · rw [hc] at hel
    by_cases h0 : len = 0
    · subst h0
      exact ⟨[], _, rfl, some a, cap, by simp, by simp, hm, fun i x hx => by simp at hx⟩
    have hpos := Rp.pos (α := α)
    obtain ⟨b, off, spot⟩ := a
    have hs : spot = none := by
      have h1 := hel 0 (by omega)
      rw [List.getElem?_eq_getElem (show 0 < elems.length by omega), Option.bind_eq_some_iff] at h1
      obtain ⟨cs, h3, h4⟩ := h1
      obtain ⟨_, h5, h6⟩ := World.cells?_some h3
      have h7 := h6 0 hpos
      rw [List.getElem?_eq_getElem (show 0 < cs.length by omega)] at h7
      simpa [Addr.add] using World.cell?_spot h7
    subst hs
    have each : ∀ i, i < len → ∃ x : α, ∃ cs, b < W.heap.size ∧ Cells W b (off + i * Rp.sz α) cs ∧ Rp.rd zt W cs x := fun i hi => by
      have h1 := hel i hi
      rw [List.getElem?_eq_getElem (show i < elems.length by omega), Option.bind_eq_some_iff] at h1
      obtain ⟨cs, h3, h4⟩ := h1
      obtain ⟨x, hx⟩ := he m cs _ h4
      rw [Go.WideShapes.add_plain] at h3
      obtain ⟨_, h5, h6⟩ := World.cells?_some h3
      refine ⟨x, cs, World.cells?_block h3 hpos, fun j v hj => ?_, hx⟩
      have hjl := (List.getElem?_eq_some_iff.1 hj).1
      have := h6 j (by omega)
      rw [hj, Go.WideShapes.add_plain] at this
      exact this
    refine ⟨List.ofFn fun i : _root_.Fin len => Classical.choose (each i.1 i.2), _, rfl, some ⟨b, off, none⟩, cap, by simp, by simpa using hl, hm, fun i x hx => ?_⟩
    have hi : i < len := by
      have := (List.getElem?_eq_some_iff.1 hx).1
      simpa using this
    rw [List.getElem?_eq_getElem (by simpa using hi), List.getElem_ofFn] at hx
    obtain ⟨cs, h2, h3, h4⟩ := Classical.choose_spec (each i hi)
    cases hx
    exact ⟨b, off, cs, rfl, rfl, h2, h3, h4⟩
theorem list4 {cs : List Value} (h : cs.length = 4) : ∃ a b c d, cs = [a, b, c, d] := by
  match cs, h with
  | [a, b, c, d], _ => exact ⟨a, b, c, d, rfl⟩
theorem nR_ {t : TypeId} {fs : Array Field} {n : Nat} {cs : List Value} {y : DataW H × List MemPlace} (ht : Tryz.prog.underlying t = some (.struct fs)) (hone : oneCellFields Tryz.prog fs = true) (h : DataW.trod enc Tryz.prog W 0 (fun _ => true) true n t cs = some y) :
    ∃ m, cs.length = Tryz.prog.cellsOf t ∧ ∀ (i : Nat) (f : Field), fs[i]? = some f → ∃ y', DataW.trod enc Tryz.prog W 0 (fun _ => true) true m f.type ((cs.drop i).take 1) = some y' := by
  obtain ⟨xs, m, _, _, hl, hx, hf⟩ := DataW.trod_struct ht h
  refine ⟨m, hl, fun i f hi => ?_⟩
  obtain ⟨o0, k0⟩ := hone_of hone i f hi
  have h0 := hf i f hi
  have hlt : i < xs.length := by rw [hx]; exact (Array.getElem?_eq_some_iff.1 hi).1
  rw [o0, k0, List.getElem?_eq_getElem hlt] at h0
  exact ⟨_, h0⟩
theorem qx_ : Opn enc W 41 (List Int) := kC_ Tryz.underlying41 (by kernel_rfl) lW_

theorem ne_ : Opn enc W 22 (List (List Int)) := kC_ Tryz.underlying22 (by kernel_rfl) qx_

theorem qZ_ {α : Type} [Rp α] {t : TypeId} {fs : Array Field} (hs : Tryz.prog.underlying t = some (.struct fs)) (ho : Opn enc W t α) {base : Nat} {v : Value} {d : DataW H} {p : List MemPlace} (hval : Value.okWide Tryz.prog W .any base t v)
    (h : DataW.Trod enc Tryz.prog W 0 (fun _ => true) true t v d p) : ∃ (x : α) (u : List Value), v = .agg u.toArray ∧ Rp.rd zt W u x := by
  obtain ⟨cs, rfl, _⟩ := okWide_struct hs hval
  obtain ⟨fuel, hf⟩ := h
  obtain ⟨x, hx⟩ := ho fuel _ _ hf
  exact ⟨x, cs.toList, by simp, by simpa [Value.cells] using hx⟩
end
end

section
open Go.ChangeShapes Go.WideShapes Go.ChangeAt Go.RowKit Go.Deep Go.Joins
set_option maxRecDepth 100000
section
variable {H : Type} {enc : TypeId × Value → H} {W : World}
theorem lT_ : Opn enc W 24 a_ := fun n cs y h => by
  obtain ⟨m, hl, hf⟩ := nR_ Tryz.underlying24 (by kernel_rfl) h
  obtain ⟨c0, c1, c2, c3, rfl⟩ := list4 (hl.trans (by kernel_rfl))
  obtain ⟨y0, h0⟩ := hf 0 _ rfl
  obtain ⟨y1, h1⟩ := hf 1 _ rfl
  obtain ⟨y2, h2⟩ := hf 2 _ rfl
  obtain ⟨y3, h3⟩ := hf 3 _ rfl
  obtain ⟨a0, e0⟩ := lW_ (enc := enc) (W := W) m [c0] _ h0
  obtain ⟨a1, e1⟩ := lW_ (enc := enc) (W := W) m [c1] _ h1
  obtain ⟨a2, v2, e2, r2⟩ := ne_ (enc := enc) (W := W) m [c2] _ h2
  obtain ⟨a3, v3, e3, r3⟩ := ne_ (enc := enc) (W := W) m [c3] _ h3
  cases e0; cases e1; cases e2; cases e3
  exact ⟨⟨a0, a1, a2, a3⟩, _, _, rfl, r2, r3⟩
theorem openPrb {base : Nat} {v : Value} {d : DataW H} {p : List MemPlace} (hval : Value.okWide Tryz.prog W .any base 24 v)
    (h : DataW.Trod enc Tryz.prog W 0 (fun _ => true) true 24 v d p) : ∃ (x : a_) (u : List Value), v = .agg u.toArray ∧ Rp.rd zt W u x := qZ_ Tryz.underlying24 lT_ hval h
end
end

end Go.Proofs.YtdbbeldgdgonfaaGreat
