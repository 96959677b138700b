/- Part 27 of what this claim rests on (Lzx, IsFixedPointLaw, OpG, OpP2), packed by pack.py. -/
import Derived.Deep.Matrix
import Derived.Lib.SmallJoins
import Derived.Test.YtdbbeldgdgonfaaGreatP03
import Derived.Test.YtdbbeldgdgonfaaGreatP04
import Derived.Test.YtdbbeldgdgonfaaGreatP25
import Derived.Test.YtdbbeldgdgonfaaGreatP26
namespace Go.Proofs.YtdbbeldgdgonfaaGreat
set_option linter.unusedSimpArgs false
set_option linter.unusedVariables false

section
theorem nn_ {σ τ ρ : Type} {f : σ → Option (Lp σ τ ρ)} (R : Nat → σ) (n : Nat) (t : τ) (hgo : ∀ j, j < n → f (R j) = some (.go (R (j + 1)))) (hout : f (R n) = some (.out t)) (fuel : Nat) (hf : n < fuel) : loopF f fuel (R 0) = some (.inl t) := by
 suffices h : ∀ (d j fuel : Nat), j + d = n → d < fuel → loopF f fuel (R j) = some (.inl t) by exact h n 0 fuel (by omega) hf
 intro d
 induction d with
 | zero =>
  intro j fuel hj hf
  obtain ⟨m, rfl⟩ : ∃ m, fuel = m + 1 := ⟨fuel - 1, by omega⟩
  have : j = n := by omega
  subst this
  simp only [loopF, hout]
 | succ d ih =>
  intro j fuel hj hf
  obtain ⟨m, rfl⟩ : ∃ m, fuel = m + 1 := ⟨fuel - 1, by omega⟩
  simp only [loopF, hgo j (by omega)]
  exact ih (j + 1) m (by omega) (by omega)
theorem RdL.lenz {α : Type} [Rp α] {o : Tg} {w : World} {v : Value} {xs : List α} (h : RdL o w v xs) : xs.length ≤ 9223372036854775807 := by
 obtain ⟨a, c, rfl, h1, h2, _⟩ := h
 exact Nat.le_trans h1 (Nat.le_trans h2 (by decide))
theorem RdL.rowz {α : Type} [Rp α] {o : Tg} {w : World} {v : Value} {xs : List (List α)} (h : RdL o w v xs) : ∀ x, x ∈ xs → x.length ≤ 9223372036854775807 := by
 obtain ⟨a, c, rfl, h1, h2, h3⟩ := h
 intro x hx
 obtain ⟨i, hi, rfl⟩ := List.getElem_of_mem hx
 obtain ⟨b, off, cs, _, _, _, _, hd⟩ := h3 i xs[i] (List.getElem?_eq_getElem hi)
 obtain ⟨u, rfl, hu⟩ := hd
 exact hu.lenz
def szN' (left : Int) (n : Nat) : Int := if (n : Int) ≤ left then left - n else -1
def sumN {α : Type} (LL : List (List α)) : Nat := (LL.map List.length).sum
theorem pF_ (l : List Int) (left : Int) (h : l.length ≤ 9223372036854775807) (h0 : 0 ≤ left) (h1 : left ≤ 1048576) : gf_ l left = some (szN' left l.length) := by
 unfold gf_ szN'
 rw [G_ (by omega) (by omega), sb]
 by_cases e : (l.length : Int) ≤ left
 ·rw [if_neg (by simp; omega), if_pos e]
 ·rw [if_pos (by simp; omega), if_neg e]
theorem lD_ {α : Type} (f : List α × Int → Option (Lp (List α × Int) (List α × Int) (List α))) (z : α) (xs : List α) (hgo : ∀ (j : Nat) (h : j < xs.length) (s : List α), s.length = xs.length → f (s, (j : Int)) = some (.go (s.set j xs[j], ((j + 1 : Nat) : Int))))
  (hout : ∀ s : List α, f (s, (xs.length : Int)) = some (.out (s, (xs.length : Int)))) (fuel : Nat) (hf : xs.length < fuel) : loopF f fuel (List.replicate xs.length z, 0) = some (.inl (xs, (xs.length : Int))) := by
 have := nn_ (f := f) (fun j => (xs.take j ++ List.replicate (xs.length - j) z, (j : Int))) xs.length (xs, (xs.length : Int)) (fun j hj => by
  rw [hgo j hj _ (by simp; omega)]
  congr 3
  refine List.ext_getElem (by simp; omega) fun i h1 h2 => ?_
  rw [List.getElem_set]
  by_cases e : j = i
  ·subst e
   rw [if_pos rfl, List.getElem_append_left (by simp; omega), List.getElem_take]
  ·rw [if_neg e]
   by_cases h : i < j
   ·rw [List.getElem_append_left (by simp; omega), List.getElem_append_left (by simp; omega), List.getElem_take, List.getElem_take]
   ·rw [List.getElem_append_right (by simp; omega), List.getElem_append_right (by simp; omega)]
    simp) (by simp only [List.take_length, Nat.sub_self, List.replicate_zero, List.append_nil]; exact hout xs) fuel hf
 simpa using this
theorem px_ (fuel : Nat) (l : List Int) (hf : l.length < fuel) (h : l.length ≤ 1048576) : gg_ fuel l = some l := by
 unfold gg_ mk
 rw [if_pos (by omega), sb, Int.toNat_natCast, lD_ (dB_ l) _ l (fun j hj s hs => by
  unfold dB_
  simp only
  rw [if_pos (by simp; omega), ct_, List.getElem?_eq_getElem hj, sb, ct_, List.getElem?_eq_getElem (by omega), sb, iO_ _ _ _ (by omega), sb, G_ (by omega) (by omega), sb]; simp)
  (fun s => by unfold dB_; simp only; rw [if_neg (by simp)]) fuel hf, sb]
theorem nR_ {α : Type} {LL : List (List α)} {x : List α} (h : x ∈ LL) : x.length ≤ sumN LL := by
 unfold sumN
 induction LL with
 | nil => cases h
 | cons y LL ih =>
  rw [List.map_cons, List.sum_cons]
  rcases List.mem_cons.1 h with h | h
  ·subst h; omega
  ·have := ih h; omega
theorem pt_ {α : Type} (f : Int → Option (Lp Int Int Bool)) (xs : List α) (hgo : ∀ (j : Nat) (h : j < xs.length), f (j : Int) = some (.go ((j + 1 : Nat) : Int))) (hout : f (xs.length : Int) = some (.out (xs.length : Int))) (fuel : Nat) (hf : xs.length < fuel) :
  loopF f fuel 0 = some (.inl (xs.length : Int)) := nn_ (f := f) (fun j => (j : Int)) xs.length _ hgo hout fuel hf
theorem pI_ (fuel : Nat) (l : List Int) (hf : l.length < fuel) (h : l.length ≤ 1048576) : gk_ fuel l l = some true := by
 unfold gk_
 rw [if_neg (by simp), pt_ (dz_ l l) l (fun j hj => by
  unfold dz_
  rw [if_pos (by simp; omega), ct_, List.getElem?_eq_getElem hj, sb, sb, if_neg (by simp), G_ (by omega) (by omega), sb]; simp)
  (by unfold dz_; rw [if_neg (by simp)]) fuel hf, sb]
theorem oo_ (LL : List (List Int)) (hr : ∀ x, x ∈ LL → x.length ≤ 9223372036854775807) (hl : LL.length ≤ 1048576) : ∀ (d j fuel : Nat) (x : Int), j + d = LL.length → d < fuel → 0 ≤ x → x ≤ 1048576 →
  loopF (bU_ LL) fuel (x, (j : Int)) = some (if (sumN (LL.drop j) : Int) ≤ x then .inl (x - (sumN (LL.drop j) : Nat), (LL.length : Int)) else .inr (-1)) := by
 intro d
 induction d with
 | zero =>
  intro j fuel x hj hf h0 h1
  obtain ⟨m, rfl⟩ : ∃ m, fuel = m + 1 := ⟨fuel - 1, by omega⟩
  have e : LL.drop j = [] := List.drop_eq_nil_of_le (by omega)
  have hs : bU_ LL (x, (j : Int)) = some (.out (x, (j : Int))) := by
   unfold bU_
   rw [if_neg (by simp; omega)]
  have hjl : j = LL.length := by omega
  simp only [loopF, hs, e, sumN, List.map_nil, List.sum_nil]
  rw [if_pos (by omega), hjl]
  simp
 | succ d ih =>
  intro j fuel x hj hf h0 h1
  obtain ⟨m, rfl⟩ : ∃ m, fuel = m + 1 := ⟨fuel - 1, by omega⟩
  have hjl : j < LL.length := by omega
  have hq : LL[j]? = some LL[j] := List.getElem?_eq_getElem hjl
  have hle := hr LL[j] (List.getElem_mem hjl)
  have e : sumN (LL.drop j) = LL[j].length + sumN (LL.drop (j + 1)) := by unfold sumN; rw [List.drop_eq_getElem_cons hjl, List.map_cons, List.sum_cons]
  have hs : bU_ LL (x, (j : Int)) = some (if (LL[j].length : Int) ≤ x then .go (x - LL[j].length, ((j + 1 : Nat) : Int)) else .ret (-1)) := by
   unfold bU_
   simp only
   rw [if_pos (by simp; omega), ct_, hq, sb, pF_ _ _ hle h0 h1, sb]
   unfold szN'
   by_cases hx : (LL[j].length : Int) ≤ x
   ·rw [if_pos hx, if_pos hx, if_neg (by simp; omega), G_ (by omega) (by omega), sb]; simp
   ·rw [if_neg hx, if_neg hx, if_pos (by decide)]
  by_cases hx : (LL[j].length : Int) ≤ x
  ·rw [if_pos hx] at hs
   simp only [loopF, hs]
   rw [ih (j + 1) m _ (by omega) (by omega) (by omega) (by omega), e]
   by_cases h2 : (sumN (LL.drop (j + 1)) : Int) ≤ x - LL[j].length
   ·rw [if_pos h2, if_pos (by omega)]
    simp only [Option.some.injEq, Sum.inl.injEq, Prod.mk.injEq, and_true]
    omega
   ·rw [if_neg h2, if_neg (by omega)]
  ·rw [if_neg hx] at hs
   simp only [loopF, hs]
   rw [if_neg (by rw [e]; omega)]
theorem jQ_ (fuel : Nat) (hf : 2000000 ≤ fuel) (LL : List (List Int)) (hl : LL.length ≤ 9223372036854775807) (hr : ∀ x, x ∈ LL → x.length ≤ 9223372036854775807) (left : Int) (h0 : 0 ≤ left) (h1 : left ≤ 1048576) :
  eE_ fuel LL left = some (szN' left (LL.length + sumN LL)) := by
 unfold eE_ szN'
 rw [G_ (by omega) (by omega), sb]
 by_cases a1 : (LL.length : Int) ≤ left
 ·have hq := oo_ LL hr (by omega) LL.length 0 fuel (left - LL.length) (by omega) (by omega) (by omega) (by omega)
  rw [show ((0 : Nat) : Int) = 0 from rfl, List.drop_zero] at hq
  rw [if_neg (by simp; omega), hq, sb]
  by_cases a2 : (sumN LL : Int) ≤ left - LL.length
  ·rw [if_pos a2, if_pos (by omega)]
   simp only [Option.some.injEq]
   omega
  ·rw [if_neg a2, if_neg (by omega)]
 ·rw [if_pos (by simp; omega), if_neg (by omega)]
theorem jE_ (fuel : Nat) (LL : List (List Int)) (hf : 2000000 ≤ fuel) (h : LL.length + sumN LL ≤ 1048576) : eD_ fuel LL = some LL := by
 unfold eD_ mk
 rw [if_pos (by omega), sb, Int.toNat_natCast, lD_ (cZ_ fuel LL) _ LL (fun j hj s hs => by
  have := nR_ (List.getElem_mem hj)
  unfold cZ_
  simp only
  rw [if_pos (by simp; omega), ct_, List.getElem?_eq_getElem hj, sb, px_ fuel _ (by omega) (by omega), sb, ct_, List.getElem?_eq_getElem (by omega), sb, iO_ _ _ _ (by omega), sb, G_ (by omega) (by omega), sb]; simp)
  (fun s => by unfold cZ_; simp only; rw [if_neg (by simp)]) fuel (by omega), sb]
theorem kh_ (fuel : Nat) (LL : List (List Int)) (hf : 2000000 ≤ fuel) (h : LL.length + sumN LL ≤ 1048576) : eG_ fuel LL LL = some true := by
 unfold eG_
 rw [if_neg (by simp), pt_ (da_ fuel LL LL) LL (fun j hj => by
  have := nR_ (List.getElem_mem hj)
  unfold da_
  rw [if_pos (by simp; omega), ct_, List.getElem?_eq_getElem hj, sb, sb, pI_ fuel _ (by omega) (by omega), sb, if_neg (by simp), G_ (by omega) (by omega), sb]; simp)
  (by unfold da_; rw [if_neg (by simp)]) fuel (by omega), sb]
structure FitP (p : b_) : Prop where
  nodes : p.Nodes.length ≤ 9223372036854775807
  nrows : ∀ r, r ∈ p.Nodes → r.length ≤ 9223372036854775807
  edges : p.Edges.length ≤ 9223372036854775807
  erows : ∀ r, r ∈ p.Edges → r.length ≤ 9223372036854775807
def szPr (p : b_) : Nat := (p.Nodes.length + sumN p.Nodes) + (p.Edges.length + sumN p.Edges)
theorem mJ_ (fuel : Nat) (hf : 2000000 ≤ fuel) (p : b_) (hp : FitP p) (left : Int) (h0 : 0 ≤ left) (h1 : left ≤ 1048576) : el_ fuel p left = some (szN' left (szPr p)) := by
 unfold el_
 rw [jQ_ fuel hf _ hp.nodes hp.nrows left h0 h1, sb]
 unfold szPr
 generalize p.Nodes.length + sumN p.Nodes = a
 unfold szN'
 by_cases a1 : (a : Int) ≤ left
 ·rw [if_pos a1, if_neg (by simp; omega), jQ_ fuel hf _ hp.edges hp.erows _ (by omega) (by omega), sb]
  generalize p.Edges.length + sumN p.Edges = b
  unfold szN'
  by_cases a2 : (b : Int) ≤ left - a
  ·rw [if_pos a2, if_neg (by simp; omega), if_pos (by omega)]
   congr 1; omega
  ·rw [if_neg a2, if_pos (by decide), if_neg (by omega)]
 ·rw [if_neg a1, if_pos (by decide), if_neg (by omega)]
theorem nf_ (fuel : Nat) (hf : 2000000 ≤ fuel) (p : b_) (h : szPr p ≤ 1048576) : cX_ fuel p = some p := by
 unfold cX_
 unfold szPr at h
 rw [jE_ fuel _ hf (by omega), sb, jE_ fuel _ hf (by omega), sb]
theorem mZ_ (fuel : Nat) (hf : 2000000 ≤ fuel) (p : b_) (h : szPr p ≤ 1048576) : eo_ fuel p p = some true := by
 unfold eo_
 unfold szPr at h
 rw [if_neg (by simp), if_neg (by simp), kh_ fuel _ hf (by omega), sb, if_neg (by simp), kh_ fuel _ hf (by omega), sb, if_neg (by simp)]
end

section
theorem rR_ {w : World} {u : List Value} {p : b_} (h : Rp.rd zt w u p) : FitP p := by
 obtain ⟨v1, v2, rfl, h1, h2⟩ := h
 exact ⟨h1.lenz, h1.rowz, h2.lenz, h2.rowz⟩
theorem hR_ (p : b_) (hp : FitP p) : bN_ 1000000000 p = some true := by
 unfold bN_
 rw [mJ_ 1000000000 (by omega) p hp _ (by omega) (by omega), sb]
 unfold szN'
 by_cases a1 : (szPr p : Int) ≤ 1048576
 ·have z1 : szPr p ≤ 1048576 := by omega
  have q1 : p.Nodes.length ≤ 100000000 := by unfold szPr at z1; omega
  have q2 : p.Edges.length ≤ 100000000 := by unfold szPr at z1; omega
  rw [if_pos a1, if_neg (by simp; omega)]
  obtain ⟨v, h1, h2⟩ := jt_ 1000000000 (by omega) p q1 q2
  simp only [nf_ 1000000000 (by omega) p z1, h1, h2, mZ_ 1000000000 (by omega) p z1, sb, bne_self_eq_false, Bool.false_eq_true, if_false, Bool.not_true]
 ·rw [if_neg a1, if_pos (by decide)]
theorem lawIsFixedPoint (u0 : List Value) (l0 : b_) (w : World) (r0 : Rp.rd zt w u0 l0) :
  Calls Tryz.prog 5 #[.agg u0.toArray] w fun e w' => e = .returned (.bool true) ∧ Keeps w w' :=
 fY_ 1000000000 w u0 l0 r0 true (hR_ l0 (rR_ r0))
end

section
open Go.ChangeShapes Go.WideShapes Go.ChangeAt Go.RowKit Go.Deep Go.Joins
set_option maxRecDepth 100000
section
variable {H : Type} {enc : TypeId × Value → H} {W : World}
def Opn (enc : TypeId × Value → H) (W : World) (t : TypeId) (α : Type) [Rp α] : Prop :=
  ∀ (n : Nat) (cs : List Value) (y : DataW H × List MemPlace), DataW.trod enc Tryz.prog W 0 (fun _ => true) true n t cs = some y → ∃ x : α, Rp.rd zt W cs x
theorem mw_ : Opn enc W 3 Int := fun n cs y h => by
 obtain ⟨m, h1, _, h2⟩ := DataW.trod_int Tryz.underlying3 h
 exact ⟨m, h1⟩
theorem kT_ {α : Type} [Rp α] {t e : TypeId} (ht : Tryz.prog.underlying t = some (.slice e)) (hc : Tryz.prog.cellsOf e = Rp.sz α) (he : Opn enc W e α) : Opn enc W t (List α) := fun n cs y h => by
 rcases DataW.trod_slice ht h with ⟨rfl, _⟩ | ⟨a, len, cap, elems, rest, m, _, rfl, _, hb, hl, hm, hlen, hel, _, _⟩
 ·exact ⟨[], _, rfl, RdL.nil zt W⟩
 ·rw [hc] at hel
  by_cases h0 : len = 0
  ·subst h0
   exact ⟨[], _, rfl, some a, cap, by simp, by simp, hm, fun i x hx => by simp at hx⟩
  have hpos := Rp.pos (α := α)
  obtain ⟨b, off, spot⟩ := a
  have hs : spot = none := by
   have h1 := hel 0 (by omega)
   rw [List.getElem?_eq_getElem (show 0 < elems.length by omega), Option.bind_eq_some_iff] at h1
   obtain ⟨cs, h3, h4⟩ := h1
   obtain ⟨_, h5, h6⟩ := World.cells?_some h3
   have h7 := h6 0 hpos
   rw [List.getElem?_eq_getElem (show 0 < cs.length by omega)] at h7
   simpa [Addr.add] using World.cell?_spot h7
  subst hs
  have each : ∀ i, i < len → ∃ x : α, ∃ cs, b < W.heap.size ∧ Cells W b (off + i * Rp.sz α) cs ∧ Rp.rd zt W cs x := fun i hi => by
   have h1 := hel i hi
   rw [List.getElem?_eq_getElem (show i < elems.length by omega), Option.bind_eq_some_iff] at h1
   obtain ⟨cs, h3, h4⟩ := h1
   obtain ⟨x, hx⟩ := he m cs _ h4
   rw [Go.WideShapes.add_plain] at h3
   obtain ⟨_, h5, h6⟩ := World.cells?_some h3
   refine ⟨x, cs, World.cells?_block h3 hpos, fun j v hj => ?_, hx⟩
   have hjl := (List.getElem?_eq_some_iff.1 hj).1
   have := h6 j (by omega)
   rw [hj, Go.WideShapes.add_plain] at this
   exact this
  refine ⟨List.ofFn fun i : _root_.Fin len => Classical.choose (each i.1 i.2), _, rfl, some ⟨b, off, none⟩, cap, by simp, by simpa using hl, hm, fun i x hx => ?_⟩
  have hi : i < len := by
   have := (List.getElem?_eq_some_iff.1 hx).1
   simpa using this
  rw [List.getElem?_eq_getElem (by simpa using hi), List.getElem_ofFn] at hx
  obtain ⟨cs, h2, h3, h4⟩ := Classical.choose_spec (each i hi)
  cases hx
  exact ⟨b, off, cs, rfl, rfl, h2, h3, h4⟩
theorem list4 {cs : List Value} (h : cs.length = 4) : ∃ a b c d, cs = [a, b, c, d] := by
 match cs, h with
 | [a, b, c, d], _ => exact ⟨a, b, c, d, rfl⟩
theorem ok_ {t : TypeId} {fs : Array Field} {n : Nat} {cs : List Value} {y : DataW H × List MemPlace} (ht : Tryz.prog.underlying t = some (.struct fs)) (hone : oneCellFields Tryz.prog fs = true) (h : DataW.trod enc Tryz.prog W 0 (fun _ => true) true n t cs = some y) :
  ∃ m, cs.length = Tryz.prog.cellsOf t ∧ ∀ (i : Nat) (f : Field), fs[i]? = some f → ∃ y', DataW.trod enc Tryz.prog W 0 (fun _ => true) true m f.type ((cs.drop i).take 1) = some y' := by
 obtain ⟨xs, m, _, _, hl, hx, hf⟩ := DataW.trod_struct ht h
 refine ⟨m, hl, fun i f hi => ?_⟩
 obtain ⟨o0, k0⟩ := hone_of hone i f hi
 have h0 := hf i f hi
 have hlt : i < xs.length := by rw [hx]; exact (Array.getElem?_eq_some_iff.1 hi).1
 rw [o0, k0, List.getElem?_eq_getElem hlt] at h0
 exact ⟨_, h0⟩
theorem qy_ : Opn enc W 41 (List Int) := kT_ Tryz.underlying41 (by kernel_rfl) mw_
theorem of_ : Opn enc W 22 (List (List Int)) := kT_ Tryz.underlying22 (by kernel_rfl) qy_
theorem rQ_ {α : Type} [Rp α] {t : TypeId} {fs : Array Field} (hs : Tryz.prog.underlying t = some (.struct fs)) (ho : Opn enc W t α) {base : Nat} {v : Value} {d : DataW H} {p : List MemPlace} (hval : Value.okWide Tryz.prog W .any base t v)
  (h : DataW.Trod enc Tryz.prog W 0 (fun _ => true) true t v d p) : ∃ (x : α) (u : List Value), v = .agg u.toArray ∧ Rp.rd zt W u x := by
 obtain ⟨cs, rfl, _⟩ := okWide_struct hs hval
 obtain ⟨fuel, hf⟩ := h
 obtain ⟨x, hx⟩ := ho fuel _ _ hf
 exact ⟨x, cs.toList, by simp, by simpa [Value.cells] using hx⟩
end
end

section
open Go.ChangeShapes Go.WideShapes Go.ChangeAt Go.RowKit Go.Deep Go.Joins
set_option maxRecDepth 100000
section
variable {H : Type} {enc : TypeId × Value → H} {W : World}
theorem ms_ : Opn enc W 24 b_ := fun n cs y h => by
 obtain ⟨m, hl, hf⟩ := ok_ Tryz.underlying24 (by kernel_rfl) h
 obtain ⟨c0, c1, c2, c3, rfl⟩ := list4 (hl.trans (by kernel_rfl))
 obtain ⟨y0, h0⟩ := hf 0 _ rfl
 obtain ⟨y1, h1⟩ := hf 1 _ rfl
 obtain ⟨y2, h2⟩ := hf 2 _ rfl
 obtain ⟨y3, h3⟩ := hf 3 _ rfl
 obtain ⟨a0, e0⟩ := mw_ (enc := enc) (W := W) m [c0] _ h0
 obtain ⟨a1, e1⟩ := mw_ (enc := enc) (W := W) m [c1] _ h1
 obtain ⟨a2, v2, e2, r2⟩ := of_ (enc := enc) (W := W) m [c2] _ h2
 obtain ⟨a3, v3, e3, r3⟩ := of_ (enc := enc) (W := W) m [c3] _ h3
 cases e0; cases e1; cases e2; cases e3
 exact ⟨⟨a0, a1, a2, a3⟩, _, _, rfl, r2, r3⟩
theorem openPrb {base : Nat} {v : Value} {d : DataW H} {p : List MemPlace} (hval : Value.okWide Tryz.prog W .any base 24 v)
  (h : DataW.Trod enc Tryz.prog W 0 (fun _ => true) true 24 v d p) : ∃ (x : b_) (u : List Value), v = .agg u.toArray ∧ Rp.rd zt W u x := rQ_ Tryz.underlying24 ms_ hval h
end
end

end Go.Proofs.YtdbbeldgdgonfaaGreat
