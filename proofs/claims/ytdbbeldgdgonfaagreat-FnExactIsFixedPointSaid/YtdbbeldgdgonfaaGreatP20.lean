/- Part 20 of what this claim rests on (Elh), packed by pack.py. -/
import Derived.Test.YtdbbeldgdgonfaaGreatP12
import Derived.Test.YtdbbeldgdgonfaaGreatP14
import Derived.Test.YtdbbeldgdgonfaaGreatP15
import Derived.Test.YtdbbeldgdgonfaaGreatP19
namespace Go.Proofs.YtdbbeldgdgonfaaGreat
set_option linter.unusedSimpArgs false
set_option linter.unusedVariables false

section
open Go.Lib
theorem oK_ (fuel : Nat) (p : b_) (h : probB p = true) (hJ : p.Edges.length ≤ 1000000000) (hf : p.Edges.length < fuel) (xs ys : List Int) :
  ∃ l b, fl_ fuel p xs ys = some (l, b) ∧ (b = true ↔ ∃ a ∈ xs, ∃ c ∈ ys, srt [a, c] ∉ p.Edges) := by
 have hin : ∀ a, ∃ z, forI (db_ fuel p a) ys 0 () = some z ∧ ((z = .inl () ∧ ∀ c ∈ ys, ¬ srt [a, c] ∉ p.Edges) ∨ ∃ r, z = .inr r ∧ r.2 = true ∧ ∃ c ∈ ys, srt [a, c] ∉ p.Edges) := fun a =>
  dT_ (body := db_ fuel p a) (fun c => srt [a, c] ∉ p.Edges) (fun r : List Int × Bool => r.2 = true) ys 0 (fun c _ j => by
   unfold db_
   rw [rp_ fuel p h a c hJ hf, sb]
   by_cases hc : srt [a, c] ∈ p.Edges
   ·exact ⟨_, by rw [if_neg (by simpa using hc)], .inl ⟨rfl, fun hn => hn hc⟩⟩
   ·exact ⟨_, by rw [if_pos (by simpa using hc)], .inr ⟨_, rfl, rfl, hc⟩⟩)
 obtain ⟨z, h1, h2⟩ := dT_ (body := dI_ fuel p ys) (fun a => ∃ c ∈ ys, srt [a, c] ∉ p.Edges) (fun r : List Int × Bool => r.2 = true) xs 0 (fun a _ j => by
  obtain ⟨z, h1, h2⟩ := hin a
  unfold dI_
  rw [h1, sb]
  rcases h2 with ⟨rfl, hno⟩ | ⟨r, rfl, hr, hq⟩
  ·exact ⟨_, rfl, .inl ⟨rfl, fun ⟨c, hc, hn⟩ => hno c hc hn⟩⟩
  ·exact ⟨_, rfl, .inr ⟨r, rfl, hr, hq⟩⟩)
 unfold fl_
 rw [h1, sb]
 rcases h2 with ⟨rfl, hno⟩ | ⟨⟨l, b⟩, rfl, hr, hq⟩
 ·refine ⟨[], false, rfl, by simp, fun ⟨a, ha, hc⟩ => absurd hc (hno a ha)⟩
 ·exact ⟨l, b, rfl, fun _ => hq, fun _ => hr⟩
open Classical in
theorem lL_ (fuel : Nat) (p : b_) (h : probB p = true) (hJ : p.Edges.length ≤ 1000000000) (hf : p.Edges.length < fuel) (xs ys : List Int) :
    dK_ fuel p xs ys = some (decide (∀ a ∈ xs, ∀ c ∈ ys, srt [a, c] ∈ p.Edges)) := by
  obtain ⟨l, b, h1, h2⟩ := oK_ fuel p h hJ hf xs ys
  unfold dK_
  rw [h1, sb]
  congr 1
  cases b
  · have : ∀ a ∈ xs, ∀ c ∈ ys, srt [a, c] ∈ p.Edges := fun a ha c hc => Classical.byContradiction fun hn => by simpa using h2.2 ⟨a, ha, c, hc, hn⟩
    rw [decide_eq_true this]; rfl
  · obtain ⟨a, ha, c, hc, hn⟩ := h2.1 rfl
    have : ¬ ∀ a ∈ xs, ∀ c ∈ ys, srt [a, c] ∈ p.Edges := fun hh => hn (hh a ha c hc)
    rw [decide_eq_false this]; rfl
theorem nX_ (fuel : Nat) (p : b_) (h : probB p = true) (hJ : p.Edges.length ≤ 1000000000) (hf : p.Edges.length < fuel) (hf8 : 10 ≤ fuel) (S : Nat) (hS : S < 256) : fk_ fuel p (S : Int) = some ((nearN p S : Nat) : Int) := by
 obtain ⟨g1, g2, g3, g4, -, -⟩ := aU_ h
 obtain ⟨L, hL⟩ : ∃ L : Nat, p.Labels = (L : Int) := ⟨p.Labels.toNat, by omega⟩
 have hloop := ev_ (body := en_ fuel p (S : Int)) (fun j => ((bitsP (fun b => ∀ a ∈ lbs 8 S, srt [a, (b : Int)] ∈ p.Edges) j : Nat) : Int)) L (fun j hj => by
  have hlt := ec_ (fun b : Nat => ∀ a ∈ lbs 8 S, srt [a, (b : Int)] ∈ p.Edges) j
  have h2 : 2 ^ j ≤ 256 := cV_ (by omega)
  unfold en_
  rw [ka_ 8 S fuel (by omega) (by omega) (by omega), sb, lL_ fuel p h hJ hf, sb]
  by_cases hc : ∀ a ∈ lbs 8 S, srt [a, (j : Int)] ∈ p.Edges
  ·have hc2 : ∀ a ∈ lbs 8 S, ∀ c ∈ [(j : Int)], srt [a, c] ∈ p.Edges := fun a ha c hcc => by rw [List.mem_singleton.1 hcc]; exact hc a ha
   rw [if_pos (decide_eq_true hc2), fi_ (by omega), sb, pL_ (by omega) (by omega), hx_ hc]
  ·have hc2 : ¬ ∀ a ∈ lbs 8 S, ∀ c ∈ [(j : Int)], srt [a, c] ∈ p.Edges := fun hh => hc fun a ha => hh a ha _ (by simp)
   rw [if_neg (by simpa using hc2), it_ hc])
 unfold fk_ nearN
 rw [hL, G_ (by omega) (by omega), sb, Int.toNat_natCast]
 simp only [bitsP, Int.natCast_zero] at hloop
 rw [hloop, sb]
theorem cc1 : ∀ (full : List (List Int)) (k : Int) (s : Nat), s + full.flatten.length ≤ 1000000000 → forI ak_ full k (s : Int) = some (.inl ((s + full.flatten.length : Nat) : Int))
 | [], k, s, _ => by simp [forI]
 | x :: full, k, s, h => by
  rw [List.flatten_cons, List.length_append] at h
  have h0 : ak_ k x (s : Int) = some (.go ((s + x.length : Nat) : Int)) := by
   unfold ak_
   rw [G_ (by omega) (by omega), sb, if_neg (by simp; omega)]
   rfl
  simp only [forI, h0]
  rw [cc1 full (k + 1) (s + x.length) (by omega), List.flatten_cons, List.length_append, Nat.add_assoc]
theorem cc2 : ∀ (full : List (List Int)) (k : Int) (acc : List Int), acc.length + full.flatten.length ≤ 1000000000 → forI an_ full k acc = some (.inl (acc ++ full.flatten))
 | [], k, acc, _ => by simp [forI]
 | x :: full, k, acc, h => by
  rw [List.flatten_cons, List.length_append] at h
  have h0 : an_ k x acc = some (.go (acc ++ x)) := by
   unfold an_ cat
   rw [if_pos (by omega), sb]
  simp only [forI, h0]
  rw [cc2 full (k + 1) (acc ++ x) (by rw [List.length_append]; omega), List.flatten_cons, List.append_assoc]
theorem qZ_ (full : List (List Int)) (h : full.flatten.length ≤ 1000000000) : aZ_ full = some full.flatten := by
 have h1 := cc1 full 0 0 (by omega)
 have h2 := cc2 full 0 [] (by simpa using h)
 rw [Nat.zero_add, show ((0 : Nat) : Int) = 0 from rfl] at h1
 rw [List.nil_append] at h2
 unfold aZ_ growO
 rw [h1, sb]
 simp only
 rw [if_pos (by omega), sb, h2, sb]
theorem sd_ {zs : List Int} (hs : zs.Pairwise (· ≤ ·)) {i j : Nat} (hij : i ≤ j) (hj : j < zs.length) : zs.toArray[i]! ≤ zs.toArray[j]! := by
 have h1 : zs.toArray[i]! = zs[i]'(by omega) := by simp [show i < zs.length by omega]
 have h2 : zs.toArray[j]! = zs[j] := by simp [hj]
 rw [h1, h2]
 by_cases e : i = j
 ·subst e; exact Int.le_refl _
 ·exact List.pairwise_iff_getElem.1 hs i j (by omega) hj (by omega)
theorem jp_ {zs : List Int} (hs : zs.Pairwise (· ≤ ·)) : ∀ m, m ≤ zs.length → (∀ y, y ∈ compactUpTo zs.toArray m ↔ ∃ j, j < m ∧ zs.toArray[j]! = y) ∧ (compactUpTo zs.toArray m).Pairwise (· < ·)
 | 0, _ => by simp [compactUpTo]
 | m + 1, hm => by
  obtain ⟨h1, h2⟩ := jp_ hs m (by omega)
  rw [compactUpTo_succ]
  by_cases hk : m = 0 ∨ zs.toArray[m]! ≠ zs.toArray[m - 1]!
  ·have hkp : keeps zs.toArray m = true := by
    rcases hk with rfl | hk
    ·exact keeps_lt_one _ 0 (by omega)
    ·exact keeps_pos hk
   rw [if_pos hkp]
   constructor
   ·intro y
    rw [List.mem_append, h1, List.mem_singleton]
    constructor
    ·rintro (⟨j, hj, e⟩ | rfl)
     ·exact ⟨j, by omega, e⟩
     ·exact ⟨m, by omega, rfl⟩
    ·rintro ⟨j, hj, e⟩
     by_cases hjm : j = m
     ·subst hjm; exact .inr e.symm
     ·exact .inl ⟨j, by omega, e⟩
   ·rw [List.pairwise_append]
    refine ⟨h2, by simp, fun a ha b hb => ?_⟩
    rw [List.mem_singleton.1 hb]
    obtain ⟨j, hj, rfl⟩ := (h1 a).1 ha
    rcases hk with rfl | hk
    ·omega
    ·have g1 := sd_ hs (i := j) (j := m - 1) (by omega) (by omega)
     have g2 := sd_ hs (i := m - 1) (j := m) (by omega) (by omega)
     omega
  ·have h0 : 0 < m := Nat.pos_of_ne_zero fun e => hk (.inl e)
   have he : zs.toArray[m]! = zs.toArray[m - 1]! := Classical.byContradiction fun e => hk (.inr e)
   rw [if_neg (by rw [keeps_neg h0 he]; simp), List.append_nil]
   refine ⟨fun y => ?_, h2⟩
   rw [h1]
   constructor
   ·rintro ⟨j, hj, e⟩
    exact ⟨j, by omega, e⟩
   ·rintro ⟨j, hj, e⟩
    by_cases hjm : j = m
    ·subst hjm; exact ⟨j - 1, by omega, by rw [← he, e]⟩
    ·exact ⟨j, by omega, e⟩
theorem mV_ {zs : List Int} (hs : zs.Pairwise (· ≤ ·)) : (compact zs).Pairwise (· < ·) ∧ ∀ y, y ∈ compact zs ↔ y ∈ zs := by
 obtain ⟨h1, h2⟩ := jp_ hs zs.length (Nat.le_refl _)
 refine ⟨h2, fun y => ?_⟩
 show y ∈ compactUpTo zs.toArray zs.length ↔ _
 rw [h1, List.mem_iff_getElem]
 constructor
 ·rintro ⟨j, hj, rfl⟩
  exact ⟨j, hj, by simp [hj]⟩
 ·rintro ⟨j, hj, rfl⟩
  exact ⟨j, hj, by simp [hj]⟩
theorem rx_ {xs : List Int} (h : ∀ x ∈ xs, 0 ≤ x ∧ x < 256) : compact (srt xs) = sdI xs := by
 obtain ⟨h1, h2⟩ := mV_ (hE_ xs)
 refine nV_ h1 (hB_ xs) fun a => ?_
 rw [h2, iI_ h, (fe_ xs).mem_iff]
theorem mc_ (fuel : Nat) (sets : List Int) (hs : sets.Pairwise (· < ·)) (hl : sets.length ≤ 1000) (hf : 1000 < fuel) : ∀ (x : List Int) (k : Int) (acc : List Int), acc.length + x.length ≤ 1000000000 → forI (cp_ fuel sets) x k acc = some (.inl (acc ++ x.map (idxI sets)))
 | [], k, acc, _ => by simp [forI]
 | y :: x, k, acc, h => by
  rw [List.length_cons] at h
  have h0 : cp_ fuel sets k y acc = some (.go (acc ++ [idxI sets y])) := by
   unfold cp_
   rw [jw_ fuel sets y (hs.imp fun {a b} h => by omega) (by omega) (by omega), sb]
   unfold push
   rw [if_pos (by omega), sb]
   rfl
  simp only [forI, h0]
  rw [mc_ fuel sets hs hl hf x (k + 1) _ (by rw [List.length_append, List.length_singleton]; omega), List.map_cons, List.append_assoc, List.singleton_append]
theorem lC_ (fuel : Nat) (sets : List Int) (hs : sets.Pairwise (· < ·)) (hl : sets.length ≤ 1000) (hf : 1000 < fuel) : ∀ (full : List (List Int)) (k : Int) (acc : List (List Int)), (∀ x ∈ full, x.length ≤ 1000) → acc.length + full.length ≤ 1000000000 → forI (cn_ fuel sets) full k acc = some (.inl (acc ++ full.map (nmb sets)))
 | [], k, acc, _, _ => by simp [forI]
 | x :: full, k, acc, hx, h => by
  rw [List.length_cons] at h
  have hxl := hx x (by simp)
  have h0 : cn_ fuel sets k x acc = some (.go (acc ++ [nmb sets x])) := by
   unfold cn_
   rw [mc_ fuel sets hs hl hf x 0 [] (by simp; omega), sb]
   simp only [List.nil_append]
   unfold srtO push
   rw [if_pos (by rw [List.length_map]; omega), sb, if_pos (by omega), sb]
   rfl
  simp only [forI, h0]
  rw [lC_ fuel sets hs hl hf full (k + 1) _ (fun y hy => hx y (by simp [hy])) (by rw [List.length_append, List.length_singleton]; omega), List.map_cons, List.append_assoc, List.singleton_append]
theorem lk_ {d : Nat} : ∀ {full : List (List Int)}, (∀ x ∈ full, x.length = d) → full.flatten.length = full.length * d
 | [], _ => by simp
 | x :: full, h => by
  rw [List.flatten_cons, List.length_append, lk_ fun y hy => h y (by simp [hy]), h x (by simp), List.length_cons, Nat.succ_mul, Nat.add_comm]
theorem iQ_ (fuel : Nat) (hf : 1000 < fuel) {d : Nat} (hd : d ≤ 4) (full : List (List Int)) (hx : ∀ x ∈ full, x.length = d ∧ ∀ y ∈ x, 0 ≤ y ∧ y < 256) (hl : full.length ≤ 100000000) :
  do_ fuel full = some (sdI full.flatten, sxd (full.map (nmb (sdI full.flatten)))) := by
 have hfl := lk_ (full := full) fun x h => (hx x h).1
 have hle : full.flatten.length ≤ 1000000000 := by
  rw [hfl]
  have : full.length * d ≤ 100000000 * 4 := Nat.mul_le_mul hl hd
  omega
 have hin : ∀ y ∈ full.flatten, 0 ≤ y ∧ y < 256 := fun y hy => by
  obtain ⟨x, h1, h2⟩ := List.mem_flatten.1 hy
  exact (hx x h1).2 y h2
 have hsl := mY_ full.flatten
 have h3 := lC_ fuel (sdI full.flatten) (hB_ _) (by omega) hf full 0 [] (fun x h => by rw [(hx x h).1]; omega) (by simp; omega)
 unfold do_
 rw [qZ_ full hle, sb]
 unfold srtO cmpO
 rw [if_pos hle, sb, if_pos (by rw [dq_]; exact hle), sb, rx_ hin, h3, sb]
 simp only [List.nil_append]
 rw [pb_ (L := d) (by rw [List.length_map]; omega) (by omega) (fun z hz => by
  obtain ⟨x, h1, rfl⟩ := List.mem_map.1 hz
  rw [hL_, (hx x h1).1]), sb]
theorem kb_ (fuel : Nat) (hf : 10 ≤ fuel) (sets : List Int) (hs : ∀ s ∈ sets, 0 ≤ s ∧ s < 256) : ∀ (c : List Int) (k : Int) (acc : List (List Int)), (∀ y ∈ c, 0 ≤ y ∧ y < sets.length) → acc.length + c.length ≤ 1000000000 → forI (cY_ fuel sets) c k acc = some (.inl (acc ++ (imgL sets c).map fun s => lbs 8 s.toNat))
 | [], k, acc, _, _ => by simp [forI, imgL]
 | y :: c, k, acc, hc, h => by
  rw [List.length_cons] at h
  have hy := hc y (by simp)
  have hyl : y.toNat < sets.length := by omega
  have hS := hs _ (List.getElem_mem hyl)
  have h0 : cY_ fuel sets k y acc = some (.go (acc ++ [lbs 8 sets[y.toNat].toNat])) := by
   unfold cY_
   have hix : ix sets y = some sets[y.toNat] := by
    have := fW_ sets y.toNat hyl
    rwa [Int.toNat_of_nonneg hy.1] at this
   have hlab : dk_ fuel sets[y.toNat] = some (lbs 8 sets[y.toNat].toNat) := by
    have := ka_ 8 sets[y.toNat].toNat fuel (by omega) (by omega) (by omega)
    rwa [Int.toNat_of_nonneg hS.1] at this
   rw [hix, sb, hlab, sb]
   unfold push
   rw [if_pos (by omega), sb]
  have hg : sets.getD y.toNat 0 = sets[y.toNat] := by rw [List.getD_eq_getElem?_getD, List.getElem?_eq_getElem hyl]; rfl
  simp only [forI, h0]
  rw [kb_ fuel hf sets hs c (k + 1) _ (fun z hz => hc z (by simp [hz])) (by rw [List.length_append, List.length_singleton]; omega)]
  simp only [imgL, List.map_cons, hg, List.append_assoc, List.singleton_append]
theorem kX_ (fuel : Nat) (hf : 10 ≤ fuel) (sets : List Int) (hs : ∀ s ∈ sets, 0 ≤ s ∧ s < 256) (c : List Int) (hc : ∀ y ∈ c, 0 ≤ y ∧ y < sets.length) (hl : c.length ≤ 1000) : eF_ fuel sets c = some ((imgL sets c).map fun s => lbs 8 s.toNat) := by
 unfold eF_
 rw [kb_ fuel hf sets hs c 0 [] hc (by simp; omega), sb]
 rfl
theorem hV_ : ∀ {xs : List Int} {m : List Int}, (∀ s ∈ xs, 0 ≤ s ∧ s < 256) → (cho (xs.map Int.toNat) m ↔ m.length = xs.length ∧ ∀ (i : Nat) L a, (xs.map fun s => lbs 8 s.toNat)[i]? = some L → m[i]? = some a → a ∈ L)
 | [], m, _ => by
  cases m with
  | nil => simp [cho]
  | cons a m => simp [cho]
 | s :: xs, m, h => by
  have hs := h s (by simp)
  rw [List.map_cons, hj_ (by omega)]
  constructor
  ·rintro ⟨a, m', rfl, ha, hm⟩
   obtain ⟨h1, h2⟩ := (hV_ fun z hz => h z (by simp [hz])).1 hm
   refine ⟨by simp [h1], fun i L b hL hb => ?_⟩
   cases i with
   | zero => simp at hL hb; subst hL hb; exact ha
   | succ i => exact h2 i L b (by simpa using hL) (by simpa using hb)
  ·rintro ⟨h1, h2⟩
   cases m with
   | nil => simp at h1
   | cons a m =>
    refine ⟨a, m, rfl, h2 0 _ a (by simp) (by simp), (hV_ fun z hz => h z (by simp [hz])).2 ⟨by simpa using h1, fun i L b hL hb => h2 (i + 1) L b (by simpa using hL) (by simpa using hb)⟩⟩
theorem od_ {sets c : List Int} (hs : ∀ s ∈ sets, 0 ≤ s ∧ s < 256) (hc : ∀ y ∈ c, 0 ≤ y ∧ y < sets.length) : ∀ s ∈ imgL sets c, 0 ≤ s ∧ s < 256 := fun s h => hs s (nB_ hc h)
open Classical in
theorem ly_ (fuel : Nat) (p : b_) (h : probB p = true) (hJ : p.Nodes.length ≤ 1000000000) (hf : p.Nodes.length < fuel) (hf9 : 10 ≤ fuel) (sets : List Int) (hs : ∀ s ∈ sets, 0 ≤ s ∧ s < 256) (c : List Int) (hc : ∀ y ∈ c, 0 ≤ y ∧ y < sets.length) (hl : (c.length : Int) = p.Degree) :
    bY_ fuel c p sets = some (decide (chS p.Nodes sets c)) := by
  obtain ⟨g1, g2, g3, g4, -, -⟩ := aU_ h
  have hil := gR_ sets c
  obtain ⟨l, b, e1, e2⟩ := hv_ fuel ((imgL sets c).map fun s => lbs 8 s.toNat) (fun z => at_ fuel z p) (fun m => decide (srt m ∈ p.Nodes)) (fun m hm => by
    rw [List.length_map, hil] at hm
    unfold at_
    rw [rg_ fuel p h m (by rw [hm]; exact hl) hJ hf, sb]) (by rw [List.length_map, hil]; omega) (by rw [List.length_map, hil]; omega)
  unfold bY_ ca_
  rw [kX_ fuel hf9 sets hs c hc (by omega), sb, e1, sb, sb]
  have hiff : chS p.Nodes sets c ↔ b = true := by
    rw [e2]
    unfold chS
    constructor
    · rintro ⟨m, hm, hg⟩
      obtain ⟨q1, q2⟩ := (hV_ (od_ hs hc)).1 hm
      exact ⟨m, by rw [List.length_map]; exact q1, q2, by simpa using hg⟩
    · rintro ⟨m, q1, q2, hg⟩
      exact ⟨m, (hV_ (od_ hs hc)).2 ⟨by rw [List.length_map] at q1; exact q1, q2⟩, by simpa using hg⟩
  cases b <;> simp [hiff]
open Classical in
theorem lu_ (fuel : Nat) (p : b_) (h : probB p = true) (hJ : p.Edges.length ≤ 1000000000) (hf : p.Edges.length < fuel) (hf9 : 10 ≤ fuel) (sets : List Int) (hs : ∀ s ∈ sets, 0 ≤ s ∧ s < 256) (c : List Int) (hc : ∀ y ∈ c, 0 ≤ y ∧ y < sets.length) (hl : c.length = 2) :
    bR_ fuel c p sets = some (decide (chS p.Edges sets c)) := by
  have hil := gR_ sets c
  obtain ⟨l, b, e1, e2⟩ := hv_ fuel ((imgL sets c).map fun s => lbs 8 s.toNat) (fun z => av_ fuel z p) (fun m => decide (srt m ∈ p.Edges)) (fun m hm => by
    rw [List.length_map, hil, hl] at hm
    match m, hm with
    | [a, b], _ =>
      unfold av_
      rw [show ix [a, b] 0 = some a from rfl, sb, show ix [a, b] 1 = some b from rfl, sb, rp_ fuel p h a b hJ hf, sb]) (by rw [List.length_map, hil]; omega) (by rw [List.length_map, hil]; omega)
  unfold bR_ bS_
  rw [kX_ fuel hf9 sets hs c hc (by omega), sb, e1, sb, sb]
  have hiff : chS p.Edges sets c ↔ b = true := by
    rw [e2]
    unfold chS
    constructor
    · rintro ⟨m, hm, hg⟩
      obtain ⟨q1, q2⟩ := (hV_ (od_ hs hc)).1 hm
      exact ⟨m, by rw [List.length_map]; exact q1, q2, by simpa using hg⟩
    · rintro ⟨m, q1, q2, hg⟩
      exact ⟨m, (hV_ (od_ hs hc)).2 ⟨by rw [List.length_map] at q1; exact q1, q2⟩, by simpa using hg⟩
  cases b <;> simp [hiff]
theorem iB_ (fuel n d : Nat) (G : List Int → Option Bool) (g : List Int → Bool) (hG : ∀ c, ndP n d c → G c = some (g c)) (hn : n ≤ 8) (hd : d ≤ 4) (hf : 100 ≤ fuel) : dt_ fuel (n : Int) (d : Int) G = some ((msD n d).filter g) := by
 have hb : ∀ k, k ≤ d → n ^ k ≤ 1000000000 := fun k hk => by have := df_ (L := n) (k := k) hn (by omega); omega
 have hlen := Nat.le_trans (fQ_ n d) (hb d (Nat.le_refl d))
 have hone : ∀ c ∈ msD n d, bD_ c G = some (!g c) := fun c hc => by
  unfold bD_
  rw [hG c ((dW_ n d c).1 hc), sb]
 unfold dt_ delL
 rw [jo_ n d fuel (by omega) (by omega) hb (by omega), sb, if_pos, sb]
 ·congr 1
  refine List.filter_congr fun c hc => ?_
  show ((bD_ c G).getD true == false) = g c
  rw [hone c hc]
  cases g c <;> rfl
 ·rw [Bool.and_eq_true, decide_eq_true_eq, List.all_eq_true]
  exact ⟨hlen, fun c hc => by
   show (bD_ c G).isSome = true
   rw [hone c hc]; rfl⟩
theorem op_ (fuel : Nat) (hf : 1000000000 ≤ fuel) (p : b_) (h : probB p = true) (hJ : p.Nodes.length ≤ 100000000) (hE : p.Edges.length ≤ 100000000) : eN_ fuel p = some (edgeV p) := by
 obtain ⟨g1, g2, g3, g4, -, -⟩ := aU_ h
 have h2 : 2 ^ p.Labels.toNat ≤ 256 := cV_ (by omega)
 have h1 : 1 ≤ 2 ^ p.Labels.toNat := Nat.one_le_two_pow
 have hsh : shl 1 p.Labels = some ((2 ^ p.Labels.toNat : Nat) : Int) := by
  have := fi_ (a := p.Labels.toNat) (by omega)
  rwa [Int.toNat_of_nonneg (by omega)] at this
 have hV : edgeV p = madeV p (fullTo p (2 ^ p.Labels.toNat - 1)) true := rfl
 have hX : ∀ x ∈ fullTo p (2 ^ p.Labels.toNat - 1), x.length = 2 ∧ ∀ y ∈ x, 0 ≤ y ∧ y < 256 := kJ_ p g2
 obtain ⟨N, hN⟩ : ∃ N : Nat, 2 ^ p.Labels.toNat = N := ⟨_, rfl⟩
 rw [hN] at h1 h2 hsh hV hX
 have hloop := cI_ (f := cC_ fuel p) (fun j => (fullTo p j, ((j + 1 : Nat) : Int))) (N - 1) (fun j hj => by
  have hfl := fw_ p j
  unfold cC_
  simp only
  rw [hsh, sb, if_pos (by simp; omega), nX_ fuel p h (by omega) (by omega) (by omega) (j + 1) (by omega), sb, ja_]
  have hn := km_ p (j + 1) g2
  by_cases hc : 0 < nearN p (j + 1)
  ·rw [if_pos (by simp; omega), nX_ fuel p h (by omega) (by omega) (by omega) _ hn, sb, sb]
   by_cases hc2 : nearN p (nearN p (j + 1)) = j + 1
   ·rw [if_pos (by simp; omega), if_pos ⟨hc, hc2⟩]
    unfold push
    rw [if_pos (by omega), sb, G_ (by omega) (by omega), sb]
    rfl
   ·rw [if_neg (by simp; omega), if_neg (fun h => hc2 h.2), G_ (by omega) (by omega), sb]
    rfl
  ·rw [if_neg (by simp; omega), sb, if_neg (by simp), if_neg (fun h => hc h.1), G_ (by omega) (by omega), sb]
   rfl) (by
  unfold cC_
  simp only
  rw [hsh, sb, if_neg (by simp; omega)]) fuel 0 (by omega) (by omega)
 unfold eN_
 rw [show (([] : List (List Int)), (1 : Int)) = (fullTo p 0, ((0 + 1 : Nat) : Int)) from by simp [fullTo], hloop, sb]
 simp only
 have hfl := fw_ p (N - 1)
 rw [iQ_ fuel (by omega) (d := 2) (by omega) _ hX (by omega), sb, hV]
 generalize fullTo p (N - 1) = full at hX hfl
 have hin : ∀ s ∈ sdI full.flatten, 0 ≤ s ∧ s < 256 := fun s h => (pi_ h).1
 simp only
 rw [hg_, sb]
 unfold madeV
 by_cases hc : 1 ≤ (sdI full.flatten).length ∧ (sdI full.flatten).length ≤ 8
 ·rw [if_neg (by simp; omega), if_pos hc]
  have hD : p.Degree = ((p.Degree.toNat : Nat) : Int) := by omega
  have ha := iB_ fuel (sdI full.flatten).length p.Degree.toNat (fun z => bY_ fuel z p (sdI full.flatten)) (fun c => @decide (chS p.Nodes (sdI full.flatten) c) (Classical.propDecidable _)) (fun c hc => ly_ fuel p h (by omega) (by omega) (by omega) _ hin c hc.2.2 (by rw [hc.1]; exact hD.symm)) hc.2 (by omega) (by omega)
  rw [← hD] at ha
  rw [ha, sb]
  simp only [if_true]
  rfl
 ·rw [if_pos (by simp; omega), if_neg hc]
theorem lW_ {ρ : Type} {f : Int → Int → List Int → Option (Lp (List Int) (List Int) ρ)} (hfx : ∀ k x s, f k x s = ((ck (x + 1)) >>= fun y => (push s y) >>= fun z => some (.go z))) : ∀ (c : List Int) (k : Int) (acc : List Int), (∀ y ∈ c, 0 ≤ y ∧ y ≤ 1000) → acc.length + c.length ≤ 1000000000 → forI f c k acc = some (.inl (acc ++ c.map (· + 1)))
 | [], k, acc, _, _ => by simp [forI]
 | y :: c, k, acc, hc, h => by
  rw [List.length_cons] at h
  have hy := hc y (by simp)
  have h0 : f k y acc = some (.go (acc ++ [y + 1])) := by
   rw [hfx, G_ (by omega) (by omega), sb]
   unfold push
   rw [if_pos (by omega), sb]
  simp only [forI, h0]
  rw [lW_ hfx c (k + 1) _ (fun z hz => hc z (by simp [hz])) (by rw [List.length_append, List.length_singleton]; omega), List.map_cons, List.append_assoc, List.singleton_append]
theorem lH_ {α β γ : Type} (f : α → β) (g : β → List γ) : ∀ xs : List α, (xs.map f).flatMap g = xs.flatMap fun x => g (f x)
 | [] => rfl
 | x :: xs => by rw [List.map_cons, List.flatMap_cons, List.flatMap_cons, lH_ f g xs]
open Classical in
theorem mP_ (fuel : Nat) (hf : 1000000000 ≤ fuel) (p : b_) (h : probB p = true) : bn_ fuel (nsV p) = some (sxd (fullJ p)) := by
  obtain ⟨g1, g2, g3, g4, -, -⟩ := aU_ h
  obtain ⟨L, hL⟩ : ∃ L : Nat, p.Labels = (L : Int) := ⟨p.Labels.toNat, by omega⟩
  obtain ⟨e, hD⟩ : ∃ e : Nat, p.Degree = ((e + 1 : Nat) : Int) := ⟨p.Degree.toNat - 1, by omega⟩
  have hLt : p.Labels.toNat = L := by omega
  have hDt : p.Degree.toNat - 1 = e := by omega
  have h256 := cV_ (L := L) (by omega)
  have h1 : 1 ≤ 2 ^ L := Nat.one_le_two_pow
  have hpw : ∀ k, k ≤ e → (2 ^ L - 1) ^ k ≤ 16777216 := fun k hk => by
    have q1 : (2 ^ L - 1) ^ k ≤ 256 ^ k := Nat.pow_le_pow_left (by omega) k
    have q2 : 256 ^ k ≤ 256 ^ 3 := Nat.pow_le_pow_right (by decide) (by omega)
    omega
  have hJ : fullJ p = (msD (2 ^ L - 1) e).flatMap fun c => if cmI L p.Nodes (c.map (· + 1)) ≠ 0 ∧ fullI L p.Nodes (c.map (· + 1) ++ [cmI L p.Nodes (c.map (· + 1))]) then [srt (c.map (· + 1) ++ [cmI L p.Nodes (c.map (· + 1))])] else [] := by
    unfold fullJ
    rw [hLt, hDt, lH_]
  have hJl : (fullJ p).length ≤ 16777216 := by
    rw [hJ]
    have q1 := fQ_ (2 ^ L - 1) e
    have q2 := hpw e (Nat.le_refl e)
    have q3 := gK_ (m := 1) (g := fun c => if cmI L p.Nodes (c.map (· + 1)) ≠ 0 ∧ fullI L p.Nodes (c.map (· + 1) ++ [cmI L p.Nodes (c.map (· + 1))]) then [srt (c.map (· + 1) ++ [cmI L p.Nodes (c.map (· + 1))])] else []) (msD (2 ^ L - 1) e) (fun x _ => by
      split <;> simp)
    omega
  have hJd : ∀ z ∈ fullJ p, z.length = e + 1 := fun z hz => by
    have := (iw_ p ⟨by omega, g2⟩ g3 z ((mg_ p z).1 hz)).1
    omega
  have hloop := eL_ (body := aX_ fuel (nsV p)) (fun c => if cmI L p.Nodes (c.map (· + 1)) ≠ 0 ∧ fullI L p.Nodes (c.map (· + 1) ++ [cmI L p.Nodes (c.map (· + 1))]) then [srt (c.map (· + 1) ++ [cmI L p.Nodes (c.map (· + 1))])] else []) 1000000000 (msD (2 ^ L - 1) e) 0 [] (by rw [← hJ]; simp; omega) (fun c hc j ac hac => by
    obtain ⟨m1, m2, m3⟩ := (dW_ _ _ _).1 hc
    have hlin : ∀ s ∈ c.map (· + 1), 0 ≤ s ∧ s.toNat < 2 ^ L := fun s hs => by
      obtain ⟨y, hy, rfl⟩ := List.mem_map.1 hs
      have := m3 y hy
      omega
    have hcm := ib_ fuel p h (by omega) (c.map (· + 1)) (by rw [hLt]; exact hlin) (by rw [List.length_map, m1, hD]; omega)
    rw [hLt] at hcm
    have hcin := nh_ L p.Nodes (c.map (· + 1))
    have hcin2 : (cmI L p.Nodes (c.map (· + 1))).toNat < 2 ^ L := by
      have h2 : ((2 ^ L : Nat) : Int) = (2 : Int) ^ L := by simp
      omega
    have hif := qz_ fuel p h (by omega) (c.map (· + 1) ++ [cmI L p.Nodes (c.map (· + 1))]) (by
      rw [hLt]
      intro s hs
      rcases List.mem_append.1 hs with hs | hs
      · exact hlin s hs
      · rw [List.mem_singleton.1 hs]; exact ⟨hcin.1, hcin2⟩) (by rw [List.length_append, List.length_map, m1, hD]; rfl)
    rw [hLt] at hif
    have hpl := lW_ (f := br_) (fun k x s => rfl) c 0 [] (fun y hy => by have := m3 y hy; omega) (by simp; omega)
    rw [List.nil_append] at hpl
    have hml : (c.map (· + 1)).length = e := by rw [List.length_map, m1]
    unfold aX_ mkc
    rw [show (nsV p).p.Degree = p.Degree from rfl, if_pos (by omega), sb, hpl, sb]
    simp only
    rw [hcm, sb]
    generalize cmI L p.Nodes (c.map (· + 1)) = z at hif hac ⊢
    generalize c.map (· + 1) = l at hif hac hml ⊢
    by_cases hz : z = 0
    · rw [if_pos (by simpa using hz), if_neg (fun hh => hh.1 hz), List.append_nil]
    · rw [if_neg (by simpa using hz)]
      unfold push
      rw [if_pos (by omega), sb, hif, sb]
      by_cases hfl : fullI L p.Nodes (l ++ [z])
      · rw [if_pos ⟨hz, hfl⟩, List.length_singleton] at hac
        rw [if_pos (decide_eq_true hfl), if_pos ⟨hz, hfl⟩]
        unfold srtO
        rw [if_pos (by rw [List.length_append, List.length_singleton]; omega), sb, if_pos (by omega), sb]
      · rw [if_neg (by simpa using hfl), if_neg (fun hh => hfl hh.2), List.append_nil])
  rw [← hJ, List.nil_append] at hloop
  unfold bn_
  rw [show (nsV p).p.Labels = p.Labels from rfl, hL, fi_ (by omega), sb, show (((2 ^ L : Nat) : Int) - 1) = ((2 ^ L - 1 : Nat) : Int) by omega, G_ (by omega) (by omega), sb, show (nsV p).p.Degree = p.Degree from rfl, hD, show (((e + 1 : Nat) : Int) - 1) = (e : Int) by omega, G_ (by omega) (by omega), sb,
    jo_ (2 ^ L - 1) e fuel (by omega) (by omega) (fun k hk => by have := hpw k hk; omega) (by omega), sb, hloop, sb]
  simp only
  rw [pb_ (L := e + 1) (by omega) (by omega) hJd, sb]
theorem oF_ (fuel : Nat) (hf : 1000000000 ≤ fuel) (p : b_) (h : probB p = true) (hJ : p.Nodes.length ≤ 100000000) (hE : p.Edges.length ≤ 100000000) : eS_ fuel p = some (nodeV p) := by
 obtain ⟨g1, g2, g3, g4, -, -⟩ := aU_ h
 have hok := iw_ p ⟨by omega, g2⟩ g3
 have hJd : ∀ z ∈ fullJ p, z.length = p.Degree.toNat := fun z hz => (hok z ((mg_ p z).1 hz)).1
 have hmem : ∀ z, z ∈ sxd (fullJ p) ↔ z ∈ fullS p := fun z => by rw [(nK_ hJd).2, mg_]
 have hX : ∀ x ∈ sxd (fullJ p), x.length = p.Degree.toNat ∧ ∀ y ∈ x, 0 ≤ y ∧ y < 256 := fun x hx => hok x ((hmem x).1 hx)
 have hV := mx_ p false p.Degree.toNat hX hmem
 have hlen : (sxd (fullJ p)).length ≤ 100000000 := by
  have q1 := nb_ (fullJ p) []
  have q2 : (fullJ p).length ≤ 16777216 := by
   have q1 := fQ_ (2 ^ p.Labels.toNat - 1) (p.Degree.toNat - 1)
   have q0 : 2 ^ p.Labels.toNat ≤ 256 := cV_ (by omega)
   have q3 : (2 ^ p.Labels.toNat - 1) ^ (p.Degree.toNat - 1) ≤ 256 ^ (p.Degree.toNat - 1) := Nat.pow_le_pow_left (by omega) _
   have q4 : 256 ^ (p.Degree.toNat - 1) ≤ 256 ^ 3 := Nat.pow_le_pow_right (by decide) (by omega)
   have q5 : (fullJ p).length ≤ ((msD (2 ^ p.Labels.toNat - 1) (p.Degree.toNat - 1)).map fun c => c.map (· + 1)).length * 1 := by
    unfold fullJ
    exact gK_ _ fun x _ => by split <;> simp
   rw [List.length_map] at q5
   omega
  simp only [List.length_nil, Nat.zero_add] at q1
  show (sxd (fullJ p)).length ≤ _
  unfold sxd
  omega
 unfold eS_ nodeV
 by_cases hc : p.Degree = 4 ∧ 6 < p.Labels
 ·rw [if_pos (by simpa using hc.1), sb, if_pos (by simpa using hc.2), if_pos hc]
 ·rw [if_neg hc]
  have hq : (if (p.Degree == 4) = true then some (decide (p.Labels > 6)) else some false) = some false := by
   by_cases h4 : p.Degree = 4
   ·rw [if_pos (by simpa using h4)]
    have : ¬ p.Labels > 6 := fun h6 => hc ⟨h4, h6⟩
    simp [this]
   ·rw [if_neg (by simpa using h4)]
  rw [hq, sb, if_neg (by simp), kD_ fuel p h (by omega) (by omega), sb, mP_ fuel hf p h, sb, iQ_ fuel (by omega) (d := p.Degree.toNat) (by omega) _ hX hlen, sb, ← hV]
  generalize sxd (fullJ p) = full at hX
  have hin : ∀ s ∈ sdI full.flatten, 0 ≤ s ∧ s < 256 := fun s h => (pi_ h).1
  simp only
  rw [hg_, sb]
  unfold madeV
  by_cases hcc : 1 ≤ (sdI full.flatten).length ∧ (sdI full.flatten).length ≤ 8
  ·rw [if_neg (by simp; omega), if_pos hcc]
   have ha := iB_ fuel (sdI full.flatten).length 2 (fun z => bR_ fuel z p (sdI full.flatten)) (fun c => @decide (chS p.Edges (sdI full.flatten) c) (Classical.propDecidable _)) (fun c hc => lu_ fuel p h (by omega) (by omega) (by omega) _ hin c hc.2.2 hc.1) hcc.2 (by omega) (by omega)
   rw [show ((2 : Nat) : Int) = 2 from rfl] at ha
   rw [ha, sb]
   simp only [Bool.false_eq_true, if_false]
   rfl
  ·rw [if_pos (by simp; omega), if_neg hcc]
theorem mA_ (fuel : Nat) (hf : 1000000000 ≤ fuel) (p : b_) (h : probB p = true) (hJ : p.Nodes.length ≤ 100000000) (hE : p.Edges.length ≤ 100000000) : ei_ fuel p = some (roundV p) := by
 unfold ei_ roundV
 rw [op_ fuel hf p h hJ hE, sb]
 cases h1 : (edgeV p).2.2
 ·rw [if_pos (by rfl), if_neg (by simp)]
 ·obtain ⟨a1, a2, a3, a4⟩ := hW_ p h h1
  rw [if_neg (by simp), if_pos rfl, oF_ fuel hf _ a1 a2 a3, sb]
  cases h2 : (nodeV (edgeV p).1).2.2
  ·rw [if_pos (by rfl), if_neg (by simp)]
  ·rw [if_neg (by simp), if_pos rfl]
end

end Go.Proofs.YtdbbeldgdgonfaaGreat
