/- Part 12 of what this claim rests on (Elf, GC, GPpa), packed by pack.py. -/
import Derived.Test.YtdbbeldgdgonfaaGreatP03
import Derived.Test.YtdbbeldgdgonfaaGreatP04
import Derived.Test.YtdbbeldgdgonfaaGreatP05
import Derived.Test.YtdbbeldgdgonfaaGreatP06
import Derived.Test.YtdbbeldgdgonfaaGreatP07
import Derived.Test.YtdbbeldgdgonfaaGreatP09
import Derived.Test.YtdbbeldgdgonfaaGreatP11
namespace Go.Proofs.YtdbbeldgdgonfaaGreat
set_option linter.unusedSimpArgs false
set_option linter.unusedVariables false

section
theorem jX_ {n : Nat} (h : n ≤ 9223372036854775807) : ck (n : Int) = some (n : Int) := G_ (by omega) (by omega)
def digs (L : Nat) : Nat → Nat → List Int
  | 0, _ => []
  | n + 1, k => ((k % L : Nat) : Int) :: digs L n (k / L)
def valN (L : Nat) : List Int → Nat
  | [] => 0
  | a :: c => a.toNat + L * valN L c
theorem ee_ (L : Nat) : ∀ n k, (digs L n k).length = n
 | 0, _ => rfl
 | n + 1, k => by unfold digs; rw [List.length_cons, ee_ L n]
theorem iy_ (L : Nat) : ∀ n k, digs L (n + 1) k = digs L n k ++ [((k / L ^ n % L : Nat) : Int)]
 | 0, k => by simp [digs]
 | n + 1, k => by
  have ih := iy_ L n (k / L)
  rw [Nat.div_div_eq_div_mul] at ih
  rw [show L ^ (n + 1) = L * L ^ n by rw [Nat.pow_succ, Nat.mul_comm]]
  show ((k % L : Nat) : Int) :: digs L (n + 1) (k / L) = (((k % L : Nat) : Int) :: digs L n (k / L)) ++ _
  rw [ih]; rfl
theorem ky_ {L : Nat} : ∀ c : List Int, (∀ a ∈ c, 0 ≤ a ∧ a < (L : Int)) → digs L c.length (valN L c) = c
 | [], _ => rfl
 | a :: c, h => by
  have ha := h a (by simp)
  have ih := ky_ c fun x hx => h x (by simp [hx])
  have hlt : a.toNat < L := by omega
  rw [List.length_cons]
  unfold digs valN
  rw [Nat.add_mul_mod_self_left, Nat.mod_eq_of_lt hlt, Nat.add_mul_div_left _ _ (by omega), Nat.div_eq_of_lt hlt, Nat.zero_add, ih, Int.toNat_of_nonneg ha.1]
theorem lG_ (L : Nat) : ∀ (c : List Int) (a : Int), valN L (c ++ [a]) = valN L c + a.toNat * L ^ c.length
 | [], a => by simp [valN]
 | x :: c, a => by
  rw [List.cons_append, List.length_cons]
  unfold valN
  rw [lG_ L c a, Nat.mul_add, Nat.pow_succ, Nat.add_assoc]
  congr 2
  rw [Nat.mul_comm (L ^ c.length) L, ← Nat.mul_assoc, ← Nat.mul_assoc, Nat.mul_comm L]
theorem gi_ {L : Nat} : ∀ c : List Int, (∀ a ∈ c, 0 ≤ a ∧ a < (L : Int)) → valN L c < L ^ c.length
 | [], _ => by simp [valN]
 | a :: c, h => by
  have ha := h a (by simp)
  have ih := gi_ c fun x hx => h x (by simp [hx])
  have hlt : a.toNat < L := by omega
  rw [List.length_cons, Nat.pow_succ]
  unfold valN
  have h1 : L * (valN L c + 1) ≤ L * L ^ c.length := Nat.mul_le_mul_left L ih
  rw [Nat.mul_add, Nat.mul_one] at h1
  rw [Nat.mul_comm (L ^ c.length) L]
  omega
theorem df_ {L k : Nat} (hL : L ≤ 8) (hk : k ≤ 4) : L ^ k ≤ 4096 := by
 have h1 : L ^ k ≤ 8 ^ k := Nat.pow_le_pow_left hL k
 have h2 : 8 ^ k ≤ 8 ^ 4 := Nat.pow_le_pow_right (by decide) hk
 omega
theorem cV_ {L : Nat} (hL : L ≤ 8) : 2 ^ L ≤ 256 := by
 have : 2 ^ L ≤ 2 ^ 8 := Nat.pow_le_pow_right (by decide) hL
 omega
noncomputable def aftN (p : b_) (key : Nat) : Nat := bitsP (fun b => inG p.Nodes (digs p.Labels.toNat (p.Degree.toNat - 1) key ++ [(b : Int)])) p.Labels.toNat
noncomputable def nsV (p : b_) : ag_ := ⟨p, (List.range (p.Labels.toNat ^ (p.Degree.toNat - 1))).map fun k => ((aftN p k : Nat) : Int)⟩
theorem rb_ (p : b_) (L e : Nat) (hL : p.Labels = (L : Int)) (h8 : L ≤ 8) (he : e ≤ 3) : forN (bJ_ p) e 0 1 = some (.inl ((L ^ e : Nat) : Int)) := by
 have := ev_ (body := bJ_ p) (fun j => ((L ^ j : Nat) : Int)) e (fun j hj => by
  have hb := df_ (k := j + 1) h8 (by omega)
  unfold bJ_
  rw [hL, show ((L ^ j : Nat) : Int) * (L : Int) = ((L ^ (j + 1) : Nat) : Int) by rw [Nat.pow_succ]; exact (Int.natCast_mul _ _).symm, G_ (by omega) (by omega), sb])
 simpa using this
theorem pn_ (p : b_) (L e key : Nat) (hL : p.Labels = (L : Int)) (h1 : 1 ≤ L) (hk : key ≤ 1000000) : forN (bH_ p) e 0 (List.replicate (e + 1) 0, (key : Int)) = some (.inl (digs L e key ++ [0], ((key / L ^ e : Nat) : Int))) := by
 have := ev_ (body := bH_ p) (fun j => (digs L j key ++ List.replicate (e + 1 - j) 0, ((key / L ^ j : Nat) : Int))) e (fun j hj => by
  have hle : key / L ^ j / L ≤ key := Nat.le_trans (Nat.div_le_self _ _) (Nat.div_le_self _ _)
  have hr : List.replicate (e + 1 - j) (0 : Int) = 0 :: List.replicate (e + 1 - (j + 1)) 0 := by
   rw [show e + 1 - j = (e + 1 - (j + 1)) + 1 by omega, List.replicate_succ]
  unfold bH_
  simp only
  unfold rem quo
  rw [hL, if_neg (by omega), sb, hr, pc_ _ _ _ _ (by rw [ee_]), sb, qE_ _ _ _ _ _ (by rw [ee_]), sb, if_neg (by omega),
   show ((key / L ^ j : Nat) : Int).tdiv (L : Int) = ((key / L ^ j / L : Nat) : Int) from rfl, jX_ (by omega), sb,
   show ((key / L ^ j : Nat) : Int).tmod (L : Int) = ((key / L ^ j % L : Nat) : Int) from rfl, iy_, List.append_assoc, List.singleton_append, Nat.pow_succ, Nat.div_div_eq_div_mul])
 simpa [digs, Nat.sub_self] using this
theorem rE_ (fuel : Nat) (p : b_) (h : probB p = true) (hJ : p.Nodes.length ≤ 1000000000) (hf : p.Nodes.length < fuel) (L e key : Nat) (hL : p.Labels = (L : Int)) (hD : p.Degree = ((e + 1 : Nat) : Int)) (h8 : L ≤ 8) (A : List Int) (hk : key < A.length) (h0 : A[key]? = some 0) :
  ∃ y, forN (bG_ fuel p (key : Int)) L 0 (digs L e key ++ [0], A) = some (.inl (y, A.set key ((bitsP (fun b => inG p.Nodes (digs L e key ++ [(b : Int)])) L : Nat) : Int))) := by
 have hA0 : A.set key 0 = A := by
  refine List.ext_getElem? fun i => ?_
  rw [List.getElem?_set]
  by_cases e : key = i
  ·subst e
   rw [if_pos rfl, if_pos hk, h0]
  ·rw [if_neg e]
 generalize hP : (fun b : Nat => inG p.Nodes (digs L e key ++ [(b : Int)])) = P
 have := ev_ (body := bG_ fuel p (key : Int)) (fun j => (digs L e key ++ [((j - 1 : Nat) : Int)], A.set key ((bitsP P j : Nat) : Int))) L (fun j hj => by
  have hlt := ec_ P j
  have h2 : 2 ^ j ≤ 256 := cV_ (by omega)
  unfold bG_
  simp only
  rw [hD, show (((e + 1 : Nat) : Int) - 1) = (e : Int) by omega, G_ (by have := ee_ L e key; omega) (by
   have := aU_ h
   omega), sb, pc_ _ _ _ _ (by rw [ee_]), sb, qE_ _ _ _ _ _ (by rw [ee_]), sb,
   rg_ fuel p h _ (by rw [List.length_append, ee_, hD]; rfl) hJ hf, sb]
  by_cases hn : srt (digs L e key ++ [(j : Int)]) ∈ p.Nodes
  ·have hPj : P j := by rw [← hP]; exact hn
   have hix : ix (A.set key ((bitsP P j : Nat) : Int)) (key : Int) = some ((bitsP P j : Nat) : Int) := by
    rw [ct_, List.getElem?_set, if_pos rfl, if_pos hk]
   rw [if_pos (decide_eq_true hn), hix, sb, fi_ (by omega), sb, sb, pL_ (by omega) (by omega), iO_ _ _ _ (by rw [List.length_set]; exact hk), sb, List.set_set, hx_ hPj, Nat.add_sub_cancel]
  ·have hPj : ¬ P j := by rw [← hP]; exact hn
   rw [if_neg (by simpa using hn), it_ hPj, Nat.add_sub_cancel])
 refine ⟨digs L e key ++ [((L - 1 : Nat) : Int)], ?_⟩
 rw [← this]
 simp [bitsP, hA0]
theorem ox_ (n key K : Nat) (f : Nat → Int) (hk : key = K) (hn : K < n) : ((List.range n).map fun k => if k < K then f k else 0).set key (f key) = (List.range n).map fun k => if k < K + 1 then f k else 0 := by
 subst hk
 refine List.ext_getElem? fun i => ?_
 rw [List.getElem?_set]
 by_cases e : key = i
 ·subst e
  simp [hn]
 ·rw [if_neg e]
  by_cases hi : i < n
  ·simp only [List.getElem?_map, List.getElem?_range hi, Option.map_some]
   congr 1
   by_cases h1 : i < key
   ·rw [if_pos h1, if_pos (by omega)]
   ·rw [if_neg h1, if_neg (by omega)]
  ·simp only [List.getElem?_map]
   rw [List.getElem?_eq_none (by simp; omega)]; rfl
theorem kD_ (fuel : Nat) (p : b_) (h : probB p = true) (hJ : p.Nodes.length ≤ 1000000000) (hf : p.Nodes.length < fuel) : di_ fuel p = some (nsV p) := by
 obtain ⟨g1, g2, g3, g4, -, -⟩ := aU_ h
 obtain ⟨L, hL⟩ : ∃ L : Nat, p.Labels = (L : Int) := ⟨p.Labels.toNat, by omega⟩
 obtain ⟨e, hD⟩ : ∃ e : Nat, p.Degree = ((e + 1 : Nat) : Int) := ⟨p.Degree.toNat - 1, by omega⟩
 have hpw := df_ (L := L) (k := e) (by omega) (by omega)
 have ha : nsV p = ⟨p, (List.range (L ^ e)).map fun k => ((aftN p k : Nat) : Int)⟩ := by
  unfold nsV
  rw [hL, hD, Int.toNat_natCast, Int.toNat_natCast, Nat.add_sub_cancel]
 have haf : ∀ k, aftN p k = bitsP (fun b => inG p.Nodes (digs L e k ++ [(b : Int)])) L := fun k => by
  unfold aftN
  rw [hL, hD, Int.toNat_natCast, Int.toNat_natCast, Nat.add_sub_cancel]
 have hloop := ev_ (body := cq_ fuel p) (fun K => (List.range (L ^ e)).map fun k => if k < K then ((aftN p k : Nat) : Int) else 0) (L ^ e) (fun K hK => by
  obtain ⟨y, hy⟩ := rE_ fuel p h hJ hf L e K hL hD (by omega) ((List.range (L ^ e)).map fun k => if k < K then ((aftN p k : Nat) : Int) else 0) (by simp; exact hK) (by simp [hK])
  unfold cq_ mk
  rw [hD, if_pos (by omega), sb, show (((e + 1 : Nat) : Int) - 1) = (e : Int) by omega, G_ (by omega) (by omega), sb, Int.toNat_natCast, Int.toNat_natCast]
  have hd := pn_ p L e K hL (by omega) (by omega)
  rw [show (Rz.z : Int) = 0 from rfl, show (ck (e : Int)) = some (e : Int) from G_ (by omega) (by omega), sb, hd, sb]
  simp only
  rw [hL, G_ (by omega) (by omega), sb, Int.toNat_natCast, hy, sb]
  simp only
  rw [← haf, ox_ _ _ _ (fun k => ((aftN p k : Nat) : Int)) rfl hK])
 unfold di_ mk
 rw [hD, show (((e + 1 : Nat) : Int) - 1) = (e : Int) by omega, G_ (by omega) (by omega), sb, show (ck (e : Int)) = some (e : Int) from G_ (by omega) (by omega), sb, Int.toNat_natCast, rb_ p L e hL (by omega) (by omega), sb]
 simp only
 rw [if_pos (by omega), sb, List.length_replicate, Int.toNat_natCast, G_ (by omega) (by omega), sb, Int.toNat_natCast]
 have hr : List.replicate (L ^ e) (Rz.z : Int) = (List.range (L ^ e)).map fun k => if k < 0 then ((aftN p k : Nat) : Int) else 0 := by
  refine List.ext_getElem (by simp) fun i h1 h2 => ?_
  simp
  rfl
 rw [hr, hloop, sb, ha]
 have he : ((List.range (L ^ e)).map fun k => if k < L ^ e then ((aftN p k : Nat) : Int) else 0) = (List.range (L ^ e)).map fun k => ((aftN p k : Nat) : Int) := by
  refine List.map_congr_left fun k hk => ?_
  rw [if_pos (List.mem_range.1 hk)]
 rw [he, ← hD]
theorem lJ_ {P Q : Nat → Prop} (n : Nat) : bitsP P n &&& bitsP Q n = bitsP (fun b => P b ∧ Q b) n := by
 refine Nat.eq_of_testBit_eq fun b => ?_
 rw [Nat.testBit_and, Bool.eq_iff_iff, Bool.and_eq_true, eB_, eB_, eB_]
 exact ⟨fun ⟨h1, h2⟩ => ⟨h1.1, h1.2, h2.2⟩, fun ⟨h1, h2, h3⟩ => ⟨⟨h1, h2⟩, h1, h3⟩⟩
theorem mp_ {P : Nat → Prop} {n o : Nat} (ho : o < 2 ^ n) (h : ∀ b, b < n → P b) : o &&& bitsP P n = o := by
 refine Nat.eq_of_testBit_eq fun b => ?_
 rw [Nat.testBit_and]
 cases hb : o.testBit b
 ·rfl
 ·have hlt : b < n := by
   refine Nat.lt_of_not_le fun hle => ?_
   have := Nat.testBit_lt_two_pow (Nat.lt_of_lt_of_le ho (Nat.pow_le_pow_right (by decide) hle))
   rw [this] at hb; cases hb
  rw [Bool.true_and]
  exact (eB_ P n b).2 ⟨hlt, h b hlt⟩
noncomputable def cmP (L : Nat) (N : List (List Int)) (c0 : List Int) (SS : List Nat) : Nat := bitsP (fun b => ∀ c, cho SS c → inG N (c0 ++ c ++ [(b : Int)])) L
theorem oO_ (L : Nat) (N : List (List Int)) (SS : List Nat) : cmP L N [] SS = cmpl L (inG N) SS := rfl
theorem oM_ {S a L : Nat} (hS : S < 2 ^ L) (h : S.testBit a = true) : a < L := by
 refine Nat.lt_of_not_le fun hle => ?_
 have := Nat.testBit_lt_two_pow (Nat.lt_of_lt_of_le hS (Nat.pow_le_pow_right (by decide) hle))
 rw [this] at h; cases h
theorem oV_ (p : b_) (L e : Nat) (hL : p.Labels = (L : Int)) (hD : p.Degree = ((e + 1 : Nat) : Int)) (h8 : L ≤ 8) (he : e ≤ 3) (sets : List Int) (hs : ∀ s ∈ sets, 0 ≤ s ∧ s.toNat < 2 ^ L) (hlen : sets.length = e) :
  ∀ (d k fuel : Nat) (c0 : List Int) (o : Nat), k + d = e → d < fuel → c0.length = k → (∀ a ∈ c0, 0 ≤ a ∧ a < (L : Int)) → o < 2 ^ L →
  T_ fuel (k : Int) ((valN L c0 : Nat) : Int) ((L ^ k : Nat) : Int) sets (o : Int) (nsV p) = some (((o &&& cmP L p.Nodes c0 ((sets.drop k).map Int.toNat) : Nat)) : Int)
 | 0, k, fuel, c0, o, hk, hf, hc, hin, ho => by
  obtain ⟨fuel, rfl⟩ : ∃ q, fuel = q + 1 := ⟨fuel - 1, by omega⟩
  have h256 := cV_ h8
  have hv := gi_ c0 hin
  rw [hc, show k = e by omega] at hv
  have ha : ix (nsV p).after ((valN L c0 : Nat) : Int) = some ((cmP L p.Nodes c0 [] : Nat) : Int) := by
   unfold nsV
   simp only
   rw [hL, hD, Int.toNat_natCast, Int.toNat_natCast, Nat.add_sub_cancel, ct_, List.getElem?_map, List.getElem?_range hv, Option.map_some]
   unfold aftN cmP
   rw [hL, hD, Int.toNat_natCast, Int.toNat_natCast, Nat.add_sub_cancel]
   congr 2
   refine cQ_ L fun b _ => ?_
   have hd := ky_ c0 hin
   rw [hc, show k = e by omega] at hd
   rw [hd]
   constructor
   ·intro h c hcc
    cases c with
    | nil => rwa [List.append_nil]
    | cons a c => exact hcc.elim
   ·intro h
    have := h [] trivial
    rwa [List.append_nil] at this
  have hb := ec_ (fun b => ∀ c, cho [] c → inG p.Nodes (c0 ++ c ++ [(b : Int)])) L
  unfold T_
  rw [if_pos (by simp; omega), ha, sb, show sets.drop k = [] from List.drop_eq_nil_iff.2 (by omega), List.map_nil, kq_ (by omega) (by unfold cmP; omega)]
 | d + 1, k, fuel, c0, o, hk, hf, hc, hin, ho => by
  obtain ⟨fuel, rfl⟩ : ∃ q, fuel = q + 1 := ⟨fuel - 1, by omega⟩
  have h256 := cV_ h8
  have hkl : k < sets.length := by omega
  obtain ⟨S, hS⟩ : ∃ S : Nat, sets[k] = (S : Int) := ⟨sets[k].toNat, by have := hs _ (List.getElem_mem hkl); omega⟩
  have hS2 : S < 2 ^ L := by have := (hs _ (List.getElem_mem hkl)).2; rw [hS, Int.toNat_natCast] at this; exact this
  have hdrop : (sets.drop k).map Int.toNat = S :: (sets.drop (k + 1)).map Int.toNat := by
   rw [List.drop_eq_getElem_cons hkl, List.map_cons, hS, Int.toNat_natCast]
  generalize hSS : (sets.drop (k + 1)).map Int.toNat = SS at hdrop
  have hv := gi_ c0 hin
  rw [hc] at hv
  have hpk := df_ (L := L) (k := k) h8 (by omega)
  have hpk1 := df_ (L := L) (k := k + 1) h8 (by omega)
  have hloop := ev_ (body := aG_ (k : Int) ((valN L c0 : Nat) : Int) ((L ^ k : Nat) : Int) sets (nsV p) (T_ fuel)) (fun j => ((o &&& bitsP (fun b => ∀ a : Nat, a < j → S.testBit a = true → ∀ c, cho SS c → inG p.Nodes (c0 ++ [(a : Int)] ++ c ++ [(b : Int)])) L : Nat) : Int)) L (fun j hj => by
   have hstep : (bitsP (fun b => ∀ a : Nat, a < j + 1 → S.testBit a = true → ∀ c, cho SS c → inG p.Nodes (c0 ++ [(a : Int)] ++ c ++ [(b : Int)])) L) = bitsP (fun b => ∀ a : Nat, a < j → S.testBit a = true → ∀ c, cho SS c → inG p.Nodes (c0 ++ [(a : Int)] ++ c ++ [(b : Int)])) L &&& bitsP (fun b => S.testBit j = true → ∀ c, cho SS c → inG p.Nodes (c0 ++ [(j : Int)] ++ c ++ [(b : Int)])) L := by
    rw [lJ_]
    refine cQ_ L fun b _ => ?_
    constructor
    ·exact fun h => ⟨fun a ha => h a (by omega), h j (by omega)⟩
    ·rintro ⟨h1, h2⟩ a ha
     by_cases e : a = j
     ·subst e; exact h2
     ·exact h1 a (by omega)
   rw [hstep, ← Nat.and_assoc]
   have hlt : o &&& bitsP (fun b => ∀ a : Nat, a < j → S.testBit a = true → ∀ c, cho SS c → inG p.Nodes (c0 ++ [(a : Int)] ++ c ++ [(b : Int)])) L < 2 ^ L := Nat.lt_of_le_of_lt Nat.and_le_left ho
   generalize (o &&& bitsP (fun b => ∀ a : Nat, a < j → S.testBit a = true → ∀ c, cho SS c → inG p.Nodes (c0 ++ [(a : Int)] ++ c ++ [(b : Int)])) L) = o' at hlt ⊢
   unfold aG_
   rw [fW_ _ _ hkl, sb, hS, kk_ (by omega), sb, nx_ (by omega)]
   cases hb : S.testBit j
   ·rw [if_neg (by simp), sb, if_neg (by simp), mp_ hlt (by simp)]
   ·rw [if_pos rfl, sb]
    by_cases h0 : o' = 0
    ·subst h0
     rw [if_neg (by simp), Nat.zero_and]
    ·have hjk : j * L ^ k ≤ 8 * 4096 := Nat.mul_le_mul (by omega) hpk
     have hnat1 : ((valN L c0 : Nat) : Int) + (j : Int) * ((L ^ k : Nat) : Int) = ((valN L (c0 ++ [(j : Int)]) : Nat) : Int) := by
      rw [lG_, hc, Int.toNat_natCast, Int.natCast_add, Int.natCast_mul]
     have hnat2 : ((L ^ k : Nat) : Int) * (L : Int) = ((L ^ (k + 1) : Nat) : Int) := by rw [Nat.pow_succ]; exact (Int.natCast_mul _ _).symm
     have hnat3 : (j : Int) * ((L ^ k : Nat) : Int) = ((j * L ^ k : Nat) : Int) := (Int.natCast_mul _ _).symm
     have hin2 : ∀ a ∈ c0 ++ [(j : Int)], 0 ≤ a ∧ a < (L : Int) := fun a ha => by
      rcases List.mem_append.1 ha with ha | ha
      ·exact hin a ha
      ·rw [List.mem_singleton.1 ha]; omega
     have hv2 := gi_ _ hin2
     rw [List.length_append, hc, List.length_singleton] at hv2
     rw [if_pos (by simpa using h0), G_ (by omega) (by omega), sb, show ck ((j : Int) * ((L ^ k : Nat) : Int)) = some ((j : Int) * ((L ^ k : Nat) : Int)) from G_ (by omega) (by omega), sb, hnat1, G_ (by omega) (by omega), sb,
      show (nsV p).p.Labels = (L : Int) from hL, hnat2, G_ (by omega) (by omega), sb, show ((k : Int) + 1) = ((k + 1 : Nat) : Int) by omega,
      oV_ p L e hL hD h8 he sets hs hlen d (k + 1) fuel (c0 ++ [(j : Int)]) o' (by omega) (by omega) (by rw [List.length_append, hc]; rfl) hin2 hlt, sb, hSS]
     congr 4
     unfold cmP
     exact cQ_ L fun b _ => ⟨fun h _ => h, fun h => h rfl⟩)
  unfold T_
  rw [if_neg (by simp; omega), show (nsV p).p.Labels = (L : Int) from hL, G_ (by omega) (by omega), sb, Int.toNat_natCast]
  rw [mp_ ho (by simp)] at hloop
  rw [hloop, sb, hdrop]
  simp only
  congr 3
  unfold cmP
  refine cQ_ L fun b _ => ?_
  constructor
  ·intro h c hcc
   cases c with
   | nil => exact hcc.elim
   | cons a c =>
    obtain ⟨⟨h1, h2⟩, h3⟩ := hcc
    have := h a.toNat (oM_ hS2 h2) h2 c h3
    rw [Int.toNat_of_nonneg h1, List.append_assoc c0] at this
    exact this
  ·intro h a ha h2 c h3
   have := h ((a : Int) :: c) ⟨⟨by omega, by rw [Int.toNat_natCast]; exact h2⟩, h3⟩
   rw [List.append_assoc c0 [(a : Int)] c]
   exact this
theorem ib_ (fuel : Nat) (p : b_) (h : probB p = true) (hf : 10 ≤ fuel) (sets : List Int) (hs : ∀ s ∈ sets, 0 ≤ s ∧ s.toNat < 2 ^ p.Labels.toNat) (hlen : (sets.length : Int) + 1 = p.Degree) : aS_ fuel (nsV p) sets = some (cmI p.Labels.toNat p.Nodes sets) := by
 obtain ⟨g1, g2, g3, g4, -, -⟩ := aU_ h
 obtain ⟨L, hL⟩ : ∃ L : Nat, p.Labels = (L : Int) := ⟨p.Labels.toNat, by omega⟩
 obtain ⟨e, hD⟩ : ∃ e : Nat, p.Degree = ((e + 1 : Nat) : Int) := ⟨p.Degree.toNat - 1, by omega⟩
 rw [hL, Int.toNat_natCast] at hs ⊢
 have h1 : 1 ≤ 2 ^ L := Nat.one_le_two_pow
 have h256 := cV_ (L := L) (by omega)
 have := oV_ p L e hL hD (by omega) (by omega) sets hs (by omega) e 0 fuel [] (2 ^ L - 1) (by omega) (by omega) rfl (by simp) (by omega)
 unfold aS_
 rw [show (nsV p).p.Labels = (L : Int) from hL, fi_ (by omega), sb, show (((2 ^ L : Nat) : Int) - 1) = ((2 ^ L - 1 : Nat) : Int) by omega, G_ (by omega) (by omega), sb]
 rw [show ((valN L [] : Nat) : Int) = 0 from rfl, show ((L ^ 0 : Nat) : Int) = 1 by simp, show ((0 : Nat) : Int) = 0 from rfl] at this
 rw [this, sb, oO_, List.drop_zero]
 unfold cmI
 congr 2
 refine Nat.eq_of_testBit_eq fun b => ?_
 rw [Nat.testBit_and, Nat.testBit_two_pow_sub_one]
 cases hb : (cmpl L (inG p.Nodes) (sets.map Int.toNat)).testBit b
 ·simp
 ·have := ((eB_ _ L b).1 hb).1
  simp [this]
theorem ku_ (xs : List Int) (h : xs.length ≤ 1000000000) : aw_ xs = some xs := by
 unfold aw_
 rw [iV_ _ h, sb]
theorem kV_ {body : Int → Unit → Option (Lp Unit Unit Bool)} (B : Nat → Prop) : ∀ (n k : Nat), (∀ j, j < n → (B (k + j) ∧ body ((k + j : Nat) : Int) () = some (.go ())) ∨ (¬ B (k + j) ∧ body ((k + j : Nat) : Int) () = some (.ret false))) →
  (forN body n (k : Int) () = some (.inl ()) ∧ ∀ j, j < n → B (k + j)) ∨ (forN body n (k : Int) () = some (.inr false) ∧ ∃ j, j < n ∧ ¬ B (k + j))
 | 0, k, h => .inl ⟨rfl, by simp⟩
 | n + 1, k, h => by
  rcases h 0 (by omega) with ⟨h1, h2⟩ | ⟨h1, h2⟩
  ·simp only [Nat.add_zero] at h1 h2
   have ih := kV_ (body := body) B n (k + 1) (fun j hj => by have := h (j + 1) (by omega); rw [show k + (j + 1) = k + 1 + j by omega] at this; exact this)
   simp only [forN, h2]
   rw [show ((k : Int) + 1) = ((k + 1 : Nat) : Int) by omega]
   rcases ih with ⟨i1, i2⟩ | ⟨i1, j, i2, i3⟩
   ·refine .inl ⟨i1, fun j hj => ?_⟩
    cases j with
    | zero => exact h1
    | succ j => have := i2 j (by omega); rwa [show k + 1 + j = k + (j + 1) by omega] at this
   ·exact .inr ⟨i1, j + 1, by omega, by rwa [show k + (j + 1) = k + 1 + j by omega]⟩
  ·simp only [Nat.add_zero] at h1 h2
   refine .inr ⟨?_, 0, by omega, h1⟩
   simp only [forN, h2]
open Classical in
theorem qz_ (fuel : Nat) (p : b_) (h : probB p = true) (hf : 10 ≤ fuel) (l : List Int) (hl : ∀ s ∈ l, 0 ≤ s ∧ s.toNat < 2 ^ p.Labels.toNat) (hlen : (l.length : Int) = p.Degree) : bZ_ fuel (nsV p) l = some (decide (fullI p.Labels.toNat p.Nodes l)) := by
  obtain ⟨g1, g2, g3, g4, -, -⟩ := aU_ h
  have key := kV_ (body := aY_ fuel (nsV p) l) (fun i => ∀ x, l[i]? = some x → cmI p.Labels.toNat p.Nodes (l.eraseIdx i) = x) l.length 0 (fun j hj => by
    have hb : aY_ fuel (nsV p) l ((0 + j : Nat) : Int) () = if cmI p.Labels.toNat p.Nodes (l.eraseIdx j) != l[j] then some (.ret false) else some (.go ()) := by
      unfold aY_
      rw [Nat.zero_add, ku_ _ (by omega), sb, G_ (by omega) (by omega), sb]
      unfold delO
      rw [if_pos (by omega), sb, Int.toNat_natCast, show ((j : Int) + 1).toNat = j + 1 by omega, ← List.eraseIdx_eq_take_drop_succ, ib_ fuel p h hf (l.eraseIdx j) (fun s hs => hl s (List.mem_of_mem_eraseIdx hs)) (by rw [List.length_eraseIdx, if_pos hj]; omega), sb, fW_ _ _ hj, sb]
    rw [hb, Nat.zero_add, List.getElem?_eq_getElem hj]
    by_cases e : cmI p.Labels.toNat p.Nodes (l.eraseIdx j) = l[j]
    · exact .inl ⟨fun x hx => by cases hx; exact e, by rw [if_neg (by simpa using e)]⟩
    · exact .inr ⟨fun hh => e (hh _ rfl), by rw [if_pos (by simpa using e)]⟩)
  simp only [Nat.zero_add] at key
  rw [show ((0 : Nat) : Int) = 0 from rfl] at key
  unfold bZ_
  rw [G_ (by omega) (by omega), sb, Int.toNat_natCast]
  rcases key with ⟨h1, h2⟩ | ⟨h1, j, h2, h3⟩
  · rw [h1, sb]
    have : fullI p.Labels.toNat p.Nodes l := fun i x hx => h2 i (List.getElem?_eq_some_iff.1 hx).1 x hx
    simp [this]
  · rw [h1, sb]
    have : ¬ fullI p.Labels.toNat p.Nodes l := fun hh => h3 (hh j)
    simp [this]
theorem jo_ (n d fuel : Nat) (hn : n ≤ 1000000) (hd : d ≤ 1000) (hb : ∀ k, k ≤ d → n ^ k ≤ 1000000000) (hf : n + d < fuel) : dr_ fuel (n : Int) (d : Int) = some (msD n d) := by
 have hgo : ∀ j, j < d → cs_ fuel (n : Int) (j : Int) (msD n j) = some (.go (msD n (j + 1))) := fun j hj => by
  have hlen : (msD n (j + 1)).length ≤ 1000000000 := Nat.le_trans (fQ_ n (j + 1)) (hb (j + 1) (by omega))
  have key := eL_ (body := cT_ fuel (n : Int)) (extD n) 1000000000 (msD n j) 0 [] (by simpa [msD] using hlen) (fun x hx k ac hac => by
   have hnd := (dW_ n j x).1 hx
   have h3 : (x.getLastD 0).toNat ≤ n → ∀ (f : List (List Int) × Int → Option (Lp (List (List Int) × Int) (List (List Int) × Int) (List (List Int)))), (f = cr_ (n : Int) x ∨ f = bL_ (n : Int) x) →
     loopF f fuel (ac, (((x.getLastD 0).toNat : Nat) : Int)) = some (.inl (ac ++ extD n x, (n : Int))) := fun hle f hf' => by
    unfold extD at hac ⊢
    rw [List.length_map, List.length_range'] at hac
    refine kp_ (x := x) (n := n) (fun acc k hk ha => ?_) (fun acc => ?_) _ _ fuel ac (by omega) (by omega) hac
    ·rcases hf' with rfl | rfl
     ·unfold cr_
      simp only
      rw [if_pos (by simpa using hk), ku_ x (by rw [hnd.1]; omega), sb]
      unfold push
      rw [if_pos (by rw [hnd.1]; omega), sb, if_pos ha, sb, G_ (by omega) (by omega), sb]
      rfl
     ·unfold bL_
      simp only
      rw [if_pos (by simpa using hk), ku_ x (by rw [hnd.1]; omega), sb]
      unfold push
      rw [if_pos (by rw [hnd.1]; omega), sb, if_pos ha, sb, G_ (by omega) (by omega), sb]
      rfl
    ·rcases hf' with rfl | rfl
     ·unfold cr_
      simp only
      rw [if_neg (by simp)]
     ·unfold bL_
      simp only
      rw [if_neg (by simp)]
   have h0 := oW_ hnd
   unfold cT_
   by_cases hj0 : 0 < j
   ·obtain ⟨i, rfl⟩ : ∃ i, j = i + 1 := ⟨j - 1, by omega⟩
    have hl : x.getLastD 0 < (n : Int) := by
     rcases List.eq_nil_or_concat x with rfl | ⟨u, a, rfl⟩
     ·have := hnd.1; simp at this
     ·have := hnd.2.2 a (by simp)
      rw [List.concat_eq_append, List.getLastD_concat]; exact this.2
    have hxl := hnd.1
    rw [if_pos (decide_eq_true (by omega)), G_ (by omega) (by omega), sb, show ((x.length : Int) - 1) = (i : Int) by omega, mi_ hnd.1, sb]
    have h4 := h3 (by omega) _ (.inl rfl)
    rw [Int.toNat_of_nonneg h0] at h4
    rw [h4, sb]
   ·have hj1 : j = 0 := by omega
    subst hj1
    have hx0 : x = [] := List.eq_nil_of_length_eq_zero hnd.1
    subst hx0
    rw [if_neg (by simp)]
    have h4 := h3 (by simp) (bL_ (n : Int) []) (.inr rfl)
    simp only [List.getLastD_nil, Int.toNat_zero, Int.natCast_zero] at h4
    rw [h4, sb])
  unfold cs_
  rw [key, sb]
  rfl
 have h := ev_ (body := cs_ fuel (n : Int)) (fun j => msD n j) d hgo
 unfold dr_
 rw [G_ (by omega) (by omega), sb, Int.toNat_natCast, show ([[]] : List (List Int)) = msD n 0 from rfl, h, sb]
end

section
set_option maxRecDepth 100000
set_option maxHeartbeats 2000000
open Go.RowKit
theorem ey_ : Inf Tryz.prog 41 (.slice none 0 0) 1 24 := by unfold Inf; kernel_rfl

def bE_ (f : List (List Int)) (g : List Int) : Int → Option (Lp Int Int (List (List Int))) := fun (s : Int) =>
  (
    if decide (s < (f.length : Int)) then
      (ix f s) >>= fun a =>
      (dX_ a g) >>= fun b =>
      some (decide (b < 0))
    else
      some false) >>= fun c =>
  if c then
    (ck (s + 1)) >>= fun d =>
    some (.go d)
  else
    some (.out s)
def eM_ (fuel : Nat) (a : List (List Int)) (c : List Int) : Option (List (List Int)) :=
  (loopF (bE_ a c) fuel 0) >>= fun q =>
  match q with
  | .inl b =>
    (
      if decide (b < (a.length : Int)) then
        (ix a b) >>= fun d =>
        (em_ d c) >>= fun f =>
        some f
      else
        some false) >>= fun g =>
    if g then
      some a
    else
      (cut a 0 b) >>= fun i =>
      (cat ([] : List (List Int)) i) >>= fun j =>
      (push j c) >>= fun k =>
      (cut a b a.length) >>= fun m =>
      (cat k m) >>= fun n =>
      some n
  | .inr _ => none

def ne_ (oo : Tg) (t : Nat) (w : World) (r : Yk) : Ending → World → Prop := fun e w' => ∃ (a : Value) (o' : Tg), e = .returned (a) ∧ RdL o' w' a r ∧ Keeps w w' ∧ ∀ b, b < w.heap.size → o' b = oo b
theorem mk_ (fuel : Nat) (w : World) (oo : Tg) (t : Nat) (ht : 2 ≤ t) (j : Value) (C : Yk) (d : RdL oo w j C) (k : Value) (B : Yl) (f : RdL oo w k B) (r : Yk) (hF : eM_ fuel C B = some r) :
    Calls Tryz.prog 158 #[j, k] w (ne_ oo t w r) := by
 unfold eM_ at hF; replace d := RdL.col d; replace f := RdL.col f; have hB : Bs oo (col oo) w w := Bs.start _ _; refine i_ (n := 49) (vs := [j, k]) Tryz.func158 rfl rfl ?_; generalize col oo = o at *; refine Zq (Za rfl (Ze [(0, j), (1, k)] (Zn (Za rfl (Ze [(0, j), (1, k), (5, ZI 0)] (nx ?_)))))); obtain ⟨d7, b0, hF⟩ := bind_some hF; refine iu_ (fun a s => ∃ (m : Int) (u : Tg), d7 = .inl m ∧ Fr a 49 [(0, j), (1, k), (5, ZI m)] ∧ Bs oo u w s ∧ RdL u s j C ∧ RdL u s k B) (fun _ _ => False) ?_ ?_ ?_
 ·refine f_ ?_; refine z_ (fun (K : Nat) a s => ∃ (m : Int) (u : Tg), loopF (bE_ C B) K m = some d7 ∧ Fr a 49 [(0, j), (1, k), (5, ZI m)] ∧ Bs oo u w s ∧ RdL u s j C ∧ RdL u s k B) fuel (fun a ha => ⟨0, o, b0, ha.sub (r := [(0, j), (1, k), (5, ZI 0)]) ⟨rfl, rfl, rfl, trivial⟩, hB, d, f⟩) ?_; rintro K8 a s ⟨m, u, d8, ha, hB, d, f⟩; obtain ⟨K12, h3, d9, q, N⟩ := Y_ d8; dsimp only [bE_] at q; refine M_ ha ?_; refine a_ (Zq (Zm rfl (Zm rfl (Zv (C_ rfl d Tryz.underlying22) (Zv (t_ rfl rfl) (Zm rfl ?_)))))); obtain ⟨O, g, q⟩ := bind_some q; refine as_ 8 (fun b1 P => Fr b1 49 [(0, j), (1, k), (5, ZI m), (19, (.bool O))] ∧ Keeps s P) ?_ ?_; all_goals simp only [List.take_succ_cons, List.take_zero, List.drop_succ_cons, List.drop_zero]
  ·have kp : Keeps s s := Keeps.refl _; rcases Bool.eq_false_or_eq_true (decide (m < (C.length : Int))) with b | b
   ·rw [if_pos b] at g; refine k_ (h_ rfl) (by decide) ⟨_, rfl, (Zb b)⟩ (k_ (h_ rfl) (by decide) ⟨_, rfl, (Zb b)⟩ ?_); obtain ⟨b2, Q, g⟩ := bind_some g; refine bI_ (by decide) ⟨_, rfl, (Zb b)⟩ ?_; refine hw_ d Q rfl rfl Tryz.underlying22 Tryz.sizeOf41 ?_; intro e0 e1 e2 b3 b4; obtain ⟨e3, rfl, b5⟩ := b4; refine k_ (e_ rfl Tryz.isAgg41 (j_ b3)) (by decide) ⟨_, rfl, (Zb b)⟩ (k_ (h_ rfl) (by decide) ⟨_, rfl, (Zb b)⟩ ?_); obtain ⟨R, S, g⟩ := bind_some g; refine bI_ (by decide) ⟨_, rfl, (Zb b)⟩ ?_; refine p_ (kf_ s _ b2 b5.z _ B f.z R S) Tryz.call107 ⟨rfl, rfl, trivial⟩ ?_; rintro e4 e5 ⟨rfl, T⟩; have U := T.stp 999 u; refine ⟨_, rfl, ?_⟩; replace d := d.stp U; replace f := f.stp U; replace kp := Keeps.trans kp T; refine k_ (t_ rfl rfl) (by decide) ⟨_, rfl, (Zb b)⟩ (Zv (x_ (Zb b) rfl) ?_); have v := Zj g; refine Ze [(0, j), (1, k), (5, ZI m), (19, (.bool (decide (R < 0))))] ?_; subst v; refine s_ (fun a ha => ⟨ha, kp⟩)
   ·rw [if_neg (by rw [b]; decide)] at g; refine n_ rfl rfl (by rw [b]; rfl) (by decide) ?_; refine n_ rfl rfl (by rw [b]; rfl) (by decide) ?_; refine n_ rfl rfl (by rw [b]; rfl) (by decide) ?_; refine n_ rfl rfl (by rw [b]; rfl) (by decide) ?_; refine n_ rfl rfl (by rw [b]; rfl) (by decide) ?_; refine n_ rfl rfl (by rw [b]; rfl) (by decide) ?_; refine n_ rfl rfl (by rw [b]; rfl) (by decide) ?_; refine Zv (B_ (Zb b) rfl) ?_; have v := Zj g; refine Ze [(0, j), (1, k), (5, ZI m), (19, (.bool false))] ?_; subst v; refine s_ (fun a ha => ⟨ha, kp⟩)
  rintro e6 P ⟨ha, b6⟩; have D := b6.stp 999 u; replace d := d.stp D; replace f := f.stp D; replace hB := hB.stp D; refine aV_ ha ?_; refine Ze [(0, j), (1, k), (5, ZI m), (19, (.bool O))] (nx ?_); refine o_ rfl (fun E => ?_) (fun E => ?_)
  ·rw [if_pos E] at q; refine g_ (nx (f_ (c_ (Zm rfl ?_)))); obtain ⟨F, V, q⟩ := bind_some q; refine Zv (F_ rfl rfl V) (Za rfl (Ze [(0, j), (1, k), (5, ZI F)] (y_ (w_ ?_)))); have b7 := Zj q; subst b7; refine Zk [(0, j), (1, k), (5, ZI F)] ?_; intro a ha; exact ⟨K12, by omega, F, u, N, ha, hB, d, f⟩
  ·rw [if_neg (by rw [E]; decide)] at q; refine v_ ?_; refine r_ (r_ (Q_ ?_)); refine s_ ?_; have b8 := Zj q; subst b8; refine Zk [(0, j), (1, k), (5, ZI m)] ?_; intro a ha; exact ⟨m, u, N, ha, hB, d, f⟩
 ·rintro a s ⟨m, u, rfl, ha, hB, d, f⟩; dsimp only at hF; refine M_ ha ?_; refine a_ (Zq (Zm rfl (Zm rfl (Zv (C_ rfl d Tryz.underlying22) (Zv (t_ rfl rfl) (Zm rfl ?_)))))); obtain ⟨W, i, hF⟩ := bind_some hF; refine as_ 7 (fun b9 X => Fr b9 49 [(0, j), (1, k), (5, ZI m), (33, (.bool W))] ∧ Keeps s X) ?_ ?_; all_goals simp only [List.take_succ_cons, List.take_zero, List.drop_succ_cons, List.drop_zero]
  ·have kp : Keeps s s := Keeps.refl _; rcases Bool.eq_false_or_eq_true (decide (m < (C.length : Int))) with c | c
   ·rw [if_pos c] at i; refine k_ (h_ rfl) (by decide) ⟨_, rfl, (Zb c)⟩ (k_ (h_ rfl) (by decide) ⟨_, rfl, (Zb c)⟩ ?_); obtain ⟨c0, Y, i⟩ := bind_some i; refine bI_ (by decide) ⟨_, rfl, (Zb c)⟩ ?_; refine hw_ d Y rfl rfl Tryz.underlying22 Tryz.sizeOf41 ?_; intro e7 e8 e9 c1 c2; obtain ⟨f0, rfl, c3⟩ := c2; refine k_ (e_ rfl Tryz.isAgg41 (j_ c1)) (by decide) ⟨_, rfl, (Zb c)⟩ (k_ (h_ rfl) (by decide) ⟨_, rfl, (Zb c)⟩ ?_); obtain ⟨Z, a0, i⟩ := bind_some i; refine bI_ (by decide) ⟨_, rfl, (Zb c)⟩ ?_; refine p_ (gl_ s _ c0 c3.z _ B f.z Z a0) Tryz.call115 ⟨rfl, rfl, trivial⟩ ?_; rintro f1 f2 ⟨rfl, a1⟩; have a2 := a1.stp 999 u; refine ⟨_, rfl, ?_⟩; replace d := d.stp a2; replace f := f.stp a2; replace kp := Keeps.trans kp a1; refine Zv (x_ (Zb c) rfl) ?_; have x := Zj i; refine Ze [(0, j), (1, k), (5, ZI m), (33, (.bool Z))] ?_; subst x; refine s_ (fun a ha => ⟨ha, kp⟩)
   ·rw [if_neg (by rw [c]; decide)] at i; refine n_ rfl rfl (by rw [c]; rfl) (by decide) ?_; refine n_ rfl rfl (by rw [c]; rfl) (by decide) ?_; refine n_ rfl rfl (by rw [c]; rfl) (by decide) ?_; refine n_ rfl rfl (by rw [c]; rfl) (by decide) ?_; refine n_ rfl rfl (by rw [c]; rfl) (by decide) ?_; refine n_ rfl rfl (by rw [c]; rfl) (by decide) ?_; refine Zv (B_ (Zb c) rfl) ?_; have x := Zj i; refine Ze [(0, j), (1, k), (5, ZI m), (33, (.bool false))] ?_; subst x; refine s_ (fun a ha => ⟨ha, kp⟩)
  rintro f3 X ⟨ha, c4⟩; have G := c4.stp 999 u; replace d := d.stp G; replace f := f.stp G; replace hB := hB.stp G; refine aV_ ha ?_; refine Ze [(0, j), (1, k), (5, ZI m), (33, (.bool W))] (nx ?_); refine o_ rfl (fun H => ?_) (fun H => ?_)
  ·rw [if_pos H] at hF; refine Zq (Zm rfl (Za rfl (Ze [(4, j)] (nx (m_ (D_ ?_)))))); have c5 := Zj hF; subst c5; refine Zr Tryz.results158 [j] ?_; exact ⟨_, rt oo u w.heap.size 9 t, rfl, d.rt hB 9 t (by decide), hB.keeps, af_ _ _ _ _ _⟩
  ·rw [if_neg (by rw [H]; decide)] at hF; refine g_ (Zn (Zo ?_)); refine fF_ w.heap.size 13 hB.keeps.size (o := u) (cs := []) (xs := ([] : Yk)) (vs := []) rfl rfl trivial Tryz.underlying22 Tryz.sizeOf41 Tryz.zeroValue41 (by decide) fill0 (by simp) ?_; intro f4 f5 f6 c6 I; replace d := d.stp I; replace f := f.stp I; replace hB := hB.stp I; refine Zm rfl (Zm rfl ?_); obtain ⟨f7, a3, hF⟩ := bind_some hF; refine Zo ?_; refine kO_ d a3 rfl rfl rfl Tryz.underlying22 Tryz.sizeOf41 ?_; intro f8 c7; obtain ⟨f9, a4, hF⟩ := bind_some hF; refine Zo ?_; refine bo_ c6 c7 a4 (by decide) hB.keeps.size rfl rfl Tryz.underlying22 ey_ rfl (by decide) ?_; intro c8 g0 c9 J L; replace d := d.stp L; replace f := f.stp L; replace hB := hB.stp L; refine Za rfl (Ze [(0, j), (1, k), (5, ZI m), (6, c9)] (Zn (Zm rfl (Zm rfl (Zo ?_))))); refine aL_ (o := c8) (cs := [k]) (xs := ([B] : Yk)) (vs := [(0, k)]) ⟨_, _, rfl, (jb_ f), rfl⟩ rfl ⟨rfl, rfl, trivial⟩ Tryz.underlying22 Tryz.sizeOf41 Tryz.zeroValue41 (by decide) (fill1 f.cells1) (by simp) ?_; intro g1 g2 g3 d0 y g4; replace d := d.stp y; replace f := f.stp y; replace J := J.stp y; replace hB := hB.stp y; obtain ⟨g5, a5, hF⟩ := bind_some hF; refine Zo ?_; refine bo_ J d0 (au_ a5) (by decide) hB.keeps.size rfl rfl Tryz.underlying22 ey_ rfl (by decide) ?_; intro g6 g7 d1 d2 M; replace d := d.stp M; replace f := f.stp M; replace hB := hB.stp M; refine Za rfl (Ze [(0, j), (5, ZI m), (6, d1)] (Zn (Zm rfl (Zm rfl (Zm rfl ?_))))); obtain ⟨g8, a6, hF⟩ := bind_some hF; refine Zo ?_; refine kO_ d a6 rfl rfl rfl Tryz.underlying22 Tryz.sizeOf41 ?_; intro g9 d3; obtain ⟨h0, a7, hF⟩ := bind_some hF; refine Zo ?_; refine bo_ d2 d3 a7 (by decide) hB.keeps.size rfl rfl Tryz.underlying22 ey_ rfl (by decide) ?_; intro d4 h1 a8 A a9; replace d := d.stp a9; replace hB := hB.stp a9; refine Za rfl (Ze [(4, a8)] (nx (m_ ?_))); have h2 := A.frzF; replace A := A.frz; replace hB := hB.frz 13 (by decide); generalize (frz 13 d4) = d5 at *; have d6 := Zj hF; subst d6; refine Zr Tryz.results158 [a8] ?_; exact ⟨_, rt oo d5 w.heap.size 9 t, rfl, A.rt hB 9 t (by decide), hB.keeps, af_ _ _ _ _ _⟩
 ·exact fun _ _ h => h.elim
end

end Go.Proofs.YtdbbeldgdgonfaaGreat
