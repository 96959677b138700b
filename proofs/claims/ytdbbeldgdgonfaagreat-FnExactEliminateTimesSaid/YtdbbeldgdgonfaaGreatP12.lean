/- Part 12 of what this claim rests on (Elf, GIm, Im, GC, GPpa), packed by pack.py. -/
import Derived.Test.YtdbbeldgdgonfaaGreatP03
import Derived.Test.YtdbbeldgdgonfaaGreatP04
import Derived.Test.YtdbbeldgdgonfaaGreatP05
import Derived.Test.YtdbbeldgdgonfaaGreatP06
import Derived.Test.YtdbbeldgdgonfaaGreatP07
import Derived.Test.YtdbbeldgdgonfaaGreatP09
import Derived.Test.YtdbbeldgdgonfaaGreatP11
namespace Go.Proofs.YtdbbeldgdgonfaaGreat
set_option linter.unusedSimpArgs false
set_option linter.unusedVariables false

section
theorem jF_ {n : Nat} (h : n ≤ 9223372036854775807) : ck (n : Int) = some (n : Int) := D_ (by omega) (by omega)
def digs (L : Nat) : Nat → Nat → List Int
  | 0, _ => []
  | n + 1, k => ((k % L : Nat) : Int) :: digs L n (k / L)
def valN (L : Nat) : List Int → Nat
  | [] => 0
  | a :: c => a.toNat + L * valN L c
theorem dS_ (L : Nat) : ∀ n k, (digs L n k).length = n
 | 0, _ => rfl
 | n + 1, k => by unfold digs; rw [List.length_cons, dS_ L n]
theorem jm_ (L : Nat) : ∀ n k, digs L (n + 1) k = digs L n k ++ [((k / L ^ n % L : Nat) : Int)]
 | 0, k => by simp [digs]
 | n + 1, k => by
  have ih := jm_ L n (k / L)
  rw [Nat.div_div_eq_div_mul] at ih
  rw [show L ^ (n + 1) = L * L ^ n by rw [Nat.pow_succ, Nat.mul_comm]]
  show ((k % L : Nat) : Int) :: digs L (n + 1) (k / L) = (((k % L : Nat) : Int) :: digs L n (k / L)) ++ _
  rw [ih]; rfl
theorem kD_ {L : Nat} : ∀ c : List Int, (∀ a ∈ c, 0 ≤ a ∧ a < (L : Int)) → digs L c.length (valN L c) = c
 | [], _ => rfl
 | a :: c, h => by
  have ha := h a (by simp)
  have ih := kD_ c fun x hx => h x (by simp [hx])
  have hlt : a.toNat < L := by omega
  rw [List.length_cons]
  unfold digs valN
  rw [Nat.add_mul_mod_self_left, Nat.mod_eq_of_lt hlt, Nat.add_mul_div_left _ _ (by omega), Nat.div_eq_of_lt hlt, Nat.zero_add, ih, Int.toNat_of_nonneg ha.1]
theorem lF_ (L : Nat) : ∀ (c : List Int) (a : Int), valN L (c ++ [a]) = valN L c + a.toNat * L ^ c.length
 | [], a => by simp [valN]
 | x :: c, a => by
  rw [List.cons_append, List.length_cons]
  unfold valN
  rw [lF_ L c a, Nat.mul_add, Nat.pow_succ, Nat.add_assoc]
  congr 2
  rw [Nat.mul_comm (L ^ c.length) L, ← Nat.mul_assoc, ← Nat.mul_assoc, Nat.mul_comm L]
theorem gb_ {L : Nat} : ∀ c : List Int, (∀ a ∈ c, 0 ≤ a ∧ a < (L : Int)) → valN L c < L ^ c.length
 | [], _ => by simp [valN]
 | a :: c, h => by
  have ha := h a (by simp)
  have ih := gb_ c fun x hx => h x (by simp [hx])
  have hlt : a.toNat < L := by omega
  rw [List.length_cons, Nat.pow_succ]
  unfold valN
  have h1 : L * (valN L c + 1) ≤ L * L ^ c.length := Nat.mul_le_mul_left L ih
  rw [Nat.mul_add, Nat.mul_one] at h1
  rw [Nat.mul_comm (L ^ c.length) L]
  omega
theorem cU_ {L k : Nat} (hL : L ≤ 8) (hk : k ≤ 4) : L ^ k ≤ 4096 := by
 have h1 : L ^ k ≤ 8 ^ k := Nat.pow_le_pow_left hL k
 have h2 : 8 ^ k ≤ 8 ^ 4 := Nat.pow_le_pow_right (by decide) hk
 omega
theorem cF_ {L : Nat} (hL : L ≤ 8) : 2 ^ L ≤ 256 := by
 have : 2 ^ L ≤ 2 ^ 8 := Nat.pow_le_pow_right (by decide) hL
 omega
noncomputable def aftN (p : a_) (key : Nat) : Nat := bitsP (fun b => inG p.Nodes (digs p.Labels.toNat (p.Degree.toNat - 1) key ++ [(b : Int)])) p.Labels.toNat
noncomputable def nsV (p : a_) : ae_ := ⟨p, (List.range (p.Labels.toNat ^ (p.Degree.toNat - 1))).map fun k => ((aftN p k : Nat) : Int)⟩
theorem qC_ (p : a_) (L e : Nat) (hL : p.Labels = (L : Int)) (h8 : L ≤ 8) (he : e ≤ 3) : forN (bz_ p) e 0 1 = some (.inl ((L ^ e : Nat) : Int)) := by
 have := dw_ (body := bz_ p) (fun j => ((L ^ j : Nat) : Int)) e (fun j hj => by
  have hb := cU_ (k := j + 1) h8 (by omega)
  unfold bz_
  rw [hL, show ((L ^ j : Nat) : Int) * (L : Int) = ((L ^ (j + 1) : Nat) : Int) by rw [Nat.pow_succ]; exact (Int.natCast_mul _ _).symm, D_ (by omega) (by omega), sb])
 simpa using this
theorem oZ_ (p : a_) (L e key : Nat) (hL : p.Labels = (L : Int)) (h1 : 1 ≤ L) (hk : key ≤ 1000000) : forN (bx_ p) e 0 (List.replicate (e + 1) 0, (key : Int)) = some (.inl (digs L e key ++ [0], ((key / L ^ e : Nat) : Int))) := by
 have := dw_ (body := bx_ p) (fun j => (digs L j key ++ List.replicate (e + 1 - j) 0, ((key / L ^ j : Nat) : Int))) e (fun j hj => by
  have hle : key / L ^ j / L ≤ key := Nat.le_trans (Nat.div_le_self _ _) (Nat.div_le_self _ _)
  have hr : List.replicate (e + 1 - j) (0 : Int) = 0 :: List.replicate (e + 1 - (j + 1)) 0 := by
   rw [show e + 1 - j = (e + 1 - (j + 1)) + 1 by omega, List.replicate_succ]
  unfold bx_
  simp only
  unfold rem quo
  rw [hL, if_neg (by omega), sb, hr, pj_ _ _ _ _ (by rw [dS_]), sb, qY_ _ _ _ _ _ (by rw [dS_]), sb, if_neg (by omega),
   show ((key / L ^ j : Nat) : Int).tdiv (L : Int) = ((key / L ^ j / L : Nat) : Int) from rfl, jF_ (by omega), sb,
   show ((key / L ^ j : Nat) : Int).tmod (L : Int) = ((key / L ^ j % L : Nat) : Int) from rfl, jm_, List.append_assoc, List.singleton_append, Nat.pow_succ, Nat.div_div_eq_div_mul])
 simpa [digs, Nat.sub_self] using this
theorem rU_ (fuel : Nat) (p : a_) (h : probB p = true) (hJ : p.Nodes.length ≤ 1000000000) (hf : p.Nodes.length < fuel) (L e key : Nat) (hL : p.Labels = (L : Int)) (hD : p.Degree = ((e + 1 : Nat) : Int)) (h8 : L ≤ 8) (A : List Int) (hk : key < A.length) (h0 : A[key]? = some 0) :
  ∃ y, forN (by_ fuel p (key : Int)) L 0 (digs L e key ++ [0], A) = some (.inl (y, A.set key ((bitsP (fun b => inG p.Nodes (digs L e key ++ [(b : Int)])) L : Nat) : Int))) := by
 have hA0 : A.set key 0 = A := by
  refine List.ext_getElem? fun i => ?_
  rw [List.getElem?_set]
  by_cases e : key = i
  ·subst e
   rw [if_pos rfl, if_pos hk, h0]
  ·rw [if_neg e]
 generalize hP : (fun b : Nat => inG p.Nodes (digs L e key ++ [(b : Int)])) = P
 have := dw_ (body := by_ fuel p (key : Int)) (fun j => (digs L e key ++ [((j - 1 : Nat) : Int)], A.set key ((bitsP P j : Nat) : Int))) L (fun j hj => by
  have hlt := dT_ P j
  have h2 : 2 ^ j ≤ 256 := cF_ (by omega)
  unfold by_
  simp only
  rw [hD, show (((e + 1 : Nat) : Int) - 1) = (e : Int) by omega, D_ (by have := dS_ L e key; omega) (by
   have := bc_ h
   omega), sb, pj_ _ _ _ _ (by rw [dS_]), sb, qY_ _ _ _ _ _ (by rw [dS_]), sb,
   rt_ fuel p h _ (by rw [List.length_append, dS_, hD]; rfl) hJ hf, sb]
  by_cases hn : srt (digs L e key ++ [(j : Int)]) ∈ p.Nodes
  ·have hPj : P j := by rw [← hP]; exact hn
   have hix : ix (A.set key ((bitsP P j : Nat) : Int)) (key : Int) = some ((bitsP P j : Nat) : Int) := by
    rw [cu_, List.getElem?_set, if_pos rfl, if_pos hk]
   rw [if_pos (decide_eq_true hn), hix, sb, eY_ (by omega), sb, sb, qu_ (by omega) (by omega), lT_ _ _ _ (by rw [List.length_set]; exact hk), sb, List.set_set, hq_ hPj, Nat.add_sub_cancel]
  ·have hPj : ¬ P j := by rw [← hP]; exact hn
   rw [if_neg (by simpa using hn), ir_ hPj, Nat.add_sub_cancel])
 refine ⟨digs L e key ++ [((L - 1 : Nat) : Int)], ?_⟩
 rw [← this]
 simp [bitsP, hA0]
theorem oy_ (n key K : Nat) (f : Nat → Int) (hk : key = K) (hn : K < n) : ((List.range n).map fun k => if k < K then f k else 0).set key (f key) = (List.range n).map fun k => if k < K + 1 then f k else 0 := by
 subst hk
 refine List.ext_getElem? fun i => ?_
 rw [List.getElem?_set]
 by_cases e : key = i
 ·subst e
  simp [hn]
 ·rw [if_neg e]
  by_cases hi : i < n
  ·simp only [List.getElem?_map, List.getElem?_range hi, Option.map_some]
   congr 1
   by_cases h1 : i < key
   ·rw [if_pos h1, if_pos (by omega)]
   ·rw [if_neg h1, if_neg (by omega)]
  ·simp only [List.getElem?_map]
   rw [List.getElem?_eq_none (by simp; omega)]; rfl
theorem kB_ (fuel : Nat) (p : a_) (h : probB p = true) (hJ : p.Nodes.length ≤ 1000000000) (hf : p.Nodes.length < fuel) : cT_ fuel p = some (nsV p) := by
 obtain ⟨g1, g2, g3, g4, -, -⟩ := bc_ h
 obtain ⟨L, hL⟩ : ∃ L : Nat, p.Labels = (L : Int) := ⟨p.Labels.toNat, by omega⟩
 obtain ⟨e, hD⟩ : ∃ e : Nat, p.Degree = ((e + 1 : Nat) : Int) := ⟨p.Degree.toNat - 1, by omega⟩
 have hpw := cU_ (L := L) (k := e) (by omega) (by omega)
 have ha : nsV p = ⟨p, (List.range (L ^ e)).map fun k => ((aftN p k : Nat) : Int)⟩ := by
  unfold nsV
  rw [hL, hD, Int.toNat_natCast, Int.toNat_natCast, Nat.add_sub_cancel]
 have haf : ∀ k, aftN p k = bitsP (fun b => inG p.Nodes (digs L e k ++ [(b : Int)])) L := fun k => by
  unfold aftN
  rw [hL, hD, Int.toNat_natCast, Int.toNat_natCast, Nat.add_sub_cancel]
 have hloop := dw_ (body := cb_ fuel p) (fun K => (List.range (L ^ e)).map fun k => if k < K then ((aftN p k : Nat) : Int) else 0) (L ^ e) (fun K hK => by
  obtain ⟨y, hy⟩ := rU_ fuel p h hJ hf L e K hL hD (by omega) ((List.range (L ^ e)).map fun k => if k < K then ((aftN p k : Nat) : Int) else 0) (by simp; exact hK) (by simp [hK])
  unfold cb_ mk
  rw [hD, if_pos (by omega), sb, show (((e + 1 : Nat) : Int) - 1) = (e : Int) by omega, D_ (by omega) (by omega), sb, Int.toNat_natCast, Int.toNat_natCast]
  have hd := oZ_ p L e K hL (by omega) (by omega)
  rw [show (Rz.z : Int) = 0 from rfl, show (ck (e : Int)) = some (e : Int) from D_ (by omega) (by omega), sb, hd, sb]
  simp only
  rw [hL, D_ (by omega) (by omega), sb, Int.toNat_natCast, hy, sb]
  simp only
  rw [← haf, oy_ _ _ _ (fun k => ((aftN p k : Nat) : Int)) rfl hK])
 unfold cT_ mk
 rw [hD, show (((e + 1 : Nat) : Int) - 1) = (e : Int) by omega, D_ (by omega) (by omega), sb, show (ck (e : Int)) = some (e : Int) from D_ (by omega) (by omega), sb, Int.toNat_natCast, qC_ p L e hL (by omega) (by omega), sb]
 simp only
 rw [if_pos (by omega), sb, List.length_replicate, Int.toNat_natCast, D_ (by omega) (by omega), sb, Int.toNat_natCast]
 have hr : List.replicate (L ^ e) (Rz.z : Int) = (List.range (L ^ e)).map fun k => if k < 0 then ((aftN p k : Nat) : Int) else 0 := by
  refine List.ext_getElem (by simp) fun i h1 h2 => ?_
  simp
  rfl
 rw [hr, hloop, sb, ha]
 have he : ((List.range (L ^ e)).map fun k => if k < L ^ e then ((aftN p k : Nat) : Int) else 0) = (List.range (L ^ e)).map fun k => ((aftN p k : Nat) : Int) := by
  refine List.map_congr_left fun k hk => ?_
  rw [if_pos (List.mem_range.1 hk)]
 rw [he, ← hD]
theorem mc_ {P Q : Nat → Prop} (n : Nat) : bitsP P n &&& bitsP Q n = bitsP (fun b => P b ∧ Q b) n := by
 refine Nat.eq_of_testBit_eq fun b => ?_
 rw [Nat.testBit_and, Bool.eq_iff_iff, Bool.and_eq_true, eu_, eu_, eu_]
 exact ⟨fun ⟨h1, h2⟩ => ⟨h1.1, h1.2, h2.2⟩, fun ⟨h1, h2, h3⟩ => ⟨⟨h1, h2⟩, h1, h3⟩⟩
theorem mK_ {P : Nat → Prop} {n o : Nat} (ho : o < 2 ^ n) (h : ∀ b, b < n → P b) : o &&& bitsP P n = o := by
 refine Nat.eq_of_testBit_eq fun b => ?_
 rw [Nat.testBit_and]
 cases hb : o.testBit b
 ·rfl
 ·have hlt : b < n := by
   refine Nat.lt_of_not_le fun hle => ?_
   have := Nat.testBit_lt_two_pow (Nat.lt_of_lt_of_le ho (Nat.pow_le_pow_right (by decide) hle))
   rw [this] at hb; cases hb
  rw [Bool.true_and]
  exact (eu_ P n b).2 ⟨hlt, h b hlt⟩
noncomputable def cmP (L : Nat) (N : List (List Int)) (c0 : List Int) (SS : List Nat) : Nat := bitsP (fun b => ∀ c, cho SS c → inG N (c0 ++ c ++ [(b : Int)])) L
theorem pV_ (L : Nat) (N : List (List Int)) (SS : List Nat) : cmP L N [] SS = cmpl L (inG N) SS := rfl
theorem pa_ {S a L : Nat} (hS : S < 2 ^ L) (h : S.testBit a = true) : a < L := by
 refine Nat.lt_of_not_le fun hle => ?_
 have := Nat.testBit_lt_two_pow (Nat.lt_of_lt_of_le hS (Nat.pow_le_pow_right (by decide) hle))
 rw [this] at h; cases h
theorem qf_ (p : a_) (L e : Nat) (hL : p.Labels = (L : Int)) (hD : p.Degree = ((e + 1 : Nat) : Int)) (h8 : L ≤ 8) (he : e ≤ 3) (sets : List Int) (hs : ∀ s ∈ sets, 0 ≤ s ∧ s.toNat < 2 ^ L) (hlen : sets.length = e) :
  ∀ (d k fuel : Nat) (c0 : List Int) (o : Nat), k + d = e → d < fuel → c0.length = k → (∀ a ∈ c0, 0 ≤ a ∧ a < (L : Int)) → o < 2 ^ L →
  R_ fuel (k : Int) ((valN L c0 : Nat) : Int) ((L ^ k : Nat) : Int) sets (o : Int) (nsV p) = some (((o &&& cmP L p.Nodes c0 ((sets.drop k).map Int.toNat) : Nat)) : Int)
 | 0, k, fuel, c0, o, hk, hf, hc, hin, ho => by
  obtain ⟨fuel, rfl⟩ : ∃ q, fuel = q + 1 := ⟨fuel - 1, by omega⟩
  have h256 := cF_ h8
  have hv := gb_ c0 hin
  rw [hc, show k = e by omega] at hv
  have ha : ix (nsV p).after ((valN L c0 : Nat) : Int) = some ((cmP L p.Nodes c0 [] : Nat) : Int) := by
   unfold nsV
   simp only
   rw [hL, hD, Int.toNat_natCast, Int.toNat_natCast, Nat.add_sub_cancel, cu_, List.getElem?_map, List.getElem?_range hv, Option.map_some]
   unfold aftN cmP
   rw [hL, hD, Int.toNat_natCast, Int.toNat_natCast, Nat.add_sub_cancel]
   congr 2
   refine cJ_ L fun b _ => ?_
   have hd := kD_ c0 hin
   rw [hc, show k = e by omega] at hd
   rw [hd]
   constructor
   ·intro h c hcc
    cases c with
    | nil => rwa [List.append_nil]
    | cons a c => exact hcc.elim
   ·intro h
    have := h [] trivial
    rwa [List.append_nil] at this
  have hb := dT_ (fun b => ∀ c, cho [] c → inG p.Nodes (c0 ++ c ++ [(b : Int)])) L
  unfold R_
  rw [if_pos (by simp; omega), ha, sb, show sets.drop k = [] from List.drop_eq_nil_iff.2 (by omega), List.map_nil, kN_ (by omega) (by unfold cmP; omega)]
 | d + 1, k, fuel, c0, o, hk, hf, hc, hin, ho => by
  obtain ⟨fuel, rfl⟩ : ∃ q, fuel = q + 1 := ⟨fuel - 1, by omega⟩
  have h256 := cF_ h8
  have hkl : k < sets.length := by omega
  obtain ⟨S, hS⟩ : ∃ S : Nat, sets[k] = (S : Int) := ⟨sets[k].toNat, by have := hs _ (List.getElem_mem hkl); omega⟩
  have hS2 : S < 2 ^ L := by have := (hs _ (List.getElem_mem hkl)).2; rw [hS, Int.toNat_natCast] at this; exact this
  have hdrop : (sets.drop k).map Int.toNat = S :: (sets.drop (k + 1)).map Int.toNat := by
   rw [List.drop_eq_getElem_cons hkl, List.map_cons, hS, Int.toNat_natCast]
  generalize hSS : (sets.drop (k + 1)).map Int.toNat = SS at hdrop
  have hv := gb_ c0 hin
  rw [hc] at hv
  have hpk := cU_ (L := L) (k := k) h8 (by omega)
  have hpk1 := cU_ (L := L) (k := k + 1) h8 (by omega)
  have hloop := dw_ (body := aC_ (k : Int) ((valN L c0 : Nat) : Int) ((L ^ k : Nat) : Int) sets (nsV p) (R_ fuel)) (fun j => ((o &&& bitsP (fun b => ∀ a : Nat, a < j → S.testBit a = true → ∀ c, cho SS c → inG p.Nodes (c0 ++ [(a : Int)] ++ c ++ [(b : Int)])) L : Nat) : Int)) L (fun j hj => by
   have hstep : (bitsP (fun b => ∀ a : Nat, a < j + 1 → S.testBit a = true → ∀ c, cho SS c → inG p.Nodes (c0 ++ [(a : Int)] ++ c ++ [(b : Int)])) L) = bitsP (fun b => ∀ a : Nat, a < j → S.testBit a = true → ∀ c, cho SS c → inG p.Nodes (c0 ++ [(a : Int)] ++ c ++ [(b : Int)])) L &&& bitsP (fun b => S.testBit j = true → ∀ c, cho SS c → inG p.Nodes (c0 ++ [(j : Int)] ++ c ++ [(b : Int)])) L := by
    rw [mc_]
    refine cJ_ L fun b _ => ?_
    constructor
    ·exact fun h => ⟨fun a ha => h a (by omega), h j (by omega)⟩
    ·rintro ⟨h1, h2⟩ a ha
     by_cases e : a = j
     ·subst e; exact h2
     ·exact h1 a (by omega)
   rw [hstep, ← Nat.and_assoc]
   have hlt : o &&& bitsP (fun b => ∀ a : Nat, a < j → S.testBit a = true → ∀ c, cho SS c → inG p.Nodes (c0 ++ [(a : Int)] ++ c ++ [(b : Int)])) L < 2 ^ L := Nat.lt_of_le_of_lt Nat.and_le_left ho
   generalize (o &&& bitsP (fun b => ∀ a : Nat, a < j → S.testBit a = true → ∀ c, cho SS c → inG p.Nodes (c0 ++ [(a : Int)] ++ c ++ [(b : Int)])) L) = o' at hlt ⊢
   unfold aC_
   rw [fT_ _ _ hkl, sb, hS, kG_ (by omega), sb, nC_ (by omega)]
   cases hb : S.testBit j
   ·rw [if_neg (by simp), sb, if_neg (by simp), mK_ hlt (by simp)]
   ·rw [if_pos rfl, sb]
    by_cases h0 : o' = 0
    ·subst h0
     rw [if_neg (by simp), Nat.zero_and]
    ·have hjk : j * L ^ k ≤ 8 * 4096 := Nat.mul_le_mul (by omega) hpk
     have hnat1 : ((valN L c0 : Nat) : Int) + (j : Int) * ((L ^ k : Nat) : Int) = ((valN L (c0 ++ [(j : Int)]) : Nat) : Int) := by
      rw [lF_, hc, Int.toNat_natCast, Int.natCast_add, Int.natCast_mul]
     have hnat2 : ((L ^ k : Nat) : Int) * (L : Int) = ((L ^ (k + 1) : Nat) : Int) := by rw [Nat.pow_succ]; exact (Int.natCast_mul _ _).symm
     have hnat3 : (j : Int) * ((L ^ k : Nat) : Int) = ((j * L ^ k : Nat) : Int) := (Int.natCast_mul _ _).symm
     have hin2 : ∀ a ∈ c0 ++ [(j : Int)], 0 ≤ a ∧ a < (L : Int) := fun a ha => by
      rcases List.mem_append.1 ha with ha | ha
      ·exact hin a ha
      ·rw [List.mem_singleton.1 ha]; omega
     have hv2 := gb_ _ hin2
     rw [List.length_append, hc, List.length_singleton] at hv2
     rw [if_pos (by simpa using h0), D_ (by omega) (by omega), sb, show ck ((j : Int) * ((L ^ k : Nat) : Int)) = some ((j : Int) * ((L ^ k : Nat) : Int)) from D_ (by omega) (by omega), sb, hnat1, D_ (by omega) (by omega), sb,
      show (nsV p).p.Labels = (L : Int) from hL, hnat2, D_ (by omega) (by omega), sb, show ((k : Int) + 1) = ((k + 1 : Nat) : Int) by omega,
      qf_ p L e hL hD h8 he sets hs hlen d (k + 1) fuel (c0 ++ [(j : Int)]) o' (by omega) (by omega) (by rw [List.length_append, hc]; rfl) hin2 hlt, sb, hSS]
     congr 4
     unfold cmP
     exact cJ_ L fun b _ => ⟨fun h _ => h, fun h => h rfl⟩)
  unfold R_
  rw [if_neg (by simp; omega), show (nsV p).p.Labels = (L : Int) from hL, D_ (by omega) (by omega), sb, Int.toNat_natCast]
  rw [mK_ ho (by simp)] at hloop
  rw [hloop, sb, hdrop]
  simp only
  congr 3
  unfold cmP
  refine cJ_ L fun b _ => ?_
  constructor
  ·intro h c hcc
   cases c with
   | nil => exact hcc.elim
   | cons a c =>
    obtain ⟨⟨h1, h2⟩, h3⟩ := hcc
    have := h a.toNat (pa_ hS2 h2) h2 c h3
    rw [Int.toNat_of_nonneg h1, List.append_assoc c0] at this
    exact this
  ·intro h a ha h2 c h3
   have := h ((a : Int) :: c) ⟨⟨by omega, by rw [Int.toNat_natCast]; exact h2⟩, h3⟩
   rw [List.append_assoc c0 [(a : Int)] c]
   exact this
theorem hT_ (fuel : Nat) (p : a_) (h : probB p = true) (hf : 10 ≤ fuel) (sets : List Int) (hs : ∀ s ∈ sets, 0 ≤ s ∧ s.toNat < 2 ^ p.Labels.toNat) (hlen : (sets.length : Int) + 1 = p.Degree) : aO_ fuel (nsV p) sets = some (cmI p.Labels.toNat p.Nodes sets) := by
 obtain ⟨g1, g2, g3, g4, -, -⟩ := bc_ h
 obtain ⟨L, hL⟩ : ∃ L : Nat, p.Labels = (L : Int) := ⟨p.Labels.toNat, by omega⟩
 obtain ⟨e, hD⟩ : ∃ e : Nat, p.Degree = ((e + 1 : Nat) : Int) := ⟨p.Degree.toNat - 1, by omega⟩
 rw [hL, Int.toNat_natCast] at hs ⊢
 have h1 : 1 ≤ 2 ^ L := Nat.one_le_two_pow
 have h256 := cF_ (L := L) (by omega)
 have := qf_ p L e hL hD (by omega) (by omega) sets hs (by omega) e 0 fuel [] (2 ^ L - 1) (by omega) (by omega) rfl (by simp) (by omega)
 unfold aO_
 rw [show (nsV p).p.Labels = (L : Int) from hL, eY_ (by omega), sb, show (((2 ^ L : Nat) : Int) - 1) = ((2 ^ L - 1 : Nat) : Int) by omega, D_ (by omega) (by omega), sb]
 rw [show ((valN L [] : Nat) : Int) = 0 from rfl, show ((L ^ 0 : Nat) : Int) = 1 by simp, show ((0 : Nat) : Int) = 0 from rfl] at this
 rw [this, sb, pV_, List.drop_zero]
 unfold cmI
 congr 2
 refine Nat.eq_of_testBit_eq fun b => ?_
 rw [Nat.testBit_and, Nat.testBit_two_pow_sub_one]
 cases hb : (cmpl L (inG p.Nodes) (sets.map Int.toNat)).testBit b
 ·simp
 ·have := ((eu_ _ L b).1 hb).1
  simp [this]
theorem in_ (xs : List Int) (h : xs.length ≤ 1000000000) : ag_ xs = some xs := by
 unfold ag_
 rw [iw_ _ h, sb]
theorem mn_ {body : Int → Unit → Option (Lp Unit Unit Bool)} (B : Nat → Prop) : ∀ (n k : Nat), (∀ j, j < n → (B (k + j) ∧ body ((k + j : Nat) : Int) () = some (.go ())) ∨ (¬ B (k + j) ∧ body ((k + j : Nat) : Int) () = some (.ret false))) →
  (forN body n (k : Int) () = some (.inl ()) ∧ ∀ j, j < n → B (k + j)) ∨ (forN body n (k : Int) () = some (.inr false) ∧ ∃ j, j < n ∧ ¬ B (k + j))
 | 0, k, h => .inl ⟨rfl, by simp⟩
 | n + 1, k, h => by
  rcases h 0 (by omega) with ⟨h1, h2⟩ | ⟨h1, h2⟩
  ·simp only [Nat.add_zero] at h1 h2
   have ih := mn_ (body := body) B n (k + 1) (fun j hj => by have := h (j + 1) (by omega); rw [show k + (j + 1) = k + 1 + j by omega] at this; exact this)
   simp only [forN, h2]
   rw [show ((k : Int) + 1) = ((k + 1 : Nat) : Int) by omega]
   rcases ih with ⟨i1, i2⟩ | ⟨i1, j, i2, i3⟩
   ·refine .inl ⟨i1, fun j hj => ?_⟩
    cases j with
    | zero => exact h1
    | succ j => have := i2 j (by omega); rwa [show k + 1 + j = k + (j + 1) by omega] at this
   ·exact .inr ⟨i1, j + 1, by omega, by rwa [show k + (j + 1) = k + 1 + j by omega]⟩
  ·simp only [Nat.add_zero] at h1 h2
   refine .inr ⟨?_, 0, by omega, h1⟩
   simp only [forN, h2]
open Classical in
theorem qH_ (fuel : Nat) (p : a_) (h : probB p = true) (hf : 10 ≤ fuel) (l : List Int) (hl : ∀ s ∈ l, 0 ≤ s ∧ s.toNat < 2 ^ p.Labels.toNat) (hlen : (l.length : Int) = p.Degree) : bH_ fuel (nsV p) l = some (decide (fullI p.Labels.toNat p.Nodes l)) := by
  obtain ⟨g1, g2, g3, g4, -, -⟩ := bc_ h
  have key := mn_ (body := aT_ fuel (nsV p) l) (fun i => ∀ x, l[i]? = some x → cmI p.Labels.toNat p.Nodes (l.eraseIdx i) = x) l.length 0 (fun j hj => by
    have hb : aT_ fuel (nsV p) l ((0 + j : Nat) : Int) () = if cmI p.Labels.toNat p.Nodes (l.eraseIdx j) != l[j] then some (.ret false) else some (.go ()) := by
      unfold aT_
      rw [Nat.zero_add, in_ _ (by omega), sb, D_ (by omega) (by omega), sb]
      unfold delO
      rw [if_pos (by omega), sb, Int.toNat_natCast, show ((j : Int) + 1).toNat = j + 1 by omega, ← List.eraseIdx_eq_take_drop_succ, hT_ fuel p h hf (l.eraseIdx j) (fun s hs => hl s (List.mem_of_mem_eraseIdx hs)) (by rw [List.length_eraseIdx, if_pos hj]; omega), sb, fT_ _ _ hj, sb]
    rw [hb, Nat.zero_add, List.getElem?_eq_getElem hj]
    by_cases e : cmI p.Labels.toNat p.Nodes (l.eraseIdx j) = l[j]
    · exact .inl ⟨fun x hx => by cases hx; exact e, by rw [if_neg (by simpa using e)]⟩
    · exact .inr ⟨fun hh => e (hh _ rfl), by rw [if_pos (by simpa using e)]⟩)
  simp only [Nat.zero_add] at key
  rw [show ((0 : Nat) : Int) = 0 from rfl] at key
  unfold bH_
  rw [D_ (by omega) (by omega), sb, Int.toNat_natCast]
  rcases key with ⟨h1, h2⟩ | ⟨h1, j, h2, h3⟩
  · rw [h1, sb]
    have : fullI p.Labels.toNat p.Nodes l := fun i x hx => h2 i (List.getElem?_eq_some_iff.1 hx).1 x hx
    simp [this]
  · rw [h1, sb]
    have : ¬ fullI p.Labels.toNat p.Nodes l := fun hh => h3 (hh j)
    simp [this]
theorem iW_ (n d fuel : Nat) (hn : n ≤ 1000000) (hd : d ≤ 1000) (hb : ∀ k, k ≤ d → n ^ k ≤ 1000000000) (hf : n + d < fuel) : dj_ fuel (n : Int) (d : Int) = some (msD n d) := by
 have hgo : ∀ j, j < d → bS_ fuel (n : Int) (j : Int) (msD n j) = some (.go (msD n (j + 1))) := fun j hj => by
  have hlen : (msD n (j + 1)).length ≤ 1000000000 := Nat.le_trans (fM_ n (j + 1)) (hb (j + 1) (by omega))
  have key := ev_ (body := cH_ fuel (n : Int)) (extD n) 1000000000 (msD n j) 0 [] (by simpa [msD] using hlen) (fun x hx k ac hac => by
   have hnd := (dK_ n j x).1 hx
   have h3 : (x.getLastD 0).toNat ≤ n → ∀ (f : List (List Int) × Int → Option (Lp (List (List Int) × Int) (List (List Int) × Int) (List (List Int)))), (f = bV_ (n : Int) x ∨ f = bA_ (n : Int) x) →
     loopF f fuel (ac, (((x.getLastD 0).toNat : Nat) : Int)) = some (.inl (ac ++ extD n x, (n : Int))) := fun hle f hf' => by
    unfold extD at hac ⊢
    rw [List.length_map, List.length_range'] at hac
    refine kx_ (x := x) (n := n) (fun acc k hk ha => ?_) (fun acc => ?_) _ _ fuel ac (by omega) (by omega) hac
    ·rcases hf' with rfl | rfl
     ·unfold bV_
      simp only
      rw [if_pos (by simpa using hk), in_ x (by rw [hnd.1]; omega), sb]
      unfold push
      rw [if_pos (by rw [hnd.1]; omega), sb, if_pos ha, sb, D_ (by omega) (by omega), sb]
      rfl
     ·unfold bA_
      simp only
      rw [if_pos (by simpa using hk), in_ x (by rw [hnd.1]; omega), sb]
      unfold push
      rw [if_pos (by rw [hnd.1]; omega), sb, if_pos ha, sb, D_ (by omega) (by omega), sb]
      rfl
    ·rcases hf' with rfl | rfl
     ·unfold bV_
      simp only
      rw [if_neg (by simp)]
     ·unfold bA_
      simp only
      rw [if_neg (by simp)]
   have h0 := pc_ hnd
   unfold cH_
   by_cases hj0 : 0 < j
   ·obtain ⟨i, rfl⟩ : ∃ i, j = i + 1 := ⟨j - 1, by omega⟩
    have hl : x.getLastD 0 < (n : Int) := by
     rcases List.eq_nil_or_concat x with rfl | ⟨u, a, rfl⟩
     ·have := hnd.1; simp at this
     ·have := hnd.2.2 a (by simp)
      rw [List.concat_eq_append, List.getLastD_concat]; exact this.2
    have hxl := hnd.1
    rw [if_pos (decide_eq_true (by omega)), D_ (by omega) (by omega), sb, show ((x.length : Int) - 1) = (i : Int) by omega, mV_ hnd.1, sb]
    have h4 := h3 (by omega) _ (.inl rfl)
    rw [Int.toNat_of_nonneg h0] at h4
    rw [h4, sb]
   ·have hj1 : j = 0 := by omega
    subst hj1
    have hx0 : x = [] := List.eq_nil_of_length_eq_zero hnd.1
    subst hx0
    rw [if_neg (by simp)]
    have h4 := h3 (by simp) (bA_ (n : Int) []) (.inr rfl)
    simp only [List.getLastD_nil, Int.toNat_zero, Int.natCast_zero] at h4
    rw [h4, sb])
  unfold bS_
  rw [key, sb]
  rfl
 have h := dw_ (body := bS_ fuel (n : Int)) (fun j => msD n j) d hgo
 unfold dj_
 rw [D_ (by omega) (by omega), sb, Int.toNat_natCast, show ([[]] : List (List Int)) = msD n 0 from rfl, h, sb]
end

section
set_option maxRecDepth 100000
set_option maxHeartbeats 2000000
open Go.RowKit
def fY_ (d : List Int) : Int → Int → (List Int) → Option (Lp (List Int) (List Int) (List Int)) := fun (f : Int) (a : Int) (s : List Int) =>
  (ix d a) >>= fun b =>
  (push s b) >>= fun c =>
  some (.go c)
def lg_ (a : List Int) (b : List Int) : Option (List Int) :=
  (forI (fY_ b) a 0 []) >>= fun c =>
  match c with
  | .inl d =>
    some d
  | .inr _ => none
end

section
theorem lE_ {α σ ρ : Type} {body : Int → α → σ → Option (Lp σ σ ρ)} (R : Nat → σ) : ∀ (xs : List α) (k : Nat), (∀ (j : Nat) x, xs[j]? = some x → body ((k + j : Nat) : Int) x (R (k + j)) = some (.go (R (k + j + 1)))) →
  forI body xs (k : Int) (R k) = some (.inl (R (k + xs.length)))
 | [], k, h => rfl
 | x :: xs, k, h => by
  have h0 := h 0 x rfl
  simp only [Nat.add_zero] at h0
  simp only [forI, h0]
  rw [show ((k : Int) + 1) = ((k + 1 : Nat) : Int) by omega]
  rw [lE_ R xs (k + 1) (fun j y hj => by have := h (j + 1) y (by simpa using hj); rw [show k + (j + 1) = k + 1 + j by omega] at this; exact this)]
  rw [List.length_cons, show k + 1 + xs.length = k + (xs.length + 1) by omega]
theorem jQ_ {α σ ρ : Type} {body : Int → α → σ → Option (Lp σ σ ρ)} (R : Nat → σ) (xs : List α) (h : ∀ (j : Nat) x, xs[j]? = some x → body (j : Int) x (R j) = some (.go (R (j + 1)))) :
  forI body xs 0 (R 0) = some (.inl (R xs.length)) := by
 have := lE_ R xs 0 (fun j x hj => by rw [Nat.zero_add]; exact h j x hj)
 rw [Nat.zero_add] at this; exact this
def imgL (t x : List Int) : List Int := x.map fun y => t.getD y.toNat 0
theorem kZ_ {α : Type} {xs : List α} {j : Nat} {x : α} (h : xs[j]? = some x) : xs.take (j + 1) = xs.take j ++ [x] := by
 rw [List.take_add_one, h]; rfl
theorem nh_ (t x : List Int) (ht : t.length ≤ 1000000) (h : ∀ y, y ∈ x → 0 ≤ y ∧ y < t.length) (hx : x.length ≤ 1000) : ee_ t x = some (imgL t x) ∧ lg_ x t = some (imgL t x) := by
 have step : ∀ (j : Nat) (y : Int), x[j]? = some y → ix t y = some (t.getD y.toNat 0) := fun j y hj => by
  have := h y (List.mem_of_getElem? hj)
  unfold ix
  rw [if_pos this.1, List.getD_eq_getElem?_getD, List.getElem?_eq_getElem (by omega)]
  rfl
 constructor
 ·unfold ee_
  have := jQ_ (body := cz_ t) (fun j => imgL t (x.take j)) x (fun j y hj => by
   unfold cz_ push
   rw [step j y hj, sb, if_pos (by simp [imgL]; omega), sb, kZ_ hj]
   simp [imgL])
  rw [List.take_length] at this
  rw [show ([] : List Int) = imgL t (x.take 0) from rfl, this, sb]
 ·unfold lg_
  have := jQ_ (body := fY_ t) (fun j => imgL t (x.take j)) x (fun j y hj => by
   unfold fY_ push
   rw [step j y hj, sb, if_pos (by simp [imgL]; omega), sb, kZ_ hj]
   simp [imgL])
  rw [List.take_length] at this
  rw [show ([] : List Int) = imgL t (x.take 0) from rfl, this, sb]
end

section
set_option maxRecDepth 100000
set_option maxHeartbeats 2000000
open Go.RowKit
theorem ek_ : Inf Tryz.prog 41 (.slice none 0 0) 1 24 := by unfold Inf; kernel_rfl

def bv_ (f : List (List Int)) (g : List Int) : Int → Option (Lp Int Int (List (List Int))) := fun (s : Int) =>
  (
    if decide (s < (f.length : Int)) then
      (ix f s) >>= fun a =>
      (dO_ a g) >>= fun b =>
      some (decide (b < 0))
    else
      some false) >>= fun c =>
  if c then
    (ck (s + 1)) >>= fun d =>
    some (.go d)
  else
    some (.out s)
def ew_ (fuel : Nat) (a : List (List Int)) (c : List Int) : Option (List (List Int)) :=
  (loopF (bv_ a c) fuel 0) >>= fun q =>
  match q with
  | .inl b =>
    (
      if decide (b < (a.length : Int)) then
        (ix a b) >>= fun d =>
        (ff_ d c) >>= fun f =>
        some f
      else
        some false) >>= fun g =>
    if g then
      some a
    else
      (cut a 0 b) >>= fun i =>
      (cat ([] : List (List Int)) i) >>= fun j =>
      (push j c) >>= fun k =>
      (cut a b a.length) >>= fun m =>
      (cat k m) >>= fun n =>
      some n
  | .inr _ => none

def nj_ (oo : Tg) (t : Nat) (w : World) (r : Yk) : Ending → World → Prop := fun e w' => ∃ (a : Value) (o' : Tg), e = .returned (a) ∧ RdL o' w' a r ∧ Keeps w w' ∧ ∀ b, b < w.heap.size → o' b = oo b
theorem nm_ (fuel : Nat) (w : World) (oo : Tg) (t : Nat) (ht : 2 ≤ t) (j : Value) (C : Yk) (d : RdL oo w j C) (k : Value) (B : Yl) (f : RdL oo w k B) (r : Yk) (hF : ew_ fuel C B = some r) :
    Calls Tryz.prog 158 #[j, k] w (nj_ oo t w r) := by
 unfold ew_ at hF; replace d := RdL.col d; replace f := RdL.col f; have hB : Bs oo (col oo) w w := Bs.start _ _; refine h_ (n := 49) (vs := [j, k]) Tryz.func158 rfl rfl ?_; generalize col oo = o at *; refine Zq (Za rfl (Ze [(0, j), (1, k)] (Zn (Za rfl (Ze [(0, j), (1, k), (5, ZI 0)] (nx ?_)))))); obtain ⟨d7, b0, hF⟩ := bind_some hF; refine hs_ (fun a s => ∃ (m : Int) (u : Tg), d7 = .inl m ∧ Fr a 49 [(0, j), (1, k), (5, ZI m)] ∧ Bs oo u w s ∧ RdL u s j C ∧ RdL u s k B) (fun _ _ => False) ?_ ?_ ?_
 ·refine d_ ?_; refine y_ (fun (K : Nat) a s => ∃ (m : Int) (u : Tg), loopF (bv_ C B) K m = some d7 ∧ Fr a 49 [(0, j), (1, k), (5, ZI m)] ∧ Bs oo u w s ∧ RdL u s j C ∧ RdL u s k B) fuel (fun a ha => ⟨0, o, b0, ha.sub (r := [(0, j), (1, k), (5, ZI 0)]) ⟨rfl, rfl, rfl, trivial⟩, hB, d, f⟩) ?_; rintro K8 a s ⟨m, u, d8, ha, hB, d, f⟩; obtain ⟨K12, h3, d9, q, N⟩ := V_ d8; dsimp only [bv_] at q; refine N_ ha ?_; refine b_ (Zq (Zm rfl (Zm rfl (Zv (H_ rfl d Tryz.underlying22) (Zv (t_ rfl rfl) (Zm rfl ?_)))))); obtain ⟨O, g, q⟩ := bind_some q; refine aK_ 8 (fun b1 P => Fr b1 49 [(0, j), (1, k), (5, ZI m), (19, (.bool O))] ∧ Keeps s P) ?_ ?_; all_goals simp only [List.take_succ_cons, List.take_zero, List.drop_succ_cons, List.drop_zero]
  ·have kp : Keeps s s := Keeps.refl _; rcases Bool.eq_false_or_eq_true (decide (m < (C.length : Int))) with b | b
   ·rw [if_pos b] at g; refine o_ (j_ rfl) (by decide) ⟨_, rfl, (Zb b)⟩ (o_ (j_ rfl) (by decide) ⟨_, rfl, (Zb b)⟩ ?_); obtain ⟨b2, Q, g⟩ := bind_some g; refine cj_ (by decide) ⟨_, rfl, (Zb b)⟩ ?_; refine hg_ d Q rfl rfl Tryz.underlying22 Tryz.sizeOf41 ?_; intro e0 e1 e2 b3 b4; obtain ⟨e3, rfl, b5⟩ := b4; refine o_ (e_ rfl Tryz.isAgg41 (i_ b3)) (by decide) ⟨_, rfl, (Zb b)⟩ (o_ (j_ rfl) (by decide) ⟨_, rfl, (Zb b)⟩ ?_); obtain ⟨R, S, g⟩ := bind_some g; refine cj_ (by decide) ⟨_, rfl, (Zb b)⟩ ?_; refine p_ (jG_ s _ b2 b5.z _ B f.z R S) Tryz.call107 ⟨rfl, rfl, trivial⟩ ?_; rintro e4 e5 ⟨rfl, T⟩; have U := T.stp 999 u; refine ⟨_, rfl, ?_⟩; replace d := d.stp U; replace f := f.stp U; replace kp := Keeps.trans kp T; refine o_ (t_ rfl rfl) (by decide) ⟨_, rfl, (Zb b)⟩ (Zv (P_ (Zb b) rfl) ?_); have v := Zj g; refine Ze [(0, j), (1, k), (5, ZI m), (19, (.bool (decide (R < 0))))] ?_; subst v; refine q_ (fun a ha => ⟨ha, kp⟩)
   ·rw [if_neg (by rw [b]; decide)] at g; refine s_ rfl rfl (by rw [b]; rfl) (by decide) ?_; refine s_ rfl rfl (by rw [b]; rfl) (by decide) ?_; refine s_ rfl rfl (by rw [b]; rfl) (by decide) ?_; refine s_ rfl rfl (by rw [b]; rfl) (by decide) ?_; refine s_ rfl rfl (by rw [b]; rfl) (by decide) ?_; refine s_ rfl rfl (by rw [b]; rfl) (by decide) ?_; refine s_ rfl rfl (by rw [b]; rfl) (by decide) ?_; refine Zv (K_ (Zb b) rfl) ?_; have v := Zj g; refine Ze [(0, j), (1, k), (5, ZI m), (19, (.bool false))] ?_; subst v; refine q_ (fun a ha => ⟨ha, kp⟩)
  rintro e6 P ⟨ha, b6⟩; have D := b6.stp 999 u; replace d := d.stp D; replace f := f.stp D; replace hB := hB.stp D; refine bi_ ha ?_; refine Ze [(0, j), (1, k), (5, ZI m), (19, (.bool O))] (nx ?_); refine m_ rfl (fun E => ?_) (fun E => ?_)
  ·rw [if_pos E] at q; refine f_ (nx (d_ (c_ (Zm rfl ?_)))); obtain ⟨F, V, q⟩ := bind_some q; refine Zv (C_ rfl rfl V) (Za rfl (Ze [(0, j), (1, k), (5, ZI F)] (x_ (w_ ?_)))); have b7 := Zj q; subst b7; refine Zk [(0, j), (1, k), (5, ZI F)] ?_; intro a ha; exact ⟨K12, by omega, F, u, N, ha, hB, d, f⟩
  ·rw [if_neg (by rw [E]; decide)] at q; refine v_ ?_; refine n_ (n_ (S_ ?_)); refine q_ ?_; have b8 := Zj q; subst b8; refine Zk [(0, j), (1, k), (5, ZI m)] ?_; intro a ha; exact ⟨m, u, N, ha, hB, d, f⟩
 ·rintro a s ⟨m, u, rfl, ha, hB, d, f⟩; dsimp only at hF; refine N_ ha ?_; refine b_ (Zq (Zm rfl (Zm rfl (Zv (H_ rfl d Tryz.underlying22) (Zv (t_ rfl rfl) (Zm rfl ?_)))))); obtain ⟨W, i, hF⟩ := bind_some hF; refine aK_ 7 (fun b9 X => Fr b9 49 [(0, j), (1, k), (5, ZI m), (33, (.bool W))] ∧ Keeps s X) ?_ ?_; all_goals simp only [List.take_succ_cons, List.take_zero, List.drop_succ_cons, List.drop_zero]
  ·have kp : Keeps s s := Keeps.refl _; rcases Bool.eq_false_or_eq_true (decide (m < (C.length : Int))) with c | c
   ·rw [if_pos c] at i; refine o_ (j_ rfl) (by decide) ⟨_, rfl, (Zb c)⟩ (o_ (j_ rfl) (by decide) ⟨_, rfl, (Zb c)⟩ ?_); obtain ⟨c0, Y, i⟩ := bind_some i; refine cj_ (by decide) ⟨_, rfl, (Zb c)⟩ ?_; refine hg_ d Y rfl rfl Tryz.underlying22 Tryz.sizeOf41 ?_; intro e7 e8 e9 c1 c2; obtain ⟨f0, rfl, c3⟩ := c2; refine o_ (e_ rfl Tryz.isAgg41 (i_ c1)) (by decide) ⟨_, rfl, (Zb c)⟩ (o_ (j_ rfl) (by decide) ⟨_, rfl, (Zb c)⟩ ?_); obtain ⟨Z, a0, i⟩ := bind_some i; refine cj_ (by decide) ⟨_, rfl, (Zb c)⟩ ?_; refine p_ (lN_ s _ c0 c3.z _ B f.z Z a0) Tryz.call115 ⟨rfl, rfl, trivial⟩ ?_; rintro f1 f2 ⟨rfl, a1⟩; have a2 := a1.stp 999 u; refine ⟨_, rfl, ?_⟩; replace d := d.stp a2; replace f := f.stp a2; replace kp := Keeps.trans kp a1; refine Zv (P_ (Zb c) rfl) ?_; have x := Zj i; refine Ze [(0, j), (1, k), (5, ZI m), (33, (.bool Z))] ?_; subst x; refine q_ (fun a ha => ⟨ha, kp⟩)
   ·rw [if_neg (by rw [c]; decide)] at i; refine s_ rfl rfl (by rw [c]; rfl) (by decide) ?_; refine s_ rfl rfl (by rw [c]; rfl) (by decide) ?_; refine s_ rfl rfl (by rw [c]; rfl) (by decide) ?_; refine s_ rfl rfl (by rw [c]; rfl) (by decide) ?_; refine s_ rfl rfl (by rw [c]; rfl) (by decide) ?_; refine s_ rfl rfl (by rw [c]; rfl) (by decide) ?_; refine Zv (K_ (Zb c) rfl) ?_; have x := Zj i; refine Ze [(0, j), (1, k), (5, ZI m), (33, (.bool false))] ?_; subst x; refine q_ (fun a ha => ⟨ha, kp⟩)
  rintro f3 X ⟨ha, c4⟩; have G := c4.stp 999 u; replace d := d.stp G; replace f := f.stp G; replace hB := hB.stp G; refine bi_ ha ?_; refine Ze [(0, j), (1, k), (5, ZI m), (33, (.bool W))] (nx ?_); refine m_ rfl (fun H => ?_) (fun H => ?_)
  ·rw [if_pos H] at hF; refine Zq (Zm rfl (Za rfl (Ze [(4, j)] (nx (k_ (A_ ?_)))))); have c5 := Zj hF; subst c5; refine Zr Tryz.results158 [j] ?_; exact ⟨_, rt oo u w.heap.size 9 t, rfl, d.rt hB 9 t (by decide), hB.keeps, az_ _ _ _ _ _⟩
  ·rw [if_neg (by rw [H]; decide)] at hF; refine f_ (Zn (Zo ?_)); refine eE_ w.heap.size 13 hB.keeps.size (o := u) (cs := []) (xs := ([] : Yk)) (vs := []) rfl rfl trivial Tryz.underlying22 Tryz.sizeOf41 Tryz.zeroValue41 (by decide) fill0 (by simp) ?_; intro f4 f5 f6 c6 I; replace d := d.stp I; replace f := f.stp I; replace hB := hB.stp I; refine Zm rfl (Zm rfl ?_); obtain ⟨f7, a3, hF⟩ := bind_some hF; refine Zo ?_; refine kJ_ d a3 rfl rfl rfl Tryz.underlying22 Tryz.sizeOf41 ?_; intro f8 c7; obtain ⟨f9, a4, hF⟩ := bind_some hF; refine Zo ?_; refine bg_ c6 c7 a4 (by decide) hB.keeps.size rfl rfl Tryz.underlying22 ek_ rfl (by decide) ?_; intro c8 g0 c9 J L; replace d := d.stp L; replace f := f.stp L; replace hB := hB.stp L; refine Za rfl (Ze [(0, j), (1, k), (5, ZI m), (6, c9)] (Zn (Zm rfl (Zm rfl (Zo ?_))))); refine aB_ (o := c8) (cs := [k]) (xs := ([B] : Yk)) (vs := [(0, k)]) ⟨_, _, rfl, (iL_ f), rfl⟩ rfl ⟨rfl, rfl, trivial⟩ Tryz.underlying22 Tryz.sizeOf41 Tryz.zeroValue41 (by decide) (fill1 f.cells1) (by simp) ?_; intro g1 g2 g3 d0 y g4; replace d := d.stp y; replace f := f.stp y; replace J := J.stp y; replace hB := hB.stp y; obtain ⟨g5, a5, hF⟩ := bind_some hF; refine Zo ?_; refine bg_ J d0 (aq_ a5) (by decide) hB.keeps.size rfl rfl Tryz.underlying22 ek_ rfl (by decide) ?_; intro g6 g7 d1 d2 M; replace d := d.stp M; replace f := f.stp M; replace hB := hB.stp M; refine Za rfl (Ze [(0, j), (5, ZI m), (6, d1)] (Zn (Zm rfl (Zm rfl (Zm rfl ?_))))); obtain ⟨g8, a6, hF⟩ := bind_some hF; refine Zo ?_; refine kJ_ d a6 rfl rfl rfl Tryz.underlying22 Tryz.sizeOf41 ?_; intro g9 d3; obtain ⟨h0, a7, hF⟩ := bind_some hF; refine Zo ?_; refine bg_ d2 d3 a7 (by decide) hB.keeps.size rfl rfl Tryz.underlying22 ek_ rfl (by decide) ?_; intro d4 h1 a8 A a9; replace d := d.stp a9; replace hB := hB.stp a9; refine Za rfl (Ze [(4, a8)] (nx (k_ ?_))); have h2 := A.frzF; replace A := A.frz; replace hB := hB.frz 13 (by decide); generalize (frz 13 d4) = d5 at *; have d6 := Zj hF; subst d6; refine Zr Tryz.results158 [a8] ?_; exact ⟨_, rt oo d5 w.heap.size 9 t, rfl, A.rt hB 9 t (by decide), hB.keeps, az_ _ _ _ _ _⟩
 ·exact fun _ _ h => h.elim
end

end Go.Proofs.YtdbbeldgdgonfaaGreat
