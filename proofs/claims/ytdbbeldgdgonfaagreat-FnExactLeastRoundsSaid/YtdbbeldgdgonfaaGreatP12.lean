/- Part 12 of what this claim rests on (Elf, GIm, Im, GC, GPpa), packed by pack.py. -/
import Derived.Test.YtdbbeldgdgonfaaGreatP03
import Derived.Test.YtdbbeldgdgonfaaGreatP04
import Derived.Test.YtdbbeldgdgonfaaGreatP05
import Derived.Test.YtdbbeldgdgonfaaGreatP06
import Derived.Test.YtdbbeldgdgonfaaGreatP07
import Derived.Test.YtdbbeldgdgonfaaGreatP09
import Derived.Test.YtdbbeldgdgonfaaGreatP11
namespace Go.Proofs.YtdbbeldgdgonfaaGreat
set_option linter.unusedSimpArgs false
set_option linter.unusedVariables false

section
theorem jz_ {n : Nat} (h : n ≤ 9223372036854775807) : ck (n : Int) = some (n : Int) := C_ (by omega) (by omega)
def digs (L : Nat) : Nat → Nat → List Int
  | 0, _ => []
  | n + 1, k => ((k % L : Nat) : Int) :: digs L n (k / L)
def valN (L : Nat) : List Int → Nat
  | [] => 0
  | a :: c => a.toNat + L * valN L c
theorem dO_ (L : Nat) : ∀ n k, (digs L n k).length = n
  | 0, _ => rfl
  | n + 1, k => by unfold digs; rw [List.length_cons, dO_ L n]
theorem iK_ (L : Nat) : ∀ n k, digs L (n + 1) k = digs L n k ++ [((k / L ^ n % L : Nat) : Int)]
  | 0, k => by simp [digs]
  | n + 1, k => by
    have ih := iK_ L n (k / L)
    rw [Nat.div_div_eq_div_mul] at ih
    rw [show L ^ (n + 1) = L * L ^ n by rw [Nat.pow_succ, Nat.mul_comm]]
    show ((k % L : Nat) : Int) :: digs L (n + 1) (k / L) = (((k % L : Nat) : Int) :: digs L n (k / L)) ++ _
    rw [ih]; rfl
theorem kd_ {L : Nat} : ∀ c : List Int, (∀ a ∈ c, 0 ≤ a ∧ a < (L : Int)) → digs L c.length (valN L c) = c
  | [], _ => rfl
  | a :: c, h => by
    have ha := h a (by simp)
    have ih := kd_ c fun x hx => h x (by simp [hx])
    have hlt : a.toNat < L := by omega
    rw [List.length_cons]
    unfold digs valN
    rw [Nat.add_mul_mod_self_left, Nat.mod_eq_of_lt hlt, Nat.add_mul_div_left _ _ (by omega), Nat.div_eq_of_lt hlt, Nat.zero_add, ih, Int.toNat_of_nonneg ha.1]
theorem lt_ (L : Nat) : ∀ (c : List Int) (a : Int), valN L (c ++ [a]) = valN L c + a.toNat * L ^ c.length
  | [], a => by simp [valN]
  | x :: c, a => by
    rw [List.cons_append, List.length_cons]
    unfold valN
    rw [lt_ L c a, Nat.mul_add, Nat.pow_succ, Nat.add_assoc]
    congr 2
    rw [Nat.mul_comm (L ^ c.length) L, ← Nat.mul_assoc, ← Nat.mul_assoc, Nat.mul_comm L]
theorem fL_ {L : Nat} : ∀ c : List Int, (∀ a ∈ c, 0 ≤ a ∧ a < (L : Int)) → valN L c < L ^ c.length
  | [], _ => by simp [valN]
  | a :: c, h => by
    have ha := h a (by simp)
    have ih := fL_ c fun x hx => h x (by simp [hx])
    have hlt : a.toNat < L := by omega
    rw [List.length_cons, Nat.pow_succ]
    unfold valN
    have h1 : L * (valN L c + 1) ≤ L * L ^ c.length := Nat.mul_le_mul_left L ih
    rw [Nat.mul_add, Nat.mul_one] at h1
    rw [Nat.mul_comm (L ^ c.length) L]
    omega
theorem cQ_ {L k : Nat} (hL : L ≤ 8) (hk : k ≤ 4) : L ^ k ≤ 4096 := by
  have h1 : L ^ k ≤ 8 ^ k := Nat.pow_le_pow_left hL k
  have h2 : 8 ^ k ≤ 8 ^ 4 := Nat.pow_le_pow_right (by decide) hk
  omega
theorem cF_ {L : Nat} (hL : L ≤ 8) : 2 ^ L ≤ 256 := by
  have : 2 ^ L ≤ 2 ^ 8 := Nat.pow_le_pow_right (by decide) hL
  omega
noncomputable def aftN (p : a_) (key : Nat) : Nat := bitsP (fun b => inG p.Nodes (digs p.Labels.toNat (p.Degree.toNat - 1) key ++ [(b : Int)])) p.Labels.toNat
noncomputable def nsV (p : a_) : af_ := ⟨p, (List.range (p.Labels.toNat ^ (p.Degree.toNat - 1))).map fun k => ((aftN p k : Nat) : Int)⟩
theorem qi_ (p : a_) (L e : Nat) (hL : p.Labels = (L : Int)) (h8 : L ≤ 8) (he : e ≤ 3) : forN (bx_ p) e 0 1 = some (.inl ((L ^ e : Nat) : Int)) := by
  have := dX_ (body := bx_ p) (fun j => ((L ^ j : Nat) : Int)) e (fun j hj => by
    have hb := cQ_ (k := j + 1) h8 (by omega)
    unfold bx_
    rw [hL, show ((L ^ j : Nat) : Int) * (L : Int) = ((L ^ (j + 1) : Nat) : Int) by rw [Nat.pow_succ]; exact (Int.natCast_mul _ _).symm, C_ (by omega) (by omega), sb])
  simpa using this
theorem ow_ (p : a_) (L e key : Nat) (hL : p.Labels = (L : Int)) (h1 : 1 ≤ L) (hk : key ≤ 1000000) : forN (bw_ p) e 0 (List.replicate (e + 1) 0, (key : Int)) = some (.inl (digs L e key ++ [0], ((key / L ^ e : Nat) : Int))) := by
  have := dX_ (body := bw_ p) (fun j => (digs L j key ++ List.replicate (e + 1 - j) 0, ((key / L ^ j : Nat) : Int))) e (fun j hj => by
    have hle : key / L ^ j / L ≤ key := Nat.le_trans (Nat.div_le_self _ _) (Nat.div_le_self _ _)
    have hr : List.replicate (e + 1 - j) (0 : Int) = 0 :: List.replicate (e + 1 - (j + 1)) 0 := by
      rw [show e + 1 - j = (e + 1 - (j + 1)) + 1 by omega, List.replicate_succ]
    unfold bw_
    simp only
    unfold rem quo
    rw [hL, if_neg (by omega), sb, hr, oM_ _ _ _ _ (by rw [dO_]), sb, qm_ _ _ _ _ _ (by rw [dO_]), sb, if_neg (by omega),
      show ((key / L ^ j : Nat) : Int).tdiv (L : Int) = ((key / L ^ j / L : Nat) : Int) from rfl, jz_ (by omega), sb,
      show ((key / L ^ j : Nat) : Int).tmod (L : Int) = ((key / L ^ j % L : Nat) : Int) from rfl, iK_, List.append_assoc, List.singleton_append, Nat.pow_succ, Nat.div_div_eq_div_mul])
  simpa [digs, Nat.sub_self] using this
theorem rn_ (fuel : Nat) (p : a_) (h : probB p = true) (hJ : p.Nodes.length ≤ 1000000000) (hf : p.Nodes.length < fuel) (L e key : Nat) (hL : p.Labels = (L : Int)) (hD : p.Degree = ((e + 1 : Nat) : Int)) (h8 : L ≤ 8) (A : List Int) (hk : key < A.length) (h0 : A[key]? = some 0) :
    ∃ y, forN (by_ fuel p (key : Int)) L 0 (digs L e key ++ [0], A) = some (.inl (y, A.set key ((bitsP (fun b => inG p.Nodes (digs L e key ++ [(b : Int)])) L : Nat) : Int))) := by
  have hA0 : A.set key 0 = A := by
    refine List.ext_getElem? fun i => ?_
    rw [List.getElem?_set]
    by_cases e : key = i
    · subst e
      rw [if_pos rfl, if_pos hk, h0]
    · rw [if_neg e]
  generalize hP : (fun b : Nat => inG p.Nodes (digs L e key ++ [(b : Int)])) = P
  have := dX_ (body := by_ fuel p (key : Int)) (fun j => (digs L e key ++ [((j - 1 : Nat) : Int)], A.set key ((bitsP P j : Nat) : Int))) L (fun j hj => by
    have hlt := dM_ P j
    have h2 : 2 ^ j ≤ 256 := cF_ (by omega)
    unfold by_
    simp only
    rw [hD, show (((e + 1 : Nat) : Int) - 1) = (e : Int) by omega, C_ (by have := dO_ L e key; omega) (by
      have := bb_ h
      omega), sb, oM_ _ _ _ _ (by rw [dO_]), sb, qm_ _ _ _ _ _ (by rw [dO_]), sb,
      qP_ fuel p h _ (by rw [List.length_append, dO_, hD]; rfl) hJ hf, sb]
    by_cases hn : srt (digs L e key ++ [(j : Int)]) ∈ p.Nodes
    · have hPj : P j := by rw [← hP]; exact hn
      have hix : ix (A.set key ((bitsP P j : Nat) : Int)) (key : Int) = some ((bitsP P j : Nat) : Int) := by
        rw [cv_, List.getElem?_set, if_pos rfl, if_pos hk]
      rw [if_pos (decide_eq_true hn), hix, sb, eS_ (by omega), sb, sb, oS_ (by omega) (by omega), jE_ _ _ _ (by rw [List.length_set]; exact hk), sb, List.set_set, hd_ hPj, Nat.add_sub_cancel]
    · have hPj : ¬ P j := by rw [← hP]; exact hn
      rw [if_neg (by simpa using hn), ib_ hPj, Nat.add_sub_cancel])
  refine ⟨digs L e key ++ [((L - 1 : Nat) : Int)], ?_⟩
  rw [← this]
  simp [bitsP, hA0]
theorem nK_ (n key K : Nat) (f : Nat → Int) (hk : key = K) (hn : K < n) : ((List.range n).map fun k => if k < K then f k else 0).set key (f key) = (List.range n).map fun k => if k < K + 1 then f k else 0 := by
  subst hk
  refine List.ext_getElem? fun i => ?_
  rw [List.getElem?_set]
  by_cases e : key = i
  · subst e
    simp [hn]
  · rw [if_neg e]
    by_cases hi : i < n
    · simp only [List.getElem?_map, List.getElem?_range hi, Option.map_some]
      congr 1
      by_cases h1 : i < key
      · rw [if_pos h1, if_pos (by omega)]
      · rw [if_neg h1, if_neg (by omega)]
    · simp only [List.getElem?_map]
      rw [List.getElem?_eq_none (by simp; omega)]; rfl
theorem jK_ (fuel : Nat) (p : a_) (h : probB p = true) (hJ : p.Nodes.length ≤ 1000000000) (hf : p.Nodes.length < fuel) : cR_ fuel p = some (nsV p) := by
  obtain ⟨g1, g2, g3, g4, -, -⟩ := bb_ h
  obtain ⟨L, hL⟩ : ∃ L : Nat, p.Labels = (L : Int) := ⟨p.Labels.toNat, by omega⟩
  obtain ⟨e, hD⟩ : ∃ e : Nat, p.Degree = ((e + 1 : Nat) : Int) := ⟨p.Degree.toNat - 1, by omega⟩
  have hpw := cQ_ (L := L) (k := e) (by omega) (by omega)
  have ha : nsV p = ⟨p, (List.range (L ^ e)).map fun k => ((aftN p k : Nat) : Int)⟩ := by
    unfold nsV
    rw [hL, hD, Int.toNat_natCast, Int.toNat_natCast, Nat.add_sub_cancel]
  have haf : ∀ k, aftN p k = bitsP (fun b => inG p.Nodes (digs L e k ++ [(b : Int)])) L := fun k => by
    unfold aftN
    rw [hL, hD, Int.toNat_natCast, Int.toNat_natCast, Nat.add_sub_cancel]
  have hloop := dX_ (body := bZ_ fuel p) (fun K => (List.range (L ^ e)).map fun k => if k < K then ((aftN p k : Nat) : Int) else 0) (L ^ e) (fun K hK => by
    obtain ⟨y, hy⟩ := rn_ fuel p h hJ hf L e K hL hD (by omega) ((List.range (L ^ e)).map fun k => if k < K then ((aftN p k : Nat) : Int) else 0) (by simp; exact hK) (by simp [hK])
    unfold bZ_ mk
    rw [hD, if_pos (by omega), sb, show (((e + 1 : Nat) : Int) - 1) = (e : Int) by omega, C_ (by omega) (by omega), sb, Int.toNat_natCast, Int.toNat_natCast]
    have hd := ow_ p L e K hL (by omega) (by omega)
    rw [show (Rz.z : Int) = 0 from rfl, show (ck (e : Int)) = some (e : Int) from C_ (by omega) (by omega), sb, hd, sb]
    simp only
    rw [hL, C_ (by omega) (by omega), sb, Int.toNat_natCast, hy, sb]
    simp only
    rw [← haf, nK_ _ _ _ (fun k => ((aftN p k : Nat) : Int)) rfl hK])
  unfold cR_ mk
  rw [hD, show (((e + 1 : Nat) : Int) - 1) = (e : Int) by omega, C_ (by omega) (by omega), sb, show (ck (e : Int)) = some (e : Int) from C_ (by omega) (by omega), sb, Int.toNat_natCast, qi_ p L e hL (by omega) (by omega), sb]
  simp only
  rw [if_pos (by omega), sb, List.length_replicate, Int.toNat_natCast, C_ (by omega) (by omega), sb, Int.toNat_natCast]
  have hr : List.replicate (L ^ e) (Rz.z : Int) = (List.range (L ^ e)).map fun k => if k < 0 then ((aftN p k : Nat) : Int) else 0 := by
    refine List.ext_getElem (by simp) fun i h1 h2 => ?_
    simp
    rfl
  rw [hr, hloop, sb, ha]
  have he : ((List.range (L ^ e)).map fun k => if k < L ^ e then ((aftN p k : Nat) : Int) else 0) = (List.range (L ^ e)).map fun k => ((aftN p k : Nat) : Int) := by
    refine List.map_congr_left fun k hk => ?_
    rw [if_pos (List.mem_range.1 hk)]
  rw [he, ← hD]
theorem ko_ {P Q : Nat → Prop} (n : Nat) : bitsP P n &&& bitsP Q n = bitsP (fun b => P b ∧ Q b) n := by
  refine Nat.eq_of_testBit_eq fun b => ?_
  rw [Nat.testBit_and, Bool.eq_iff_iff, Bool.and_eq_true, ep_, ep_, ep_]
  exact ⟨fun ⟨h1, h2⟩ => ⟨h1.1, h1.2, h2.2⟩, fun ⟨h1, h2, h3⟩ => ⟨⟨h1, h2⟩, h1, h3⟩⟩
theorem mo_ {P : Nat → Prop} {n o : Nat} (ho : o < 2 ^ n) (h : ∀ b, b < n → P b) : o &&& bitsP P n = o := by
  refine Nat.eq_of_testBit_eq fun b => ?_
  rw [Nat.testBit_and]
  cases hb : o.testBit b
  · rfl
  · have hlt : b < n := by
      refine Nat.lt_of_not_le fun hle => ?_
      have := Nat.testBit_lt_two_pow (Nat.lt_of_lt_of_le ho (Nat.pow_le_pow_right (by decide) hle))
      rw [this] at hb; cases hb
    rw [Bool.true_and]
    exact (ep_ P n b).2 ⟨hlt, h b hlt⟩
noncomputable def cmP (L : Nat) (N : List (List Int)) (c0 : List Int) (SS : List Nat) : Nat := bitsP (fun b => ∀ c, cho SS c → inG N (c0 ++ c ++ [(b : Int)])) L
theorem ot_ (L : Nat) (N : List (List Int)) (SS : List Nat) : cmP L N [] SS = cmpl L (inG N) SS := rfl
theorem oC_ {S a L : Nat} (hS : S < 2 ^ L) (h : S.testBit a = true) : a < L := by
  refine Nat.lt_of_not_le fun hle => ?_
  have := Nat.testBit_lt_two_pow (Nat.lt_of_lt_of_le hS (Nat.pow_le_pow_right (by decide) hle))
  rw [this] at h; cases h
theorem ox_ (p : a_) (L e : Nat) (hL : p.Labels = (L : Int)) (hD : p.Degree = ((e + 1 : Nat) : Int)) (h8 : L ≤ 8) (he : e ≤ 3) (sets : List Int) (hs : ∀ s ∈ sets, 0 ≤ s ∧ s.toNat < 2 ^ L) (hlen : sets.length = e) :
    ∀ (d k fuel : Nat) (c0 : List Int) (o : Nat), k + d = e → d < fuel → c0.length = k → (∀ a ∈ c0, 0 ≤ a ∧ a < (L : Int)) → o < 2 ^ L →
    S_ fuel (k : Int) ((valN L c0 : Nat) : Int) ((L ^ k : Nat) : Int) sets (o : Int) (nsV p) = some (((o &&& cmP L p.Nodes c0 ((sets.drop k).map Int.toNat) : Nat)) : Int)
  | 0, k, fuel, c0, o, hk, hf, hc, hin, ho => by
    obtain ⟨fuel, rfl⟩ : ∃ q, fuel = q + 1 := ⟨fuel - 1, by omega⟩
    have h256 := cF_ h8
    have hv := fL_ c0 hin
    rw [hc, show k = e by omega] at hv
    have ha : ix (nsV p).after ((valN L c0 : Nat) : Int) = some ((cmP L p.Nodes c0 [] : Nat) : Int) := by
      unfold nsV
      simp only
      rw [hL, hD, Int.toNat_natCast, Int.toNat_natCast, Nat.add_sub_cancel, cv_, List.getElem?_map, List.getElem?_range hv, Option.map_some]
      unfold aftN cmP
      rw [hL, hD, Int.toNat_natCast, Int.toNat_natCast, Nat.add_sub_cancel]
      congr 2
      refine cH_ L fun b _ => ?_
      have hd := kd_ c0 hin
      rw [hc, show k = e by omega] at hd
      rw [hd]
      constructor
      · intro h c hcc
        cases c with
        | nil => rwa [List.append_nil]
        | cons a c => exact hcc.elim
      · intro h
        have := h [] trivial
        rwa [List.append_nil] at this
    have hb := dM_ (fun b => ∀ c, cho [] c → inG p.Nodes (c0 ++ c ++ [(b : Int)])) L
    unfold S_
    rw [if_pos (by simp; omega), ha, sb, show sets.drop k = [] from List.drop_eq_nil_iff.2 (by omega), List.map_nil, kg_ (by omega) (by unfold cmP; omega)]
  | d + 1, k, fuel, c0, o, hk, hf, hc, hin, ho => by
    obtain ⟨fuel, rfl⟩ : ∃ q, fuel = q + 1 := ⟨fuel - 1, by omega⟩
    have h256 := cF_ h8
    have hkl : k < sets.length := by omega
    obtain ⟨S, hS⟩ : ∃ S : Nat, sets[k] = (S : Int) := ⟨sets[k].toNat, by have := hs _ (List.getElem_mem hkl); omega⟩
    have hS2 : S < 2 ^ L := by have := (hs _ (List.getElem_mem hkl)).2; rw [hS, Int.toNat_natCast] at this; exact this
    have hdrop : (sets.drop k).map Int.toNat = S :: (sets.drop (k + 1)).map Int.toNat := by
      rw [List.drop_eq_getElem_cons hkl, List.map_cons, hS, Int.toNat_natCast]
    generalize hSS : (sets.drop (k + 1)).map Int.toNat = SS at hdrop
    have hv := fL_ c0 hin
    rw [hc] at hv
    have hpk := cQ_ (L := L) (k := k) h8 (by omega)
    have hpk1 := cQ_ (L := L) (k := k + 1) h8 (by omega)
    have hloop := dX_ (body := aF_ (k : Int) ((valN L c0 : Nat) : Int) ((L ^ k : Nat) : Int) sets (nsV p) (S_ fuel)) (fun j => ((o &&& bitsP (fun b => ∀ a : Nat, a < j → S.testBit a = true → ∀ c, cho SS c → inG p.Nodes (c0 ++ [(a : Int)] ++ c ++ [(b : Int)])) L : Nat) : Int)) L (fun j hj => by
      have hstep : (bitsP (fun b => ∀ a : Nat, a < j + 1 → S.testBit a = true → ∀ c, cho SS c → inG p.Nodes (c0 ++ [(a : Int)] ++ c ++ [(b : Int)])) L) = bitsP (fun b => ∀ a : Nat, a < j → S.testBit a = true → ∀ c, cho SS c → inG p.Nodes (c0 ++ [(a : Int)] ++ c ++ [(b : Int)])) L &&& bitsP (fun b => S.testBit j = true → ∀ c, cho SS c → inG p.Nodes (c0 ++ [(j : Int)] ++ c ++ [(b : Int)])) L := by
        rw [ko_]
        refine cH_ L fun b _ => ?_
        constructor
        · exact fun h => ⟨fun a ha => h a (by omega), h j (by omega)⟩
        · rintro ⟨h1, h2⟩ a ha
          by_cases e : a = j
          · subst e; exact h2
          · exact h1 a (by omega)
      rw [hstep, ← Nat.and_assoc]
      have hlt : o &&& bitsP (fun b => ∀ a : Nat, a < j → S.testBit a = true → ∀ c, cho SS c → inG p.Nodes (c0 ++ [(a : Int)] ++ c ++ [(b : Int)])) L < 2 ^ L := Nat.lt_of_le_of_lt Nat.and_le_left ho
      generalize (o &&& bitsP (fun b => ∀ a : Nat, a < j → S.testBit a = true → ∀ c, cho SS c → inG p.Nodes (c0 ++ [(a : Int)] ++ c ++ [(b : Int)])) L) = o' at hlt ⊢
      unfold aF_
      rw [fH_ _ _ hkl, sb, hS, km_ (by omega), sb, nC_ (by omega)]
      cases hb : S.testBit j
      · rw [if_neg (by simp), sb, if_neg (by simp), mo_ hlt (by simp)]
      · rw [if_pos rfl, sb]
        by_cases h0 : o' = 0
        · subst h0
          rw [if_neg (by simp), Nat.zero_and]
        · have hjk : j * L ^ k ≤ 8 * 4096 := Nat.mul_le_mul (by omega) hpk
          have hnat1 : ((valN L c0 : Nat) : Int) + (j : Int) * ((L ^ k : Nat) : Int) = ((valN L (c0 ++ [(j : Int)]) : Nat) : Int) := by
            rw [lt_, hc, Int.toNat_natCast, Int.natCast_add, Int.natCast_mul]
          have hnat2 : ((L ^ k : Nat) : Int) * (L : Int) = ((L ^ (k + 1) : Nat) : Int) := by rw [Nat.pow_succ]; exact (Int.natCast_mul _ _).symm
          have hnat3 : (j : Int) * ((L ^ k : Nat) : Int) = ((j * L ^ k : Nat) : Int) := (Int.natCast_mul _ _).symm
          have hin2 : ∀ a ∈ c0 ++ [(j : Int)], 0 ≤ a ∧ a < (L : Int) := fun a ha => by
            rcases List.mem_append.1 ha with ha | ha
            · exact hin a ha
            · rw [List.mem_singleton.1 ha]; omega
          have hv2 := fL_ _ hin2
          rw [List.length_append, hc, List.length_singleton] at hv2
          rw [if_pos (by simpa using h0), C_ (by omega) (by omega), sb, show ck ((j : Int) * ((L ^ k : Nat) : Int)) = some ((j : Int) * ((L ^ k : Nat) : Int)) from C_ (by omega) (by omega), sb, hnat1, C_ (by omega) (by omega), sb,
            show (nsV p).p.Labels = (L : Int) from hL, hnat2, C_ (by omega) (by omega), sb, show ((k : Int) + 1) = ((k + 1 : Nat) : Int) by omega,
            ox_ p L e hL hD h8 he sets hs hlen d (k + 1) fuel (c0 ++ [(j : Int)]) o' (by omega) (by omega) (by rw [List.length_append, hc]; rfl) hin2 hlt, sb, hSS]
          congr 4
          unfold cmP
          exact cH_ L fun b _ => ⟨fun h _ => h, fun h => h rfl⟩)
    unfold S_
    rw [if_neg (by simp; omega), show (nsV p).p.Labels = (L : Int) from hL, C_ (by omega) (by omega), sb, Int.toNat_natCast]
    rw [mo_ ho (by simp)] at hloop
    rw [hloop, sb, hdrop]
    simp only
    congr 3
    unfold cmP
    refine cH_ L fun b _ => ?_
    constructor
    · intro h c hcc
      cases c with
      | nil => exact hcc.elim
      | cons a c =>
        obtain ⟨⟨h1, h2⟩, h3⟩ := hcc
        have := h a.toNat (oC_ hS2 h2) h2 c h3
        rw [Int.toNat_of_nonneg h1, List.append_assoc c0] at this
        exact this
    · intro h a ha h2 c h3
      have := h ((a : Int) :: c) ⟨⟨by omega, by rw [Int.toNat_natCast]; exact h2⟩, h3⟩
      rw [List.append_assoc c0 [(a : Int)] c]
      exact this
theorem hL_ (fuel : Nat) (p : a_) (h : probB p = true) (hf : 10 ≤ fuel) (sets : List Int) (hs : ∀ s ∈ sets, 0 ≤ s ∧ s.toNat < 2 ^ p.Labels.toNat) (hlen : (sets.length : Int) + 1 = p.Degree) : aQ_ fuel (nsV p) sets = some (cmI p.Labels.toNat p.Nodes sets) := by
  obtain ⟨g1, g2, g3, g4, -, -⟩ := bb_ h
  obtain ⟨L, hL⟩ : ∃ L : Nat, p.Labels = (L : Int) := ⟨p.Labels.toNat, by omega⟩
  obtain ⟨e, hD⟩ : ∃ e : Nat, p.Degree = ((e + 1 : Nat) : Int) := ⟨p.Degree.toNat - 1, by omega⟩
  rw [hL, Int.toNat_natCast] at hs ⊢
  have h1 : 1 ≤ 2 ^ L := Nat.one_le_two_pow
  have h256 := cF_ (L := L) (by omega)
  have := ox_ p L e hL hD (by omega) (by omega) sets hs (by omega) e 0 fuel [] (2 ^ L - 1) (by omega) (by omega) rfl (by simp) (by omega)
  unfold aQ_
  rw [show (nsV p).p.Labels = (L : Int) from hL, eS_ (by omega), sb, show (((2 ^ L : Nat) : Int) - 1) = ((2 ^ L - 1 : Nat) : Int) by omega, C_ (by omega) (by omega), sb]
  rw [show ((valN L [] : Nat) : Int) = 0 from rfl, show ((L ^ 0 : Nat) : Int) = 1 by simp, show ((0 : Nat) : Int) = 0 from rfl] at this
  rw [this, sb, ot_, List.drop_zero]
  unfold cmI
  congr 2
  refine Nat.eq_of_testBit_eq fun b => ?_
  rw [Nat.testBit_and, Nat.testBit_two_pow_sub_one]
  cases hb : (cmpl L (inG p.Nodes) (sets.map Int.toNat)).testBit b
  · simp
  · have := ((ep_ _ L b).1 hb).1
    simp [this]
theorem ic_ (xs : List Int) (h : xs.length ≤ 1000000000) : ah_ xs = some xs := by
  unfold ah_
  rw [iy_ _ h, sb]
theorem lH_ {body : Int → Unit → Option (Lp Unit Unit Bool)} (B : Nat → Prop) : ∀ (n k : Nat), (∀ j, j < n → (B (k + j) ∧ body ((k + j : Nat) : Int) () = some (.go ())) ∨ (¬ B (k + j) ∧ body ((k + j : Nat) : Int) () = some (.ret false))) →
    (forN body n (k : Int) () = some (.inl ()) ∧ ∀ j, j < n → B (k + j)) ∨ (forN body n (k : Int) () = some (.inr false) ∧ ∃ j, j < n ∧ ¬ B (k + j))
  | 0, k, h => .inl ⟨rfl, by simp⟩
  | n + 1, k, h => by
    rcases h 0 (by omega) with ⟨h1, h2⟩ | ⟨h1, h2⟩
    · simp only [Nat.add_zero] at h1 h2
      have ih := lH_ (body := body) B n (k + 1) (fun j hj => by have := h (j + 1) (by omega); rw [show k + (j + 1) = k + 1 + j by omega] at this; exact this)
      simp only [forN, h2]
      rw [show ((k : Int) + 1) = ((k + 1 : Nat) : Int) by omega]
      rcases ih with ⟨i1, i2⟩ | ⟨i1, j, i2, i3⟩
      · refine .inl ⟨i1, fun j hj => ?_⟩
        cases j with
        | zero => exact h1
        | succ j => have := i2 j (by omega); rwa [show k + 1 + j = k + (j + 1) by omega] at this
      · exact .inr ⟨i1, j + 1, by omega, by rwa [show k + (j + 1) = k + 1 + j by omega]⟩
    · simp only [Nat.add_zero] at h1 h2
      refine .inr ⟨?_, 0, by omega, h1⟩
      simp only [forN, h2]
open Classical in
theorem qp_ (fuel : Nat) (p : a_) (h : probB p = true) (hf : 10 ≤ fuel) (l : List Int) (hl : ∀ s ∈ l, 0 ≤ s ∧ s.toNat < 2 ^ p.Labels.toNat) (hlen : (l.length : Int) = p.Degree) : bK_ fuel (nsV p) l = some (decide (fullI p.Labels.toNat p.Nodes l)) := by
  obtain ⟨g1, g2, g3, g4, -, -⟩ := bb_ h
  have key := lH_ (body := aT_ fuel (nsV p) l) (fun i => ∀ x, l[i]? = some x → cmI p.Labels.toNat p.Nodes (l.eraseIdx i) = x) l.length 0 (fun j hj => by
    have hb : aT_ fuel (nsV p) l ((0 + j : Nat) : Int) () = if cmI p.Labels.toNat p.Nodes (l.eraseIdx j) != l[j] then some (.ret false) else some (.go ()) := by
      unfold aT_
      rw [Nat.zero_add, ic_ _ (by omega), sb, C_ (by omega) (by omega), sb]
      unfold delO
      rw [if_pos (by omega), sb, Int.toNat_natCast, show ((j : Int) + 1).toNat = j + 1 by omega, ← List.eraseIdx_eq_take_drop_succ, hL_ fuel p h hf (l.eraseIdx j) (fun s hs => hl s (List.mem_of_mem_eraseIdx hs)) (by rw [List.length_eraseIdx, if_pos hj]; omega), sb, fH_ _ _ hj, sb]
    rw [hb, Nat.zero_add, List.getElem?_eq_getElem hj]
    by_cases e : cmI p.Labels.toNat p.Nodes (l.eraseIdx j) = l[j]
    · exact .inl ⟨fun x hx => by cases hx; exact e, by rw [if_neg (by simpa using e)]⟩
    · exact .inr ⟨fun hh => e (hh _ rfl), by rw [if_pos (by simpa using e)]⟩)
  simp only [Nat.zero_add] at key
  rw [show ((0 : Nat) : Int) = 0 from rfl] at key
  unfold bK_
  rw [C_ (by omega) (by omega), sb, Int.toNat_natCast]
  rcases key with ⟨h1, h2⟩ | ⟨h1, j, h2, h3⟩
  · rw [h1, sb]
    have : fullI p.Labels.toNat p.Nodes l := fun i x hx => h2 i (List.getElem?_eq_some_iff.1 hx).1 x hx
    simp [this]
  · rw [h1, sb]
    have : ¬ fullI p.Labels.toNat p.Nodes l := fun hh => h3 (hh j)
    simp [this]
theorem iJ_ (n d fuel : Nat) (hn : n ≤ 1000000) (hd : d ≤ 1000) (hb : ∀ k, k ≤ d → n ^ k ≤ 1000000000) (hf : n + d < fuel) : dh_ fuel (n : Int) (d : Int) = some (msD n d) := by
  have hgo : ∀ j, j < d → cg_ fuel (n : Int) (j : Int) (msD n j) = some (.go (msD n (j + 1))) := fun j hj => by
    have hlen : (msD n (j + 1)).length ≤ 1000000000 := Nat.le_trans (fy_ n (j + 1)) (hb (j + 1) (by omega))
    have key := ev_ (body := cu_ fuel (n : Int)) (extD n) 1000000000 (msD n j) 0 [] (by simpa [msD] using hlen) (fun x hx k ac hac => by
      have hnd := (dI_ n j x).1 hx
      have h3 : (x.getLastD 0).toNat ≤ n → ∀ (f : List (List Int) × Int → Option (Lp (List (List Int) × Int) (List (List Int) × Int) (List (List Int)))), (f = ce_ (n : Int) x ∨ f = bB_ (n : Int) x) →
          loopF f fuel (ac, (((x.getLastD 0).toNat : Nat) : Int)) = some (.inl (ac ++ extD n x, (n : Int))) := fun hle f hf' => by
        unfold extD at hac ⊢
        rw [List.length_map, List.length_range'] at hac
        refine jP_ (x := x) (n := n) (fun acc k hk ha => ?_) (fun acc => ?_) _ _ fuel ac (by omega) (by omega) hac
        · rcases hf' with rfl | rfl
          · unfold ce_
            simp only
            rw [if_pos (by simpa using hk), ic_ x (by rw [hnd.1]; omega), sb]
            unfold push
            rw [if_pos (by rw [hnd.1]; omega), sb, if_pos ha, sb, C_ (by omega) (by omega), sb]
            rfl
          · unfold bB_
            simp only
            rw [if_pos (by simpa using hk), ic_ x (by rw [hnd.1]; omega), sb]
            unfold push
            rw [if_pos (by rw [hnd.1]; omega), sb, if_pos ha, sb, C_ (by omega) (by omega), sb]
            rfl
        · rcases hf' with rfl | rfl
          · unfold ce_
            simp only
            rw [if_neg (by simp)]
          · unfold bB_
            simp only
            rw [if_neg (by simp)]
      have h0 := pD_ hnd
      unfold cu_
      by_cases hj0 : 0 < j
      · obtain ⟨i, rfl⟩ : ∃ i, j = i + 1 := ⟨j - 1, by omega⟩
        have hl : x.getLastD 0 < (n : Int) := by
          rcases List.eq_nil_or_concat x with rfl | ⟨u, a, rfl⟩
          · have := hnd.1; simp at this
          · have := hnd.2.2 a (by simp)
            rw [List.concat_eq_append, List.getLastD_concat]; exact this.2
        have hxl := hnd.1
        rw [if_pos (decide_eq_true (by omega)), C_ (by omega) (by omega), sb, show ((x.length : Int) - 1) = (i : Int) by omega, lM_ hnd.1, sb]
        have h4 := h3 (by omega) _ (.inl rfl)
        rw [Int.toNat_of_nonneg h0] at h4
        rw [h4, sb]
      · have hj1 : j = 0 := by omega
        subst hj1
        have hx0 : x = [] := List.eq_nil_of_length_eq_zero hnd.1
        subst hx0
        rw [if_neg (by simp)]
        have h4 := h3 (by simp) (bB_ (n : Int) []) (.inr rfl)
        simp only [List.getLastD_nil, Int.toNat_zero, Int.natCast_zero] at h4
        rw [h4, sb])
    unfold cg_
    rw [key, sb]
    rfl
  have h := dX_ (body := cg_ fuel (n : Int)) (fun j => msD n j) d hgo
  unfold dh_
  rw [C_ (by omega) (by omega), sb, Int.toNat_natCast, show ([[]] : List (List Int)) = msD n 0 from rfl, h, sb]
end

section
set_option maxRecDepth 100000
set_option maxHeartbeats 2000000
open Go.RowKit
def gm_ (p1 : List Int) : Int → Int → (List Int) → Option (Lp (List Int) (List Int) (List Int)) := fun (i7 : Int) (x17 : Int) (s : List Int) =>
  (ix p1 x17) >>= fun x23 =>
  (push s x23) >>= fun x35 =>
  some (.go x35)
def lc_ (p0 : List Int) (p1 : List Int) : Option (List Int) :=
  (forI (gm_ p1) p0 0 []) >>= fun q8 =>
  match q8 with
  | .inl y2 =>
    some y2
  | .inr _ => none
end

section
theorem lo_ {α σ ρ : Type} {body : Int → α → σ → Option (Lp σ σ ρ)} (R : Nat → σ) : ∀ (xs : List α) (k : Nat), (∀ (j : Nat) x, xs[j]? = some x → body ((k + j : Nat) : Int) x (R (k + j)) = some (.go (R (k + j + 1)))) →
    forI body xs (k : Int) (R k) = some (.inl (R (k + xs.length)))
  | [], k, h => rfl
  | x :: xs, k, h => by
    have h0 := h 0 x rfl
    simp only [Nat.add_zero] at h0
    simp only [forI, h0]
    rw [show ((k : Int) + 1) = ((k + 1 : Nat) : Int) by omega]
    rw [lo_ R xs (k + 1) (fun j y hj => by have := h (j + 1) y (by simpa using hj); rw [show k + (j + 1) = k + 1 + j by omega] at this; exact this)]
    rw [List.length_cons, show k + 1 + xs.length = k + (xs.length + 1) by omega]
theorem jg_ {α σ ρ : Type} {body : Int → α → σ → Option (Lp σ σ ρ)} (R : Nat → σ) (xs : List α) (h : ∀ (j : Nat) x, xs[j]? = some x → body (j : Int) x (R j) = some (.go (R (j + 1)))) :
    forI body xs 0 (R 0) = some (.inl (R xs.length)) := by
  have := lo_ R xs 0 (fun j x hj => by rw [Nat.zero_add]; exact h j x hj)
  rw [Nat.zero_add] at this; exact this
def imgL (t x : List Int) : List Int := x.map fun y => t.getD y.toNat 0
theorem kU_ {α : Type} {xs : List α} {j : Nat} {x : α} (h : xs[j]? = some x) : xs.take (j + 1) = xs.take j ++ [x] := by
  rw [List.take_add_one, h]; rfl
theorem mF_ (t x : List Int) (ht : t.length ≤ 1000000) (h : ∀ y, y ∈ x → 0 ≤ y ∧ y < t.length) (hx : x.length ≤ 1000) : dT_ t x = some (imgL t x) ∧ lc_ x t = some (imgL t x) := by
  have step : ∀ (j : Nat) (y : Int), x[j]? = some y → ix t y = some (t.getD y.toNat 0) := fun j y hj => by
    have := h y (List.mem_of_getElem? hj)
    unfold ix
    rw [if_pos this.1, List.getD_eq_getElem?_getD, List.getElem?_eq_getElem (by omega)]
    rfl
  constructor
  · unfold dT_
    have := jg_ (body := ct_ t) (fun j => imgL t (x.take j)) x (fun j y hj => by
      unfold ct_ push
      rw [step j y hj, sb, if_pos (by simp [imgL]; omega), sb, kU_ hj]
      simp [imgL])
    rw [List.take_length] at this
    rw [show ([] : List Int) = imgL t (x.take 0) from rfl, this, sb]
  · unfold lc_
    have := jg_ (body := gm_ t) (fun j => imgL t (x.take j)) x (fun j y hj => by
      unfold gm_ push
      rw [step j y hj, sb, if_pos (by simp [imgL]; omega), sb, kU_ hj]
      simp [imgL])
    rw [List.take_length] at this
    rw [show ([] : List Int) = imgL t (x.take 0) from rfl, this, sb]
end

section
set_option maxRecDepth 100000
set_option maxHeartbeats 2000000
open Go.RowKit
theorem eh_ : Inf Tryz.prog 41 (.slice none 0 0) 1 24 := by unfold Inf; kernel_rfl

def bs_ (p0 : List (List Int)) (p1 : List Int) : Int → Option (Lp Int Int (List (List Int))) := fun (s : Int) =>
  (
    if decide (s < (p0.length : Int)) then
      (ix p0 s) >>= fun x18 =>
      (dF_ x18 p1) >>= fun x26 =>
      some (decide (x26 < 0))
    else
      some false) >>= fun q14 =>
  if q14 then
    (ck (s + 1)) >>= fun x36 =>
    some (.go x36)
  else
    some (.out s)
def eH_ (fuel : Nat) (p0 : List (List Int)) (p1 : List Int) : Option (List (List Int)) :=
  (loopF (bs_ p0 p1) fuel 0) >>= fun q4 =>
  match q4 with
  | .inl y1 =>
    (
      if decide (y1 < (p0.length : Int)) then
        (ix p0 y1) >>= fun x43 =>
        (fl_ x43 p1) >>= fun x51 =>
        some x51
      else
        some false) >>= fun q39 =>
    if q39 then
      some p0
    else
      (cut p0 0 y1) >>= fun x67 =>
      (cat ([] : List (List Int)) x67) >>= fun x70 =>
      (push x70 p1) >>= fun x82 =>
      (cut p0 y1 p0.length) >>= fun x88 =>
      (cat x82 x88) >>= fun x91 =>
      some x91
  | .inr _ => none

def mt_ (oo : Tg) (t : Nat) (w : World) (r : List (List Int)) : Ending → World → Prop := fun e w' => ∃ (v0 : Value) (o' : Tg), e = .returned (v0) ∧ RdL o' w' v0 r ∧ Keeps w w' ∧ ∀ b, b < w.heap.size → o' b = oo b
theorem mA_ (fuel : Nat) (w : World) (oo : Tg) (t : Nat) (ht : 2 ≤ t) (u0 : Value) (p0 : List (List Int)) (g0 : RdL oo w u0 p0) (u1 : Value) (p1 : List Int) (g1 : RdL oo w u1 p1) (r : List (List Int)) (hF : eH_ fuel p0 p1 = some r) :
    Calls Tryz.prog 158 #[u0, u1] w (mt_ oo t w r) := by
 unfold eH_ at hF; replace g0 := RdL.col g0; replace g1 := RdL.col g1; have hB : Bs oo (col oo) w w := Bs.start _ _; refine h_ (n := 49) (vs := [u0, u1]) Tryz.func158 rfl rfl ?_; generalize col oo = o at *; refine Zq (Za rfl (Ze [(0, u0), (1, u1)] (Zn (Za rfl (Ze [(0, u0), (1, u1), (5, ZI 0)] (nx ?_)))))); obtain ⟨q4, hq4, hF⟩ := bind_some hF; refine he_ (fun a w3 => ∃ (y1 : Int) (o2 : Tg), q4 = .inl y1 ∧ Fr a 49 [(0, u0), (1, u1), (5, ZI y1)] ∧ Bs oo o2 w w3 ∧ RdL o2 w3 u0 p0 ∧ RdL o2 w3 u1 p1) (fun _ _ => False) ?_ ?_ ?_
 ·refine d_ ?_; refine y_ (fun (K : Nat) a w3 => ∃ (y1 : Int) (o2 : Tg), loopF (bs_ p0 p1) K y1 = some q4 ∧ Fr a 49 [(0, u0), (1, u1), (5, ZI y1)] ∧ Bs oo o2 w w3 ∧ RdL o2 w3 u0 p0 ∧ RdL o2 w3 u1 p1) fuel (fun a ha => ⟨0, o, hq4, ha.sub (r := [(0, u0), (1, u1), (5, ZI 0)]) ⟨rfl, rfl, rfl, trivial⟩, hB, g0, g1⟩) ?_; rintro K8 a w3 ⟨y1, o2, l5, ha, hB, g0, g1⟩; obtain ⟨K12, q9, e13, b10, n11⟩ := X_ l5; dsimp only [bs_] at b10; refine L_ ha ?_; refine b_ (Zq (Zm rfl (Zm rfl (Zv (F_ rfl g0 Tryz.underlying22) (Zv (r_ rfl rfl) (Zm rfl ?_)))))); obtain ⟨q14, hq14, b10⟩ := bind_some b10; refine az_ 8 (fun a16 w15 => Fr a16 49 [(0, u0), (1, u1), (5, ZI y1), (19, (.bool q14))] ∧ Keeps w3 w15) ?_ ?_; all_goals simp only [List.take_succ_cons, List.take_zero, List.drop_succ_cons, List.drop_zero]
  ·have kp : Keeps w3 w3 := Keeps.refl _; rcases Bool.eq_false_or_eq_true (decide (y1 < (p0.length : Int))) with t17 | t17
   ·rw [if_pos t17] at hq14; refine o_ (k_ rfl) (by decide) ⟨_, rfl, (congrArg (fun b => some (Value.bool b)) t17)⟩ (o_ (k_ rfl) (by decide) ⟨_, rfl, (congrArg (fun b => some (Value.bool b)) t17)⟩ ?_); obtain ⟨x18, hx18, hq14⟩ := bind_some hq14; refine ch_ (by decide) ⟨_, rfl, (congrArg (fun b => some (Value.bool b)) t17)⟩ ?_; refine hf_ g0 hx18 rfl rfl Tryz.underlying22 Tryz.sizeOf41 ?_; intro b19 f20 c21 h22 h23; obtain ⟨v24, rfl, h25⟩ := h23; refine o_ (e_ rfl Tryz.isAgg41 (i_ h22)) (by decide) ⟨_, rfl, (congrArg (fun b => some (Value.bool b)) t17)⟩ (o_ (k_ rfl) (by decide) ⟨_, rfl, (congrArg (fun b => some (Value.bool b)) t17)⟩ ?_); obtain ⟨x26, hx26, hq14⟩ := bind_some hq14; refine ch_ (by decide) ⟨_, rfl, (congrArg (fun b => some (Value.bool b)) t17)⟩ ?_; refine n_ (jC_ w3 _ x18 h25.z _ p1 g1.z x26 hx26) Tryz.call107 ⟨rfl, rfl, trivial⟩ ?_; rintro e31 w27 ⟨rfl, k28⟩; have s30 := k28.stp 999 o2; refine ⟨_, rfl, ?_⟩; replace g0 := g0.stp s30; replace g1 := g1.stp s30; replace h25 := h25.stp s30; replace hB := hB.stp s30; replace kp := Keeps.trans kp k28; refine o_ (r_ rfl rfl) (by decide) ⟨_, rfl, (congrArg (fun b => some (Value.bool b)) t17)⟩ (Zv (O_ (congrArg (fun b => some (Value.bool b)) t17) rfl) ?_); have hq142 := Option.some.inj hq14; refine Ze [(0, u0), (1, u1), (5, ZI y1), (19, (.bool (decide (x26 < 0))))] ?_; subst hq142; refine p_ (fun a ha => ⟨ha, kp⟩)
   ·rw [if_neg (by rw [t17]; decide)] at hq14; refine s_ rfl rfl (by rw [t17]; rfl) (by decide) ?_; refine s_ rfl rfl (by rw [t17]; rfl) (by decide) ?_; refine s_ rfl rfl (by rw [t17]; rfl) (by decide) ?_; refine s_ rfl rfl (by rw [t17]; rfl) (by decide) ?_; refine s_ rfl rfl (by rw [t17]; rfl) (by decide) ?_; refine s_ rfl rfl (by rw [t17]; rfl) (by decide) ?_; refine s_ rfl rfl (by rw [t17]; rfl) (by decide) ?_; refine Zv (J_ (congrArg (fun b => some (Value.bool b)) t17) rfl) ?_; have hq142 := Option.some.inj hq14; refine Ze [(0, u0), (1, u1), (5, ZI y1), (19, (.bool false))] ?_; subst hq142; refine p_ (fun a ha => ⟨ha, kp⟩)
  rintro a34 w15 ⟨ha, k32⟩; have s33 := k32.stp 999 o2; replace g0 := g0.stp s33; replace g1 := g1.stp s33; replace hB := hB.stp s33; refine bf_ ha ?_; refine Ze [(0, u0), (1, u1), (5, ZI y1), (19, (.bool q14))] (nx ?_); refine l_ rfl (fun t35 => ?_) (fun t35 => ?_)
  ·rw [if_pos t35] at b10; refine f_ (nx (d_ (c_ (Zm rfl ?_)))); obtain ⟨x36, hx36, b10⟩ := bind_some b10; refine Zv (B_ rfl rfl hx36) (Za rfl (Ze [(0, u0), (1, u1), (5, ZI x36)] (x_ (v_ ?_)))); have e37 := Option.some.inj b10; subst e37; refine Zk [(0, u0), (1, u1), (5, ZI x36)] ?_; intro a ha; exact ⟨K12, by omega, x36, o2, n11, ha, hB, g0, g1⟩
  ·rw [if_neg (by rw [t35]; decide)] at b10; refine u_ ?_; refine m_ (m_ (R_ ?_)); refine p_ ?_; have e38 := Option.some.inj b10; subst e38; refine Zk [(0, u0), (1, u1), (5, ZI y1)] ?_; intro a ha; exact ⟨y1, o2, n11, ha, hB, g0, g1⟩
 ·rintro a w3 ⟨y1, o2, rfl, ha, hB, g0, g1⟩; dsimp only at hF; refine L_ ha ?_; refine b_ (Zq (Zm rfl (Zm rfl (Zv (F_ rfl g0 Tryz.underlying22) (Zv (r_ rfl rfl) (Zm rfl ?_)))))); obtain ⟨q39, hq39, hF⟩ := bind_some hF; refine az_ 7 (fun a41 w40 => Fr a41 49 [(0, u0), (1, u1), (5, ZI y1), (33, (.bool q39))] ∧ Keeps w3 w40) ?_ ?_; all_goals simp only [List.take_succ_cons, List.take_zero, List.drop_succ_cons, List.drop_zero]
  ·have kp : Keeps w3 w3 := Keeps.refl _; rcases Bool.eq_false_or_eq_true (decide (y1 < (p0.length : Int))) with t42 | t42
   ·rw [if_pos t42] at hq39; refine o_ (k_ rfl) (by decide) ⟨_, rfl, (congrArg (fun b => some (Value.bool b)) t42)⟩ (o_ (k_ rfl) (by decide) ⟨_, rfl, (congrArg (fun b => some (Value.bool b)) t42)⟩ ?_); obtain ⟨x43, hx43, hq39⟩ := bind_some hq39; refine ch_ (by decide) ⟨_, rfl, (congrArg (fun b => some (Value.bool b)) t42)⟩ ?_; refine hf_ g0 hx43 rfl rfl Tryz.underlying22 Tryz.sizeOf41 ?_; intro b44 f45 c46 h47 h48; obtain ⟨v49, rfl, h50⟩ := h48; refine o_ (e_ rfl Tryz.isAgg41 (i_ h47)) (by decide) ⟨_, rfl, (congrArg (fun b => some (Value.bool b)) t42)⟩ (o_ (k_ rfl) (by decide) ⟨_, rfl, (congrArg (fun b => some (Value.bool b)) t42)⟩ ?_); obtain ⟨x51, hx51, hq39⟩ := bind_some hq39; refine ch_ (by decide) ⟨_, rfl, (congrArg (fun b => some (Value.bool b)) t42)⟩ ?_; refine n_ (lu_ w3 _ x43 h50.z _ p1 g1.z x51 hx51) Tryz.call115 ⟨rfl, rfl, trivial⟩ ?_; rintro e56 w52 ⟨rfl, k53⟩; have s55 := k53.stp 999 o2; refine ⟨_, rfl, ?_⟩; replace g0 := g0.stp s55; replace g1 := g1.stp s55; replace h50 := h50.stp s55; replace hB := hB.stp s55; replace kp := Keeps.trans kp k53; refine Zv (O_ (congrArg (fun b => some (Value.bool b)) t42) rfl) ?_; have hq392 := Option.some.inj hq39; refine Ze [(0, u0), (1, u1), (5, ZI y1), (33, (.bool x51))] ?_; subst hq392; refine p_ (fun a ha => ⟨ha, kp⟩)
   ·rw [if_neg (by rw [t42]; decide)] at hq39; refine s_ rfl rfl (by rw [t42]; rfl) (by decide) ?_; refine s_ rfl rfl (by rw [t42]; rfl) (by decide) ?_; refine s_ rfl rfl (by rw [t42]; rfl) (by decide) ?_; refine s_ rfl rfl (by rw [t42]; rfl) (by decide) ?_; refine s_ rfl rfl (by rw [t42]; rfl) (by decide) ?_; refine s_ rfl rfl (by rw [t42]; rfl) (by decide) ?_; refine Zv (J_ (congrArg (fun b => some (Value.bool b)) t42) rfl) ?_; have hq392 := Option.some.inj hq39; refine Ze [(0, u0), (1, u1), (5, ZI y1), (33, (.bool false))] ?_; subst hq392; refine p_ (fun a ha => ⟨ha, kp⟩)
  rintro a59 w40 ⟨ha, k57⟩; have s58 := k57.stp 999 o2; replace g0 := g0.stp s58; replace g1 := g1.stp s58; replace hB := hB.stp s58; refine bf_ ha ?_; refine Ze [(0, u0), (1, u1), (5, ZI y1), (33, (.bool q39))] (nx ?_); refine l_ rfl (fun t60 => ?_) (fun t60 => ?_)
  ·rw [if_pos t60] at hF; refine Zq (Zm rfl (Za rfl (Ze [(4, u0)] (nx (j_ (A_ ?_)))))); have e61 := Option.some.inj hF; subst e61; refine Zr Tryz.results158 [u0] ?_; exact ⟨_, rt oo o2 w.heap.size 9 t, rfl, g0.rt hB 9 t (by decide), hB.keeps, an_ _ _ _ _ _⟩
  ·rw [if_neg (by rw [t60]; decide)] at hF; refine f_ (Zn (Zo ?_)); refine eT_ w.heap.size 13 hB.keeps.size (o := o2) (cs := []) (xs := ([] : List (List Int))) (vs := []) rfl rfl trivial Tryz.underlying22 Tryz.sizeOf41 Tryz.zeroValue41 (by decide) fill0 (by simp) ?_; intro o62 w63 v64 h65 s66; replace g0 := g0.stp s66; replace g1 := g1.stp s66; replace hB := hB.stp s66; refine Zm rfl (Zm rfl ?_); obtain ⟨x67, hx67, hF⟩ := bind_some hF; refine Zo ?_; refine kf_ g0 hx67 rfl rfl rfl Tryz.underlying22 Tryz.sizeOf41 ?_; intro v68 h69; obtain ⟨x70, hx70, hF⟩ := bind_some hF; refine Zo ?_; refine bi_ h65 h69 hx70 (by decide) hB.keeps.size rfl rfl Tryz.underlying22 eh_ rfl (by decide) ?_; intro o71 w72 v73 h74 s75; replace g0 := g0.stp s75; replace g1 := g1.stp s75; replace h69 := h69.stp s75; replace hB := hB.stp s75; refine Za rfl (Ze [(0, u0), (1, u1), (5, ZI y1), (6, v73)] (Zn (Zm rfl (Zm rfl (Zo ?_))))); refine aH_ (o := o71) (cs := [u1]) (xs := ([p1] : List (List Int))) (vs := [(0, u1)]) ⟨_, _, rfl, (ig_ g1), rfl⟩ rfl ⟨rfl, rfl, trivial⟩ Tryz.underlying22 Tryz.sizeOf41 Tryz.zeroValue41 (by decide) (fill1 g1.cells1) (by simp) ?_; intro o76 w77 v78 h79 s80 k81; replace g0 := g0.stp s80; replace g1 := g1.stp s80; replace h74 := h74.stp s80; replace hB := hB.stp s80; obtain ⟨x82, hx82, hF⟩ := bind_some hF; refine Zo ?_; refine bi_ h74 h79 (ax_ hx82) (by decide) hB.keeps.size rfl rfl Tryz.underlying22 eh_ rfl (by decide) ?_; intro o83 w84 v85 h86 s87; replace g0 := g0.stp s87; replace g1 := g1.stp s87; replace h79 := h79.stp s87; replace hB := hB.stp s87; refine Za rfl (Ze [(0, u0), (5, ZI y1), (6, v85)] (Zn (Zm rfl (Zm rfl (Zm rfl ?_))))); obtain ⟨x88, hx88, hF⟩ := bind_some hF; refine Zo ?_; refine kf_ g0 hx88 rfl rfl rfl Tryz.underlying22 Tryz.sizeOf41 ?_; intro v89 h90; obtain ⟨x91, hx91, hF⟩ := bind_some hF; refine Zo ?_; refine bi_ h86 h90 hx91 (by decide) hB.keeps.size rfl rfl Tryz.underlying22 eh_ rfl (by decide) ?_; intro o92 w93 v94 h95 s96; replace g0 := g0.stp s96; replace h90 := h90.stp s96; replace hB := hB.stp s96; refine Za rfl (Ze [(4, v94)] (nx (j_ ?_))); have h97 := h95.frzF; replace h95 := h95.frz; replace hB := hB.frz 13 (by decide); generalize (frz 13 o92) = o98 at *; have e99 := Option.some.inj hF; subst e99; refine Zr Tryz.results158 [v94] ?_; exact ⟨_, rt oo o98 w.heap.size 9 t, rfl, h95.rt hB 9 t (by decide), hB.keeps, an_ _ _ _ _ _⟩
 ·exact fun _ _ h => h.elim
end

end Go.Proofs.YtdbbeldgdgonfaaGreat
