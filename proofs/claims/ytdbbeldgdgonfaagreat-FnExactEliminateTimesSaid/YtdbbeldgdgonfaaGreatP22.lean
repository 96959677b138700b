/- Part 22 of what this claim rests on (Eli, GEl3), packed by pack.py. -/
import Derived.Test.YtdbbeldgdgonfaaGreatP03
import Derived.Test.YtdbbeldgdgonfaaGreatP09
import Derived.Test.YtdbbeldgdgonfaaGreatP12
import Derived.Test.YtdbbeldgdgonfaaGreatP14
import Derived.Test.YtdbbeldgdgonfaaGreatP21
namespace Go.Proofs.YtdbbeldgdgonfaaGreat
set_option linter.unusedSimpArgs false
set_option linter.unusedVariables false

section
def tabV (p : a_) : aX_ := ⟨p, (List.range (p.Labels.toNat ^ p.Degree.toNat)).map fun n => decide (srt (digs p.Labels.toNat p.Degree.toNat n) ∈ p.Nodes)⟩
theorem na_ {α : Type} (z : α) (n key K : Nat) (f : Nat → α) (hk : key = K) (hn : K < n) : ((List.range n).map fun k => if k < K then f k else z).set key (f key) = (List.range n).map fun k => if k < K + 1 then f k else z := by
 subst hk
 refine List.ext_getElem? fun i => ?_
 rw [List.getElem?_set]
 by_cases e : key = i
 ·subst e
  simp [hn]
 ·rw [if_neg e]
  by_cases hi : i < n
  ·simp only [List.getElem?_map, List.getElem?_range hi, Option.map_some]
   congr 1
   by_cases h1 : i < key
   ·rw [if_pos h1, if_pos (by omega)]
   ·rw [if_neg h1, if_neg (by omega)]
  ·simp only [List.getElem?_map]
   rw [List.getElem?_eq_none (by simp; omega)]; rfl
theorem oJ_ (p : a_) (L D n fuel : Nat) (hL : p.Labels = (L : Int)) (h1 : 1 ≤ L) (hD : p.Degree = (D : Int)) (hD4 : D ≤ 4) (hn : n ≤ 1000000) (hf : 10 ≤ fuel) : loopF (bM_ p) fuel ([], (n : Int)) = some (.inl (digs L D n, ((n / L ^ D : Nat) : Int))) := by
 have h := cx_ (f := bM_ p) (fun j => (digs L j n, ((n / L ^ j : Nat) : Int))) D (fun j hj => by
  have hle : n / L ^ j / L ≤ n := Nat.le_trans (Nat.div_le_self _ _) (Nat.div_le_self _ _)
  have hdl := dS_ L j n
  unfold bM_
  simp only
  unfold rem quo push
  rw [hD, hL, if_pos (by simp; omega), if_neg (by omega), sb, if_pos (by omega), sb, if_neg (by omega), show ((n / L ^ j : Nat) : Int).tdiv (L : Int) = ((n / L ^ j / L : Nat) : Int) from rfl, jF_ (by omega), sb,
   show ((n / L ^ j : Nat) : Int).tmod (L : Int) = ((n / L ^ j % L : Nat) : Int) from rfl, jm_, Nat.pow_succ, Nat.div_div_eq_div_mul]) (by
  unfold bM_
  simp only
  rw [hD, if_neg (by simp [dS_])]) fuel 0 (by omega) (by omega)
 simpa [digs] using h
theorem oG_ (fuel : Nat) (hf : 100 ≤ fuel) (p : a_) (hL8 : 1 ≤ p.Labels ∧ p.Labels ≤ 8) (hD4 : 0 ≤ p.Degree ∧ p.Degree ≤ 4) : ey_ fuel p = some (tabV p) := by
 obtain ⟨L, hL⟩ : ∃ L : Nat, p.Labels = (L : Int) := ⟨p.Labels.toNat, by omega⟩
 obtain ⟨D, hD⟩ : ∃ D : Nat, p.Degree = (D : Int) := ⟨p.Degree.toNat, by omega⟩
 have hpw := cU_ (L := L) (k := D) (by omega) (by omega)
 have h1 := cx_ (f := cs_ p) (fun j => (((L ^ j : Nat) : Int), (j : Int))) D (fun j hj => by
  have hb := cU_ (L := L) (k := j + 1) (by omega) (by omega)
  unfold cs_
  simp only
  rw [hD, hL, if_pos (by simpa using hj), show ((L ^ j : Nat) : Int) * (L : Int) = ((L ^ (j + 1) : Nat) : Int) by rw [Nat.pow_succ]; exact (Int.natCast_mul _ _).symm, D_ (by omega) (by omega), sb, D_ (by omega) (by omega), sb]
  rfl) (by
  unfold cs_
  simp only
  rw [hD, if_neg (by simp)]) fuel 0 (by omega) (by omega)
 have hloop := dw_ (body := cR_ fuel p) (fun K => (List.range (L ^ D)).map fun k => if k < K then decide (srt (digs L D k) ∈ p.Nodes) else false) (L ^ D) (fun K hK => by
  have hdl := dS_ L D K
  unfold cR_
  rw [oJ_ p L D K fuel hL (by omega) hD (by omega) (by omega) (by omega), sb]
  simp only
  rw [qQ_ fuel p _ (by omega) (by omega), sb, fT_ _ _ (by simp; exact hK), sb, lT_ _ _ _ (by simp; exact hK), sb, na_ false _ _ _ (fun k => decide (srt (digs L D k) ∈ p.Nodes)) rfl hK])
 unfold ey_ mk
 rw [show ((1 : Int), (0 : Int)) = (((L ^ 0 : Nat) : Int), ((0 : Nat) : Int)) by simp, h1, sb]
 simp only
 rw [if_pos (by omega), sb, List.length_replicate, Int.toNat_natCast, D_ (by omega) (by omega), sb, Int.toNat_natCast]
 have hr : List.replicate (L ^ D) (Rz.z : Bool) = (List.range (L ^ D)).map fun k => if k < 0 then decide (srt (digs L D k) ∈ p.Nodes) else false := by
  refine List.ext_getElem (by simp) fun i h1 h2 => ?_
  simp
  rfl
 rw [hr, hloop, sb]
 unfold tabV
 have he : ((List.range (L ^ D)).map fun k => if k < L ^ D then decide (srt (digs L D k) ∈ p.Nodes) else false) = (List.range (L ^ D)).map fun k => decide (srt (digs L D k) ∈ p.Nodes) := by
  refine List.map_congr_left fun k hk => ?_
  rw [if_pos (List.mem_range.1 hk)]
 rw [he]
 simp only [hL, hD, Int.toNat_natCast]
 rw [← hL, ← hD]
theorem si_ (p : a_) (L D : Nat) (hL : p.Labels = (L : Int)) (hD : p.Degree = (D : Int)) (c : List Int) (hc : ∀ a ∈ c, 0 ≤ a ∧ a < (L : Int)) (hl : c.length = D) : ix (tabV p).good ((valN L c : Nat) : Int) = some (decide (srt c ∈ p.Nodes)) := by
 have hv := gb_ c hc
 rw [hl] at hv
 have hd := kD_ c hc
 rw [hl] at hd
 unfold tabV
 simp only
 rw [hL, hD, Int.toNat_natCast, Int.toNat_natCast, cu_, List.getElem?_map, List.getElem?_range hv, Option.map_some, hd]
theorem qb_ (p : a_) (L e fuel : Nat) (hL : p.Labels = (L : Int)) (hD : p.Degree = ((e + 1 : Nat) : Int)) (h8 : L ≤ 8) (he : e ≤ 3) (hf : 10 ≤ fuel) (c0 : List Int) (hc : c0.length = e) (hin : ∀ a ∈ c0, 0 ≤ a ∧ a < (L : Int)) :
  loopF (aW_ (tabV p) ((valN L c0.reverse : Nat) : Int)) fuel (0, 0) = some (.inl (((cmP L p.Nodes c0 [] : Nat) : Int), (L : Int))) := by
 have hrv : ∀ a ∈ c0.reverse, 0 ≤ a ∧ a < (L : Int) := fun a ha => hin a (List.mem_reverse.1 ha)
 have hv := gb_ _ hrv
 rw [List.length_reverse, hc] at hv
 have hpe := cU_ (L := L) (k := e) h8 (by omega)
 have hpe1 := cU_ (L := L) (k := e + 1) h8 (by omega)
 generalize hP : (fun b : Nat => ∀ c, cho [] c → inG p.Nodes (c0 ++ c ++ [(b : Int)])) = P
 have hPb : ∀ b : Nat, P b ↔ srt ((b : Int) :: c0.reverse) ∈ p.Nodes := fun b => by
  rw [← hP]
  have hperm : (c0 ++ [] ++ [(b : Int)]).Perm ((b : Int) :: c0.reverse) := by
   rw [List.append_nil]
   exact List.perm_append_comm.trans ((List.reverse_perm c0).symm.cons (b : Int))
  constructor
  ·intro h
   have := h [] trivial
   unfold inG at this
   rwa [iE_ hperm] at this
  ·intro h c hcc
   cases c with
   | nil => unfold inG; rwa [iE_ hperm]
   | cons a c => exact hcc.elim
 have h := cx_ (f := aW_ (tabV p) ((valN L c0.reverse : Nat) : Int)) (fun j => (((bitsP P j : Nat) : Int), (j : Int))) L (fun j hj => by
  have hlt := dT_ P j
  have h2 : 2 ^ j ≤ 256 := cF_ (by omega)
  have hin2 : ∀ a ∈ (j : Int) :: c0.reverse, 0 ≤ a ∧ a < (L : Int) := fun a ha => by
   rcases List.mem_cons.1 ha with rfl | ha
   ·omega
   ·exact hrv a ha
  have hv2 := gb_ _ hin2
  rw [List.length_cons, List.length_reverse, hc] at hv2
  have hnum : ((valN L c0.reverse : Nat) : Int) * (L : Int) + (j : Int) = ((valN L ((j : Int) :: c0.reverse) : Nat) : Int) := by
   rw [show valN L ((j : Int) :: c0.reverse) = (j : Int).toNat + L * valN L c0.reverse from rfl, Int.toNat_natCast, Int.natCast_add, Int.natCast_mul, Int.mul_comm, Int.add_comm]
  have hmul : valN L c0.reverse * L ≤ 4096 * 8 := Nat.mul_le_mul (by omega) h8
  have hmul2 : ((valN L c0.reverse : Nat) : Int) * (L : Int) = ((valN L c0.reverse * L : Nat) : Int) := (Int.natCast_mul _ _).symm
  unfold aW_
  simp only
  rw [show (tabV p).p.Labels = (L : Int) from hL, if_pos (by simpa using hj), show ck (((valN L c0.reverse : Nat) : Int) * (L : Int)) = some (((valN L c0.reverse : Nat) : Int) * (L : Int)) by rw [hmul2]; exact jF_ (by omega), sb, hnum, jF_ (by omega), sb,
   si_ p L (e + 1) hL hD _ hin2 (by rw [List.length_cons, List.length_reverse, hc]), sb]
  by_cases hb : P j
  ·rw [if_pos (decide_eq_true ((hPb j).1 hb)), eY_ (by omega), sb, D_ (by omega) (by omega), sb, D_ (by omega) (by omega), sb, hq_ hb, ← pY_ hlt]
   rfl
  ·rw [if_neg (by simpa using fun hh => hb ((hPb j).2 hh)), D_ (by omega) (by omega), sb, ir_ hb]
   rfl) (by
  unfold aW_
  simp only
  rw [show (tabV p).p.Labels = (L : Int) from hL, if_neg (by simp)]) fuel 0 (by omega) (by omega)
 rw [show ((0 : Int), (0 : Int)) = (((bitsP P 0 : Nat) : Int), ((0 : Nat) : Int)) from rfl, h]
 unfold cmP
 rw [hP]
theorem rp_ (p : a_) (L e : Nat) (hL : p.Labels = (L : Int)) (hD : p.Degree = ((e + 1 : Nat) : Int)) (h8 : L ≤ 8) (he : e ≤ 3) : ∀ (sets : List Int) (fuel : Nat) (c0 : List Int), (∀ s ∈ sets, 0 ≤ s ∧ s.toNat < 2 ^ L) → sets.length + 20 < fuel → c0.length + sets.length = e → (∀ a ∈ c0, 0 ≤ a ∧ a < (L : Int)) →
  an_ fuel (tabV p) sets ((valN L c0.reverse : Nat) : Int) = some ((cmP L p.Nodes c0 (sets.map Int.toNat) : Nat) : Int)
 | [], fuel, c0, hs, hf, hc, hin => by
  obtain ⟨fuel, rfl⟩ : ∃ q, fuel = q + 1 := ⟨fuel - 1, by omega⟩
  unfold an_
  rw [if_pos (by rfl), qb_ p L e fuel hL hD h8 he (by simp at hf; omega) c0 (by simpa using hc) hin, sb]
  rfl
 | S :: sets, fuel, c0, hs, hf, hc, hin => by
  rw [List.length_cons] at hf hc
  obtain ⟨fuel, rfl⟩ : ∃ q, fuel = q + 1 := ⟨fuel - 1, by omega⟩
  have h256 := cF_ h8
  have h1 : 1 ≤ 2 ^ L := Nat.one_le_two_pow
  have hS := hs S (by simp)
  have hlab : cl_ fuel S = some (lbs 8 S.toNat) := by
   have := hG_ S.toNat fuel (by omega)
   rwa [Int.toNat_of_nonneg hS.1] at this
  have hrv : ∀ a ∈ c0.reverse, 0 ≤ a ∧ a < (L : Int) := fun a ha => hin a (List.mem_reverse.1 ha)
  have hv := gb_ _ hrv
  rw [List.length_reverse] at hv
  have hpk := cU_ (L := L) (k := c0.length) h8 (by omega)
  have hmul : valN L c0.reverse * L ≤ 4096 * 8 := Nat.mul_le_mul (by omega) h8
  have hmul2 : ((valN L c0.reverse : Nat) : Int) * (L : Int) = ((valN L c0.reverse * L : Nat) : Int) := (Int.natCast_mul _ _).symm
  generalize hSS : sets.map Int.toNat = SS
  have hloop : ∀ (xs : List Int) (k : Int) (o : Nat), (∀ a ∈ xs, a ∈ lbs 8 S.toNat) → o < 2 ^ L → forI (bl_ (tabV p) (S :: sets) ((valN L c0.reverse : Nat) : Int) (an_ fuel)) xs k (o : Int) = some (.inl ((o &&& bitsP (fun b => ∀ a ∈ xs, ∀ c, cho SS c → inG p.Nodes (c0 ++ [a] ++ c ++ [(b : Int)])) L : Nat) : Int)) := by
   intro xs
   induction xs with
   | nil =>
    intro k o _ ho
    rw [mK_ ho (by simp)]
    rfl
   | cons a xs ih =>
    intro k o hx ho
    obtain ⟨i, rfl, hi8, hbit⟩ := no_.1 (hx a (by simp))
    have hiL : i < L := pa_ hS.2 hbit
    have hin2 : ∀ x ∈ c0 ++ [(i : Int)], 0 ≤ x ∧ x < (L : Int) := fun x hxx => by
     rcases List.mem_append.1 hxx with hxx | hxx
     ·exact hin x hxx
     ·rw [List.mem_singleton.1 hxx]; omega
    have hstep : bitsP (fun b => ∀ a ∈ (i : Int) :: xs, ∀ c, cho SS c → inG p.Nodes (c0 ++ [a] ++ c ++ [(b : Int)])) L = cmP L p.Nodes (c0 ++ [(i : Int)]) SS &&& bitsP (fun b => ∀ a ∈ xs, ∀ c, cho SS c → inG p.Nodes (c0 ++ [a] ++ c ++ [(b : Int)])) L := by
     unfold cmP
     rw [mc_]
     refine cJ_ L fun b _ => ?_
     constructor
     ·exact fun h => ⟨h _ (by simp), fun a ha => h a (by simp [ha])⟩
     ·rintro ⟨q1, q2⟩ a ha
      rcases List.mem_cons.1 ha with rfl | ha
      ·exact q1
      ·exact q2 a ha
    have h0 : bl_ (tabV p) (S :: sets) ((valN L c0.reverse : Nat) : Int) (an_ fuel) k (i : Int) (o : Int) = some (.go ((o &&& cmP L p.Nodes (c0 ++ [(i : Int)]) SS : Nat) : Int)) := by
     unfold bl_
     by_cases ho0 : o = 0
     ·subst ho0
      rw [if_neg (by simp), Nat.zero_and]
     ·have hnum : ((valN L c0.reverse : Nat) : Int) * (L : Int) + (i : Int) = ((valN L (c0 ++ [(i : Int)]).reverse : Nat) : Int) := by
       rw [List.reverse_append, List.reverse_singleton, List.singleton_append]
       rw [show valN L ((i : Int) :: c0.reverse) = (i : Int).toNat + L * valN L c0.reverse from rfl, Int.toNat_natCast, Int.natCast_add, Int.natCast_mul, Int.mul_comm, Int.add_comm]
      have hnn : valN L (c0 ++ [(i : Int)]).reverse ≤ 4096 * 8 + 8 := by
       have : ((valN L (c0 ++ [(i : Int)]).reverse : Nat) : Int) = ((valN L c0.reverse * L : Nat) : Int) + (i : Int) := by rw [← hnum, hmul2]
       omega
      have hcl := dT_ (fun b => ∀ c, cho SS c → inG p.Nodes (c0 ++ [(i : Int)] ++ c ++ [(b : Int)])) L
      rw [if_pos (by simp; omega), rm_ _ (by simp), sb, List.tail_cons, show (tabV p).p.Labels = (L : Int) from hL, show ck (((valN L c0.reverse : Nat) : Int) * (L : Int)) = some (((valN L c0.reverse : Nat) : Int) * (L : Int)) by rw [hmul2]; exact jF_ (by omega), sb, hnum, jF_ (by omega), sb,
       rp_ p L e hL hD h8 he sets fuel (c0 ++ [(i : Int)]) (fun s hs' => hs s (by simp [hs'])) (by omega) (by rw [List.length_append, List.length_singleton]; omega) hin2, sb, hSS, kN_ (by omega) (by unfold cmP; omega)]
    simp only [forI, h0]
    rw [ih (k + 1) _ (fun a ha => hx a (by simp [ha])) (Nat.lt_of_le_of_lt Nat.and_le_left ho), hstep, Nat.and_assoc]
  unfold an_
  rw [if_neg (by simp; omega), show (tabV p).p.Labels = (L : Int) from hL, eY_ (by omega), sb, show (((2 ^ L : Nat) : Int) - 1) = ((2 ^ L - 1 : Nat) : Int) by omega, D_ (by omega) (by omega), sb, show ix (S :: sets) 0 = some S from rfl, sb, hlab, sb, hloop _ 0 _ (fun a ha => ha) (by omega), sb]
  simp only
  congr 2
  rw [List.map_cons, hSS]
  have hall : ∀ z, z < 2 ^ L → (2 ^ L - 1) &&& z = z := fun z hz => by
   refine Nat.eq_of_testBit_eq fun b => ?_
   rw [Nat.testBit_and, Nat.testBit_two_pow_sub_one]
   cases hb : z.testBit b
   ·simp
   ·have := pa_ hz hb
    simp [this]
  rw [hall _ (dT_ _ L)]
  unfold cmP
  refine cJ_ L fun b _ => ?_
  constructor
  ·intro h c hcc
   obtain ⟨a, c', rfl, ha, hc'⟩ := (hp_ (by omega)).1 hcc
   have := h a ha c' hc'
   rw [List.append_assoc c0] at this
   exact this
  ·intro h a ha c hcc
   have := h (a :: c) ((hp_ (by omega)).2 ⟨a, c, rfl, ha, hcc⟩)
   rw [List.append_assoc c0 [a] c]
   exact this
theorem pA_ (fuel : Nat) (p : a_) (hL8 : 1 ≤ p.Labels ∧ p.Labels ≤ 8) (hD4 : 1 ≤ p.Degree ∧ p.Degree ≤ 4) (hf : 100 ≤ fuel) (sets : List Int) (hs : ∀ s ∈ sets, 0 ≤ s ∧ s.toNat < 2 ^ p.Labels.toNat) (hlen : (sets.length : Int) + 1 = p.Degree) : an_ fuel (tabV p) sets 0 = some (cmI p.Labels.toNat p.Nodes sets) := by
 obtain ⟨L, hL⟩ : ∃ L : Nat, p.Labels = (L : Int) := ⟨p.Labels.toNat, by omega⟩
 obtain ⟨e, hD⟩ : ∃ e : Nat, p.Degree = ((e + 1 : Nat) : Int) := ⟨p.Degree.toNat - 1, by omega⟩
 rw [hL, Int.toNat_natCast] at hs ⊢
 have := rp_ p L e hL hD (by omega) (by omega) sets fuel [] hs (by omega) (by simp; omega) (by simp)
 rw [show ((valN L ([] : List Int).reverse : Nat) : Int) = 0 from rfl] at this
 rw [this, pV_]
 rfl
open Classical in
theorem so_ (fuel : Nat) (p : a_) (hL8 : 1 ≤ p.Labels ∧ p.Labels ≤ 8) (hD4 : 1 ≤ p.Degree ∧ p.Degree ≤ 4) (hf : 100 ≤ fuel) (l : List Int) (hl : ∀ s ∈ l, 0 ≤ s ∧ s.toNat < 2 ^ p.Labels.toNat) (hlen : (l.length : Int) = p.Degree) : cD_ fuel (tabV p) l = some (decide (fullI p.Labels.toNat p.Nodes l)) := by
  have hstep : ∀ (j : Nat) x, l[j]? = some x → bm_ fuel (tabV p) l (j : Int) x () = if cmI p.Labels.toNat p.Nodes (l.eraseIdx j) != x then some (.ret false) else some (.go ()) := fun j x hx => by
    have hj := (List.getElem?_eq_some_iff.1 hx).1
    have c1 : cut l 0 (j : Int) = some (l.take j) := by
      unfold cut
      rw [if_pos (by omega)]; simp
    have c2 : cut l ((j + 1 : Nat) : Int) l.length = some (l.drop (j + 1)) := by
      unfold cut
      rw [if_pos (by omega)]; simp
    unfold bm_
    rw [c1, sb, kl_ _ (by rw [List.length_take]; omega), sb, D_ (by omega) (by omega), sb, show ((j : Int) + 1) = ((j + 1 : Nat) : Int) by omega, c2, sb]
    unfold cat
    rw [if_pos (by simp; omega), sb, ← List.eraseIdx_eq_take_drop_succ, pA_ fuel p hL8 hD4 hf (l.eraseIdx j) (fun s hs => hl s (List.mem_of_mem_eraseIdx hs)) (by rw [List.length_eraseIdx, if_pos hj]; omega), sb]
  have key := cY_ (body := bm_ fuel (tabV p) l) (fun k x => if cmI p.Labels.toNat p.Nodes (l.eraseIdx k) = x then none else some false) l (fun j x hx _ => by
    rw [hstep j x hx]
    by_cases e : cmI p.Labels.toNat p.Nodes (l.eraseIdx j) = x
    · simp [e, lpP]
    · simp [e, lpP])
  unfold cD_
  rw [key, sb]
  cases hc : firstP (fun k x => if cmI p.Labels.toNat p.Nodes (l.eraseIdx k) = x then none else some false) l 0 with
  | none =>
    have : fullI p.Labels.toNat p.Nodes l := fun i x hx => by
      have := cy_.1 hc i x hx
      rw [Nat.zero_add] at this
      split at this
      · assumption
      · cases this
    simp [outP, this]
  | some r =>
    obtain ⟨j, x, h1, h2⟩ := dc_ hc
    rw [Nat.zero_add] at h2
    split at h2
    · cases h2
    · rename_i hne
      cases h2
      have : ¬ fullI p.Labels.toNat p.Nodes l := fun hh => hne (hh j x h1)
      simp [outP, this]
theorem kf_ {ρ : Type} {f : Int → Int → List Int → Option (Lp (List Int) (List Int) ρ)} (hfx : ∀ k x s, f k x s = ((ck (x + 1)) >>= fun y => (push s y) >>= fun z => some (.go z))) : ∀ (c : List Int) (k : Int) (acc : List Int), (∀ y ∈ c, 0 ≤ y ∧ y ≤ 1000) → acc.length + c.length ≤ 1000000000 → forI f c k acc = some (.inl (acc ++ c.map (· + 1)))
 | [], k, acc, _, _ => by simp [forI]
 | y :: c, k, acc, hc, h => by
  rw [List.length_cons] at h
  have hy := hc y (by simp)
  have h0 : f k y acc = some (.go (acc ++ [y + 1])) := by
   rw [hfx, D_ (by omega) (by omega), sb]
   unfold push
   rw [if_pos (by omega), sb]
  simp only [forI, h0]
  rw [kf_ hfx c (k + 1) _ (fun z hz => hc z (by simp [hz])) (by rw [List.length_append, List.length_singleton]; omega), List.map_cons, List.append_assoc, List.singleton_append]
theorem le_ {α β γ : Type} (f : α → β) (g : β → List γ) : ∀ xs : List α, (xs.map f).flatMap g = xs.flatMap fun x => g (f x)
 | [] => rfl
 | x :: xs => by rw [List.map_cons, List.flatMap_cons, List.flatMap_cons, le_ f g xs]
open Classical in
noncomputable def stepS (L : Nat) (N : List (List Int)) (c : List Int) : List (List Int) := if cmI L N (c.map (· + 1)) ≠ 0 ∧ (∀ y ∈ c.map (· + 1), y ≤ cmI L N (c.map (· + 1))) ∧ fullI L N (c.map (· + 1) ++ [cmI L N (c.map (· + 1))]) then [c.map (· + 1) ++ [cmI L N (c.map (· + 1))]] else []
open Classical in
theorem qP_ (fuel : Nat) (hf : 1000000000 ≤ fuel) (p : a_) (hL8 : 1 ≤ p.Labels ∧ p.Labels ≤ 8) (hD4 : 1 ≤ p.Degree ∧ p.Degree ≤ 4) : gf_ fuel p = some (nodeV p) := by
  obtain ⟨L, hL⟩ : ∃ L : Nat, p.Labels = (L : Int) := ⟨p.Labels.toNat, by omega⟩
  obtain ⟨e, hD⟩ : ∃ e : Nat, p.Degree = ((e + 1 : Nat) : Int) := ⟨p.Degree.toNat - 1, by omega⟩
  have hLt : p.Labels.toNat = L := by omega
  have hDt : p.Degree.toNat - 1 = e := by omega
  have h256 := cF_ (L := L) (by omega)
  have h1 : 1 ≤ 2 ^ L := Nat.one_le_two_pow
  have hpw : ∀ k, k ≤ e → (2 ^ L - 1) ^ k ≤ 16777216 := fun k hk => by
    have q1 : (2 ^ L - 1) ^ k ≤ 256 ^ k := Nat.pow_le_pow_left (by omega) k
    have q2 : 256 ^ k ≤ 256 ^ 3 := Nat.pow_le_pow_right (by decide) (by omega)
    omega
  have hJ : fullS p = (msD (2 ^ L - 1) e).flatMap (stepS L p.Nodes) := by
    unfold fullS
    rw [hLt, hDt, le_]
    congr 1
    funext c
    unfold stepS
    by_cases hh : cmI L p.Nodes (c.map (· + 1)) ≠ 0 ∧ (∀ y ∈ c.map (· + 1), y ≤ cmI L p.Nodes (c.map (· + 1))) ∧ fullI L p.Nodes (c.map (· + 1) ++ [cmI L p.Nodes (c.map (· + 1))])
    · rw [if_pos hh, if_pos hh]
    · rw [if_neg hh, if_neg hh]
  have hSl := mj_ p hL8.2 hD4.2
  have hok := iq_ p ⟨by omega, hL8.2⟩ hD4.1
  unfold gf_ nodeV
  by_cases hc : p.Degree = 4 ∧ 6 < p.Labels
  · rw [if_pos (by simpa using hc.1), sb, if_pos (by simpa using hc.2), if_pos hc]
  · rw [if_neg hc]
    have hq : (if (p.Degree == 4) = true then some (decide (p.Labels > 6)) else some false) = some false := by
      by_cases h4 : p.Degree = 4
      · rw [if_pos (by simpa using h4)]
        have : ¬ p.Labels > 6 := fun h6 => hc ⟨h4, h6⟩
        simp [this]
      · rw [if_neg (by simpa using h4)]
    have hloop := ev_ (body := ea_ fuel (tabV p)) (stepS L p.Nodes) 1000000000 (msD (2 ^ L - 1) e) 0 [] (by rw [← hJ]; simp; omega) (fun c hcm j ac hac => by
      obtain ⟨m1, m2, m3⟩ := (dK_ _ _ _).1 hcm
      have hlin : ∀ s ∈ c.map (· + 1), 0 ≤ s ∧ s.toNat < 2 ^ L := fun s hs => by
        obtain ⟨y, hy, rfl⟩ := List.mem_map.1 hs
        have := m3 y hy
        omega
      have hsor : (c.map (· + 1)).Pairwise (· ≤ ·) := by
        rw [List.pairwise_map]
        exact m2.imp fun {a b} h => by omega
      have hcmp := pA_ fuel p hL8 hD4 (by omega) (c.map (· + 1)) (by rw [hLt]; exact hlin) (by rw [List.length_map, m1, hD]; omega)
      rw [hLt] at hcmp
      have hcin := oo_ L p.Nodes (c.map (· + 1))
      have hcin2 : (cmI L p.Nodes (c.map (· + 1))).toNat < 2 ^ L := by
        have h2 : ((2 ^ L : Nat) : Int) = (2 : Int) ^ L := by simp
        omega
      have hif := so_ fuel p hL8 hD4 (by omega) (c.map (· + 1) ++ [cmI L p.Nodes (c.map (· + 1))]) (by
        rw [hLt]
        intro s hs
        rcases List.mem_append.1 hs with hs | hs
        · exact hlin s hs
        · rw [List.mem_singleton.1 hs]; exact ⟨hcin.1, hcin2⟩) (by rw [List.length_append, List.length_map, m1, hD]; rfl)
      rw [hLt] at hif
      have hpl := kf_ (f := eT_) (fun k x s => rfl) c 0 [] (fun y hy => by have := m3 y hy; omega) (by simp; omega)
      rw [List.nil_append] at hpl
      have hml : (c.map (· + 1)).length = e := by rw [List.length_map, m1]
      unfold stepS at hac ⊢
      unfold ea_
      rw [hpl, sb]
      simp only
      rw [hcmp, sb]
      generalize cmI L p.Nodes (c.map (· + 1)) = z at hif hac ⊢
      generalize c.map (· + 1) = l at hif hac hml hsor ⊢
      by_cases hz : z = 0
      · rw [if_pos (by simpa using hz), sb, if_pos rfl, if_neg (fun hh => hh.1 hz), List.append_nil]
      · rw [if_neg (by simpa using hz)]
        have hlast : (if decide ((l.length : Int) > 0) = true then (ck ((l.length : Int) - 1)) >>= fun x193 => (ix l x193) >>= fun x194 => some (decide (z < x194)) else some false) = some (decide (¬ ∀ y ∈ l, y ≤ z)) := by
          cases e with
          | zero =>
            have : l = [] := List.eq_nil_of_length_eq_zero hml
            subst this
            simp
          | succ e =>
            rw [if_pos (by simp; omega), D_ (by omega) (by omega), sb, show ((l.length : Int) - 1) = (e : Int) by omega, mV_ hml, sb]
            congr 1
            have hge := pD_ hsor
            have hmem : l.getLastD 0 ∈ l := by
              rcases List.eq_nil_or_concat l with rfl | ⟨u, a, rfl⟩
              · simp at hml
              · rw [List.concat_eq_append, List.getLastD_concat]; simp
            by_cases hlt : z < l.getLastD 0
            · have : ¬ ∀ y ∈ l, y ≤ z := fun hh => by have := hh _ hmem; omega
              rw [decide_eq_true hlt, decide_eq_true this]
            · have : ∀ y ∈ l, y ≤ z := fun y hy => by have := hge y hy; omega
              rw [decide_eq_false hlt, decide_eq_false (fun hh => hh this)]
        rw [hlast, sb]
        by_cases hle : ∀ y ∈ l, y ≤ z
        · rw [if_neg (by simpa using hle)]
          unfold push
          rw [if_pos (by omega), sb, hif, sb]
          by_cases hfl : fullI L p.Nodes (l ++ [z])
          · rw [if_pos ⟨hz, hle, hfl⟩, List.length_singleton] at hac
            rw [if_pos (decide_eq_true hfl), if_pos (by omega), sb, if_pos ⟨hz, hle, hfl⟩]
          · rw [if_neg (by simpa using hfl), if_neg (fun hh => hfl hh.2.2), List.append_nil]
        · rw [if_pos (decide_eq_true hle), if_neg (fun hh => hle hh.2.1), List.append_nil])
    rw [← hJ, List.nil_append] at hloop
    rw [hq, sb, if_neg (by simp), oG_ fuel (by omega) p hL8 ⟨by omega, hD4.2⟩, sb, hL, eY_ (by omega), sb, show (((2 ^ L : Nat) : Int) - 1) = ((2 ^ L - 1 : Nat) : Int) by omega, D_ (by omega) (by omega), sb, hD, show (((e + 1 : Nat) : Int) - 1) = (e : Int) by omega, D_ (by omega) (by omega), sb,
      iN_ (2 ^ L - 1) e fuel (by omega) (by omega) (fun k hk => by have := hpw k hk; omega) (by omega), sb, hloop, sb]
    simp only
    rw [nZ_ (d := p.Degree.toNat) (by omega) fuel hf p (fullS p) false ⟨by omega, hD4.2⟩ hok (by omega), sb]
theorem fO_ (fuel : Nat) (hf : 1000000000 ≤ fuel) (p : a_) (h : probB p = true) (hJ : p.Nodes.length ≤ 100000000) (hE : p.Edges.length ≤ 100000000) : bT_ fuel p = some (roundV p) := by
 obtain ⟨g1, g2, g3, g4, -, -⟩ := bc_ h
 have hes : eN_ fuel p = some (edgeV p) := by
  unfold eN_
  rw [ih_ fuel (by omega) p (by omega) (by omega), sb, h, if_neg (by simp), qE_ fuel hf p ⟨by omega, g2⟩ ⟨by omega, g4⟩, sb]
 unfold bT_ roundV
 rw [hes, sb]
 cases h1 : (edgeV p).2.2
 ·rw [if_pos (by rfl), if_neg (by simp)]
 ·obtain ⟨a1, a2, a3, a4⟩ := hI_ p h h1
  obtain ⟨b1, b2, b3, b4, -, -⟩ := bc_ a1
  rw [if_neg (by simp), if_pos rfl, qP_ fuel hf _ ⟨b1, b2⟩ ⟨b3, b4⟩, sb]
  cases h2 : (nodeV (edgeV p).1).2.2
  ·rw [if_pos (by rfl), if_neg (by simp)]
  ·rw [if_neg (by simp), if_pos rfl]
end

section
set_option maxRecDepth 100000
set_option maxHeartbeats 2000000
open Go.RowKit
theorem iJ_ : Inf Tryz.prog 3 (.int .i64 0) 1 8 := by unfold Inf; kernel_rfl

theorem fl_ : Inf Tryz.prog 28 (.agg #[(.int .i64 0), (.int .i64 0), (.slice none 0 0), (.slice none 0 0)]) 4 64 := by unfold Inf; kernel_rfl

theorem id_ : Inf Tryz.prog 41 (.slice none 0 0) 1 24 := by unfold Inf; kernel_rfl

theorem fs_ : (Tryz.prog.info? 28).map (·.size) = some 4 := by kernel_rfl

def bR_ (d : Int) : Int → Int → (List Int) → Option (Lp (List Int) (List Int) (List (List Int))) := fun (f : Int) (a : Int) (s : List Int) =>
  (ck (a + d)) >>= fun b =>
  (push s b) >>= fun c =>
  some (.go c)
def ca_ (f : Int) : Int → (List Int) → (List (List Int)) → Option (Lp (List (List Int)) (List (List Int)) (List (List Int))) := fun (g : Int) (a : List Int) (s : List (List Int)) =>
  (forI (bR_ f) a 0 []) >>= fun b =>
  match b with
  | .inl c =>
    (push s c) >>= fun d =>
    some (.go d)
  | .inr _ => none
def eV_ (b : List (List Int)) (c : Int) : Option (List (List Int)) :=
  (forI (ca_ c) b 0 []) >>= fun a =>
  match a with
  | .inl d =>
    some d
  | .inr _ => none

def mb_ (oo : Tg) (t : Nat) (w : World) (r : Yk) : Ending → World → Prop := fun e w' => ∃ (a : Value) (c : List Hv) (o' : Tg), e = .returned (a) ∧ Ow w.heap.size 41 t o' w' a c ∧ Rws w.heap.size 3 (t + 1) o' w' c r ∧ Keeps w w' ∧ ∀ b, b < w.heap.size → o' b = oo b
theorem lx_ (w : World) (oo : Tg) (t : Nat) (ht : 2 ≤ t) (q : Value) (i : Yk) (a5 : RdL zt w q i) (j : Int) (r : Yk) (hF : eV_ i j = some r) :
    Calls Tryz.prog 74 #[q, .int .i64 j] w (mb_ oo t w r) := by
 unfold eV_ at hF; have hB : Bs oo (col oo) w w := Bs.start _ _; refine h_ (n := 36) (vs := [q, (ZI j)]) Tryz.func74 rfl rfl ?_; generalize col oo = o at *; refine Zq (Za rfl (Ze [(0, q), (1, ZI j)] (Zn (Za rfl (Ze [(0, q), (1, ZI j), (5, (.slice none 0 0))] (nx (b_ (Zq (Zm rfl (Zv (H_ rfl a5 Tryz.underlying22) (Zm rfl (Ze [(1, ZI j), (5, (.slice none 0 0)), (11, q), (12, (ZI (i.length : Int))), (13, ZI 0)] ?_)))))))))))); refine nx ?_; have d2 : Ow w.heap.size 41 11 o w (.slice none 0 0) ([] : List Hv) := Ow.nil _ _ _ _ _; have d3 : Rws w.heap.size 3 12 o w [] ([] : Yk) := Rws.nil _ _ _ _ _; obtain ⟨R, S, hF⟩ := bind_some hF; refine z_ (fun a D => ∃ (E : Yk) (k : Value) (A : List Hv) (B : Tg), R = .inl E ∧ Fr a 36 [(5, k)] ∧ Bs oo B w D ∧ Ow w.heap.size 41 11 B D k A ∧ Rws w.heap.size 3 12 B D A E) (fun _ _ => False) ?_ ?_ ?_
 ·refine d_ ?_; refine y_ (fun (K : Nat) a D => ∃ (b : Int) (E : Yk) (k : Value) (A : List Hv) (B : Tg), forI (ca_ j) (i.drop b.toNat) b E = some R ∧ (i.drop b.toNat).length = K ∧ 0 ≤ b ∧ Fr a 36 [(1, ZI j), (5, k), (11, q), (12, (ZI (i.length : Int))), (13, ZI b)] ∧ Bs oo B w D ∧ Ow w.heap.size 41 11 B D k A ∧ Rws w.heap.size 3 12 B D A E) _ (fun a ha => ⟨0, [], (.slice none 0 0), [], o, S, rfl, Int.le_refl 0, ha.sub (r := [(1, ZI j), (5, (.slice none 0 0)), (11, q), (12, (ZI (i.length : Int))), (13, ZI 0)]) ⟨rfl, rfl, rfl, rfl, rfl, trivial⟩, hB, d2, d3⟩) ?_; rintro K15 a D ⟨b, E, k, A, B, T, a6, a7, ha, hB, y, v⟩; by_cases F : b < (i.length : Int)
  ·obtain ⟨f, d4, U, z, a8⟩ := W_ a7 F T; have hle := a5.len_le; dsimp only [ca_] at z; refine N_ ha ?_; refine Zq (Zv (t_ rfl rfl) (Ze [(1, ZI j), (5, k), (11, q), (12, (ZI (i.length : Int))), (13, ZI b), (14, (.bool (decide (b < (i.length : Int)))))] (nx (b_ ?_)))); refine Q_ (Zb (decide_eq_true F)) ?_; refine f_ (nx (b_ (d_ (Zq (Zo ?_))))); refine wf_atZ a5 U hB rfl rfl Tryz.underlying22 Tryz.sizeOf41 ?_; intro d5 d6 d7 a9 b0; obtain ⟨s, rfl, M⟩ := b0; refine Zv (e_ rfl Tryz.isAgg41 (i_ a9)) (Za rfl (Ze [(1, ZI j), (5, k), (7, s), (11, q), (12, (ZI (i.length : Int))), (13, ZI b)] (Zn (Za rfl (Ze [(1, ZI j), (5, k), (7, s), (8, (.slice none 0 0)), (11, q), (12, (ZI (i.length : Int))), (13, ZI b)] (nx (b_ (Zq (Zm rfl (Zv (H_ rfl M Tryz.underlying41) (Zm rfl (Ze [(1, ZI j), (5, k), (8, (.slice none 0 0)), (11, q), (12, (ZI (i.length : Int))), (13, ZI b), (17, s), (18, (ZI (f.length : Int))), (19, ZI 0)] ?_)))))))))))); refine nx ?_; have b1 : Ow w.heap.size 3 13 B D (.slice none 0 0) ([] : Yl) := Ow.nil _ _ _ _ _; obtain ⟨V, W, z⟩ := bind_some z; refine z_ (fun a u => ∃ (x : Yl) (c : Value) (g : Tg), V = .inl x ∧ Fr a 36 [(1, ZI j), (5, k), (8, c), (11, q), (12, (ZI (i.length : Int))), (13, ZI b)] ∧ Bs oo g w u ∧ Ow w.heap.size 41 11 g u k A ∧ Rws w.heap.size 3 12 g u A E ∧ Ow w.heap.size 3 13 g u c x) (fun _ _ => False) ?_ ?_ ?_
   ·refine d_ ?_; refine y_ (fun (K : Nat) a u => ∃ (d : Int) (x : Yl) (c : Value) (g : Tg), forI (bR_ j) (f.drop d.toNat) d x = some V ∧ (f.drop d.toNat).length = K ∧ 0 ≤ d ∧ Fr a 36 [(1, ZI j), (5, k), (8, c), (11, q), (12, (ZI (i.length : Int))), (13, ZI b), (17, s), (18, (ZI (f.length : Int))), (19, ZI d)] ∧ Bs oo g w u ∧ Ow w.heap.size 41 11 g u k A ∧ Rws w.heap.size 3 12 g u A E ∧ Ow w.heap.size 3 13 g u c x) _ (fun a ha => ⟨0, [], (.slice none 0 0), B, W, rfl, Int.le_refl 0, ha.sub (r := [(1, ZI j), (5, k), (8, (.slice none 0 0)), (11, q), (12, (ZI (i.length : Int))), (13, ZI b), (17, s), (18, (ZI (f.length : Int))), (19, ZI 0)]) ⟨rfl, rfl, rfl, rfl, rfl, rfl, rfl, rfl, rfl, trivial⟩, hB, y, v, b1⟩) ?_; rintro K39 a u ⟨d, x, c, g, X, b2, b3, ha, hB, y, v, m⟩; by_cases G : d < (f.length : Int)
    ·obtain ⟨b4, d8, Y, C, b5⟩ := W_ b3 G X; have hle := M.len_le; dsimp only [bR_] at C; refine N_ ha ?_; refine Zq (Zv (t_ rfl rfl) (Ze [(1, ZI j), (5, k), (8, c), (11, q), (12, (ZI (i.length : Int))), (13, ZI b), (17, s), (18, (ZI (f.length : Int))), (19, ZI d), (20, (.bool (decide (d < (f.length : Int)))))] (nx (b_ ?_)))); refine Q_ (Zb (decide_eq_true G)) ?_; refine f_ (nx (b_ (d_ (Zq (Zo ?_))))); refine wf_atZ M Y hB rfl rfl Tryz.underlying41 Tryz.sizeOf3 ?_; intro d9 e0 e1 b6 b7; cases b7
     refine Zv (e_ rfl Tryz.isAgg3 (i_ b6)) (Za rfl (Ze [(1, ZI j), (5, k), (8, c), (10, ZI b4), (11, q), (12, (ZI (i.length : Int))), (13, ZI b), (17, s), (18, (ZI (f.length : Int))), (19, ZI d)] (nx (c_ (Zm rfl (Zm rfl (Zm rfl ?_))))))); obtain ⟨N, Z, C⟩ := bind_some C; refine Zv (C_ rfl rfl Z) (Zo ?_); refine aB_ (o := g) (cs := [(ZI N)]) (xs := ([N] : Yl)) (vs := [(0, ZI N)]) ⟨_, _, rfl, rfl, rfl⟩ rfl ⟨rfl, rfl, trivial⟩ Tryz.underlying41 Tryz.sizeOf3 Tryz.zeroValue3 (by decide) (fill1 rfl) (by simp) ?_; intro e2 e3 e4 b8 H e5; replace y := y.stp H; replace v := v.stp H; replace m := m.stp H; replace hB := hB.stp H; obtain ⟨b9, a0, C⟩ := bind_some C; refine Zo ?_; refine bg_ m b8 (aq_ a0) (by decide) hB.keeps.size rfl rfl Tryz.underlying41 iJ_ rfl (by decide) ?_; intro c0 e6 I c1 O; replace y := y.stp O; replace v := v.stp O; replace hB := hB.stp O; refine Za rfl (Ze [(1, ZI j), (5, k), (8, I), (11, q), (12, (ZI (i.length : Int))), (13, ZI b), (17, s), (18, (ZI (f.length : Int))), (19, ZI d)] (x_ (nx (c_ (Zv (C_ rfl rfl (D_ (by omega) (by omega))) (Zm rfl (Ze [(1, ZI j), (5, k), (8, I), (11, q), (12, (ZI (i.length : Int))), (13, ZI b), (17, s), (18, (ZI (f.length : Int))), (19, (ZI (d + 1)))] (w_ ?_)))))))); have c2 := Zj C; subst c2; refine Zk [(1, ZI j), (5, k), (8, I), (11, q), (12, (ZI (i.length : Int))), (13, ZI b), (17, s), (18, (ZI (f.length : Int))), (19, (ZI (d + 1)))] ?_; intro a ha; exact ⟨_, (by rw [← b2]; simp only [List.length_drop]; omega), d + 1, b9, I, c0, b5, rfl, (by omega), ha, hB, y, v, c1⟩
    ·have c3 := Y_ G X; refine N_ ha ?_; refine Zq (Zv (t_ rfl rfl) (Ze [(1, ZI j), (5, k), (8, c), (11, q), (12, (ZI (i.length : Int))), (13, ZI b), (17, s), (18, (ZI (f.length : Int))), (19, ZI d), (20, (.bool (decide (d < (f.length : Int)))))] (nx (b_ ?_)))); refine J_ (Zb (decide_eq_false G)) ?_; refine v_ ?_; refine n_ (n_ (S_ ?_)); refine q_ ?_; refine Zk [(1, ZI j), (5, k), (8, c), (11, q), (12, (ZI (i.length : Int))), (13, ZI b)] ?_; intro a ha; exact ⟨x, c, g, c3, ha, hB, y, v, m⟩
   ·rintro a u ⟨x, c, g, rfl, ha, hB, y, v, m⟩; dsimp only at z; refine ap_k ha ?_; refine nx (c_ (Zm rfl (Zm rfl (Zo ?_)))); refine aB_ (o := g) (cs := [c]) (xs := ([⟨c⟩] : List Hv)) (vs := [(0, c)]) ⟨_, _, rfl, ib_ m, rfl⟩ rfl ⟨rfl, rfl, trivial⟩ Tryz.underlying22 Tryz.sizeOf41 Tryz.zeroValue41 (by decide) (fill1 m.cells1) (by simp) ?_; intro e7 e8 e9 c4 J f0; replace y := y.stp J; replace v := v.stp J; replace m := m.stp J; replace hB := hB.stp J; obtain ⟨c5, a1, z⟩ := bind_some z; obtain ⟨c6, c7⟩ := v.pushV a1 c; refine Zo ?_; refine bg_ y c4 (aq_ c6) (by decide) hB.keeps.size rfl rfl Tryz.underlying22 id_ rfl (by decide) ?_; intro a2 f1 L P Q; replace v := v.stp Q; replace m := m.stp Q; replace hB := hB.stp Q; have a3 := v.push m (by decide) (by decide); rw [← c7] at a3; clear v m; have a4 := eL_ 13 12 a2; replace P := P.rc a4 (by decide) (by decide); replace hB := hB.rc a4 (by decide); generalize mrg 13 12 a2 = c8 at *; refine Za rfl (Ze [(1, ZI j), (5, L), (11, q), (12, (ZI (i.length : Int))), (13, ZI b)] (x_ (nx (c_ (Zv (C_ rfl rfl (D_ (by omega) (by omega))) (Zm rfl (Ze [(1, ZI j), (5, L), (11, q), (12, (ZI (i.length : Int))), (13, (ZI (b + 1)))] (w_ ?_)))))))); have c9 := Zj z; subst c9; refine Zk [(1, ZI j), (5, L), (11, q), (12, (ZI (i.length : Int))), (13, (ZI (b + 1)))] ?_; intro a ha; exact ⟨_, (by rw [← a6]; simp only [List.length_drop]; omega), b + 1, c5, L, (A ++ [⟨c⟩]), c8, a8, rfl, (by omega), ha, hB, P, a3⟩
   ·exact fun _ _ h => h.elim
  ·have d0 := Y_ F T; refine N_ ha ?_; refine Zq (Zv (t_ rfl rfl) (Ze [(1, ZI j), (5, k), (11, q), (12, (ZI (i.length : Int))), (13, ZI b), (14, (.bool (decide (b < (i.length : Int)))))] (nx (b_ ?_)))); refine J_ (Zb (decide_eq_false F)) ?_; refine v_ ?_; refine n_ (n_ (S_ ?_)); refine q_ ?_; refine Zk [(5, k)] ?_; intro a ha; exact ⟨E, k, A, B, d0, ha, hB, y, v⟩
 ·rintro a D ⟨E, k, A, B, rfl, ha, hB, y, v⟩; dsimp only at hF; refine ap_k ha ?_; refine Zn (Zm rfl (Za rfl (Ze [(4, k)] (nx (k_ ?_))))); have d1 := Zj hF; subst d1; refine Zr Tryz.results74 [k] ?_; exact ⟨_, A, rt2 oo B w.heap.size 11 12 t, rfl, y.rt2 hB (by decide) (by decide) t, v.rt2 hB (by decide) (by decide) (by decide) t, hB.keeps, gS_ _ _ _ _ _ _⟩
 ·exact fun _ _ h => h.elim
def gB_ (a : List (List Int)) : Option (List (List Int)) :=
  (eV_ a 0) >>= fun b =>
  some b

def qT_ (oo : Tg) (t : Nat) (w : World) (r : Yk) : Ending → World → Prop := fun e w' => ∃ (a : Value) (c : List Hv) (o' : Tg), e = .returned (a) ∧ Ow w.heap.size 41 t o' w' a c ∧ Rws w.heap.size 3 (t + 1) o' w' c r ∧ Keeps w w' ∧ ∀ b, b < w.heap.size → o' b = oo b
theorem oh_ (w : World) (oo : Tg) (t : Nat) (ht : 2 ≤ t) (a : Value) (b : Yk) (k : RdL zt w a b) (r : Yk) (hF : gB_ b = some r) :
    Calls Tryz.prog 48 #[a] w (qT_ oo t w r) := by
 unfold gB_ at hF; have hB : Bs oo (col oo) w w := Bs.start _ _; refine h_ (n := 5) (vs := [a]) Tryz.func48 rfl rfl ?_; generalize col oo = o at *; refine Zq (Za rfl (Ze [(0, a)] (Zn (Zm rfl ?_)))); obtain ⟨m, c, hF⟩ := bind_some hF; refine Zo ?_; refine p_ (lx_ w o 11 (by decide) _ b (k.keep hB.keeps) 0 m c) Tryz.call74 ⟨rfl, rfl, trivial⟩ ?_; rintro q y ⟨j, s, d, rfl, f, g, u, v⟩; have x := u.stp' 11 v; replace f := f.mono hB.keeps.size; replace g := g.mono hB.keeps.size; refine ⟨_, rfl, ?_⟩; replace hB := hB.stp x; refine Za rfl (Ze [(2, j)] (nx (k_ ?_))); have i := Zj hF; subst i; refine Zr Tryz.results48 [j] ?_; exact ⟨_, s, rt2 oo d w.heap.size 11 12 t, rfl, f.rt2 hB (by decide) (by decide) t, g.rt2 hB (by decide) (by decide) (by decide) t, hB.keeps, gS_ _ _ _ _ _ _⟩
def ab_ (fuel : Nat) (f : Int) : (List a_) → Option (Lp (List a_) (List a_) ((List a_) × Bool)) := fun (s : List a_) =>
  if decide ((s.length : Int) ≤ f) then
    (ck ((s.length : Int) - 1)) >>= fun b =>
    (ix s b) >>= fun c =>
    (bT_ fuel c) >>= fun a =>
    if !a.2.2.2 then
      some (.ret ([], false))
    else
      (push s a.1) >>= fun d =>
      some (.go d)
  else
    some (.out s)
def aU_ (fuel : Nat) (a : a_) (k : Int) : Option ((List a_) × Bool) :=
  (fi_ fuel a) >>= fun d =>
  (
    if !d then
      some true
    else
      (fK_ k 0 5) >>= fun f =>
      some (!f)) >>= fun g =>
  if g then
    some ([], false)
  else
    (gB_ a.Nodes) >>= fun i =>
    (gB_ a.Edges) >>= fun j =>
    (loopF (ab_ fuel k) fuel ([(⟨a.Labels, a.Degree, i, j⟩ : a_)] : List a_)) >>= fun b =>
    match b with
    | .inl c =>
      some (c, true)
    | .inr r' => some r'

def fk_ (oo : Tg) (t : Nat) (w : World) (r : (List a_) × Bool) : Ending → World → Prop := fun e w' => ∃ (a : Value) (o' : Tg), e = .returned (.tuple #[a, .bool r.2]) ∧ Ow w.heap.size 28 t o' w' a r.1 ∧ Keeps w w' ∧ ∀ b, b < w.heap.size → o' b = oo b
theorem hB_ (fuel : Nat) (w : World) (oo : Tg) (t : Nat) (ht : 2 ≤ t) (j8 : List Value) (s : a_) (n1 : Rp.rd zt w j8 s) (A : Int) (r : (List a_) × Bool) (hF : aU_ fuel s A = some r) :
    Calls Tryz.prog 14 #[.agg j8.toArray, .int .i64 A] w (fk_ oo t w r) := by
 unfold aU_ at hF; obtain ⟨h9, i0, rfl, c6, j9⟩ := n1; have hB : Bs oo (col oo) w w := Bs.start _ _; refine h_ (n := 54) (vs := [(.agg #[(ZI s.Labels), (ZI s.Degree), h9, i0]), (ZI A)]) Tryz.func14 rfl rfl ?_; generalize col oo = o at *; refine Zq (Zo ?_); refine bb_ (o := o) w.heap.size 11 hB.keeps.size (cs := [(ZI s.Labels), (ZI s.Degree), h9, i0]) rfl rfl ?_; intro c7 n2 S u n3; replace hB := hB.stp n3; refine Za rfl (Za rfl (Ze [(1, ZI A), (2, ZP S)] (nx (b_ (Zq (Zv (U_ rfl Tryz.isAgg28 Tryz.sizeOf28 rfl u.cells) ?_)))))); obtain ⟨c8, c9, hF⟩ := bind_some hF; refine Zo ?_; refine p_ (lP_ fuel n2 _ s (⟨_, _, rfl, (c6.keep hB.keeps), (j9.keep hB.keeps)⟩) c8 c9) Tryz.call47 ⟨rfl, trivial⟩ ?_; rintro n4 b0 ⟨rfl, i1⟩; have d0 := i1.stp 999 c7; refine ⟨_, rfl, ?_⟩; replace u := u.stp d0; replace hB := hB.stp d0; refine Zv (bC_ rfl) (Zm rfl ?_); obtain ⟨d1, B, hF⟩ := bind_some hF; refine aK_ 4 (fun i2 d2 => Fr i2 54 [(1, ZI A), (2, ZP S), (18, (.bool d1))] ∧ Keeps b0 d2) ?_ ?_; all_goals simp only [List.take_succ_cons, List.take_zero, List.drop_succ_cons, List.drop_zero]
 ·have kp : Keeps b0 b0 := Keeps.refl _; rcases Bool.eq_false_or_eq_true (!c8) with x | x
  ·rw [if_pos x] at B; refine s_ rfl rfl (by rw [x]; rfl) (by decide) ?_; refine s_ rfl rfl (by rw [x]; rfl) (by decide) ?_; refine s_ rfl rfl (by rw [x]; rfl) (by decide) ?_; refine Zv (P_ (Zb x) rfl) ?_; have G := Zj B; refine Ze [(1, ZI A), (2, ZP S), (18, (.bool true))] ?_; subst G; refine q_ (fun a ha => ⟨ha, kp⟩)
  ·rw [if_neg (by rw [x]; decide)] at B; refine o_ (j_ rfl) (by decide) ⟨_, rfl, (Zb x)⟩ ?_; obtain ⟨d3, d4, B⟩ := bind_some B; refine cj_ (by decide) ⟨_, rfl, (Zb x)⟩ ?_; refine p_ (iO_ b0 A 0 5 d3 d4) Tryz.call40 ⟨rfl, rfl, rfl, trivial⟩ ?_; rintro n5 n6 ⟨rfl, d5⟩; have n7 := d5.stp 999 c7; refine ⟨_, rfl, ?_⟩; replace kp := Keeps.trans kp d5; refine o_ (bC_ rfl) (by decide) ⟨_, rfl, (Zb x)⟩ (Zv (K_ (Zb x) rfl) ?_); have G := Zj B; refine Ze [(1, ZI A), (2, ZP S), (18, (.bool (!d3)))] ?_; subst G; refine q_ (fun a ha => ⟨ha, kp⟩)
 rintro n8 d2 ⟨ha, i3⟩; have d6 := i3.stp 999 c7; replace u := u.stp d6; replace hB := hB.stp d6; refine bi_ ha ?_; refine Ze [(1, ZI A), (2, ZP S), (18, (.bool d1))] (nx ?_); refine m_ rfl (fun b7 => ?_) (fun b7 => ?_)
 ·rw [if_pos b7] at hF; refine Zq (Za rfl (Za rfl (Ze [(4, (.slice none 0 0)), (5, (.bool false))] (nx (k_ (A_ ?_)))))); have i4 := Zj hF; subst i4; refine Zr Tryz.results14 [(.slice none 0 0), (.bool false)] ?_; exact ⟨_, rt oo c7 w.heap.size 9 t, rfl, (Ow.nil _ _ _ _ _), hB.keeps, az_ _ _ _ _ _⟩
 ·rw [if_neg (by rw [b7]; decide)] at hF; refine f_ (nx (b_ ?_)); obtain ⟨T, d7, hF⟩ := bind_some hF; obtain ⟨U, d8, hF⟩ := bind_some hF; refine ai_ (o := c7) [(1, ZI A), (2, ZP S)] [1, 2] [19, 20, 21, 22, 23, 24, 25, 26, 27, 28] [[], [0], [], [2], [], [4], [5], [], [7], [8]] [none, none, none, none, none, none, none, none, none, none] [999, 999, 999, 999, 999, 999, 999, 999, 999, 999] [0, 0, 0, 0, 0, 0, 0, 0, 0, 0] [999] [fun v _ _ => v = (.pointer (some ⟨S, 0 + 0, none⟩)), fun v _ _ => v = (ZI s.Labels), fun v _ _ => v = (.pointer (some ⟨S, 0 + 1, none⟩)), fun v _ _ => v = (ZI s.Degree), fun v _ _ => v = (.pointer (some ⟨S, 0 + 2, none⟩)), fun v _ _ => v = h9, fun v o d9 => ∃ g : List Hv, Ow w.heap.size 41 2028 o d9 v g ∧ Rws w.heap.size 3 2029 o d9 g T, fun v _ _ => v = (.pointer (some ⟨S, 0 + 3, none⟩)), fun v _ _ => v = i0, fun v o d9 => ∃ g : List Hv, Ow w.heap.size 41 2032 o d9 v g ∧ Rws w.heap.size 3 2033 o d9 g U] (fun k0 k1 => Bs oo k0 w k1 ∧ Bx w.heap.size 11 k0 k1 S 28 [(ZI s.Labels), (ZI s.Degree), h9, i0]) G_ (by kernel_rfl) rfl ⟨rfl, rfl, trivial⟩ ⟨hB, u⟩ ?_ ⟨u_ _, u_ _, u_ _, u_ _, u_ _, u_ _, fun _ _ _ _ _ _ b1 hb ⟨g, h, c6⟩ hs => ⟨g, h.stp hs b1.1 (Nat.ne_of_gt (Nat.lt_of_le_of_lt b1.2 (by decide))), c6.stp hs b1.1 (Nat.ne_of_gt (Nat.lt_of_le_of_lt b1.2 (by decide)))⟩, u_ _, u_ _, fun _ _ _ _ _ _ b1 hb ⟨g, h, c6⟩ hs => ⟨g, h.stp hs b1.1 (Nat.ne_of_gt (Nat.lt_of_le_of_lt b1.2 (by decide))), c6.stp hs b1.1 (Nat.ne_of_gt (Nat.lt_of_le_of_lt b1.2 (by decide)))⟩, trivial⟩ ?_ ?_
  ·rintro n9 r4 r5 r6 r7 b8 ⟨hB, u⟩ e0; have b8 : n9 = 999 := by simpa using b8
   subst b8; all_goals exact ⟨hB.stp e0 (by decide), u.stp e0 (by decide)⟩
  ·refine ⟨?_, ?_, ?_, ?_, ?_, ?_, ?_, ?_, ?_, ?_, trivial⟩
   ·rintro o0 o1 o2 ha ⟨hB, u⟩ -; refine Zs ha ?_; refine g_ (r_ rfl Tryz.underlying28 rfl Tryz.sizeOf3) ?_; exact Zx rfl
   ·rintro o3 o4 o5 ha ⟨hB, u⟩ ⟨i5, -⟩; have ha := Fr.cons (d := 19) ha i5; refine Zs ha ?_; refine g_ (e_ rfl Tryz.isAgg3 (u.cell rfl)) ?_; exact Zx rfl
   ·rintro o6 o7 o8 ha ⟨hB, u⟩ -; refine Zs ha ?_; refine g_ (r_ rfl Tryz.underlying28 rfl Tryz.sizeOf3) ?_; exact Zx rfl
   ·rintro o9 p0 p1 ha ⟨hB, u⟩ ⟨i6, -⟩; have ha := Fr.cons (d := 21) ha i6; refine Zs ha ?_; refine g_ (e_ rfl Tryz.isAgg3 (u.cell rfl)) ?_; exact Zx rfl
   ·rintro p2 p3 p4 ha ⟨hB, u⟩ -; refine Zs ha ?_; refine g_ (r_ rfl Tryz.underlying28 rfl Tryz.sizeOf22) ?_; exact Zx rfl
   ·rintro p5 p6 p7 ha ⟨hB, u⟩ ⟨i7, -⟩; have ha := Fr.cons (d := 23) ha i7; refine Zs ha ?_; refine g_ (e_ rfl Tryz.isAgg22 (u.cell rfl)) ?_; exact Zx rfl
   ·rintro i8 i9 p8 ha ⟨hB, u⟩ ⟨j0, -⟩; have ha := Fr.cons (d := 24) ha j0; refine Zs ha ?_; refine p_ (oh_ i9 i8 2028 (by decide) _ s.Nodes (c6.keep hB.keeps) T d7) Tryz.call48 ⟨rfl, trivial⟩ ?_; rintro p9 q0 ⟨q1, q2, q3, rfl, b9, c0, j1, j2⟩; have j3 := j1.stp' 999 j2; replace b9 := b9.mono hB.keeps.size; replace c0 := c0.mono hB.keeps.size; refine ⟨_, rfl, ?_⟩; exact ⟨_, j3, ⟨_, b9, c0⟩⟩
   ·rintro q4 q5 q6 ha ⟨hB, u⟩ -; refine Zs ha ?_; refine g_ (r_ rfl Tryz.underlying28 rfl Tryz.sizeOf22) ?_; exact Zx rfl
   ·rintro q7 q8 q9 ha ⟨hB, u⟩ ⟨j4, -⟩; have ha := Fr.cons (d := 26) ha j4; refine Zs ha ?_; refine g_ (e_ rfl Tryz.isAgg22 (u.cell rfl)) ?_; exact Zx rfl
   ·rintro j5 j6 r0 ha ⟨hB, u⟩ ⟨j7, -⟩; have ha := Fr.cons (d := 27) ha j7; refine Zs ha ?_; refine p_ (oh_ j6 j5 2032 (by decide) _ s.Edges (j9.keep hB.keeps) U d8) Tryz.call48 ⟨rfl, trivial⟩ ?_; rintro k2 r1 ⟨k3, k4, k5, rfl, V, W, e1, e2⟩; have e3 := e1.stp' 999 e2; replace V := V.mono hB.keeps.size; replace W := W.mono hB.keeps.size; refine ⟨_, rfl, ?_⟩; exact ⟨_, e3, ⟨_, V, W⟩⟩
  rintro y H I ha ⟨hB, u⟩ ⟨-, e4, -, e5, -, -, J, -, -, L, -⟩; have ha := Fr.cons (d := 20) ha e4; have ha := Fr.cons (d := 22) ha e5; replace J : ∃ g : List Hv, Ow w.heap.size 41 2028 y H (I.tmps.getD 25 undef) g ∧ Rws w.heap.size 3 2029 y H g T := J; generalize e6 : I.tmps.getD 25 undef = E at J; obtain ⟨k6, b2, e7⟩ := J; have ha := Fr.cons (d := 25) ha e6; replace L : ∃ g : List Hv, Ow w.heap.size 41 2032 y H (I.tmps.getD 28 undef) g ∧ Rws w.heap.size 3 2033 y H g U := L; generalize e8 : I.tmps.getD 28 undef = F at L; obtain ⟨k7, M, X⟩ := L; have ha := Fr.cons (d := 28) ha e8; refine bi_ ha ?_; simp only [List.length_cons, List.length_nil, Nat.zero_add, Nat.reduceAdd, List.drop_succ_cons, List.drop_zero]; refine Zv (bQ_ (vs := [(0, ZI s.Labels), (1, ZI s.Degree), (2, E), (3, F)]) (cs := [(ZI s.Labels), (ZI s.Degree), E, F]) ⟨rfl, rfl, rfl, rfl, rfl, rfl, rfl, rfl, trivial⟩ (by obtain ⟨_, _, r2⟩ := b2.form; rw [r2]; obtain ⟨_, _, r3⟩ := M.form; rw [r3]; kernel_rfl)) ?_; have e9 := Dz.of b2 e7 (by decide) (by decide) (by decide); have N := dF_ 2028 y; have O := dF_ 2029 (frz 2028 y); replace M := (M.rc N (by decide) (by decide)).rc O (by decide) (by decide); replace X := (X.rc N (by decide) (by decide)).rc O (by decide) (by decide); replace hB := (hB.rc N (by decide)).rc O (by decide); clear N O; generalize frz 2029 (frz 2028 y) = Y at *; have Z := e9.rd; have f0 := Dz.of M X (by decide) (by decide) (by decide); have a0 := dF_ 2032 Y; have a1 := dF_ 2033 (frz 2032 Y); replace Z := (Z.rc a0 (by decide)).rc a1 (by decide); replace hB := (hB.rc a0 (by decide)).rc a1 (by decide); clear a0 a1; generalize frz 2033 (frz 2032 Y) = f1 at *; have f2 := f0.rd; refine Zo ?_; refine eE_ w.heap.size 18 hB.keeps.size (α := a_) (o := f1) (cs := [(ZI s.Labels), (ZI s.Degree), E, F]) (xs := ([(⟨s.Labels, s.Degree, T, U⟩ : a_)] : List a_)) (vs := [(0, (.agg #[(ZI s.Labels), (ZI s.Degree), E, F]))]) ⟨[(ZI s.Labels), (ZI s.Degree), E, F], _, rfl, ⟨_, _, rfl, Z, f2⟩, rfl⟩ rfl ⟨rfl, rfl, trivial⟩ Tryz.underlying32 Tryz.sizeOf28 Tryz.zeroValue28 (by decide) (fillS 4 rfl rfl (by decide)) (by simp) ?_; intro f3 k8 a2 f4 f5; replace hB := hB.stp f5; refine Za rfl (Ze [(1, ZI A), (6, a2)] (nx ?_)); obtain ⟨a3, c1, hF⟩ := bind_some hF; refine hs_ (fun a m => ∃ (q : List a_) (i : Value) (j : Tg), a3 = .inl q ∧ Fr a 54 [(6, i)] ∧ Bs oo j w m ∧ Ow w.heap.size 28 18 j m i q) (fun a w' => ∃ r', a3 = .inr r' ∧ bodyPost Tryz.prog Tryz.f14 (fk_ oo t w r') .ret a w') ?_ ?_ ?_
  ·refine d_ ?_; refine y_ (fun (K : Nat) a m => ∃ (q : List a_) (i : Value) (j : Tg), loopF (ab_ fuel A) K q = some a3 ∧ Fr a 54 [(1, ZI A), (6, i)] ∧ Bs oo j w m ∧ Ow w.heap.size 28 18 j m i q) fuel (fun a ha => ⟨([(⟨s.Labels, s.Degree, T, U⟩ : a_)] : List a_), a2, f3, c1, ha.sub (r := [(1, ZI A), (6, a2)]) ⟨rfl, rfl, trivial⟩, hB, f4⟩) ?_; rintro K150 a m ⟨q, i, j, f6, ha, hB, f⟩; obtain ⟨K154, k9, l0, b, a4⟩ := V_ f6; dsimp only [ab_] at b; refine N_ ha ?_; refine b_ (Zq (Zm rfl (Zv (bB_ rfl f Tryz.underlying32) (Zm rfl (Zv (nI_ rfl rfl) (Ze [(1, ZI A), (6, i), (34, (.bool (decide ((q.length : Int) ≤ A))))] (nx ?_))))))); refine m_ rfl (fun a5 => ?_) (fun a5 => ?_)
   ·rw [if_pos a5] at b; refine f_ (nx (d_ (Zq (Zm rfl (Zm rfl (Zv (bB_ rfl f Tryz.underlying32) ?_)))))); obtain ⟨l1, c2, b⟩ := bind_some b; refine Zv (bP_ rfl rfl c2) ?_; obtain ⟨f7, c3, b⟩ := bind_some b; refine Zo ?_; refine fm_ f c3 rfl rfl Tryz.underlying32 Tryz.sizeOf28 ?_; intro l2 l3 l4 f8 f9; obtain ⟨l5, l6, rfl, g0, g1⟩ := f9; refine Zv (U_ rfl Tryz.isAgg28 Tryz.sizeOf28 rfl f8) ?_; obtain ⟨k, c4, b⟩ := bind_some b; refine Zo ?_; refine p_ (hw_ fuel m j 19 (by decide) _ f7 (⟨_, _, rfl, g0.z, g1.z⟩) k c4) Tryz.call49 ⟨rfl, trivial⟩ ?_; rintro l7 l8 ⟨l9, m0, m1, g2, rfl, g3, m2, m3, g4, g5⟩; have b3 := g4.stp' 19 g5; refine ⟨_, rfl, ?_⟩; obtain ⟨a6, a7, rfl, C, D⟩ := g3; replace f := f.stp b3; replace hB := hB.stp b3; refine Zm rfl (Zv (B_ rfl rfl) (Zv (B_ rfl rfl) (Zv (B_ rfl rfl) (Zv (B_ rfl rfl) (Zo ?_))))); refine aR_ (o := g2) w.heap.size 20 hB.keeps.size (cs := [(ZI 0), (ZI 0), (.slice none 0 0), (.slice none 0 0)]) Tryz.zeroValue28 rfl ?_; intro b4 m4 b5 g6 Q; replace f := f.stp Q; replace C := C.stp Q; replace D := D.stp Q; replace hB := hB.stp Q; refine au_ trivial ?_; refine ac_ g6 rfl rfl rfl fs_ (by intro c hc; simp only [List.mem_cons, List.not_mem_nil, or_false] at hc; rcases hc with rfl | rfl | rfl | rfl <;> first | rfl | exact C.one1 | exact D.one1) ?_; intro m5 g7 R; replace f := f.stp R; replace C := C.stp R; replace D := D.stp R; replace hB := hB.stp R; refine Za rfl (Za rfl (Za rfl (Ze [(1, ZI A), (6, i), (7, ZP b5), (10, (.bool k.2.2.2))] (nx (b_ (Zq (Zm rfl (Zv (bC_ rfl) (Ze [(1, ZI A), (6, i), (7, ZP b5), (48, (.bool (!k.2.2.2)))] (nx ?_)))))))))); refine m_ rfl (fun a8 => ?_) (fun a8 => ?_)
    ·rw [if_pos a8] at b; refine Zq (Za rfl (Za rfl (Ze [(4, (.slice none 0 0)), (5, (.bool false))] (nx (k_ (A_ (Z_ (A_ (Z_ ?_))))))))); refine bt_ ?_; have g8 := Zj b; subst g8; refine fun a ha => ⟨_, a4, ?_⟩; refine E_ (P := Tryz.prog) (vs := [(.slice none 0 0), (.bool false)]) Tryz.results14 ⟨rfl, rfl, trivial⟩ ?_ a ha; exact ⟨_, rt oo b4 w.heap.size 9 t, rfl, (Ow.nil _ _ _ _ _), hB.keeps, az_ _ _ _ _ _⟩
    ·rw [if_neg (by rw [a8]; decide)] at b; refine f_ (nx (c_ (Zm rfl (Zv (U_ rfl Tryz.isAgg28 Tryz.sizeOf28 rfl g7.cells) (Zo ?_))))); refine aB_ (α := a_) (o := b4) (cs := [(ZI k.1.Labels), (ZI k.1.Degree), a6, a7]) (xs := ([k.1] : List a_)) (vs := [(0, (.agg #[(ZI k.1.Labels), (ZI k.1.Degree), a6, a7]))]) ⟨[(ZI k.1.Labels), (ZI k.1.Degree), a6, a7], _, rfl, ⟨_, _, rfl, C, D⟩, rfl⟩ rfl ⟨rfl, rfl, trivial⟩ Tryz.underlying32 Tryz.sizeOf28 Tryz.zeroValue28 (by decide) (fillS 4 rfl rfl (by decide)) (by simp) ?_; intro m6 m7 m8 g9 b6 m9; replace f := f.stp b6; replace hB := hB.stp b6; obtain ⟨h0, c5, b⟩ := bind_some b; refine Zo ?_; refine bg_ f g9 (aq_ c5) (by decide) hB.keeps.size rfl rfl Tryz.underlying32 fl_ rfl (by decide) ?_; intro h1 n0 a9 h2 h3; replace hB := hB.stp h3; refine Za rfl (Ze [(1, ZI A), (6, a9)] (x_ (w_ ?_))); have h4 := Zj b; subst h4; refine Zk [(1, ZI A), (6, a9)] ?_; intro a ha; exact ⟨K154, by omega, h0, a9, h1, a4, ha, hB, h2⟩
   ·rw [if_neg (by rw [a5]; decide)] at b; refine v_ ?_; refine n_ (n_ (S_ ?_)); refine q_ ?_; have h5 := Zj b; subst h5; refine Zk [(6, i)] ?_; intro a ha; exact ⟨q, i, j, a4, ha, hB, f⟩
  ·rintro a m ⟨q, i, j, rfl, ha, hB, f⟩; dsimp only at hF; refine N_ ha ?_; refine Zq (Zm rfl (Za rfl (Za rfl (Ze [(4, i), (5, (.bool true))] (nx (k_ ?_)))))); have h6 := Zj hF; subst h6; refine Zr Tryz.results14 [i, (.bool true)] ?_; exact ⟨_, rt oo j w.heap.size 18 t, rfl, f.rt hB (by decide) t, hB.keeps, az_ _ _ _ _ _⟩
  ·rintro a m ⟨r', rfl, h7⟩; dsimp only at hF; have h8 := Zj hF; subst h8; exact h7
end

end Go.Proofs.YtdbbeldgdgonfaaGreat
