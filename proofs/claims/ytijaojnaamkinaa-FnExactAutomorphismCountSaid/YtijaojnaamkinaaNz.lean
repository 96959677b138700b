/- Networks in the laws: their sizes, copies, equality. -/
import Derived.Test.YtijaojnaamkinaaPl
import Derived.Test.YtijaojnaamkinaaGNz
import Derived.Test.YtijaojnaamkinaaMat
import Derived.Test.YtijaojnaamkinaaOpen
namespace Go.Proofs.Ytijaojnaamkinaa
set_option linter.unusedSimpArgs false
set_option linter.unusedVariables false

theorem loopF_nz {σ τ ρ : Type} {f : σ → Option (Lp σ τ ρ)} (R : Nat → σ) (n : Nat) (t : τ) (hgo : ∀ j, j < n → f (R j) = some (.go (R (j + 1)))) (hout : f (R n) = some (.out t)) (fuel : Nat) (hf : n < fuel) : loopF f fuel (R 0) = some (.inl t) := by
  suffices h : ∀ (d j fuel : Nat), j + d = n → d < fuel → loopF f fuel (R j) = some (.inl t) by exact h n 0 fuel (by omega) hf
  intro d
  induction d with
  | zero =>
    intro j fuel hj hf
    obtain ⟨m, rfl⟩ : ∃ m, fuel = m + 1 := ⟨fuel - 1, by omega⟩
    have : j = n := by omega
    subst this
    simp only [loopF, hout]
  | succ d ih =>
    intro j fuel hj hf
    obtain ⟨m, rfl⟩ : ∃ m, fuel = m + 1 := ⟨fuel - 1, by omega⟩
    simp only [loopF, hgo j (by omega)]
    exact ih (j + 1) m (by omega) (by omega)
theorem RdL.lenz {α : Type} [Rp α] {o : Tg} {w : World} {v : Value} {xs : List α} (h : RdL o w v xs) : xs.length ≤ 9223372036854775807 := by
  obtain ⟨a, c, rfl, h1, h2, _⟩ := h
  exact Nat.le_trans h1 (Nat.le_trans h2 (by decide))
theorem RdL.rowz {α : Type} [Rp α] {o : Tg} {w : World} {v : Value} {xs : List (List α)} (h : RdL o w v xs) : ∀ x, x ∈ xs → x.length ≤ 9223372036854775807 := by
  obtain ⟨a, c, rfl, h1, h2, h3⟩ := h
  intro x hx
  obtain ⟨i, hi, rfl⟩ := List.getElem_of_mem hx
  obtain ⟨b, off, cs, _, _, _, _, hd⟩ := h3 i xs[i] (List.getElem?_eq_getElem hi)
  obtain ⟨u, rfl, hu⟩ := hd
  exact hu.lenz
/-- Lengths that fit 64 bits, as every list in memory has. -/
structure Fit (p : T_Network) : Prop where
  ends : p.Ends.length ≤ 9223372036854775807
  rows : ∀ r, r ∈ p.Ends → r.length ≤ 9223372036854775807
  ids : p.Ids.length ≤ 9223372036854775807
  inp : p.Inputs.length ≤ 9223372036854775807
/-! ### Sizes -/
def szN' (left : Int) (n : Nat) : Int := if (n : Int) ≤ left then left - n else -1
def sumN {α : Type} (LL : List (List α)) : Nat := (LL.map List.length).sum
def szN (p : T_Network) : Nat := p.Ends.length + sumN p.Ends + p.Ids.length + p.Inputs.length
theorem e_szIntSz (l : List Int) (left : Int) (h : l.length ≤ 9223372036854775807) (h0 : 0 ≤ left) (h1 : left ≤ 1048576) : fL_szIntS l left = some (szN' left l.length) := by
  unfold fL_szIntS szN'
  rw [ck_in (by omega) (by omega), sb]
  by_cases e : (l.length : Int) ≤ left
  · rw [if_neg (by simp; omega), if_pos e]
  · rw [if_pos (by simp; omega), if_neg e]
theorem e_szEndS (l : List T_End) (left : Int) (h : l.length ≤ 9223372036854775807) (h0 : 0 ≤ left) (h1 : left ≤ 1048576) : fL_szEndS l left = some (szN' left l.length) := by
  unfold fL_szEndS szN'
  rw [ck_in (by omega) (by omega), sb]
  by_cases e : (l.length : Int) ≤ left
  · rw [if_neg (by simp; omega), if_pos e]
  · rw [if_pos (by simp; omega), if_neg e]
theorem szEnd_loop (LL : List (List T_End)) (hr : ∀ x, x ∈ LL → x.length ≤ 9223372036854775807) (hl : LL.length ≤ 1048576) : ∀ (d j fuel : Nat) (x : Int), j + d = LL.length → d < fuel → 0 ≤ x → x ≤ 1048576 →
    loopF (fL_szEndSS_s1 LL) fuel (x, (j : Int)) = some (if (sumN (LL.drop j) : Int) ≤ x then .inl (x - (sumN (LL.drop j) : Nat), (LL.length : Int)) else .inr (-1)) := by
  intro d
  induction d with
  | zero =>
    intro j fuel x hj hf h0 h1
    obtain ⟨m, rfl⟩ : ∃ m, fuel = m + 1 := ⟨fuel - 1, by omega⟩
    have e : LL.drop j = [] := List.drop_eq_nil_of_le (by omega)
    have hs : fL_szEndSS_s1 LL (x, (j : Int)) = some (.out (x, (j : Int))) := by
      unfold fL_szEndSS_s1
      rw [if_neg (by simp; omega)]
    have hjl : j = LL.length := by omega
    simp only [loopF, hs, e, sumN, List.map_nil, List.sum_nil]
    rw [if_pos (by omega), hjl]
    simp
  | succ d ih =>
    intro j fuel x hj hf h0 h1
    obtain ⟨m, rfl⟩ : ∃ m, fuel = m + 1 := ⟨fuel - 1, by omega⟩
    have hjl : j < LL.length := by omega
    have hq : LL[j]? = some LL[j] := List.getElem?_eq_getElem hjl
    have hle := hr LL[j] (List.getElem_mem hjl)
    have e : sumN (LL.drop j) = LL[j].length + sumN (LL.drop (j + 1)) := by unfold sumN; rw [List.drop_eq_getElem_cons hjl, List.map_cons, List.sum_cons]
    have hs : fL_szEndSS_s1 LL (x, (j : Int)) = some (if (LL[j].length : Int) ≤ x then .go (x - LL[j].length, ((j + 1 : Nat) : Int)) else .ret (-1)) := by
      unfold fL_szEndSS_s1
      simp only
      rw [if_pos (by simp; omega), ix_nat, hq, sb, e_szEndS _ _ hle h0 h1, sb]
      unfold szN'
      by_cases hx : (LL[j].length : Int) ≤ x
      · rw [if_pos hx, if_pos hx, if_neg (by simp; omega), ck_in (by omega) (by omega), sb]; simp
      · rw [if_neg hx, if_neg hx, if_pos (by decide)]
    by_cases hx : (LL[j].length : Int) ≤ x
    · rw [if_pos hx] at hs
      simp only [loopF, hs]
      rw [ih (j + 1) m _ (by omega) (by omega) (by omega) (by omega), e]
      by_cases h2 : (sumN (LL.drop (j + 1)) : Int) ≤ x - LL[j].length
      · rw [if_pos h2, if_pos (by omega)]
        simp only [Option.some.injEq, Sum.inl.injEq, Prod.mk.injEq, and_true]
        omega
      · rw [if_neg h2, if_neg (by omega)]
    · rw [if_neg hx] at hs
      simp only [loopF, hs]
      rw [if_neg (by rw [e]; omega)]
theorem e_szNetwork (fuel : Nat) (hf : 2000000 ≤ fuel) (p : T_Network) (hp : Fit p) (left : Int) (h0 : 0 ≤ left) (h1 : left ≤ 1048576) : fL_szNetwork fuel p left = some (szN' left (szN p)) := by
  unfold fL_szNetwork fL_szEndSS
  have q1 := hp.ends
  rw [ck_in (by omega) (by omega), sb]
  have e0 : szN p = p.Ends.length + sumN p.Ends + p.Ids.length + p.Inputs.length := rfl
  by_cases a1 : (p.Ends.length : Int) ≤ left
  · have hq := szEnd_loop p.Ends hp.rows (by omega) p.Ends.length 0 fuel (left - p.Ends.length) (by omega) (by omega) (by omega) (by omega)
    rw [show ((0 : Nat) : Int) = 0 from rfl, List.drop_zero] at hq
    rw [if_neg (by simp; omega), hq, sb]
    by_cases a2 : (sumN p.Ends : Int) ≤ left - p.Ends.length
    · rw [if_pos a2]
      simp only [sb]
      rw [if_neg (by simp; omega), e_szIntSz _ _ hp.ids (by omega) (by omega), sb]
      unfold szN'
      by_cases a3 : (p.Ids.length : Int) ≤ left - p.Ends.length - (sumN p.Ends : Nat)
      · rw [if_pos a3, if_neg (by simp; omega), e_szIntSz _ _ hp.inp (by omega) (by omega), sb]
        unfold szN'
        by_cases a4 : (p.Inputs.length : Int) ≤ left - p.Ends.length - (sumN p.Ends : Nat) - p.Ids.length
        · rw [if_pos a4, if_neg (by simp; omega), if_pos (by omega)]; congr 1; omega
        · rw [if_neg a4, if_pos (by decide), if_neg (by omega)]
      · rw [if_neg a3, if_pos (by decide), if_neg (by omega)]
    · rw [if_neg a2]
      simp only [sb]
      unfold szN'
      rw [if_pos (by decide), if_neg (by omega)]
  · rw [if_pos (by simp; omega), sb]
    unfold szN'
    rw [if_pos (by decide), if_neg (by omega)]
/-! ### Copies -/
theorem copy_loop {α : Type} (f : List α × Int → Option (Lp (List α × Int) (List α × Int) (List α))) (z : α) (xs : List α) (hgo : ∀ (j : Nat) (h : j < xs.length) (s : List α), s.length = xs.length → f (s, (j : Int)) = some (.go (s.set j xs[j], ((j + 1 : Nat) : Int))))
    (hout : ∀ s : List α, f (s, (xs.length : Int)) = some (.out (s, (xs.length : Int)))) (fuel : Nat) (hf : xs.length < fuel) : loopF f fuel (List.replicate xs.length z, 0) = some (.inl (xs, (xs.length : Int))) := by
  have := loopF_nz (f := f) (fun j => (xs.take j ++ List.replicate (xs.length - j) z, (j : Int))) xs.length (xs, (xs.length : Int)) (fun j hj => by
    rw [hgo j hj _ (by simp; omega)]
    congr 3
    refine List.ext_getElem (by simp; omega) fun i h1 h2 => ?_
    rw [List.getElem_set]
    by_cases e : j = i
    · subst e
      rw [if_pos rfl, List.getElem_append_left (by simp; omega), List.getElem_take]
    · rw [if_neg e]
      by_cases h : i < j
      · rw [List.getElem_append_left (by simp; omega), List.getElem_append_left (by simp; omega), List.getElem_take, List.getElem_take]
      · rw [List.getElem_append_right (by simp; omega), List.getElem_append_right (by simp; omega)]
        simp) (by simp only [List.take_length, Nat.sub_self, List.replicate_zero, List.append_nil]; exact hout xs) fuel hf
  simpa using this
theorem e_toIntSz (fuel : Nat) (l : List Int) (hf : l.length < fuel) (h : l.length ≤ 1048576) : fL_toIntS fuel l = some l := by
  unfold fL_toIntS mk
  rw [if_pos (by omega), sb, Int.toNat_natCast, copy_loop (fL_toIntS_s1 l) _ l (fun j hj s hs => by
    unfold fL_toIntS_s1
    simp only
    rw [if_pos (by simp; omega), ix_nat, List.getElem?_eq_getElem hj, sb, ix_nat, List.getElem?_eq_getElem (by omega), sb, st_nat _ _ _ (by omega), sb, ck_in (by omega) (by omega), sb]; simp)
    (fun s => by unfold fL_toIntS_s1; simp only; rw [if_neg (by simp)]) fuel hf, sb]
theorem e_toEndS (fuel : Nat) (l : List T_End) (hf : l.length < fuel) (h : l.length ≤ 1048576) : fL_toEndS fuel l = some l := by
  unfold fL_toEndS mk
  rw [if_pos (by omega), sb, Int.toNat_natCast, copy_loop (fL_toEndS_s1 l) _ l (fun j hj s hs => by
    unfold fL_toEndS_s1 fL_toEnd
    simp only
    rw [if_pos (by simp; omega), ix_nat, List.getElem?_eq_getElem hj, sb, sb, ix_nat, List.getElem?_eq_getElem (by omega), sb, st_nat _ _ _ (by omega), sb, ck_in (by omega) (by omega), sb]; simp)
    (fun s => by unfold fL_toEndS_s1; simp only; rw [if_neg (by simp)]) fuel hf, sb]
theorem sumN_mem {α : Type} {LL : List (List α)} {x : List α} (h : x ∈ LL) : x.length ≤ sumN LL := by
  unfold sumN
  induction LL with
  | nil => cases h
  | cons y LL ih =>
    rw [List.map_cons, List.sum_cons]
    rcases List.mem_cons.1 h with h | h
    · subst h; omega
    · have := ih h; omega
theorem e_toEndSS (fuel : Nat) (LL : List (List T_End)) (hf : 2000000 ≤ fuel) (h : LL.length + sumN LL ≤ 1048576) : fL_toEndSS fuel LL = some LL := by
  unfold fL_toEndSS mk
  rw [if_pos (by omega), sb, Int.toNat_natCast, copy_loop (fL_toEndSS_s1 fuel LL) _ LL (fun j hj s hs => by
    have := sumN_mem (List.getElem_mem hj)
    unfold fL_toEndSS_s1
    simp only
    rw [if_pos (by simp; omega), ix_nat, List.getElem?_eq_getElem hj, sb, e_toEndS fuel _ (by omega) (by omega), sb, ix_nat, List.getElem?_eq_getElem (by omega), sb, st_nat _ _ _ (by omega), sb, ck_in (by omega) (by omega), sb]; simp)
    (fun s => by unfold fL_toEndSS_s1; simp only; rw [if_neg (by simp)]) fuel (by omega), sb]
theorem e_toNetwork (fuel : Nat) (hf : 2000000 ≤ fuel) (p : T_Network) (h : szN p ≤ 1048576) : fL_toNetwork fuel p = some p := by
  unfold fL_toNetwork
  unfold szN at h
  rw [e_toEndSS fuel _ hf (by omega), sb, e_toIntSz fuel _ (by omega) (by omega), sb, e_toIntSz fuel _ (by omega) (by omega), sb]
/-! ### Equality -/
theorem eq_loop {α : Type} (f : Int → Option (Lp Int Int Bool)) (xs : List α) (hgo : ∀ (j : Nat) (h : j < xs.length), f (j : Int) = some (.go ((j + 1 : Nat) : Int))) (hout : f (xs.length : Int) = some (.out (xs.length : Int))) (fuel : Nat) (hf : xs.length < fuel) :
    loopF f fuel 0 = some (.inl (xs.length : Int)) := loopF_nz (f := f) (fun j => (j : Int)) xs.length _ hgo hout fuel hf
theorem e_eqIntSz (fuel : Nat) (l : List Int) (hf : l.length < fuel) (h : l.length ≤ 1048576) : fL_eqIntS fuel l l = some true := by
  unfold fL_eqIntS
  rw [if_neg (by simp), eq_loop (fL_eqIntS_s1 l l) l (fun j hj => by
    unfold fL_eqIntS_s1
    rw [if_pos (by simp; omega), ix_nat, List.getElem?_eq_getElem hj, sb, sb, if_neg (by simp), ck_in (by omega) (by omega), sb]; simp)
    (by unfold fL_eqIntS_s1; rw [if_neg (by simp)]) fuel hf, sb]
theorem e_eqEndS (fuel : Nat) (l : List T_End) (hf : l.length < fuel) (h : l.length ≤ 1048576) : fL_eqEndS fuel l l = some true := by
  unfold fL_eqEndS
  rw [if_neg (by simp), eq_loop (fL_eqEndS_s1 l l) l (fun j hj => by
    unfold fL_eqEndS_s1 fL_eqEnd
    rw [if_pos (by simp; omega), ix_nat, List.getElem?_eq_getElem hj, sb, sb, if_neg (by simp), if_neg (by simp), sb, if_neg (by simp), ck_in (by omega) (by omega), sb]; simp)
    (by unfold fL_eqEndS_s1; rw [if_neg (by simp)]) fuel hf, sb]
theorem e_eqEndSS (fuel : Nat) (LL : List (List T_End)) (hf : 2000000 ≤ fuel) (h : LL.length + sumN LL ≤ 1048576) : fL_eqEndSS fuel LL LL = some true := by
  unfold fL_eqEndSS
  rw [if_neg (by simp), eq_loop (fL_eqEndSS_s1 fuel LL LL) LL (fun j hj => by
    have := sumN_mem (List.getElem_mem hj)
    unfold fL_eqEndSS_s1
    rw [if_pos (by simp; omega), ix_nat, List.getElem?_eq_getElem hj, sb, sb, e_eqEndS fuel _ (by omega) (by omega), sb, if_neg (by simp), ck_in (by omega) (by omega), sb]; simp)
    (by unfold fL_eqEndSS_s1; rw [if_neg (by simp)]) fuel (by omega), sb]
theorem e_eqNetwork (fuel : Nat) (hf : 2000000 ≤ fuel) (p : T_Network) (h : szN p ≤ 1048576) : fL_eqNetwork fuel p p = some true := by
  unfold fL_eqNetwork
  unfold szN at h
  rw [e_eqEndSS fuel _ hf (by omega), sb, if_neg (by simp), e_eqIntSz fuel _ (by omega) (by omega), sb, if_neg (by simp), e_eqIntSz fuel _ (by omega) (by omega), sb, if_neg (by simp)]
/-! ### Reading -/
/-- v reads as the network x. -/
def RdN (w : World) (v : Value) (x : T_Network) : Prop := ∃ u : List Value, v = .agg u.toArray ∧ Rp.rd zt w u x
theorem RdN.fit {w : World} {v : Value} {x : T_Network} (h : RdN w v x) : Fit x := by
  obtain ⟨u, rfl, v1, v2, v3, rfl, h1, h2, h3⟩ := h
  exact ⟨h1.lenz, h1.rowz, h2.lenz, h3.lenz⟩
end Go.Proofs.Ytijaojnaamkinaa
