/- Certificates of walk problems: how the laws read them, and the calls as the law makes them. -/
import Derived.Test.YtabclfacjaeblaaAd
import Derived.Test.YtabclfacjaeblaaZl
import Derived.Test.YtabclfacjaeblaaCw
namespace Go.Proofs.Ytabclfacjaeblaa
open Go.RowKit
set_option linter.unusedSimpArgs false
set_option linter.unusedVariables false

structure CE where
  cls : Int
  label : Int
  first : List Int
  second : List Int
  ranks : List (List Int)
def RdQ (w : World) (v : Value) (x : CE) : Prop := ∃ v2 v3 v4, v = .agg #[.int .i64 x.cls, .int .i64 x.label, v2, v3, v4] ∧ Ints w v2 x.first ∧ Ints w v3 x.second ∧ IntRows w v4 x.ranks
def szQ (x : CE) : Nat := x.first.length + x.second.length + tot x.ranks
def OwQ (B C : Nat) (w : World) (v : Value) (x : CE) : Prop := RdQ w v x
def okQ (x : CE) : Prop := I64 x.cls ∧ I64 x.label ∧ (∀ n ∈ x.first, I64 n) ∧ (∀ n ∈ x.second, I64 n) ∧ ∀ r ∈ x.ranks, ∀ n ∈ r, I64 n
def tQ (x : CE) : T_WalkCertificate := ⟨x.cls, x.label, x.first, x.second, x.ranks⟩
section
variable {B C : Nat} {w w' : World} {v : Value} {x : CE}
theorem RdQ.keep (h : RdQ w v x) (k : Keeps w w') : RdQ w' v x := by obtain ⟨v2, v3, v4, e, h2, h3, h4⟩ := h; exact ⟨v2, v3, v4, e, h2.keep k, h3.keep k, h4.keep k⟩
theorem OwQ.keep (h : OwQ B C w v x) (k : Keeps w w') : OwQ B C w' v x := RdQ.keep h k
theorem OwQ.rd (h : OwQ B C w v x) : RdQ w v x := h
theorem RdQ.shape (h : RdQ w v x) : ∃ a2 c2 a3 c3 a4 c4, v = .agg #[.int .i64 x.cls, .int .i64 x.label, .slice a2 x.first.length c2, .slice a3 x.second.length c3, .slice a4 x.ranks.length c4] := by
  obtain ⟨v2, v3, v4, rfl, h2, h3, h4⟩ := h
  obtain ⟨a2, c2, rfl, _⟩ := h2.form
  obtain ⟨a3, c3, rfl, _⟩ := h3.form
  obtain ⟨a4, c4, rfl, _⟩ := h4.form
  exact ⟨_, _, _, _, _, _, rfl⟩
theorem RdQ.rdz (h : RdQ w v x) : ∃ u : List Value, v = .agg u.toArray ∧ Rp.rd zt w u (tQ x) := by
  obtain ⟨v2, v3, v4, rfl, h2, h3, h4⟩ := h
  exact ⟨[.int .i64 x.cls, .int .i64 x.label, v2, v3, v4], rfl, v2, v3, v4, rfl, h2.rdl, h3.rdl, h4.rdl⟩
end
theorem szQ_row {x : CE} (h : szQ x ≤ 1048576) : ∀ r, r ∈ x.ranks → r.length ≤ 1048576 := fun r hr => by
  obtain ⟨i, hi, rfl⟩ := List.getElem_of_mem hr
  have := row_le x.ranks i hi
  rw [List.getD_eq_getElem?_getD, List.getElem?_eq_getElem hi] at this
  simp only [Option.getD_some] at this
  unfold szQ at h
  omega
theorem szQ_len {x : CE} (h : szQ x ≤ 1048576) : x.first.length ≤ 1048576 ∧ x.second.length ≤ 1048576 ∧ x.ranks.length ≤ 1048576 := by
  unfold szQ tot at h
  omega
theorem szL_two (left : Int) (a b : Nat) (h : (a : Int) ≤ left) : szL (szL left a) b = szL left (a + b) := by
  unfold szL
  rw [if_pos h]
  by_cases hb : (b : Int) ≤ left - a
  · rw [if_pos hb, if_pos (by omega)]; omega
  · rw [if_neg hb, if_neg (by omega)]
theorem e_szQ (fuel : Nat) (hf : 2000000 ≤ fuel) (x : CE) (left : Int) (h1 : x.first.length ≤ 9223372036854775807) (h2 : x.second.length ≤ 9223372036854775807) (h3 : x.ranks.length ≤ 9223372036854775807) (hr : ∀ r, r ∈ x.ranks → r.length ≤ 9223372036854775807)
    (l0 : 0 ≤ left) (l1 : left ≤ 1048576) : fL_szWalkCertificate fuel (tQ x) left = some (szL left (szQ x)) := by
  unfold fL_szWalkCertificate tQ szQ
  rw [e_szIntS _ _ h1 l0 l1, sb]
  by_cases a1 : (x.first.length : Int) ≤ left
  · have e1 : szL left x.first.length = left - x.first.length := if_pos a1
    rw [e1, if_neg (by simp; omega), e_szIntS _ _ h2 (by omega) (by omega), sb]
    by_cases a2 : (x.second.length : Int) ≤ left - x.first.length
    · have e2 : szL (left - x.first.length) x.second.length = left - x.first.length - x.second.length := if_pos a2
      rw [e2, if_neg (by simp; omega), e_szIntSS fuel hf _ _ h3 hr (by omega) (by omega), sb]
      by_cases a3 : ((tot x.ranks : Nat) : Int) ≤ left - x.first.length - x.second.length
      · have e3 : szL (left - x.first.length - x.second.length) (tot x.ranks) = left - x.first.length - x.second.length - (tot x.ranks : Nat) := if_pos a3
        rw [e3, if_neg (by simp; omega)]
        unfold szL
        rw [if_pos (by omega)]
        congr 1
        omega
      · have e3 : szL (left - x.first.length - x.second.length) (tot x.ranks) = -1 := if_neg a3
        rw [e3, if_pos (by simp)]
        unfold szL
        rw [if_neg (by omega)]
    · have e2 : szL (left - x.first.length) x.second.length = -1 := if_neg a2
      rw [e2, if_pos (by simp)]
      unfold szL
      rw [if_neg (by omega)]
  · have e1 : szL left x.first.length = -1 := if_neg a1
    rw [e1, if_pos (by simp)]
    unfold szL
    rw [if_neg (by omega)]
theorem szWalkCertificate_any (v : Value) (x : CE) (left : Int) (w : World) (h : RdQ w v x) (h0 : 0 ≤ left) (h1 : left ≤ 1048576) :
    Calls Try.prog 22 #[v, .int .i64 left] w fun e w' => e = .returned (.int .i64 (szL left (szQ x))) ∧ Keeps w w' := by
  have h' := h
  obtain ⟨u, rfl, h2⟩ := h.rdz
  obtain ⟨v2, v3, v4, e, q2, q3, q4⟩ := h'
  refine (cL_szWalkCertificate 2000000 w u (tQ x) h2 left _ (e_szQ 2000000 (Nat.le_refl _) x left q2.rdl.len63 q3.rdl.len63 q4.rdl.len63 q4.rdl.row h0 h1)).mono ?_
  rintro e w' ⟨rfl, hk⟩
  exact ⟨rfl, hk⟩
theorem toWalkCertificate_any (v : Value) (x : CE) (w : World) (h : RdQ w v x) (hs : szQ x ≤ 1048576) :
    Calls Try.prog 25 #[v] w fun e w' => ∃ r, e = .returned r ∧ OwQ w.heap.size w'.heap.size w' r x ∧ Keeps w w' := by
  obtain ⟨u, rfl, h2⟩ := h.rdz
  obtain ⟨s1, s2, s3⟩ := szQ_len hs
  have e : fL_toWalkCertificate 2000000 (tQ x) = some (tQ x) := by
    unfold fL_toWalkCertificate tQ
    rw [e_toIntS _ _ s1 (by omega), sb, e_toIntS _ _ s2 (by omega), sb, e_toIntSS _ _ s3 (szQ_row hs) (Nat.le_refl _), sb]
  refine (cL_toWalkCertificate 2000000 w ot 2 (by decide) u (tQ x) h2 _ e).mono ?_
  rintro e w' ⟨v0, o', rfl, hr, f1, f2, z3, hk, hb⟩
  obtain ⟨v2, v3, v4, rfl, q2, q3, q4⟩ := hr
  obtain ⟨vs, hm⟩ := Dz.matIn z3 hb
  exact ⟨_, rfl, ⟨v2, v3, v4, rfl, (Of.own_ints f1 hb).ints, (Of.own_ints f2 hb).ints, hm.rows⟩, hk⟩
theorem eqWalkCertificate_same (va vb : Value) (x : CE) (w : World) (ha : RdQ w va x) (hb : RdQ w vb x) (hs : szQ x ≤ 1048576) :
    Calls Try.prog 28 #[va, vb] w fun e w' => e = .returned (.bool true) ∧ Keeps w w' := by
  obtain ⟨u, rfl, h2⟩ := ha.rdz
  obtain ⟨u', rfl, h3⟩ := hb.rdz
  obtain ⟨s1, s2, s3⟩ := szQ_len hs
  have e : fL_eqWalkCertificate 2000000 (tQ x) (tQ x) = some true := by
    unfold fL_eqWalkCertificate tQ
    rw [if_neg (by simp), if_neg (by simp), e_eqIntS _ _ s1 (by omega), sb, if_neg (by simp), e_eqIntS _ _ s2 (by omega), sb, if_neg (by simp), e_eqIntSS _ _ s3 (szQ_row hs) (Nat.le_refl _), sb, if_neg (by simp)]
  refine (cL_eqWalkCertificate 2000000 w u (tQ x) h2 u' (tQ x) h3 _ e).mono ?_
  rintro e w' ⟨rfl, hk⟩
  exact ⟨rfl, hk⟩
/-! ### The calls -/
theorem szW_arcs' {x : WP} (h : szW x ≤ 1048576) : x.arcs.length ≤ 1048576 := by
  unfold szW tot at h
  omega
def fCheckWalkCertificateSpec (x : WP) (c : CE) : Bool × Bool := ccB (tW x) (tQ c)
def fCheckWalkCertificateImpl (x : WP) (c : CE) : Bool × Bool := fCheckWalkCertificateSpec x c
theorem CheckWalkCertificate_eq (x : WP) (c : CE) (_ : okW x) (_ : szW x ≤ 1048576) (_ : okQ c) (_ : szQ c ≤ 1048576) : fCheckWalkCertificateImpl x c = fCheckWalkCertificateSpec x c := rfl
theorem specCheckWalkCertificate_any (v : Value) (x : WP) (v' : Value) (c : CE) (w : World) (h : RdW w v x) (_ : okW x) (hs : szW x ≤ 1048576) (h' : RdQ w v' c) (_ : okQ c) (hs' : szQ c ≤ 1048576) :
    Calls Try.prog 23 #[v, v'] w fun e w' => e = .returned (.tuple #[.bool (fCheckWalkCertificateSpec x c).1, .bool (fCheckWalkCertificateSpec x c).2]) ∧ Keeps w w' := by
  obtain ⟨u, rfl, h2⟩ := h.rdz
  obtain ⟨u', rfl, h3⟩ := h'.rdz
  obtain ⟨s1, s2, s3⟩ := szQ_len hs'
  exact cS_CheckWalkCertificate 1000 w u (tW x) h2 u' (tQ c) h3 _ (e_specCc 1000 (by omega) (tW x) (tQ c) (by have := szW_arcs' hs; simp only [tW]; omega) s1 s2 s3)
theorem implCheckWalkCertificate_any (v : Value) (x : WP) (v' : Value) (c : CE) (w : World) (h : RdW w v x) (_ : okW x) (hs : szW x ≤ 1048576) (h' : RdQ w v' c) (_ : okQ c) (hs' : szQ c ≤ 1048576) :
    Calls Try.prog 26 #[v, v'] w fun e w' => e = .returned (.tuple #[.bool (fCheckWalkCertificateImpl x c).1, .bool (fCheckWalkCertificateImpl x c).2]) ∧ Keeps w w' := by
  obtain ⟨u, rfl, h2⟩ := h.rdz
  obtain ⟨u', rfl, h3⟩ := h'.rdz
  obtain ⟨s1, s2, s3⟩ := szQ_len hs'
  exact cI_CheckWalkCertificate 1000 w u (tW x) h2 u' (tQ c) h3 _ (e_implCc 1000 (by omega) (tW x) (tQ c) (by have := szW_arcs' hs; simp only [tW]; omega) s1 s2 s3)
end Go.Proofs.Ytabclfacjaeblaa
