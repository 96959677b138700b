/- The greatest common divisor: of two numbers (spec), of a list (impl). -/
import Derived.Test.YtffgdhbhlcifmaaKg
import Derived.Test.YtffgdhbhlcifmaaHelp
import Derived.BigQuiet
import Derived.Deep.RegionHeld3
namespace Go.Proofs.Ytffgdhbhlcifmaa
open Go.RowKit
set_option linter.unusedSimpArgs false
set_option linter.unusedVariables false

def gcd2 (a b : Int) : Option Int := if 0 ≤ a ∧ a ≤ 2000000000 ∧ 0 ≤ b ∧ b ≤ 2000000000 then some ((Nat.gcd a.toNat b.toNat : Nat) : Int) else none
theorem tmod_nat (p q : Nat) : Int.tmod (p : Int) (q : Int) = ((p % q : Nat) : Int) := by
  rw [Int.tmod_eq_emod_of_nonneg (by omega)]; rfl

def fS_waGcd (a b : Int) : Option Int := gcd2 a b
def pS_waGcd (w : World) (r : Int) : Ending → World → Prop := fun e w' => e = .returned (.int .i64 r) ∧ Keeps w w'
set_option maxHeartbeats 800000 in
theorem cS_waGcd (w : World) (p0 : Int) (p1 : Int) (r : Int) (hF : fS_waGcd p0 p1 = some r) :
    Calls Try.prog 74 #[.int .i64 p0, .int .i64 p1] w (pS_waGcd w r) := by
  unfold fS_waGcd gcd2 at hF
  split at hF
  case isFalse => cases hF
  rename_i hh
  cases hF
  obtain ⟨h1, h2, h3, h4⟩ := hh
  obtain ⟨a, rfl⟩ := Int.eq_ofNat_of_zero_le h1
  obtain ⟨b, rfl⟩ := Int.eq_ofNat_of_zero_le h3
  have HG : Hid (Nat.gcd (a : Int).toNat (b : Int).toNat = Nat.gcd a b) := rfl
  go_enter Try.func74, Try.ntmps74
  go_wp2
  go_loopw [0, 1] (fun x y wr => ∃ p q : Nat, x = .int .i64 p ∧ y = .int .i64 q ∧ p ≤ 2000000000 ∧ q ≤ 2000000000 ∧ Nat.gcd p q = Nat.gcd a b ∧ Dr w wr) (fun _ y _ => (intOf y).toNat)
  case atStart => exact ⟨a, b, rfl, rfl, by omega, by omega, rfl, Dr.refl _⟩
  case round =>
    obtain ⟨p, q, rfl, rfl, hp, hq, hg, nd, rfl⟩ := hrel
    have HX := Lib.hid hg
    clear hg
    by_cases hz : 0 < q
    · have hq0 : ¬ q = 0 := by omega
      have hq2 : decide ((q : Int) = 0) = false := by simp; omega
      have hq3 : ((q : Int) == 0) = false := by simp; omega
      have hm := tmod_nat p q
      have hlt := Nat.mod_lt p hz
      go_wp2
      go_region_held3 (fun W => True) (trivial) ((first | fail))
      go_wp2
      go_roundw
      case rel => exact ⟨q, p % q, rfl, by go_num, by omega, by omega, by rw [← HX.out, Nat.gcd_comm q, ← Nat.gcd_rec, Nat.gcd_comm], (by first | exact ((Dr.refl w).more _).more _ | exact ⟨_, rfl⟩)⟩
      case measure => simp [intOf]; omega
    · go_wp2
      go_ret
      have : q = 0 := by omega
      subst this
      have := HX.out
      refine ⟨?_, (Keeps.refl w).drewN _⟩
      rw [HG.out, ← this, Nat.gcd_zero_right]
      rfl

def gcdL (xs : List Int) : Nat := xs.foldl (fun d x => Nat.gcd d x.toNat) 0
theorem RdL.cellI {w : World} {v : Value} {xs : List Int} (h : RdL zt w v xs) : ∃ a c, v = .slice a xs.length c ∧ xs.length ≤ 9223372036854775807 ∧ ∀ i, i < xs.length → ∃ b o, a = some ⟨b, o, none⟩ ∧ w.cell? ⟨b, o + i, none⟩ = some (.int .i64 (xs.getD i 0)) := by
  obtain ⟨a, c, rfl, h1, h2, h3⟩ := h
  refine ⟨a, c, rfl, Nat.le_trans h1 (Nat.le_trans h2 (by decide)), fun i hi => ?_⟩
  obtain ⟨b, off, cs, ha, _, _, hc, hd⟩ := h3 i xs[i] (List.getElem?_eq_getElem hi)
  refine ⟨b, off, ha, ?_⟩
  have hd' : cs = [Value.int .i64 xs[i]] := hd
  subst hd'
  have := cell_of_cells hc
  rw [show off + i * Rp.sz Int = off + i from by show off + i * 1 = _; omega] at this
  rw [this, List.getD_eq_getElem?_getD, List.getElem?_eq_getElem hi]; rfl
theorem gcd_le2 {p q : Nat} (hp : p ≤ 2000000000) (hq : q ≤ 2000000000) : Nat.gcd p q ≤ 2000000000 := by
  by_cases h : p = 0
  · subst h; simpa using hq
  · have := Nat.gcd_le_left q (Nat.pos_of_ne_zero h); omega

def fI_gcd (xs : List Int) : Option Int := if xs.all (fun x => decide (0 ≤ x ∧ x ≤ 2000000000)) then some ((gcdL xs : Nat) : Int) else none
def pI_gcd (w : World) (r : Int) : Ending → World → Prop := fun e w' => e = .returned (.int .i64 r) ∧ Keeps w w'
set_option maxHeartbeats 1600000 in
theorem cI_gcd (w : World) (u0 : Value) (p0 : List Int) (g0 : RdL zt w u0 p0) (r : Int) (hF : fI_gcd p0 = some r) :
    Calls Try.prog 109 #[u0] w (pI_gcd w r) := by
  unfold fI_gcd at hF
  split at hF
  case isFalse => cases hF
  rename_i hh
  cases hF
  have HA : Hid (∀ i, i < p0.length → ∃ q : Nat, p0.getD i 0 = (q : Int) ∧ q ≤ 2000000000 ∧ (p0.take (i + 1)).foldl (fun d x => Nat.gcd d x.toNat) 0 = Nat.gcd ((p0.take i).foldl (fun d x => Nat.gcd d x.toNat) 0) q) := fun i hi => by
    have h1 := List.all_eq_true.1 hh p0[i] (List.getElem_mem hi)
    simp only [decide_eq_true_eq] at h1
    have hg : p0.getD i 0 = p0[i] := by rw [List.getD_eq_getElem?_getD, List.getElem?_eq_getElem hi]; rfl
    refine ⟨p0[i].toNat, by rw [hg]; omega, by omega, ?_⟩
    rw [List.take_succ_eq_append_getElem hi, List.foldl_append]; rfl
  clear hh
  obtain ⟨a, c, rfl, hm, hf⟩ := g0.cellI
  have HF := Lib.hid hf
  clear hf g0
  have HE : Hid (gcdL p0 = (p0.take p0.length).foldl (fun d x => Nat.gcd d x.toNat) 0) := by rw [List.take_length]; rfl
  generalize gcdL p0 = r at HE
  go_enter Try.func109, Try.ntmps109
  go_wp2
  go_loopw [3, 8] (fun d i wr => ∃ (k g : Nat), k ≤ p0.length ∧ i = .int .i64 k ∧ d = .int .i64 g ∧ g ≤ 2000000000 ∧ Hid (g = (p0.take k).foldl (fun d x => Nat.gcd d x.toNat) 0) ∧ Dr w wr) (fun _ i _ => p0.length - (intOf i).toNat)
  case atStart => exact ⟨0, 0, Nat.zero_le _, rfl, rfl, by omega, rfl, Dr.refl _⟩
  case round =>
    obtain ⟨k, g, hk, rfl, rfl, hg, HX, nd, rfl⟩ := hrel
    by_cases hlt : k < p0.length
    · obtain ⟨b, o, rfl, hc⟩ := HF.out k hlt
      obtain ⟨q, hq, hq2, hq3⟩ := HA.out k hlt
      rw [hq] at hc
      have HQ := Lib.hid hq3
      clear hq3 hq
      rw [← HX.out] at HQ
      generalize hGe : (p0.take (k + 1)).foldl (fun d x => Nat.gcd d x.toNat) 0 = G at HQ
      have HGe := Lib.hid hGe.symm
      clear hGe
      have HB : Hid (G ≤ 2000000000) := by rw [HQ.out]; exact gcd_le2 hg hq2
      clear HX
      go_wp2
      go_loopw [3, 5] (fun x y wr => ∃ p s : Nat, x = .int .i64 p ∧ y = .int .i64 s ∧ p ≤ 2000000000 ∧ s ≤ 2000000000 ∧ Hid (G = Nat.gcd p s) ∧ Dr w wr) (fun _ y _ => (intOf y).toNat)
      case atStart => exact ⟨g, q, rfl, rfl, hg, hq2, HQ, (Dr.refl w).more _⟩
      case round =>
        obtain ⟨p, s, rfl, rfl, hp, hs, HY, md, rfl⟩ := hrel
        by_cases hz : 0 < s
        · have hq0 : ¬ s = 0 := by omega
          have hq2 : decide ((s : Int) = 0) = false := by simp; omega
          have hq3 : ((s : Int) == 0) = false := by simp; omega
          have hq4 : ((s : Int) != 0) = true := by simp; omega
          have hm := tmod_nat p s
          have hlt := Nat.mod_lt p hz
          go_wp2
          go_region_held3 (fun W => True) (trivial) ((first | fail))
          go_wp2
          go_roundw
          case rel => exact ⟨s, p % s, rfl, by go_num, by omega, by omega, (by show G = _; rw [HY.out, Nat.gcd_comm s, ← Nat.gcd_rec, Nat.gcd_comm]), (by first | exact ((Dr.refl w).more _).more _ | exact ⟨_, rfl⟩)⟩
          case measure => simp [intOf]; omega
        · have hz0 : s = 0 := by omega
          subst hz0
          have HZ : Hid (G = p) := by show G = p; rw [HY.out, Nat.gcd_zero_right]
          go_wp2
          go_roundw
          case rel => exact ⟨k + 1, G, by omega, by go_num, by rw [HZ.out], HB.out, HGe, (Dr.refl w).more _⟩
          case measure => simp [intOf]; omega
    · go_wp2
      go_ret
      have he : k = p0.length := by omega
      subst he
      refine ⟨?_, (Keeps.refl w).drewN _⟩
      rw [HE.out, ← HX.out]
      rfl
end Go.Proofs.Ytffgdhbhlcifmaa
