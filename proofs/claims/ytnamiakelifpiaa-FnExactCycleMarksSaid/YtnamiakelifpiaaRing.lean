/- The contracts of isRing, cyLong, areRingColours, cyColours. -/
import Derived.Test.YtnamiakelifpiaaAll
import Derived.Test.YtnamiakelifpiaaGaps
namespace Go.Proofs.Ytnamiakelifpiaa
open Go.RowKit
set_option linter.unusedSimpArgs false
set_option linter.unusedVariables false

def ringAt (l : List Int) (i : Nat) : Bool := l.getD i 0 != l.getD ((i + 1) % l.length) 0
def ringCol (l : List Int) : Bool := inB l.length 2 180 && allIn l 0 1000000000000 && (List.range l.length).all (ringAt l)

set_option maxHeartbeats 400000 in
theorem isRing_any (v : Value) (l : List Int) (w : World) (h : Ints w v l) :
    Calls Try.prog 48 #[v] w fun e w' => e = .returned (.bool (inB l.length 2 180)) ∧ w = w' := by
  obtain ⟨a, c, rfl, hm, hf⟩ := h.form
  clear h hf
  go_enter Try.func48, Try.ntmps48
  go_wp2_with (first | (go_at_call 23; refine (within_any _ _ _ _).mono ?_; rintro e w' ⟨rfl, rfl⟩) | (go_at_call 22; refine (l1In_any _ _ _ _).mono ?_; rintro e w' ⟨rfl, rfl⟩))
  go_ret
  exact ⟨rfl, rfl⟩

set_option maxHeartbeats 800000 in
theorem areRingColours_any (v : Value) (l : List Int) (w : World) (h : Ints w v l) :
    Calls Try.prog 35 #[v] w fun e w' => e = .returned (.bool (ringCol l)) ∧ Keeps w w' := by
  have H := Lib.hid h
  obtain ⟨a, c, rfl, hm, hf⟩ := h.form
  clear h hf
  have HR : Hid (ringCol l = (inB l.length 2 180 && allIn l 0 1000000000000 && (List.range l.length).all (ringAt l))) := rfl
  cases hb : inB l.length 2 180
  · have HB := Lib.hid hb
    clear hb
    go_enter Try.func35, Try.ntmps35
    go_wp2_with (go_at_call 48; refine (isRing_any _ _ _ H.out).mono ?_; rintro e w' ⟨rfl, rfl⟩; rw [HB.out])
    go_ret
    exact ⟨by rw [HR.out, HB.out]; rfl, Keeps.refl _⟩
  have hbl := inB_true.1 hb
  obtain ⟨hbl1, hbl2⟩ := hbl
  have HB := Lib.hid hb
  clear hb
  cases ha : allIn l 0 1000000000000
  · have HA := Lib.hid ha
    clear ha
    go_enter Try.func35, Try.ntmps35
    go_wp2_with (first | (go_at_call 48; refine (isRing_any _ _ _ H.out).mono ?_; rintro e w' ⟨rfl, rfl⟩; rw [HB.out]) | (go_at_call 36; refine (allWithin_any _ _ _ _ _ H.out).mono ?_; rintro e w1 ⟨rfl, k1⟩; rw [HA.out]))
    go_ret
    exact ⟨by rw [HR.out, HB.out, HA.out]; rfl, k1⟩
  have HA := Lib.hid ha
  clear ha
  go_enter Try.func35, Try.ntmps35
  go_wp2_with (first | (go_at_call 48; refine (isRing_any _ _ _ H.out).mono ?_; rintro e w' ⟨rfl, rfl⟩; rw [HB.out]) | (go_at_call 36; refine (allWithin_any _ _ _ _ _ H.out).mono ?_; rintro e w1 ⟨rfl, k1⟩; rw [HA.out]))
  have K1 := Lib.hid k1; clear k1
  skip
  obtain ⟨a', c', he, _, hf⟩ := (H.out.keep K1.out).form
  cases he
  have HF := Lib.hid hf
  clear hf
  go_loop [15] (fun i => ∃ k : Nat, i = .int .i64 k ∧ k ≤ l.length ∧ ∀ j, j < k → ringAt l j = true) (fun i => l.length - (intOf i).toNat)
  case atStart => exact ⟨0, rfl, Nat.zero_le _, fun j hj => by omega⟩
  case round =>
    obtain ⟨k, rfl, hk, hall⟩ := hrel
    have HAl := Lib.hid hall
    clear hall
    by_cases hlt : k < l.length
    · obtain ⟨b, o, rfl, hc⟩ := HF.out k hlt
      have hmod : (k + 1) % l.length < l.length := Nat.mod_lt _ (by omega)
      obtain ⟨b', o', he, hc2⟩ := HF.out ((k + 1) % l.length) hmod
      cases he
      have hi1 : (0 : Int) ≤ ((k : Int) + 1) % (l.length : Int) := Int.emod_nonneg _ (by omega)
      have hi2 : ((k : Int) + 1) % (l.length : Int) < (l.length : Int) := Int.emod_lt_of_pos _ (by omega)
      have hi3 : (((k : Int) + 1) % (l.length : Int)).toNat = (k + 1) % l.length := by
        have : ((k : Int) + 1) % (l.length : Int) = (((k + 1) % l.length : Nat) : Int) := by simp
        rw [this, Int.toNat_natCast]
      have HX : Hid (ringAt l k = (l.getD k 0 != l.getD ((k + 1) % l.length) 0)) := rfl
      generalize l.getD k 0 = x at hc HX
      generalize l.getD ((k + 1) % l.length) 0 = y at hc2 HX
      cases hxy : (x == y)
      · go_wp2
        go_round
        case rel =>
          refine ⟨k + 1, by go_num, by omega, fun j hj => ?_⟩
          by_cases hjk : j = k
          · rw [hjk, HX.out, bne, hxy]; rfl
          · exact HAl.out j (by omega)
        case measure => simp [intOf]; omega
      · go_wp2
        go_ret
        exact ⟨by rw [HR.out, HB.out, HA.out, range_all_false hlt (by rw [HX.out, bne, hxy]; rfl)]; rfl, K1.out⟩
    · go_wp2
      go_ret
      exact ⟨by rw [HR.out, HB.out, HA.out, range_all_true (fun j hj => HAl.out j (by omega))]; rfl, K1.out⟩

set_option maxHeartbeats 400000 in
theorem cyLong_any (v : Value) (l : List Int) (w : World) (h : Ints w v l) :
    Calls Try.prog 47 #[v] w fun e w' => e = .returned (.bool (inB l.length 2 180)) ∧ w = w' := by
  obtain ⟨a, c, rfl, hm, hf⟩ := h.form
  clear h hf
  go_enter Try.func47, Try.ntmps47
  go_wp2_with (first | (go_at_call 23; refine (within_any _ _ _ _).mono ?_; rintro e w' ⟨rfl, rfl⟩) | (go_at_call 22; refine (l1In_any _ _ _ _).mono ?_; rintro e w' ⟨rfl, rfl⟩))
  go_ret
  exact ⟨rfl, rfl⟩

set_option maxHeartbeats 800000 in
theorem cyColours_any (v : Value) (l : List Int) (w : World) (h : Ints w v l) :
    Calls Try.prog 32 #[v] w fun e w' => e = .returned (.bool (ringCol l)) ∧ Keeps w w' := by
  have H := Lib.hid h
  obtain ⟨a, c, rfl, hm, hf⟩ := h.form
  clear h hf
  have HR : Hid (ringCol l = (inB l.length 2 180 && allIn l 0 1000000000000 && (List.range l.length).all (ringAt l))) := rfl
  cases hb : inB l.length 2 180
  · have HB := Lib.hid hb
    clear hb
    go_enter Try.func32, Try.ntmps32
    go_wp2_with (go_at_call 47; refine (cyLong_any _ _ _ H.out).mono ?_; rintro e w' ⟨rfl, rfl⟩; rw [HB.out])
    go_ret
    exact ⟨by rw [HR.out, HB.out]; rfl, Keeps.refl _⟩
  have hbl := inB_true.1 hb
  obtain ⟨hbl1, hbl2⟩ := hbl
  have HB := Lib.hid hb
  clear hb
  cases ha : allIn l 0 1000000000000
  · have HA := Lib.hid ha
    clear ha
    go_enter Try.func32, Try.ntmps32
    go_wp2_with (first | (go_at_call 47; refine (cyLong_any _ _ _ H.out).mono ?_; rintro e w' ⟨rfl, rfl⟩; rw [HB.out]) | (go_at_call 33; refine (l1All_any _ _ _ _ _ H.out).mono ?_; rintro e w1 ⟨rfl, rfl⟩; rw [HA.out]))
    go_ret
    exact ⟨by rw [HR.out, HB.out, HA.out]; rfl, Keeps.refl _⟩
  have HA := Lib.hid ha
  clear ha
  go_enter Try.func32, Try.ntmps32
  go_wp2_with (first | (go_at_call 47; refine (cyLong_any _ _ _ H.out).mono ?_; rintro e w' ⟨rfl, rfl⟩; rw [HB.out]) | (go_at_call 33; refine (l1All_any _ _ _ _ _ H.out).mono ?_; rintro e w1 ⟨rfl, rfl⟩; rw [HA.out]))
  obtain ⟨w1, hw1⟩ : ∃ w1 : World, w1 = w := ⟨w, rfl⟩; have K1 : Hid (Keeps w w1) := by rw [hw1]; exact Keeps.refl _
  rw [← hw1]; clear hw1
  obtain ⟨a', c', he, _, hf⟩ := (H.out.keep K1.out).form
  cases he
  have HF := Lib.hid hf
  clear hf
  go_loop [15] (fun i => ∃ k : Nat, i = .int .i64 k ∧ k ≤ l.length ∧ ∀ j, j < k → ringAt l j = true) (fun i => l.length - (intOf i).toNat)
  case atStart => exact ⟨0, rfl, Nat.zero_le _, fun j hj => by omega⟩
  case round =>
    obtain ⟨k, rfl, hk, hall⟩ := hrel
    have HAl := Lib.hid hall
    clear hall
    by_cases hlt : k < l.length
    · obtain ⟨b, o, rfl, hc⟩ := HF.out k hlt
      have hmod : (k + 1) % l.length < l.length := Nat.mod_lt _ (by omega)
      obtain ⟨b', o', he, hc2⟩ := HF.out ((k + 1) % l.length) hmod
      cases he
      have hi1 : (0 : Int) ≤ ((k : Int) + 1) % (l.length : Int) := Int.emod_nonneg _ (by omega)
      have hi2 : ((k : Int) + 1) % (l.length : Int) < (l.length : Int) := Int.emod_lt_of_pos _ (by omega)
      have hi3 : (((k : Int) + 1) % (l.length : Int)).toNat = (k + 1) % l.length := by
        have : ((k : Int) + 1) % (l.length : Int) = (((k + 1) % l.length : Nat) : Int) := by simp
        rw [this, Int.toNat_natCast]
      have HX : Hid (ringAt l k = (l.getD k 0 != l.getD ((k + 1) % l.length) 0)) := rfl
      generalize l.getD k 0 = x at hc HX
      generalize l.getD ((k + 1) % l.length) 0 = y at hc2 HX
      cases hxy : (x == y)
      · go_wp2
        go_round
        case rel =>
          refine ⟨k + 1, by go_num, by omega, fun j hj => ?_⟩
          by_cases hjk : j = k
          · rw [hjk, HX.out, bne, hxy]; rfl
          · exact HAl.out j (by omega)
        case measure => simp [intOf]; omega
      · go_wp2
        go_ret
        exact ⟨by rw [HR.out, HB.out, HA.out, range_all_false hlt (by rw [HX.out, bne, hxy]; rfl)]; rfl, K1.out⟩
    · go_wp2
      go_ret
      exact ⟨by rw [HR.out, HB.out, HA.out, range_all_true (fun j hj => HAl.out j (by omega))]; rfl, K1.out⟩
end Go.Proofs.Ytnamiakelifpiaa
