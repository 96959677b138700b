/- slices.IndexFunc and slices.ContainsFunc, for whatever function value, at the instances of this translation. -/
import Derived.Test.YtcjmpodljhcbhaaOpen
namespace Go.Proofs.Ytcjmpodljhcbhaa
open Go.RowKit
set_option linter.unusedSimpArgs false
set_option linter.unusedVariables false

/-- The first index at which p holds, or -1. -/
def firstIdx (p : Nat → Bool) (n : Nat) : Int := match (List.range n).find? p with | some i => (i : Int) | none => -1

theorem firstIdx_some {p : Nat → Bool} {n k : Nat} (hk : k < n) (h : p k = true) (hb : ∀ j, j < k → p j = false) : firstIdx p n = k := by
  have : (List.range n).find? p = some k := by
    rw [List.find?_range_eq_some]
    exact ⟨h, by simpa using hk, fun j hj => by simp [hb j hj]⟩
  simp [firstIdx, this]
theorem firstIdx_none {p : Nat → Bool} {n : Nat} (h : ∀ j, j < n → p j = false) : firstIdx p n = -1 := by
  have : (List.range n).find? p = none := by
    rw [List.find?_eq_none]
    intro x hx
    simp [h x (by simpa using hx)]
  simp [firstIdx, this]
theorem firstIdx_nonneg (p : Nat → Bool) (n : Nat) : decide (0 ≤ firstIdx p n) = (List.range n).any p := by
  unfold firstIdx
  cases h : (List.range n).find? p with
  | none =>
    rw [List.find?_eq_none] at h
    simp
    intro x hx
    simpa using h x (by simpa using hx)
  | some i =>
    have := List.find?_some h
    have hm := List.mem_of_find?_eq_some h
    simp
    exact ⟨i, by simpa using hm, this⟩

set_option maxHeartbeats 400000 in
theorem indexFunc_int (fn : Nat) (eg : ∀ args w, (callFunc fn args).run Try.prog w = .ok (.enter fn args) w) (caps : Array Value) (v : Value) (xs : List Value) (p : Nat → Bool) (J : World → Prop) (w : World) (hJ : J w) (hS : ∀ w', J w' → Sl w' v xs)
    (hf : ∀ i, i < xs.length → ∀ w', J w' → Calls Try.prog fn (#[xs.getD i undef] ++ caps) w' fun e w'' => e = .returned (.bool (p i)) ∧ J w'') :
    Calls Try.prog 94 #[v, .func (.func fn) #[] caps] w fun e w' => e = .returned (.int .i64 (firstIdx p xs.length)) ∧ J w' := by
  have HS := Lib.hid hS
  have HF := Lib.hid hf
  have HJ := Lib.hid hJ
  obtain ⟨a, c, rfl, hm, hfm⟩ := (hS w hJ).form
  clear hS hf hJ hfm
  go_enter Try.func94, Try.ntmps94
  go_wp2
  go_loopw [8] (fun i wr => ∃ k : Nat, i = .int .i64 k ∧ k ≤ xs.length ∧ (∀ j, j < k → p j = false) ∧ J wr) (fun i _ => xs.length - (intOf i).toNat)
  case atStart => exact ⟨0, rfl, Nat.zero_le _, fun j hj => by omega, HJ.out⟩
  case round =>
    obtain ⟨k, rfl, hk, hall, hJ⟩ := hrel
    have HA := Lib.hid hall
    have HJr := Lib.hid hJ
    clear hall hJ
    by_cases hlt : k < xs.length
    · obtain ⟨a', c', he, _, hform⟩ := (HS.out wr HJr.out).form
      cases he
      obtain ⟨b, o, rfl, hc⟩ := hform k hlt
      clear hform
      have HFk := Lib.hid (HF.out k hlt wr HJr.out)
      generalize xs.getD k undef = x at *
      cases hp : p k
      · have HP := Lib.hid hp
        clear hp
        go_wp2_with fail
        refine (HFk.out).mono ?_
        rintro e w' ⟨rfl, hJ'⟩
        rw [HP.out]
        go_wp2
        go_roundw
        case rel =>
          refine ⟨k + 1, by go_num, by omega, fun j hj => ?_, hJ'⟩
          by_cases e : j = k
          · rw [e]; exact HP.out
          · exact HA.out j (by omega)
        case measure => simp [intOf]; omega
      · have HP := Lib.hid hp
        clear hp
        go_wp2_with fail
        refine (HFk.out).mono ?_
        rintro e w' ⟨rfl, hJ'⟩
        rw [HP.out]
        go_wp2
        go_ret
        exact ⟨by rw [firstIdx_some hlt HP.out HA.out]; rfl, hJ'⟩
    · go_wp2
      go_ret
      exact ⟨by rw [firstIdx_none (fun j hj => HA.out j (by omega))]; rfl, HJr.out⟩

set_option maxHeartbeats 400000 in
theorem containsFunc_int (fn : Nat) (eg : ∀ args w, (callFunc fn args).run Try.prog w = .ok (.enter fn args) w) (caps : Array Value) (v : Value) (xs : List Value) (p : Nat → Bool) (J : World → Prop) (w : World) (hJ : J w) (hS : ∀ w', J w' → Sl w' v xs)
    (hf : ∀ i, i < xs.length → ∀ w', J w' → Calls Try.prog fn (#[xs.getD i undef] ++ caps) w' fun e w'' => e = .returned (.bool (p i)) ∧ J w'') :
    Calls Try.prog 109 #[v, .func (.func fn) #[] caps] w fun e w' => e = .returned (.bool ((List.range xs.length).any p)) ∧ J w' := by
  have HI := Lib.hid (indexFunc_int fn eg caps v xs p J w hJ hS hf)
  clear hJ hS hf eg
  go_enter Try.func109, Try.ntmps109
  go_wp2_with (go_at_call 94; refine (HI.out).mono ?_; rintro e w' ⟨rfl, hJ'⟩)
  go_ret
  exact ⟨by rw [← firstIdx_nonneg]; rfl, hJ'⟩
end Go.Proofs.Ytcjmpodljhcbhaa
