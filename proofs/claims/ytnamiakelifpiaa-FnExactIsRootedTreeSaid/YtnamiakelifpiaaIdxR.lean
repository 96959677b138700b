/- slices.IndexFunc and slices.ContainsFunc on lists of lists, for whatever function value. -/
import Derived.Test.YtnamiakelifpiaaIdx
namespace Go.Proofs.Ytnamiakelifpiaa
open Go.RowKit
set_option linter.unusedSimpArgs false
set_option linter.unusedVariables false

set_option maxHeartbeats 400000 in
theorem indexFunc_row (fn : Nat) (eg : ∀ args w, (callFunc fn args).run Try.prog w = .ok (.enter fn args) w) (caps : Array Value) (v : Value) (xs : List Value) (p : Nat → Bool) (J : World → Prop) (w : World) (hJ : J w) (hS : ∀ w', J w' → Sl w' v xs)
    (hf : ∀ i, i < xs.length → ∀ w', J w' → Calls Try.prog fn (#[xs.getD i undef] ++ caps) w' fun e w'' => e = .returned (.bool (p i)) ∧ J w'') :
    Calls Try.prog 44 #[v, .func (.func fn) #[] caps] w fun e w' => e = .returned (.int .i64 (firstIdx p xs.length)) ∧ J w' := by
  have HS := Lib.hid hS
  have HF := Lib.hid hf
  have HJ := Lib.hid hJ
  obtain ⟨a, c, rfl, hm, hfm⟩ := (hS w hJ).form
  clear hS hf hJ hfm
  go_enter Try.func44, Try.ntmps44
  go_wp2
  go_loopw [8] (fun i wr => ∃ k : Nat, i = .int .i64 k ∧ k ≤ xs.length ∧ (∀ j, j < k → p j = false) ∧ J wr) (fun i _ => xs.length - (intOf i).toNat)
  case atStart => exact ⟨0, rfl, Nat.zero_le _, fun j hj => by omega, HJ.out⟩
  case round =>
    obtain ⟨k, rfl, hk, hall, hJ⟩ := hrel
    have HA := Lib.hid hall
    have HJr := Lib.hid hJ
    clear hall hJ
    by_cases hlt : k < xs.length
    · obtain ⟨a', c', he, _, hform⟩ := (HS.out wr HJr.out).form
      cases he
      obtain ⟨b, o, rfl, hc⟩ := hform k hlt
      clear hform
      have HFk := Lib.hid (HF.out k hlt wr HJr.out)
      generalize xs.getD k undef = x at *
      cases hp : p k
      · have HP := Lib.hid hp
        clear hp
        go_wp2_with fail
        refine (HFk.out).mono ?_
        rintro e w' ⟨rfl, hJ'⟩
        rw [HP.out]
        go_wp2
        go_roundw
        case rel =>
          refine ⟨k + 1, by go_num, by omega, fun j hj => ?_, hJ'⟩
          by_cases e : j = k
          · rw [e]; exact HP.out
          · exact HA.out j (by omega)
        case measure => simp [intOf]; omega
      · have HP := Lib.hid hp
        clear hp
        go_wp2_with fail
        refine (HFk.out).mono ?_
        rintro e w' ⟨rfl, hJ'⟩
        rw [HP.out]
        go_wp2
        go_ret
        exact ⟨by rw [firstIdx_some hlt HP.out HA.out]; rfl, hJ'⟩
    · go_wp2
      go_ret
      exact ⟨by rw [firstIdx_none (fun j hj => HA.out j (by omega))]; rfl, HJr.out⟩

set_option maxHeartbeats 400000 in
theorem containsFunc_row (fn : Nat) (eg : ∀ args w, (callFunc fn args).run Try.prog w = .ok (.enter fn args) w) (caps : Array Value) (v : Value) (xs : List Value) (p : Nat → Bool) (J : World → Prop) (w : World) (hJ : J w) (hS : ∀ w', J w' → Sl w' v xs)
    (hf : ∀ i, i < xs.length → ∀ w', J w' → Calls Try.prog fn (#[xs.getD i undef] ++ caps) w' fun e w'' => e = .returned (.bool (p i)) ∧ J w'') :
    Calls Try.prog 25 #[v, .func (.func fn) #[] caps] w fun e w' => e = .returned (.bool ((List.range xs.length).any p)) ∧ J w' := by
  have HI := Lib.hid (indexFunc_row fn eg caps v xs p J w hJ hS hf)
  clear hJ hS hf eg
  go_enter Try.func25, Try.ntmps25
  go_wp2_with (go_at_call 44; refine (HI.out).mono ?_; rintro e w' ⟨rfl, hJ'⟩)
  go_ret
  exact ⟨by rw [← firstIdx_nonneg]; rfl, hJ'⟩
end Go.Proofs.Ytnamiakelifpiaa
