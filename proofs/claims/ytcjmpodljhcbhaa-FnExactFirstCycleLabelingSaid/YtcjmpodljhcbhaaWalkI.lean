/- The contracts of both IsWalkProblem functions. -/
import Derived.Test.YtcjmpodljhcbhaaWalk
namespace Go.Proofs.Ytcjmpodljhcbhaa
open Go.RowKit
set_option linter.unusedSimpArgs false
set_option linter.unusedVariables false

set_option maxHeartbeats 4000000 in
theorem isWalkI_any (v : Value) (x : WP) (w : World) (h : RdW w v x) :
    Calls Try.prog 18 #[v] w fun e w' => e = .returned (.bool (walkGood x)) ∧ Keeps w w' := by
  obtain ⟨v1, rfl, r1⟩ := h
  have R1 := Lib.hid r1
  obtain ⟨a1, c1, rfl, m1, _⟩ := r1.form
  have HG : Hid (walkGood x = (inB x.labels 1 12 && (List.range x.arcs.length).all (arcOk x.labels x.arcs))) := rfl
  clear r1
  cases hb : inB x.labels 1 12
  · have HB := Lib.hid hb
    go_enter Try.func18, Try.ntmps18
    go_wp2_with (go_at_call 56; refine (within_any _ _ _ _).mono ?_; rintro e w' ⟨rfl, rfl⟩; rw [HB.out])
    go_ret
    exact ⟨by rw [HG.out, HB.out]; rfl, (Keeps.refl _).alloc _⟩
  have HB := Lib.hid hb
  obtain ⟨b1, b2⟩ := inB_true.1 hb
  clear hb
  go_enter Try.func18, Try.ntmps18
  go_wp2_with (go_at_call 56; refine (within_any _ _ _ _).mono ?_; rintro e w' ⟨rfl, rfl⟩; rw [HB.out])
  have K0 : Hid (Keeps w (w.alloc (.cells #[.int .i64 x.labels, .slice a1 x.arcs.length c1] 27))) := (Keeps.refl _).alloc _
  have C0 : Hid ((w.alloc (.cells #[.int .i64 x.labels, .slice a1 x.arcs.length c1] 27)).cell? ⟨w.heap.size, 0, none⟩ = some (.int .i64 x.labels)) := by show _ = _; rw [World.cell?_alloc_at _ _ _ _ rfl]; rfl
  have C1 : Hid ((w.alloc (.cells #[.int .i64 x.labels, .slice a1 x.arcs.length c1] 27)).cell? ⟨w.heap.size, 1, none⟩ = some (.slice a1 x.arcs.length c1)) := by show _ = _; rw [World.cell?_alloc_at _ _ _ _ rfl]; rfl
  generalize hW : (w.alloc (.cells #[.int .i64 x.labels, .slice a1 x.arcs.length c1] 27)) = W0 at K0 C0 C1
  have HW := Lib.hid hW
  clear hW
  go_loopw [12] (fun i wr => ∃ k : Nat, i = .int .i64 k ∧ k ≤ x.arcs.length ∧ (∀ j, j < k → arcOk x.labels x.arcs j = true) ∧ Keeps W0 wr) (fun i _ => x.arcs.length - (intOf i).toNat)
  case atStart => exact ⟨0, rfl, Nat.zero_le _, fun j hj => by omega, Keeps.refl _⟩
  case round =>
    obtain ⟨k, rfl, hk, hall, hK⟩ := hrel
    have HA := Lib.hid hall
    have HK := Lib.hid hK
    clear hall hK
    have KW : Hid (Keeps w wr) := Keeps.trans K0.out HK.out
    by_cases hlt : k < x.arcs.length
    · have RR := (R1.out.keep KW.out).form
      obtain ⟨_, _, e1, _, hf⟩ := RR
      cases e1
      obtain ⟨b, o, u, rfl, hcell, hu⟩ := hf k hlt
      have HU := Lib.hid hu
      obtain ⟨ua, uc, rfl, hum, _⟩ := hu.form
      have HR : Hid (arcOk x.labels x.arcs k = ((((x.arcs.getD k []).length : Int) == 2) && allIn (x.arcs.getD k []) 0 (x.labels - 1) && (decide (k = 0) || decide (lexCmp (x.arcs.getD (k - 1) []) (x.arcs.getD k []) < 0)))) := rfl
      have step : arcOk x.labels x.arcs k = true → ∀ j, j < k + 1 → arcOk x.labels x.arcs j = true := by
        intro hp j hj
        by_cases hjk : j = k
        · rw [hjk]; exact hp
        · exact HA.out j (by omega)
      have STEP := Lib.hid step
      have hp : ∃ pv, (0 < k → wr.cell? ⟨b, o + (k - 1), none⟩ = some pv ∧ Ints wr pv (x.arcs.getD (k - 1) [])) := by
        by_cases h0 : 0 < k
        · obtain ⟨b', o', u', he, hc', hu'⟩ := hf (k - 1) (by omega)
          cases he
          exact ⟨u', fun _ => ⟨hc', hu'⟩⟩
        · exact ⟨undef, fun h => absurd h h0⟩
      obtain ⟨pv, hp⟩ := hp
      have HP := Lib.hid hp
      clear hp step hu hf
      have d0 := cell_keep HK.out C0.out
      have d1 := cell_keep HK.out C1.out
      have HRD : Hid (RdW wr (.agg #[.int .i64 x.labels, .slice (some ⟨b, o, none⟩) x.arcs.length c1]) x) := ⟨_, rfl, R1.out.keep KW.out⟩
      generalize x.arcs.getD k [] = r at HU HR hum hcell
      generalize x.arcs.getD (k - 1) [] = q at HP HR
      cases h2 : ((r.length : Int) != 2)
      case true =>
        have h2' : ((r.length : Int) == 2) = false := by simpa using h2
        go_wp2
        go_ret
        exact ⟨by rw [HG.out, rangeAll_false hlt (by rw [HR.out, h2']; rfl)]; simp, KW.out⟩
      have h2' : ((r.length : Int) == 2) = true := by simpa using h2
      have HHL : Hid (Calls Try.prog 57 #[.agg #[.int .i64 x.labels, .slice (some ⟨b, o, none⟩) x.arcs.length c1], .slice ua r.length uc] wr fun e w' => e = .returned (.bool (allIn r 0 (x.labels - 1))) ∧ Keeps wr w') := hasLabelsW_any _ x _ r wr HRD.out HU.out (by omega) (by omega)
      cases hal : allIn r 0 (x.labels - 1)
      · have HAL := Lib.hid hal
        clear hal
        go_wp2_with (go_at_call 57; refine (HHL.out).mono ?_; rintro e w' ⟨rfl, hk'⟩; rw [HAL.out]; have HK' := Lib.hid hk'; clear hk')
        go_ret
        exact ⟨by rw [HG.out, rangeAll_false hlt (by rw [HR.out, h2', HAL.out]; rfl)]; simp, Keeps.trans KW.out HK'.out⟩
      have HAL := Lib.hid hal
      clear hal
      by_cases h0 : (0 : Int) < (k : Int)
      · have h0n : 0 < k := by omega
        obtain ⟨hpc, hpu⟩ := HP.out h0n
        have HPU := Lib.hid hpu
        obtain ⟨pa, pc, rfl, _, _⟩ := hpu.form
        have hsub : ((k : Int) - 1).toNat = k - 1 := by omega
        have D1 := Lib.hid d1
        have HPC := Lib.hid hpc
        clear hpu hpc
        cases hx : decide (0 ≤ lexCmp q r)
        · have hx' : lexCmp q r < 0 := by simpa using hx
          have HX := Lib.hid hx'
          clear hx hx'
          go_wp2_with (first | (go_at_call 57; refine (HHL.out).mono ?_; rintro e w' ⟨rfl, hk'⟩; rw [HAL.out]; have HK' := Lib.hid hk'; have d2 := cell_keep hk' D1.out; have d3 := cell_keep hk' HPC.out; clear hk') | (go_at_call 58; refine (compare_any _ _ q r _ (HPU.out.keep HK'.out) (HU.out.keep HK'.out)).mono ?_; rintro e w'' ⟨rfl, rfl⟩; have hz := HX.out; have hz' : ¬ 0 ≤ lexCmp q r := by omega))
          go_roundw
          case rel => exact ⟨k + 1, by go_num, by omega, STEP.out (by have := HX.out; rw [HR.out, h2', HAL.out]; simp; omega), Keeps.trans HK.out HK'.out⟩
          case measure => simp [intOf]; omega
        · have hx' : 0 ≤ lexCmp q r := by simpa using hx
          have HX := Lib.hid hx'
          clear hx hx'
          go_wp2_with (first | (go_at_call 57; refine (HHL.out).mono ?_; rintro e w' ⟨rfl, hk'⟩; rw [HAL.out]; have HK' := Lib.hid hk'; have d2 := cell_keep hk' D1.out; have d3 := cell_keep hk' HPC.out; clear hk') | (go_at_call 58; refine (compare_any _ _ q r _ (HPU.out.keep HK'.out) (HU.out.keep HK'.out)).mono ?_; rintro e w'' ⟨rfl, rfl⟩; have hz := HX.out))
          go_ret
          exact ⟨by have := HX.out; rw [HG.out, rangeAll_false hlt (by rw [HR.out, h2', HAL.out]; simp; omega)]; simp, Keeps.trans KW.out HK'.out⟩
      · go_wp2_with (go_at_call 57; refine (HHL.out).mono ?_; rintro e w' ⟨rfl, hk'⟩; rw [HAL.out]; have HK' := Lib.hid hk'; clear hk')
        go_roundw
        case rel => exact ⟨k + 1, by go_num, by omega, STEP.out (by rw [HR.out, h2', HAL.out]; simp; omega), Keeps.trans HK.out HK'.out⟩
        case measure => simp [intOf]; omega
    · go_wp2
      go_ret
      exact ⟨by rw [HG.out, HB.out, rangeAll_true (fun j hj => HA.out j (by omega))]; rfl, KW.out⟩

/-- Its numbers fit 64 bits. -/
def okW (x : WP) : Prop := I64 x.labels ∧ ∀ r ∈ x.arcs, ∀ n ∈ r, I64 n
def fIsWalkProblemSpec (x : WP) : Bool := walkGood x
def fIsWalkProblemImpl (x : WP) : Bool := walkGood x
theorem IsWalkProblem_eq (x : WP) (ok : okW x) (hs : szW x ≤ 1048576) : fIsWalkProblemImpl x = fIsWalkProblemSpec x := rfl

theorem implIsWalkProblem_any (v : Value) (x : WP) (w : World) (h : RdW w v x) (ok : okW x) (hs : szW x ≤ 1048576) :
    Calls Try.prog 18 #[v] w fun e w' => e = .returned (.bool (fIsWalkProblemImpl x)) ∧ Keeps w w' := isWalkI_any v x w h

theorem specIsWalkProblem_any (v : Value) (x : WP) (w : World) (h : RdW w v x) (ok : okW x) (hs : szW x ≤ 1048576) :
    Calls Try.prog 16 #[v] w fun e w' => e = .returned (.bool (fIsWalkProblemSpec x)) ∧ Keeps w w' := by
  obtain ⟨v1, rfl, r1⟩ := h
  have R1 := Lib.hid r1
  obtain ⟨a1, c1, rfl, m1, _⟩ := r1.form
  clear r1
  have K0 : Hid (Keeps w (w.alloc (.cells #[.int .i64 x.labels, .slice a1 x.arcs.length c1] 27))) := (Keeps.refl _).alloc _
  go_enter Try.func16, Try.ntmps16
  go_wp2_with (go_at_call 54; refine (waGood_any _ x _ ⟨_, rfl, R1.out.keep K0.out⟩).mono ?_; rintro e w' ⟨rfl, hk⟩)
  go_ret
  exact ⟨rfl, Keeps.trans K0.out hk⟩
end Go.Proofs.Ytcjmpodljhcbhaa
