/- The contracts of within, l1In and both CompleteTree functions. -/
import Derived.Test.YtnamiakelifpiaaHelp
import Derived.Deep.RegionHeld3
namespace Go.Proofs.Ytnamiakelifpiaa
open Go.RowKit
set_option linter.unusedSimpArgs false
set_option linter.unusedVariables false

/-- lo ≤ n ≤ hi. -/
def inB (n lo hi : Int) : Bool := decide (lo ≤ n) && decide (n ≤ hi)
theorem inB_true {n lo hi : Int} : inB n lo hi = true ↔ lo ≤ n ∧ n ≤ hi := by simp [inB]
theorem inB_false {n lo hi : Int} : inB n lo hi = false ↔ n < lo ∨ hi < n := by simp [inB]; omega

theorem within_any (n lo hi : Int) (w : World) :
    Calls Try.prog 23 #[.int .i64 n, .int .i64 lo, .int .i64 hi] w fun e w' => e = .returned (.bool (inB n lo hi)) ∧ w = w' := by
  by_cases h1 : lo ≤ n <;> by_cases h2 : n ≤ hi
  all_goals
    have Hb := Lib.hid (show inB n lo hi = (decide (lo ≤ n) && decide (n ≤ hi)) from rfl)
    go_enter Try.func23, Try.ntmps23
    go_wp2
    go_ret
    exact ⟨by rw [Hb.out]; simp [h1, h2], rfl⟩

theorem l1In_any (n lo hi : Int) (w : World) :
    Calls Try.prog 22 #[.int .i64 n, .int .i64 lo, .int .i64 hi] w fun e w' => e = .returned (.bool (inB n lo hi)) ∧ w = w' := by
  by_cases h1 : lo ≤ n <;> by_cases h2 : n ≤ hi
  all_goals
    have Hb := Lib.hid (show inB n lo hi = (decide (lo ≤ n) && decide (n ≤ hi)) from rfl)
    go_enter Try.func22, Try.ntmps22
    go_wp2
    go_ret
    exact ⟨by rw [Hb.out]; simp [h1, h2], rfl⟩

/-- The call returns a list and whether there is one. -/
def RetSB (w0 : World) (r : Option (List Int)) (e : Ending) (w' : World) : Prop :=
  ∃ v, e = .returned (.tuple #[v, .bool r.isSome]) ∧ Own w0.heap.size w' v (r.getD []) ∧ (r.getD []).length ≤ 1000000000 ∧ Keeps w0 w'

theorem RetSB.none {w0 w' : World} (h : Keeps w0 w') : RetSB w0 none (.returned (.tuple #[.slice none 0 0, .bool false])) w' :=
  ⟨_, rfl, Own.nil _ _, by simp, h⟩

/-! ### The plain functions -/
def ctRow (c from' n : Nat) : List Int := (List.range' from' n).flatMap fun v : Nat => List.replicate c (v : Int)
def ctGo (c : Nat) : Nat → List Int → Nat → Option (List Int)
  | 0, out, _ => some out
  | k + 1, out, from' =>
    let out' := out ++ ctRow c from' (out.length - from')
    if 200 < out'.length then none else ctGo c k out' out.length
def ctSpec (c d : Int) : Option (List Int) := if inB c 1 3 && inB d 0 200 then ctGo c.toNat d.toNat [-1] 0 else none

theorem ctRow_length (c from' n : Nat) : (ctRow c from' n).length = n * c := by
  induction n generalizing from' with
  | zero => simp [ctRow]
  | succ n ih =>
    have := ih (from' + 1)
    simp [ctRow, List.range'_succ] at this ⊢
    rw [this, Nat.succ_mul]; omega
theorem ctRow_succ (c from' n : Nat) : ctRow c from' (n + 1) = ctRow c from' n ++ List.replicate c ((from' + n : Nat) : Int) := by
  simp [ctRow, List.range'_concat]

set_option maxHeartbeats 1000000 in
theorem specCompleteTree_any (c d : Int) (w : World) :
    Calls Try.prog 8 #[.int .i64 c, .int .i64 d] w (RetSB w (ctSpec c d)) := by
  cases hc : inB c 1 3
  · have HS : Hid (ctSpec c d = none) := by show _ = _; simp [ctSpec, hc]
    go_enter Try.func8, Try.ntmps8
    go_wp2_with (go_at_call 22; refine (l1In_any _ _ _ _).mono ?_; rintro e w' ⟨rfl, rfl⟩)
    go_ret2
    rw [HS.out]
    exact RetSB.none (Keeps.refl _)
  cases hd : inB d 0 200
  · have HS : Hid (ctSpec c d = none) := by show _ = _; simp [ctSpec, hd]
    go_enter Try.func8, Try.ntmps8
    go_wp2_with (go_at_call 22; refine (l1In_any _ _ _ _).mono ?_; rintro e w' ⟨rfl, rfl⟩)
    go_ret2
    rw [HS.out]
    exact RetSB.none (Keeps.refl _)
  have HS : Hid (ctSpec c d = ctGo c.toNat d.toNat [-1] 0) := by show _ = _; simp [ctSpec, hd, hc]
  have bc := inB_true.1 hc
  have bd := inB_true.1 hd
  obtain ⟨bc1, bc2⟩ := bc
  obtain ⟨bd1, bd2⟩ := bd
  obtain ⟨C, rfl⟩ := Int.eq_ofNat_of_zero_le (show 0 ≤ c by omega)
  obtain ⟨D, rfl⟩ := Int.eq_ofNat_of_zero_le bd1
  simp only [Int.toNat_natCast] at HS
  go_enter Try.func8, Try.ntmps8
  go_wp2_with (go_at_call 22; refine (l1In_any _ _ _ _).mono ?_; rintro e w' ⟨rfl, rfl⟩)
  have h0 : Hid (Own w.heap.size (w.alloc (.cells #[.int .i64 (-1)] 3)) (.slice (some ⟨w.heap.size, 0, none⟩) 1 1) [-1]) := Own.one _ _ _ (Nat.le_refl _)
  go_loopw [6, 7, 8] (fun o f k wr => ∃ (j : Nat) (out : List Int) (fr : Nat), k = .int .i64 j ∧ f = .int .i64 fr ∧ j ≤ D ∧ fr ≤ out.length ∧ out.length ≤ 200 ∧ Own w.heap.size wr o out ∧ Keeps w wr ∧ ctGo C (D - j) out fr = ctGo C D [-1] 0) (fun _ _ k _ => D - (intOf k).toNat)
  case atStart => exact ⟨0, [-1], 0, rfl, rfl, by omega, by simp, by simp, h0.out, (Keeps.refl _).alloc _, rfl⟩
  case round =>
    obtain ⟨j, out, fr, rfl, rfl, hj, hfr, hlen, hown, hkeep, hgo⟩ := hrel
    have HO := Lib.hid hown
    have HK := Lib.hid hkeep
    have HG := Lib.hid hgo
    clear hown hkeep hgo h0
    obtain ⟨a, cp, hv, _⟩ := HO.out.len
    subst hv
    by_cases hlt : j < D
    · go_wp2
      obtain ⟨wo, rfl⟩ : ∃ wo : World, wo = wr := ⟨_, rfl⟩
      go_loopw [6, 10] (fun o v wr => ∃ (p : Nat) (L : List Int), v = .int .i64 p ∧ fr ≤ p ∧ p ≤ out.length ∧ L = out ++ ctRow C fr (p - fr) ∧ Own w.heap.size wr o L ∧ Keeps w wr) (fun _ v _ => out.length - (intOf v).toNat)
      case atStart => exact ⟨fr, out, rfl, Nat.le_refl _, hfr, by simp [ctRow], HO.out, HK.out⟩
      case round =>
        obtain ⟨p, L, rfl, hp1, hp2, hL, hown, hkeep⟩ := hrel
        have HL := Lib.hid hL
        have HO1 := Lib.hid hown
        have HK1 := Lib.hid hkeep
        clear hown hkeep hL
        obtain ⟨wm, rfl⟩ : ∃ wm : World, wm = wr := ⟨_, rfl⟩
        have hb1 : L.length ≤ 800 := by
          rw [HL.out, List.length_append, ctRow_length]
          have := Nat.mul_le_mul (show p - fr ≤ 200 by omega) (show C ≤ 3 by omega)
          omega
        by_cases hlt2 : p < out.length
        · go_wp2
          go_loopw [6, 11] (fun o t wr => ∃ (q : Nat) (L2 : List Int), t = .int .i64 q ∧ q ≤ C ∧ L2 = L ++ List.replicate q (p : Int) ∧ Own w.heap.size wr o L2 ∧ Keeps w wr) (fun _ t _ => C - (intOf t).toNat)
          case atStart => exact ⟨0, L, rfl, by omega, by simp, HO1.out, HK1.out⟩
          case round =>
            obtain ⟨q, L2, rfl, hq, hL2, hown, hkeep⟩ := hrel
            have HL2 := Lib.hid hL2
            have HO2 := Lib.hid hown
            have HK2 := Lib.hid hkeep
            clear hown hkeep hL2
            by_cases hlt3 : q < C
            · go_wp2_with (at_builtin; refine wpL_app1 HO2.out (by rw [HL2.out]; simp; omega) HK2.out.size rfl rfl rfl rfl ?_; intro v' w' hA)
              go_roundw
              case rel => exact ⟨q + 1, _, by go_num, by omega, by rw [HL2.out, List.replicate_succ', List.append_assoc], hA.own, hA.keeps HK2.out (Nat.le_refl _)⟩
              case measure => simp [intOf]; omega
            · go_wp2
              go_roundw
              case rel =>
                refine ⟨p + 1, _, by go_num, by omega, by omega, ?_, HO2.out, HK2.out⟩
                rw [HL2.out, HL.out, show q = C by omega, show p + 1 - fr = (p - fr) + 1 by omega, ctRow_succ, List.append_assoc, show fr + (p - fr) = p by omega]
              case measure => simp [intOf]; omega
        · obtain ⟨a1, cp1, hv1, _⟩ := HO1.out.len
          subst hv1
          have he : p = out.length := by omega
          have hgo := HG.out
          obtain ⟨t, ht⟩ : ∃ t, D - j = t + 1 := ⟨D - j - 1, by omega⟩
          have hL1 := HL.out
          rw [he] at hL1
          rw [ht, ctGo, ← hL1] at hgo
          have HG2 := Lib.hid hgo
          have Ht := Lib.hid ht
          clear hgo ht he hL1
          by_cases hbig : 200 < L.length
          · go_wp2
            go_ret2
            rw [HS.out, ← HG2.out]
            simp only [hbig, if_true]
            exact RetSB.none HK1.out
          · go_wp2
            go_roundw
            case rel =>
              refine ⟨j + 1, _, out.length, by go_num, rfl, by omega, by rw [HL.out]; simp, by omega, HO1.out, HK1.out, ?_⟩
              rw [← HG2.out, if_neg hbig, show D - (j + 1) = t by have := Ht.out; omega]
            case measure => simp [intOf]; omega
    · go_wp2
      go_ret2
      rw [HS.out, ← HG.out, show D - j = 0 by omega]
      exact ⟨_, rfl, HO.out, by show out.length ≤ 1000000000; omega, HK.out⟩

/-! ### The program's own -/
def ciGo (c : Nat) (d : Int) : Nat → Nat → List Int → List Int → Option (List Int)
  | 0, _, _, _ => none
  | f + 1, v, out, dep =>
    if v < out.length then
      if dep.getD v 0 = d then some out
      else
        let out' := out ++ List.replicate c (v : Int)
        if 200 < out'.length then none else ciGo c d f (v + 1) out' (dep ++ List.replicate c (dep.getD v 0 + 1))
    else some out
def ctImpl (c d : Int) : Option (List Int) := if inB c 1 3 && inB d 0 200 then ciGo c.toNat d 1000 0 [-1] [0] else none

set_option maxHeartbeats 1000000 in
theorem implCompleteTree_any (c d : Int) (w : World) :
    Calls Try.prog 9 #[.int .i64 c, .int .i64 d] w (RetSB w (ctImpl c d)) := by
  cases hc : inB c 1 3
  · have HS : Hid (ctImpl c d = none) := by show _ = _; simp [ctImpl, hc]
    go_enter Try.func9, Try.ntmps9
    go_wp2_with (go_at_call 23; refine (within_any _ _ _ _).mono ?_; rintro e w' ⟨rfl, rfl⟩)
    go_ret2
    rw [HS.out]
    exact RetSB.none (Keeps.refl _)
  cases hd : inB d 0 200
  · have HS : Hid (ctImpl c d = none) := by show _ = _; simp [ctImpl, hd]
    go_enter Try.func9, Try.ntmps9
    go_wp2_with (go_at_call 23; refine (within_any _ _ _ _).mono ?_; rintro e w' ⟨rfl, rfl⟩)
    go_ret2
    rw [HS.out]
    exact RetSB.none (Keeps.refl _)
  have HS : Hid (ctImpl c d = ciGo c.toNat d 1000 0 [-1] [0]) := by show _ = _; simp [ctImpl, hd, hc]
  have bc := inB_true.1 hc
  have bd := inB_true.1 hd
  obtain ⟨bc1, bc2⟩ := bc
  obtain ⟨bd1, bd2⟩ := bd
  obtain ⟨C, rfl⟩ := Int.eq_ofNat_of_zero_le (show 0 ≤ c by omega)
  simp only [Int.toNat_natCast] at HS
  go_enter Try.func9, Try.ntmps9
  go_wp2_with (go_at_call 23; refine (within_any _ _ _ _).mono ?_; rintro e w' ⟨rfl, rfl⟩)
  have h0 : Hid (Own w.heap.size (w.alloc (.cells #[.int .i64 (-1)] 3)) (.slice (some ⟨w.heap.size, 0, none⟩) 1 1) [-1]) := Own.one _ _ _ (Nat.le_refl _)
  have h1 : Hid (Own w.heap.size ((w.alloc (.cells #[.int .i64 (-1)] 3)).alloc (.cells #[.int .i64 0] 3)) (.slice (some ⟨w.heap.size + 1, 0, none⟩) 1 1) [0]) := by
    have := Own.one w.heap.size (w.alloc (.cells #[.int .i64 (-1)] 3)) 0 (by simp)
    show Own _ _ _ _
    simpa using this
  go_loopw [6, 7, 8] (fun o dp v wr => ∃ (p : Nat) (L D : List Int), v = .int .i64 p ∧ p ≤ L.length ∧ L.length ≤ 200 ∧ D.length = L.length ∧ (∀ x ∈ D, 0 ≤ x ∧ x ≤ p) ∧ Own w.heap.size wr o L ∧ Own w.heap.size wr dp D ∧ Apart o dp ∧ Keeps w wr ∧ ciGo C d (1000 - p) p L D = ciGo C d 1000 0 [-1] [0]) (fun _ _ v _ => 1000 - (intOf v).toNat)
  case atStart => exact ⟨0, [-1], [0], rfl, by simp, by simp, rfl, by simp, h0.out.alloc _, h1.out, .inr (by simp [Value.ownBlock]), ((Keeps.refl _).alloc _).alloc _, rfl⟩
  case round =>
    obtain ⟨p, L, D, rfl, hp, hlen, hDL, hD, hO, hOD, hap, hkeep, hgo⟩ := hrel
    have HO := Lib.hid hO
    have HOD := Lib.hid hOD
    have HA := Lib.hid hap
    have HK := Lib.hid hkeep
    have HG := Lib.hid hgo
    have HD := Lib.hid hD
    have HDL := Lib.hid hDL
    clear hO hOD hap hkeep hgo h0 h1 hD hDL
    obtain ⟨a, cp, hv, _⟩ := HO.out.len
    subst hv
    by_cases hlt : p < L.length
    · obtain ⟨g, cd, hv, hc2⟩ := HOD.out.form (by have := HDL.out; omega)
      subst hv
      have hdl : D.length = L.length := HDL.out
      obtain ⟨hc3, _⟩ := hc2 p (by omega)
      have hbd := HD.out (D.getD p 0) (by rw [List.getD_eq_getElem?_getD, List.getElem?_eq_getElem (by omega)]; simp)
      obtain ⟨hbd1, hbd2⟩ := hbd
      have hpD : p < D.length := by omega
      clear hc2 hdl
      generalize hx : D.getD p 0 = x at *
      have Hx := Lib.hid hx
      clear hx
      by_cases hxd : x = d
      · have ht : (x == d) = true := by simp [hxd]
        have Hxd := Lib.hid hxd
        clear hxd
        go_wp2
        go_ret2
        obtain ⟨t, ht⟩ : ∃ t, 1000 - p = t + 1 := ⟨1000 - p - 1, by omega⟩
        have hgo := HG.out
        rw [ht, ciGo, if_pos hlt, if_pos (Hx.out.trans Hxd.out)] at hgo
        rw [HS.out, ← hgo]
        exact ⟨_, rfl, HO.out, by simp; omega, HK.out⟩
      · have ht : (x == d) = false := by simp [hxd]
        have Hxd := Lib.hid hxd
        clear hxd
        go_wp2
        obtain ⟨wo, rfl⟩ : ∃ wo : World, wo = wr := ⟨_, rfl⟩
        go_loopw [6, 7, 32] (fun o dp t wr => ∃ (q : Nat) (L2 D2 : List Int), t = .int .i64 q ∧ q ≤ C ∧ L2 = L ++ List.replicate q (p : Int) ∧ D2 = D ++ List.replicate q (x + 1) ∧ Own w.heap.size wr o L2 ∧ Own w.heap.size wr dp D2 ∧ Apart o dp ∧ Keeps w wr) (fun _ _ t _ => C - (intOf t).toNat)
        case atStart => exact ⟨0, L, D, rfl, by omega, by simp, by simp, HO.out, HOD.out, HA.out, HK.out⟩
        case round =>
          obtain ⟨q, L2, D2, rfl, hq, hL2, hD2, hO2, hOD2, hap2, hkeep2⟩ := hrel
          have HO2 := Lib.hid hO2
          have HOD2 := Lib.hid hOD2
          have HA2 := Lib.hid hap2
          have HK2 := Lib.hid hkeep2
          have HL2 := Lib.hid hL2
          have HD2 := Lib.hid hD2
          clear hO2 hOD2 hap2 hkeep2 hL2 hD2
          by_cases hlt3 : q < C
          · obtain ⟨g2, cd2, hv2, hc2⟩ := HOD2.out.form (by rw [HD2.out]; simp; have := HDL.out; omega)
            subst hv2
            obtain ⟨hc4, _⟩ := hc2 p (by rw [HD2.out]; simp; have := HDL.out; omega)
            have hxx : D2.getD p 0 = x := by
              rw [HD2.out, List.getD_eq_getElem?_getD, List.getElem?_append_left (by have := HDL.out; omega), ← List.getD_eq_getElem?_getD]
              exact Hx.out
            rw [hxx] at hc4
            have Hxx := Lib.hid hxx
            clear hc2 hxx
            have hp0 : (0 : Int) ≤ (p : Int) := by omega
            have hp1 : (p : Int) < (D2.length : Int) := by rw [HD2.out]; simp; have := HDL.out; omega
            have hw1 : IntKind.i64.wrap (x + 1) = x + 1 := IntWalk.i64_in _ (by omega)
            go_wp2
            have HC : Hid (∀ W, Own w.heap.size W (.slice (some ⟨g2, 0, none⟩) D2.length cd2) D2 → W.cell? ⟨g2, p, none⟩ = some (.int .i64 x)) := by
              intro W hW
              rw [← Hxx.out]
              exact hW.cellAt _ (by omega)
            have hlL : L2.length < 1000000000 := by rw [HL2.out]; simp; omega
            have hlD : D2.length < 1000000000 := by rw [HD2.out]; simp; have := HDL.out; omega
            have sz : w.heap.size ≤ wr.heap.size := HK2.out.size
            have n6 : ∀ g, wr.heap.size ≤ g → some g ≠ u6.ownBlock := fun g hg e => by have := (HO2.out.lt _ e.symm).2; omega
            have n7 : ∀ g, wr.heap.size ≤ g → some g ≠ (Value.slice (some ⟨g2, 0, none⟩) D2.length cd2).ownBlock := fun g hg e => by have := (HOD2.out.lt _ e.symm).2; omega
            have N6 := Lib.hid n6
            have N7 := Lib.hid n7
            clear n6 n7
            go_region_held3 (fun w' => w'.cell? ⟨g2, p, none⟩ = some (.int .i64 x)) (first | go_keep | exact HC.out _ hB.old | exact HC.out _ (hA.keep (by repeat (first | exact HOD2.out | exact hB.old | with_reducible refine Own.drew1 ?_ | with_reducible refine Own.alloc ?_ _)) HA2.out.symm))
              ((first
                | (refine step_app1 (B := w.heap.size) (v := u6) (l := L2) (y := p) (by rfl) (by rfl) (by rfl) (by rfl) (by repeat (first | exact HO2.out | with_reducible refine Own.drew1 ?_ | with_reducible refine Own.alloc ?_ _ | exact Own.kept (by repeat (first | exact HO2.out | with_reducible refine Own.drew1 ?_ | with_reducible refine Own.alloc ?_ _)) hB.grown HA2.out)) hlL (by simp; omega)
                    (by repeat (first | (with_reducible refine blk_new ?_; simp; done) | with_reducible refine blk_drew ?_ | with_reducible refine blk_old ?_ | with_reducible refine blk_grown ?_ hB.grown (N7.out _ (by simp)))) ?_; intro vA wA hA)
                | (refine step_app1 (B := w.heap.size) (v := .slice (some ⟨g2, 0, none⟩) D2.length cd2) (l := D2) (y := x + 1) (by rfl) (by rfl) (by rfl) (by rfl) (by repeat (first | exact HOD2.out | with_reducible refine Own.drew1 ?_ | with_reducible refine Own.alloc ?_ _ | exact Own.kept (by repeat (first | exact HOD2.out | with_reducible refine Own.drew1 ?_ | with_reducible refine Own.alloc ?_ _)) hA.grown HA2.out.symm)) hlD (by first | (simp; omega) | (have h8 := hA.grown.size; simp at h8 ⊢; omega) | (have h8 := hA.grown.size; simp at h8; omega))
                    (by repeat (first | (with_reducible refine blk_new ?_; simp; done) | with_reducible refine blk_drew ?_ | with_reducible refine blk_old ?_ | with_reducible refine blk_grown ?_ hA.grown (N6.out _ (by simp)))) ?_; intro vB wB hB)))
            all_goals
              go_wp2
              go_roundw
              case rel =>
                obtain ⟨t1, t2, t3⟩ := two_apps HA2.out HO2.out HOD2.out (by first | (simp; done) | (simp; omega)) hA (by first | exact Keeps.refl _ | exact (Keeps.refl _).alloc _) hB
                refine ⟨q + 1, _, _, by go_num, by omega, ?_, ?_, t1, t2, t3, ?_⟩
                · rw [HL2.out, List.replicate_succ', List.append_assoc]
                · rw [HD2.out, List.replicate_succ', List.append_assoc]
                · refine hB.keeps ?_ (Nat.le_refl _)
                  first | exact hA.keeps ((HK2.out.alloc _).alloc _).drew (Nat.le_refl _) | exact (hA.keeps (HK2.out.alloc _).drew (Nat.le_refl _)).alloc _
              case measure => simp [intOf]; omega
          · obtain ⟨a3, c3, hv3, _⟩ := HO2.out.len
            subst hv3
            obtain ⟨t, ht⟩ : ∃ t, 1000 - p = t + 1 := ⟨1000 - p - 1, by omega⟩
            have hqC : q = C := by omega
            have hgo := HG.out
            have hL3 := HL2.out
            have hD3 := HD2.out
            rw [hqC] at hL3 hD3
            rw [ht, ciGo, if_pos hlt, if_neg (by rw [Hx.out]; exact Hxd.out)] at hgo
            rw [Hx.out, ← hL3, ← hD3] at hgo
            have HG2 := Lib.hid hgo
            have Ht2 := Lib.hid ht
            clear hgo ht hL3 hD3 hqC
            by_cases hbig : 200 < L2.length
            · go_wp2
              go_ret2
              rw [HS.out, ← HG2.out]
              simp only [hbig, if_true]
              exact RetSB.none HK2.out
            · go_wp2
              go_roundw
              case rel =>
                refine ⟨p + 1, L2, D2, by go_num, ?_, by omega, ?_, ?_, HO2.out, HOD2.out, HA2.out, HK2.out, ?_⟩
                · rw [HL2.out]; simp; omega
                · rw [HL2.out, HD2.out]; simp; have := HDL.out; omega
                · rw [HD2.out]
                  intro y hy
                  rcases List.mem_append.1 hy with hy | hy
                  · have := HD.out y hy
                    omega
                  · have := List.eq_of_mem_replicate hy
                    omega
                · rw [← HG2.out, if_neg hbig, show 1000 - (p + 1) = t by have := Ht2.out; omega]
              case measure => simp [intOf]; omega
    · go_wp2
      go_ret2
      rw [HS.out, ← HG.out]
      obtain ⟨t, ht⟩ : ∃ t, 1000 - p = t + 1 := ⟨1000 - p - 1, by omega⟩
      rw [ht, ciGo, if_neg hlt]
      exact ⟨_, rfl, HO.out, by simp; omega, HK.out⟩

end Go.Proofs.Ytnamiakelifpiaa
