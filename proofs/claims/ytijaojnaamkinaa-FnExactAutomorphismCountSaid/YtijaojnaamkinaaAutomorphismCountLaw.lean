/- The walk of laws.FnExactAutomorphismCount: it returns true at every input and changes nothing that was there. -/
import Derived.Test.YtijaojnaamkinaaAux
import Derived.Test.YtijaojnaamkinaaOpen
import Derived.Deep.RegionHeld3
namespace Go.Proofs.Ytijaojnaamkinaa
open Go.RowKit
set_option linter.unusedSimpArgs false
set_option linter.unusedVariables false

set_option maxRecDepth 100000 in
set_option maxHeartbeats 8000000 in
theorem lawAutomorphismCount_small {w : World} (v0 : Value) (l0 : T_Network) (r0 : RdN w v0 l0) (il0 : okN l0) (s0 : szN l0 ≤ 1048576) : Calls Try.prog 12 #[v0] w fun e w' => e = .returned (.bool true) ∧ Below w.heap.size w w' := by
  have HE := Lib.hid (AutomorphismCount_eq l0 il0 s0)
  have R0 := Lib.hid r0
  have IL0 := Lib.hid il0
  obtain ⟨p0a0, p0c0, p0a1, p0c1, p0a2, p0c2, rfl⟩ := r0.shape
  clear r0 il0
  have K0 : Hid (Keeps w w) := Keeps.refl w
  go_enter Try.func12, Try.ntmps12
  go_wp2_with fail
  have KS1 : Hid (Keeps w (w.alloc (.cells #[.slice p0a0 l0.Ends.length p0c0, .slice p0a1 l0.Ids.length p0c1, .slice p0a2 l0.Inputs.length p0c2] 25))) := (Keeps.refl _).alloc _
  have Z1' : Hid (w.heap.size + 1 ≤ (w.alloc (.cells #[.slice p0a0 l0.Ends.length p0c0, .slice p0a1 l0.Ids.length p0c1, .slice p0a2 l0.Inputs.length p0c2] 25)).heap.size) := by show _ ≤ _; simp
  have E1 : (w.alloc (.cells #[.slice p0a0 l0.Ends.length p0c0, .slice p0a1 l0.Ids.length p0c1, .slice p0a2 l0.Inputs.length p0c2] 25)).heap.size = w.heap.size + 1 := by rw [World.size_alloc]
  have c0_1 : (w.alloc (.cells #[.slice p0a0 l0.Ends.length p0c0, .slice p0a1 l0.Ids.length p0c1, .slice p0a2 l0.Inputs.length p0c2] 25)).cell? ⟨w.heap.size, 0, none⟩ = some (.slice p0a0 l0.Ends.length p0c0) := by rw [World.cell?_alloc_at _ _ _ _ rfl]; rfl
  have c1_1 : (w.alloc (.cells #[.slice p0a0 l0.Ends.length p0c0, .slice p0a1 l0.Ids.length p0c1, .slice p0a2 l0.Inputs.length p0c2] 25)).cell? ⟨w.heap.size, 1, none⟩ = some (.slice p0a1 l0.Ids.length p0c1) := by rw [World.cell?_alloc_at _ _ _ _ rfl]; rfl
  have c2_1 : (w.alloc (.cells #[.slice p0a0 l0.Ends.length p0c0, .slice p0a1 l0.Ids.length p0c1, .slice p0a2 l0.Inputs.length p0c2] 25)).cell? ⟨w.heap.size, 2, none⟩ = some (.slice p0a2 l0.Inputs.length p0c2) := by rw [World.cell?_alloc_at _ _ _ _ rfl]; rfl
  generalize w.alloc (.cells #[.slice p0a0 l0.Ends.length p0c0, .slice p0a1 l0.Ids.length p0c1, .slice p0a2 l0.Inputs.length p0c2] 25) = w1 at KS1 Z1' E1 c0_1 c1_1 c2_1 ⊢
  have K1 : Hid (Keeps w w1) := Keeps.trans K0.out KS1.out
  have Z1 : Hid (w.heap.size ≤ w1.heap.size) := KS1.out.size
  clear E1
  refine (szNetwork_any _ l0 1048576 _ (R0.out.keep K1.out) (by omega) (by omega)).mono ?_
  rintro e w2 ⟨rfl, k2⟩
  rw [szL, if_pos (by omega)]
  have KS2 : Hid (Keeps w1 w2) := k2
  clear k2
  have K2 : Hid (Keeps w w2) := Keeps.trans K1.out KS2.out
  have Z2 : Hid (w1.heap.size ≤ w2.heap.size) := KS2.out.size
  have c0_2 := cell_keep KS2.out c0_1
  clear c0_1
  have c1_2 := cell_keep KS2.out c1_1
  clear c1_1
  have c2_2 := cell_keep KS2.out c2_1
  clear c2_1
  go_wp2_with fail
  refine (toNetwork_any _ l0 _ (R0.out.keep K2.out) s0).mono ?_
  rintro e w3 ⟨t3, rfl, o3, k3⟩
  obtain ⟨t3a0, t3c0, t3a1, t3c1, t3a2, t3c2, rfl⟩ := o3.rd.shape
  have T3 := Lib.hid o3
  clear o3
  have KS3 : Hid (Keeps w2 w3) := k3
  clear k3
  have K3 : Hid (Keeps w w3) := Keeps.trans K2.out KS3.out
  have Z3 : Hid (w2.heap.size ≤ w3.heap.size) := KS3.out.size
  have c0_3 := cell_keep KS3.out c0_2
  clear c0_2
  have c1_3 := cell_keep KS3.out c1_2
  clear c1_2
  have c2_3 := cell_keep KS3.out c2_2
  clear c2_2
  go_wp2_with fail
  refine (specAutomorphismCount_any (.agg #[.slice t3a0 l0.Ends.length t3c0, .slice t3a1 l0.Ids.length t3c1, .slice t3a2 l0.Inputs.length t3c2]) l0 _ (T3.out.rd) IL0.out s0).mono ?_
  rintro e w4 ⟨rfl, k4⟩
  generalize fAutomorphismCountSpec l0 = R at *
  obtain ⟨Ra, Rb⟩ := R
  simp only at HE ⊢
  have KS4 : Hid (Keeps w3 w4) := k4
  clear k4
  have K4 : Hid (Keeps w w4) := Keeps.trans K3.out KS4.out
  have Z4 : Hid (w3.heap.size ≤ w4.heap.size) := KS4.out.size
  have T3_4 := Lib.hid (T3.out.keep KS4.out)
  clear T3
  have c0_4 := cell_keep KS4.out c0_3
  clear c0_3
  have c1_4 := cell_keep KS4.out c1_3
  clear c1_3
  have c2_4 := cell_keep KS4.out c2_3
  clear c2_3
  go_wp2_with fail
  refine (toNetwork_any _ l0 _ (R0.out.keep K4.out) s0).mono ?_
  rintro e w5 ⟨t5, rfl, o5, k5⟩
  obtain ⟨t5a0, t5c0, t5a1, t5c1, t5a2, t5c2, rfl⟩ := o5.rd.shape
  have T5 := Lib.hid o5
  clear o5
  have KS5 : Hid (Keeps w4 w5) := k5
  clear k5
  have K5 : Hid (Keeps w w5) := Keeps.trans K4.out KS5.out
  have Z5 : Hid (w4.heap.size ≤ w5.heap.size) := KS5.out.size
  have T3_5 := Lib.hid (T3_4.out.keep KS5.out)
  clear T3_4
  have c0_5 := cell_keep KS5.out c0_4
  clear c0_4
  have c1_5 := cell_keep KS5.out c1_4
  clear c1_4
  have c2_5 := cell_keep KS5.out c2_4
  clear c2_4
  have pre1 : (w5.alloc (.cells #[.slice t5a0 l0.Ends.length t5c0, .slice t5a1 l0.Ids.length t5c1, .slice t5a2 l0.Inputs.length t5c2] 31)).cell? ⟨w.heap.size, 0, none⟩ = some (.slice p0a0 l0.Ends.length p0c0) := cell_keep ((Keeps.refl _).alloc _) c0_5
  have pre2 : (w5.alloc (.cells #[.slice t5a0 l0.Ends.length t5c0, .slice t5a1 l0.Ids.length t5c1, .slice t5a2 l0.Inputs.length t5c2] 31)).cell? ⟨w.heap.size, 1, none⟩ = some (.slice p0a1 l0.Ids.length p0c1) := cell_keep ((Keeps.refl _).alloc _) c1_5
  have pre3 : (w5.alloc (.cells #[.slice t5a0 l0.Ends.length t5c0, .slice t5a1 l0.Ids.length t5c1, .slice t5a2 l0.Inputs.length t5c2] 31)).cell? ⟨w.heap.size, 2, none⟩ = some (.slice p0a2 l0.Inputs.length p0c2) := cell_keep ((Keeps.refl _).alloc _) c2_5
  go_wp2_with fail
  clear pre1 pre2 pre3
  have KS6 : Hid (Keeps w5 (w5.alloc (.cells #[.slice t5a0 l0.Ends.length t5c0, .slice t5a1 l0.Ids.length t5c1, .slice t5a2 l0.Inputs.length t5c2] 31))) := (Keeps.refl _).alloc _
  have Z6' : Hid (w5.heap.size + 1 ≤ (w5.alloc (.cells #[.slice t5a0 l0.Ends.length t5c0, .slice t5a1 l0.Ids.length t5c1, .slice t5a2 l0.Inputs.length t5c2] 31)).heap.size) := by show _ ≤ _; simp
  have E6 : (w5.alloc (.cells #[.slice t5a0 l0.Ends.length t5c0, .slice t5a1 l0.Ids.length t5c1, .slice t5a2 l0.Inputs.length t5c2] 31)).heap.size = w5.heap.size + 1 := by rw [World.size_alloc]
  have c3_6 : (w5.alloc (.cells #[.slice t5a0 l0.Ends.length t5c0, .slice t5a1 l0.Ids.length t5c1, .slice t5a2 l0.Inputs.length t5c2] 31)).cell? ⟨w5.heap.size, 0, none⟩ = some (.slice t5a0 l0.Ends.length t5c0) := by rw [World.cell?_alloc_at _ _ _ _ rfl]; rfl
  have c4_6 : (w5.alloc (.cells #[.slice t5a0 l0.Ends.length t5c0, .slice t5a1 l0.Ids.length t5c1, .slice t5a2 l0.Inputs.length t5c2] 31)).cell? ⟨w5.heap.size, 1, none⟩ = some (.slice t5a1 l0.Ids.length t5c1) := by rw [World.cell?_alloc_at _ _ _ _ rfl]; rfl
  have c5_6 : (w5.alloc (.cells #[.slice t5a0 l0.Ends.length t5c0, .slice t5a1 l0.Ids.length t5c1, .slice t5a2 l0.Inputs.length t5c2] 31)).cell? ⟨w5.heap.size, 2, none⟩ = some (.slice t5a2 l0.Inputs.length t5c2) := by rw [World.cell?_alloc_at _ _ _ _ rfl]; rfl
  generalize w5.alloc (.cells #[.slice t5a0 l0.Ends.length t5c0, .slice t5a1 l0.Ids.length t5c1, .slice t5a2 l0.Inputs.length t5c2] 31) = w6 at KS6 Z6' E6 c3_6 c4_6 c5_6 ⊢
  have K6 : Hid (Keeps w w6) := Keeps.trans K5.out KS6.out
  have Z6 : Hid (w5.heap.size ≤ w6.heap.size) := KS6.out.size
  have T3_6 := Lib.hid (T3_5.out.keep KS6.out)
  clear T3_5
  have T5_6 := Lib.hid (T5.out.keep KS6.out)
  clear T5
  have c0_6 := cell_keep KS6.out c0_5
  clear c0_5
  have c1_6 := cell_keep KS6.out c1_5
  clear c1_5
  have c2_6 := cell_keep KS6.out c2_5
  clear c2_5
  clear E6
  refine (implAutomorphismCount_any (.agg #[.slice t5a0 l0.Ends.length t5c0, .slice t5a1 l0.Ids.length t5c1, .slice t5a2 l0.Inputs.length t5c2]) l0 _ (T5_6.out.rd) IL0.out s0).mono ?_
  rw [HE.out]
  rintro e w7 ⟨rfl, k7⟩
  have KS7 : Hid (Keeps w6 w7) := k7
  clear k7
  have K7 : Hid (Keeps w w7) := Keeps.trans K6.out KS7.out
  have Z7 : Hid (w6.heap.size ≤ w7.heap.size) := KS7.out.size
  have T3_7 := Lib.hid (T3_6.out.keep KS7.out)
  clear T3_6
  have T5_7 := Lib.hid (T5_6.out.keep KS7.out)
  clear T5_6
  have c0_7 := cell_keep KS7.out c0_6
  clear c0_6
  have c1_7 := cell_keep KS7.out c1_6
  clear c1_6
  have c2_7 := cell_keep KS7.out c2_6
  clear c2_6
  have c3_7 := cell_keep KS7.out c3_6
  clear c3_6
  have c4_7 := cell_keep KS7.out c4_6
  clear c4_6
  have c5_7 := cell_keep KS7.out c5_6
  clear c5_6
  go_wp2_with fail
  have SK : Hid (∀ W : World, Keeps w7 W → W.cell? ⟨w.heap.size, 0, none⟩ = some (.slice p0a0 l0.Ends.length p0c0) ∧ W.cell? ⟨w.heap.size, 1, none⟩ = some (.slice p0a1 l0.Ids.length p0c1) ∧ W.cell? ⟨w.heap.size, 2, none⟩ = some (.slice p0a2 l0.Inputs.length p0c2) ∧ W.cell? ⟨w5.heap.size, 0, none⟩ = some (.slice t5a0 l0.Ends.length t5c0) ∧ W.cell? ⟨w5.heap.size, 1, none⟩ = some (.slice t5a1 l0.Ids.length t5c1) ∧ W.cell? ⟨w5.heap.size, 2, none⟩ = some (.slice t5a2 l0.Inputs.length t5c2)) := fun W k => ⟨cell_keep k c0_7, cell_keep k c1_7, cell_keep k c2_7, cell_keep k c3_7, cell_keep k c4_7, cell_keep k c5_7⟩
  have KD : Hid (Keeps w7 w7.drew) := (Keeps.refl _).drew
  go_region_held3 (fun W => W.cell? ⟨w.heap.size, 0, none⟩ = some (.slice p0a0 l0.Ends.length p0c0) ∧ W.cell? ⟨w.heap.size, 1, none⟩ = some (.slice p0a1 l0.Ids.length p0c1) ∧ W.cell? ⟨w.heap.size, 2, none⟩ = some (.slice p0a2 l0.Inputs.length p0c2) ∧ W.cell? ⟨w5.heap.size, 0, none⟩ = some (.slice t5a0 l0.Ends.length t5c0) ∧ W.cell? ⟨w5.heap.size, 1, none⟩ = some (.slice t5a1 l0.Ids.length t5c1) ∧ W.cell? ⟨w5.heap.size, 2, none⟩ = some (.slice t5a2 l0.Inputs.length t5c2)) (first | exact SK.out _ KD.out | exact SK.out _ (Keeps.trans KD.out KS8'.out) | exact SK.out _ (Keeps.trans KD.out (Keeps.trans KS8'.out KS9.out)))
    ((first
      | (go_at_call 15; refine (toNetwork_any _ l0 _ (R0.out.keep (Keeps.trans K7.out KD.out)) s0).mono ?_; rintro e w8 ⟨tt, rfl, o8, k8⟩; obtain ⟨t8a0, t8c0, t8a1, t8c1, t8a2, t8c2, rfl⟩ := o8.rd.shape; have T8 := Lib.hid o8; have KS8' := Lib.hid k8; clear o8 k8)
      | (go_at_call 17; refine (eqNetwork_same _ _ l0 _ ((T5_7.out.rd).keep (Keeps.trans KD.out KS8'.out)) T8.out.rd s0).mono ?_; rintro e w9 ⟨rfl, k9⟩; have KS9 := Lib.hid k9; clear k9)))
  have KS8 : Hid (Keeps w7 w8) := Keeps.trans KD.out KS8'.out
  have K8 : Hid (Keeps w w8) := Keeps.trans K7.out KS8.out
  have Z8 : Hid (w7.heap.size ≤ w8.heap.size) := KS8.out.size
  have T3_8 := Lib.hid (T3_7.out.keep KS8.out)
  clear T3_7
  have T5_8 := Lib.hid (T5_7.out.keep KS8.out)
  clear T5_7
  have c0_8 := cell_keep KS8.out c0_7
  clear c0_7
  have c1_8 := cell_keep KS8.out c1_7
  clear c1_7
  have c2_8 := cell_keep KS8.out c2_7
  clear c2_7
  have c3_8 := cell_keep KS8.out c3_7
  clear c3_7
  have c4_8 := cell_keep KS8.out c4_7
  clear c4_7
  have c5_8 := cell_keep KS8.out c5_7
  clear c5_7
  have K9 : Hid (Keeps w w9) := Keeps.trans K8.out KS9.out
  have Z9 : Hid (w8.heap.size ≤ w9.heap.size) := KS9.out.size
  have T3_9 := Lib.hid (T3_8.out.keep KS9.out)
  clear T3_8
  have T5_9 := Lib.hid (T5_8.out.keep KS9.out)
  clear T5_8
  have c0_9 := cell_keep KS9.out c0_8
  clear c0_8
  have c1_9 := cell_keep KS9.out c1_8
  clear c1_8
  have c2_9 := cell_keep KS9.out c2_8
  clear c2_8
  have c3_9 := cell_keep KS9.out c3_8
  clear c3_8
  have c4_9 := cell_keep KS9.out c4_8
  clear c4_8
  have c5_9 := cell_keep KS9.out c5_8
  clear c5_8
  clear SK KD
  go_wp2_with fail
  go_ret
  exact ⟨rfl, K9.out⟩

set_option maxHeartbeats 1600000 in
theorem lawAutomorphismCount (v0 : Value) (l0 : T_Network) (w : World) (r0 : RdN w v0 l0) (il0 : okN l0) : Calls Try.prog 12 #[v0] w fun e w' => e = .returned (.bool true) ∧ Below w.heap.size w w' := by
  by_cases q0 : szN l0 ≤ 1048576
  case neg =>
    have R0 := Lib.hid r0
    obtain ⟨p0a0, p0c0, p0a1, p0c1, p0a2, p0c2, rfl⟩ := r0.shape
    clear r0 il0
    go_enter Try.func12, Try.ntmps12
    go_wp2_with fail
    refine (szNetwork_any _ l0 (1048576) _ (R0.out.keep (by repeat (first | exact Keeps.refl _ | with_reducible refine Keeps.alloc ?_ _))) (by omega) (by omega)).mono ?_
    rintro e W0 ⟨rfl, k0⟩
    rw [szL, if_neg (by omega)]
    have KK0 : Hid (Keeps w W0) := Keeps.trans (by repeat (first | exact Keeps.refl _ | with_reducible refine Keeps.alloc ?_ _)) k0
    obtain ⟨hc0, hf0⟩ := bcell k0
    have hz0 := k0.size
    clear k0
    go_wp2
    go_ret
    exact ⟨rfl, KK0.out⟩
  exact lawAutomorphismCount_small v0 l0 r0 il0 (by omega)
end Go.Proofs.Ytijaojnaamkinaa
