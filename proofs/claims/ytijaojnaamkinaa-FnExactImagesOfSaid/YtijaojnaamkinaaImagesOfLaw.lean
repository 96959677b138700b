/- The walk of laws.FnExactImagesOf: it returns true at every input and changes nothing that was there. -/
import Derived.Test.YtijaojnaamkinaaNk
import Derived.Test.YtijaojnaamkinaaOpen
import Derived.Deep.RegionHeld3
namespace Go.Proofs.Ytijaojnaamkinaa
open Go.RowKit
set_option linter.unusedSimpArgs false
set_option linter.unusedVariables false

set_option maxRecDepth 100000 in
set_option maxHeartbeats 8000000 in
theorem lawImagesOf_small {w : World} (v0 : Value) (l0 : T_Network) (r0 : RdN w v0 l0) (il0 : okN l0) (a1 : Int) (ia1 : I64 a1) (v2 : Value) (l2 : T_Network) (r2 : RdN w v2 l2) (il2 : okN l2) (s0 : szN l0 ≤ 1048576) (s2 : szN l2 ≤ 1048576) (stot : szN l0 + szN l2 ≤ 1048576) : Calls Try.prog 11 #[v0, .int .i64 a1, v2] w fun e w' => e = .returned (.bool true) ∧ Below w.heap.size w w' := by
  have HE := Lib.hid (ImagesOf_eq l0 a1 l2 il0 s0 ia1 il2 s2)
  have R0 := Lib.hid r0
  have IL0 := Lib.hid il0
  obtain ⟨p0a0, p0c0, p0a1, p0c1, p0a2, p0c2, rfl⟩ := r0.shape
  clear r0 il0
  have R2 := Lib.hid r2
  have IL2 := Lib.hid il2
  obtain ⟨p2a0, p2c0, p2a1, p2c1, p2a2, p2c2, rfl⟩ := r2.shape
  clear r2 il2
  have K0 : Hid (Keeps w w) := Keeps.refl w
  go_enter Try.func11, Try.ntmps11
  go_wp2_with fail
  have KS1 : Hid (Keeps w (w.alloc (.cells #[.slice p0a0 l0.Ends.length p0c0, .slice p0a1 l0.Ids.length p0c1, .slice p0a2 l0.Inputs.length p0c2] 25))) := (Keeps.refl _).alloc _
  have Z1' : Hid (w.heap.size + 1 ≤ (w.alloc (.cells #[.slice p0a0 l0.Ends.length p0c0, .slice p0a1 l0.Ids.length p0c1, .slice p0a2 l0.Inputs.length p0c2] 25)).heap.size) := by show _ ≤ _; simp
  have E1 : (w.alloc (.cells #[.slice p0a0 l0.Ends.length p0c0, .slice p0a1 l0.Ids.length p0c1, .slice p0a2 l0.Inputs.length p0c2] 25)).heap.size = w.heap.size + 1 := by rw [World.size_alloc]
  have c0_1 : (w.alloc (.cells #[.slice p0a0 l0.Ends.length p0c0, .slice p0a1 l0.Ids.length p0c1, .slice p0a2 l0.Inputs.length p0c2] 25)).cell? ⟨w.heap.size, 0, none⟩ = some (.slice p0a0 l0.Ends.length p0c0) := by rw [World.cell?_alloc_at _ _ _ _ rfl]; rfl
  have c1_1 : (w.alloc (.cells #[.slice p0a0 l0.Ends.length p0c0, .slice p0a1 l0.Ids.length p0c1, .slice p0a2 l0.Inputs.length p0c2] 25)).cell? ⟨w.heap.size, 1, none⟩ = some (.slice p0a1 l0.Ids.length p0c1) := by rw [World.cell?_alloc_at _ _ _ _ rfl]; rfl
  have c2_1 : (w.alloc (.cells #[.slice p0a0 l0.Ends.length p0c0, .slice p0a1 l0.Ids.length p0c1, .slice p0a2 l0.Inputs.length p0c2] 25)).cell? ⟨w.heap.size, 2, none⟩ = some (.slice p0a2 l0.Inputs.length p0c2) := by rw [World.cell?_alloc_at _ _ _ _ rfl]; rfl
  generalize w.alloc (.cells #[.slice p0a0 l0.Ends.length p0c0, .slice p0a1 l0.Ids.length p0c1, .slice p0a2 l0.Inputs.length p0c2] 25) = w1 at KS1 Z1' E1 c0_1 c1_1 c2_1 ⊢
  have K1 : Hid (Keeps w w1) := Keeps.trans K0.out KS1.out
  have Z1 : Hid (w.heap.size ≤ w1.heap.size) := KS1.out.size
  have KS2 : Hid (Keeps w1 (w1.alloc (.cells #[.slice p2a0 l2.Ends.length p2c0, .slice p2a1 l2.Ids.length p2c1, .slice p2a2 l2.Inputs.length p2c2] 25))) := (Keeps.refl _).alloc _
  have Z2' : Hid (w.heap.size + 1 + 1 ≤ (w1.alloc (.cells #[.slice p2a0 l2.Ends.length p2c0, .slice p2a1 l2.Ids.length p2c1, .slice p2a2 l2.Inputs.length p2c2] 25)).heap.size) := by show _ ≤ _; simp; omega
  have E2 : (w1.alloc (.cells #[.slice p2a0 l2.Ends.length p2c0, .slice p2a1 l2.Ids.length p2c1, .slice p2a2 l2.Inputs.length p2c2] 25)).heap.size = w.heap.size + 1 + 1 := by rw [World.size_alloc]; omega
  have c3_2 : (w1.alloc (.cells #[.slice p2a0 l2.Ends.length p2c0, .slice p2a1 l2.Ids.length p2c1, .slice p2a2 l2.Inputs.length p2c2] 25)).cell? ⟨w.heap.size + 1, 0, none⟩ = some (.slice p2a0 l2.Ends.length p2c0) := by rw [World.cell?_alloc_at _ _ _ _ (by omega)]; rfl
  have c4_2 : (w1.alloc (.cells #[.slice p2a0 l2.Ends.length p2c0, .slice p2a1 l2.Ids.length p2c1, .slice p2a2 l2.Inputs.length p2c2] 25)).cell? ⟨w.heap.size + 1, 1, none⟩ = some (.slice p2a1 l2.Ids.length p2c1) := by rw [World.cell?_alloc_at _ _ _ _ (by omega)]; rfl
  have c5_2 : (w1.alloc (.cells #[.slice p2a0 l2.Ends.length p2c0, .slice p2a1 l2.Ids.length p2c1, .slice p2a2 l2.Inputs.length p2c2] 25)).cell? ⟨w.heap.size + 1, 2, none⟩ = some (.slice p2a2 l2.Inputs.length p2c2) := by rw [World.cell?_alloc_at _ _ _ _ (by omega)]; rfl
  generalize w1.alloc (.cells #[.slice p2a0 l2.Ends.length p2c0, .slice p2a1 l2.Ids.length p2c1, .slice p2a2 l2.Inputs.length p2c2] 25) = w2 at KS2 Z2' E2 c3_2 c4_2 c5_2 ⊢
  have K2 : Hid (Keeps w w2) := Keeps.trans K1.out KS2.out
  have Z2 : Hid (w1.heap.size ≤ w2.heap.size) := KS2.out.size
  have c0_2 := cell_keep KS2.out c0_1
  clear c0_1
  have c1_2 := cell_keep KS2.out c1_1
  clear c1_1
  have c2_2 := cell_keep KS2.out c2_1
  clear c2_1
  clear E1 E2
  refine (szNetwork_any _ l0 1048576 _ (R0.out.keep K2.out) (by omega) (by omega)).mono ?_
  rintro e w3 ⟨rfl, k3⟩
  rw [szL, if_pos (by omega)]
  have KS3 : Hid (Keeps w2 w3) := k3
  clear k3
  have K3 : Hid (Keeps w w3) := Keeps.trans K2.out KS3.out
  have Z3 : Hid (w2.heap.size ≤ w3.heap.size) := KS3.out.size
  have c0_3 := cell_keep KS3.out c0_2
  clear c0_2
  have c1_3 := cell_keep KS3.out c1_2
  clear c1_2
  have c2_3 := cell_keep KS3.out c2_2
  clear c2_2
  have c3_3 := cell_keep KS3.out c3_2
  clear c3_2
  have c4_3 := cell_keep KS3.out c4_2
  clear c4_2
  have c5_3 := cell_keep KS3.out c5_2
  clear c5_2
  go_wp2_with fail
  refine (szNetwork_any _ l2 (1048576 - (szN l0 : Nat)) _ (R2.out.keep K3.out) (by omega) (by omega)).mono ?_
  rintro e w4 ⟨rfl, k4⟩
  rw [szL, if_pos (by omega)]
  have KS4 : Hid (Keeps w3 w4) := k4
  clear k4
  have K4 : Hid (Keeps w w4) := Keeps.trans K3.out KS4.out
  have Z4 : Hid (w3.heap.size ≤ w4.heap.size) := KS4.out.size
  have c0_4 := cell_keep KS4.out c0_3
  clear c0_3
  have c1_4 := cell_keep KS4.out c1_3
  clear c1_3
  have c2_4 := cell_keep KS4.out c2_3
  clear c2_3
  have c3_4 := cell_keep KS4.out c3_3
  clear c3_3
  have c4_4 := cell_keep KS4.out c4_3
  clear c4_3
  have c5_4 := cell_keep KS4.out c5_3
  clear c5_3
  go_wp2_with fail
  have SK : Hid (∀ W : World, Keeps w4 W → W.cell? ⟨w.heap.size, 0, none⟩ = some (.slice p0a0 l0.Ends.length p0c0) ∧ W.cell? ⟨w.heap.size, 1, none⟩ = some (.slice p0a1 l0.Ids.length p0c1) ∧ W.cell? ⟨w.heap.size, 2, none⟩ = some (.slice p0a2 l0.Inputs.length p0c2) ∧ W.cell? ⟨w.heap.size + 1, 0, none⟩ = some (.slice p2a0 l2.Ends.length p2c0) ∧ W.cell? ⟨w.heap.size + 1, 1, none⟩ = some (.slice p2a1 l2.Ids.length p2c1) ∧ W.cell? ⟨w.heap.size + 1, 2, none⟩ = some (.slice p2a2 l2.Inputs.length p2c2)) := fun W k => ⟨cell_keep k c0_4, cell_keep k c1_4, cell_keep k c2_4, cell_keep k c3_4, cell_keep k c4_4, cell_keep k c5_4⟩
  have KD : Hid (Keeps w4 w4.drew) := (Keeps.refl _).drew
  go_region_held3 (fun W => W.cell? ⟨w.heap.size, 0, none⟩ = some (.slice p0a0 l0.Ends.length p0c0) ∧ W.cell? ⟨w.heap.size, 1, none⟩ = some (.slice p0a1 l0.Ids.length p0c1) ∧ W.cell? ⟨w.heap.size, 2, none⟩ = some (.slice p0a2 l0.Inputs.length p0c2) ∧ W.cell? ⟨w.heap.size + 1, 0, none⟩ = some (.slice p2a0 l2.Ends.length p2c0) ∧ W.cell? ⟨w.heap.size + 1, 1, none⟩ = some (.slice p2a1 l2.Ids.length p2c1) ∧ W.cell? ⟨w.heap.size + 1, 2, none⟩ = some (.slice p2a2 l2.Inputs.length p2c2)) (first | exact SK.out _ KD.out | exact SK.out _ (Keeps.trans KD.out KS5'.out) | exact SK.out _ (Keeps.trans KD.out (Keeps.trans KS5'.out KS6.out)) | exact SK.out _ (Keeps.trans KD.out (Keeps.trans KS5'.out (Keeps.trans KS6.out KS7.out))))
    ((first
      | (go_at_call 15; with_reducible refine (toNetwork_any _ l0 _ (R0.out.keep (Keeps.trans K4.out KD.out)) s0).mono ?_; rintro e w5 ⟨tt, rfl, o5, k5⟩; obtain ⟨t5a0, t5c0, t5a1, t5c1, t5a2, t5c2, rfl⟩ := o5.rd.shape; have T5 := Lib.hid o5; have KS5' := Lib.hid k5; clear o5 k5)
      | (go_at_call 15; with_reducible refine (toNetwork_any _ l2 _ (R2.out.keep (Keeps.trans K4.out (Keeps.trans KD.out KS5'.out))) s2).mono ?_; rintro e w6 ⟨tt, rfl, o6, k6⟩; obtain ⟨t6a0, t6c0, t6a1, t6c1, t6a2, t6c2, rfl⟩ := o6.rd.shape; have T6 := Lib.hid o6; have KS6 := Lib.hid k6; clear o6 k6)
      | (go_at_call 49; refine (specImagesOf_any (.agg #[.slice t5a0 l0.Ends.length t5c0, .slice t5a1 l0.Ids.length t5c1, .slice t5a2 l0.Inputs.length t5c2]) l0 a1 (.agg #[.slice t6a0 l2.Ends.length t6c0, .slice t6a1 l2.Ids.length t6c1, .slice t6a2 l2.Inputs.length t6c2]) l2 _ ((T5.out.keep KS6.out).rd) IL0.out s0 ia1 (T6.out.rd) IL2.out s2).mono ?_; rintro e w7 ⟨x7, rfl, o7, b7, k7⟩; have T7 := Lib.hid o7.owI; have KS7 := Lib.hid k7; clear o7 k7)))
  have KS5 : Hid (Keeps w4 w5) := Keeps.trans KD.out KS5'.out
  have K5 : Hid (Keeps w w5) := Keeps.trans K4.out KS5.out
  have Z5 : Hid (w4.heap.size ≤ w5.heap.size) := KS5.out.size
  have c0_5 := cell_keep KS5.out c0_4
  clear c0_4
  have c1_5 := cell_keep KS5.out c1_4
  clear c1_4
  have c2_5 := cell_keep KS5.out c2_4
  clear c2_4
  have c3_5 := cell_keep KS5.out c3_4
  clear c3_4
  have c4_5 := cell_keep KS5.out c4_4
  clear c4_4
  have c5_5 := cell_keep KS5.out c5_4
  clear c5_4
  have K6 : Hid (Keeps w w6) := Keeps.trans K5.out KS6.out
  have Z6 : Hid (w5.heap.size ≤ w6.heap.size) := KS6.out.size
  have T5_6 := Lib.hid (T5.out.keep KS6.out)
  clear T5
  have c0_6 := cell_keep KS6.out c0_5
  clear c0_5
  have c1_6 := cell_keep KS6.out c1_5
  clear c1_5
  have c2_6 := cell_keep KS6.out c2_5
  clear c2_5
  have c3_6 := cell_keep KS6.out c3_5
  clear c3_5
  have c4_6 := cell_keep KS6.out c4_5
  clear c4_5
  have c5_6 := cell_keep KS6.out c5_5
  clear c5_5
  have K7 : Hid (Keeps w w7) := Keeps.trans K6.out KS7.out
  have Z7 : Hid (w6.heap.size ≤ w7.heap.size) := KS7.out.size
  have T5_7 := Lib.hid (T5_6.out.keep KS7.out)
  clear T5_6
  have T6_7 := Lib.hid (T6.out.keep KS7.out)
  clear T6
  have c0_7 := cell_keep KS7.out c0_6
  clear c0_6
  have c1_7 := cell_keep KS7.out c1_6
  clear c1_6
  have c2_7 := cell_keep KS7.out c2_6
  clear c2_6
  have c3_7 := cell_keep KS7.out c3_6
  clear c3_6
  have c4_7 := cell_keep KS7.out c4_6
  clear c4_6
  have c5_7 := cell_keep KS7.out c5_6
  clear c5_6
  clear SK KD
  generalize fImagesOfSpec l0 a1 l2 = R at *
  generalize hL : R.getD [] = L at *
  have HL := Lib.hid hL
  clear hL
  have BL : L.length ≤ 1000000000 := b7
  clear b7
  go_wp2_with fail
  refine (toNetwork_any _ l0 _ (R0.out.keep K7.out) s0).mono ?_
  rintro e w8 ⟨t8, rfl, o8, k8⟩
  obtain ⟨t8a0, t8c0, t8a1, t8c1, t8a2, t8c2, rfl⟩ := o8.rd.shape
  have T8 := Lib.hid o8
  clear o8
  have KS8 : Hid (Keeps w7 w8) := k8
  clear k8
  have K8 : Hid (Keeps w w8) := Keeps.trans K7.out KS8.out
  have Z8 : Hid (w7.heap.size ≤ w8.heap.size) := KS8.out.size
  have T5_8 := Lib.hid (T5_7.out.keep KS8.out)
  clear T5_7
  have T6_8 := Lib.hid (T6_7.out.keep KS8.out)
  clear T6_7
  have T7_8 := Lib.hid (T7.out.keep KS8.out)
  clear T7
  have c0_8 := cell_keep KS8.out c0_7
  clear c0_7
  have c1_8 := cell_keep KS8.out c1_7
  clear c1_7
  have c2_8 := cell_keep KS8.out c2_7
  clear c2_7
  have c3_8 := cell_keep KS8.out c3_7
  clear c3_7
  have c4_8 := cell_keep KS8.out c4_7
  clear c4_7
  have c5_8 := cell_keep KS8.out c5_7
  clear c5_7
  have pre1 : (w8.alloc (.cells #[.slice t8a0 l0.Ends.length t8c0, .slice t8a1 l0.Ids.length t8c1, .slice t8a2 l0.Inputs.length t8c2] 31)).cell? ⟨w.heap.size, 0, none⟩ = some (.slice p0a0 l0.Ends.length p0c0) := cell_keep ((Keeps.refl _).alloc _) c0_8
  have pre2 : (w8.alloc (.cells #[.slice t8a0 l0.Ends.length t8c0, .slice t8a1 l0.Ids.length t8c1, .slice t8a2 l0.Inputs.length t8c2] 31)).cell? ⟨w.heap.size, 1, none⟩ = some (.slice p0a1 l0.Ids.length p0c1) := cell_keep ((Keeps.refl _).alloc _) c1_8
  have pre3 : (w8.alloc (.cells #[.slice t8a0 l0.Ends.length t8c0, .slice t8a1 l0.Ids.length t8c1, .slice t8a2 l0.Inputs.length t8c2] 31)).cell? ⟨w.heap.size, 2, none⟩ = some (.slice p0a2 l0.Inputs.length p0c2) := cell_keep ((Keeps.refl _).alloc _) c2_8
  have pre4 : (w8.alloc (.cells #[.slice t8a0 l0.Ends.length t8c0, .slice t8a1 l0.Ids.length t8c1, .slice t8a2 l0.Inputs.length t8c2] 31)).cell? ⟨w.heap.size + 1, 0, none⟩ = some (.slice p2a0 l2.Ends.length p2c0) := cell_keep ((Keeps.refl _).alloc _) c3_8
  have pre5 : (w8.alloc (.cells #[.slice t8a0 l0.Ends.length t8c0, .slice t8a1 l0.Ids.length t8c1, .slice t8a2 l0.Inputs.length t8c2] 31)).cell? ⟨w.heap.size + 1, 1, none⟩ = some (.slice p2a1 l2.Ids.length p2c1) := cell_keep ((Keeps.refl _).alloc _) c4_8
  have pre6 : (w8.alloc (.cells #[.slice t8a0 l0.Ends.length t8c0, .slice t8a1 l0.Ids.length t8c1, .slice t8a2 l0.Inputs.length t8c2] 31)).cell? ⟨w.heap.size + 1, 2, none⟩ = some (.slice p2a2 l2.Inputs.length p2c2) := cell_keep ((Keeps.refl _).alloc _) c5_8
  go_wp2_with fail
  clear pre1 pre2 pre3 pre4 pre5 pre6
  have KS9 : Hid (Keeps w8 (w8.alloc (.cells #[.slice t8a0 l0.Ends.length t8c0, .slice t8a1 l0.Ids.length t8c1, .slice t8a2 l0.Inputs.length t8c2] 31))) := (Keeps.refl _).alloc _
  have Z9' : Hid (w8.heap.size + 1 ≤ (w8.alloc (.cells #[.slice t8a0 l0.Ends.length t8c0, .slice t8a1 l0.Ids.length t8c1, .slice t8a2 l0.Inputs.length t8c2] 31)).heap.size) := by show _ ≤ _; simp
  have E9 : (w8.alloc (.cells #[.slice t8a0 l0.Ends.length t8c0, .slice t8a1 l0.Ids.length t8c1, .slice t8a2 l0.Inputs.length t8c2] 31)).heap.size = w8.heap.size + 1 := by rw [World.size_alloc]
  have c6_9 : (w8.alloc (.cells #[.slice t8a0 l0.Ends.length t8c0, .slice t8a1 l0.Ids.length t8c1, .slice t8a2 l0.Inputs.length t8c2] 31)).cell? ⟨w8.heap.size, 0, none⟩ = some (.slice t8a0 l0.Ends.length t8c0) := by rw [World.cell?_alloc_at _ _ _ _ rfl]; rfl
  have c7_9 : (w8.alloc (.cells #[.slice t8a0 l0.Ends.length t8c0, .slice t8a1 l0.Ids.length t8c1, .slice t8a2 l0.Inputs.length t8c2] 31)).cell? ⟨w8.heap.size, 1, none⟩ = some (.slice t8a1 l0.Ids.length t8c1) := by rw [World.cell?_alloc_at _ _ _ _ rfl]; rfl
  have c8_9 : (w8.alloc (.cells #[.slice t8a0 l0.Ends.length t8c0, .slice t8a1 l0.Ids.length t8c1, .slice t8a2 l0.Inputs.length t8c2] 31)).cell? ⟨w8.heap.size, 2, none⟩ = some (.slice t8a2 l0.Inputs.length t8c2) := by rw [World.cell?_alloc_at _ _ _ _ rfl]; rfl
  generalize w8.alloc (.cells #[.slice t8a0 l0.Ends.length t8c0, .slice t8a1 l0.Ids.length t8c1, .slice t8a2 l0.Inputs.length t8c2] 31) = w9 at KS9 Z9' E9 c6_9 c7_9 c8_9 ⊢
  have K9 : Hid (Keeps w w9) := Keeps.trans K8.out KS9.out
  have Z9 : Hid (w8.heap.size ≤ w9.heap.size) := KS9.out.size
  have T5_9 := Lib.hid (T5_8.out.keep KS9.out)
  clear T5_8
  have T6_9 := Lib.hid (T6_8.out.keep KS9.out)
  clear T6_8
  have T7_9 := Lib.hid (T7_8.out.keep KS9.out)
  clear T7_8
  have T8_9 := Lib.hid (T8.out.keep KS9.out)
  clear T8
  have c0_9 := cell_keep KS9.out c0_8
  clear c0_8
  have c1_9 := cell_keep KS9.out c1_8
  clear c1_8
  have c2_9 := cell_keep KS9.out c2_8
  clear c2_8
  have c3_9 := cell_keep KS9.out c3_8
  clear c3_8
  have c4_9 := cell_keep KS9.out c4_8
  clear c4_8
  have c5_9 := cell_keep KS9.out c5_8
  clear c5_8
  clear E9
  refine (toNetwork_any _ l2 _ (R2.out.keep K9.out) s2).mono ?_
  rintro e w10 ⟨t10, rfl, o10, k10⟩
  obtain ⟨t10a0, t10c0, t10a1, t10c1, t10a2, t10c2, rfl⟩ := o10.rd.shape
  have T10 := Lib.hid o10
  clear o10
  have KS10 : Hid (Keeps w9 w10) := k10
  clear k10
  have K10 : Hid (Keeps w w10) := Keeps.trans K9.out KS10.out
  have Z10 : Hid (w9.heap.size ≤ w10.heap.size) := KS10.out.size
  have T5_10 := Lib.hid (T5_9.out.keep KS10.out)
  clear T5_9
  have T6_10 := Lib.hid (T6_9.out.keep KS10.out)
  clear T6_9
  have T7_10 := Lib.hid (T7_9.out.keep KS10.out)
  clear T7_9
  have T8_10 := Lib.hid (T8_9.out.keep KS10.out)
  clear T8_9
  have c0_10 := cell_keep KS10.out c0_9
  clear c0_9
  have c1_10 := cell_keep KS10.out c1_9
  clear c1_9
  have c2_10 := cell_keep KS10.out c2_9
  clear c2_9
  have c3_10 := cell_keep KS10.out c3_9
  clear c3_9
  have c4_10 := cell_keep KS10.out c4_9
  clear c4_9
  have c5_10 := cell_keep KS10.out c5_9
  clear c5_9
  have c6_10 := cell_keep KS10.out c6_9
  clear c6_9
  have c7_10 := cell_keep KS10.out c7_9
  clear c7_9
  have c8_10 := cell_keep KS10.out c8_9
  clear c8_9
  have pre1 : (w10.alloc (.cells #[.slice t10a0 l2.Ends.length t10c0, .slice t10a1 l2.Ids.length t10c1, .slice t10a2 l2.Inputs.length t10c2] 31)).cell? ⟨w.heap.size, 0, none⟩ = some (.slice p0a0 l0.Ends.length p0c0) := cell_keep ((Keeps.refl _).alloc _) c0_10
  have pre2 : (w10.alloc (.cells #[.slice t10a0 l2.Ends.length t10c0, .slice t10a1 l2.Ids.length t10c1, .slice t10a2 l2.Inputs.length t10c2] 31)).cell? ⟨w.heap.size, 1, none⟩ = some (.slice p0a1 l0.Ids.length p0c1) := cell_keep ((Keeps.refl _).alloc _) c1_10
  have pre3 : (w10.alloc (.cells #[.slice t10a0 l2.Ends.length t10c0, .slice t10a1 l2.Ids.length t10c1, .slice t10a2 l2.Inputs.length t10c2] 31)).cell? ⟨w.heap.size, 2, none⟩ = some (.slice p0a2 l0.Inputs.length p0c2) := cell_keep ((Keeps.refl _).alloc _) c2_10
  have pre4 : (w10.alloc (.cells #[.slice t10a0 l2.Ends.length t10c0, .slice t10a1 l2.Ids.length t10c1, .slice t10a2 l2.Inputs.length t10c2] 31)).cell? ⟨w.heap.size + 1, 0, none⟩ = some (.slice p2a0 l2.Ends.length p2c0) := cell_keep ((Keeps.refl _).alloc _) c3_10
  have pre5 : (w10.alloc (.cells #[.slice t10a0 l2.Ends.length t10c0, .slice t10a1 l2.Ids.length t10c1, .slice t10a2 l2.Inputs.length t10c2] 31)).cell? ⟨w.heap.size + 1, 1, none⟩ = some (.slice p2a1 l2.Ids.length p2c1) := cell_keep ((Keeps.refl _).alloc _) c4_10
  have pre6 : (w10.alloc (.cells #[.slice t10a0 l2.Ends.length t10c0, .slice t10a1 l2.Ids.length t10c1, .slice t10a2 l2.Inputs.length t10c2] 31)).cell? ⟨w.heap.size + 1, 2, none⟩ = some (.slice p2a2 l2.Inputs.length p2c2) := cell_keep ((Keeps.refl _).alloc _) c5_10
  have pre7 : (w10.alloc (.cells #[.slice t10a0 l2.Ends.length t10c0, .slice t10a1 l2.Ids.length t10c1, .slice t10a2 l2.Inputs.length t10c2] 31)).cell? ⟨w8.heap.size, 0, none⟩ = some (.slice t8a0 l0.Ends.length t8c0) := cell_keep ((Keeps.refl _).alloc _) c6_10
  have pre8 : (w10.alloc (.cells #[.slice t10a0 l2.Ends.length t10c0, .slice t10a1 l2.Ids.length t10c1, .slice t10a2 l2.Inputs.length t10c2] 31)).cell? ⟨w8.heap.size, 1, none⟩ = some (.slice t8a1 l0.Ids.length t8c1) := cell_keep ((Keeps.refl _).alloc _) c7_10
  have pre9 : (w10.alloc (.cells #[.slice t10a0 l2.Ends.length t10c0, .slice t10a1 l2.Ids.length t10c1, .slice t10a2 l2.Inputs.length t10c2] 31)).cell? ⟨w8.heap.size, 2, none⟩ = some (.slice t8a2 l0.Inputs.length t8c2) := cell_keep ((Keeps.refl _).alloc _) c8_10
  go_wp2_with fail
  clear pre1 pre2 pre3 pre4 pre5 pre6 pre7 pre8 pre9
  have KS11 : Hid (Keeps w10 (w10.alloc (.cells #[.slice t10a0 l2.Ends.length t10c0, .slice t10a1 l2.Ids.length t10c1, .slice t10a2 l2.Inputs.length t10c2] 31))) := (Keeps.refl _).alloc _
  have Z11' : Hid (w10.heap.size + 1 ≤ (w10.alloc (.cells #[.slice t10a0 l2.Ends.length t10c0, .slice t10a1 l2.Ids.length t10c1, .slice t10a2 l2.Inputs.length t10c2] 31)).heap.size) := by show _ ≤ _; simp
  have E11 : (w10.alloc (.cells #[.slice t10a0 l2.Ends.length t10c0, .slice t10a1 l2.Ids.length t10c1, .slice t10a2 l2.Inputs.length t10c2] 31)).heap.size = w10.heap.size + 1 := by rw [World.size_alloc]
  have c9_11 : (w10.alloc (.cells #[.slice t10a0 l2.Ends.length t10c0, .slice t10a1 l2.Ids.length t10c1, .slice t10a2 l2.Inputs.length t10c2] 31)).cell? ⟨w10.heap.size, 0, none⟩ = some (.slice t10a0 l2.Ends.length t10c0) := by rw [World.cell?_alloc_at _ _ _ _ rfl]; rfl
  have c10_11 : (w10.alloc (.cells #[.slice t10a0 l2.Ends.length t10c0, .slice t10a1 l2.Ids.length t10c1, .slice t10a2 l2.Inputs.length t10c2] 31)).cell? ⟨w10.heap.size, 1, none⟩ = some (.slice t10a1 l2.Ids.length t10c1) := by rw [World.cell?_alloc_at _ _ _ _ rfl]; rfl
  have c11_11 : (w10.alloc (.cells #[.slice t10a0 l2.Ends.length t10c0, .slice t10a1 l2.Ids.length t10c1, .slice t10a2 l2.Inputs.length t10c2] 31)).cell? ⟨w10.heap.size, 2, none⟩ = some (.slice t10a2 l2.Inputs.length t10c2) := by rw [World.cell?_alloc_at _ _ _ _ rfl]; rfl
  generalize w10.alloc (.cells #[.slice t10a0 l2.Ends.length t10c0, .slice t10a1 l2.Ids.length t10c1, .slice t10a2 l2.Inputs.length t10c2] 31) = w11 at KS11 Z11' E11 c9_11 c10_11 c11_11 ⊢
  have K11 : Hid (Keeps w w11) := Keeps.trans K10.out KS11.out
  have Z11 : Hid (w10.heap.size ≤ w11.heap.size) := KS11.out.size
  have T5_11 := Lib.hid (T5_10.out.keep KS11.out)
  clear T5_10
  have T6_11 := Lib.hid (T6_10.out.keep KS11.out)
  clear T6_10
  have T7_11 := Lib.hid (T7_10.out.keep KS11.out)
  clear T7_10
  have T8_11 := Lib.hid (T8_10.out.keep KS11.out)
  clear T8_10
  have T10_11 := Lib.hid (T10.out.keep KS11.out)
  clear T10
  have c0_11 := cell_keep KS11.out c0_10
  clear c0_10
  have c1_11 := cell_keep KS11.out c1_10
  clear c1_10
  have c2_11 := cell_keep KS11.out c2_10
  clear c2_10
  have c3_11 := cell_keep KS11.out c3_10
  clear c3_10
  have c4_11 := cell_keep KS11.out c4_10
  clear c4_10
  have c5_11 := cell_keep KS11.out c5_10
  clear c5_10
  have c6_11 := cell_keep KS11.out c6_10
  clear c6_10
  have c7_11 := cell_keep KS11.out c7_10
  clear c7_10
  have c8_11 := cell_keep KS11.out c8_10
  clear c8_10
  clear E11
  refine (implImagesOf_any (.agg #[.slice t8a0 l0.Ends.length t8c0, .slice t8a1 l0.Ids.length t8c1, .slice t8a2 l0.Inputs.length t8c2]) l0 a1 (.agg #[.slice t10a0 l2.Ends.length t10c0, .slice t10a1 l2.Ids.length t10c1, .slice t10a2 l2.Inputs.length t10c2]) l2 _ (T8_11.out.rd) IL0.out s0 ia1 (T10_11.out.rd) IL2.out s2).mono ?_
  rw [HE.out]
  rintro e w12 ⟨x12, rfl, o12, b12, k12⟩
  rw [HL.out] at o12
  have T12 := Lib.hid o12.owI
  clear o12 b12
  have KS12 : Hid (Keeps w11 w12) := k12
  clear k12
  have K12 : Hid (Keeps w w12) := Keeps.trans K11.out KS12.out
  have Z12 : Hid (w11.heap.size ≤ w12.heap.size) := KS12.out.size
  have T5_12 := Lib.hid (T5_11.out.keep KS12.out)
  clear T5_11
  have T6_12 := Lib.hid (T6_11.out.keep KS12.out)
  clear T6_11
  have T7_12 := Lib.hid (T7_11.out.keep KS12.out)
  clear T7_11
  have T8_12 := Lib.hid (T8_11.out.keep KS12.out)
  clear T8_11
  have T10_12 := Lib.hid (T10_11.out.keep KS12.out)
  clear T10_11
  have c0_12 := cell_keep KS12.out c0_11
  clear c0_11
  have c1_12 := cell_keep KS12.out c1_11
  clear c1_11
  have c2_12 := cell_keep KS12.out c2_11
  clear c2_11
  have c3_12 := cell_keep KS12.out c3_11
  clear c3_11
  have c4_12 := cell_keep KS12.out c4_11
  clear c4_11
  have c5_12 := cell_keep KS12.out c5_11
  clear c5_11
  have c6_12 := cell_keep KS12.out c6_11
  clear c6_11
  have c7_12 := cell_keep KS12.out c7_11
  clear c7_11
  have c8_12 := cell_keep KS12.out c8_11
  clear c8_11
  have c9_12 := cell_keep KS12.out c9_11
  clear c9_11
  have c10_12 := cell_keep KS12.out c10_11
  clear c10_11
  have c11_12 := cell_keep KS12.out c11_11
  clear c11_11
  go_wp2_with fail
  refine (eqIntS_any x12 x7 _ _ _ (T12.out.ints) (T7_12.out.ints)).mono ?_
  rintro e w13 ⟨rfl, d13⟩
  have KS13 : Hid (Keeps w12 w13) := d13.keeps
  clear d13
  have K13 : Hid (Keeps w w13) := Keeps.trans K12.out KS13.out
  have Z13 : Hid (w12.heap.size ≤ w13.heap.size) := KS13.out.size
  have T5_13 := Lib.hid (T5_12.out.keep KS13.out)
  clear T5_12
  have T6_13 := Lib.hid (T6_12.out.keep KS13.out)
  clear T6_12
  have T7_13 := Lib.hid (T7_12.out.keep KS13.out)
  clear T7_12
  have T8_13 := Lib.hid (T8_12.out.keep KS13.out)
  clear T8_12
  have T10_13 := Lib.hid (T10_12.out.keep KS13.out)
  clear T10_12
  have T12_13 := Lib.hid (T12.out.keep KS13.out)
  clear T12
  have c0_13 := cell_keep KS13.out c0_12
  clear c0_12
  have c1_13 := cell_keep KS13.out c1_12
  clear c1_12
  have c2_13 := cell_keep KS13.out c2_12
  clear c2_12
  have c3_13 := cell_keep KS13.out c3_12
  clear c3_12
  have c4_13 := cell_keep KS13.out c4_12
  clear c4_12
  have c5_13 := cell_keep KS13.out c5_12
  clear c5_12
  have c6_13 := cell_keep KS13.out c6_12
  clear c6_12
  have c7_13 := cell_keep KS13.out c7_12
  clear c7_12
  have c8_13 := cell_keep KS13.out c8_12
  clear c8_12
  have c9_13 := cell_keep KS13.out c9_12
  clear c9_12
  have c10_13 := cell_keep KS13.out c10_12
  clear c10_12
  have c11_13 := cell_keep KS13.out c11_12
  clear c11_12
  go_wp2_with fail
  have SK : Hid (∀ W : World, Keeps w13 W → W.cell? ⟨w.heap.size, 0, none⟩ = some (.slice p0a0 l0.Ends.length p0c0) ∧ W.cell? ⟨w.heap.size, 1, none⟩ = some (.slice p0a1 l0.Ids.length p0c1) ∧ W.cell? ⟨w.heap.size, 2, none⟩ = some (.slice p0a2 l0.Inputs.length p0c2) ∧ W.cell? ⟨w.heap.size + 1, 0, none⟩ = some (.slice p2a0 l2.Ends.length p2c0) ∧ W.cell? ⟨w.heap.size + 1, 1, none⟩ = some (.slice p2a1 l2.Ids.length p2c1) ∧ W.cell? ⟨w.heap.size + 1, 2, none⟩ = some (.slice p2a2 l2.Inputs.length p2c2) ∧ W.cell? ⟨w8.heap.size, 0, none⟩ = some (.slice t8a0 l0.Ends.length t8c0) ∧ W.cell? ⟨w8.heap.size, 1, none⟩ = some (.slice t8a1 l0.Ids.length t8c1) ∧ W.cell? ⟨w8.heap.size, 2, none⟩ = some (.slice t8a2 l0.Inputs.length t8c2) ∧ W.cell? ⟨w10.heap.size, 0, none⟩ = some (.slice t10a0 l2.Ends.length t10c0) ∧ W.cell? ⟨w10.heap.size, 1, none⟩ = some (.slice t10a1 l2.Ids.length t10c1) ∧ W.cell? ⟨w10.heap.size, 2, none⟩ = some (.slice t10a2 l2.Inputs.length t10c2)) := fun W k => ⟨cell_keep k c0_13, cell_keep k c1_13, cell_keep k c2_13, cell_keep k c3_13, cell_keep k c4_13, cell_keep k c5_13, cell_keep k c6_13, cell_keep k c7_13, cell_keep k c8_13, cell_keep k c9_13, cell_keep k c10_13, cell_keep k c11_13⟩
  have KD : Hid (Keeps w13 w13.drew) := (Keeps.refl _).drew
  go_region_held3 (fun W => W.cell? ⟨w.heap.size, 0, none⟩ = some (.slice p0a0 l0.Ends.length p0c0) ∧ W.cell? ⟨w.heap.size, 1, none⟩ = some (.slice p0a1 l0.Ids.length p0c1) ∧ W.cell? ⟨w.heap.size, 2, none⟩ = some (.slice p0a2 l0.Inputs.length p0c2) ∧ W.cell? ⟨w.heap.size + 1, 0, none⟩ = some (.slice p2a0 l2.Ends.length p2c0) ∧ W.cell? ⟨w.heap.size + 1, 1, none⟩ = some (.slice p2a1 l2.Ids.length p2c1) ∧ W.cell? ⟨w.heap.size + 1, 2, none⟩ = some (.slice p2a2 l2.Inputs.length p2c2) ∧ W.cell? ⟨w8.heap.size, 0, none⟩ = some (.slice t8a0 l0.Ends.length t8c0) ∧ W.cell? ⟨w8.heap.size, 1, none⟩ = some (.slice t8a1 l0.Ids.length t8c1) ∧ W.cell? ⟨w8.heap.size, 2, none⟩ = some (.slice t8a2 l0.Inputs.length t8c2) ∧ W.cell? ⟨w10.heap.size, 0, none⟩ = some (.slice t10a0 l2.Ends.length t10c0) ∧ W.cell? ⟨w10.heap.size, 1, none⟩ = some (.slice t10a1 l2.Ids.length t10c1) ∧ W.cell? ⟨w10.heap.size, 2, none⟩ = some (.slice t10a2 l2.Inputs.length t10c2)) (first | exact SK.out _ KD.out | exact SK.out _ (Keeps.trans KD.out KS14'.out) | exact SK.out _ (Keeps.trans KD.out (Keeps.trans KS14'.out KS15.out)))
    ((first
      | (go_at_call 15; refine (toNetwork_any _ l0 _ (R0.out.keep (Keeps.trans K13.out KD.out)) s0).mono ?_; rintro e w14 ⟨tt, rfl, o14, k14⟩; obtain ⟨t14a0, t14c0, t14a1, t14c1, t14a2, t14c2, rfl⟩ := o14.rd.shape; have T14 := Lib.hid o14; have KS14' := Lib.hid k14; clear o14 k14)
      | (go_at_call 17; refine (eqNetwork_same _ _ l0 _ ((T8_13.out.rd).keep (Keeps.trans KD.out KS14'.out)) T14.out.rd s0).mono ?_; rintro e w15 ⟨rfl, k15⟩; have KS15 := Lib.hid k15; clear k15)))
  have KS14 : Hid (Keeps w13 w14) := Keeps.trans KD.out KS14'.out
  have K14 : Hid (Keeps w w14) := Keeps.trans K13.out KS14.out
  have Z14 : Hid (w13.heap.size ≤ w14.heap.size) := KS14.out.size
  have T5_14 := Lib.hid (T5_13.out.keep KS14.out)
  clear T5_13
  have T6_14 := Lib.hid (T6_13.out.keep KS14.out)
  clear T6_13
  have T7_14 := Lib.hid (T7_13.out.keep KS14.out)
  clear T7_13
  have T8_14 := Lib.hid (T8_13.out.keep KS14.out)
  clear T8_13
  have T10_14 := Lib.hid (T10_13.out.keep KS14.out)
  clear T10_13
  have T12_14 := Lib.hid (T12_13.out.keep KS14.out)
  clear T12_13
  have c0_14 := cell_keep KS14.out c0_13
  clear c0_13
  have c1_14 := cell_keep KS14.out c1_13
  clear c1_13
  have c2_14 := cell_keep KS14.out c2_13
  clear c2_13
  have c3_14 := cell_keep KS14.out c3_13
  clear c3_13
  have c4_14 := cell_keep KS14.out c4_13
  clear c4_13
  have c5_14 := cell_keep KS14.out c5_13
  clear c5_13
  have c6_14 := cell_keep KS14.out c6_13
  clear c6_13
  have c7_14 := cell_keep KS14.out c7_13
  clear c7_13
  have c8_14 := cell_keep KS14.out c8_13
  clear c8_13
  have c9_14 := cell_keep KS14.out c9_13
  clear c9_13
  have c10_14 := cell_keep KS14.out c10_13
  clear c10_13
  have c11_14 := cell_keep KS14.out c11_13
  clear c11_13
  have K15 : Hid (Keeps w w15) := Keeps.trans K14.out KS15.out
  have Z15 : Hid (w14.heap.size ≤ w15.heap.size) := KS15.out.size
  have T5_15 := Lib.hid (T5_14.out.keep KS15.out)
  clear T5_14
  have T6_15 := Lib.hid (T6_14.out.keep KS15.out)
  clear T6_14
  have T7_15 := Lib.hid (T7_14.out.keep KS15.out)
  clear T7_14
  have T8_15 := Lib.hid (T8_14.out.keep KS15.out)
  clear T8_14
  have T10_15 := Lib.hid (T10_14.out.keep KS15.out)
  clear T10_14
  have T12_15 := Lib.hid (T12_14.out.keep KS15.out)
  clear T12_14
  have c0_15 := cell_keep KS15.out c0_14
  clear c0_14
  have c1_15 := cell_keep KS15.out c1_14
  clear c1_14
  have c2_15 := cell_keep KS15.out c2_14
  clear c2_14
  have c3_15 := cell_keep KS15.out c3_14
  clear c3_14
  have c4_15 := cell_keep KS15.out c4_14
  clear c4_14
  have c5_15 := cell_keep KS15.out c5_14
  clear c5_14
  have c6_15 := cell_keep KS15.out c6_14
  clear c6_14
  have c7_15 := cell_keep KS15.out c7_14
  clear c7_14
  have c8_15 := cell_keep KS15.out c8_14
  clear c8_14
  have c9_15 := cell_keep KS15.out c9_14
  clear c9_14
  have c10_15 := cell_keep KS15.out c10_14
  clear c10_14
  have c11_15 := cell_keep KS15.out c11_14
  clear c11_14
  clear SK KD
  go_wp2_with fail
  have SK : Hid (∀ W : World, Keeps w15 W → W.cell? ⟨w.heap.size, 0, none⟩ = some (.slice p0a0 l0.Ends.length p0c0) ∧ W.cell? ⟨w.heap.size, 1, none⟩ = some (.slice p0a1 l0.Ids.length p0c1) ∧ W.cell? ⟨w.heap.size, 2, none⟩ = some (.slice p0a2 l0.Inputs.length p0c2) ∧ W.cell? ⟨w.heap.size + 1, 0, none⟩ = some (.slice p2a0 l2.Ends.length p2c0) ∧ W.cell? ⟨w.heap.size + 1, 1, none⟩ = some (.slice p2a1 l2.Ids.length p2c1) ∧ W.cell? ⟨w.heap.size + 1, 2, none⟩ = some (.slice p2a2 l2.Inputs.length p2c2) ∧ W.cell? ⟨w8.heap.size, 0, none⟩ = some (.slice t8a0 l0.Ends.length t8c0) ∧ W.cell? ⟨w8.heap.size, 1, none⟩ = some (.slice t8a1 l0.Ids.length t8c1) ∧ W.cell? ⟨w8.heap.size, 2, none⟩ = some (.slice t8a2 l0.Inputs.length t8c2) ∧ W.cell? ⟨w10.heap.size, 0, none⟩ = some (.slice t10a0 l2.Ends.length t10c0) ∧ W.cell? ⟨w10.heap.size, 1, none⟩ = some (.slice t10a1 l2.Ids.length t10c1) ∧ W.cell? ⟨w10.heap.size, 2, none⟩ = some (.slice t10a2 l2.Inputs.length t10c2)) := fun W k => ⟨cell_keep k c0_15, cell_keep k c1_15, cell_keep k c2_15, cell_keep k c3_15, cell_keep k c4_15, cell_keep k c5_15, cell_keep k c6_15, cell_keep k c7_15, cell_keep k c8_15, cell_keep k c9_15, cell_keep k c10_15, cell_keep k c11_15⟩
  have KD : Hid (Keeps w15 w15.drew) := (Keeps.refl _).drew
  go_region_held3 (fun W => W.cell? ⟨w.heap.size, 0, none⟩ = some (.slice p0a0 l0.Ends.length p0c0) ∧ W.cell? ⟨w.heap.size, 1, none⟩ = some (.slice p0a1 l0.Ids.length p0c1) ∧ W.cell? ⟨w.heap.size, 2, none⟩ = some (.slice p0a2 l0.Inputs.length p0c2) ∧ W.cell? ⟨w.heap.size + 1, 0, none⟩ = some (.slice p2a0 l2.Ends.length p2c0) ∧ W.cell? ⟨w.heap.size + 1, 1, none⟩ = some (.slice p2a1 l2.Ids.length p2c1) ∧ W.cell? ⟨w.heap.size + 1, 2, none⟩ = some (.slice p2a2 l2.Inputs.length p2c2) ∧ W.cell? ⟨w8.heap.size, 0, none⟩ = some (.slice t8a0 l0.Ends.length t8c0) ∧ W.cell? ⟨w8.heap.size, 1, none⟩ = some (.slice t8a1 l0.Ids.length t8c1) ∧ W.cell? ⟨w8.heap.size, 2, none⟩ = some (.slice t8a2 l0.Inputs.length t8c2) ∧ W.cell? ⟨w10.heap.size, 0, none⟩ = some (.slice t10a0 l2.Ends.length t10c0) ∧ W.cell? ⟨w10.heap.size, 1, none⟩ = some (.slice t10a1 l2.Ids.length t10c1) ∧ W.cell? ⟨w10.heap.size, 2, none⟩ = some (.slice t10a2 l2.Inputs.length t10c2)) (first | exact SK.out _ KD.out | exact SK.out _ (Keeps.trans KD.out KS16'.out) | exact SK.out _ (Keeps.trans KD.out (Keeps.trans KS16'.out KS17.out)))
    ((first
      | (go_at_call 15; refine (toNetwork_any _ l2 _ (R2.out.keep (Keeps.trans K15.out KD.out)) s2).mono ?_; rintro e w16 ⟨tt, rfl, o16, k16⟩; obtain ⟨t16a0, t16c0, t16a1, t16c1, t16a2, t16c2, rfl⟩ := o16.rd.shape; have T16 := Lib.hid o16; have KS16' := Lib.hid k16; clear o16 k16)
      | (go_at_call 17; refine (eqNetwork_same _ _ l2 _ ((T10_15.out.rd).keep (Keeps.trans KD.out KS16'.out)) T16.out.rd s2).mono ?_; rintro e w17 ⟨rfl, k17⟩; have KS17 := Lib.hid k17; clear k17)))
  have KS16 : Hid (Keeps w15 w16) := Keeps.trans KD.out KS16'.out
  have K16 : Hid (Keeps w w16) := Keeps.trans K15.out KS16.out
  have Z16 : Hid (w15.heap.size ≤ w16.heap.size) := KS16.out.size
  have T5_16 := Lib.hid (T5_15.out.keep KS16.out)
  clear T5_15
  have T6_16 := Lib.hid (T6_15.out.keep KS16.out)
  clear T6_15
  have T7_16 := Lib.hid (T7_15.out.keep KS16.out)
  clear T7_15
  have T8_16 := Lib.hid (T8_15.out.keep KS16.out)
  clear T8_15
  have T10_16 := Lib.hid (T10_15.out.keep KS16.out)
  clear T10_15
  have T12_16 := Lib.hid (T12_15.out.keep KS16.out)
  clear T12_15
  have c0_16 := cell_keep KS16.out c0_15
  clear c0_15
  have c1_16 := cell_keep KS16.out c1_15
  clear c1_15
  have c2_16 := cell_keep KS16.out c2_15
  clear c2_15
  have c3_16 := cell_keep KS16.out c3_15
  clear c3_15
  have c4_16 := cell_keep KS16.out c4_15
  clear c4_15
  have c5_16 := cell_keep KS16.out c5_15
  clear c5_15
  have c6_16 := cell_keep KS16.out c6_15
  clear c6_15
  have c7_16 := cell_keep KS16.out c7_15
  clear c7_15
  have c8_16 := cell_keep KS16.out c8_15
  clear c8_15
  have c9_16 := cell_keep KS16.out c9_15
  clear c9_15
  have c10_16 := cell_keep KS16.out c10_15
  clear c10_15
  have c11_16 := cell_keep KS16.out c11_15
  clear c11_15
  have K17 : Hid (Keeps w w17) := Keeps.trans K16.out KS17.out
  have Z17 : Hid (w16.heap.size ≤ w17.heap.size) := KS17.out.size
  have T5_17 := Lib.hid (T5_16.out.keep KS17.out)
  clear T5_16
  have T6_17 := Lib.hid (T6_16.out.keep KS17.out)
  clear T6_16
  have T7_17 := Lib.hid (T7_16.out.keep KS17.out)
  clear T7_16
  have T8_17 := Lib.hid (T8_16.out.keep KS17.out)
  clear T8_16
  have T10_17 := Lib.hid (T10_16.out.keep KS17.out)
  clear T10_16
  have T12_17 := Lib.hid (T12_16.out.keep KS17.out)
  clear T12_16
  have c0_17 := cell_keep KS17.out c0_16
  clear c0_16
  have c1_17 := cell_keep KS17.out c1_16
  clear c1_16
  have c2_17 := cell_keep KS17.out c2_16
  clear c2_16
  have c3_17 := cell_keep KS17.out c3_16
  clear c3_16
  have c4_17 := cell_keep KS17.out c4_16
  clear c4_16
  have c5_17 := cell_keep KS17.out c5_16
  clear c5_16
  have c6_17 := cell_keep KS17.out c6_16
  clear c6_16
  have c7_17 := cell_keep KS17.out c7_16
  clear c7_16
  have c8_17 := cell_keep KS17.out c8_16
  clear c8_16
  have c9_17 := cell_keep KS17.out c9_16
  clear c9_16
  have c10_17 := cell_keep KS17.out c10_16
  clear c10_16
  have c11_17 := cell_keep KS17.out c11_16
  clear c11_16
  clear SK KD
  go_wp2_with fail
  have CL18 := cntN_le l0
  refine (markNetwork_any w7.heap.size w8.heap.size _ l0 1 _ T8_17.out (by have := Z1.out; have := Z2.out; have := Z3.out; have := Z4.out; have := Z5.out; have := Z6.out; have := Z7.out; have := Z8.out; have := Z9.out; have := Z10.out; have := Z11.out; have := Z12.out; have := Z13.out; have := Z14.out; have := Z15.out; have := Z16.out; have := Z17.out; omega) (by omega) (by omega)).mono ?_
  rintro e w18 ⟨rfl, g18⟩
  have G18 : Hid (Chg w7.heap.size w8.heap.size w17 w18) := g18
  clear g18 T8_17
  have Z18 : Hid (w17.heap.size ≤ w18.heap.size) := G18.out.size
  have K18 : Hid (Keeps w w18) := G18.out.keeps K17.out (by have := Z1.out; have := Z2.out; have := Z3.out; have := Z4.out; have := Z5.out; have := Z6.out; have := Z7.out; have := Z8.out; have := Z9.out; have := Z10.out; have := Z11.out; have := Z12.out; have := Z13.out; have := Z14.out; have := Z15.out; have := Z16.out; have := Z17.out; have := Z18.out; omega)
  have T5_18 := Lib.hid (T5_17.out.chg G18.out (by have := Z1.out; have := Z2.out; have := Z3.out; have := Z4.out; have := Z5.out; have := Z6.out; have := Z7.out; have := Z8.out; have := Z9.out; have := Z10.out; have := Z11.out; have := Z12.out; have := Z13.out; have := Z14.out; have := Z15.out; have := Z16.out; have := Z17.out; have := Z18.out; omega))
  clear T5_17
  have T6_18 := Lib.hid (T6_17.out.chg G18.out (by have := Z1.out; have := Z2.out; have := Z3.out; have := Z4.out; have := Z5.out; have := Z6.out; have := Z7.out; have := Z8.out; have := Z9.out; have := Z10.out; have := Z11.out; have := Z12.out; have := Z13.out; have := Z14.out; have := Z15.out; have := Z16.out; have := Z17.out; have := Z18.out; omega))
  clear T6_17
  have T7_18 := Lib.hid (T7_17.out.chg G18.out (by have := Z1.out; have := Z2.out; have := Z3.out; have := Z4.out; have := Z5.out; have := Z6.out; have := Z7.out; have := Z8.out; have := Z9.out; have := Z10.out; have := Z11.out; have := Z12.out; have := Z13.out; have := Z14.out; have := Z15.out; have := Z16.out; have := Z17.out; have := Z18.out; omega))
  clear T7_17
  have T10_18 := Lib.hid (T10_17.out.chg G18.out (by have := Z1.out; have := Z2.out; have := Z3.out; have := Z4.out; have := Z5.out; have := Z6.out; have := Z7.out; have := Z8.out; have := Z9.out; have := Z10.out; have := Z11.out; have := Z12.out; have := Z13.out; have := Z14.out; have := Z15.out; have := Z16.out; have := Z17.out; have := Z18.out; omega))
  clear T10_17
  have T12_18 := Lib.hid (T12_17.out.chg G18.out (by have := Z1.out; have := Z2.out; have := Z3.out; have := Z4.out; have := Z5.out; have := Z6.out; have := Z7.out; have := Z8.out; have := Z9.out; have := Z10.out; have := Z11.out; have := Z12.out; have := Z13.out; have := Z14.out; have := Z15.out; have := Z16.out; have := Z17.out; have := Z18.out; omega))
  clear T12_17
  have c0_18 := (World.cell?_of_block (a := ⟨w.heap.size, 0, none⟩) (G18.out.block (w.heap.size) (by have := Z1.out; have := Z2.out; have := Z3.out; have := Z4.out; have := Z5.out; have := Z6.out; have := Z7.out; have := Z8.out; have := Z9.out; have := Z10.out; have := Z11.out; have := Z12.out; have := Z13.out; have := Z14.out; have := Z15.out; have := Z16.out; have := Z17.out; have := Z18.out; have := Z1'.out; (try simp only); omega) (by have := Z1.out; have := Z2.out; have := Z3.out; have := Z4.out; have := Z5.out; have := Z6.out; have := Z7.out; have := Z8.out; have := Z9.out; have := Z10.out; have := Z11.out; have := Z12.out; have := Z13.out; have := Z14.out; have := Z15.out; have := Z16.out; have := Z17.out; have := Z18.out; have := Z1'.out; (try simp only); omega))).trans c0_17
  clear c0_17
  have c1_18 := (World.cell?_of_block (a := ⟨w.heap.size, 1, none⟩) (G18.out.block (w.heap.size) (by have := Z1.out; have := Z2.out; have := Z3.out; have := Z4.out; have := Z5.out; have := Z6.out; have := Z7.out; have := Z8.out; have := Z9.out; have := Z10.out; have := Z11.out; have := Z12.out; have := Z13.out; have := Z14.out; have := Z15.out; have := Z16.out; have := Z17.out; have := Z18.out; have := Z1'.out; (try simp only); omega) (by have := Z1.out; have := Z2.out; have := Z3.out; have := Z4.out; have := Z5.out; have := Z6.out; have := Z7.out; have := Z8.out; have := Z9.out; have := Z10.out; have := Z11.out; have := Z12.out; have := Z13.out; have := Z14.out; have := Z15.out; have := Z16.out; have := Z17.out; have := Z18.out; have := Z1'.out; (try simp only); omega))).trans c1_17
  clear c1_17
  have c2_18 := (World.cell?_of_block (a := ⟨w.heap.size, 2, none⟩) (G18.out.block (w.heap.size) (by have := Z1.out; have := Z2.out; have := Z3.out; have := Z4.out; have := Z5.out; have := Z6.out; have := Z7.out; have := Z8.out; have := Z9.out; have := Z10.out; have := Z11.out; have := Z12.out; have := Z13.out; have := Z14.out; have := Z15.out; have := Z16.out; have := Z17.out; have := Z18.out; have := Z1'.out; (try simp only); omega) (by have := Z1.out; have := Z2.out; have := Z3.out; have := Z4.out; have := Z5.out; have := Z6.out; have := Z7.out; have := Z8.out; have := Z9.out; have := Z10.out; have := Z11.out; have := Z12.out; have := Z13.out; have := Z14.out; have := Z15.out; have := Z16.out; have := Z17.out; have := Z18.out; have := Z1'.out; (try simp only); omega))).trans c2_17
  clear c2_17
  have c3_18 := (World.cell?_of_block (a := ⟨w.heap.size + 1, 0, none⟩) (G18.out.block (w.heap.size + 1) (by have := Z1.out; have := Z2.out; have := Z3.out; have := Z4.out; have := Z5.out; have := Z6.out; have := Z7.out; have := Z8.out; have := Z9.out; have := Z10.out; have := Z11.out; have := Z12.out; have := Z13.out; have := Z14.out; have := Z15.out; have := Z16.out; have := Z17.out; have := Z18.out; have := Z2'.out; (try simp only); omega) (by have := Z1.out; have := Z2.out; have := Z3.out; have := Z4.out; have := Z5.out; have := Z6.out; have := Z7.out; have := Z8.out; have := Z9.out; have := Z10.out; have := Z11.out; have := Z12.out; have := Z13.out; have := Z14.out; have := Z15.out; have := Z16.out; have := Z17.out; have := Z18.out; have := Z2'.out; (try simp only); omega))).trans c3_17
  clear c3_17
  have c4_18 := (World.cell?_of_block (a := ⟨w.heap.size + 1, 1, none⟩) (G18.out.block (w.heap.size + 1) (by have := Z1.out; have := Z2.out; have := Z3.out; have := Z4.out; have := Z5.out; have := Z6.out; have := Z7.out; have := Z8.out; have := Z9.out; have := Z10.out; have := Z11.out; have := Z12.out; have := Z13.out; have := Z14.out; have := Z15.out; have := Z16.out; have := Z17.out; have := Z18.out; have := Z2'.out; (try simp only); omega) (by have := Z1.out; have := Z2.out; have := Z3.out; have := Z4.out; have := Z5.out; have := Z6.out; have := Z7.out; have := Z8.out; have := Z9.out; have := Z10.out; have := Z11.out; have := Z12.out; have := Z13.out; have := Z14.out; have := Z15.out; have := Z16.out; have := Z17.out; have := Z18.out; have := Z2'.out; (try simp only); omega))).trans c4_17
  clear c4_17
  have c5_18 := (World.cell?_of_block (a := ⟨w.heap.size + 1, 2, none⟩) (G18.out.block (w.heap.size + 1) (by have := Z1.out; have := Z2.out; have := Z3.out; have := Z4.out; have := Z5.out; have := Z6.out; have := Z7.out; have := Z8.out; have := Z9.out; have := Z10.out; have := Z11.out; have := Z12.out; have := Z13.out; have := Z14.out; have := Z15.out; have := Z16.out; have := Z17.out; have := Z18.out; have := Z2'.out; (try simp only); omega) (by have := Z1.out; have := Z2.out; have := Z3.out; have := Z4.out; have := Z5.out; have := Z6.out; have := Z7.out; have := Z8.out; have := Z9.out; have := Z10.out; have := Z11.out; have := Z12.out; have := Z13.out; have := Z14.out; have := Z15.out; have := Z16.out; have := Z17.out; have := Z18.out; have := Z2'.out; (try simp only); omega))).trans c5_17
  clear c5_17
  have c6_18 := (World.cell?_of_block (a := ⟨w8.heap.size, 0, none⟩) (G18.out.block (w8.heap.size) (by have := Z1.out; have := Z2.out; have := Z3.out; have := Z4.out; have := Z5.out; have := Z6.out; have := Z7.out; have := Z8.out; have := Z9.out; have := Z10.out; have := Z11.out; have := Z12.out; have := Z13.out; have := Z14.out; have := Z15.out; have := Z16.out; have := Z17.out; have := Z18.out; have := Z9'.out; (try simp only); omega) (by have := Z1.out; have := Z2.out; have := Z3.out; have := Z4.out; have := Z5.out; have := Z6.out; have := Z7.out; have := Z8.out; have := Z9.out; have := Z10.out; have := Z11.out; have := Z12.out; have := Z13.out; have := Z14.out; have := Z15.out; have := Z16.out; have := Z17.out; have := Z18.out; have := Z9'.out; (try simp only); omega))).trans c6_17
  clear c6_17
  have c7_18 := (World.cell?_of_block (a := ⟨w8.heap.size, 1, none⟩) (G18.out.block (w8.heap.size) (by have := Z1.out; have := Z2.out; have := Z3.out; have := Z4.out; have := Z5.out; have := Z6.out; have := Z7.out; have := Z8.out; have := Z9.out; have := Z10.out; have := Z11.out; have := Z12.out; have := Z13.out; have := Z14.out; have := Z15.out; have := Z16.out; have := Z17.out; have := Z18.out; have := Z9'.out; (try simp only); omega) (by have := Z1.out; have := Z2.out; have := Z3.out; have := Z4.out; have := Z5.out; have := Z6.out; have := Z7.out; have := Z8.out; have := Z9.out; have := Z10.out; have := Z11.out; have := Z12.out; have := Z13.out; have := Z14.out; have := Z15.out; have := Z16.out; have := Z17.out; have := Z18.out; have := Z9'.out; (try simp only); omega))).trans c7_17
  clear c7_17
  have c8_18 := (World.cell?_of_block (a := ⟨w8.heap.size, 2, none⟩) (G18.out.block (w8.heap.size) (by have := Z1.out; have := Z2.out; have := Z3.out; have := Z4.out; have := Z5.out; have := Z6.out; have := Z7.out; have := Z8.out; have := Z9.out; have := Z10.out; have := Z11.out; have := Z12.out; have := Z13.out; have := Z14.out; have := Z15.out; have := Z16.out; have := Z17.out; have := Z18.out; have := Z9'.out; (try simp only); omega) (by have := Z1.out; have := Z2.out; have := Z3.out; have := Z4.out; have := Z5.out; have := Z6.out; have := Z7.out; have := Z8.out; have := Z9.out; have := Z10.out; have := Z11.out; have := Z12.out; have := Z13.out; have := Z14.out; have := Z15.out; have := Z16.out; have := Z17.out; have := Z18.out; have := Z9'.out; (try simp only); omega))).trans c8_17
  clear c8_17
  have c9_18 := (World.cell?_of_block (a := ⟨w10.heap.size, 0, none⟩) (G18.out.block (w10.heap.size) (by have := Z1.out; have := Z2.out; have := Z3.out; have := Z4.out; have := Z5.out; have := Z6.out; have := Z7.out; have := Z8.out; have := Z9.out; have := Z10.out; have := Z11.out; have := Z12.out; have := Z13.out; have := Z14.out; have := Z15.out; have := Z16.out; have := Z17.out; have := Z18.out; have := Z11'.out; (try simp only); omega) (by have := Z1.out; have := Z2.out; have := Z3.out; have := Z4.out; have := Z5.out; have := Z6.out; have := Z7.out; have := Z8.out; have := Z9.out; have := Z10.out; have := Z11.out; have := Z12.out; have := Z13.out; have := Z14.out; have := Z15.out; have := Z16.out; have := Z17.out; have := Z18.out; have := Z11'.out; (try simp only); omega))).trans c9_17
  clear c9_17
  have c10_18 := (World.cell?_of_block (a := ⟨w10.heap.size, 1, none⟩) (G18.out.block (w10.heap.size) (by have := Z1.out; have := Z2.out; have := Z3.out; have := Z4.out; have := Z5.out; have := Z6.out; have := Z7.out; have := Z8.out; have := Z9.out; have := Z10.out; have := Z11.out; have := Z12.out; have := Z13.out; have := Z14.out; have := Z15.out; have := Z16.out; have := Z17.out; have := Z18.out; have := Z11'.out; (try simp only); omega) (by have := Z1.out; have := Z2.out; have := Z3.out; have := Z4.out; have := Z5.out; have := Z6.out; have := Z7.out; have := Z8.out; have := Z9.out; have := Z10.out; have := Z11.out; have := Z12.out; have := Z13.out; have := Z14.out; have := Z15.out; have := Z16.out; have := Z17.out; have := Z18.out; have := Z11'.out; (try simp only); omega))).trans c10_17
  clear c10_17
  have c11_18 := (World.cell?_of_block (a := ⟨w10.heap.size, 2, none⟩) (G18.out.block (w10.heap.size) (by have := Z1.out; have := Z2.out; have := Z3.out; have := Z4.out; have := Z5.out; have := Z6.out; have := Z7.out; have := Z8.out; have := Z9.out; have := Z10.out; have := Z11.out; have := Z12.out; have := Z13.out; have := Z14.out; have := Z15.out; have := Z16.out; have := Z17.out; have := Z18.out; have := Z11'.out; (try simp only); omega) (by have := Z1.out; have := Z2.out; have := Z3.out; have := Z4.out; have := Z5.out; have := Z6.out; have := Z7.out; have := Z8.out; have := Z9.out; have := Z10.out; have := Z11.out; have := Z12.out; have := Z13.out; have := Z14.out; have := Z15.out; have := Z16.out; have := Z17.out; have := Z18.out; have := Z11'.out; (try simp only); omega))).trans c11_17
  clear c11_17
  go_wp2_with fail
  have CL19 := cntN_le l2
  refine (markNetwork_any w9.heap.size w10.heap.size _ l2 (1 + (cntN l0 : Nat)) _ T10_18.out (by have := Z1.out; have := Z2.out; have := Z3.out; have := Z4.out; have := Z5.out; have := Z6.out; have := Z7.out; have := Z8.out; have := Z9.out; have := Z10.out; have := Z11.out; have := Z12.out; have := Z13.out; have := Z14.out; have := Z15.out; have := Z16.out; have := Z17.out; have := Z18.out; omega) (by omega) (by omega)).mono ?_
  rintro e w19 ⟨rfl, g19⟩
  have G19 : Hid (Chg w9.heap.size w10.heap.size w18 w19) := g19
  clear g19 T10_18
  have Z19 : Hid (w18.heap.size ≤ w19.heap.size) := G19.out.size
  have K19 : Hid (Keeps w w19) := G19.out.keeps K18.out (by have := Z1.out; have := Z2.out; have := Z3.out; have := Z4.out; have := Z5.out; have := Z6.out; have := Z7.out; have := Z8.out; have := Z9.out; have := Z10.out; have := Z11.out; have := Z12.out; have := Z13.out; have := Z14.out; have := Z15.out; have := Z16.out; have := Z17.out; have := Z18.out; have := Z19.out; omega)
  have T5_19 := Lib.hid (T5_18.out.chg G19.out (by have := Z1.out; have := Z2.out; have := Z3.out; have := Z4.out; have := Z5.out; have := Z6.out; have := Z7.out; have := Z8.out; have := Z9.out; have := Z10.out; have := Z11.out; have := Z12.out; have := Z13.out; have := Z14.out; have := Z15.out; have := Z16.out; have := Z17.out; have := Z18.out; have := Z19.out; omega))
  clear T5_18
  have T6_19 := Lib.hid (T6_18.out.chg G19.out (by have := Z1.out; have := Z2.out; have := Z3.out; have := Z4.out; have := Z5.out; have := Z6.out; have := Z7.out; have := Z8.out; have := Z9.out; have := Z10.out; have := Z11.out; have := Z12.out; have := Z13.out; have := Z14.out; have := Z15.out; have := Z16.out; have := Z17.out; have := Z18.out; have := Z19.out; omega))
  clear T6_18
  have T7_19 := Lib.hid (T7_18.out.chg G19.out (by have := Z1.out; have := Z2.out; have := Z3.out; have := Z4.out; have := Z5.out; have := Z6.out; have := Z7.out; have := Z8.out; have := Z9.out; have := Z10.out; have := Z11.out; have := Z12.out; have := Z13.out; have := Z14.out; have := Z15.out; have := Z16.out; have := Z17.out; have := Z18.out; have := Z19.out; omega))
  clear T7_18
  have T12_19 := Lib.hid (T12_18.out.chg G19.out (by have := Z1.out; have := Z2.out; have := Z3.out; have := Z4.out; have := Z5.out; have := Z6.out; have := Z7.out; have := Z8.out; have := Z9.out; have := Z10.out; have := Z11.out; have := Z12.out; have := Z13.out; have := Z14.out; have := Z15.out; have := Z16.out; have := Z17.out; have := Z18.out; have := Z19.out; omega))
  clear T12_18
  have c0_19 := (World.cell?_of_block (a := ⟨w.heap.size, 0, none⟩) (G19.out.block (w.heap.size) (by have := Z1.out; have := Z2.out; have := Z3.out; have := Z4.out; have := Z5.out; have := Z6.out; have := Z7.out; have := Z8.out; have := Z9.out; have := Z10.out; have := Z11.out; have := Z12.out; have := Z13.out; have := Z14.out; have := Z15.out; have := Z16.out; have := Z17.out; have := Z18.out; have := Z19.out; have := Z1'.out; (try simp only); omega) (by have := Z1.out; have := Z2.out; have := Z3.out; have := Z4.out; have := Z5.out; have := Z6.out; have := Z7.out; have := Z8.out; have := Z9.out; have := Z10.out; have := Z11.out; have := Z12.out; have := Z13.out; have := Z14.out; have := Z15.out; have := Z16.out; have := Z17.out; have := Z18.out; have := Z19.out; have := Z1'.out; (try simp only); omega))).trans c0_18
  clear c0_18
  have c1_19 := (World.cell?_of_block (a := ⟨w.heap.size, 1, none⟩) (G19.out.block (w.heap.size) (by have := Z1.out; have := Z2.out; have := Z3.out; have := Z4.out; have := Z5.out; have := Z6.out; have := Z7.out; have := Z8.out; have := Z9.out; have := Z10.out; have := Z11.out; have := Z12.out; have := Z13.out; have := Z14.out; have := Z15.out; have := Z16.out; have := Z17.out; have := Z18.out; have := Z19.out; have := Z1'.out; (try simp only); omega) (by have := Z1.out; have := Z2.out; have := Z3.out; have := Z4.out; have := Z5.out; have := Z6.out; have := Z7.out; have := Z8.out; have := Z9.out; have := Z10.out; have := Z11.out; have := Z12.out; have := Z13.out; have := Z14.out; have := Z15.out; have := Z16.out; have := Z17.out; have := Z18.out; have := Z19.out; have := Z1'.out; (try simp only); omega))).trans c1_18
  clear c1_18
  have c2_19 := (World.cell?_of_block (a := ⟨w.heap.size, 2, none⟩) (G19.out.block (w.heap.size) (by have := Z1.out; have := Z2.out; have := Z3.out; have := Z4.out; have := Z5.out; have := Z6.out; have := Z7.out; have := Z8.out; have := Z9.out; have := Z10.out; have := Z11.out; have := Z12.out; have := Z13.out; have := Z14.out; have := Z15.out; have := Z16.out; have := Z17.out; have := Z18.out; have := Z19.out; have := Z1'.out; (try simp only); omega) (by have := Z1.out; have := Z2.out; have := Z3.out; have := Z4.out; have := Z5.out; have := Z6.out; have := Z7.out; have := Z8.out; have := Z9.out; have := Z10.out; have := Z11.out; have := Z12.out; have := Z13.out; have := Z14.out; have := Z15.out; have := Z16.out; have := Z17.out; have := Z18.out; have := Z19.out; have := Z1'.out; (try simp only); omega))).trans c2_18
  clear c2_18
  have c3_19 := (World.cell?_of_block (a := ⟨w.heap.size + 1, 0, none⟩) (G19.out.block (w.heap.size + 1) (by have := Z1.out; have := Z2.out; have := Z3.out; have := Z4.out; have := Z5.out; have := Z6.out; have := Z7.out; have := Z8.out; have := Z9.out; have := Z10.out; have := Z11.out; have := Z12.out; have := Z13.out; have := Z14.out; have := Z15.out; have := Z16.out; have := Z17.out; have := Z18.out; have := Z19.out; have := Z2'.out; (try simp only); omega) (by have := Z1.out; have := Z2.out; have := Z3.out; have := Z4.out; have := Z5.out; have := Z6.out; have := Z7.out; have := Z8.out; have := Z9.out; have := Z10.out; have := Z11.out; have := Z12.out; have := Z13.out; have := Z14.out; have := Z15.out; have := Z16.out; have := Z17.out; have := Z18.out; have := Z19.out; have := Z2'.out; (try simp only); omega))).trans c3_18
  clear c3_18
  have c4_19 := (World.cell?_of_block (a := ⟨w.heap.size + 1, 1, none⟩) (G19.out.block (w.heap.size + 1) (by have := Z1.out; have := Z2.out; have := Z3.out; have := Z4.out; have := Z5.out; have := Z6.out; have := Z7.out; have := Z8.out; have := Z9.out; have := Z10.out; have := Z11.out; have := Z12.out; have := Z13.out; have := Z14.out; have := Z15.out; have := Z16.out; have := Z17.out; have := Z18.out; have := Z19.out; have := Z2'.out; (try simp only); omega) (by have := Z1.out; have := Z2.out; have := Z3.out; have := Z4.out; have := Z5.out; have := Z6.out; have := Z7.out; have := Z8.out; have := Z9.out; have := Z10.out; have := Z11.out; have := Z12.out; have := Z13.out; have := Z14.out; have := Z15.out; have := Z16.out; have := Z17.out; have := Z18.out; have := Z19.out; have := Z2'.out; (try simp only); omega))).trans c4_18
  clear c4_18
  have c5_19 := (World.cell?_of_block (a := ⟨w.heap.size + 1, 2, none⟩) (G19.out.block (w.heap.size + 1) (by have := Z1.out; have := Z2.out; have := Z3.out; have := Z4.out; have := Z5.out; have := Z6.out; have := Z7.out; have := Z8.out; have := Z9.out; have := Z10.out; have := Z11.out; have := Z12.out; have := Z13.out; have := Z14.out; have := Z15.out; have := Z16.out; have := Z17.out; have := Z18.out; have := Z19.out; have := Z2'.out; (try simp only); omega) (by have := Z1.out; have := Z2.out; have := Z3.out; have := Z4.out; have := Z5.out; have := Z6.out; have := Z7.out; have := Z8.out; have := Z9.out; have := Z10.out; have := Z11.out; have := Z12.out; have := Z13.out; have := Z14.out; have := Z15.out; have := Z16.out; have := Z17.out; have := Z18.out; have := Z19.out; have := Z2'.out; (try simp only); omega))).trans c5_18
  clear c5_18
  have c6_19 := (World.cell?_of_block (a := ⟨w8.heap.size, 0, none⟩) (G19.out.block (w8.heap.size) (by have := Z1.out; have := Z2.out; have := Z3.out; have := Z4.out; have := Z5.out; have := Z6.out; have := Z7.out; have := Z8.out; have := Z9.out; have := Z10.out; have := Z11.out; have := Z12.out; have := Z13.out; have := Z14.out; have := Z15.out; have := Z16.out; have := Z17.out; have := Z18.out; have := Z19.out; have := Z9'.out; (try simp only); omega) (by have := Z1.out; have := Z2.out; have := Z3.out; have := Z4.out; have := Z5.out; have := Z6.out; have := Z7.out; have := Z8.out; have := Z9.out; have := Z10.out; have := Z11.out; have := Z12.out; have := Z13.out; have := Z14.out; have := Z15.out; have := Z16.out; have := Z17.out; have := Z18.out; have := Z19.out; have := Z9'.out; (try simp only); omega))).trans c6_18
  clear c6_18
  have c7_19 := (World.cell?_of_block (a := ⟨w8.heap.size, 1, none⟩) (G19.out.block (w8.heap.size) (by have := Z1.out; have := Z2.out; have := Z3.out; have := Z4.out; have := Z5.out; have := Z6.out; have := Z7.out; have := Z8.out; have := Z9.out; have := Z10.out; have := Z11.out; have := Z12.out; have := Z13.out; have := Z14.out; have := Z15.out; have := Z16.out; have := Z17.out; have := Z18.out; have := Z19.out; have := Z9'.out; (try simp only); omega) (by have := Z1.out; have := Z2.out; have := Z3.out; have := Z4.out; have := Z5.out; have := Z6.out; have := Z7.out; have := Z8.out; have := Z9.out; have := Z10.out; have := Z11.out; have := Z12.out; have := Z13.out; have := Z14.out; have := Z15.out; have := Z16.out; have := Z17.out; have := Z18.out; have := Z19.out; have := Z9'.out; (try simp only); omega))).trans c7_18
  clear c7_18
  have c8_19 := (World.cell?_of_block (a := ⟨w8.heap.size, 2, none⟩) (G19.out.block (w8.heap.size) (by have := Z1.out; have := Z2.out; have := Z3.out; have := Z4.out; have := Z5.out; have := Z6.out; have := Z7.out; have := Z8.out; have := Z9.out; have := Z10.out; have := Z11.out; have := Z12.out; have := Z13.out; have := Z14.out; have := Z15.out; have := Z16.out; have := Z17.out; have := Z18.out; have := Z19.out; have := Z9'.out; (try simp only); omega) (by have := Z1.out; have := Z2.out; have := Z3.out; have := Z4.out; have := Z5.out; have := Z6.out; have := Z7.out; have := Z8.out; have := Z9.out; have := Z10.out; have := Z11.out; have := Z12.out; have := Z13.out; have := Z14.out; have := Z15.out; have := Z16.out; have := Z17.out; have := Z18.out; have := Z19.out; have := Z9'.out; (try simp only); omega))).trans c8_18
  clear c8_18
  have c9_19 := (World.cell?_of_block (a := ⟨w10.heap.size, 0, none⟩) (G19.out.block (w10.heap.size) (by have := Z1.out; have := Z2.out; have := Z3.out; have := Z4.out; have := Z5.out; have := Z6.out; have := Z7.out; have := Z8.out; have := Z9.out; have := Z10.out; have := Z11.out; have := Z12.out; have := Z13.out; have := Z14.out; have := Z15.out; have := Z16.out; have := Z17.out; have := Z18.out; have := Z19.out; have := Z11'.out; (try simp only); omega) (by have := Z1.out; have := Z2.out; have := Z3.out; have := Z4.out; have := Z5.out; have := Z6.out; have := Z7.out; have := Z8.out; have := Z9.out; have := Z10.out; have := Z11.out; have := Z12.out; have := Z13.out; have := Z14.out; have := Z15.out; have := Z16.out; have := Z17.out; have := Z18.out; have := Z19.out; have := Z11'.out; (try simp only); omega))).trans c9_18
  clear c9_18
  have c10_19 := (World.cell?_of_block (a := ⟨w10.heap.size, 1, none⟩) (G19.out.block (w10.heap.size) (by have := Z1.out; have := Z2.out; have := Z3.out; have := Z4.out; have := Z5.out; have := Z6.out; have := Z7.out; have := Z8.out; have := Z9.out; have := Z10.out; have := Z11.out; have := Z12.out; have := Z13.out; have := Z14.out; have := Z15.out; have := Z16.out; have := Z17.out; have := Z18.out; have := Z19.out; have := Z11'.out; (try simp only); omega) (by have := Z1.out; have := Z2.out; have := Z3.out; have := Z4.out; have := Z5.out; have := Z6.out; have := Z7.out; have := Z8.out; have := Z9.out; have := Z10.out; have := Z11.out; have := Z12.out; have := Z13.out; have := Z14.out; have := Z15.out; have := Z16.out; have := Z17.out; have := Z18.out; have := Z19.out; have := Z11'.out; (try simp only); omega))).trans c10_18
  clear c10_18
  have c11_19 := (World.cell?_of_block (a := ⟨w10.heap.size, 2, none⟩) (G19.out.block (w10.heap.size) (by have := Z1.out; have := Z2.out; have := Z3.out; have := Z4.out; have := Z5.out; have := Z6.out; have := Z7.out; have := Z8.out; have := Z9.out; have := Z10.out; have := Z11.out; have := Z12.out; have := Z13.out; have := Z14.out; have := Z15.out; have := Z16.out; have := Z17.out; have := Z18.out; have := Z19.out; have := Z11'.out; (try simp only); omega) (by have := Z1.out; have := Z2.out; have := Z3.out; have := Z4.out; have := Z5.out; have := Z6.out; have := Z7.out; have := Z8.out; have := Z9.out; have := Z10.out; have := Z11.out; have := Z12.out; have := Z13.out; have := Z14.out; have := Z15.out; have := Z16.out; have := Z17.out; have := Z18.out; have := Z19.out; have := Z11'.out; (try simp only); omega))).trans c11_18
  clear c11_18
  go_wp2_with fail
  refine (eqIntS_any x12 x7 _ _ _ (T12_19.out.ints) (T7_19.out.ints)).mono ?_
  rintro e w20 ⟨rfl, d20⟩
  have KS20 : Hid (Keeps w19 w20) := d20.keeps
  clear d20
  have K20 : Hid (Keeps w w20) := Keeps.trans K19.out KS20.out
  have Z20 : Hid (w19.heap.size ≤ w20.heap.size) := KS20.out.size
  have T5_20 := Lib.hid (T5_19.out.keep KS20.out)
  clear T5_19
  have T6_20 := Lib.hid (T6_19.out.keep KS20.out)
  clear T6_19
  have T7_20 := Lib.hid (T7_19.out.keep KS20.out)
  clear T7_19
  have T12_20 := Lib.hid (T12_19.out.keep KS20.out)
  clear T12_19
  have c0_20 := cell_keep KS20.out c0_19
  clear c0_19
  have c1_20 := cell_keep KS20.out c1_19
  clear c1_19
  have c2_20 := cell_keep KS20.out c2_19
  clear c2_19
  have c3_20 := cell_keep KS20.out c3_19
  clear c3_19
  have c4_20 := cell_keep KS20.out c4_19
  clear c4_19
  have c5_20 := cell_keep KS20.out c5_19
  clear c5_19
  have c6_20 := cell_keep KS20.out c6_19
  clear c6_19
  have c7_20 := cell_keep KS20.out c7_19
  clear c7_19
  have c8_20 := cell_keep KS20.out c8_19
  clear c8_19
  have c9_20 := cell_keep KS20.out c9_19
  clear c9_19
  have c10_20 := cell_keep KS20.out c10_19
  clear c10_19
  have c11_20 := cell_keep KS20.out c11_19
  clear c11_19
  go_wp2_with fail
  refine (markIntS_any w11.heap.size x12 L 1 _ T12_20.out.own (by omega) (by omega)).mono ?_
  rintro e w21 ⟨rfl, o21, g21⟩
  have G21 : Hid (Chg w11.heap.size w12.heap.size w20 w21) := Chg.of_grown g21 fun q hq => ⟨(T12_20.out.own.lt q hq).1, T12_20.out.hi q hq⟩
  have T12_21 : Hid (OwI w11.heap.size w12.heap.size w21 x12 (iota 1 L.length)) := ⟨o21, T12_20.out.hi⟩
  clear o21 g21 T12_20
  have Z21 : Hid (w20.heap.size ≤ w21.heap.size) := G21.out.size
  have K21 : Hid (Keeps w w21) := G21.out.keeps K20.out (by have := Z1.out; have := Z2.out; have := Z3.out; have := Z4.out; have := Z5.out; have := Z6.out; have := Z7.out; have := Z8.out; have := Z9.out; have := Z10.out; have := Z11.out; have := Z12.out; have := Z13.out; have := Z14.out; have := Z15.out; have := Z16.out; have := Z17.out; have := Z18.out; have := Z19.out; have := Z20.out; have := Z21.out; omega)
  have T5_21 := Lib.hid (T5_20.out.chg G21.out (by have := Z1.out; have := Z2.out; have := Z3.out; have := Z4.out; have := Z5.out; have := Z6.out; have := Z7.out; have := Z8.out; have := Z9.out; have := Z10.out; have := Z11.out; have := Z12.out; have := Z13.out; have := Z14.out; have := Z15.out; have := Z16.out; have := Z17.out; have := Z18.out; have := Z19.out; have := Z20.out; have := Z21.out; omega))
  clear T5_20
  have T6_21 := Lib.hid (T6_20.out.chg G21.out (by have := Z1.out; have := Z2.out; have := Z3.out; have := Z4.out; have := Z5.out; have := Z6.out; have := Z7.out; have := Z8.out; have := Z9.out; have := Z10.out; have := Z11.out; have := Z12.out; have := Z13.out; have := Z14.out; have := Z15.out; have := Z16.out; have := Z17.out; have := Z18.out; have := Z19.out; have := Z20.out; have := Z21.out; omega))
  clear T6_20
  have T7_21 := Lib.hid (T7_20.out.chg G21.out (by have := Z1.out; have := Z2.out; have := Z3.out; have := Z4.out; have := Z5.out; have := Z6.out; have := Z7.out; have := Z8.out; have := Z9.out; have := Z10.out; have := Z11.out; have := Z12.out; have := Z13.out; have := Z14.out; have := Z15.out; have := Z16.out; have := Z17.out; have := Z18.out; have := Z19.out; have := Z20.out; have := Z21.out; omega))
  clear T7_20
  have c0_21 := (World.cell?_of_block (a := ⟨w.heap.size, 0, none⟩) (G21.out.block (w.heap.size) (by have := Z1.out; have := Z2.out; have := Z3.out; have := Z4.out; have := Z5.out; have := Z6.out; have := Z7.out; have := Z8.out; have := Z9.out; have := Z10.out; have := Z11.out; have := Z12.out; have := Z13.out; have := Z14.out; have := Z15.out; have := Z16.out; have := Z17.out; have := Z18.out; have := Z19.out; have := Z20.out; have := Z21.out; have := Z1'.out; (try simp only); omega) (by have := Z1.out; have := Z2.out; have := Z3.out; have := Z4.out; have := Z5.out; have := Z6.out; have := Z7.out; have := Z8.out; have := Z9.out; have := Z10.out; have := Z11.out; have := Z12.out; have := Z13.out; have := Z14.out; have := Z15.out; have := Z16.out; have := Z17.out; have := Z18.out; have := Z19.out; have := Z20.out; have := Z21.out; have := Z1'.out; (try simp only); omega))).trans c0_20
  clear c0_20
  have c1_21 := (World.cell?_of_block (a := ⟨w.heap.size, 1, none⟩) (G21.out.block (w.heap.size) (by have := Z1.out; have := Z2.out; have := Z3.out; have := Z4.out; have := Z5.out; have := Z6.out; have := Z7.out; have := Z8.out; have := Z9.out; have := Z10.out; have := Z11.out; have := Z12.out; have := Z13.out; have := Z14.out; have := Z15.out; have := Z16.out; have := Z17.out; have := Z18.out; have := Z19.out; have := Z20.out; have := Z21.out; have := Z1'.out; (try simp only); omega) (by have := Z1.out; have := Z2.out; have := Z3.out; have := Z4.out; have := Z5.out; have := Z6.out; have := Z7.out; have := Z8.out; have := Z9.out; have := Z10.out; have := Z11.out; have := Z12.out; have := Z13.out; have := Z14.out; have := Z15.out; have := Z16.out; have := Z17.out; have := Z18.out; have := Z19.out; have := Z20.out; have := Z21.out; have := Z1'.out; (try simp only); omega))).trans c1_20
  clear c1_20
  have c2_21 := (World.cell?_of_block (a := ⟨w.heap.size, 2, none⟩) (G21.out.block (w.heap.size) (by have := Z1.out; have := Z2.out; have := Z3.out; have := Z4.out; have := Z5.out; have := Z6.out; have := Z7.out; have := Z8.out; have := Z9.out; have := Z10.out; have := Z11.out; have := Z12.out; have := Z13.out; have := Z14.out; have := Z15.out; have := Z16.out; have := Z17.out; have := Z18.out; have := Z19.out; have := Z20.out; have := Z21.out; have := Z1'.out; (try simp only); omega) (by have := Z1.out; have := Z2.out; have := Z3.out; have := Z4.out; have := Z5.out; have := Z6.out; have := Z7.out; have := Z8.out; have := Z9.out; have := Z10.out; have := Z11.out; have := Z12.out; have := Z13.out; have := Z14.out; have := Z15.out; have := Z16.out; have := Z17.out; have := Z18.out; have := Z19.out; have := Z20.out; have := Z21.out; have := Z1'.out; (try simp only); omega))).trans c2_20
  clear c2_20
  have c3_21 := (World.cell?_of_block (a := ⟨w.heap.size + 1, 0, none⟩) (G21.out.block (w.heap.size + 1) (by have := Z1.out; have := Z2.out; have := Z3.out; have := Z4.out; have := Z5.out; have := Z6.out; have := Z7.out; have := Z8.out; have := Z9.out; have := Z10.out; have := Z11.out; have := Z12.out; have := Z13.out; have := Z14.out; have := Z15.out; have := Z16.out; have := Z17.out; have := Z18.out; have := Z19.out; have := Z20.out; have := Z21.out; have := Z2'.out; (try simp only); omega) (by have := Z1.out; have := Z2.out; have := Z3.out; have := Z4.out; have := Z5.out; have := Z6.out; have := Z7.out; have := Z8.out; have := Z9.out; have := Z10.out; have := Z11.out; have := Z12.out; have := Z13.out; have := Z14.out; have := Z15.out; have := Z16.out; have := Z17.out; have := Z18.out; have := Z19.out; have := Z20.out; have := Z21.out; have := Z2'.out; (try simp only); omega))).trans c3_20
  clear c3_20
  have c4_21 := (World.cell?_of_block (a := ⟨w.heap.size + 1, 1, none⟩) (G21.out.block (w.heap.size + 1) (by have := Z1.out; have := Z2.out; have := Z3.out; have := Z4.out; have := Z5.out; have := Z6.out; have := Z7.out; have := Z8.out; have := Z9.out; have := Z10.out; have := Z11.out; have := Z12.out; have := Z13.out; have := Z14.out; have := Z15.out; have := Z16.out; have := Z17.out; have := Z18.out; have := Z19.out; have := Z20.out; have := Z21.out; have := Z2'.out; (try simp only); omega) (by have := Z1.out; have := Z2.out; have := Z3.out; have := Z4.out; have := Z5.out; have := Z6.out; have := Z7.out; have := Z8.out; have := Z9.out; have := Z10.out; have := Z11.out; have := Z12.out; have := Z13.out; have := Z14.out; have := Z15.out; have := Z16.out; have := Z17.out; have := Z18.out; have := Z19.out; have := Z20.out; have := Z21.out; have := Z2'.out; (try simp only); omega))).trans c4_20
  clear c4_20
  have c5_21 := (World.cell?_of_block (a := ⟨w.heap.size + 1, 2, none⟩) (G21.out.block (w.heap.size + 1) (by have := Z1.out; have := Z2.out; have := Z3.out; have := Z4.out; have := Z5.out; have := Z6.out; have := Z7.out; have := Z8.out; have := Z9.out; have := Z10.out; have := Z11.out; have := Z12.out; have := Z13.out; have := Z14.out; have := Z15.out; have := Z16.out; have := Z17.out; have := Z18.out; have := Z19.out; have := Z20.out; have := Z21.out; have := Z2'.out; (try simp only); omega) (by have := Z1.out; have := Z2.out; have := Z3.out; have := Z4.out; have := Z5.out; have := Z6.out; have := Z7.out; have := Z8.out; have := Z9.out; have := Z10.out; have := Z11.out; have := Z12.out; have := Z13.out; have := Z14.out; have := Z15.out; have := Z16.out; have := Z17.out; have := Z18.out; have := Z19.out; have := Z20.out; have := Z21.out; have := Z2'.out; (try simp only); omega))).trans c5_20
  clear c5_20
  have c6_21 := (World.cell?_of_block (a := ⟨w8.heap.size, 0, none⟩) (G21.out.block (w8.heap.size) (by have := Z1.out; have := Z2.out; have := Z3.out; have := Z4.out; have := Z5.out; have := Z6.out; have := Z7.out; have := Z8.out; have := Z9.out; have := Z10.out; have := Z11.out; have := Z12.out; have := Z13.out; have := Z14.out; have := Z15.out; have := Z16.out; have := Z17.out; have := Z18.out; have := Z19.out; have := Z20.out; have := Z21.out; have := Z9'.out; (try simp only); omega) (by have := Z1.out; have := Z2.out; have := Z3.out; have := Z4.out; have := Z5.out; have := Z6.out; have := Z7.out; have := Z8.out; have := Z9.out; have := Z10.out; have := Z11.out; have := Z12.out; have := Z13.out; have := Z14.out; have := Z15.out; have := Z16.out; have := Z17.out; have := Z18.out; have := Z19.out; have := Z20.out; have := Z21.out; have := Z9'.out; (try simp only); omega))).trans c6_20
  clear c6_20
  have c7_21 := (World.cell?_of_block (a := ⟨w8.heap.size, 1, none⟩) (G21.out.block (w8.heap.size) (by have := Z1.out; have := Z2.out; have := Z3.out; have := Z4.out; have := Z5.out; have := Z6.out; have := Z7.out; have := Z8.out; have := Z9.out; have := Z10.out; have := Z11.out; have := Z12.out; have := Z13.out; have := Z14.out; have := Z15.out; have := Z16.out; have := Z17.out; have := Z18.out; have := Z19.out; have := Z20.out; have := Z21.out; have := Z9'.out; (try simp only); omega) (by have := Z1.out; have := Z2.out; have := Z3.out; have := Z4.out; have := Z5.out; have := Z6.out; have := Z7.out; have := Z8.out; have := Z9.out; have := Z10.out; have := Z11.out; have := Z12.out; have := Z13.out; have := Z14.out; have := Z15.out; have := Z16.out; have := Z17.out; have := Z18.out; have := Z19.out; have := Z20.out; have := Z21.out; have := Z9'.out; (try simp only); omega))).trans c7_20
  clear c7_20
  have c8_21 := (World.cell?_of_block (a := ⟨w8.heap.size, 2, none⟩) (G21.out.block (w8.heap.size) (by have := Z1.out; have := Z2.out; have := Z3.out; have := Z4.out; have := Z5.out; have := Z6.out; have := Z7.out; have := Z8.out; have := Z9.out; have := Z10.out; have := Z11.out; have := Z12.out; have := Z13.out; have := Z14.out; have := Z15.out; have := Z16.out; have := Z17.out; have := Z18.out; have := Z19.out; have := Z20.out; have := Z21.out; have := Z9'.out; (try simp only); omega) (by have := Z1.out; have := Z2.out; have := Z3.out; have := Z4.out; have := Z5.out; have := Z6.out; have := Z7.out; have := Z8.out; have := Z9.out; have := Z10.out; have := Z11.out; have := Z12.out; have := Z13.out; have := Z14.out; have := Z15.out; have := Z16.out; have := Z17.out; have := Z18.out; have := Z19.out; have := Z20.out; have := Z21.out; have := Z9'.out; (try simp only); omega))).trans c8_20
  clear c8_20
  have c9_21 := (World.cell?_of_block (a := ⟨w10.heap.size, 0, none⟩) (G21.out.block (w10.heap.size) (by have := Z1.out; have := Z2.out; have := Z3.out; have := Z4.out; have := Z5.out; have := Z6.out; have := Z7.out; have := Z8.out; have := Z9.out; have := Z10.out; have := Z11.out; have := Z12.out; have := Z13.out; have := Z14.out; have := Z15.out; have := Z16.out; have := Z17.out; have := Z18.out; have := Z19.out; have := Z20.out; have := Z21.out; have := Z11'.out; (try simp only); omega) (by have := Z1.out; have := Z2.out; have := Z3.out; have := Z4.out; have := Z5.out; have := Z6.out; have := Z7.out; have := Z8.out; have := Z9.out; have := Z10.out; have := Z11.out; have := Z12.out; have := Z13.out; have := Z14.out; have := Z15.out; have := Z16.out; have := Z17.out; have := Z18.out; have := Z19.out; have := Z20.out; have := Z21.out; have := Z11'.out; (try simp only); omega))).trans c9_20
  clear c9_20
  have c10_21 := (World.cell?_of_block (a := ⟨w10.heap.size, 1, none⟩) (G21.out.block (w10.heap.size) (by have := Z1.out; have := Z2.out; have := Z3.out; have := Z4.out; have := Z5.out; have := Z6.out; have := Z7.out; have := Z8.out; have := Z9.out; have := Z10.out; have := Z11.out; have := Z12.out; have := Z13.out; have := Z14.out; have := Z15.out; have := Z16.out; have := Z17.out; have := Z18.out; have := Z19.out; have := Z20.out; have := Z21.out; have := Z11'.out; (try simp only); omega) (by have := Z1.out; have := Z2.out; have := Z3.out; have := Z4.out; have := Z5.out; have := Z6.out; have := Z7.out; have := Z8.out; have := Z9.out; have := Z10.out; have := Z11.out; have := Z12.out; have := Z13.out; have := Z14.out; have := Z15.out; have := Z16.out; have := Z17.out; have := Z18.out; have := Z19.out; have := Z20.out; have := Z21.out; have := Z11'.out; (try simp only); omega))).trans c10_20
  clear c10_20
  have c11_21 := (World.cell?_of_block (a := ⟨w10.heap.size, 2, none⟩) (G21.out.block (w10.heap.size) (by have := Z1.out; have := Z2.out; have := Z3.out; have := Z4.out; have := Z5.out; have := Z6.out; have := Z7.out; have := Z8.out; have := Z9.out; have := Z10.out; have := Z11.out; have := Z12.out; have := Z13.out; have := Z14.out; have := Z15.out; have := Z16.out; have := Z17.out; have := Z18.out; have := Z19.out; have := Z20.out; have := Z21.out; have := Z11'.out; (try simp only); omega) (by have := Z1.out; have := Z2.out; have := Z3.out; have := Z4.out; have := Z5.out; have := Z6.out; have := Z7.out; have := Z8.out; have := Z9.out; have := Z10.out; have := Z11.out; have := Z12.out; have := Z13.out; have := Z14.out; have := Z15.out; have := Z16.out; have := Z17.out; have := Z18.out; have := Z19.out; have := Z20.out; have := Z21.out; have := Z11'.out; (try simp only); omega))).trans c11_20
  clear c11_20
  go_wp2_with fail
  refine (heldIntS_any x12 L 1 _ (T12_21.out.ints) (by omega) (by omega)).mono ?_
  rintro e wh ⟨rfl, rfl⟩
  go_wp2_with fail
  have SK : Hid (∀ W : World, Keeps w21 W → W.cell? ⟨w.heap.size, 0, none⟩ = some (.slice p0a0 l0.Ends.length p0c0) ∧ W.cell? ⟨w.heap.size, 1, none⟩ = some (.slice p0a1 l0.Ids.length p0c1) ∧ W.cell? ⟨w.heap.size, 2, none⟩ = some (.slice p0a2 l0.Inputs.length p0c2) ∧ W.cell? ⟨w.heap.size + 1, 0, none⟩ = some (.slice p2a0 l2.Ends.length p2c0) ∧ W.cell? ⟨w.heap.size + 1, 1, none⟩ = some (.slice p2a1 l2.Ids.length p2c1) ∧ W.cell? ⟨w.heap.size + 1, 2, none⟩ = some (.slice p2a2 l2.Inputs.length p2c2) ∧ W.cell? ⟨w8.heap.size, 0, none⟩ = some (.slice t8a0 l0.Ends.length t8c0) ∧ W.cell? ⟨w8.heap.size, 1, none⟩ = some (.slice t8a1 l0.Ids.length t8c1) ∧ W.cell? ⟨w8.heap.size, 2, none⟩ = some (.slice t8a2 l0.Inputs.length t8c2) ∧ W.cell? ⟨w10.heap.size, 0, none⟩ = some (.slice t10a0 l2.Ends.length t10c0) ∧ W.cell? ⟨w10.heap.size, 1, none⟩ = some (.slice t10a1 l2.Ids.length t10c1) ∧ W.cell? ⟨w10.heap.size, 2, none⟩ = some (.slice t10a2 l2.Inputs.length t10c2)) := fun W k => ⟨cell_keep k c0_21, cell_keep k c1_21, cell_keep k c2_21, cell_keep k c3_21, cell_keep k c4_21, cell_keep k c5_21, cell_keep k c6_21, cell_keep k c7_21, cell_keep k c8_21, cell_keep k c9_21, cell_keep k c10_21, cell_keep k c11_21⟩
  have KD : Hid (Keeps w21 w21.drew) := (Keeps.refl _).drew
  go_region_held3 (fun W => W.cell? ⟨w.heap.size, 0, none⟩ = some (.slice p0a0 l0.Ends.length p0c0) ∧ W.cell? ⟨w.heap.size, 1, none⟩ = some (.slice p0a1 l0.Ids.length p0c1) ∧ W.cell? ⟨w.heap.size, 2, none⟩ = some (.slice p0a2 l0.Inputs.length p0c2) ∧ W.cell? ⟨w.heap.size + 1, 0, none⟩ = some (.slice p2a0 l2.Ends.length p2c0) ∧ W.cell? ⟨w.heap.size + 1, 1, none⟩ = some (.slice p2a1 l2.Ids.length p2c1) ∧ W.cell? ⟨w.heap.size + 1, 2, none⟩ = some (.slice p2a2 l2.Inputs.length p2c2) ∧ W.cell? ⟨w8.heap.size, 0, none⟩ = some (.slice t8a0 l0.Ends.length t8c0) ∧ W.cell? ⟨w8.heap.size, 1, none⟩ = some (.slice t8a1 l0.Ids.length t8c1) ∧ W.cell? ⟨w8.heap.size, 2, none⟩ = some (.slice t8a2 l0.Inputs.length t8c2) ∧ W.cell? ⟨w10.heap.size, 0, none⟩ = some (.slice t10a0 l2.Ends.length t10c0) ∧ W.cell? ⟨w10.heap.size, 1, none⟩ = some (.slice t10a1 l2.Ids.length t10c1) ∧ W.cell? ⟨w10.heap.size, 2, none⟩ = some (.slice t10a2 l2.Inputs.length t10c2)) (first | exact SK.out _ KD.out | exact SK.out _ (Keeps.trans KD.out KS22'.out) | exact SK.out _ (Keeps.trans KD.out (Keeps.trans KS22'.out KS23.out)) | exact SK.out _ (Keeps.trans KD.out (Keeps.trans KS22'.out (Keeps.trans KS23.out KS24.out))))
    ((first
      | (go_at_call 15; with_reducible refine (toNetwork_any _ l0 _ (R0.out.keep (Keeps.trans K21.out KD.out)) s0).mono ?_; rintro e w22 ⟨tt, rfl, o22, k22⟩; obtain ⟨t22a0, t22c0, t22a1, t22c1, t22a2, t22c2, rfl⟩ := o22.rd.shape; have T22 := Lib.hid o22; have KS22' := Lib.hid k22; clear o22 k22)
      | (go_at_call 15; with_reducible refine (toNetwork_any _ l2 _ (R2.out.keep (Keeps.trans K21.out (Keeps.trans KD.out KS22'.out))) s2).mono ?_; rintro e w23 ⟨tt, rfl, o23, k23⟩; obtain ⟨t23a0, t23c0, t23a1, t23c1, t23a2, t23c2, rfl⟩ := o23.rd.shape; have T23 := Lib.hid o23; have KS23 := Lib.hid k23; clear o23 k23)
      | (go_at_call 50; refine (implImagesOf_any (.agg #[.slice t22a0 l0.Ends.length t22c0, .slice t22a1 l0.Ids.length t22c1, .slice t22a2 l0.Inputs.length t22c2]) l0 a1 (.agg #[.slice t23a0 l2.Ends.length t23c0, .slice t23a1 l2.Ids.length t23c1, .slice t23a2 l2.Inputs.length t23c2]) l2 _ ((T22.out.keep KS23.out).rd) IL0.out s0 ia1 (T23.out.rd) IL2.out s2).mono ?_; rw [HE.out]; rintro e w24 ⟨x24, rfl, o24, b24, k24⟩; rw [HL.out] at o24; have T24 := Lib.hid o24.owI; have KS24 := Lib.hid k24; clear o24 k24 b24)))
  have KS22 : Hid (Keeps w21 w22) := Keeps.trans KD.out KS22'.out
  have K22 : Hid (Keeps w w22) := Keeps.trans K21.out KS22.out
  have Z22 : Hid (w21.heap.size ≤ w22.heap.size) := KS22.out.size
  have T5_22 := Lib.hid (T5_21.out.keep KS22.out)
  clear T5_21
  have T6_22 := Lib.hid (T6_21.out.keep KS22.out)
  clear T6_21
  have T7_22 := Lib.hid (T7_21.out.keep KS22.out)
  clear T7_21
  have T12_22 := Lib.hid (T12_21.out.keep KS22.out)
  clear T12_21
  have c0_22 := cell_keep KS22.out c0_21
  clear c0_21
  have c1_22 := cell_keep KS22.out c1_21
  clear c1_21
  have c2_22 := cell_keep KS22.out c2_21
  clear c2_21
  have c3_22 := cell_keep KS22.out c3_21
  clear c3_21
  have c4_22 := cell_keep KS22.out c4_21
  clear c4_21
  have c5_22 := cell_keep KS22.out c5_21
  clear c5_21
  have c6_22 := cell_keep KS22.out c6_21
  clear c6_21
  have c7_22 := cell_keep KS22.out c7_21
  clear c7_21
  have c8_22 := cell_keep KS22.out c8_21
  clear c8_21
  have c9_22 := cell_keep KS22.out c9_21
  clear c9_21
  have c10_22 := cell_keep KS22.out c10_21
  clear c10_21
  have c11_22 := cell_keep KS22.out c11_21
  clear c11_21
  have K23 : Hid (Keeps w w23) := Keeps.trans K22.out KS23.out
  have Z23 : Hid (w22.heap.size ≤ w23.heap.size) := KS23.out.size
  have T5_23 := Lib.hid (T5_22.out.keep KS23.out)
  clear T5_22
  have T6_23 := Lib.hid (T6_22.out.keep KS23.out)
  clear T6_22
  have T7_23 := Lib.hid (T7_22.out.keep KS23.out)
  clear T7_22
  have T12_23 := Lib.hid (T12_22.out.keep KS23.out)
  clear T12_22
  have T22_23 := Lib.hid (T22.out.keep KS23.out)
  clear T22
  have c0_23 := cell_keep KS23.out c0_22
  clear c0_22
  have c1_23 := cell_keep KS23.out c1_22
  clear c1_22
  have c2_23 := cell_keep KS23.out c2_22
  clear c2_22
  have c3_23 := cell_keep KS23.out c3_22
  clear c3_22
  have c4_23 := cell_keep KS23.out c4_22
  clear c4_22
  have c5_23 := cell_keep KS23.out c5_22
  clear c5_22
  have c6_23 := cell_keep KS23.out c6_22
  clear c6_22
  have c7_23 := cell_keep KS23.out c7_22
  clear c7_22
  have c8_23 := cell_keep KS23.out c8_22
  clear c8_22
  have c9_23 := cell_keep KS23.out c9_22
  clear c9_22
  have c10_23 := cell_keep KS23.out c10_22
  clear c10_22
  have c11_23 := cell_keep KS23.out c11_22
  clear c11_22
  have K24 : Hid (Keeps w w24) := Keeps.trans K23.out KS24.out
  have Z24 : Hid (w23.heap.size ≤ w24.heap.size) := KS24.out.size
  have T5_24 := Lib.hid (T5_23.out.keep KS24.out)
  clear T5_23
  have T6_24 := Lib.hid (T6_23.out.keep KS24.out)
  clear T6_23
  have T7_24 := Lib.hid (T7_23.out.keep KS24.out)
  clear T7_23
  have T12_24 := Lib.hid (T12_23.out.keep KS24.out)
  clear T12_23
  have T22_24 := Lib.hid (T22_23.out.keep KS24.out)
  clear T22_23
  have T23_24 := Lib.hid (T23.out.keep KS24.out)
  clear T23
  have c0_24 := cell_keep KS24.out c0_23
  clear c0_23
  have c1_24 := cell_keep KS24.out c1_23
  clear c1_23
  have c2_24 := cell_keep KS24.out c2_23
  clear c2_23
  have c3_24 := cell_keep KS24.out c3_23
  clear c3_23
  have c4_24 := cell_keep KS24.out c4_23
  clear c4_23
  have c5_24 := cell_keep KS24.out c5_23
  clear c5_23
  have c6_24 := cell_keep KS24.out c6_23
  clear c6_23
  have c7_24 := cell_keep KS24.out c7_23
  clear c7_23
  have c8_24 := cell_keep KS24.out c8_23
  clear c8_23
  have c9_24 := cell_keep KS24.out c9_23
  clear c9_23
  have c10_24 := cell_keep KS24.out c10_23
  clear c10_23
  have c11_24 := cell_keep KS24.out c11_23
  clear c11_23
  clear SK KD
  go_wp2_with fail
  refine (eqIntS_any x24 x7 _ _ _ (T24.out.ints) (T7_24.out.ints)).mono ?_
  rintro e w25 ⟨rfl, d25⟩
  have KS25 : Hid (Keeps w24 w25) := d25.keeps
  clear d25
  have K25 : Hid (Keeps w w25) := Keeps.trans K24.out KS25.out
  have Z25 : Hid (w24.heap.size ≤ w25.heap.size) := KS25.out.size
  have T5_25 := Lib.hid (T5_24.out.keep KS25.out)
  clear T5_24
  have T6_25 := Lib.hid (T6_24.out.keep KS25.out)
  clear T6_24
  have T7_25 := Lib.hid (T7_24.out.keep KS25.out)
  clear T7_24
  have T12_25 := Lib.hid (T12_24.out.keep KS25.out)
  clear T12_24
  have T22_25 := Lib.hid (T22_24.out.keep KS25.out)
  clear T22_24
  have T23_25 := Lib.hid (T23_24.out.keep KS25.out)
  clear T23_24
  have T24_25 := Lib.hid (T24.out.keep KS25.out)
  clear T24
  have c0_25 := cell_keep KS25.out c0_24
  clear c0_24
  have c1_25 := cell_keep KS25.out c1_24
  clear c1_24
  have c2_25 := cell_keep KS25.out c2_24
  clear c2_24
  have c3_25 := cell_keep KS25.out c3_24
  clear c3_24
  have c4_25 := cell_keep KS25.out c4_24
  clear c4_24
  have c5_25 := cell_keep KS25.out c5_24
  clear c5_24
  have c6_25 := cell_keep KS25.out c6_24
  clear c6_24
  have c7_25 := cell_keep KS25.out c7_24
  clear c7_24
  have c8_25 := cell_keep KS25.out c8_24
  clear c8_24
  have c9_25 := cell_keep KS25.out c9_24
  clear c9_24
  have c10_25 := cell_keep KS25.out c10_24
  clear c10_24
  have c11_25 := cell_keep KS25.out c11_24
  clear c11_24
  go_wp2_with fail
  refine (heldIntS_any x12 L 1 _ (T12_25.out.ints) (by omega) (by omega)).mono ?_
  rintro e wh ⟨rfl, rfl⟩
  go_wp2_with fail
  go_ret
  exact ⟨rfl, K25.out⟩

set_option maxHeartbeats 1600000 in
theorem lawImagesOf (v0 : Value) (l0 : T_Network) (a1 : Int) (ia1 : I64 a1) (v2 : Value) (l2 : T_Network) (w : World) (r0 : RdN w v0 l0) (il0 : okN l0) (r2 : RdN w v2 l2) (il2 : okN l2) : Calls Try.prog 11 #[v0, .int .i64 a1, v2] w fun e w' => e = .returned (.bool true) ∧ Below w.heap.size w w' := by
  by_cases q0 : szN l0 ≤ 1048576
  case neg =>
    have R0 := Lib.hid r0
    obtain ⟨p0a0, p0c0, p0a1, p0c1, p0a2, p0c2, rfl⟩ := r0.shape
    have R2 := Lib.hid r2
    obtain ⟨p2a0, p2c0, p2a1, p2c1, p2a2, p2c2, rfl⟩ := r2.shape
    clear r0 il0 r2 il2
    go_enter Try.func11, Try.ntmps11
    go_wp2_with fail
    refine (szNetwork_any _ l0 (1048576) _ (R0.out.keep (by repeat (first | exact Keeps.refl _ | with_reducible refine Keeps.alloc ?_ _))) (by omega) (by omega)).mono ?_
    rintro e W0 ⟨rfl, k0⟩
    rw [szL, if_neg (by omega)]
    have KK0 : Hid (Keeps w W0) := Keeps.trans (by repeat (first | exact Keeps.refl _ | with_reducible refine Keeps.alloc ?_ _)) k0
    obtain ⟨hc0, hf0⟩ := bcell k0
    have hz0 := k0.size
    clear k0
    go_wp2
    go_ret
    exact ⟨rfl, KK0.out⟩
  by_cases q2 : szN l0 + szN l2 ≤ 1048576
  case neg =>
    have R0 := Lib.hid r0
    obtain ⟨p0a0, p0c0, p0a1, p0c1, p0a2, p0c2, rfl⟩ := r0.shape
    have R2 := Lib.hid r2
    obtain ⟨p2a0, p2c0, p2a1, p2c1, p2a2, p2c2, rfl⟩ := r2.shape
    clear r0 il0 r2 il2
    go_enter Try.func11, Try.ntmps11
    go_wp2_with fail
    refine (szNetwork_any _ l0 (1048576) _ (R0.out.keep (by repeat (first | exact Keeps.refl _ | with_reducible refine Keeps.alloc ?_ _))) (by omega) (by omega)).mono ?_
    rintro e W0 ⟨rfl, k0⟩
    rw [szL, if_pos (by omega)]
    have KK0 : Hid (Keeps w W0) := Keeps.trans (by repeat (first | exact Keeps.refl _ | with_reducible refine Keeps.alloc ?_ _)) k0
    obtain ⟨hc0, hf0⟩ := bcell k0
    have hz0 := k0.size
    clear k0
    go_wp2_with fail
    refine (szNetwork_any _ l2 (1048576 - (szN l0 : Nat)) _ (R2.out.keep KK0.out) (by omega) (by omega)).mono ?_
    rintro e W1 ⟨rfl, k1⟩
    rw [szL, if_neg (by omega)]
    have KK1 : Hid (Keeps w W1) := Keeps.trans KK0.out k1
    obtain ⟨hc1, hf1⟩ := bcell k1
    have hz1 := k1.size
    clear k1
    go_wp2
    go_ret
    exact ⟨rfl, KK1.out⟩
  exact lawImagesOf_small v0 l0 r0 il0 a1 ia1 v2 l2 r2 il2 (by omega) (by omega) (by omega)
end Go.Proofs.Ytijaojnaamkinaa
