/- The walk of laws.FnExactCheckWalkCertificate: it returns true at every input and changes nothing that was there. -/
import Derived.Test.YtabclfacjaeblaaWcl
import Derived.Test.YtabclfacjaeblaaRng
import Derived.Test.YtabclfacjaeblaaOpen
import Derived.Deep.RegionHeld3
namespace Go.Proofs.Ytabclfacjaeblaa
open Go.RowKit
set_option linter.unusedSimpArgs false
set_option linter.unusedVariables false

set_option maxRecDepth 100000 in
set_option maxHeartbeats 8000000 in
theorem lawCheckWalkCertificate_small {w : World} (v0 : Value) (l0 : WP) (r0 : RdW w v0 l0) (il0 : okW l0) (v1 : Value) (l1 : CE) (r1 : RdQ w v1 l1) (il1 : okQ l1) (s0 : szW l0 ≤ 1048576) (s1 : szQ l1 ≤ 1048576) (stot : szW l0 + szQ l1 ≤ 1048576) : Calls Try.prog 4 #[v0, v1] w fun e w' => e = .returned (.bool true) ∧ Below w.heap.size w w' := by
  have HE := Lib.hid (CheckWalkCertificate_eq l0 l1 il0 s0 il1 s1)
  have R0 := Lib.hid r0
  have IL0 := Lib.hid il0
  obtain ⟨p0a1, p0c1, rfl⟩ := r0.shape
  clear r0 il0
  have R1 := Lib.hid r1
  have IL1 := Lib.hid il1
  obtain ⟨p1a2, p1c2, p1a3, p1c3, p1a4, p1c4, rfl⟩ := r1.shape
  clear r1 il1
  have K0 : Hid (Keeps w w) := Keeps.refl w
  go_enter Try.func4, Try.ntmps4
  go_wp2_with fail
  have KS1 : Hid (Keeps w (w.alloc (.cells #[.int .i64 l0.labels, .slice p0a1 l0.arcs.length p0c1] 37))) := (Keeps.refl _).alloc _
  have Z1' : Hid (w.heap.size + 1 ≤ (w.alloc (.cells #[.int .i64 l0.labels, .slice p0a1 l0.arcs.length p0c1] 37)).heap.size) := by show _ ≤ _; simp
  have E1 : (w.alloc (.cells #[.int .i64 l0.labels, .slice p0a1 l0.arcs.length p0c1] 37)).heap.size = w.heap.size + 1 := by rw [World.size_alloc]
  have c0_1 : (w.alloc (.cells #[.int .i64 l0.labels, .slice p0a1 l0.arcs.length p0c1] 37)).cell? ⟨w.heap.size, 0, none⟩ = some (.int .i64 l0.labels) := by rw [World.cell?_alloc_at _ _ _ _ rfl]; rfl
  have c1_1 : (w.alloc (.cells #[.int .i64 l0.labels, .slice p0a1 l0.arcs.length p0c1] 37)).cell? ⟨w.heap.size, 1, none⟩ = some (.slice p0a1 l0.arcs.length p0c1) := by rw [World.cell?_alloc_at _ _ _ _ rfl]; rfl
  generalize w.alloc (.cells #[.int .i64 l0.labels, .slice p0a1 l0.arcs.length p0c1] 37) = w1 at KS1 Z1' E1 c0_1 c1_1 ⊢
  have K1 : Hid (Keeps w w1) := Keeps.trans K0.out KS1.out
  have Z1 : Hid (w.heap.size ≤ w1.heap.size) := KS1.out.size
  have KS2 : Hid (Keeps w1 (w1.alloc (.cells #[.int .i64 l1.cls, .int .i64 l1.label, .slice p1a2 l1.first.length p1c2, .slice p1a3 l1.second.length p1c3, .slice p1a4 l1.ranks.length p1c4] 39))) := (Keeps.refl _).alloc _
  have Z2' : Hid (w.heap.size + 1 + 1 ≤ (w1.alloc (.cells #[.int .i64 l1.cls, .int .i64 l1.label, .slice p1a2 l1.first.length p1c2, .slice p1a3 l1.second.length p1c3, .slice p1a4 l1.ranks.length p1c4] 39)).heap.size) := by show _ ≤ _; simp; omega
  have E2 : (w1.alloc (.cells #[.int .i64 l1.cls, .int .i64 l1.label, .slice p1a2 l1.first.length p1c2, .slice p1a3 l1.second.length p1c3, .slice p1a4 l1.ranks.length p1c4] 39)).heap.size = w.heap.size + 1 + 1 := by rw [World.size_alloc]; omega
  have c2_2 : (w1.alloc (.cells #[.int .i64 l1.cls, .int .i64 l1.label, .slice p1a2 l1.first.length p1c2, .slice p1a3 l1.second.length p1c3, .slice p1a4 l1.ranks.length p1c4] 39)).cell? ⟨w.heap.size + 1, 0, none⟩ = some (.int .i64 l1.cls) := by rw [World.cell?_alloc_at _ _ _ _ (by omega)]; rfl
  have c3_2 : (w1.alloc (.cells #[.int .i64 l1.cls, .int .i64 l1.label, .slice p1a2 l1.first.length p1c2, .slice p1a3 l1.second.length p1c3, .slice p1a4 l1.ranks.length p1c4] 39)).cell? ⟨w.heap.size + 1, 1, none⟩ = some (.int .i64 l1.label) := by rw [World.cell?_alloc_at _ _ _ _ (by omega)]; rfl
  have c4_2 : (w1.alloc (.cells #[.int .i64 l1.cls, .int .i64 l1.label, .slice p1a2 l1.first.length p1c2, .slice p1a3 l1.second.length p1c3, .slice p1a4 l1.ranks.length p1c4] 39)).cell? ⟨w.heap.size + 1, 2, none⟩ = some (.slice p1a2 l1.first.length p1c2) := by rw [World.cell?_alloc_at _ _ _ _ (by omega)]; rfl
  have c5_2 : (w1.alloc (.cells #[.int .i64 l1.cls, .int .i64 l1.label, .slice p1a2 l1.first.length p1c2, .slice p1a3 l1.second.length p1c3, .slice p1a4 l1.ranks.length p1c4] 39)).cell? ⟨w.heap.size + 1, 3, none⟩ = some (.slice p1a3 l1.second.length p1c3) := by rw [World.cell?_alloc_at _ _ _ _ (by omega)]; rfl
  have c6_2 : (w1.alloc (.cells #[.int .i64 l1.cls, .int .i64 l1.label, .slice p1a2 l1.first.length p1c2, .slice p1a3 l1.second.length p1c3, .slice p1a4 l1.ranks.length p1c4] 39)).cell? ⟨w.heap.size + 1, 4, none⟩ = some (.slice p1a4 l1.ranks.length p1c4) := by rw [World.cell?_alloc_at _ _ _ _ (by omega)]; rfl
  generalize w1.alloc (.cells #[.int .i64 l1.cls, .int .i64 l1.label, .slice p1a2 l1.first.length p1c2, .slice p1a3 l1.second.length p1c3, .slice p1a4 l1.ranks.length p1c4] 39) = w2 at KS2 Z2' E2 c2_2 c3_2 c4_2 c5_2 c6_2 ⊢
  have K2 : Hid (Keeps w w2) := Keeps.trans K1.out KS2.out
  have Z2 : Hid (w1.heap.size ≤ w2.heap.size) := KS2.out.size
  have c0_2 := cell_keep KS2.out c0_1
  clear c0_1
  have c1_2 := cell_keep KS2.out c1_1
  clear c1_1
  clear E1 E2
  refine (szWalkProblem_any _ l0 1048576 _ (R0.out.keep K2.out) (by omega) (by omega)).mono ?_
  rintro e w3 ⟨rfl, k3⟩
  rw [szL, if_pos (by omega)]
  have KS3 : Hid (Keeps w2 w3) := k3
  clear k3
  have K3 : Hid (Keeps w w3) := Keeps.trans K2.out KS3.out
  have Z3 : Hid (w2.heap.size ≤ w3.heap.size) := KS3.out.size
  have c0_3 := cell_keep KS3.out c0_2
  clear c0_2
  have c1_3 := cell_keep KS3.out c1_2
  clear c1_2
  have c2_3 := cell_keep KS3.out c2_2
  clear c2_2
  have c3_3 := cell_keep KS3.out c3_2
  clear c3_2
  have c4_3 := cell_keep KS3.out c4_2
  clear c4_2
  have c5_3 := cell_keep KS3.out c5_2
  clear c5_2
  have c6_3 := cell_keep KS3.out c6_2
  clear c6_2
  go_wp2_with fail
  refine (szWalkCertificate_any _ l1 (1048576 - (szW l0 : Nat)) _ (R1.out.keep K3.out) (by omega) (by omega)).mono ?_
  rintro e w4 ⟨rfl, k4⟩
  rw [szL, if_pos (by omega)]
  have KS4 : Hid (Keeps w3 w4) := k4
  clear k4
  have K4 : Hid (Keeps w w4) := Keeps.trans K3.out KS4.out
  have Z4 : Hid (w3.heap.size ≤ w4.heap.size) := KS4.out.size
  have c0_4 := cell_keep KS4.out c0_3
  clear c0_3
  have c1_4 := cell_keep KS4.out c1_3
  clear c1_3
  have c2_4 := cell_keep KS4.out c2_3
  clear c2_3
  have c3_4 := cell_keep KS4.out c3_3
  clear c3_3
  have c4_4 := cell_keep KS4.out c4_3
  clear c4_3
  have c5_4 := cell_keep KS4.out c5_3
  clear c5_3
  have c6_4 := cell_keep KS4.out c6_3
  clear c6_3
  go_wp2_with fail
  have SK : Hid (∀ W : World, Keeps w4 W → W.cell? ⟨w.heap.size, 0, none⟩ = some (.int .i64 l0.labels) ∧ W.cell? ⟨w.heap.size, 1, none⟩ = some (.slice p0a1 l0.arcs.length p0c1) ∧ W.cell? ⟨w.heap.size + 1, 0, none⟩ = some (.int .i64 l1.cls) ∧ W.cell? ⟨w.heap.size + 1, 1, none⟩ = some (.int .i64 l1.label) ∧ W.cell? ⟨w.heap.size + 1, 2, none⟩ = some (.slice p1a2 l1.first.length p1c2) ∧ W.cell? ⟨w.heap.size + 1, 3, none⟩ = some (.slice p1a3 l1.second.length p1c3) ∧ W.cell? ⟨w.heap.size + 1, 4, none⟩ = some (.slice p1a4 l1.ranks.length p1c4)) := fun W k => ⟨cell_keep k c0_4, cell_keep k c1_4, cell_keep k c2_4, cell_keep k c3_4, cell_keep k c4_4, cell_keep k c5_4, cell_keep k c6_4⟩
  have KD : Hid (Keeps w4 w4.drew) := (Keeps.refl _).drew
  go_region_held3 (fun W => W.cell? ⟨w.heap.size, 0, none⟩ = some (.int .i64 l0.labels) ∧ W.cell? ⟨w.heap.size, 1, none⟩ = some (.slice p0a1 l0.arcs.length p0c1) ∧ W.cell? ⟨w.heap.size + 1, 0, none⟩ = some (.int .i64 l1.cls) ∧ W.cell? ⟨w.heap.size + 1, 1, none⟩ = some (.int .i64 l1.label) ∧ W.cell? ⟨w.heap.size + 1, 2, none⟩ = some (.slice p1a2 l1.first.length p1c2) ∧ W.cell? ⟨w.heap.size + 1, 3, none⟩ = some (.slice p1a3 l1.second.length p1c3) ∧ W.cell? ⟨w.heap.size + 1, 4, none⟩ = some (.slice p1a4 l1.ranks.length p1c4)) (first | exact SK.out _ KD.out | exact SK.out _ (Keeps.trans KD.out KS5'.out) | exact SK.out _ (Keeps.trans KD.out (Keeps.trans KS5'.out KS6.out)) | exact SK.out _ (Keeps.trans KD.out (Keeps.trans KS5'.out (Keeps.trans KS6.out KS7.out))))
    ((first
      | (go_at_call 24; with_reducible refine (toWalkProblem_any _ l0 _ (R0.out.keep (Keeps.trans K4.out KD.out)) s0).mono ?_; rintro e w5 ⟨tt, rfl, o5, k5⟩; obtain ⟨t5a1, t5c1, rfl⟩ := o5.rd.shape; have T5 := Lib.hid o5; have KS5' := Lib.hid k5; clear o5 k5)
      | (go_at_call 25; with_reducible refine (toWalkCertificate_any _ l1 _ (R1.out.keep (Keeps.trans K4.out (Keeps.trans KD.out KS5'.out))) s1).mono ?_; rintro e w6 ⟨tt, rfl, o6, k6⟩; obtain ⟨t6a2, t6c2, t6a3, t6c3, t6a4, t6c4, rfl⟩ := o6.rd.shape; have T6 := Lib.hid o6; have KS6 := Lib.hid k6; clear o6 k6)
      | (go_at_call 23; refine (specCheckWalkCertificate_any (.agg #[.int .i64 l0.labels, .slice t5a1 l0.arcs.length t5c1]) l0 (.agg #[.int .i64 l1.cls, .int .i64 l1.label, .slice t6a2 l1.first.length t6c2, .slice t6a3 l1.second.length t6c3, .slice t6a4 l1.ranks.length t6c4]) l1 _ ((T5.out.keep KS6.out).rd) IL0.out s0 (T6.out.rd) IL1.out s1).mono ?_; rintro e w7 ⟨rfl, k7⟩; have KS7 := Lib.hid k7; clear k7)))
  have KS5 : Hid (Keeps w4 w5) := Keeps.trans KD.out KS5'.out
  have K5 : Hid (Keeps w w5) := Keeps.trans K4.out KS5.out
  have Z5 : Hid (w4.heap.size ≤ w5.heap.size) := KS5.out.size
  have c0_5 := cell_keep KS5.out c0_4
  clear c0_4
  have c1_5 := cell_keep KS5.out c1_4
  clear c1_4
  have c2_5 := cell_keep KS5.out c2_4
  clear c2_4
  have c3_5 := cell_keep KS5.out c3_4
  clear c3_4
  have c4_5 := cell_keep KS5.out c4_4
  clear c4_4
  have c5_5 := cell_keep KS5.out c5_4
  clear c5_4
  have c6_5 := cell_keep KS5.out c6_4
  clear c6_4
  have K6 : Hid (Keeps w w6) := Keeps.trans K5.out KS6.out
  have Z6 : Hid (w5.heap.size ≤ w6.heap.size) := KS6.out.size
  have T5_6 := Lib.hid (T5.out.keep KS6.out)
  clear T5
  have c0_6 := cell_keep KS6.out c0_5
  clear c0_5
  have c1_6 := cell_keep KS6.out c1_5
  clear c1_5
  have c2_6 := cell_keep KS6.out c2_5
  clear c2_5
  have c3_6 := cell_keep KS6.out c3_5
  clear c3_5
  have c4_6 := cell_keep KS6.out c4_5
  clear c4_5
  have c5_6 := cell_keep KS6.out c5_5
  clear c5_5
  have c6_6 := cell_keep KS6.out c6_5
  clear c6_5
  have K7 : Hid (Keeps w w7) := Keeps.trans K6.out KS7.out
  have Z7 : Hid (w6.heap.size ≤ w7.heap.size) := KS7.out.size
  have T5_7 := Lib.hid (T5_6.out.keep KS7.out)
  clear T5_6
  have T6_7 := Lib.hid (T6.out.keep KS7.out)
  clear T6
  have c0_7 := cell_keep KS7.out c0_6
  clear c0_6
  have c1_7 := cell_keep KS7.out c1_6
  clear c1_6
  have c2_7 := cell_keep KS7.out c2_6
  clear c2_6
  have c3_7 := cell_keep KS7.out c3_6
  clear c3_6
  have c4_7 := cell_keep KS7.out c4_6
  clear c4_6
  have c5_7 := cell_keep KS7.out c5_6
  clear c5_6
  have c6_7 := cell_keep KS7.out c6_6
  clear c6_6
  clear SK KD
  generalize fCheckWalkCertificateSpec l0 l1 = R at *
  obtain ⟨Ra, Rb⟩ := R
  simp only at HE ⊢
  go_wp2_with fail
  refine (toWalkProblem_any _ l0 _ (R0.out.keep K7.out) s0).mono ?_
  rintro e w8 ⟨t8, rfl, o8, k8⟩
  obtain ⟨t8a1, t8c1, rfl⟩ := o8.rd.shape
  have T8 := Lib.hid o8
  clear o8
  have KS8 : Hid (Keeps w7 w8) := k8
  clear k8
  have K8 : Hid (Keeps w w8) := Keeps.trans K7.out KS8.out
  have Z8 : Hid (w7.heap.size ≤ w8.heap.size) := KS8.out.size
  have T5_8 := Lib.hid (T5_7.out.keep KS8.out)
  clear T5_7
  have T6_8 := Lib.hid (T6_7.out.keep KS8.out)
  clear T6_7
  have c0_8 := cell_keep KS8.out c0_7
  clear c0_7
  have c1_8 := cell_keep KS8.out c1_7
  clear c1_7
  have c2_8 := cell_keep KS8.out c2_7
  clear c2_7
  have c3_8 := cell_keep KS8.out c3_7
  clear c3_7
  have c4_8 := cell_keep KS8.out c4_7
  clear c4_7
  have c5_8 := cell_keep KS8.out c5_7
  clear c5_7
  have c6_8 := cell_keep KS8.out c6_7
  clear c6_7
  have pre1 : (w8.alloc (.cells #[.int .i64 l0.labels, .slice t8a1 l0.arcs.length t8c1] 44)).cell? ⟨w.heap.size, 0, none⟩ = some (.int .i64 l0.labels) := cell_keep ((Keeps.refl _).alloc _) c0_8
  have pre2 : (w8.alloc (.cells #[.int .i64 l0.labels, .slice t8a1 l0.arcs.length t8c1] 44)).cell? ⟨w.heap.size, 1, none⟩ = some (.slice p0a1 l0.arcs.length p0c1) := cell_keep ((Keeps.refl _).alloc _) c1_8
  have pre3 : (w8.alloc (.cells #[.int .i64 l0.labels, .slice t8a1 l0.arcs.length t8c1] 44)).cell? ⟨w.heap.size + 1, 0, none⟩ = some (.int .i64 l1.cls) := cell_keep ((Keeps.refl _).alloc _) c2_8
  have pre4 : (w8.alloc (.cells #[.int .i64 l0.labels, .slice t8a1 l0.arcs.length t8c1] 44)).cell? ⟨w.heap.size + 1, 1, none⟩ = some (.int .i64 l1.label) := cell_keep ((Keeps.refl _).alloc _) c3_8
  have pre5 : (w8.alloc (.cells #[.int .i64 l0.labels, .slice t8a1 l0.arcs.length t8c1] 44)).cell? ⟨w.heap.size + 1, 2, none⟩ = some (.slice p1a2 l1.first.length p1c2) := cell_keep ((Keeps.refl _).alloc _) c4_8
  have pre6 : (w8.alloc (.cells #[.int .i64 l0.labels, .slice t8a1 l0.arcs.length t8c1] 44)).cell? ⟨w.heap.size + 1, 3, none⟩ = some (.slice p1a3 l1.second.length p1c3) := cell_keep ((Keeps.refl _).alloc _) c5_8
  have pre7 : (w8.alloc (.cells #[.int .i64 l0.labels, .slice t8a1 l0.arcs.length t8c1] 44)).cell? ⟨w.heap.size + 1, 4, none⟩ = some (.slice p1a4 l1.ranks.length p1c4) := cell_keep ((Keeps.refl _).alloc _) c6_8
  go_wp2_with fail
  clear pre1 pre2 pre3 pre4 pre5 pre6 pre7
  have KS9 : Hid (Keeps w8 (w8.alloc (.cells #[.int .i64 l0.labels, .slice t8a1 l0.arcs.length t8c1] 44))) := (Keeps.refl _).alloc _
  have Z9' : Hid (w8.heap.size + 1 ≤ (w8.alloc (.cells #[.int .i64 l0.labels, .slice t8a1 l0.arcs.length t8c1] 44)).heap.size) := by show _ ≤ _; simp
  have E9 : (w8.alloc (.cells #[.int .i64 l0.labels, .slice t8a1 l0.arcs.length t8c1] 44)).heap.size = w8.heap.size + 1 := by rw [World.size_alloc]
  have c7_9 : (w8.alloc (.cells #[.int .i64 l0.labels, .slice t8a1 l0.arcs.length t8c1] 44)).cell? ⟨w8.heap.size, 0, none⟩ = some (.int .i64 l0.labels) := by rw [World.cell?_alloc_at _ _ _ _ rfl]; rfl
  have c8_9 : (w8.alloc (.cells #[.int .i64 l0.labels, .slice t8a1 l0.arcs.length t8c1] 44)).cell? ⟨w8.heap.size, 1, none⟩ = some (.slice t8a1 l0.arcs.length t8c1) := by rw [World.cell?_alloc_at _ _ _ _ rfl]; rfl
  generalize w8.alloc (.cells #[.int .i64 l0.labels, .slice t8a1 l0.arcs.length t8c1] 44) = w9 at KS9 Z9' E9 c7_9 c8_9 ⊢
  have K9 : Hid (Keeps w w9) := Keeps.trans K8.out KS9.out
  have Z9 : Hid (w8.heap.size ≤ w9.heap.size) := KS9.out.size
  have T5_9 := Lib.hid (T5_8.out.keep KS9.out)
  clear T5_8
  have T6_9 := Lib.hid (T6_8.out.keep KS9.out)
  clear T6_8
  have T8_9 := Lib.hid (T8.out.keep KS9.out)
  clear T8
  have c0_9 := cell_keep KS9.out c0_8
  clear c0_8
  have c1_9 := cell_keep KS9.out c1_8
  clear c1_8
  have c2_9 := cell_keep KS9.out c2_8
  clear c2_8
  have c3_9 := cell_keep KS9.out c3_8
  clear c3_8
  have c4_9 := cell_keep KS9.out c4_8
  clear c4_8
  have c5_9 := cell_keep KS9.out c5_8
  clear c5_8
  have c6_9 := cell_keep KS9.out c6_8
  clear c6_8
  clear E9
  refine (toWalkCertificate_any _ l1 _ (R1.out.keep K9.out) s1).mono ?_
  rintro e w10 ⟨t10, rfl, o10, k10⟩
  obtain ⟨t10a2, t10c2, t10a3, t10c3, t10a4, t10c4, rfl⟩ := o10.rd.shape
  have T10 := Lib.hid o10
  clear o10
  have KS10 : Hid (Keeps w9 w10) := k10
  clear k10
  have K10 : Hid (Keeps w w10) := Keeps.trans K9.out KS10.out
  have Z10 : Hid (w9.heap.size ≤ w10.heap.size) := KS10.out.size
  have T5_10 := Lib.hid (T5_9.out.keep KS10.out)
  clear T5_9
  have T6_10 := Lib.hid (T6_9.out.keep KS10.out)
  clear T6_9
  have T8_10 := Lib.hid (T8_9.out.keep KS10.out)
  clear T8_9
  have c0_10 := cell_keep KS10.out c0_9
  clear c0_9
  have c1_10 := cell_keep KS10.out c1_9
  clear c1_9
  have c2_10 := cell_keep KS10.out c2_9
  clear c2_9
  have c3_10 := cell_keep KS10.out c3_9
  clear c3_9
  have c4_10 := cell_keep KS10.out c4_9
  clear c4_9
  have c5_10 := cell_keep KS10.out c5_9
  clear c5_9
  have c6_10 := cell_keep KS10.out c6_9
  clear c6_9
  have c7_10 := cell_keep KS10.out c7_9
  clear c7_9
  have c8_10 := cell_keep KS10.out c8_9
  clear c8_9
  have pre1 : (w10.alloc (.cells #[.int .i64 l1.cls, .int .i64 l1.label, .slice t10a2 l1.first.length t10c2, .slice t10a3 l1.second.length t10c3, .slice t10a4 l1.ranks.length t10c4] 46)).cell? ⟨w.heap.size, 0, none⟩ = some (.int .i64 l0.labels) := cell_keep ((Keeps.refl _).alloc _) c0_10
  have pre2 : (w10.alloc (.cells #[.int .i64 l1.cls, .int .i64 l1.label, .slice t10a2 l1.first.length t10c2, .slice t10a3 l1.second.length t10c3, .slice t10a4 l1.ranks.length t10c4] 46)).cell? ⟨w.heap.size, 1, none⟩ = some (.slice p0a1 l0.arcs.length p0c1) := cell_keep ((Keeps.refl _).alloc _) c1_10
  have pre3 : (w10.alloc (.cells #[.int .i64 l1.cls, .int .i64 l1.label, .slice t10a2 l1.first.length t10c2, .slice t10a3 l1.second.length t10c3, .slice t10a4 l1.ranks.length t10c4] 46)).cell? ⟨w.heap.size + 1, 0, none⟩ = some (.int .i64 l1.cls) := cell_keep ((Keeps.refl _).alloc _) c2_10
  have pre4 : (w10.alloc (.cells #[.int .i64 l1.cls, .int .i64 l1.label, .slice t10a2 l1.first.length t10c2, .slice t10a3 l1.second.length t10c3, .slice t10a4 l1.ranks.length t10c4] 46)).cell? ⟨w.heap.size + 1, 1, none⟩ = some (.int .i64 l1.label) := cell_keep ((Keeps.refl _).alloc _) c3_10
  have pre5 : (w10.alloc (.cells #[.int .i64 l1.cls, .int .i64 l1.label, .slice t10a2 l1.first.length t10c2, .slice t10a3 l1.second.length t10c3, .slice t10a4 l1.ranks.length t10c4] 46)).cell? ⟨w.heap.size + 1, 2, none⟩ = some (.slice p1a2 l1.first.length p1c2) := cell_keep ((Keeps.refl _).alloc _) c4_10
  have pre6 : (w10.alloc (.cells #[.int .i64 l1.cls, .int .i64 l1.label, .slice t10a2 l1.first.length t10c2, .slice t10a3 l1.second.length t10c3, .slice t10a4 l1.ranks.length t10c4] 46)).cell? ⟨w.heap.size + 1, 3, none⟩ = some (.slice p1a3 l1.second.length p1c3) := cell_keep ((Keeps.refl _).alloc _) c5_10
  have pre7 : (w10.alloc (.cells #[.int .i64 l1.cls, .int .i64 l1.label, .slice t10a2 l1.first.length t10c2, .slice t10a3 l1.second.length t10c3, .slice t10a4 l1.ranks.length t10c4] 46)).cell? ⟨w.heap.size + 1, 4, none⟩ = some (.slice p1a4 l1.ranks.length p1c4) := cell_keep ((Keeps.refl _).alloc _) c6_10
  have pre8 : (w10.alloc (.cells #[.int .i64 l1.cls, .int .i64 l1.label, .slice t10a2 l1.first.length t10c2, .slice t10a3 l1.second.length t10c3, .slice t10a4 l1.ranks.length t10c4] 46)).cell? ⟨w8.heap.size, 0, none⟩ = some (.int .i64 l0.labels) := cell_keep ((Keeps.refl _).alloc _) c7_10
  have pre9 : (w10.alloc (.cells #[.int .i64 l1.cls, .int .i64 l1.label, .slice t10a2 l1.first.length t10c2, .slice t10a3 l1.second.length t10c3, .slice t10a4 l1.ranks.length t10c4] 46)).cell? ⟨w8.heap.size, 1, none⟩ = some (.slice t8a1 l0.arcs.length t8c1) := cell_keep ((Keeps.refl _).alloc _) c8_10
  go_wp2_with fail
  clear pre1 pre2 pre3 pre4 pre5 pre6 pre7 pre8 pre9
  have KS11 : Hid (Keeps w10 (w10.alloc (.cells #[.int .i64 l1.cls, .int .i64 l1.label, .slice t10a2 l1.first.length t10c2, .slice t10a3 l1.second.length t10c3, .slice t10a4 l1.ranks.length t10c4] 46))) := (Keeps.refl _).alloc _
  have Z11' : Hid (w10.heap.size + 1 ≤ (w10.alloc (.cells #[.int .i64 l1.cls, .int .i64 l1.label, .slice t10a2 l1.first.length t10c2, .slice t10a3 l1.second.length t10c3, .slice t10a4 l1.ranks.length t10c4] 46)).heap.size) := by show _ ≤ _; simp
  have E11 : (w10.alloc (.cells #[.int .i64 l1.cls, .int .i64 l1.label, .slice t10a2 l1.first.length t10c2, .slice t10a3 l1.second.length t10c3, .slice t10a4 l1.ranks.length t10c4] 46)).heap.size = w10.heap.size + 1 := by rw [World.size_alloc]
  have c9_11 : (w10.alloc (.cells #[.int .i64 l1.cls, .int .i64 l1.label, .slice t10a2 l1.first.length t10c2, .slice t10a3 l1.second.length t10c3, .slice t10a4 l1.ranks.length t10c4] 46)).cell? ⟨w10.heap.size, 0, none⟩ = some (.int .i64 l1.cls) := by rw [World.cell?_alloc_at _ _ _ _ rfl]; rfl
  have c10_11 : (w10.alloc (.cells #[.int .i64 l1.cls, .int .i64 l1.label, .slice t10a2 l1.first.length t10c2, .slice t10a3 l1.second.length t10c3, .slice t10a4 l1.ranks.length t10c4] 46)).cell? ⟨w10.heap.size, 1, none⟩ = some (.int .i64 l1.label) := by rw [World.cell?_alloc_at _ _ _ _ rfl]; rfl
  have c11_11 : (w10.alloc (.cells #[.int .i64 l1.cls, .int .i64 l1.label, .slice t10a2 l1.first.length t10c2, .slice t10a3 l1.second.length t10c3, .slice t10a4 l1.ranks.length t10c4] 46)).cell? ⟨w10.heap.size, 2, none⟩ = some (.slice t10a2 l1.first.length t10c2) := by rw [World.cell?_alloc_at _ _ _ _ rfl]; rfl
  have c12_11 : (w10.alloc (.cells #[.int .i64 l1.cls, .int .i64 l1.label, .slice t10a2 l1.first.length t10c2, .slice t10a3 l1.second.length t10c3, .slice t10a4 l1.ranks.length t10c4] 46)).cell? ⟨w10.heap.size, 3, none⟩ = some (.slice t10a3 l1.second.length t10c3) := by rw [World.cell?_alloc_at _ _ _ _ rfl]; rfl
  have c13_11 : (w10.alloc (.cells #[.int .i64 l1.cls, .int .i64 l1.label, .slice t10a2 l1.first.length t10c2, .slice t10a3 l1.second.length t10c3, .slice t10a4 l1.ranks.length t10c4] 46)).cell? ⟨w10.heap.size, 4, none⟩ = some (.slice t10a4 l1.ranks.length t10c4) := by rw [World.cell?_alloc_at _ _ _ _ rfl]; rfl
  generalize w10.alloc (.cells #[.int .i64 l1.cls, .int .i64 l1.label, .slice t10a2 l1.first.length t10c2, .slice t10a3 l1.second.length t10c3, .slice t10a4 l1.ranks.length t10c4] 46) = w11 at KS11 Z11' E11 c9_11 c10_11 c11_11 c12_11 c13_11 ⊢
  have K11 : Hid (Keeps w w11) := Keeps.trans K10.out KS11.out
  have Z11 : Hid (w10.heap.size ≤ w11.heap.size) := KS11.out.size
  have T5_11 := Lib.hid (T5_10.out.keep KS11.out)
  clear T5_10
  have T6_11 := Lib.hid (T6_10.out.keep KS11.out)
  clear T6_10
  have T8_11 := Lib.hid (T8_10.out.keep KS11.out)
  clear T8_10
  have T10_11 := Lib.hid (T10.out.keep KS11.out)
  clear T10
  have c0_11 := cell_keep KS11.out c0_10
  clear c0_10
  have c1_11 := cell_keep KS11.out c1_10
  clear c1_10
  have c2_11 := cell_keep KS11.out c2_10
  clear c2_10
  have c3_11 := cell_keep KS11.out c3_10
  clear c3_10
  have c4_11 := cell_keep KS11.out c4_10
  clear c4_10
  have c5_11 := cell_keep KS11.out c5_10
  clear c5_10
  have c6_11 := cell_keep KS11.out c6_10
  clear c6_10
  have c7_11 := cell_keep KS11.out c7_10
  clear c7_10
  have c8_11 := cell_keep KS11.out c8_10
  clear c8_10
  clear E11
  refine (implCheckWalkCertificate_any (.agg #[.int .i64 l0.labels, .slice t8a1 l0.arcs.length t8c1]) l0 (.agg #[.int .i64 l1.cls, .int .i64 l1.label, .slice t10a2 l1.first.length t10c2, .slice t10a3 l1.second.length t10c3, .slice t10a4 l1.ranks.length t10c4]) l1 _ (T8_11.out.rd) IL0.out s0 (T10_11.out.rd) IL1.out s1).mono ?_
  rw [HE.out]
  rintro e w12 ⟨rfl, k12⟩
  have KS12 : Hid (Keeps w11 w12) := k12
  clear k12
  have K12 : Hid (Keeps w w12) := Keeps.trans K11.out KS12.out
  have Z12 : Hid (w11.heap.size ≤ w12.heap.size) := KS12.out.size
  have T5_12 := Lib.hid (T5_11.out.keep KS12.out)
  clear T5_11
  have T6_12 := Lib.hid (T6_11.out.keep KS12.out)
  clear T6_11
  have T8_12 := Lib.hid (T8_11.out.keep KS12.out)
  clear T8_11
  have T10_12 := Lib.hid (T10_11.out.keep KS12.out)
  clear T10_11
  have c0_12 := cell_keep KS12.out c0_11
  clear c0_11
  have c1_12 := cell_keep KS12.out c1_11
  clear c1_11
  have c2_12 := cell_keep KS12.out c2_11
  clear c2_11
  have c3_12 := cell_keep KS12.out c3_11
  clear c3_11
  have c4_12 := cell_keep KS12.out c4_11
  clear c4_11
  have c5_12 := cell_keep KS12.out c5_11
  clear c5_11
  have c6_12 := cell_keep KS12.out c6_11
  clear c6_11
  have c7_12 := cell_keep KS12.out c7_11
  clear c7_11
  have c8_12 := cell_keep KS12.out c8_11
  clear c8_11
  have c9_12 := cell_keep KS12.out c9_11
  clear c9_11
  have c10_12 := cell_keep KS12.out c10_11
  clear c10_11
  have c11_12 := cell_keep KS12.out c11_11
  clear c11_11
  have c12_12 := cell_keep KS12.out c12_11
  clear c12_11
  have c13_12 := cell_keep KS12.out c13_11
  clear c13_11
  go_wp2_with fail
  have SK : Hid (∀ W : World, Keeps w12 W → W.cell? ⟨w.heap.size, 0, none⟩ = some (.int .i64 l0.labels) ∧ W.cell? ⟨w.heap.size, 1, none⟩ = some (.slice p0a1 l0.arcs.length p0c1) ∧ W.cell? ⟨w.heap.size + 1, 0, none⟩ = some (.int .i64 l1.cls) ∧ W.cell? ⟨w.heap.size + 1, 1, none⟩ = some (.int .i64 l1.label) ∧ W.cell? ⟨w.heap.size + 1, 2, none⟩ = some (.slice p1a2 l1.first.length p1c2) ∧ W.cell? ⟨w.heap.size + 1, 3, none⟩ = some (.slice p1a3 l1.second.length p1c3) ∧ W.cell? ⟨w.heap.size + 1, 4, none⟩ = some (.slice p1a4 l1.ranks.length p1c4) ∧ W.cell? ⟨w8.heap.size, 0, none⟩ = some (.int .i64 l0.labels) ∧ W.cell? ⟨w8.heap.size, 1, none⟩ = some (.slice t8a1 l0.arcs.length t8c1) ∧ W.cell? ⟨w10.heap.size, 0, none⟩ = some (.int .i64 l1.cls) ∧ W.cell? ⟨w10.heap.size, 1, none⟩ = some (.int .i64 l1.label) ∧ W.cell? ⟨w10.heap.size, 2, none⟩ = some (.slice t10a2 l1.first.length t10c2) ∧ W.cell? ⟨w10.heap.size, 3, none⟩ = some (.slice t10a3 l1.second.length t10c3) ∧ W.cell? ⟨w10.heap.size, 4, none⟩ = some (.slice t10a4 l1.ranks.length t10c4)) := fun W k => ⟨cell_keep k c0_12, cell_keep k c1_12, cell_keep k c2_12, cell_keep k c3_12, cell_keep k c4_12, cell_keep k c5_12, cell_keep k c6_12, cell_keep k c7_12, cell_keep k c8_12, cell_keep k c9_12, cell_keep k c10_12, cell_keep k c11_12, cell_keep k c12_12, cell_keep k c13_12⟩
  have KD : Hid (Keeps w12 w12.drew) := (Keeps.refl _).drew
  go_region_held3 (fun W => W.cell? ⟨w.heap.size, 0, none⟩ = some (.int .i64 l0.labels) ∧ W.cell? ⟨w.heap.size, 1, none⟩ = some (.slice p0a1 l0.arcs.length p0c1) ∧ W.cell? ⟨w.heap.size + 1, 0, none⟩ = some (.int .i64 l1.cls) ∧ W.cell? ⟨w.heap.size + 1, 1, none⟩ = some (.int .i64 l1.label) ∧ W.cell? ⟨w.heap.size + 1, 2, none⟩ = some (.slice p1a2 l1.first.length p1c2) ∧ W.cell? ⟨w.heap.size + 1, 3, none⟩ = some (.slice p1a3 l1.second.length p1c3) ∧ W.cell? ⟨w.heap.size + 1, 4, none⟩ = some (.slice p1a4 l1.ranks.length p1c4) ∧ W.cell? ⟨w8.heap.size, 0, none⟩ = some (.int .i64 l0.labels) ∧ W.cell? ⟨w8.heap.size, 1, none⟩ = some (.slice t8a1 l0.arcs.length t8c1) ∧ W.cell? ⟨w10.heap.size, 0, none⟩ = some (.int .i64 l1.cls) ∧ W.cell? ⟨w10.heap.size, 1, none⟩ = some (.int .i64 l1.label) ∧ W.cell? ⟨w10.heap.size, 2, none⟩ = some (.slice t10a2 l1.first.length t10c2) ∧ W.cell? ⟨w10.heap.size, 3, none⟩ = some (.slice t10a3 l1.second.length t10c3) ∧ W.cell? ⟨w10.heap.size, 4, none⟩ = some (.slice t10a4 l1.ranks.length t10c4)) (first | exact SK.out _ KD.out | exact SK.out _ (Keeps.trans KD.out KS13'.out) | exact SK.out _ (Keeps.trans KD.out (Keeps.trans KS13'.out KS14.out)))
    ((first
      | (go_at_call 24; refine (toWalkProblem_any _ l0 _ (R0.out.keep (Keeps.trans K12.out KD.out)) s0).mono ?_; rintro e w13 ⟨tt, rfl, o13, k13⟩; obtain ⟨t13a1, t13c1, rfl⟩ := o13.rd.shape; have T13 := Lib.hid o13; have KS13' := Lib.hid k13; clear o13 k13)
      | (go_at_call 27; refine (eqWalkProblem_same _ _ l0 _ ((T8_12.out.rd).keep (Keeps.trans KD.out KS13'.out)) T13.out.rd).mono ?_; rintro e w14 ⟨rfl, k14⟩; have KS14 := Lib.hid k14; clear k14)))
  have KS13 : Hid (Keeps w12 w13) := Keeps.trans KD.out KS13'.out
  have K13 : Hid (Keeps w w13) := Keeps.trans K12.out KS13.out
  have Z13 : Hid (w12.heap.size ≤ w13.heap.size) := KS13.out.size
  have T5_13 := Lib.hid (T5_12.out.keep KS13.out)
  clear T5_12
  have T6_13 := Lib.hid (T6_12.out.keep KS13.out)
  clear T6_12
  have T8_13 := Lib.hid (T8_12.out.keep KS13.out)
  clear T8_12
  have T10_13 := Lib.hid (T10_12.out.keep KS13.out)
  clear T10_12
  have c0_13 := cell_keep KS13.out c0_12
  clear c0_12
  have c1_13 := cell_keep KS13.out c1_12
  clear c1_12
  have c2_13 := cell_keep KS13.out c2_12
  clear c2_12
  have c3_13 := cell_keep KS13.out c3_12
  clear c3_12
  have c4_13 := cell_keep KS13.out c4_12
  clear c4_12
  have c5_13 := cell_keep KS13.out c5_12
  clear c5_12
  have c6_13 := cell_keep KS13.out c6_12
  clear c6_12
  have c7_13 := cell_keep KS13.out c7_12
  clear c7_12
  have c8_13 := cell_keep KS13.out c8_12
  clear c8_12
  have c9_13 := cell_keep KS13.out c9_12
  clear c9_12
  have c10_13 := cell_keep KS13.out c10_12
  clear c10_12
  have c11_13 := cell_keep KS13.out c11_12
  clear c11_12
  have c12_13 := cell_keep KS13.out c12_12
  clear c12_12
  have c13_13 := cell_keep KS13.out c13_12
  clear c13_12
  have K14 : Hid (Keeps w w14) := Keeps.trans K13.out KS14.out
  have Z14 : Hid (w13.heap.size ≤ w14.heap.size) := KS14.out.size
  have T5_14 := Lib.hid (T5_13.out.keep KS14.out)
  clear T5_13
  have T6_14 := Lib.hid (T6_13.out.keep KS14.out)
  clear T6_13
  have T8_14 := Lib.hid (T8_13.out.keep KS14.out)
  clear T8_13
  have T10_14 := Lib.hid (T10_13.out.keep KS14.out)
  clear T10_13
  have c0_14 := cell_keep KS14.out c0_13
  clear c0_13
  have c1_14 := cell_keep KS14.out c1_13
  clear c1_13
  have c2_14 := cell_keep KS14.out c2_13
  clear c2_13
  have c3_14 := cell_keep KS14.out c3_13
  clear c3_13
  have c4_14 := cell_keep KS14.out c4_13
  clear c4_13
  have c5_14 := cell_keep KS14.out c5_13
  clear c5_13
  have c6_14 := cell_keep KS14.out c6_13
  clear c6_13
  have c7_14 := cell_keep KS14.out c7_13
  clear c7_13
  have c8_14 := cell_keep KS14.out c8_13
  clear c8_13
  have c9_14 := cell_keep KS14.out c9_13
  clear c9_13
  have c10_14 := cell_keep KS14.out c10_13
  clear c10_13
  have c11_14 := cell_keep KS14.out c11_13
  clear c11_13
  have c12_14 := cell_keep KS14.out c12_13
  clear c12_13
  have c13_14 := cell_keep KS14.out c13_13
  clear c13_13
  clear SK KD
  go_wp2_with fail
  have SK : Hid (∀ W : World, Keeps w14 W → W.cell? ⟨w.heap.size, 0, none⟩ = some (.int .i64 l0.labels) ∧ W.cell? ⟨w.heap.size, 1, none⟩ = some (.slice p0a1 l0.arcs.length p0c1) ∧ W.cell? ⟨w.heap.size + 1, 0, none⟩ = some (.int .i64 l1.cls) ∧ W.cell? ⟨w.heap.size + 1, 1, none⟩ = some (.int .i64 l1.label) ∧ W.cell? ⟨w.heap.size + 1, 2, none⟩ = some (.slice p1a2 l1.first.length p1c2) ∧ W.cell? ⟨w.heap.size + 1, 3, none⟩ = some (.slice p1a3 l1.second.length p1c3) ∧ W.cell? ⟨w.heap.size + 1, 4, none⟩ = some (.slice p1a4 l1.ranks.length p1c4) ∧ W.cell? ⟨w8.heap.size, 0, none⟩ = some (.int .i64 l0.labels) ∧ W.cell? ⟨w8.heap.size, 1, none⟩ = some (.slice t8a1 l0.arcs.length t8c1) ∧ W.cell? ⟨w10.heap.size, 0, none⟩ = some (.int .i64 l1.cls) ∧ W.cell? ⟨w10.heap.size, 1, none⟩ = some (.int .i64 l1.label) ∧ W.cell? ⟨w10.heap.size, 2, none⟩ = some (.slice t10a2 l1.first.length t10c2) ∧ W.cell? ⟨w10.heap.size, 3, none⟩ = some (.slice t10a3 l1.second.length t10c3) ∧ W.cell? ⟨w10.heap.size, 4, none⟩ = some (.slice t10a4 l1.ranks.length t10c4)) := fun W k => ⟨cell_keep k c0_14, cell_keep k c1_14, cell_keep k c2_14, cell_keep k c3_14, cell_keep k c4_14, cell_keep k c5_14, cell_keep k c6_14, cell_keep k c7_14, cell_keep k c8_14, cell_keep k c9_14, cell_keep k c10_14, cell_keep k c11_14, cell_keep k c12_14, cell_keep k c13_14⟩
  have KD : Hid (Keeps w14 w14.drew) := (Keeps.refl _).drew
  go_region_held3 (fun W => W.cell? ⟨w.heap.size, 0, none⟩ = some (.int .i64 l0.labels) ∧ W.cell? ⟨w.heap.size, 1, none⟩ = some (.slice p0a1 l0.arcs.length p0c1) ∧ W.cell? ⟨w.heap.size + 1, 0, none⟩ = some (.int .i64 l1.cls) ∧ W.cell? ⟨w.heap.size + 1, 1, none⟩ = some (.int .i64 l1.label) ∧ W.cell? ⟨w.heap.size + 1, 2, none⟩ = some (.slice p1a2 l1.first.length p1c2) ∧ W.cell? ⟨w.heap.size + 1, 3, none⟩ = some (.slice p1a3 l1.second.length p1c3) ∧ W.cell? ⟨w.heap.size + 1, 4, none⟩ = some (.slice p1a4 l1.ranks.length p1c4) ∧ W.cell? ⟨w8.heap.size, 0, none⟩ = some (.int .i64 l0.labels) ∧ W.cell? ⟨w8.heap.size, 1, none⟩ = some (.slice t8a1 l0.arcs.length t8c1) ∧ W.cell? ⟨w10.heap.size, 0, none⟩ = some (.int .i64 l1.cls) ∧ W.cell? ⟨w10.heap.size, 1, none⟩ = some (.int .i64 l1.label) ∧ W.cell? ⟨w10.heap.size, 2, none⟩ = some (.slice t10a2 l1.first.length t10c2) ∧ W.cell? ⟨w10.heap.size, 3, none⟩ = some (.slice t10a3 l1.second.length t10c3) ∧ W.cell? ⟨w10.heap.size, 4, none⟩ = some (.slice t10a4 l1.ranks.length t10c4)) (first | exact SK.out _ KD.out | exact SK.out _ (Keeps.trans KD.out KS15'.out) | exact SK.out _ (Keeps.trans KD.out (Keeps.trans KS15'.out KS16.out)))
    ((first
      | (go_at_call 25; refine (toWalkCertificate_any _ l1 _ (R1.out.keep (Keeps.trans K14.out KD.out)) s1).mono ?_; rintro e w15 ⟨tt, rfl, o15, k15⟩; obtain ⟨t15a2, t15c2, t15a3, t15c3, t15a4, t15c4, rfl⟩ := o15.rd.shape; have T15 := Lib.hid o15; have KS15' := Lib.hid k15; clear o15 k15)
      | (go_at_call 28; refine (eqWalkCertificate_same _ _ l1 _ ((T10_14.out.rd).keep (Keeps.trans KD.out KS15'.out)) T15.out.rd s1).mono ?_; rintro e w16 ⟨rfl, k16⟩; have KS16 := Lib.hid k16; clear k16)))
  have KS15 : Hid (Keeps w14 w15) := Keeps.trans KD.out KS15'.out
  have K15 : Hid (Keeps w w15) := Keeps.trans K14.out KS15.out
  have Z15 : Hid (w14.heap.size ≤ w15.heap.size) := KS15.out.size
  have T5_15 := Lib.hid (T5_14.out.keep KS15.out)
  clear T5_14
  have T6_15 := Lib.hid (T6_14.out.keep KS15.out)
  clear T6_14
  have T8_15 := Lib.hid (T8_14.out.keep KS15.out)
  clear T8_14
  have T10_15 := Lib.hid (T10_14.out.keep KS15.out)
  clear T10_14
  have c0_15 := cell_keep KS15.out c0_14
  clear c0_14
  have c1_15 := cell_keep KS15.out c1_14
  clear c1_14
  have c2_15 := cell_keep KS15.out c2_14
  clear c2_14
  have c3_15 := cell_keep KS15.out c3_14
  clear c3_14
  have c4_15 := cell_keep KS15.out c4_14
  clear c4_14
  have c5_15 := cell_keep KS15.out c5_14
  clear c5_14
  have c6_15 := cell_keep KS15.out c6_14
  clear c6_14
  have c7_15 := cell_keep KS15.out c7_14
  clear c7_14
  have c8_15 := cell_keep KS15.out c8_14
  clear c8_14
  have c9_15 := cell_keep KS15.out c9_14
  clear c9_14
  have c10_15 := cell_keep KS15.out c10_14
  clear c10_14
  have c11_15 := cell_keep KS15.out c11_14
  clear c11_14
  have c12_15 := cell_keep KS15.out c12_14
  clear c12_14
  have c13_15 := cell_keep KS15.out c13_14
  clear c13_14
  have K16 : Hid (Keeps w w16) := Keeps.trans K15.out KS16.out
  have Z16 : Hid (w15.heap.size ≤ w16.heap.size) := KS16.out.size
  have T5_16 := Lib.hid (T5_15.out.keep KS16.out)
  clear T5_15
  have T6_16 := Lib.hid (T6_15.out.keep KS16.out)
  clear T6_15
  have T8_16 := Lib.hid (T8_15.out.keep KS16.out)
  clear T8_15
  have T10_16 := Lib.hid (T10_15.out.keep KS16.out)
  clear T10_15
  have c0_16 := cell_keep KS16.out c0_15
  clear c0_15
  have c1_16 := cell_keep KS16.out c1_15
  clear c1_15
  have c2_16 := cell_keep KS16.out c2_15
  clear c2_15
  have c3_16 := cell_keep KS16.out c3_15
  clear c3_15
  have c4_16 := cell_keep KS16.out c4_15
  clear c4_15
  have c5_16 := cell_keep KS16.out c5_15
  clear c5_15
  have c6_16 := cell_keep KS16.out c6_15
  clear c6_15
  have c7_16 := cell_keep KS16.out c7_15
  clear c7_15
  have c8_16 := cell_keep KS16.out c8_15
  clear c8_15
  have c9_16 := cell_keep KS16.out c9_15
  clear c9_15
  have c10_16 := cell_keep KS16.out c10_15
  clear c10_15
  have c11_16 := cell_keep KS16.out c11_15
  clear c11_15
  have c12_16 := cell_keep KS16.out c12_15
  clear c12_15
  have c13_16 := cell_keep KS16.out c13_15
  clear c13_15
  clear SK KD
  go_wp2_with fail
  go_ret
  exact ⟨rfl, K16.out⟩

set_option maxHeartbeats 1600000 in
theorem lawCheckWalkCertificate (v0 : Value) (l0 : WP) (v1 : Value) (l1 : CE) (w : World) (r0 : RdW w v0 l0) (il0 : okW l0) (r1 : RdQ w v1 l1) (il1 : okQ l1) : Calls Try.prog 4 #[v0, v1] w fun e w' => e = .returned (.bool true) ∧ Below w.heap.size w w' := by
  by_cases q0 : szW l0 ≤ 1048576
  case neg =>
    have R0 := Lib.hid r0
    obtain ⟨p0a1, p0c1, rfl⟩ := r0.shape
    have R1 := Lib.hid r1
    obtain ⟨p1a2, p1c2, p1a3, p1c3, p1a4, p1c4, rfl⟩ := r1.shape
    clear r0 il0 r1 il1
    go_enter Try.func4, Try.ntmps4
    go_wp2_with fail
    refine (szWalkProblem_any _ l0 (1048576) _ (R0.out.keep (by repeat (first | exact Keeps.refl _ | with_reducible refine Keeps.alloc ?_ _))) (by omega) (by omega)).mono ?_
    rintro e W0 ⟨rfl, k0⟩
    rw [szL, if_neg (by omega)]
    have KK0 : Hid (Keeps w W0) := Keeps.trans (by repeat (first | exact Keeps.refl _ | with_reducible refine Keeps.alloc ?_ _)) k0
    obtain ⟨hc0, hf0⟩ := bcell k0
    have hz0 := k0.size
    clear k0
    go_wp2
    go_ret
    exact ⟨rfl, KK0.out⟩
  by_cases q1 : szW l0 + szQ l1 ≤ 1048576
  case neg =>
    have R0 := Lib.hid r0
    obtain ⟨p0a1, p0c1, rfl⟩ := r0.shape
    have R1 := Lib.hid r1
    obtain ⟨p1a2, p1c2, p1a3, p1c3, p1a4, p1c4, rfl⟩ := r1.shape
    clear r0 il0 r1 il1
    go_enter Try.func4, Try.ntmps4
    go_wp2_with fail
    refine (szWalkProblem_any _ l0 (1048576) _ (R0.out.keep (by repeat (first | exact Keeps.refl _ | with_reducible refine Keeps.alloc ?_ _))) (by omega) (by omega)).mono ?_
    rintro e W0 ⟨rfl, k0⟩
    rw [szL, if_pos (by omega)]
    have KK0 : Hid (Keeps w W0) := Keeps.trans (by repeat (first | exact Keeps.refl _ | with_reducible refine Keeps.alloc ?_ _)) k0
    obtain ⟨hc0, hf0⟩ := bcell k0
    have hz0 := k0.size
    clear k0
    go_wp2_with fail
    refine (szWalkCertificate_any _ l1 (1048576 - (szW l0 : Nat)) _ (R1.out.keep KK0.out) (by omega) (by omega)).mono ?_
    rintro e W1 ⟨rfl, k1⟩
    rw [szL, if_neg (by omega)]
    have KK1 : Hid (Keeps w W1) := Keeps.trans KK0.out k1
    obtain ⟨hc1, hf1⟩ := bcell k1
    have hz1 := k1.size
    clear k1
    go_wp2
    go_ret
    exact ⟨rfl, KK1.out⟩
  exact lawCheckWalkCertificate_small v0 l0 r0 il0 v1 l1 r1 il1 (by omega) (by omega) (by omega)
end Go.Proofs.Ytabclfacjaeblaa
