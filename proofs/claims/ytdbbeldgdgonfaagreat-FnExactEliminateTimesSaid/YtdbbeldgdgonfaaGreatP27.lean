/- Part 27 of what this claim rests on (EliminateTimesLaw, Wp, OpenW, OpenPq), packed by pack.py. -/
import Derived.Deep.RegionHeld3
import Derived.Deep.Matrix
import Derived.Lib.SmallJoins
import Derived.Test.YtdbbeldgdgonfaaGreatP24
import Derived.Test.YtdbbeldgdgonfaaGreatP26
namespace Go.Proofs.YtdbbeldgdgonfaaGreat
set_option linter.unusedSimpArgs false
set_option linter.unusedVariables false

section
open Go.RowKit
set_option maxRecDepth 100000 in
set_option maxHeartbeats 8000000 in
theorem lawEliminateTimes_small {w : World} (v0 : Value) (l0 : PR) (r0 : RdP w v0 l0) (il0 : okP l0) (a1 : Int) (ia1 : I64 a1) (s0 : szP l0 ≤ 1048576) : Calls Tryz.prog 4 #[v0, .int .i64 a1] w fun e w' => e = .returned (.bool true) ∧ Below w.heap.size w w' := by
 have HE := Lib.hid (hv_ l0 a1 il0 s0 ia1)
 have R0 := Lib.hid r0
 have IL0 := Lib.hid il0
 obtain ⟨p0a2, p0c2, p0a3, p0c3, rfl⟩ := r0.shape
 clear r0 il0
 have K0 : Hid (Keeps w w) := Keeps.refl w
 go_enter Tryz.func4, Tryz.ntmps4
 go_wp2_with fail
 have KS1 : Hid (Keeps w (w.alloc (.cells #[.int .i64 l0.labels, .int .i64 l0.degree, .slice p0a2 l0.nodes.length p0c2, .slice p0a3 l0.edges.length p0c3] 24))) := (Keeps.refl _).alloc _
 have Z1' : Hid (w.heap.size + 1 ≤ (w.alloc (.cells #[.int .i64 l0.labels, .int .i64 l0.degree, .slice p0a2 l0.nodes.length p0c2, .slice p0a3 l0.edges.length p0c3] 24)).heap.size) := by show _ ≤ _; simp
 have E1 : (w.alloc (.cells #[.int .i64 l0.labels, .int .i64 l0.degree, .slice p0a2 l0.nodes.length p0c2, .slice p0a3 l0.edges.length p0c3] 24)).heap.size = w.heap.size + 1 := by rw [World.size_alloc]
 have c0_1 : (w.alloc (.cells #[.int .i64 l0.labels, .int .i64 l0.degree, .slice p0a2 l0.nodes.length p0c2, .slice p0a3 l0.edges.length p0c3] 24)).cell? ⟨w.heap.size, 0, none⟩ = some (.int .i64 l0.labels) := by rw [World.cell?_alloc_at _ _ _ _ rfl]; rfl
 have c1_1 : (w.alloc (.cells #[.int .i64 l0.labels, .int .i64 l0.degree, .slice p0a2 l0.nodes.length p0c2, .slice p0a3 l0.edges.length p0c3] 24)).cell? ⟨w.heap.size, 1, none⟩ = some (.int .i64 l0.degree) := by rw [World.cell?_alloc_at _ _ _ _ rfl]; rfl
 have c2_1 : (w.alloc (.cells #[.int .i64 l0.labels, .int .i64 l0.degree, .slice p0a2 l0.nodes.length p0c2, .slice p0a3 l0.edges.length p0c3] 24)).cell? ⟨w.heap.size, 2, none⟩ = some (.slice p0a2 l0.nodes.length p0c2) := by rw [World.cell?_alloc_at _ _ _ _ rfl]; rfl
 have c3_1 : (w.alloc (.cells #[.int .i64 l0.labels, .int .i64 l0.degree, .slice p0a2 l0.nodes.length p0c2, .slice p0a3 l0.edges.length p0c3] 24)).cell? ⟨w.heap.size, 3, none⟩ = some (.slice p0a3 l0.edges.length p0c3) := by rw [World.cell?_alloc_at _ _ _ _ rfl]; rfl
 generalize w.alloc (.cells #[.int .i64 l0.labels, .int .i64 l0.degree, .slice p0a2 l0.nodes.length p0c2, .slice p0a3 l0.edges.length p0c3] 24) = w1 at KS1 Z1' E1 c0_1 c1_1 c2_1 c3_1 ⊢
 have K1 : Hid (Keeps w w1) := Keeps.trans K0.out KS1.out
 have Z1 : Hid (w.heap.size ≤ w1.heap.size) := KS1.out.size
 clear E1
 refine (gX_ _ l0 1048576 _ (R0.out.keep K1.out) (by omega) (by omega)).mono ?_
 rintro e w2 ⟨rfl, k2⟩
 rw [szL, if_pos (by omega)]
 have KS2 : Hid (Keeps w1 w2) := k2
 clear k2
 have K2 : Hid (Keeps w w2) := Keeps.trans K1.out KS2.out
 have Z2 : Hid (w1.heap.size ≤ w2.heap.size) := KS2.out.size
 have c0_2 := l_ KS2.out c0_1
 clear c0_1
 have c1_2 := l_ KS2.out c1_1
 clear c1_1
 have c2_2 := l_ KS2.out c2_1
 clear c2_1
 have c3_2 := l_ KS2.out c3_1
 clear c3_1
 go_wp2_with fail
 refine (ep_ _ l0 _ (R0.out.keep K2.out) s0).mono ?_
 rintro e w3 ⟨t3, rfl, o3, k3⟩
 obtain ⟨t3a2, t3c2, t3a3, t3c3, rfl⟩ := o3.rd.shape
 have T3 := Lib.hid o3
 clear o3
 have KS3 : Hid (Keeps w2 w3) := k3
 clear k3
 have K3 : Hid (Keeps w w3) := Keeps.trans K2.out KS3.out
 have Z3 : Hid (w2.heap.size ≤ w3.heap.size) := KS3.out.size
 have c0_3 := l_ KS3.out c0_2
 clear c0_2
 have c1_3 := l_ KS3.out c1_2
 clear c1_2
 have c2_3 := l_ KS3.out c2_2
 clear c2_2
 have c3_3 := l_ KS3.out c3_2
 clear c3_2
 go_wp2_with fail
 refine (fR_ (.agg #[.int .i64 l0.labels, .int .i64 l0.degree, .slice t3a2 l0.nodes.length t3c2, .slice t3a3 l0.edges.length t3c3]) l0 a1 _ (T3.out.rd) IL0.out s0 ia1).mono ?_
 rintro e w4 ⟨x4, rfl, o4, b4, k4⟩
 generalize fEliminateTimesSpec l0 a1 = R at *
 generalize hL : R.getD [] = L at *
 have HL := Lib.hid hL
 clear hL
 have BL : szQ L ≤ 10000000000000 := b4
 have BC := pP_ L L.length
 have T4 := Lib.hid o4
 clear o4 b4
 have KS4 : Hid (Keeps w3 w4) := k4
 clear k4
 have K4 : Hid (Keeps w w4) := Keeps.trans K3.out KS4.out
 have Z4 : Hid (w3.heap.size ≤ w4.heap.size) := KS4.out.size
 have T3_4 := Lib.hid (T3.out.keep KS4.out)
 clear T3
 have c0_4 := l_ KS4.out c0_3
 clear c0_3
 have c1_4 := l_ KS4.out c1_3
 clear c1_3
 have c2_4 := l_ KS4.out c2_3
 clear c2_3
 have c3_4 := l_ KS4.out c3_3
 clear c3_3
 go_wp2_with fail
 refine (ep_ _ l0 _ (R0.out.keep K4.out) s0).mono ?_
 rintro e w5 ⟨t5, rfl, o5, k5⟩
 obtain ⟨t5a2, t5c2, t5a3, t5c3, rfl⟩ := o5.rd.shape
 have T5 := Lib.hid o5
 clear o5
 have KS5 : Hid (Keeps w4 w5) := k5
 clear k5
 have K5 : Hid (Keeps w w5) := Keeps.trans K4.out KS5.out
 have Z5 : Hid (w4.heap.size ≤ w5.heap.size) := KS5.out.size
 have T3_5 := Lib.hid (T3_4.out.keep KS5.out)
 clear T3_4
 have T4_5 := Lib.hid (T4.out.keep KS5.out)
 clear T4
 have c0_5 := l_ KS5.out c0_4
 clear c0_4
 have c1_5 := l_ KS5.out c1_4
 clear c1_4
 have c2_5 := l_ KS5.out c2_4
 clear c2_4
 have c3_5 := l_ KS5.out c3_4
 clear c3_4
 have pre1 : (w5.alloc (.cells #[.int .i64 l0.labels, .int .i64 l0.degree, .slice t5a2 l0.nodes.length t5c2, .slice t5a3 l0.edges.length t5c3] 28)).cell? ⟨w.heap.size, 0, none⟩ = some (.int .i64 l0.labels) := l_ ((Keeps.refl _).alloc _) c0_5
 have pre2 : (w5.alloc (.cells #[.int .i64 l0.labels, .int .i64 l0.degree, .slice t5a2 l0.nodes.length t5c2, .slice t5a3 l0.edges.length t5c3] 28)).cell? ⟨w.heap.size, 1, none⟩ = some (.int .i64 l0.degree) := l_ ((Keeps.refl _).alloc _) c1_5
 have pre3 : (w5.alloc (.cells #[.int .i64 l0.labels, .int .i64 l0.degree, .slice t5a2 l0.nodes.length t5c2, .slice t5a3 l0.edges.length t5c3] 28)).cell? ⟨w.heap.size, 2, none⟩ = some (.slice p0a2 l0.nodes.length p0c2) := l_ ((Keeps.refl _).alloc _) c2_5
 have pre4 : (w5.alloc (.cells #[.int .i64 l0.labels, .int .i64 l0.degree, .slice t5a2 l0.nodes.length t5c2, .slice t5a3 l0.edges.length t5c3] 28)).cell? ⟨w.heap.size, 3, none⟩ = some (.slice p0a3 l0.edges.length p0c3) := l_ ((Keeps.refl _).alloc _) c3_5
 go_wp2_with fail
 clear pre1 pre2 pre3 pre4
 have KS6 : Hid (Keeps w5 (w5.alloc (.cells #[.int .i64 l0.labels, .int .i64 l0.degree, .slice t5a2 l0.nodes.length t5c2, .slice t5a3 l0.edges.length t5c3] 28))) := (Keeps.refl _).alloc _
 have Z6' : Hid (w5.heap.size + 1 ≤ (w5.alloc (.cells #[.int .i64 l0.labels, .int .i64 l0.degree, .slice t5a2 l0.nodes.length t5c2, .slice t5a3 l0.edges.length t5c3] 28)).heap.size) := by show _ ≤ _; simp
 have E6 : (w5.alloc (.cells #[.int .i64 l0.labels, .int .i64 l0.degree, .slice t5a2 l0.nodes.length t5c2, .slice t5a3 l0.edges.length t5c3] 28)).heap.size = w5.heap.size + 1 := by rw [World.size_alloc]
 have c4_6 : (w5.alloc (.cells #[.int .i64 l0.labels, .int .i64 l0.degree, .slice t5a2 l0.nodes.length t5c2, .slice t5a3 l0.edges.length t5c3] 28)).cell? ⟨w5.heap.size, 0, none⟩ = some (.int .i64 l0.labels) := by rw [World.cell?_alloc_at _ _ _ _ rfl]; rfl
 have c5_6 : (w5.alloc (.cells #[.int .i64 l0.labels, .int .i64 l0.degree, .slice t5a2 l0.nodes.length t5c2, .slice t5a3 l0.edges.length t5c3] 28)).cell? ⟨w5.heap.size, 1, none⟩ = some (.int .i64 l0.degree) := by rw [World.cell?_alloc_at _ _ _ _ rfl]; rfl
 have c6_6 : (w5.alloc (.cells #[.int .i64 l0.labels, .int .i64 l0.degree, .slice t5a2 l0.nodes.length t5c2, .slice t5a3 l0.edges.length t5c3] 28)).cell? ⟨w5.heap.size, 2, none⟩ = some (.slice t5a2 l0.nodes.length t5c2) := by rw [World.cell?_alloc_at _ _ _ _ rfl]; rfl
 have c7_6 : (w5.alloc (.cells #[.int .i64 l0.labels, .int .i64 l0.degree, .slice t5a2 l0.nodes.length t5c2, .slice t5a3 l0.edges.length t5c3] 28)).cell? ⟨w5.heap.size, 3, none⟩ = some (.slice t5a3 l0.edges.length t5c3) := by rw [World.cell?_alloc_at _ _ _ _ rfl]; rfl
 generalize w5.alloc (.cells #[.int .i64 l0.labels, .int .i64 l0.degree, .slice t5a2 l0.nodes.length t5c2, .slice t5a3 l0.edges.length t5c3] 28) = w6 at KS6 Z6' E6 c4_6 c5_6 c6_6 c7_6 ⊢
 have K6 : Hid (Keeps w w6) := Keeps.trans K5.out KS6.out
 have Z6 : Hid (w5.heap.size ≤ w6.heap.size) := KS6.out.size
 have T3_6 := Lib.hid (T3_5.out.keep KS6.out)
 clear T3_5
 have T4_6 := Lib.hid (T4_5.out.keep KS6.out)
 clear T4_5
 have T5_6 := Lib.hid (T5.out.keep KS6.out)
 clear T5
 have c0_6 := l_ KS6.out c0_5
 clear c0_5
 have c1_6 := l_ KS6.out c1_5
 clear c1_5
 have c2_6 := l_ KS6.out c2_5
 clear c2_5
 have c3_6 := l_ KS6.out c3_5
 clear c3_5
 clear E6
 refine (dH_ (.agg #[.int .i64 l0.labels, .int .i64 l0.degree, .slice t5a2 l0.nodes.length t5c2, .slice t5a3 l0.edges.length t5c3]) l0 a1 _ (T5_6.out.rd) IL0.out s0 ia1).mono ?_
 rw [HE.out]
 rintro e w7 ⟨x7, rfl, o7, b7, k7⟩
 rw [HL.out] at o7
 have T7 := Lib.hid o7
 clear o7 b7
 have KS7 : Hid (Keeps w6 w7) := k7
 clear k7
 have K7 : Hid (Keeps w w7) := Keeps.trans K6.out KS7.out
 have Z7 : Hid (w6.heap.size ≤ w7.heap.size) := KS7.out.size
 have T3_7 := Lib.hid (T3_6.out.keep KS7.out)
 clear T3_6
 have T4_7 := Lib.hid (T4_6.out.keep KS7.out)
 clear T4_6
 have T5_7 := Lib.hid (T5_6.out.keep KS7.out)
 clear T5_6
 have c0_7 := l_ KS7.out c0_6
 clear c0_6
 have c1_7 := l_ KS7.out c1_6
 clear c1_6
 have c2_7 := l_ KS7.out c2_6
 clear c2_6
 have c3_7 := l_ KS7.out c3_6
 clear c3_6
 have c4_7 := l_ KS7.out c4_6
 clear c4_6
 have c5_7 := l_ KS7.out c5_6
 clear c5_6
 have c6_7 := l_ KS7.out c6_6
 clear c6_6
 have c7_7 := l_ KS7.out c7_6
 clear c7_6
 go_wp2_with fail
 refine (eH_ _ _ L _ (T7.out.rd) (T4_7.out.rd) BL).mono ?_
 rintro e w8 ⟨rfl, k8⟩
 have KS8 : Hid (Keeps w7 w8) := k8
 clear k8
 have K8 : Hid (Keeps w w8) := Keeps.trans K7.out KS8.out
 have Z8 : Hid (w7.heap.size ≤ w8.heap.size) := KS8.out.size
 have T3_8 := Lib.hid (T3_7.out.keep KS8.out)
 clear T3_7
 have T4_8 := Lib.hid (T4_7.out.keep KS8.out)
 clear T4_7
 have T5_8 := Lib.hid (T5_7.out.keep KS8.out)
 clear T5_7
 have T7_8 := Lib.hid (T7.out.keep KS8.out)
 clear T7
 have c0_8 := l_ KS8.out c0_7
 clear c0_7
 have c1_8 := l_ KS8.out c1_7
 clear c1_7
 have c2_8 := l_ KS8.out c2_7
 clear c2_7
 have c3_8 := l_ KS8.out c3_7
 clear c3_7
 have c4_8 := l_ KS8.out c4_7
 clear c4_7
 have c5_8 := l_ KS8.out c5_7
 clear c5_7
 have c6_8 := l_ KS8.out c6_7
 clear c6_7
 have c7_8 := l_ KS8.out c7_7
 clear c7_7
 go_wp2_with fail
 have SK : Hid (∀ W : World, Keeps w8 W → W.cell? ⟨w.heap.size, 0, none⟩ = some (.int .i64 l0.labels) ∧ W.cell? ⟨w.heap.size, 1, none⟩ = some (.int .i64 l0.degree) ∧ W.cell? ⟨w.heap.size, 2, none⟩ = some (.slice p0a2 l0.nodes.length p0c2) ∧ W.cell? ⟨w.heap.size, 3, none⟩ = some (.slice p0a3 l0.edges.length p0c3) ∧ W.cell? ⟨w5.heap.size, 0, none⟩ = some (.int .i64 l0.labels) ∧ W.cell? ⟨w5.heap.size, 1, none⟩ = some (.int .i64 l0.degree) ∧ W.cell? ⟨w5.heap.size, 2, none⟩ = some (.slice t5a2 l0.nodes.length t5c2) ∧ W.cell? ⟨w5.heap.size, 3, none⟩ = some (.slice t5a3 l0.edges.length t5c3)) := fun W k => ⟨l_ k c0_8, l_ k c1_8, l_ k c2_8, l_ k c3_8, l_ k c4_8, l_ k c5_8, l_ k c6_8, l_ k c7_8⟩
 have KD : Hid (Keeps w8 w8.drew) := (Keeps.refl _).drew
 go_region_held3 (fun W => W.cell? ⟨w.heap.size, 0, none⟩ = some (.int .i64 l0.labels) ∧ W.cell? ⟨w.heap.size, 1, none⟩ = some (.int .i64 l0.degree) ∧ W.cell? ⟨w.heap.size, 2, none⟩ = some (.slice p0a2 l0.nodes.length p0c2) ∧ W.cell? ⟨w.heap.size, 3, none⟩ = some (.slice p0a3 l0.edges.length p0c3) ∧ W.cell? ⟨w5.heap.size, 0, none⟩ = some (.int .i64 l0.labels) ∧ W.cell? ⟨w5.heap.size, 1, none⟩ = some (.int .i64 l0.degree) ∧ W.cell? ⟨w5.heap.size, 2, none⟩ = some (.slice t5a2 l0.nodes.length t5c2) ∧ W.cell? ⟨w5.heap.size, 3, none⟩ = some (.slice t5a3 l0.edges.length t5c3)) (first | exact SK.out _ KD.out | exact SK.out _ (Keeps.trans KD.out KS9'.out) | exact SK.out _ (Keeps.trans KD.out (Keeps.trans KS9'.out KS10.out)))
  ((first
   | (go_at_call 11; refine (ep_ _ l0 _ (R0.out.keep (Keeps.trans K8.out KD.out)) s0).mono ?_; rintro e w9 ⟨tt, rfl, o9, k9⟩; obtain ⟨t9a2, t9c2, t9a3, t9c3, rfl⟩ := o9.rd.shape; have T9 := Lib.hid o9; have KS9' := Lib.hid k9; clear o9 k9)
   | (go_at_call 13; refine (jA_ _ _ l0 _ ((T5_8.out.rd).keep (Keeps.trans KD.out KS9'.out)) T9.out.rd).mono ?_; rintro e w10 ⟨rfl, k10⟩; have KS10 := Lib.hid k10; clear k10)))
 have KS9 : Hid (Keeps w8 w9) := Keeps.trans KD.out KS9'.out
 have K9 : Hid (Keeps w w9) := Keeps.trans K8.out KS9.out
 have Z9 : Hid (w8.heap.size ≤ w9.heap.size) := KS9.out.size
 have T3_9 := Lib.hid (T3_8.out.keep KS9.out)
 clear T3_8
 have T4_9 := Lib.hid (T4_8.out.keep KS9.out)
 clear T4_8
 have T5_9 := Lib.hid (T5_8.out.keep KS9.out)
 clear T5_8
 have T7_9 := Lib.hid (T7_8.out.keep KS9.out)
 clear T7_8
 have c0_9 := l_ KS9.out c0_8
 clear c0_8
 have c1_9 := l_ KS9.out c1_8
 clear c1_8
 have c2_9 := l_ KS9.out c2_8
 clear c2_8
 have c3_9 := l_ KS9.out c3_8
 clear c3_8
 have c4_9 := l_ KS9.out c4_8
 clear c4_8
 have c5_9 := l_ KS9.out c5_8
 clear c5_8
 have c6_9 := l_ KS9.out c6_8
 clear c6_8
 have c7_9 := l_ KS9.out c7_8
 clear c7_8
 have K10 : Hid (Keeps w w10) := Keeps.trans K9.out KS10.out
 have Z10 : Hid (w9.heap.size ≤ w10.heap.size) := KS10.out.size
 have T3_10 := Lib.hid (T3_9.out.keep KS10.out)
 clear T3_9
 have T4_10 := Lib.hid (T4_9.out.keep KS10.out)
 clear T4_9
 have T5_10 := Lib.hid (T5_9.out.keep KS10.out)
 clear T5_9
 have T7_10 := Lib.hid (T7_9.out.keep KS10.out)
 clear T7_9
 have c0_10 := l_ KS10.out c0_9
 clear c0_9
 have c1_10 := l_ KS10.out c1_9
 clear c1_9
 have c2_10 := l_ KS10.out c2_9
 clear c2_9
 have c3_10 := l_ KS10.out c3_9
 clear c3_9
 have c4_10 := l_ KS10.out c4_9
 clear c4_9
 have c5_10 := l_ KS10.out c5_9
 clear c5_9
 have c6_10 := l_ KS10.out c6_9
 clear c6_9
 have c7_10 := l_ KS10.out c7_9
 clear c7_9
 clear SK KD
 go_wp2_with fail
 have CL11 := rF_ l0
 refine (iX_ w4.heap.size w5.heap.size _ l0 1 _ T5_10.out (by have := Z1.out; have := Z2.out; have := Z3.out; have := Z4.out; have := Z5.out; have := Z6.out; have := Z7.out; have := Z8.out; have := Z9.out; have := Z10.out; omega) (by omega) (by omega)).mono ?_
 rintro e w11 ⟨rfl, o11, g11⟩
 have G11 : Hid (Chg w4.heap.size w5.heap.size w10 w11) := g11
 have T5_11 := Lib.hid o11
 clear o11 g11 T5_10
 have Z11 : Hid (w10.heap.size ≤ w11.heap.size) := G11.out.size
 have K11 : Hid (Keeps w w11) := G11.out.keeps K10.out (by have := Z1.out; have := Z2.out; have := Z3.out; have := Z4.out; have := Z5.out; have := Z6.out; have := Z7.out; have := Z8.out; have := Z9.out; have := Z10.out; have := Z11.out; omega)
 have T3_11 := Lib.hid (T3_10.out.chg G11.out (by have := Z1.out; have := Z2.out; have := Z3.out; have := Z4.out; have := Z5.out; have := Z6.out; have := Z7.out; have := Z8.out; have := Z9.out; have := Z10.out; have := Z11.out; omega))
 clear T3_10
 have T4_11 := Lib.hid (T4_10.out.chg G11.out (by have := Z1.out; have := Z2.out; have := Z3.out; have := Z4.out; have := Z5.out; have := Z6.out; have := Z7.out; have := Z8.out; have := Z9.out; have := Z10.out; have := Z11.out; omega))
 clear T4_10
 have T7_11 := Lib.hid (T7_10.out.chg G11.out (by have := Z1.out; have := Z2.out; have := Z3.out; have := Z4.out; have := Z5.out; have := Z6.out; have := Z7.out; have := Z8.out; have := Z9.out; have := Z10.out; have := Z11.out; omega))
 clear T7_10
 have c0_11 := (World.cell?_of_block (a := ⟨w.heap.size, 0, none⟩) (G11.out.block (w.heap.size) (by have := Z1.out; have := Z2.out; have := Z3.out; have := Z4.out; have := Z5.out; have := Z6.out; have := Z7.out; have := Z8.out; have := Z9.out; have := Z10.out; have := Z11.out; have := Z1'.out; (try simp only); omega) (by have := Z1.out; have := Z2.out; have := Z3.out; have := Z4.out; have := Z5.out; have := Z6.out; have := Z7.out; have := Z8.out; have := Z9.out; have := Z10.out; have := Z11.out; have := Z1'.out; (try simp only); omega))).trans c0_10
 clear c0_10
 have c1_11 := (World.cell?_of_block (a := ⟨w.heap.size, 1, none⟩) (G11.out.block (w.heap.size) (by have := Z1.out; have := Z2.out; have := Z3.out; have := Z4.out; have := Z5.out; have := Z6.out; have := Z7.out; have := Z8.out; have := Z9.out; have := Z10.out; have := Z11.out; have := Z1'.out; (try simp only); omega) (by have := Z1.out; have := Z2.out; have := Z3.out; have := Z4.out; have := Z5.out; have := Z6.out; have := Z7.out; have := Z8.out; have := Z9.out; have := Z10.out; have := Z11.out; have := Z1'.out; (try simp only); omega))).trans c1_10
 clear c1_10
 have c2_11 := (World.cell?_of_block (a := ⟨w.heap.size, 2, none⟩) (G11.out.block (w.heap.size) (by have := Z1.out; have := Z2.out; have := Z3.out; have := Z4.out; have := Z5.out; have := Z6.out; have := Z7.out; have := Z8.out; have := Z9.out; have := Z10.out; have := Z11.out; have := Z1'.out; (try simp only); omega) (by have := Z1.out; have := Z2.out; have := Z3.out; have := Z4.out; have := Z5.out; have := Z6.out; have := Z7.out; have := Z8.out; have := Z9.out; have := Z10.out; have := Z11.out; have := Z1'.out; (try simp only); omega))).trans c2_10
 clear c2_10
 have c3_11 := (World.cell?_of_block (a := ⟨w.heap.size, 3, none⟩) (G11.out.block (w.heap.size) (by have := Z1.out; have := Z2.out; have := Z3.out; have := Z4.out; have := Z5.out; have := Z6.out; have := Z7.out; have := Z8.out; have := Z9.out; have := Z10.out; have := Z11.out; have := Z1'.out; (try simp only); omega) (by have := Z1.out; have := Z2.out; have := Z3.out; have := Z4.out; have := Z5.out; have := Z6.out; have := Z7.out; have := Z8.out; have := Z9.out; have := Z10.out; have := Z11.out; have := Z1'.out; (try simp only); omega))).trans c3_10
 clear c3_10
 have c4_11 := (World.cell?_of_block (a := ⟨w5.heap.size, 0, none⟩) (G11.out.block (w5.heap.size) (by have := Z1.out; have := Z2.out; have := Z3.out; have := Z4.out; have := Z5.out; have := Z6.out; have := Z7.out; have := Z8.out; have := Z9.out; have := Z10.out; have := Z11.out; have := Z6'.out; (try simp only); omega) (by have := Z1.out; have := Z2.out; have := Z3.out; have := Z4.out; have := Z5.out; have := Z6.out; have := Z7.out; have := Z8.out; have := Z9.out; have := Z10.out; have := Z11.out; have := Z6'.out; (try simp only); omega))).trans c4_10
 clear c4_10
 have c5_11 := (World.cell?_of_block (a := ⟨w5.heap.size, 1, none⟩) (G11.out.block (w5.heap.size) (by have := Z1.out; have := Z2.out; have := Z3.out; have := Z4.out; have := Z5.out; have := Z6.out; have := Z7.out; have := Z8.out; have := Z9.out; have := Z10.out; have := Z11.out; have := Z6'.out; (try simp only); omega) (by have := Z1.out; have := Z2.out; have := Z3.out; have := Z4.out; have := Z5.out; have := Z6.out; have := Z7.out; have := Z8.out; have := Z9.out; have := Z10.out; have := Z11.out; have := Z6'.out; (try simp only); omega))).trans c5_10
 clear c5_10
 have c6_11 := (World.cell?_of_block (a := ⟨w5.heap.size, 2, none⟩) (G11.out.block (w5.heap.size) (by have := Z1.out; have := Z2.out; have := Z3.out; have := Z4.out; have := Z5.out; have := Z6.out; have := Z7.out; have := Z8.out; have := Z9.out; have := Z10.out; have := Z11.out; have := Z6'.out; (try simp only); omega) (by have := Z1.out; have := Z2.out; have := Z3.out; have := Z4.out; have := Z5.out; have := Z6.out; have := Z7.out; have := Z8.out; have := Z9.out; have := Z10.out; have := Z11.out; have := Z6'.out; (try simp only); omega))).trans c6_10
 clear c6_10
 have c7_11 := (World.cell?_of_block (a := ⟨w5.heap.size, 3, none⟩) (G11.out.block (w5.heap.size) (by have := Z1.out; have := Z2.out; have := Z3.out; have := Z4.out; have := Z5.out; have := Z6.out; have := Z7.out; have := Z8.out; have := Z9.out; have := Z10.out; have := Z11.out; have := Z6'.out; (try simp only); omega) (by have := Z1.out; have := Z2.out; have := Z3.out; have := Z4.out; have := Z5.out; have := Z6.out; have := Z7.out; have := Z8.out; have := Z9.out; have := Z10.out; have := Z11.out; have := Z6'.out; (try simp only); omega))).trans c7_10
 clear c7_10
 go_wp2_with fail
 refine (eH_ _ _ L _ (T7_11.out.rd) (T4_11.out.rd) BL).mono ?_
 rintro e w12 ⟨rfl, k12⟩
 have KS12 : Hid (Keeps w11 w12) := k12
 clear k12
 have K12 : Hid (Keeps w w12) := Keeps.trans K11.out KS12.out
 have Z12 : Hid (w11.heap.size ≤ w12.heap.size) := KS12.out.size
 have T3_12 := Lib.hid (T3_11.out.keep KS12.out)
 clear T3_11
 have T4_12 := Lib.hid (T4_11.out.keep KS12.out)
 clear T4_11
 have T5_12 := Lib.hid (T5_11.out.keep KS12.out)
 clear T5_11
 have T7_12 := Lib.hid (T7_11.out.keep KS12.out)
 clear T7_11
 have c0_12 := l_ KS12.out c0_11
 clear c0_11
 have c1_12 := l_ KS12.out c1_11
 clear c1_11
 have c2_12 := l_ KS12.out c2_11
 clear c2_11
 have c3_12 := l_ KS12.out c3_11
 clear c3_11
 have c4_12 := l_ KS12.out c4_11
 clear c4_11
 have c5_12 := l_ KS12.out c5_11
 clear c5_11
 have c6_12 := l_ KS12.out c6_11
 clear c6_11
 have c7_12 := l_ KS12.out c7_11
 clear c7_11
 go_wp2_with fail
 refine (ic_ w6.heap.size w7.heap.size x7 L 1 _ T7_12.out (by omega) (by omega)).mono ?_
 rintro e w13 ⟨rfl, o13, g13⟩
 have G13 : Hid (Chg w6.heap.size w7.heap.size w12 w13) := g13
 have T7_13 := Lib.hid o13
 clear o13 g13 T7_12
 have Z13 : Hid (w12.heap.size ≤ w13.heap.size) := G13.out.size
 have K13 : Hid (Keeps w w13) := G13.out.keeps K12.out (by have := Z1.out; have := Z2.out; have := Z3.out; have := Z4.out; have := Z5.out; have := Z6.out; have := Z7.out; have := Z8.out; have := Z9.out; have := Z10.out; have := Z11.out; have := Z12.out; have := Z13.out; omega)
 have T3_13 := Lib.hid (T3_12.out.chg G13.out (by have := Z1.out; have := Z2.out; have := Z3.out; have := Z4.out; have := Z5.out; have := Z6.out; have := Z7.out; have := Z8.out; have := Z9.out; have := Z10.out; have := Z11.out; have := Z12.out; have := Z13.out; omega))
 clear T3_12
 have T4_13 := Lib.hid (T4_12.out.chg G13.out (by have := Z1.out; have := Z2.out; have := Z3.out; have := Z4.out; have := Z5.out; have := Z6.out; have := Z7.out; have := Z8.out; have := Z9.out; have := Z10.out; have := Z11.out; have := Z12.out; have := Z13.out; omega))
 clear T4_12
 have T5_13 := Lib.hid (T5_12.out.chg G13.out (by have := Z1.out; have := Z2.out; have := Z3.out; have := Z4.out; have := Z5.out; have := Z6.out; have := Z7.out; have := Z8.out; have := Z9.out; have := Z10.out; have := Z11.out; have := Z12.out; have := Z13.out; omega))
 clear T5_12
 have c0_13 := (World.cell?_of_block (a := ⟨w.heap.size, 0, none⟩) (G13.out.block (w.heap.size) (by have := Z1.out; have := Z2.out; have := Z3.out; have := Z4.out; have := Z5.out; have := Z6.out; have := Z7.out; have := Z8.out; have := Z9.out; have := Z10.out; have := Z11.out; have := Z12.out; have := Z13.out; have := Z1'.out; (try simp only); omega) (by have := Z1.out; have := Z2.out; have := Z3.out; have := Z4.out; have := Z5.out; have := Z6.out; have := Z7.out; have := Z8.out; have := Z9.out; have := Z10.out; have := Z11.out; have := Z12.out; have := Z13.out; have := Z1'.out; (try simp only); omega))).trans c0_12
 clear c0_12
 have c1_13 := (World.cell?_of_block (a := ⟨w.heap.size, 1, none⟩) (G13.out.block (w.heap.size) (by have := Z1.out; have := Z2.out; have := Z3.out; have := Z4.out; have := Z5.out; have := Z6.out; have := Z7.out; have := Z8.out; have := Z9.out; have := Z10.out; have := Z11.out; have := Z12.out; have := Z13.out; have := Z1'.out; (try simp only); omega) (by have := Z1.out; have := Z2.out; have := Z3.out; have := Z4.out; have := Z5.out; have := Z6.out; have := Z7.out; have := Z8.out; have := Z9.out; have := Z10.out; have := Z11.out; have := Z12.out; have := Z13.out; have := Z1'.out; (try simp only); omega))).trans c1_12
 clear c1_12
 have c2_13 := (World.cell?_of_block (a := ⟨w.heap.size, 2, none⟩) (G13.out.block (w.heap.size) (by have := Z1.out; have := Z2.out; have := Z3.out; have := Z4.out; have := Z5.out; have := Z6.out; have := Z7.out; have := Z8.out; have := Z9.out; have := Z10.out; have := Z11.out; have := Z12.out; have := Z13.out; have := Z1'.out; (try simp only); omega) (by have := Z1.out; have := Z2.out; have := Z3.out; have := Z4.out; have := Z5.out; have := Z6.out; have := Z7.out; have := Z8.out; have := Z9.out; have := Z10.out; have := Z11.out; have := Z12.out; have := Z13.out; have := Z1'.out; (try simp only); omega))).trans c2_12
 clear c2_12
 have c3_13 := (World.cell?_of_block (a := ⟨w.heap.size, 3, none⟩) (G13.out.block (w.heap.size) (by have := Z1.out; have := Z2.out; have := Z3.out; have := Z4.out; have := Z5.out; have := Z6.out; have := Z7.out; have := Z8.out; have := Z9.out; have := Z10.out; have := Z11.out; have := Z12.out; have := Z13.out; have := Z1'.out; (try simp only); omega) (by have := Z1.out; have := Z2.out; have := Z3.out; have := Z4.out; have := Z5.out; have := Z6.out; have := Z7.out; have := Z8.out; have := Z9.out; have := Z10.out; have := Z11.out; have := Z12.out; have := Z13.out; have := Z1'.out; (try simp only); omega))).trans c3_12
 clear c3_12
 have c4_13 := (World.cell?_of_block (a := ⟨w5.heap.size, 0, none⟩) (G13.out.block (w5.heap.size) (by have := Z1.out; have := Z2.out; have := Z3.out; have := Z4.out; have := Z5.out; have := Z6.out; have := Z7.out; have := Z8.out; have := Z9.out; have := Z10.out; have := Z11.out; have := Z12.out; have := Z13.out; have := Z6'.out; (try simp only); omega) (by have := Z1.out; have := Z2.out; have := Z3.out; have := Z4.out; have := Z5.out; have := Z6.out; have := Z7.out; have := Z8.out; have := Z9.out; have := Z10.out; have := Z11.out; have := Z12.out; have := Z13.out; have := Z6'.out; (try simp only); omega))).trans c4_12
 clear c4_12
 have c5_13 := (World.cell?_of_block (a := ⟨w5.heap.size, 1, none⟩) (G13.out.block (w5.heap.size) (by have := Z1.out; have := Z2.out; have := Z3.out; have := Z4.out; have := Z5.out; have := Z6.out; have := Z7.out; have := Z8.out; have := Z9.out; have := Z10.out; have := Z11.out; have := Z12.out; have := Z13.out; have := Z6'.out; (try simp only); omega) (by have := Z1.out; have := Z2.out; have := Z3.out; have := Z4.out; have := Z5.out; have := Z6.out; have := Z7.out; have := Z8.out; have := Z9.out; have := Z10.out; have := Z11.out; have := Z12.out; have := Z13.out; have := Z6'.out; (try simp only); omega))).trans c5_12
 clear c5_12
 have c6_13 := (World.cell?_of_block (a := ⟨w5.heap.size, 2, none⟩) (G13.out.block (w5.heap.size) (by have := Z1.out; have := Z2.out; have := Z3.out; have := Z4.out; have := Z5.out; have := Z6.out; have := Z7.out; have := Z8.out; have := Z9.out; have := Z10.out; have := Z11.out; have := Z12.out; have := Z13.out; have := Z6'.out; (try simp only); omega) (by have := Z1.out; have := Z2.out; have := Z3.out; have := Z4.out; have := Z5.out; have := Z6.out; have := Z7.out; have := Z8.out; have := Z9.out; have := Z10.out; have := Z11.out; have := Z12.out; have := Z13.out; have := Z6'.out; (try simp only); omega))).trans c6_12
 clear c6_12
 have c7_13 := (World.cell?_of_block (a := ⟨w5.heap.size, 3, none⟩) (G13.out.block (w5.heap.size) (by have := Z1.out; have := Z2.out; have := Z3.out; have := Z4.out; have := Z5.out; have := Z6.out; have := Z7.out; have := Z8.out; have := Z9.out; have := Z10.out; have := Z11.out; have := Z12.out; have := Z13.out; have := Z6'.out; (try simp only); omega) (by have := Z1.out; have := Z2.out; have := Z3.out; have := Z4.out; have := Z5.out; have := Z6.out; have := Z7.out; have := Z8.out; have := Z9.out; have := Z10.out; have := Z11.out; have := Z12.out; have := Z13.out; have := Z6'.out; (try simp only); omega))).trans c7_12
 clear c7_12
 go_wp2_with fail
 refine (fP_ x7 L 1 _ (T7_13.out.rd) BL (by omega) (by omega)).mono ?_
 rintro e w14 ⟨rfl, k14⟩
 have KS14 : Hid (Keeps w13 w14) := k14
 clear k14
 have K14 : Hid (Keeps w w14) := Keeps.trans K13.out KS14.out
 have Z14 : Hid (w13.heap.size ≤ w14.heap.size) := KS14.out.size
 have T3_14 := Lib.hid (T3_13.out.keep KS14.out)
 clear T3_13
 have T4_14 := Lib.hid (T4_13.out.keep KS14.out)
 clear T4_13
 have T5_14 := Lib.hid (T5_13.out.keep KS14.out)
 clear T5_13
 have T7_14 := Lib.hid (T7_13.out.keep KS14.out)
 clear T7_13
 have c0_14 := l_ KS14.out c0_13
 clear c0_13
 have c1_14 := l_ KS14.out c1_13
 clear c1_13
 have c2_14 := l_ KS14.out c2_13
 clear c2_13
 have c3_14 := l_ KS14.out c3_13
 clear c3_13
 have c4_14 := l_ KS14.out c4_13
 clear c4_13
 have c5_14 := l_ KS14.out c5_13
 clear c5_13
 have c6_14 := l_ KS14.out c6_13
 clear c6_13
 have c7_14 := l_ KS14.out c7_13
 clear c7_13
 go_wp2_with fail
 refine (ep_ _ l0 _ (R0.out.keep K14.out) s0).mono ?_
 rintro e w15 ⟨t15, rfl, o15, k15⟩
 obtain ⟨t15a2, t15c2, t15a3, t15c3, rfl⟩ := o15.rd.shape
 have T15 := Lib.hid o15
 clear o15
 have KS15 : Hid (Keeps w14 w15) := k15
 clear k15
 have K15 : Hid (Keeps w w15) := Keeps.trans K14.out KS15.out
 have Z15 : Hid (w14.heap.size ≤ w15.heap.size) := KS15.out.size
 have T3_15 := Lib.hid (T3_14.out.keep KS15.out)
 clear T3_14
 have T4_15 := Lib.hid (T4_14.out.keep KS15.out)
 clear T4_14
 have T5_15 := Lib.hid (T5_14.out.keep KS15.out)
 clear T5_14
 have T7_15 := Lib.hid (T7_14.out.keep KS15.out)
 clear T7_14
 have c0_15 := l_ KS15.out c0_14
 clear c0_14
 have c1_15 := l_ KS15.out c1_14
 clear c1_14
 have c2_15 := l_ KS15.out c2_14
 clear c2_14
 have c3_15 := l_ KS15.out c3_14
 clear c3_14
 have c4_15 := l_ KS15.out c4_14
 clear c4_14
 have c5_15 := l_ KS15.out c5_14
 clear c5_14
 have c6_15 := l_ KS15.out c6_14
 clear c6_14
 have c7_15 := l_ KS15.out c7_14
 clear c7_14
 go_wp2_with fail
 refine (dH_ (.agg #[.int .i64 l0.labels, .int .i64 l0.degree, .slice t15a2 l0.nodes.length t15c2, .slice t15a3 l0.edges.length t15c3]) l0 a1 _ (T15.out.rd) IL0.out s0 ia1).mono ?_
 rw [HE.out]
 rintro e w16 ⟨x16, rfl, o16, b16, k16⟩
 rw [HL.out] at o16
 have T16 := Lib.hid o16
 clear o16 b16
 have KS16 : Hid (Keeps w15 w16) := k16
 clear k16
 have K16 : Hid (Keeps w w16) := Keeps.trans K15.out KS16.out
 have Z16 : Hid (w15.heap.size ≤ w16.heap.size) := KS16.out.size
 have T3_16 := Lib.hid (T3_15.out.keep KS16.out)
 clear T3_15
 have T4_16 := Lib.hid (T4_15.out.keep KS16.out)
 clear T4_15
 have T5_16 := Lib.hid (T5_15.out.keep KS16.out)
 clear T5_15
 have T7_16 := Lib.hid (T7_15.out.keep KS16.out)
 clear T7_15
 have T15_16 := Lib.hid (T15.out.keep KS16.out)
 clear T15
 have c0_16 := l_ KS16.out c0_15
 clear c0_15
 have c1_16 := l_ KS16.out c1_15
 clear c1_15
 have c2_16 := l_ KS16.out c2_15
 clear c2_15
 have c3_16 := l_ KS16.out c3_15
 clear c3_15
 have c4_16 := l_ KS16.out c4_15
 clear c4_15
 have c5_16 := l_ KS16.out c5_15
 clear c5_15
 have c6_16 := l_ KS16.out c6_15
 clear c6_15
 have c7_16 := l_ KS16.out c7_15
 clear c7_15
 go_wp2_with fail
 refine (eH_ _ _ L _ (T16.out.rd) (T4_16.out.rd) BL).mono ?_
 rintro e w17 ⟨rfl, k17⟩
 have KS17 : Hid (Keeps w16 w17) := k17
 clear k17
 have K17 : Hid (Keeps w w17) := Keeps.trans K16.out KS17.out
 have Z17 : Hid (w16.heap.size ≤ w17.heap.size) := KS17.out.size
 have T3_17 := Lib.hid (T3_16.out.keep KS17.out)
 clear T3_16
 have T4_17 := Lib.hid (T4_16.out.keep KS17.out)
 clear T4_16
 have T5_17 := Lib.hid (T5_16.out.keep KS17.out)
 clear T5_16
 have T7_17 := Lib.hid (T7_16.out.keep KS17.out)
 clear T7_16
 have T15_17 := Lib.hid (T15_16.out.keep KS17.out)
 clear T15_16
 have T16_17 := Lib.hid (T16.out.keep KS17.out)
 clear T16
 have c0_17 := l_ KS17.out c0_16
 clear c0_16
 have c1_17 := l_ KS17.out c1_16
 clear c1_16
 have c2_17 := l_ KS17.out c2_16
 clear c2_16
 have c3_17 := l_ KS17.out c3_16
 clear c3_16
 have c4_17 := l_ KS17.out c4_16
 clear c4_16
 have c5_17 := l_ KS17.out c5_16
 clear c5_16
 have c6_17 := l_ KS17.out c6_16
 clear c6_16
 have c7_17 := l_ KS17.out c7_16
 clear c7_16
 go_wp2_with fail
 refine (fP_ x7 L 1 _ (T7_17.out.rd) BL (by omega) (by omega)).mono ?_
 rintro e w18 ⟨rfl, k18⟩
 have KS18 : Hid (Keeps w17 w18) := k18
 clear k18
 have K18 : Hid (Keeps w w18) := Keeps.trans K17.out KS18.out
 have Z18 : Hid (w17.heap.size ≤ w18.heap.size) := KS18.out.size
 have T3_18 := Lib.hid (T3_17.out.keep KS18.out)
 clear T3_17
 have T4_18 := Lib.hid (T4_17.out.keep KS18.out)
 clear T4_17
 have T5_18 := Lib.hid (T5_17.out.keep KS18.out)
 clear T5_17
 have T7_18 := Lib.hid (T7_17.out.keep KS18.out)
 clear T7_17
 have T15_18 := Lib.hid (T15_17.out.keep KS18.out)
 clear T15_17
 have T16_18 := Lib.hid (T16_17.out.keep KS18.out)
 clear T16_17
 have c0_18 := l_ KS18.out c0_17
 clear c0_17
 have c1_18 := l_ KS18.out c1_17
 clear c1_17
 have c2_18 := l_ KS18.out c2_17
 clear c2_17
 have c3_18 := l_ KS18.out c3_17
 clear c3_17
 have c4_18 := l_ KS18.out c4_17
 clear c4_17
 have c5_18 := l_ KS18.out c5_17
 clear c5_17
 have c6_18 := l_ KS18.out c6_17
 clear c6_17
 have c7_18 := l_ KS18.out c7_17
 clear c7_17
 go_wp2_with fail
 go_ret
 exact ⟨rfl, K18.out⟩
set_option maxHeartbeats 1600000 in
theorem lawEliminateTimes (v0 : Value) (l0 : PR) (a1 : Int) (ia1 : I64 a1) (w : World) (r0 : RdP w v0 l0) (il0 : okP l0) : Calls Tryz.prog 4 #[v0, .int .i64 a1] w fun e w' => e = .returned (.bool true) ∧ Below w.heap.size w w' := by
 by_cases q0 : szP l0 ≤ 1048576
 case neg =>
  have R0 := Lib.hid r0
  obtain ⟨p0a2, p0c2, p0a3, p0c3, rfl⟩ := r0.shape
  clear r0 il0
  go_enter Tryz.func4, Tryz.ntmps4
  go_wp2_with fail
  refine (gX_ _ l0 (1048576) _ (R0.out.keep (by repeat (first | exact Keeps.refl _ | with_reducible refine Keeps.alloc ?_ _))) (by omega) (by omega)).mono ?_
  rintro e W0 ⟨rfl, k0⟩
  rw [szL, if_neg (by omega)]
  have KK0 : Hid (Keeps w W0) := Keeps.trans (by repeat (first | exact Keeps.refl _ | with_reducible refine Keeps.alloc ?_ _)) k0
  obtain ⟨hc0, hf0⟩ := bcell k0
  have hz0 := k0.size
  clear k0
  go_wp2
  go_ret
  exact ⟨rfl, KK0.out⟩
 exact lawEliminateTimes_small v0 l0 r0 il0 a1 ia1 (by omega)
end

section
open Go.RowKit
structure WP where
  labels : Int
  arcs : List (List Int)
def RdW (w : World) (v : Value) (x : WP) : Prop := ∃ v1, v = .agg #[.int .i64 x.labels, v1] ∧ IntRows w v1 x.arcs
def OwW (B C : Nat) (w : World) (v : Value) (x : WP) : Prop := ∃ v1, v = .agg #[.int .i64 x.labels, v1] ∧ ∃ M0 M1, B ≤ M0 ∧ M0 ≤ M1 ∧ M1 ≤ C ∧ OwM M0 M1 w v1 x.arcs
section
variable {B C B' C' : Nat} {w w' : World} {v : Value} {x : WP}
theorem RdW.keep (h : RdW w v x) (k : Keeps w w') : RdW w' v x := by obtain ⟨v1, e, h1⟩ := h; exact ⟨v1, e, h1.keep k⟩
theorem OwW.rd (h : OwW B C w v x) : RdW w v x := by obtain ⟨v1, e, M0, M1, l0, l1, l2, h1⟩ := h; exact ⟨v1, e, h1.rows⟩
theorem OwW.keep (h : OwW B C w v x) (k : Keeps w w') : OwW B C w' v x := by obtain ⟨v1, e, M0, M1, l0, l1, l2, h1⟩ := h; exact ⟨v1, e, M0, M1, l0, l1, l2, h1.keep k⟩
theorem OwW.chg (h : OwW B C w v x) (c : Chg B' C' w w') (hd : C ≤ B' ∨ C' ≤ B) : OwW B C w' v x := by obtain ⟨v1, e, M0, M1, l0, l1, l2, h1⟩ := h; exact ⟨v1, e, M0, M1, l0, l1, l2, h1.chg c (by omega)⟩
theorem OwW.mono (h : OwW B C w v x) (hB : B' ≤ B) (hC : C ≤ C') : OwW B' C' w v x := by obtain ⟨v1, e, M0, M1, l0, l1, l2, h1⟩ := h; exact ⟨v1, e, M0, M1, by omega, by omega, by omega, h1⟩
theorem RdW.shape (h : RdW w v x) : ∃ a1 c1, v = .agg #[.int .i64 x.labels, .slice a1 x.arcs.length c1] := by
 obtain ⟨v1, rfl, h1⟩ := h
 obtain ⟨a1, c1, rfl, _⟩ := h1.form
 exact ⟨_, _, rfl⟩
end
end

section
open Go.ChangeShapes Go.WideShapes Go.ChangeAt Go.RowKit Go.Deep Go.Joins
set_option maxRecDepth 100000
section
variable {H : Type} {enc : TypeId × Value → H} {W : World}

theorem ko_ {v : Value} {A : Option Addr} {L C : Nat} {Z : List Int} (hv : v = .slice A L C) (hL : L ≤ C) (hC : C ≤ maxLen) (hZ : Z.length = C) (hA : A = none → C = 0)
  (hc : ∀ a', A = some a' → ∀ c, c < C → W.cell? (a'.add c) = some (.int .i64 (Z.getD c 0))) : Ints W v (Z.take L) := by
 subst hv
 have hlen : (Z.take L).length = L := by simp; omega
 refine ⟨A, C, by simp; omega, by simp; omega, hC, ?_⟩
 by_cases h0 : L = 0
 ·subst h0; exact .inl (by simp)
 ·cases A with
  | none => have := hA rfl; omega
  | some a' =>
   obtain ⟨b, off, rfl, hc'⟩ := ints_at (w := W) (a := a') (k := .i64) (zs := Z) (fun i hi => hc a' rfl i (by omega)) (by omega)
   refine .inr ⟨b, off, rfl, fun i y hy => ?_⟩
   rw [List.getElem?_map, Option.map_eq_some_iff] at hy
   obtain ⟨z, hz1, rfl⟩ := hy
   have hi : i < L := by
    have := (List.getElem?_eq_some_iff.1 hz1).1
    simp at this; omega
   rw [List.getElem?_take, if_pos hi] at hz1
   rw [hc' i (by omega), List.getD_eq_getElem?_getD, hz1]
   rfl
theorem hS_ {n : Nat} {v : Value} {y : DataW H × List MemPlace} (h : DataW.trod enc Tryz.prog W 0 (fun _ => true) true n 22 [v] = some y) :
  ∃ LL : List (List Int), IntRows W v LL ∧ ∀ r ∈ LL, ∀ n ∈ r, I64 n := by
 rcases open_int_rows Tryz.underlying22 Tryz.underlying41 Tryz.underlying3 (by kernel_rfl) (by kernel_rfl) h with ⟨hcs, _⟩ | ⟨a, len, cap, A, L, C, Z, hcs, _, hl, hm, _, hr⟩
 ·simp at hcs
  subst hcs
  exact ⟨[], ⟨[], ⟨none, 0, rfl, Nat.le_refl _, by simp [maxLen], .inl rfl⟩, rfl, fun i hi => by simp at hi⟩, by simp⟩
 ·simp at hcs
  subst hcs
  refine ⟨(List.range len).map fun r => (Z r).take (L r), ⟨(List.range len).map fun r => .slice (A r) (L r) (C r), ⟨some a, cap, by simp, by simpa using hl, hm, ?_⟩, by simp, ?_⟩, ?_⟩
  ·by_cases h0 : len = 0
   ·subst h0; exact .inl (by simp)
   ·have hp := (hr 0 (by omega)).1
    obtain ⟨b, off, spot⟩ := a
    have hspot : spot = none := by simpa [Addr.add] using World.cell?_spot hp
    subst hspot
    refine .inr ⟨b, off, rfl, fun i x hx => ?_⟩
    rw [List.getElem?_map, Option.map_eq_some_iff] at hx
    obtain ⟨j, hj, rfl⟩ := hx
    have hi : i < len := by
     have := (List.getElem?_eq_some_iff.1 hj).1
     simpa using this
    have : i = j := by
     rw [List.getElem?_range hi] at hj
     simpa using hj
    subst this
    rw [← Go.WideShapes.add_plain]
    exact (hr i (by omega)).1
  ·intro i hi
   simp at hi
   have h1 := hr i (by omega)
   have e1 : ((List.range len).map fun r => Value.slice (A r) (L r) (C r)).getD i undef = .slice (A i) (L i) (C i) := by simp [hi]
   have e2 : ((List.range len).map fun r => (Z r).take (L r)).getD i [] = (Z i).take (L i) := by simp [hi]
   rw [e1, e2]
   exact ko_ rfl h1.2.1 h1.2.2.1 h1.2.2.2.1 h1.2.2.2.2.2.1 fun a' ha c hc => (h1.2.2.2.2.2.2 a' ha).2 c hc
  ·intro r hr' n hn
   simp at hr'
   obtain ⟨i, hi, rfl⟩ := hr'
   exact jf_ ((hr i (by omega)).2.2.2.2.1 n (List.mem_of_mem_take hn))
theorem jl_ {n : Nat} {v : Value} {y : DataW H × List MemPlace} (h : DataW.trod enc Tryz.prog W 0 (fun _ => true) true n 3 [v] = some y) : ∃ m : Int, v = .int .i64 m ∧ I64 m := by
 obtain ⟨m, h1, _, h2⟩ := DataW.trod_int Tryz.underlying3 h
 simp at h1
 exact ⟨m, h1, jf_ h2⟩
end
end

section
open Go.ChangeShapes Go.WideShapes Go.ChangeAt Go.RowKit Go.Deep Go.Joins
set_option maxRecDepth 100000
section
variable {H : Type} {enc : TypeId × Value → H} {W : World}
theorem openProblem {base : Nat} {v : Value} {d : DataW H} {p : List MemPlace} (hval : Value.okWide Tryz.prog W .any base 24 v)
  (h : DataW.Trod enc Tryz.prog W 0 (fun _ => true) true 24 v d p) : ∃ x : PR, RdP W v x ∧ okP x := by
 obtain ⟨v0, v1, v2, v3, y0, y1, y2, y3, n, rfl, _, _, h0, h1, h2, h3⟩ := open_agg4 Tryz.underlying24 (by kernel_rfl) (by kernel_rfl) hval h
 obtain ⟨m, rfl, hm⟩ := jl_ h0
 obtain ⟨c, rfl, hc⟩ := jl_ h1
 obtain ⟨LL, hr, hb⟩ := hS_ h2
 obtain ⟨MM, hr2, hb2⟩ := hS_ h3
 exact ⟨⟨m, c, LL, MM⟩, ⟨_, _, rfl, hr, hr2⟩, hm, hc, hb, hb2⟩
end
end

end Go.Proofs.YtdbbeldgdgonfaaGreat
