/- The contract of waMay: which pairs of labels are arcs. -/
import Derived.Test.YtcjmpodljhcbhaaBool
import Derived.Test.YtcjmpodljhcbhaaLoop
namespace Go.Proofs.Ytcjmpodljhcbhaa
open Go.RowKit
set_option linter.unusedSimpArgs false
set_option linter.unusedVariables false

/-- Labels and arcs lie in range. -/
def WIn (x : WP) : Prop := 1 ≤ x.labels ∧ x.labels ≤ 12 ∧ ∀ j, j < x.arcs.length → ∃ p q : Nat, x.arcs.getD j [] = [(p : Int), (q : Int)] ∧ (p : Int) < x.labels ∧ (q : Int) < x.labels
def mayB (arcs : List (List Int)) (j a b : Nat) : Bool := (List.range j).any fun i => arcs.getD i [] == [(a : Int), (b : Int)]
def mayM (n : Nat) (arcs : List (List Int)) (j : Nat) : List (List Bool) := (List.range n).map fun a => (List.range n).map fun b => mayB arcs j a b
def mayL (x : WP) : List (List Bool) := mayM x.labels.toNat x.arcs x.arcs.length
theorem mayM_length (n : Nat) (arcs : List (List Int)) (j : Nat) : (mayM n arcs j).length = n := by simp [mayM]
theorem mayM_row (n : Nat) (arcs : List (List Int)) (j a : Nat) (h : a < n) : (mayM n arcs j).getD a [] = (List.range n).map fun b => mayB arcs j a b := by simp [mayM, h]
theorem mayM_row_length (n : Nat) (arcs : List (List Int)) (j a : Nat) (h : a < n) : ((mayM n arcs j).getD a []).length = n := by rw [mayM_row _ _ _ _ h]; simp
theorem mayB_succ (arcs : List (List Int)) (j a b : Nat) : mayB arcs (j + 1) a b = (mayB arcs j a b || arcs.getD j [] == [(a : Int), (b : Int)]) := by simp [mayB, List.range_succ]
theorem mayM_zero (n : Nat) (arcs : List (List Int)) : mayM n arcs 0 = List.replicate n (List.replicate n false) := by
  apply List.ext_getElem (by simp [mayM])
  intro i h1 h2
  simp only [mayM, List.getElem_map, List.getElem_replicate]
  apply List.ext_getElem (by simp)
  intro k h3 h4
  simp [mayB]
theorem mayM_step {n j p q : Nat} {arcs : List (List Int)} (h : arcs.getD j [] = [(p : Int), (q : Int)]) (hp : p < n) : mayM n arcs (j + 1) = (mayM n arcs j).set p (((mayM n arcs j).getD p []).set q true) := by
  rw [mayM_row _ _ _ _ hp]
  apply List.ext_getElem (by simp [mayM])
  intro i h1 h2
  rw [List.getElem_set]
  simp only [mayM, List.getElem_map, List.getElem_range]
  by_cases hi : p = i
  · subst hi
    rw [if_pos rfl]
    apply List.ext_getElem (by simp)
    intro k h3 h4
    rw [List.getElem_set]
    simp only [List.getElem_map, List.getElem_range, mayB_succ, h]
    by_cases hk : q = k
    · subst hk; simp
    · rw [if_neg hk]
      have : ([(p : Int), (q : Int)] == [(p : Int), (k : Int)]) = false := by simp; omega
      rw [this, Bool.or_false]
  · rw [if_neg hi]
    apply List.map_congr_left
    intro b _
    rw [mayB_succ, h]
    have : ([(p : Int), (q : Int)] == [(i : Int), (b : Int)]) = false := by simp; omega
    rw [this, Bool.or_false]

/-- The call returns an owned list of lists of bools. -/
def RetBM (w0 : World) (LL : List (List Bool)) (e : Ending) (w' : World) : Prop := ∃ v vs, e = .returned v ∧ Bo.MatIn w0.heap.size w' v vs LL ∧ Keeps w0 w'

theorem replicate_succ_snoc {α : Type} (n : Nat) (x : α) : List.replicate (n + 1) x = List.replicate n x ++ [x] := List.replicate_succ'

set_option maxRecDepth 100000 in
set_option maxHeartbeats 4000000 in
theorem waMay_any (v : Value) (x : WP) (w : World) (h : RdW w v x) (hg : WIn x) :
    Calls Try.prog 102 #[v] w (RetBM w (mayL x)) := by
  obtain ⟨v1, rfl, r1⟩ := h
  have R1 := Lib.hid r1
  obtain ⟨a1, c1, rfl, m1, _⟩ := r1.form
  obtain ⟨b1, b2, har⟩ := hg
  have HAR := Lib.hid har
  have HX : Hid (mayL x = mayM x.labels.toNat x.arcs x.arcs.length) := rfl
  clear r1 har
  obtain ⟨n, hn⟩ : ∃ n : Nat, x.labels = n := ⟨x.labels.toNat, by omega⟩
  generalize x.labels = xl at *
  subst hn
  simp only [Int.toNat_natCast] at HX
  generalize x.arcs = arcs at *
  obtain ⟨i0, hi, hz0, hz1, hz2⟩ := info_parts Bo.info_int
  have HI := Lib.hid hi
  have HZ0 := Lib.hid hz0
  have HZ1 := Lib.hid hz1
  have HZ2 := Lib.hid hz2
  clear hi hz0 hz1 hz2
  have K0 : Hid (Keeps w (w.alloc (.cells #[.int .i64 n, .slice a1 arcs.length c1] 27))) := (Keeps.refl _).alloc _
  have C0 : Hid ((w.alloc (.cells #[.int .i64 n, .slice a1 arcs.length c1] 27)).cell? ⟨w.heap.size, 0, none⟩ = some (.int .i64 n)) := by show _ = _; rw [World.cell?_alloc_at _ _ _ _ rfl]; rfl
  have C1 : Hid ((w.alloc (.cells #[.int .i64 n, .slice a1 arcs.length c1] 27)).cell? ⟨w.heap.size, 1, none⟩ = some (.slice a1 arcs.length c1)) := by show _ = _; rw [World.cell?_alloc_at _ _ _ _ rfl]; rfl
  go_enter Try.func102, Try.ntmps102
  go_wp2
  generalize w.alloc (.cells #[.int .i64 n, .slice a1 arcs.length c1] 27) = w1 at *
  have hz1 : w.heap.size ≤ w1.heap.size := K0.out.size
  go_loopw [3, 4] (fun ov av wr => ∃ (a : Nat) (vs : List Value) (LL : List (List Bool)), av = .int .i64 a ∧ a ≤ n ∧ LL = List.replicate a (List.replicate n false) ∧ Bo.MatIn w1.heap.size wr ov vs LL ∧ Keeps w1 wr) (fun _ av _ => n - (intOf av).toNat)
  case atStart => exact ⟨0, [], [], rfl, Nat.zero_le _, rfl, Bo.MatIn.nil _ _, Keeps.refl _⟩
  case round =>
    obtain ⟨a, vs, LL, rfl, ha, hLL, hM, hK⟩ := hrel
    have HLL := Lib.hid hLL
    have HM := Lib.hid hM
    have HK := Lib.hid hK
    have E0 := cell_keep hK C0.out
    have E1 := cell_keep hK C1.out
    obtain ⟨wa, hwa⟩ : ∃ wa : World, wa = wr := ⟨_, rfl⟩
    subst hwa
    obtain ⟨oa, oc, rfl, _⟩ := hM.shape
    clear hLL hM hK
    by_cases hlt : a < n
    · go_wp2_with (first
        | (at_make; refine wpList_make_full _ rfl _ _ 77 rfl wa.heap.size 4 i0 (.bool false) 1 Try.underlying77 HI.out HZ0.out HZ1.out .i64 .i64 _ _ n rfl rfl rfl rfl (by rw [HZ2.out]; omega) (by unfold maxLen; omega) (Nat.le_refl _) ?_; intro w2 hown hgr; obtain ⟨hO, hK2⟩ := Bo.made_ints hown hgr; have HO := Lib.hid hO; have HK2 := Lib.hid hK2; clear hown hgr hO hK2)
        | (at_builtin; refine Bo.wpL_push ((HM.out.keep HK2.out).keep ((Keeps.refl _).alloc _)) ((HO.out.mono HK.out.size).keep ((Keeps.refl _).alloc _)) (Bo.MatIn.fresh HM.out HO.out (Nat.le_refl _)) (by rw [HLL.out]; simp; omega) (by have := HK.out.size; have := HK2.out.size; simp; omega) (blk_new rfl) rfl rfl rfl rfl ?_; intro v' w3 hP))
      go_roundw
      case rel =>
        refine ⟨a + 1, _, _, by go_num, by omega, ?_, hP.mat, hP.keeps ((Keeps.trans HK.out HK2.out).alloc _) (Nat.le_refl _)⟩
        rw [HLL.out, replicate_succ_snoc a]
      case measure => simp [intOf]; omega
    · have he : a = n := by omega
      have HM' : Hid (Bo.MatIn w1.heap.size wa (.slice oa LL.length oc) vs (mayM n arcs 0)) := by
        show Bo.MatIn _ _ _ _ _
        have := HLL.out
        rw [he] at this
        rw [mayM_zero, ← this]; exact HM.out
      have hll : LL.length = n := by rw [HLL.out, List.length_replicate]; exact he
      clear HM HLL he
      have HLN := Lib.hid hll
      clear hll
      go_wp2
      go_loopw [22] (fun jv wr => ∃ j : Nat, jv = .int .i64 j ∧ j ≤ arcs.length ∧ Bo.MatIn w1.heap.size wr (.slice oa LL.length oc) vs (mayM n arcs j) ∧ Keeps w1 wr) (fun jv _ => arcs.length - (intOf jv).toNat)
      case atStart => exact ⟨0, rfl, Nat.zero_le _, HM'.out, HK.out⟩
      case round =>
        obtain ⟨j, rfl, hj, hM, hK⟩ := hrel
        have HM := Lib.hid hM
        have HK2 := Lib.hid hK
        clear hM hK HM' E0 E1
        by_cases hlt2 : j < arcs.length
        · obtain ⟨_, _, e1, _, hf⟩ := (R1.out.keep (Keeps.trans K0.out HK2.out)).form
          cases e1
          obtain ⟨b, o, u, rfl, hcell, hu⟩ := hf j hlt2
          obtain ⟨p, q, hpq, hp, hq⟩ := HAR.out j hlt2
          rw [hpq] at hu
          obtain ⟨rb, ro, rc, rfl, hr0, hr1⟩ := hu.pair
          have HPQ := Lib.hid hpq
          clear hpq hu hf
          have hpn : p < n := by omega
          obtain ⟨g, cap, hv, hgc⟩ := HM.out.form (by rw [mayM_length]; omega)
          simp only [Value.slice.injEq] at hv
          obtain ⟨rfl, -, -⟩ := hv
          obtain ⟨hm1, _⟩ := hgc p (by rw [mayM_length]; exact hpn)
          have HR := Lib.hid (HM.out.own p (by rw [mayM_length]; exact hpn))
          obtain ⟨gr, rcap, hrv, hrc⟩ := HR.out.form (by rw [mayM_row_length _ _ _ _ hpn]; omega)
          obtain ⟨hq1, hq2⟩ := hrc q (by rw [mayM_row_length _ _ _ _ hpn]; omega)
          have hq3 : ∃ z, wr.cell? ⟨gr, q, none⟩ = some z := ⟨_, hq1⟩
          rw [hrv, mayM_row_length _ _ _ _ hpn] at hm1
          have HRV := Lib.hid hrv
          clear hgc hrc hrv hq1
          obtain ⟨z, hq1⟩ := hq3
          have hll : p < LL.length := by rw [HLN.out]; exact hpn
          go_wp2
          go_still_tail 10, (by kernel_rfl)
          change wpList _ _ _ _ _ wr.drew
          have hd1 : wr.drew.cell? ⟨gr, q, none⟩ = some z := hq1
          have hd2 : wr.drew.frozen? ⟨gr, q, none⟩ = false := hq2
          have HMd := Lib.hid (HM.out.keep (Keeps.refl wr).drew)
          have HKd := Lib.hid (Keeps.drew HK2.out)
          generalize wr.drew = w2 at hd1 hd2 HMd HKd
          clear hm1 hq1 hq2 hr0 hr1 hcell
          go_wp2
          go_roundw
          case rel =>
            have hR := HMd.out.own p (by rw [mayM_length]; exact hpn)
            rw [HRV.out] at hR
            obtain ⟨h6, h7⟩ := hR.setAt (y := true) q (by rw [mayM_row_length _ _ _ _ hpn]; omega)
            refine ⟨j + 1, by go_num, by omega, ?_, HKd.out.setCell (hR.lt gr rfl).1 _⟩
            rw [mayM_step HPQ.out hpn]
            refine HMd.out.wrote (by rw [mayM_length]; exact hpn) ?_ ?_
            · rw [HRV.out]; exact h7
            · rw [HRV.out]; exact h6
          case measure => simp [intOf]; omega
        · go_wp2
          go_ret
          have he : j = arcs.length := by omega
          subst he
          refine ⟨_, vs, rfl, ?_, Keeps.trans K0.out HK2.out⟩
          rw [HX.out]
          exact HM.out.lower hz1
end Go.Proofs.Ytcjmpodljhcbhaa
