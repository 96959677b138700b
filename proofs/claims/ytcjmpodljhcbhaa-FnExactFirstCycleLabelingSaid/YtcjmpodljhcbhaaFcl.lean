/- The contracts of both FirstCycleLabeling functions. -/
import Derived.Test.YtcjmpodljhcbhaaWb
namespace Go.Proofs.Ytcjmpodljhcbhaa
open Go.RowKit
set_option linter.unusedSimpArgs false
set_option linter.unusedVariables false

theorem Own.take {B : Nat} {w : World} {g n c : Nat} {l : List Int} (h : Own B w (.slice (some ⟨g, 0, none⟩) n c) l) (i : Nat) (hi : i ≤ l.length) : Own B w (.slice (some ⟨g, 0, none⟩) i c) (l.take i) := by
  have hn : n = l.length := by
    obtain ⟨a, c', he, _⟩ := h.len
    simp only [Value.slice.injEq] at he
    exact he.2.1
  subst hn
  obtain ⟨h1, h2⟩ := h
  rcases h2 with ⟨e, _⟩ | ⟨g', cap, cur, e, hb, hg, hnc, hcm, hcs, ht⟩
  · simp at e
  · simp only [Value.slice.injEq, Option.some.injEq, Addr.mk.injEq, and_true, true_and] at e
    obtain ⟨rfl, rfl⟩ := e
    have hl : (l.take i).length = i := by simp; omega
    refine ⟨by simp, .inr ⟨g, c, cur, by rw [hl], hb, hg, by rw [hl]; omega, hcm, hcs, ?_⟩⟩
    rw [hl, Nat.mul_one]
    rw [Nat.mul_one] at ht
    rw [List.map_take, ← ht, List.take_take, Nat.min_eq_left hi]
theorem Own.capLe {B : Nat} {w : World} {a : Option Addr} {n c : Nat} {l : List Int} (h : Own B w (.slice a n c) l) : l.length ≤ c := (Ints.cap h.ints).2.1
def fcl (n : Nat) (arcs : List (List Int)) (k : Nat) : Option (List Int) := match (List.range n).find? (fun a => powB n arcs k a a) with | some a => some ((btwL n arcs a a k).take k) | none => none
theorem fcl_some {n : Nat} {arcs : List (List Int)} {k a : Nat} (ha : a < n) (h : powB n arcs k a a = true) (hb : ∀ j, j < a → powB n arcs k j j = false) : fcl n arcs k = some ((btwL n arcs a a k).take k) := by
  have : (List.range n).find? (fun a => powB n arcs k a a) = some a := by
    rw [List.find?_range_eq_some]
    exact ⟨h, by simpa using ha, fun j hj => by simp [hb j hj]⟩
  simp [fcl, this]
theorem fcl_none {n : Nat} {arcs : List (List Int)} {k : Nat} (h : ∀ j, j < n → powB n arcs k j j = false) : fcl n arcs k = none := by
  have : (List.range n).find? (fun a => powB n arcs k a a) = none := by
    rw [List.find?_eq_none]
    intro x hx
    simp [h x (by simpa using hx)]
  simp [fcl, this]
def fFirstCycleLabelingSpec (x : WP) (k : Int) : Option (List Int) := if walkGood x && inB k 1 60 then fcl x.labels.toNat x.arcs k.toNat else none
def fFirstCycleLabelingImpl (x : WP) (k : Int) : Option (List Int) := fFirstCycleLabelingSpec x k
theorem FirstCycleLabeling_eq (x : WP) (k : Int) (ok : okW x) (hs : szW x ≤ 1048576) (ik : I64 k) : fFirstCycleLabelingImpl x k = fFirstCycleLabelingSpec x k := rfl
theorem fBtw_pos {n : Nat} {arcs : List (List Int)} {a b k : Nat} (h : powB n arcs k a b = true) : fBtw n arcs a b k = some (btwL n arcs a b k) := by rw [fBtw, h]; rfl
theorem fBtw_neg {n : Nat} {arcs : List (List Int)} {a b k : Nat} (h : powB n arcs k a b = false) : fBtw n arcs a b k = none := by rw [fBtw, h]; rfl

set_option maxRecDepth 100000 in
set_option maxHeartbeats 4000000 in
theorem specFirstCycleLabeling_any (v : Value) (x : WP) (k : Int) (w : World) (h : RdW w v x) (ok : okW x) (hs : szW x ≤ 1048576) (hk0 : I64 k) :
    Calls Try.prog 45 #[v, .int .i64 k] w (RetSB w (fFirstCycleLabelingSpec x k)) := by
  obtain ⟨v1, rfl, r1⟩ := h
  have R1 := Lib.hid r1
  obtain ⟨a1, c1, rfl, m1, _⟩ := r1.form
  clear r1 ok hk0
  have HF : Hid (fFirstCycleLabelingSpec x k = if walkGood x && inB k 1 60 then fcl x.labels.toNat x.arcs k.toNat else none) := rfl
  have K0 : Hid (Keeps w (w.alloc (.cells #[.int .i64 x.labels, .slice a1 x.arcs.length c1] 27))) := (Keeps.refl _).alloc _
  have C0 : Hid ((w.alloc (.cells #[.int .i64 x.labels, .slice a1 x.arcs.length c1] 27)).cell? ⟨w.heap.size, 0, none⟩ = some (.int .i64 x.labels)) := by show _ = _; rw [World.cell?_alloc_at _ _ _ _ rfl]; rfl
  have C1 : Hid ((w.alloc (.cells #[.int .i64 x.labels, .slice a1 x.arcs.length c1] 27)).cell? ⟨w.heap.size, 1, none⟩ = some (.slice a1 x.arcs.length c1)) := by show _ = _; rw [World.cell?_alloc_at _ _ _ _ rfl]; rfl
  cases hg : walkGood x
  · have HG := Lib.hid hg
    clear hg
    go_enter Try.func45, Try.ntmps45
    go_wp2_with fail
    refine (waGood_any _ x _ ⟨_, rfl, R1.out.keep K0.out⟩).mono ?_
    rintro e w1 ⟨rfl, hk⟩
    rw [HG.out]
    have HK1 := Lib.hid (Keeps.trans K0.out hk)
    have D0 := cell_keep hk C0.out
    have D1 := cell_keep hk C1.out
    clear hk
    go_wp2
    go_ret2
    rw [show fFirstCycleLabelingSpec x k = none by rw [HF.out, HG.out]; rfl]
    exact RetSB.none HK1.out
  have HG := Lib.hid hg
  obtain ⟨b1, b2, _⟩ := walkGood_arc hg
  clear hg
  cases hb : inB k 1 60
  · have HB := Lib.hid hb
    clear hb
    go_enter Try.func45, Try.ntmps45
    go_wp2_with fail
    refine (waGood_any _ x _ ⟨_, rfl, R1.out.keep K0.out⟩).mono ?_
    rintro e w1 ⟨rfl, hk⟩
    rw [HG.out]
    have HK1 := Lib.hid (Keeps.trans K0.out hk)
    have D0 := cell_keep hk C0.out
    have D1 := cell_keep hk C1.out
    clear hk
    go_wp2_with (go_at_call 65; refine (l1In_any _ _ _ _).mono ?_; rintro e w' ⟨rfl, rfl⟩; rw [HB.out])
    go_ret2
    rw [show fFirstCycleLabelingSpec x k = none by rw [HF.out, HG.out, HB.out]; rfl]
    exact RetSB.none HK1.out
  have HB := Lib.hid hb
  obtain ⟨bk1, bk2⟩ := inB_true.1 hb
  clear hb
  obtain ⟨kk, rfl⟩ := Int.eq_ofNat_of_zero_le (show 0 ≤ k by omega)
  obtain ⟨n, hn⟩ : ∃ n : Nat, x.labels = n := ⟨x.labels.toNat, by omega⟩
  have HN := Lib.hid hn
  have HNN : Hid (x.labels.toNat = n) := by show _ = _; omega
  have hn12 : n ≤ 12 := by omega
  have hn1 : 1 ≤ n := by omega
  clear hn
  have HF2 : Hid (fFirstCycleLabelingSpec x kk = fcl n x.arcs kk) := by show _ = _; rw [HF.out, HG.out, HB.out, HNN.out]; rfl
  go_enter Try.func45, Try.ntmps45
  go_wp2_with fail
  refine (waGood_any _ x _ ⟨_, rfl, R1.out.keep K0.out⟩).mono ?_
  rintro e w1 ⟨rfl, hk⟩
  rw [HG.out]
  have HK1 := Lib.hid (Keeps.trans K0.out hk)
  have D0 := cell_keep hk C0.out
  have D1 := cell_keep hk C1.out
  clear hk
  have HD0 := Lib.hid D0
  have HD1 := Lib.hid D1
  rw [HN.out] at D0
  go_wp2_with (go_at_call 65; refine (l1In_any _ _ _ _).mono ?_; rintro e w' ⟨rfl, rfl⟩; rw [HB.out])
  clear D0 D1
  go_loopw [6] (fun av wr => ∃ a : Nat, av = .int .i64 a ∧ a ≤ n ∧ (∀ j, j < a → powB n x.arcs kk j j = false) ∧ Keeps w1 wr) (fun av _ => n - (intOf av).toNat)
  case atStart => exact ⟨0, rfl, Nat.zero_le _, fun j hj => by omega, Keeps.refl _⟩
  case round =>
    obtain ⟨a, rfl, ha, hall, hK⟩ := hrel
    have HA := Lib.hid hall
    have HK := Lib.hid hK
    have E0 := cell_keep hK HD0.out
    have E1 := cell_keep hK HD1.out
    have E0' := E0
    rw [HN.out] at E0'
    clear hall hK
    by_cases hlt : a < n
    · have hax : (a : Int) < x.labels := by rw [HN.out]; omega
      have HCC := Lib.hid (waBetween_any (.agg #[.int .i64 x.labels, .slice a1 x.arcs.length c1]) x a a kk wr ⟨_, rfl, R1.out.keep (Keeps.trans HK1.out HK.out)⟩ HG.out hax hax (by omega))
      rw [HNN.out] at HCC
      cases hp : powB n x.arcs kk a a
      · rw [fBtw_neg hp] at HCC
        have HP := Lib.hid hp
        clear hp
        go_wp2_with (go_at_call 78; refine (HCC.out).mono ?_; rintro e w2 ⟨rv, rfl, hO, -, hk2⟩; have HK2 := Lib.hid hk2; clear hO hk2)
        go_roundw
        case rel =>
          refine ⟨a + 1, by go_num, by omega, fun j hj => ?_, Keeps.trans HK.out HK2.out⟩
          by_cases e : j = a
          · rw [e]; exact HP.out
          · exact HA.out j (by omega)
        case measure => simp [intOf]; omega
      · rw [fBtw_pos hp] at HCC
        have HP := Lib.hid hp
        clear hp
        go_wp2_with fail
        refine (HCC.out).mono ?_
        rintro e w2 ⟨rv, rfl, hO, -, hk2⟩
        have hO : Own wr.heap.size w2 rv (btwL n x.arcs a a kk) := hO
        have HO := Lib.hid hO
        have HK2 := Lib.hid hk2
        have hll : (btwL n x.arcs a a kk).length = kk + 1 := btwL_length _ _ _ _ _
        obtain ⟨rg, rc, rfl, -⟩ := hO.form (by omega)
        have hcap := hO.capLe
        rw [hll] at HO hcap ⊢
        have hc1 : (kk : Int) ≤ (rc : Int) := by omega
        have HLL := Lib.hid hll
        clear hO hk2 hll
        go_wp2_with fail
        refine (l1Own_any _ ((btwL n x.arcs a a kk).take kk) _ (Ints.take HO.out.ints kk (by rw [HLL.out]; omega)) (by simp; omega)).mono ?_
        rintro e w3 ⟨r2, rfl, hO2, hk3⟩
        have HO2 := Lib.hid hO2
        have HK3 := Lib.hid hk3
        clear hO2 hk3
        go_wp2
        go_ret2
        rw [HF2.out, fcl_some hlt HP.out HA.out]
        refine ⟨_, rfl, HO2.out.mono (Keeps.trans HK1.out (Keeps.trans HK.out HK2.out)).size, ?_, Keeps.trans HK1.out (Keeps.trans HK.out (Keeps.trans HK2.out HK3.out))⟩
        show ((btwL n x.arcs a a kk).take kk).length ≤ 1000000000
        simp; omega
    · have hnx : ¬ (a : Int) < x.labels := by rw [HN.out]; omega
      go_wp2
      go_ret2
      rw [HF2.out, fcl_none (fun j hj => HA.out j (by omega))]
      exact RetSB.none (Keeps.trans HK1.out HK.out)

set_option maxRecDepth 100000 in
set_option maxHeartbeats 4000000 in
theorem implFirstCycleLabeling_any (v : Value) (x : WP) (k : Int) (w : World) (h : RdW w v x) (ok : okW x) (hs : szW x ≤ 1048576) (hk0 : I64 k) :
    Calls Try.prog 46 #[v, .int .i64 k] w (RetSB w (fFirstCycleLabelingImpl x k)) := by
  obtain ⟨v1, rfl, r1⟩ := h
  have R1 := Lib.hid r1
  obtain ⟨a1, c1, rfl, m1, _⟩ := r1.form
  clear r1 ok hk0
  have HF : Hid (fFirstCycleLabelingImpl x k = if walkGood x && inB k 1 60 then fcl x.labels.toNat x.arcs k.toNat else none) := rfl
  have K0 : Hid (Keeps w (w.alloc (.cells #[.int .i64 x.labels, .slice a1 x.arcs.length c1] 27))) := (Keeps.refl _).alloc _
  have C0 : Hid ((w.alloc (.cells #[.int .i64 x.labels, .slice a1 x.arcs.length c1] 27)).cell? ⟨w.heap.size, 0, none⟩ = some (.int .i64 x.labels)) := by show _ = _; rw [World.cell?_alloc_at _ _ _ _ rfl]; rfl
  have C1 : Hid ((w.alloc (.cells #[.int .i64 x.labels, .slice a1 x.arcs.length c1] 27)).cell? ⟨w.heap.size, 1, none⟩ = some (.slice a1 x.arcs.length c1)) := by show _ = _; rw [World.cell?_alloc_at _ _ _ _ rfl]; rfl
  cases hg : walkGood x
  · have HG := Lib.hid hg
    clear hg
    go_enter Try.func46, Try.ntmps46
    go_wp2_with fail
    refine (isWalkI_any _ x _ ⟨_, rfl, R1.out.keep K0.out⟩).mono ?_
    rintro e w1 ⟨rfl, hk⟩
    rw [HG.out]
    have HK1 := Lib.hid (Keeps.trans K0.out hk)
    have D0 := cell_keep hk C0.out
    have D1 := cell_keep hk C1.out
    clear hk
    go_wp2
    go_ret2
    rw [show fFirstCycleLabelingImpl x k = none by rw [HF.out, HG.out]; rfl]
    exact RetSB.none HK1.out
  have HG := Lib.hid hg
  obtain ⟨b1, b2, _⟩ := walkGood_arc hg
  clear hg
  cases hb : inB k 1 60
  · have HB := Lib.hid hb
    clear hb
    go_enter Try.func46, Try.ntmps46
    go_wp2_with fail
    refine (isWalkI_any _ x _ ⟨_, rfl, R1.out.keep K0.out⟩).mono ?_
    rintro e w1 ⟨rfl, hk⟩
    rw [HG.out]
    have HK1 := Lib.hid (Keeps.trans K0.out hk)
    have D0 := cell_keep hk C0.out
    have D1 := cell_keep hk C1.out
    clear hk
    go_wp2_with (go_at_call 56; refine (within_any _ _ _ _).mono ?_; rintro e w' ⟨rfl, rfl⟩; rw [HB.out])
    go_ret2
    rw [show fFirstCycleLabelingImpl x k = none by rw [HF.out, HG.out, HB.out]; rfl]
    exact RetSB.none HK1.out
  have HB := Lib.hid hb
  obtain ⟨bk1, bk2⟩ := inB_true.1 hb
  clear hb
  obtain ⟨kk, rfl⟩ := Int.eq_ofNat_of_zero_le (show 0 ≤ k by omega)
  obtain ⟨n, hn⟩ : ∃ n : Nat, x.labels = n := ⟨x.labels.toNat, by omega⟩
  have HN := Lib.hid hn
  have HNN : Hid (x.labels.toNat = n) := by show _ = _; omega
  have hn12 : n ≤ 12 := by omega
  have hn1 : 1 ≤ n := by omega
  clear hn
  have HF2 : Hid (fFirstCycleLabelingImpl x kk = fcl n x.arcs kk) := by show _ = _; rw [HF.out, HG.out, HB.out, HNN.out]; rfl
  go_enter Try.func46, Try.ntmps46
  go_wp2_with fail
  refine (isWalkI_any _ x _ ⟨_, rfl, R1.out.keep K0.out⟩).mono ?_
  rintro e w1 ⟨rfl, hk⟩
  rw [HG.out]
  have HK1 := Lib.hid (Keeps.trans K0.out hk)
  have D0 := cell_keep hk C0.out
  have D1 := cell_keep hk C1.out
  clear hk
  have HD0 := Lib.hid D0
  have HD1 := Lib.hid D1
  rw [HN.out] at D0
  have hnn := fun (w : World) (a : Option Addr) (n c : Nat) => run_neq_slice_nil_any (P := Try.prog) w 43 3 a n c 0 0 Try.underlying43
  go_wp2_with (go_at_call 56; refine (within_any _ _ _ _).mono ?_; rintro e w' ⟨rfl, rfl⟩; rw [HB.out])
  clear D0 D1
  go_loopw [18] (fun av wr => ∃ a : Nat, av = .int .i64 a ∧ a ≤ n ∧ (∀ j, j < a → powB n x.arcs kk j j = false) ∧ Keeps w1 wr) (fun av _ => n - (intOf av).toNat)
  case atStart => exact ⟨0, rfl, Nat.zero_le _, fun j hj => by omega, Keeps.refl _⟩
  case round =>
    obtain ⟨a, rfl, ha, hall, hK⟩ := hrel
    have HA := Lib.hid hall
    have HK := Lib.hid hK
    have E0 := cell_keep hK HD0.out
    have E1 := cell_keep hK HD1.out
    clear hall hK
    by_cases hlt : a < n
    · have hax : (a : Int) < x.labels := by rw [HN.out]; omega
      have HCC := Lib.hid (walkBetweenM_any (.agg #[.int .i64 x.labels, .slice a1 x.arcs.length c1]) x a a kk wr ⟨_, rfl, R1.out.keep (Keeps.trans HK1.out HK.out)⟩ HG.out hax hax (by omega))
      rw [HNN.out] at HCC
      cases hp : powB n x.arcs kk a a
      · rw [fBtw_neg hp] at HCC
        have HP := Lib.hid hp
        clear hp
        go_wp2_with (go_at_call 79; refine (HCC.out).mono ?_; rintro e w2 ⟨rfl, hk2⟩; have HK2 := Lib.hid hk2; clear hk2)
        go_roundw
        case rel =>
          refine ⟨a + 1, by go_num, by omega, fun j hj => ?_, Keeps.trans HK.out HK2.out⟩
          by_cases e : j = a
          · rw [e]; exact HP.out
          · exact HA.out j (by omega)
        case measure => simp [intOf]; omega
      · rw [fBtw_pos hp] at HCC
        have HP := Lib.hid hp
        clear hp
        go_wp2_with fail
        refine (HCC.out).mono ?_
        rintro e w2 ⟨rv, rfl, hO, hk2⟩
        have HO := Lib.hid hO
        have HK2 := Lib.hid hk2
        have hll : (btwL n x.arcs a a kk).length = kk + 1 := btwL_length _ _ _ _ _
        obtain ⟨rg, rc, rfl, -⟩ := hO.form (by omega)
        have hcap := hO.capLe
        rw [hll] at HO hcap ⊢
        have hc1 : (kk : Int) ≤ (rc : Int) := by omega
        clear hO hk2 hll
        go_wp2
        go_ret2
        rw [HF2.out, fcl_some hlt HP.out HA.out]
        refine ⟨_, rfl, (HO.out.take kk (by rw [btwL_length]; omega)).mono (Keeps.trans HK1.out HK.out).size, ?_, Keeps.trans HK1.out (Keeps.trans HK.out HK2.out)⟩
        show ((btwL n x.arcs a a kk).take kk).length ≤ 1000000000
        simp; omega
    · have hnx : ¬ (a : Int) < x.labels := by rw [HN.out]; omega
      go_wp2
      go_ret2
      rw [HF2.out, fcl_none (fun j hj => HA.out j (by omega))]
      exact RetSB.none (Keeps.trans HK1.out HK.out)

end Go.Proofs.Ytcjmpodljhcbhaa
