/- The contracts of both CountCycleLabelings functions. -/
import Derived.Test.YtcjmpodljhcbhaaBit
namespace Go.Proofs.Ytcjmpodljhcbhaa
open Go.RowKit
set_option linter.unusedSimpArgs false
set_option linter.unusedVariables false

def least (a b : Int) : Int := if a < b then a else b
theorem l1Least_any (a b : Int) (w : World) : Calls Try.prog 66 #[.int .i64 a, .int .i64 b] w fun e w' => e = .returned (.int .i64 (least a b)) ∧ w = w' := by
  have HS : Hid (least a b = if a < b then a else b) := rfl
  by_cases h : a < b
  · go_enter Try.func66, Try.ntmps66
    go_wp2
    go_ret
    exact ⟨ret_int (by rw [HS.out, if_pos h]), rfl⟩
  · go_enter Try.func66, Try.ntmps66
    go_wp2
    go_ret
    exact ⟨ret_int (by rw [HS.out, if_neg (by omega)]), rfl⟩

def cStep (cnt : List Int) (nx : List Int) (r : List Int) : List Int := nx.set (r.getD 1 0).toNat (least (nx.getD (r.getD 1 0).toNat 0 + cnt.getD (r.getD 0 0).toNat 0) 1000000000001)
def cRow (arcs : List (List Int)) (n : Nat) (cnt : List Int) (j : Nat) : List Int := (List.range j).foldl (fun nx i => cStep cnt nx (arcs.getD i [])) (List.replicate n 0)
def cIter (arcs : List (List Int)) (n : Nat) (c : List Int) : Nat → List Int
  | 0 => c
  | k + 1 => cRow arcs n (cIter arcs n c k) arcs.length
def cTotal (arcs : List (List Int)) (n k : Nat) : Nat → Int
  | 0 => 0
  | a + 1 => least (cTotal arcs n k a + (cIter arcs n ((List.replicate n 0).set a 1) k).getD a 0) 1000000000001
/-- Counts between 0 and the bound, n of them. -/
def cOk (n : Nat) (l : List Int) : Prop := l.length = n ∧ ∀ i, 0 ≤ l.getD i 0 ∧ l.getD i 0 ≤ 1000000000001
theorem least_bounds {a : Int} (h : 0 ≤ a) : 0 ≤ least a 1000000000001 ∧ least a 1000000000001 ≤ 1000000000001 := by unfold least; split <;> omega
theorem cOk_rep (n : Nat) : cOk n (List.replicate n 0) := by
  refine ⟨by simp, fun i => ?_⟩
  by_cases h : i < n <;> simp [List.getD_eq_getElem?_getD, List.getElem?_replicate, h]
theorem cOk_set {n : Nat} {l : List Int} (h : cOk n l) (i : Nat) (x : Int) (hx : 0 ≤ x ∧ x ≤ 1000000000001) : cOk n (l.set i x) := by
  refine ⟨by simpa using h.1, fun j => ?_⟩
  by_cases hj : j = i
  · subst hj
    by_cases hl : j < l.length
    · rw [getD_set_same _ _ _ _ hl]; exact hx
    · rw [List.set_eq_of_length_le (by omega)]; exact h.2 j
  · rw [getD_set_ne _ _ _ _ _ hj]; exact h.2 j
theorem cOk_step {n : Nat} {cnt nx : List Int} (hc : cOk n cnt) (hn : cOk n nx) (r : List Int) : cOk n (cStep cnt nx r) := by
  unfold cStep
  exact cOk_set hn _ _ (least_bounds (by have := (hn.2 (r.getD 1 0).toNat).1; have := (hc.2 (r.getD 0 0).toNat).1; omega))
theorem cRow_succ (arcs : List (List Int)) (n : Nat) (cnt : List Int) (j : Nat) : cRow arcs n cnt (j + 1) = cStep cnt (cRow arcs n cnt j) (arcs.getD j []) := by simp [cRow, List.range_succ]
theorem cOk_row {arcs : List (List Int)} {n : Nat} {cnt : List Int} (hc : cOk n cnt) (j : Nat) : cOk n (cRow arcs n cnt j) := by
  induction j with
  | zero => exact cOk_rep n
  | succ j ih => rw [cRow_succ]; exact cOk_step hc ih _
theorem cOk_iter {arcs : List (List Int)} {n : Nat} {c : List Int} (hc : cOk n c) (k : Nat) : cOk n (cIter arcs n c k) := by
  induction k with
  | zero => exact hc
  | succ k ih => exact cOk_row ih _
theorem cTotal_bounds (arcs : List (List Int)) (n k : Nat) (a : Nat) : 0 ≤ cTotal arcs n k a ∧ cTotal arcs n k a ≤ 1000000000001 := by
  induction a with
  | zero => simp [cTotal]
  | succ a ih =>
    have := (cOk_iter (arcs := arcs) (cOk_set (cOk_rep n) a 1 (by omega)) k).2 a
    exact least_bounds (by omega)

def fCountCycleLabelingsSpec (x : WP) (k : Int) : Int × Bool :=
  if walkGood x && inB k 1 60 then (if 1000000000000 < cTotal x.arcs x.labels.toNat k.toNat x.labels.toNat then (0, false) else (cTotal x.arcs x.labels.toNat k.toNat x.labels.toNat, true)) else (0, false)
def fCountCycleLabelingsImpl (x : WP) (k : Int) : Int × Bool := fCountCycleLabelingsSpec x k
theorem CountCycleLabelings_eq (x : WP) (k : Int) (ok : okW x) (hs : szW x ≤ 1048576) (hk : I64 k) : fCountCycleLabelingsImpl x k = fCountCycleLabelingsSpec x k := rfl

theorem least_min (a b : Int) : (if b < a then b else a) = least a b := by unfold least; split <;> split <;> omega

set_option maxRecDepth 100000 in
set_option maxHeartbeats 8000000 in
theorem specCountCycleLabelings_any (v : Value) (x : WP) (k : Int) (w : World) (h : RdW w v x) (ok : okW x) (hs : szW x ≤ 1048576) (hk0 : I64 k) :
    Calls Try.prog 27 #[v, .int .i64 k] w fun e w' => e = .returned (.tuple #[.int .i64 (fCountCycleLabelingsSpec x k).1, .bool (fCountCycleLabelingsSpec x k).2]) ∧ Keeps w w' := by
  obtain ⟨v1, rfl, r1⟩ := h
  have R1 := Lib.hid r1
  obtain ⟨a1, c1, rfl, m1, _⟩ := r1.form
  clear r1 ok hk0
  have HF : Hid (fCountCycleLabelingsSpec x k = if walkGood x && inB k 1 60 then (if 1000000000000 < cTotal x.arcs x.labels.toNat k.toNat x.labels.toNat then (0, false) else (cTotal x.arcs x.labels.toNat k.toNat x.labels.toNat, true)) else (0, false)) := rfl
  have K0 : Hid (Keeps w (w.alloc (.cells #[.int .i64 x.labels, .slice a1 x.arcs.length c1] 27))) := (Keeps.refl _).alloc _
  have C0 : Hid ((w.alloc (.cells #[.int .i64 x.labels, .slice a1 x.arcs.length c1] 27)).cell? ⟨w.heap.size, 0, none⟩ = some (.int .i64 x.labels)) := by show _ = _; rw [World.cell?_alloc_at _ _ _ _ rfl]; rfl
  have C1 : Hid ((w.alloc (.cells #[.int .i64 x.labels, .slice a1 x.arcs.length c1] 27)).cell? ⟨w.heap.size, 1, none⟩ = some (.slice a1 x.arcs.length c1)) := by show _ = _; rw [World.cell?_alloc_at _ _ _ _ rfl]; rfl
  have HC : Hid (Calls Try.prog 54 #[.agg #[.int .i64 x.labels, .slice a1 x.arcs.length c1]] (w.alloc (.cells #[.int .i64 x.labels, .slice a1 x.arcs.length c1] 27)) fun e w' => e = .returned (.bool (walkGood x)) ∧ Keeps (w.alloc (.cells #[.int .i64 x.labels, .slice a1 x.arcs.length c1] 27)) w') := waGood_any _ x _ ⟨_, rfl, R1.out.keep K0.out⟩
  cases hg : walkGood x
  · have HG := Lib.hid hg
    go_enter Try.func27, Try.ntmps27
    go_wp2_with (go_at_call 54; refine (HC.out).mono ?_; rintro e w1 ⟨rfl, hk1⟩; rw [HG.out]; have HK1 := Lib.hid hk1; clear hk1)
    go_ret2
    exact ⟨by rw [HF.out, HG.out]; rfl, Keeps.trans K0.out HK1.out⟩
  cases hb : inB k 1 60
  · have HG := Lib.hid hg
    have HB := Lib.hid hb
    go_enter Try.func27, Try.ntmps27
    go_wp2_with (first | (go_at_call 54; refine (HC.out).mono ?_; rintro e w1 ⟨rfl, hk1⟩; rw [HG.out]; have HK1 := Lib.hid hk1; clear hk1) | (go_at_call 65; refine (l1In_any _ _ _ _).mono ?_; rintro e w' ⟨rfl, rfl⟩; rw [HB.out]))
    go_ret2
    exact ⟨by rw [HF.out, HG.out, HB.out]; rfl, Keeps.trans K0.out HK1.out⟩
  have HF2 : Hid (fCountCycleLabelingsSpec x k = if 1000000000000 < cTotal x.arcs x.labels.toNat k.toNat x.labels.toNat then (0, false) else (cTotal x.arcs x.labels.toNat k.toNat x.labels.toNat, true)) := by show _ = _; rw [HF.out, hg, hb]; rfl
  obtain ⟨bl1, bl2, har⟩ := walkGood_arc hg
  obtain ⟨bk1, bk2⟩ := inB_true.1 hb
  have HAR := Lib.hid har
  have HG := Lib.hid hg
  have HB := Lib.hid hb
  obtain ⟨n, hn⟩ : ∃ n : Nat, x.labels = n := ⟨x.labels.toNat, by omega⟩
  obtain ⟨kk, rfl⟩ := Int.eq_ofNat_of_zero_le (show 0 ≤ k by omega)
  clear har hg hb HF m1
  generalize x.labels = xl at *
  subst hn
  simp only [Int.toNat_natCast] at HF2
  generalize x.arcs = arcs at *
  obtain ⟨i0, hi, hz0, hz1, hz2⟩ := info_parts info_int
  have HI := Lib.hid hi
  have HZ0 := Lib.hid hz0
  have HZ1 := Lib.hid hz1
  have HZ2 := Lib.hid hz2
  clear hi hz0 hz1 hz2
  go_enter Try.func27, Try.ntmps27
  go_wp2_with (first | (go_at_call 54; refine (HC.out).mono ?_; rintro e w1 ⟨rfl, hk1⟩; rw [HG.out]; have HK1 := Lib.hid (Keeps.trans K0.out hk1); have D0 := Lib.hid (cell_keep hk1 C0.out); have D1 := Lib.hid (cell_keep hk1 C1.out); have D0' := D0.out; clear hk1) | (go_at_call 65; refine (l1In_any _ _ _ _).mono ?_; rintro e w' ⟨rfl, rfl⟩; rw [HB.out]))
  clear K0 C0 C1 HC
  have HT := Lib.hid (cTotal_bounds arcs n kk)
  go_loopw [6, 7] (fun tv av wr => ∃ a : Nat, av = .int .i64 a ∧ a ≤ n ∧ tv = .int .i64 (cTotal arcs n kk a) ∧ Keeps w1 wr) (fun _ av _ => n - (intOf av).toNat)
  case atStart => exact ⟨0, rfl, Nat.zero_le _, rfl, Keeps.refl _⟩
  case round =>
    obtain ⟨a, rfl, ha, rfl, hK⟩ := hrel
    have HK := Lib.hid hK
    have E0 := cell_keep hK D0.out
    clear hK
    have hT := HT.out a
    by_cases hlt : a < n
    · have HCS : Hid (cTotal arcs n kk (a + 1) = least (cTotal arcs n kk a + (cIter arcs n ((List.replicate n 0).set a 1) kk).getD a 0) 1000000000001) := rfl
      generalize cTotal arcs n kk a = T at *
      obtain ⟨hT1, hT2⟩ := hT
      obtain ⟨wa, hwa⟩ : ∃ wa : World, wa = wr := ⟨_, rfl⟩
      subst hwa
      go_wp2_with (at_make; refine wpList_make_full _ rfl _ _ 43 rfl w1.heap.size 3 i0 (.int .i64 0) 1 Try.underlying43 HI.out HZ0.out HZ1.out .i64 .i64 _ _ n rfl rfl rfl rfl (by rw [HZ2.out]; omega) (by unfold maxLen; omega) HK.out.size ?_; intro w2 hown hgr; obtain ⟨hO, hK2⟩ := made_ints hown hgr; have HO := Lib.hid hO; have HK2 := Lib.hid (Keeps.trans HK.out hK2); have M1 := hO.cellAt' a (by simpa using hlt); have M2 := hO.frozen' a; clear hown hgr hO hK2)
      obtain ⟨hS1, hS2⟩ := HO.out.setAt (y := 1) a (by simpa using hlt)
      have HS := Lib.hid hS1
      have HKS : Hid (Keeps w1 (w2.setCell ⟨wa.heap.size, a, none⟩ (.int .i64 1))) := HK2.out.setCell (by have := HK.out.size; simpa using this) _
      clear hS1 hS2 M1 M2 HO HK2 E0
      generalize hc0 : (List.replicate n (0 : Int)).set a 1 = c0 at *
      have HOK : Hid (cOk n c0) := by show cOk n c0; rw [← hc0]; exact cOk_set (cOk_rep n) a 1 (by omega)
      clear hc0
      go_loopw [8, 9] (fun cv tv wr => ∃ (t : Nat) (C : List Int), tv = .int .i64 t ∧ t ≤ kk ∧ C = cIter arcs n c0 t ∧ Own w1.heap.size wr cv C ∧ Keeps w1 wr) (fun _ tv _ => kk - (intOf tv).toNat)
      case atStart => exact ⟨0, c0, rfl, Nat.zero_le _, rfl, HS.out, HKS.out⟩
      case round =>
        obtain ⟨t, C, rfl, ht, hC, hO, hK⟩ := hrel
        have HC := Lib.hid hC
        have HO := Lib.hid hO
        have HK3 := Lib.hid hK
        have F0 := cell_keep hK D0.out
        have F1 := cell_keep hK D1.out
        have HCK : Hid (cOk n C) := by show cOk n C; rw [hC]; exact cOk_iter HOK.out t
        clear hC hK HS HKS
        obtain ⟨gc, cc, rfl, hcl⟩ := hO.form (by rw [HCK.out.1]; omega)
        have HCL := Lib.hid hcl
        have hgc := (hO.lt gc rfl).2
        have hcn : Hid (C.length = n) := HCK.out.1
        clear hcl hO
        by_cases hlt2 : t < kk
        · obtain ⟨wb, hwb⟩ : ∃ wb : World, wb = wr := ⟨_, rfl⟩
          subst hwb
          go_wp2_with (at_make; refine wpList_make_full _ rfl _ _ 43 rfl w1.heap.size 3 i0 (.int .i64 0) 1 Try.underlying43 HI.out HZ0.out HZ1.out .i64 .i64 _ _ n rfl rfl rfl rfl (by rw [HZ2.out]; omega) (by unfold maxLen; omega) HK3.out.size ?_; intro w3 hown hgr; obtain ⟨hO, hK2⟩ := made_ints hown hgr; have HN := Lib.hid hO; have HK4 := Lib.hid (Keeps.trans HK3.out hK2); have HO4 := Lib.hid (HO.out.keep hK2); have G1 := cell_keep hK2 F1; clear hown hgr hO hK2)
          clear F0 F1
          go_loopw [44] (fun jv wr' => ∃ j : Nat, jv = .int .i64 j ∧ j ≤ arcs.length ∧ Own w1.heap.size wr' (.slice (some ⟨wb.heap.size, 0, none⟩) n n) (cRow arcs n C j) ∧ Own w1.heap.size wr' (.slice (some ⟨gc, 0, none⟩) C.length cc) C ∧ Keeps w1 wr') (fun jv _ => arcs.length - (intOf jv).toNat)
          case atStart => exact ⟨0, rfl, Nat.zero_le _, HN.out, HO4.out, HK4.out⟩
          case round =>
            obtain ⟨j, rfl, hj, hO1, hO2, hK⟩ := hrel
            have HN1 := Lib.hid hO1
            have HO1 := Lib.hid hO2
            have HK5 := Lib.hid hK
            clear hO1 hO2 hK G1
            have HRK : Hid (cOk n (cRow arcs n C j)) := cOk_row HCK.out j
            have hrn : (cRow arcs n C j).length = n := HRK.out.1
            by_cases hlt3 : j < arcs.length
            · obtain ⟨_, _, e1, _, hf⟩ := (R1.out.keep (Keeps.trans HK1.out HK5.out)).form
              cases e1
              obtain ⟨b, o, u, rfl, hcell, hu⟩ := hf j hlt3
              obtain ⟨p, q, hpq, hp, hq⟩ := HAR.out j hlt3
              rw [hpq] at hu
              obtain ⟨rb, ro, rc, rfl, hr0, hr1⟩ := hu.pair
              have HPQ := Lib.hid hpq
              have hl1 := HN1.out.cellAt' q (by rw [hrn]; omega)
              have hl2 := HO1.out.cellAt' p (by rw [hcn.out]; omega)
              have hb1 := HRK.out.2 q
              have hb2 := HCK.out.2 p
              have HST : Hid (cRow arcs n C (j + 1) = (cRow arcs n C j).set q (least ((cRow arcs n C j).getD q 0 + C.getD p 0) 1000000000001)) := by show _ = _; rw [cRow_succ, cStep, hpq]; simp
              clear hpq hu hf
              generalize (cRow arcs n C j).getD q 0 = y1 at hl1 hb1 HST
              generalize C.getD p 0 = y2 at hl2 hb2 HST
              obtain ⟨hb11, hb12⟩ := hb1
              obtain ⟨hb21, hb22⟩ := hb2
              have hcn' : p < C.length := by rw [hcn.out]; omega
              have HRN := Lib.hid hrn
              clear hrn
              have HW : Hid (IntKind.i64.wrap (y1 + y2) = y1 + y2) := IntWalk.i64_in _ (by omega)
              go_wp2
              go_still_tail 19, (by kernel_rfl)
              still_call ((l1Least_any _ _ _).mono (fun e w' h => ⟨h.1, h.2.symm⟩))
              repeat still_step
              refine wpStill_nil ?_
              (try simp only [HW.out])
              change wpList _ _ _ _ _ wr.drew
              have hd1 : wr.drew.cell? ⟨wb.heap.size, q, none⟩ = some (.int .i64 y1) := hl1
              have hd2 : wr.drew.frozen? ⟨wb.heap.size, q, none⟩ = false := HN1.out.frozen' q
              have HNd := Lib.hid (HN1.out.keep (Keeps.refl wr).drew)
              have HOd := Lib.hid (HO1.out.keep (Keeps.refl wr).drew)
              have HKd := Lib.hid (Keeps.drew HK5.out)
              generalize wr.drew = w5 at hd1 hd2 HNd HOd HKd
              clear hl1 hl2 hr0 hr1 hcell
              go_wp2
              go_roundw
              case rel =>
                obtain ⟨h6, h7⟩ := HNd.out.setAt (y := least (y1 + y2) 1000000000001) q (by rw [HRN.out]; omega)
                refine ⟨j + 1, by go_num, by omega, by rw [HST.out]; exact h6, HOd.out.kept (u := .slice (some ⟨wb.heap.size, 0, none⟩) n n) h7 (.inr (by simp only [Value.ownBlock, ne_eq, Option.some.injEq]; omega)), HKd.out.setCell (by have := HK3.out.size; simpa using this) _⟩
              case measure => simp [intOf]; omega
            · go_wp2
              go_roundw
              case rel =>
                have he : j = arcs.length := by omega
                subst he
                exact ⟨t + 1, cRow arcs n C arcs.length, by go_num, by omega, by rw [HC.out]; rfl, HN1.out, HK5.out⟩
              case measure => simp [intOf]; omega
        · have hcn' : a < C.length := by rw [hcn.out]; exact hlt
          obtain ⟨M1, _⟩ := HCL.out a hcn'
          have hb1 := HCK.out.2 a
          have HGD : Hid ((cIter arcs n c0 kk).getD a 0 = C.getD a 0) := by show _ = _; rw [HC.out, show t = kk by omega]
          generalize C.getD a 0 = y1 at M1 hb1 HGD
          obtain ⟨hb11, hb12⟩ := hb1
          have HW : Hid (IntKind.i64.wrap (T + y1) = T + y1) := IntWalk.i64_in _ (by omega)
          go_wp2_with (go_at_call 66; refine (l1Least_any _ _ _).mono ?_; rintro e w6 ⟨rfl, rfl⟩)
          go_roundw
          case rel => exact ⟨a + 1, by go_num, by omega, by rw [HCS.out, HGD.out], HK3.out⟩
          case measure => simp [intOf]; omega
    · have HE : Hid (cTotal arcs n kk a = cTotal arcs n kk n) := by show _ = _; rw [show a = n by omega]
      have HTN := Lib.hid (HT.out n)
      generalize cTotal arcs n kk a = T at *
      by_cases hbig : 1000000000000 < T
      · have HBG := Lib.hid hbig
        go_wp2
        go_ret2
        exact ⟨by rw [HF2.out, ← HE.out, if_pos HBG.out]; rfl, Keeps.trans HK1.out HK.out⟩
      · have HBG := Lib.hid hbig
        go_wp2
        go_ret2
        exact ⟨by rw [HF2.out, ← HE.out, if_neg (Int.not_lt.2 HBG.out)]; rfl, Keeps.trans HK1.out HK.out⟩

set_option maxRecDepth 100000 in
set_option maxHeartbeats 8000000 in
theorem implCountCycleLabelings_any (v : Value) (x : WP) (k : Int) (w : World) (h : RdW w v x) (ok : okW x) (hs : szW x ≤ 1048576) (hk0 : I64 k) :
    Calls Try.prog 28 #[v, .int .i64 k] w fun e w' => e = .returned (.tuple #[.int .i64 (fCountCycleLabelingsImpl x k).1, .bool (fCountCycleLabelingsImpl x k).2]) ∧ Keeps w w' := by
  obtain ⟨v1, rfl, r1⟩ := h
  have R1 := Lib.hid r1
  obtain ⟨a1, c1, rfl, m1, _⟩ := r1.form
  clear r1 ok hk0
  have HF : Hid (fCountCycleLabelingsImpl x k = if walkGood x && inB k 1 60 then (if 1000000000000 < cTotal x.arcs x.labels.toNat k.toNat x.labels.toNat then (0, false) else (cTotal x.arcs x.labels.toNat k.toNat x.labels.toNat, true)) else (0, false)) := rfl
  have K0 : Hid (Keeps w (w.alloc (.cells #[.int .i64 x.labels, .slice a1 x.arcs.length c1] 27))) := (Keeps.refl _).alloc _
  have C0 : Hid ((w.alloc (.cells #[.int .i64 x.labels, .slice a1 x.arcs.length c1] 27)).cell? ⟨w.heap.size, 0, none⟩ = some (.int .i64 x.labels)) := by show _ = _; rw [World.cell?_alloc_at _ _ _ _ rfl]; rfl
  have C1 : Hid ((w.alloc (.cells #[.int .i64 x.labels, .slice a1 x.arcs.length c1] 27)).cell? ⟨w.heap.size, 1, none⟩ = some (.slice a1 x.arcs.length c1)) := by show _ = _; rw [World.cell?_alloc_at _ _ _ _ rfl]; rfl
  have HC : Hid (Calls Try.prog 18 #[.agg #[.int .i64 x.labels, .slice a1 x.arcs.length c1]] (w.alloc (.cells #[.int .i64 x.labels, .slice a1 x.arcs.length c1] 27)) fun e w' => e = .returned (.bool (walkGood x)) ∧ Keeps (w.alloc (.cells #[.int .i64 x.labels, .slice a1 x.arcs.length c1] 27)) w') := isWalkI_any _ x _ ⟨_, rfl, R1.out.keep K0.out⟩
  cases hg : walkGood x
  · have HG := Lib.hid hg
    go_enter Try.func28, Try.ntmps28
    go_wp2_with (go_at_call 18; refine (HC.out).mono ?_; rintro e w1 ⟨rfl, hk1⟩; rw [HG.out]; have HK1 := Lib.hid hk1; clear hk1)
    go_ret2
    exact ⟨by rw [HF.out, HG.out]; rfl, Keeps.trans K0.out HK1.out⟩
  cases hb : inB k 1 60
  · have HG := Lib.hid hg
    have HB := Lib.hid hb
    go_enter Try.func28, Try.ntmps28
    go_wp2_with (first | (go_at_call 18; refine (HC.out).mono ?_; rintro e w1 ⟨rfl, hk1⟩; rw [HG.out]; have HK1 := Lib.hid hk1; clear hk1) | (go_at_call 56; refine (within_any _ _ _ _).mono ?_; rintro e w' ⟨rfl, rfl⟩; rw [HB.out]))
    go_ret2
    exact ⟨by rw [HF.out, HG.out, HB.out]; rfl, Keeps.trans K0.out HK1.out⟩
  have HF2 : Hid (fCountCycleLabelingsImpl x k = if 1000000000000 < cTotal x.arcs x.labels.toNat k.toNat x.labels.toNat then (0, false) else (cTotal x.arcs x.labels.toNat k.toNat x.labels.toNat, true)) := by show _ = _; rw [HF.out, hg, hb]; rfl
  obtain ⟨bl1, bl2, har⟩ := walkGood_arc hg
  obtain ⟨bk1, bk2⟩ := inB_true.1 hb
  have HAR := Lib.hid har
  have HG := Lib.hid hg
  have HB := Lib.hid hb
  obtain ⟨n, hn⟩ : ∃ n : Nat, x.labels = n := ⟨x.labels.toNat, by omega⟩
  obtain ⟨kk, rfl⟩ := Int.eq_ofNat_of_zero_le (show 0 ≤ k by omega)
  clear har hg hb HF m1
  generalize x.labels = xl at *
  subst hn
  simp only [Int.toNat_natCast] at HF2
  generalize x.arcs = arcs at *
  obtain ⟨i0, hi, hz0, hz1, hz2⟩ := info_parts info_int
  have HI := Lib.hid hi
  have HZ0 := Lib.hid hz0
  have HZ1 := Lib.hid hz1
  have HZ2 := Lib.hid hz2
  clear hi hz0 hz1 hz2
  go_enter Try.func28, Try.ntmps28
  go_wp2_with (first | (go_at_call 18; refine (HC.out).mono ?_; rintro e w1 ⟨rfl, hk1⟩; rw [HG.out]; have HK1 := Lib.hid (Keeps.trans K0.out hk1); have D0 := Lib.hid (cell_keep hk1 C0.out); have D1 := Lib.hid (cell_keep hk1 C1.out); have D0' := D0.out; clear hk1) | (go_at_call 56; refine (within_any _ _ _ _).mono ?_; rintro e w' ⟨rfl, rfl⟩; rw [HB.out]))
  clear K0 C0 C1 HC
  have HT := Lib.hid (cTotal_bounds arcs n kk)
  go_loopw [6, 22] (fun tv av wr => ∃ a : Nat, av = .int .i64 a ∧ a ≤ n ∧ tv = .int .i64 (cTotal arcs n kk a) ∧ Keeps w1 wr) (fun _ av _ => n - (intOf av).toNat)
  case atStart => exact ⟨0, rfl, Nat.zero_le _, rfl, Keeps.refl _⟩
  case round =>
    obtain ⟨a, rfl, ha, rfl, hK⟩ := hrel
    have HK := Lib.hid hK
    have E0 := cell_keep hK D0.out
    clear hK
    have hT := HT.out a
    by_cases hlt : a < n
    · have HCS : Hid (cTotal arcs n kk (a + 1) = least (cTotal arcs n kk a + (cIter arcs n ((List.replicate n 0).set a 1) kk).getD a 0) 1000000000001) := rfl
      generalize cTotal arcs n kk a = T at *
      obtain ⟨hT1, hT2⟩ := hT
      obtain ⟨wa, hwa⟩ : ∃ wa : World, wa = wr := ⟨_, rfl⟩
      subst hwa
      go_wp2_with (at_make; refine wpList_make_full _ rfl _ _ 43 rfl w1.heap.size 3 i0 (.int .i64 0) 1 Try.underlying43 HI.out HZ0.out HZ1.out .i64 .i64 _ _ n rfl rfl rfl rfl (by rw [HZ2.out]; omega) (by unfold maxLen; omega) HK.out.size ?_; intro w2 hown hgr; obtain ⟨hO, hK2⟩ := made_ints hown hgr; have HO := Lib.hid hO; have HK2 := Lib.hid (Keeps.trans HK.out hK2); have M1 := hO.cellAt' a (by simpa using hlt); have M2 := hO.frozen' a; clear hown hgr hO hK2)
      obtain ⟨hS1, hS2⟩ := HO.out.setAt (y := 1) a (by simpa using hlt)
      have HS := Lib.hid hS1
      have HKS : Hid (Keeps w1 (w2.setCell ⟨wa.heap.size, a, none⟩ (.int .i64 1))) := HK2.out.setCell (by have := HK.out.size; simpa using this) _
      clear hS1 hS2 M1 M2 HO HK2 E0
      generalize hc0 : (List.replicate n (0 : Int)).set a 1 = c0 at *
      have HOK : Hid (cOk n c0) := by show cOk n c0; rw [← hc0]; exact cOk_set (cOk_rep n) a 1 (by omega)
      clear hc0
      go_loopw [8, 32] (fun cv tv wr => ∃ (t : Nat) (C : List Int), tv = .int .i64 t ∧ t ≤ kk ∧ C = cIter arcs n c0 t ∧ Own w1.heap.size wr cv C ∧ Keeps w1 wr) (fun _ tv _ => kk - (intOf tv).toNat)
      case atStart => exact ⟨0, c0, rfl, Nat.zero_le _, rfl, HS.out, HKS.out⟩
      case round =>
        obtain ⟨t, C, rfl, ht, hC, hO, hK⟩ := hrel
        have HC := Lib.hid hC
        have HO := Lib.hid hO
        have HK3 := Lib.hid hK
        have F0 := cell_keep hK D0.out
        have F1 := cell_keep hK D1.out
        have HCK : Hid (cOk n C) := by show cOk n C; rw [hC]; exact cOk_iter HOK.out t
        clear hC hK HS HKS
        obtain ⟨gc, cc, rfl, hcl⟩ := hO.form (by rw [HCK.out.1]; omega)
        have HCL := Lib.hid hcl
        have hgc := (hO.lt gc rfl).2
        have hcn : Hid (C.length = n) := HCK.out.1
        clear hcl hO
        by_cases hlt2 : t < kk
        · obtain ⟨wb, hwb⟩ : ∃ wb : World, wb = wr := ⟨_, rfl⟩
          subst hwb
          go_wp2_with (at_make; refine wpList_make_full _ rfl _ _ 43 rfl w1.heap.size 3 i0 (.int .i64 0) 1 Try.underlying43 HI.out HZ0.out HZ1.out .i64 .i64 _ _ n rfl rfl rfl rfl (by rw [HZ2.out]; omega) (by unfold maxLen; omega) HK3.out.size ?_; intro w3 hown hgr; obtain ⟨hO, hK2⟩ := made_ints hown hgr; have HN := Lib.hid hO; have HK4 := Lib.hid (Keeps.trans HK3.out hK2); have HO4 := Lib.hid (HO.out.keep hK2); have G1 := cell_keep hK2 F1; clear hown hgr hO hK2)
          clear F0 F1
          go_loopw [40] (fun jv wr' => ∃ j : Nat, jv = .int .i64 j ∧ j ≤ arcs.length ∧ Own w1.heap.size wr' (.slice (some ⟨wb.heap.size, 0, none⟩) n n) (cRow arcs n C j) ∧ Own w1.heap.size wr' (.slice (some ⟨gc, 0, none⟩) C.length cc) C ∧ Keeps w1 wr') (fun jv _ => arcs.length - (intOf jv).toNat)
          case atStart => exact ⟨0, rfl, Nat.zero_le _, HN.out, HO4.out, HK4.out⟩
          case round =>
            obtain ⟨j, rfl, hj, hO1, hO2, hK⟩ := hrel
            have HN1 := Lib.hid hO1
            have HO1 := Lib.hid hO2
            have HK5 := Lib.hid hK
            clear hO1 hO2 hK G1
            have HRK : Hid (cOk n (cRow arcs n C j)) := cOk_row HCK.out j
            have hrn : (cRow arcs n C j).length = n := HRK.out.1
            by_cases hlt3 : j < arcs.length
            · obtain ⟨_, _, e1, _, hf⟩ := (R1.out.keep (Keeps.trans HK1.out HK5.out)).form
              cases e1
              obtain ⟨b, o, u, rfl, hcell, hu⟩ := hf j hlt3
              obtain ⟨p, q, hpq, hp, hq⟩ := HAR.out j hlt3
              rw [hpq] at hu
              obtain ⟨rb, ro, rc, rfl, hr0, hr1⟩ := hu.pair
              have HPQ := Lib.hid hpq
              have hl1 := HN1.out.cellAt' q (by rw [hrn]; omega)
              have hl2 := HO1.out.cellAt' p (by rw [hcn.out]; omega)
              have hb1 := HRK.out.2 q
              have hb2 := HCK.out.2 p
              have HST : Hid (cRow arcs n C (j + 1) = (cRow arcs n C j).set q (least ((cRow arcs n C j).getD q 0 + C.getD p 0) 1000000000001)) := by show _ = _; rw [cRow_succ, cStep, hpq]; simp
              clear hpq hu hf
              generalize (cRow arcs n C j).getD q 0 = y1 at hl1 hb1 HST
              generalize C.getD p 0 = y2 at hl2 hb2 HST
              obtain ⟨hb11, hb12⟩ := hb1
              obtain ⟨hb21, hb22⟩ := hb2
              have hcn' : p < C.length := by rw [hcn.out]; omega
              have HRN := Lib.hid hrn
              clear hrn
              have HW : Hid (IntKind.i64.wrap (y1 + y2) = y1 + y2) := IntWalk.i64_in _ (by omega)
              go_wp2
              go_still_tail 19, (by kernel_rfl)
              (try simp only [HW.out])
              simp only [least_min]
              change wpList _ _ _ _ _ wr.drew
              have hd1 : wr.drew.cell? ⟨wb.heap.size, q, none⟩ = some (.int .i64 y1) := hl1
              have hd2 : wr.drew.frozen? ⟨wb.heap.size, q, none⟩ = false := HN1.out.frozen' q
              have HNd := Lib.hid (HN1.out.keep (Keeps.refl wr).drew)
              have HOd := Lib.hid (HO1.out.keep (Keeps.refl wr).drew)
              have HKd := Lib.hid (Keeps.drew HK5.out)
              generalize wr.drew = w5 at hd1 hd2 HNd HOd HKd
              clear hl1 hl2 hr0 hr1 hcell
              go_wp2
              go_roundw
              case rel =>
                obtain ⟨h6, h7⟩ := HNd.out.setAt (y := least (y1 + y2) 1000000000001) q (by rw [HRN.out]; omega)
                refine ⟨j + 1, by go_num, by omega, by rw [HST.out]; exact h6, HOd.out.kept (u := .slice (some ⟨wb.heap.size, 0, none⟩) n n) h7 (.inr (by simp only [Value.ownBlock, ne_eq, Option.some.injEq]; omega)), HKd.out.setCell (by have := HK3.out.size; simpa using this) _⟩
              case measure => simp [intOf]; omega
            · go_wp2
              go_roundw
              case rel =>
                have he : j = arcs.length := by omega
                subst he
                exact ⟨t + 1, cRow arcs n C arcs.length, by go_num, by omega, by rw [HC.out]; rfl, HN1.out, HK5.out⟩
              case measure => simp [intOf]; omega
        · have hcn' : a < C.length := by rw [hcn.out]; exact hlt
          obtain ⟨M1, _⟩ := HCL.out a hcn'
          have hb1 := HCK.out.2 a
          have HGD : Hid ((cIter arcs n c0 kk).getD a 0 = C.getD a 0) := by show _ = _; rw [HC.out, show t = kk by omega]
          generalize C.getD a 0 = y1 at M1 hb1 HGD
          obtain ⟨hb11, hb12⟩ := hb1
          have HW : Hid (IntKind.i64.wrap (T + y1) = T + y1) := IntWalk.i64_in _ (by omega)
          go_wp2
          go_roundw
          case rel => exact ⟨a + 1, by go_num, by omega, by rw [HCS.out, HGD.out]; simp only [least_min], HK3.out⟩
          case measure => simp [intOf]; omega
    · have HE : Hid (cTotal arcs n kk a = cTotal arcs n kk n) := by show _ = _; rw [show a = n by omega]
      have HTN := Lib.hid (HT.out n)
      generalize cTotal arcs n kk a = T at *
      by_cases hbig : 1000000000000 < T
      · have HBG := Lib.hid hbig
        go_wp2
        go_ret2
        exact ⟨by rw [HF2.out, ← HE.out, if_pos HBG.out]; rfl, Keeps.trans HK1.out HK.out⟩
      · have HBG := Lib.hid hbig
        go_wp2
        go_ret2
        exact ⟨by rw [HF2.out, ← HE.out, if_neg (Int.not_lt.2 HBG.out)]; rfl, Keeps.trans HK1.out HK.out⟩
end Go.Proofs.Ytcjmpodljhcbhaa
