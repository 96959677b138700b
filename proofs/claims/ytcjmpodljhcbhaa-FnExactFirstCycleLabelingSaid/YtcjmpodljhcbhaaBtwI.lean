/- The contract of the method walkBetween. -/
import Derived.Test.YtcjmpodljhcbhaaBtw
import Derived.Deep.RegionLaw
namespace Go.Proofs.Ytcjmpodljhcbhaa
open Go.RowKit
set_option linter.unusedSimpArgs false
set_option linter.unusedVariables false

/-- The arcs, turned round. -/
def sw (arcs : List (List Int)) : List (List Int) := arcs.map fun r => [r.getD 1 0, r.getD 0 0]
theorem sw_length (arcs : List (List Int)) : (sw arcs).length = arcs.length := by simp [sw]
theorem sw_getD {arcs : List (List Int)} {j : Nat} {p q : Int} (hj : j < arcs.length) (h : arcs.getD j [] = [p, q]) : (sw arcs).getD j [] = [q, p] := by
  have e : arcs.getD j [] = arcs[j] := by simp [hj]
  rw [e] at h
  simp [sw, hj, h]
theorem sw_q {arcs : List (List Int)} {n : Nat} (h : ∀ i, i < arcs.length → ∃ p q : Nat, arcs.getD i [] = [(p : Int), (q : Int)] ∧ p < n) : ∀ i, i < (sw arcs).length → ∃ p q : Nat, (sw arcs).getD i [] = [(p : Int), (q : Int)] ∧ q < n := by
  intro i hi
  rw [sw_length] at hi
  obtain ⟨p, q, e, hp⟩ := h i hi
  exact ⟨q, p, sw_getD hi e, hp⟩
theorem mayB_sw {arcs : List (List Int)} (h : ∀ i, i < arcs.length → ∃ p q : Nat, arcs.getD i [] = [(p : Int), (q : Int)]) (a b : Nat) : mayB (sw arcs) (sw arcs).length a b = mayB arcs arcs.length b a := by
  unfold mayB
  rw [sw_length, Bool.eq_iff_iff, List.any_eq_true, List.any_eq_true]
  constructor
  · rintro ⟨i, hi, e⟩
    have hi' : i < arcs.length := by simpa using hi
    obtain ⟨p, q, ep⟩ := h i hi'
    rw [sw_getD hi' ep] at e
    refine ⟨i, hi, ?_⟩
    rw [ep]
    simp at e ⊢
    omega
  · rintro ⟨i, hi, e⟩
    have hi' : i < arcs.length := by simpa using hi
    obtain ⟨p, q, ep⟩ := h i hi'
    refine ⟨i, hi, ?_⟩
    rw [sw_getD hi' ep]
    rw [ep] at e
    simp at e ⊢
    omega
theorem powB_sw {n : Nat} {arcs : List (List Int)} (h : ∀ i, i < arcs.length → ∃ p q : Nat, arcs.getD i [] = [(p : Int), (q : Int)]) : ∀ (k a b : Nat), a < n → b < n → powB n (sw arcs) k a b = powB n arcs k b a
  | 0, a, b, ha, hb => by
    rw [powB_zero _ _ _ _ ha hb, powB_zero _ _ _ _ hb ha, Bool.eq_iff_iff]
    simp; omega
  | k + 1, a, b, ha, hb => by
    rw [Bool.eq_iff_iff, powB_succ _ _ _ _ _ ha hb, powB_first k b a hb ha, List.any_eq_true]
    constructor
    · rintro ⟨c, hc, hh⟩
      have hc' : c < n := by simpa using hc
      rw [Bool.and_eq_true, powB_sw h k a c ha hc', mayB_sw h] at hh
      exact ⟨c, hc', hh.2, hh.1⟩
    · rintro ⟨c, hc, h1, h2⟩
      refine ⟨c, by simpa using hc, ?_⟩
      rw [powB_sw h k a c ha hc, mayB_sw h, h1, h2]; rfl
theorem rch_test' {arcs : List (List Int)} {n : Nat} (hp : ∀ i, i < arcs.length → ∃ p q : Nat, arcs.getD i [] = [(p : Int), (q : Int)]) (a : Nat) (ha : a < n) : ∀ (k b : Nat), b < n → (rch arcs n a k).testBit b = powB n arcs k a b
  | 0, b, hb => by
    rw [powB_zero _ _ _ _ ha hb, rch, Nat.testBit_two_pow]
  | k + 1, b, hb => by
    rw [powB_succ _ _ _ _ _ ha hb, rch, nxt, List.take_length, foldl_or_test]
    simp only [Nat.zero_testBit, Bool.false_or]
    rw [Bool.eq_iff_iff, List.any_eq_true, List.any_eq_true]
    constructor
    · rintro ⟨y, hy, hyb⟩
      obtain ⟨c, rfl, hc, ht⟩ := mem_labs.1 hy
      refine ⟨c, by simpa using hc, ?_⟩
      rw [Bool.and_eq_true, ← rch_test' hp a ha k c hc]
      exact ⟨ht, by rw [← aft_may _ _ _ _ hp]; simpa using hyb⟩
    · rintro ⟨c, hc, hh⟩
      have hc' : c < n := by simpa using hc
      rw [Bool.and_eq_true, ← rch_test' hp a ha k c hc', ← aft_may _ _ _ _ hp] at hh
      exact ⟨(c : Int), mem_labs.2 ⟨c, rfl, hc', hh.1⟩, by simpa using hh.2⟩
theorem left_test {arcs : List (List Int)} {n : Nat} (hp : ∀ i, i < arcs.length → ∃ p q : Nat, arcs.getD i [] = [(p : Int), (q : Int)]) (b : Nat) (hb : b < n) (k c : Nat) (hc : c < n) : (rch (sw arcs) n b k).testBit c = powB n arcs k c b := by
  have hp' : ∀ i, i < (sw arcs).length → ∃ p q : Nat, (sw arcs).getD i [] = [(p : Int), (q : Int)] := by
    intro i hi
    rw [sw_length] at hi
    obtain ⟨p, q, e⟩ := hp i hi
    exact ⟨q, p, sw_getD hi e⟩
  rw [rch_test' hp' b hb k c hc, powB_sw hp k b c hb hc]
theorem labs_head {n T c : Nat} (hc : c < n) (h : T.testBit c = true) (hb : ∀ j, j < c → T.testBit j = false) : (labs n T).getD 0 0 = (c : Int) ∧ 0 < (labs n T).length := by
  have e : (List.range n).filter (fun i => T.testBit i) = c :: ((List.range n).filter (fun i => T.testBit i)).tail := by
    have h1 : (List.range n).filter (fun i => T.testBit i) = (List.range' c (n - c)).filter (fun i => T.testBit i) := by
      rw [show List.range n = List.range c ++ List.range' c (n - c) from by
        rw [List.range_eq_range', List.range_eq_range', show n = c + (n - c) by omega, ← List.range'_append]
        simp]
      rw [List.filter_append]
      have : (List.range c).filter (fun i => T.testBit i) = [] := by
        rw [List.filter_eq_nil_iff]
        intro i hi
        simp [hb i (by simpa using hi)]
      rw [this, List.nil_append]
    rw [h1]
    obtain ⟨d, hd⟩ : ∃ d, n - c = d + 1 := ⟨n - c - 1, by omega⟩
    rw [hd, List.range'_succ, List.filter_cons, if_pos h]
    rfl
  unfold labs
  rw [e]
  simp

theorem App.cell_old {B : Nat} {W w' : World} {v v' : Value} {l ys : List Int} (h : App B W v l ys v' w') {b o : Nat} {u : Value} (hb : b < B) (hc : W.cell? ⟨b, o, none⟩ = some u) : w'.cell? ⟨b, o, none⟩ = some u := by
  rw [World.cell?_of_block (a := ⟨b, o, none⟩) (h.grown.block b (World.block_lt_of_cell? W _ hc) (fun e => by have := (h.old.lt b e.symm).1; omega))]
  exact hc
/-- The call returns a list, or nil. -/
def RetN (w0 : World) (r : Option (List Int)) (e : Ending) (w' : World) : Prop := match r with | none => e = .returned (.slice none 0 0) ∧ Keeps w0 w' | some l => RetS w0 l e w'

set_option maxRecDepth 100000 in
set_option maxHeartbeats 4000000 in
theorem walkBetweenM_any (v : Value) (x : WP) (a b k : Nat) (w : World) (h : RdW w v x) (hg : walkGood x = true) (ha : (a : Int) < x.labels) (hb : (b : Int) < x.labels) (hk : k ≤ 500) :
    Calls Try.prog 79 #[v, .int .i64 a, .int .i64 b, .int .i64 k] w (RetN w (fBtw x.labels.toNat x.arcs a b k)) := by
  obtain ⟨v1, rfl, r1⟩ := h
  have R1 := Lib.hid r1
  obtain ⟨a1, c1, rfl, m1, _⟩ := r1.form
  clear r1 
  have HG := Lib.hid hg
  obtain ⟨b1, b2, har⟩ := walkGood_arc hg
  have HAR := Lib.hid har
  obtain ⟨n, hn⟩ : ∃ n : Nat, x.labels = n := ⟨x.labels.toNat, by omega⟩
  have HN := Lib.hid hn
  have HNN : Hid (x.labels.toNat = n) := by show _ = _; omega
  have HX : Hid (afterL x = aftL n x.arcs x.arcs.length) := by show _ = _; rw [afterL, HNN.out]
  have HF : Hid (fBtw n x.arcs a b k = if powB n x.arcs k a b then some (btwL n x.arcs a b k) else none) := rfl
  have HP2 := Lib.hid (arcs_pairs hg)
  have HQ := Lib.hid (arcs_q hg hn)
  have HQS : Hid (∀ i, i < (sw x.arcs).length → ∃ p q : Nat, (sw x.arcs).getD i [] = [(p : Int), (q : Int)] ∧ q < n) := sw_q fun i hi => by
    obtain ⟨p, q, e, hp, _⟩ := har i hi
    exact ⟨p, q, e, by omega⟩
  have hn12 : n ≤ 12 := by omega
  have han : a < n := by omega
  have hbn : b < n := by omega
  rw [HNN.out]
  clear hg hn har
  obtain ⟨i0, hi, hz0, hz1, hz2⟩ := info_parts info_int
  have HI := Lib.hid hi
  have HZ0 := Lib.hid hz0
  have HZ1 := Lib.hid hz1
  have HZ2 := Lib.hid hz2
  clear hi hz0 hz1 hz2
  have e0 : (.int .i64 x.labels : Value) = .int .i64 (n : Int) := by rw [HN.out]
  rw [e0]
  clear e0
  have K0 : Hid (Keeps w (w.alloc (.cells #[.int .i64 n, .slice a1 x.arcs.length c1] 27))) := (Keeps.refl _).alloc _
  have C0 : Hid ((w.alloc (.cells #[.int .i64 n, .slice a1 x.arcs.length c1] 27)).cell? ⟨w.heap.size, 0, none⟩ = some (.int .i64 n)) := by show _ = _; rw [World.cell?_alloc_at _ _ _ _ rfl]; rfl
  have C1 : Hid ((w.alloc (.cells #[.int .i64 n, .slice a1 x.arcs.length c1] 27)).cell? ⟨w.heap.size, 1, none⟩ = some (.slice a1 x.arcs.length c1)) := by show _ = _; rw [World.cell?_alloc_at _ _ _ _ rfl]; rfl
  go_enter Try.func79, Try.ntmps79
  go_wp2_with (at_make; refine wpList_make_full _ rfl _ _ 43 rfl (w.heap.size + 1) 3 i0 (.int .i64 0) 1 Try.underlying43 HI.out HZ0.out HZ1.out .i64 .i64 _ _ n rfl rfl rfl rfl (by rw [HZ2.out]; omega) (by unfold maxLen; omega) (by simp) ?_; intro w1 hown hgr; obtain ⟨hO, hK⟩ := made_ints hown hgr; have D1 := cell_keep hK C1.out; have HO := Lib.hid hO; have HK := Lib.hid hK; clear hown hgr hO hK)
  simp only [World.size_alloc] at HO
  have hzB : (w.alloc (.cells #[.int .i64 n, .slice a1 x.arcs.length c1] 27)).heap.size = w.heap.size + 1 := by simp
  have HZB := Lib.hid hzB
  clear hzB
  generalize w.alloc (.cells #[.int .i64 n, .slice a1 x.arcs.length c1] 27) = wB at *
  go_loopw [26] (fun iv wr => ∃ j : Nat, iv = .int .i64 j ∧ j ≤ x.arcs.length ∧ Own (w.heap.size + 1) wr (.slice (some ⟨w.heap.size + 1, 0, none⟩) n n) (aftL n (sw x.arcs) j) ∧ Keeps wB wr) (fun iv _ => x.arcs.length - (intOf iv).toNat)
  case atStart => exact ⟨0, rfl, Nat.zero_le _, by rw [aftL_zero]; exact HO.out, HK.out⟩
  case round =>
    obtain ⟨j, rfl, hj, hO, hK⟩ := hrel
    have HO' := Lib.hid hO
    have HK' := Lib.hid hK
    clear hO hK D1 HO HK
    by_cases hlt : j < x.arcs.length
    · obtain ⟨_, _, e1, _, hf⟩ := (R1.out.keep (Keeps.trans K0.out HK'.out)).form
      cases e1
      obtain ⟨bb, o, u, rfl, hcell, hu⟩ := hf j hlt
      obtain ⟨p, q, hpq, hp, hq⟩ := HAR.out j hlt
      rw [hpq] at hu
      obtain ⟨rb, ro, rc, rfl, hr0, hr1⟩ := hu.pair
      have HPQ := Lib.hid (sw_getD hlt hpq)
      have hqn : q < n := by have := HN.out; omega
      have hpn : p < 12 := by have := HN.out; omega
      clear hpq hu hf hp hq
      have hl0 : wr.cell? ⟨w.heap.size + 1, q, none⟩ = some (.int .i64 (aft (sw x.arcs) q j : Int)) := by
        rw [HO'.out.cellAt' q (by rw [aftL_length]; exact hqn), aftL_getD _ _ _ _ hqn]
      have HOR : Hid (bits BinOp.or IntKind.i64 (aft (sw x.arcs) q j : Int) (IntKind.i64.wrap (2 ^ p)) = ((aft (sw x.arcs) q j ||| 2 ^ p : Nat) : Int)) := or_pow (aft_lt (n := n) (sw x.arcs) q j (fun i hi => HQS.out i (by rw [sw_length]; omega))) (by omega) (by omega)
      go_wp2
      go_still_tail 12, (by kernel_rfl)
      rw [HOR.out]
      change wpList _ _ _ _ _ wr.drew
      have hl1 : wr.drew.cell? ⟨w.heap.size + 1, q, none⟩ = some (.int .i64 (aft (sw x.arcs) q j : Int)) := hl0
      have hl2 : wr.drew.frozen? ⟨w.heap.size + 1, q, none⟩ = false := HO'.out.frozen' q
      have HOd := Lib.hid (HO'.out.keep (Keeps.refl wr).drew)
      have HKd := Lib.hid (Keeps.drew HK'.out)
      generalize wr.drew = w2 at hl1 hl2 HOd HKd
      clear hl0 hr0 hr1 hcell
      go_wp2
      go_roundw
      case rel =>
        obtain ⟨h6, h7⟩ := HOd.out.setAt (y := ((aft (sw x.arcs) q j ||| 2 ^ p : Nat) : Int)) q (by rw [aftL_length]; exact hqn)
        refine ⟨j + 1, by go_num, by omega, ?_, HKd.out.setCell (by rw [HZB.out]; simp) _⟩
        rw [aftL_step HPQ.out]; exact h6
      case measure => simp [intOf]; omega
    · have hje : j = (sw x.arcs).length := by rw [sw_length]; omega
      rw [hje] at HO'
      clear hje
      have hw0 : wrap64 (2 ^ b) = ((2 ^ b : Nat) : Int) := by
        rw [← IntWalk.i64_left, wraps_i64]
        · simp
        · exact Int.le_of_lt (Int.pow_pos (by decide))
        · exact Int.pow_lt_pow_of_lt (by decide) (by omega)
      have HW0 := Lib.hid hw0
      clear hw0
      go_wp2
      rw [HW0.out]
      obtain ⟨wA, hwA⟩ : ∃ wA : World, wA = wr := ⟨_, rfl⟩
      subst hwA
      have HS0 := Lib.hid (Own.one wA.heap.size wA ((2 ^ b : Nat) : Int) (Nat.le_refl _))
      have HBF := Lib.hid (HO'.out.form (by rw [aftL_length]; omega))
      go_loopw [12, 47] (fun ov kv wr => ∃ (j : Nat) (L : List Int), kv = .int .i64 j ∧ j ≤ k ∧ L = rchL (sw x.arcs) n b j ∧ Own wA.heap.size wr ov L ∧ Keeps wA wr) (fun _ kv _ => k - (intOf kv).toNat)
      case atStart => exact ⟨0, _, rfl, Nat.zero_le _, rfl, HS0.out, (Keeps.refl _).alloc _⟩
      case round =>
        obtain ⟨j, L, rfl, hj, hL, hO, hK⟩ := hrel
        have HL := Lib.hid hL
        have HOL := Lib.hid hO
        have HKL := Lib.hid hK
        have hll : L.length = j + 1 := by rw [hL, rchL_length]
        obtain ⟨og, oc, rfl, hof⟩ := hO.form (by omega)
        have HLL := Lib.hid hll
        have hlj : j < L.length := by omega
        have hl9 : L.length < 1000000000 := by omega
        obtain ⟨hc, _⟩ := hof j hlj
        rw [hL, rchL_getD _ _ _ _ _ (by omega)] at hc
        have HRL := Lib.hid (rch_lt hbn HQS.out j)
        clear hL hK HS0 hof hO hll
        by_cases hlt2 : j < k
        · have HRS : Hid (rch (sw x.arcs) n b (j + 1) = nxt (sw x.arcs) n (rch (sw x.arcs) n b j) (labs n (rch (sw x.arcs) n b j)).length) := rfl
          generalize rch (sw x.arcs) n b j = S at hc HRL HRS
          go_wp2_with (go_at_call 80; refine (labelsIn_any n S _ HRL.out (by omega)).mono ?_; rintro e w2 ⟨lv, rfl, hlo, hlk⟩; have HLO := Lib.hid hlo; have HLK := Lib.hid hlk; obtain ⟨la, lc, rfl, lm⟩ := hlo.len; clear hlo hlk)
          clear hc
          go_loop [14, 56] (fun nv iv => ∃ i : Nat, iv = .int .i64 i ∧ i ≤ (labs n S).length ∧ nv = .int .i64 (nxt (sw x.arcs) n S i : Int)) (fun _ iv => (labs n S).length - (intOf iv).toNat)
          case atStart => exact ⟨0, rfl, Nat.zero_le _, rfl⟩
          case round =>
            obtain ⟨i, rfl, hi, rfl⟩ := hrel
            by_cases hlt3 : i < (labs n S).length
            · obtain ⟨_, _, e1, _, hf⟩ := HLO.out.ints.form
              cases e1
              obtain ⟨bb, o, rfl, hcl⟩ := hf i hlt3
              have hmem : (labs n S).getD i 0 ∈ labs n S := by simp [hlt3]
              have HNS := Lib.hid (nxt_succ (sw x.arcs) n S i hlt3)
              obtain ⟨y, hy, hyn, _⟩ := mem_labs.1 hmem
              rw [hy] at hcl HNS
              have hga := (HO'.out.keep (Keeps.trans HKL.out HLK.out)).cellAt' y (by rw [aftL_length]; exact hyn)
              rw [aftL_getD _ _ _ _ hyn] at hga
              have h1 := nxt_lt (S := S) HQS.out i
              have h2 := aft_lt (sw x.arcs) y (sw x.arcs).length HQS.out
              simp only [Int.toNat_natCast] at HNS
              have hp : (2 : Nat) ^ n ≤ 2 ^ 63 := Nat.pow_le_pow_right (by decide) (by omega)
              have hor := or_i64 (nxt (sw x.arcs) n S i) (aft (sw x.arcs) y (sw x.arcs).length) (by omega) (by omega)
              generalize nxt (sw x.arcs) n S i = A1 at *
              generalize aft (sw x.arcs) y (sw x.arcs).length = A2 at *
              clear h1 h2 hp hy hmem hf
              go_wp2
              go_round
              case rel => exact ⟨i + 1, by go_num, by omega, by rw [HNS.out]⟩
              case measure => simp [intOf]; omega
            · go_wp2_with (at_builtin; refine wpL_app1 (B := wA.heap.size) (HOL.out.keep HLK.out) hl9 (Keeps.trans HKL.out HLK.out).size rfl rfl rfl rfl ?_; intro v' w3 hA)
              go_roundw
              case rel =>
                have fin : ∃ (j_1 : Nat) (L : List Int), (.int .i64 ((j : Int) + 1) : Value) = .int .i64 (j_1 : Int) ∧ j_1 ≤ k ∧ L = rchL (sw x.arcs) n b j_1 ∧ Own wA.heap.size w3 v' L ∧ Keeps wA w3 := by
                  refine ⟨j + 1, _, by go_num, by omega, ?_, hA.own, hA.keeps (Keeps.trans HKL.out HLK.out) (Nat.le_refl _)⟩
                  rw [rchL_succ, HL.out, HRS.out, show i = (labs n S).length by omega]
                first
                  | exact fin
                  | (obtain ⟨j1, L1, f1, f2, f3, f4, f5⟩ := fin; subst f3; exact ⟨_, _, _, _, _, ⟨j1, f1, f2, f4, f5⟩, rfl, rfl, rfl, rfl, rfl⟩)
              case measure => simp [intOf]; omega
        · have hjk : j = k := by omega
          rw [hjk] at hc HRL HL HLL
          have HT := Lib.hid (tst0_i64 (a := a) HRL.out (by omega))
          have HLT := Lib.hid (left_test HP2.out b hbn k a han)
          have ha64 : a < 64 := by omega
          have hkl : k < L.length := by rw [HLL.out]; omega
          rw [HLT.out] at HT
          have HJK := Lib.hid hjk
          clear hlj hjk
          generalize hRR : rch (sw x.arcs) n b k = RR at hc HT
          clear hRR
          cases hp : powB n x.arcs k a b
          · rw [hp] at HT
            have HP := Lib.hid hp
            have ht := HT.out
            clear hp
            simp only [Bool.not_false] at ht
            go_wp2
            go_ret
            rw [HF.out, HP.out]
            exact ⟨rfl, Keeps.trans K0.out (Keeps.trans HK'.out HKL.out)⟩
          · rw [hp] at HT
            have HP := Lib.hid hp
            have ht := HT.out
            clear hp
            simp only [Bool.not_true] at ht
            have E0 := cell_keep (Keeps.trans HK'.out HKL.out) C0.out
            have E1 := cell_keep (Keeps.trans HK'.out HKL.out) C1.out
            go_wp2_with fail
            refine (after_any _ x _ ⟨_, by rw [HN.out], R1.out.keep (Keeps.trans K0.out (Keeps.trans HK'.out HKL.out))⟩ HG.out).mono ?_
            rintro e w3 ⟨av, rfl, hAf, hk3⟩
            rw [HX.out] at hAf
            have HAf := Lib.hid hAf
            have HK3 := Lib.hid hk3
            obtain ⟨ag, ac, rfl, -⟩ := hAf.form (by rw [aftL_length]; omega)
            rw [aftL_length] at *
            have HOL3 := Lib.hid (HOL.out.keep hk3)
            clear hAf hk3 E0 E1 hc ht
            go_wp2
            have HS1 := Lib.hid (Own.one w3.heap.size w3 (a : Int) (Nat.le_refl _))
            go_loopw [18, 19] (fun ov nv wr => ∃ (m : Nat) (M : List Int) (l : Nat), nv = .int .i64 ((m : Int) - 1) ∧ m ≤ k ∧ l < n ∧ M.length + m = k + 1 ∧ M.getD (M.length - 1) 0 = (l : Int) ∧ powB n x.arcs m l b = true ∧ M ++ (btwGo n x.arcs b m l).map (fun i : Nat => (i : Int)) = btwL n x.arcs a b k ∧ Own w3.heap.size wr ov M ∧ Keeps w3 wr) (fun _ nv _ => (intOf nv + 1).toNat)
            case atStart => exact ⟨k, [(a : Int)], a, rfl, Nat.le_refl _, han, by simp; omega, rfl, HP.out, rfl, HS1.out, (Keeps.refl _).alloc _⟩
            case round =>
              obtain ⟨m, M, l, rfl, hm, hl, hlen, hlast, hpw, hfull, hO, hK⟩ := hrel
              have HLast := Lib.hid hlast
              have HPW := Lib.hid hpw
              have HFU := Lib.hid hfull
              have HO := Lib.hid hO
              have HK := Lib.hid hK
              have HLen := Lib.hid hlen
              have hM0 : 0 < M.length := by omega
              have hM9 : M.length < 1000000000 := by omega
              obtain ⟨mg, mc, rfl, hof⟩ := hO.form hM0
              obtain ⟨hol, _⟩ := hof (M.length - 1) (by omega)
              rw [hlast] at hol
              clear hlast hpw hfull hO hK hof HS1 hlen
              by_cases hlt4 : 0 ≤ (m : Int) - 1
              · obtain ⟨m', rfl⟩ : ∃ m', m = m' + 1 := ⟨m - 1, by omega⟩
                have e0 : ((m' + 1 : Nat) : Int) - 1 = (m' : Int) := by omega
                rw [e0] at hlt4 ⊢
                obtain ⟨c, hcn, hct, hcmin⟩ := find_least (nxtC_ex hl hbn HPW.out)
                have hga := (HAf.out.keep HK.out).cellAt' l (by rw [aftL_length]; exact hl)
                rw [aftL_getD _ _ _ _ hl] at hga
                have hgl := (HOL3.out.keep HK.out).cellAt' m' (by rw [HLL.out]; omega)
                rw [HL.out, rchL_getD _ _ _ _ _ (by omega)] at hgl
                have tb : ∀ i, i < n → (aft x.arcs l x.arcs.length &&& rch (sw x.arcs) n b m').testBit i = nxtC n x.arcs b m' l i := by
                  intro i hi
                  rw [Nat.testBit_and, aft_may _ _ _ _ HP2.out, left_test HP2.out b hbn m' i hi]; rfl
                have TB := Lib.hid tb
                have h1 := aft_lt x.arcs l x.arcs.length HQ.out
                have h2 := rch_lt hbn HQS.out m'
                have hp : (2 : Nat) ^ n ≤ 2 ^ 63 := Nat.pow_le_pow_right (by decide) (by omega)
                have hand := and_i64 (aft x.arcs l x.arcs.length) (rch (sw x.arcs) n b m') (by omega) (by omega)
                have hT : aft x.arcs l x.arcs.length &&& rch (sw x.arcs) n b m' < 2 ^ n := Nat.and_lt_two_pow _ h2
                have HT := Lib.hid hT
                obtain ⟨hh1, hh2⟩ := labs_head hcn (show (aft x.arcs l x.arcs.length &&& rch (sw x.arcs) n b m').testBit c = true by rw [tb c hcn, hct]) (fun j hj => by rw [tb j (by omega), hcmin j hj])
                have HH1 := Lib.hid hh1
                have HAND := Lib.hid hand
                have HCT := Lib.hid hct
                have HCM := Lib.hid hcmin
                have hml : m' < L.length := by rw [HLL.out]; omega
                have hd0 : 0 ≤ (M.length : Int) - 1 := by omega
                have hd2 : M.length - 1 < M.length := by omega
                clear tb h1 h2 hp hand hT hh1 e0 hct hcmin
                generalize aft x.arcs l x.arcs.length = A1 at *
                generalize rch (sw x.arcs) n b m' = A2 at *
                generalize A1 &&& A2 = T at *
                have hsum : IntKind.i64.wrap ((M.length : Int) - 1) = (M.length : Int) - 1 := IntWalk.i64_in _ (by omega)
                have hsn : ((M.length : Int) - 1).toNat = M.length - 1 := by omega
                have hd3 : (1 : Int) ≤ (M.length : Int) := by omega
                have hd4 : (M.length : Int) - 1 < (M.length : Int) := by omega
                have hd5 : 1 ≤ M.length := by omega
                go_wp2
                have SK : Hid (∀ W : World, Keeps wr W → W.cell? ⟨mg, M.length - 1, none⟩ = some (.int .i64 (l : Int)) ∧ W.cell? ⟨ag, l, none⟩ = some (.int .i64 (A1 : Int)) ∧ W.cell? ⟨og, m', none⟩ = some (.int .i64 (A2 : Int))) := fun W k => ⟨cell_keep k hol, cell_keep k hga, cell_keep k hgl⟩
                have HAB : Hid (ag < w3.heap.size ∧ og < w3.heap.size) := ⟨(HAf.out.lt ag rfl).2, (HOL3.out.lt og rfl).2⟩
                have KD : Hid (Keeps wr wr.drew) := (Keeps.refl _).drew
                have HSZ : Hid (w3.heap.size ≤ wr.heap.size) := HK.out.size
                go_region_law ((first
                    | (refine step_app1 (B := w3.heap.size) (v := .slice (some ⟨mg, 0, none⟩) M.length mc) (l := M) (y := c) (by rfl) (by rfl) (by rfl) (by rfl) ((HO.out.keep (Keeps.trans KD.out HLK.out)).alloc _) hM9 (by have := HSZ.out; have := HLK.out.size; simp at this ⊢; omega) (blk_new rfl) ?_; intro v' w7 hA)
                    | (go_simp; go_at_call 80; (try rw [HAND.out]); refine (labelsIn_any n T _ HT.out (by omega)).mono ?_; rintro e w6 ⟨lv, rfl, hlo, hlk⟩; have HLO := Lib.hid hlo; have HLK := Lib.hid hlk; obtain ⟨lg, lc, rfl, hlf⟩ := hlo.form hh2; obtain ⟨hl0, -⟩ := hlf 0 hh2; rw [HH1.out] at hl0; clear hlo hlk hlf)))
                all_goals
                  clear hsum hsn
                  go_wp2
                  go_roundw
                  case rel =>
                    refine ⟨m', M ++ [(c : Int)], c, rfl, by omega, hcn, by have := HLen.out; simp; omega, by simp, ?_, ?_, hA.own, hA.keeps (Keeps.trans HK.out ((Keeps.trans KD.out HLK.out).alloc _)) (Nat.le_refl _)⟩
                    · have := HCT.out
                      rw [nxtC, Bool.and_eq_true] at this
                      exact this.2
                    · have := HFU.out
                      rw [btwGo_some hcn HCT.out HCM.out] at this
                      rw [← this]
                      simp
                  case measure => simp [intOf]
              · go_wp2
                go_ret
                have hm0 : m = 0 := by omega
                have h5 := HFU.out
                rw [hm0] at h5
                simp only [btwGo, List.map_nil, List.append_nil] at h5
                rw [HF.out, HP.out, if_pos rfl]
                refine ⟨_, rfl, ?_, Keeps.trans K0.out (Keeps.trans HK'.out (Keeps.trans HKL.out (Keeps.trans HK3.out HK.out)))⟩
                rw [← h5]; exact HO.out.mono (Keeps.trans K0.out (Keeps.trans HK'.out (Keeps.trans HKL.out HK3.out))).size
end Go.Proofs.Ytcjmpodljhcbhaa
