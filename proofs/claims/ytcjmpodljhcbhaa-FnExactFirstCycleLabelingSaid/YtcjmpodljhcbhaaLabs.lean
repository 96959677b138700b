/- The contracts of labelsIn and reached. -/
import Derived.Test.YtcjmpodljhcbhaaLab
namespace Go.Proofs.Ytcjmpodljhcbhaa
open Go.RowKit
set_option linter.unusedSimpArgs false
set_option linter.unusedVariables false

/-- The members of a set below n. -/
def labs (n S : Nat) : List Int := ((List.range n).filter fun i => S.testBit i).map fun i : Nat => (i : Int)
theorem labs_succ (n S : Nat) : labs (n + 1) S = if S.testBit n then labs n S ++ [(n : Int)] else labs n S := by
  unfold labs
  rw [List.range_succ, List.filter_append]
  by_cases h : S.testBit n <;> simp [h]
theorem labs_length (n S : Nat) : (labs n S).length ≤ n := by
  unfold labs
  rw [List.length_map]
  exact Nat.le_trans (List.length_filter_le _ _) (by simp)
theorem labs_end {a S : Nat} (h : S < 2 ^ a) : ∀ d, labs (a + d) S = labs a S
  | 0 => rfl
  | d + 1 => by
    rw [← Nat.add_assoc, labs_succ, Nat.testBit_lt_two_pow (Nat.lt_of_lt_of_le h (Nat.pow_le_pow_right (by decide) (by omega))), labs_end h d]
    simp
theorem mem_labs {n S : Nat} {y : Int} : y ∈ labs n S ↔ ∃ i : Nat, y = i ∧ i < n ∧ S.testBit i = true := by
  unfold labs
  simp only [List.mem_map, List.mem_filter, List.mem_range]
  constructor
  · rintro ⟨i, ⟨h1, h2⟩, rfl⟩; exact ⟨i, rfl, h1, h2⟩
  · rintro ⟨i, rfl, h1, h2⟩; exact ⟨i, ⟨h1, h2⟩, rfl⟩
theorem shr_ne {S a : Nat} : (((S : Int) / 2 ^ a) != 0) = decide (2 ^ a ≤ S) := by
  have e : ((S : Int) / 2 ^ a) = ((S / 2 ^ a : Nat) : Int) := by simp
  rw [e, Bool.eq_iff_iff]
  simp only [bne_iff_ne, ne_eq, decide_eq_true_eq]
  have hp : 0 < 2 ^ a := Nat.two_pow_pos a
  constructor
  · intro h
    apply Nat.le_of_not_lt
    intro hlt
    exact h (by rw [Nat.div_eq_of_lt hlt]; rfl)
  · intro h e
    have h1 : S / 2 ^ a = 0 := by omega
    have h2 := Nat.div_pos h hp
    omega

set_option maxRecDepth 100000 in
set_option maxHeartbeats 4000000 in
theorem labelsIn_any (n S : Nat) (w : World) (hS : S < 2 ^ n) (hn : n ≤ 62) :
    Calls Try.prog 80 #[.int .i64 S] w (RetS w (labs n S)) := by
  have HS := Lib.hid hS
  have HT : Hid (∀ a, (bits BinOp.and IntKind.i64 ((S : Int) / 2 ^ a) 1 == 1) = S.testBit a) := fun a => tst_i64 hS hn
  have hS63 : Hid (S < 2 ^ 63) := Nat.lt_of_lt_of_le hS (Nat.pow_le_pow_right (by decide) (by omega))
  clear hS
  go_enter Try.func80, Try.ntmps80
  go_wp2
  go_loopw [3, 4] (fun ov av wr => ∃ (a : Nat) (L : List Int), av = .int .i64 a ∧ a ≤ n ∧ L = labs a S ∧ Own w.heap.size wr ov L ∧ Keeps w wr) (fun _ av _ => n - (intOf av).toNat)
  case atStart => exact ⟨0, [], rfl, Nat.zero_le _, rfl, Own.nil _ _, Keeps.refl _⟩
  case round =>
    obtain ⟨a, L, rfl, ha, hL, hO, hK⟩ := hrel
    have HL := Lib.hid hL
    have HO := Lib.hid hO
    have HK := Lib.hid hK
    obtain ⟨oa, oc, rfl, _⟩ := hO.len
    have hlen : L.length < 1000000000 := by rw [hL]; have := labs_length a S; omega
    have h64 : a < 64 := by omega
    clear hL hO hK
    by_cases hbig : 2 ^ a ≤ S
    · have ht : (((S : Int) / 2 ^ a) != 0) = true := by rw [shr_ne]; simpa using hbig
      have hlt : a < n := by
        apply Nat.lt_of_not_le
        intro hge
        have := Nat.pow_le_pow_right (show 0 < 2 by decide) hge
        have := HS.out
        omega
      cases hb : S.testBit a
      · have ht2 : (bits BinOp.and IntKind.i64 ((S : Int) / 2 ^ a) 1 == 1) = false := by rw [HT.out, hb]
        have HB := Lib.hid hb
        clear hb hbig
        go_wp2
        go_roundw
        case rel => exact ⟨a + 1, L, by go_num, by omega, by rw [labs_succ, HB.out, HL.out]; rfl, HO.out, HK.out⟩
        case measure => simp [intOf]; omega
      · have ht2 : (bits BinOp.and IntKind.i64 ((S : Int) / 2 ^ a) 1 == 1) = true := by rw [HT.out, hb]
        have HB := Lib.hid hb
        clear hb hbig
        go_wp2_with (at_builtin; refine wpL_app1 HO.out hlen HK.out.size rfl rfl rfl rfl ?_; intro v' w' hA)
        go_roundw
        case rel => exact ⟨a + 1, _, by go_num, by omega, by rw [labs_succ, HB.out, HL.out]; rfl, hA.own, hA.keeps HK.out (Nat.le_refl _)⟩
        case measure => simp [intOf]; omega
    · have ht : (((S : Int) / 2 ^ a) != 0) = false := by rw [shr_ne]; simpa using hbig
      have HBG := Lib.hid hbig
      clear hbig
      go_wp2
      go_ret
      refine ⟨_, rfl, ?_, HK.out⟩
      have e := labs_end (a := a) (S := S) (by have := HBG.out; omega) (n - a)
      rw [show a + (n - a) = n by omega] at e
      rw [e, ← HL.out]; exact HO.out

/-! ### Reached labels -/
/-- What follows a set. -/
def nxt (arcs : List (List Int)) (n S : Nat) (k : Nat) : Nat := ((labs n S).take k).foldl (fun s y => s ||| aft arcs y.toNat arcs.length) 0
def rch (arcs : List (List Int)) (n a : Nat) : Nat → Nat
  | 0 => 2 ^ a
  | k + 1 => nxt arcs n (rch arcs n a k) (labs n (rch arcs n a k)).length
def rchL (arcs : List (List Int)) (n a k : Nat) : List Int := (List.range (k + 1)).map fun i => (rch arcs n a i : Int)
theorem nxt_lt {arcs : List (List Int)} {n S : Nat} (h : ∀ i, i < arcs.length → ∃ p q : Nat, arcs.getD i [] = [(p : Int), (q : Int)] ∧ q < n) (k : Nat) : nxt arcs n S k < 2 ^ n := by
  unfold nxt
  generalize (labs n S).take k = l
  have : ∀ (l : List Int) (s : Nat), s < 2 ^ n → l.foldl (fun s y => s ||| aft arcs y.toNat arcs.length) s < 2 ^ n := by
    intro l
    induction l with
    | nil => intro s hs; exact hs
    | cons y l ih => intro s hs; exact ih _ (Nat.or_lt_two_pow hs (aft_lt arcs _ _ h))
  exact this l 0 (Nat.two_pow_pos n)
theorem nxt_succ (arcs : List (List Int)) (n S k : Nat) (h : k < (labs n S).length) : nxt arcs n S (k + 1) = nxt arcs n S k ||| aft arcs ((labs n S).getD k 0).toNat arcs.length := by
  unfold nxt
  rw [take_succ_getD h, List.foldl_append]
  rfl
theorem rch_lt {arcs : List (List Int)} {n a : Nat} (ha : a < n) (h : ∀ i, i < arcs.length → ∃ p q : Nat, arcs.getD i [] = [(p : Int), (q : Int)] ∧ q < n) (k : Nat) : rch arcs n a k < 2 ^ n := by
  cases k with
  | zero => exact Nat.pow_lt_pow_right (by decide) ha
  | succ k => exact nxt_lt h _
theorem rchL_length (arcs : List (List Int)) (n a k : Nat) : (rchL arcs n a k).length = k + 1 := by simp [rchL]
theorem rchL_getD (arcs : List (List Int)) (n a k i : Nat) (h : i < k + 1) : (rchL arcs n a k).getD i 0 = (rch arcs n a i : Int) := by simp [rchL, h]
theorem rchL_succ (arcs : List (List Int)) (n a k : Nat) : rchL arcs n a (k + 1) = rchL arcs n a k ++ [(rch arcs n a (k + 1) : Int)] := by simp [rchL, List.range_succ]
theorem arcs_q {x : WP} {n : Nat} (h : walkGood x = true) (hn : x.labels = n) : ∀ i, i < x.arcs.length → ∃ p q : Nat, x.arcs.getD i [] = [(p : Int), (q : Int)] ∧ q < n := by
  intro i hi
  obtain ⟨p, q, e, _, hq⟩ := (walkGood_arc h).2.2 i hi
  exact ⟨p, q, e, by omega⟩

set_option maxRecDepth 100000 in
set_option maxHeartbeats 4000000 in
theorem reached_any (v : Value) (x : WP) (a k : Nat) (w : World) (h : RdW w v x) (hg : walkGood x = true) (ha : (a : Int) < x.labels) (hk : k ≤ 1000) :
    Calls Try.prog 75 #[v, .int .i64 a, .int .i64 k] w (RetS w (rchL x.arcs x.labels.toNat a k)) := by
  obtain ⟨v1, rfl, r1⟩ := h
  have R1 := Lib.hid r1
  obtain ⟨a1, c1, rfl, m1, _⟩ := r1.form
  clear r1 
  have HG := Lib.hid hg
  obtain ⟨b1, b2, _⟩ := walkGood_arc hg
  obtain ⟨n, hn⟩ : ∃ n : Nat, x.labels = n := ⟨x.labels.toNat, by omega⟩
  have HN := Lib.hid hn
  have HNN : Hid (x.labels.toNat = n) := by show _ = _; omega
  have HX : Hid (afterL x = aftL n x.arcs x.arcs.length) := by show _ = _; rw [afterL, HNN.out]
  have HQ := Lib.hid (arcs_q hg hn)
  have hn12 : n ≤ 12 := by omega
  have han : a < n := by omega
  rw [HNN.out]
  clear hg hn
  have K0 : Hid (Keeps w (w.alloc (.cells #[.int .i64 x.labels, .slice a1 x.arcs.length c1] 27))) := (Keeps.refl _).alloc _
  have C0 : Hid ((w.alloc (.cells #[.int .i64 x.labels, .slice a1 x.arcs.length c1] 27)).cell? ⟨w.heap.size, 0, none⟩ = some (.int .i64 x.labels)) := by show _ = _; rw [World.cell?_alloc_at _ _ _ _ rfl]; rfl
  have C1 : Hid ((w.alloc (.cells #[.int .i64 x.labels, .slice a1 x.arcs.length c1] 27)).cell? ⟨w.heap.size, 1, none⟩ = some (.slice a1 x.arcs.length c1)) := by show _ = _; rw [World.cell?_alloc_at _ _ _ _ rfl]; rfl
  go_enter Try.func75, Try.ntmps75
  go_wp2_with fail
  refine (after_any _ x _ ⟨_, rfl, R1.out.keep K0.out⟩ HG.out).mono ?_
  rintro e w1 ⟨mv, rfl, hM, hk⟩
  have HK1 := Lib.hid (Keeps.trans K0.out hk)
  clear hk
  have HM := Lib.hid hM
  rw [HX.out] at HM
  obtain ⟨g, cap, rfl, hgc⟩ := HM.out.form (by rw [aftL_length]; omega)
  have HGC := Lib.hid hgc
  clear hM hgc
  rw [aftL_length] at *
  have hw0 : wrap64 (2 ^ a) = ((2 ^ a : Nat) : Int) := by
    rw [← IntWalk.i64_left, wraps_i64]
    · simp
    · exact Int.le_of_lt (Int.pow_pos (by decide))
    · exact Int.pow_lt_pow_of_lt (by decide) (by omega)
  have HW0 := Lib.hid hw0
  clear hw0
  go_wp2
  rw [HW0.out]
  have HS0 := Lib.hid (Own.one w1.heap.size w1 ((2 ^ a : Nat) : Int) (Nat.le_refl _))
  go_loopw [8, 19] (fun ov kv wr => ∃ (j : Nat) (L : List Int), kv = .int .i64 j ∧ j ≤ k ∧ L = rchL x.arcs n a j ∧ Own w1.heap.size wr ov L ∧ Keeps w1 wr) (fun _ kv _ => k - (intOf kv).toNat)
  case atStart => exact ⟨0, _, rfl, Nat.zero_le _, rfl, HS0.out, (Keeps.refl _).alloc _⟩
  case round =>
    obtain ⟨j, L, rfl, hj, hL, hO, hK⟩ := hrel
    have HL := Lib.hid hL
    have HO := Lib.hid hO
    have HK := Lib.hid hK
    have hll : L.length = j + 1 := by rw [hL, rchL_length]
    obtain ⟨og, oc, rfl, hof⟩ := hO.form (by omega)
    have HLL := Lib.hid hll
    have hlj : j < L.length := by omega
    have hl9 : L.length < 1000000000 := by omega
    clear hL hK HS0
    by_cases hlt : j < k
    · obtain ⟨hc, _⟩ := hof j hlj
      rw [HL.out, rchL_getD _ _ _ _ _ (by omega)] at hc
      have HRL := Lib.hid (rch_lt han HQ.out j)
      have HRS : Hid (rch x.arcs n a (j + 1) = nxt x.arcs n (rch x.arcs n a j) (labs n (rch x.arcs n a j)).length) := rfl
      clear hof hO hll
      generalize rch x.arcs n a j = S at hc HRL HRS
      go_wp2_with (go_at_call 80; refine (labelsIn_any n S _ HRL.out (by omega)).mono ?_; rintro e w2 ⟨lv, rfl, hlo, hlk⟩; have HLO := Lib.hid hlo; have HLK := Lib.hid hlk; obtain ⟨la, lc, rfl, lm⟩ := hlo.len; clear hlo hlk)
      clear hc
      go_loop [10, 28] (fun nv iv => ∃ i : Nat, iv = .int .i64 i ∧ i ≤ (labs n S).length ∧ nv = .int .i64 (nxt x.arcs n S i : Int)) (fun _ iv => (labs n S).length - (intOf iv).toNat)
      case atStart => exact ⟨0, rfl, Nat.zero_le _, rfl⟩
      case round =>
        obtain ⟨i, rfl, hi, rfl⟩ := hrel
        by_cases hlt2 : i < (labs n S).length
        · obtain ⟨_, _, e1, _, hf⟩ := HLO.out.ints.form
          cases e1
          obtain ⟨b, o, rfl, hcl⟩ := hf i hlt2
          have hmem : (labs n S).getD i 0 ∈ labs n S := by simp [hlt2]
          have HNS := Lib.hid (nxt_succ x.arcs n S i hlt2)
          obtain ⟨y, hy, hyn, _⟩ := mem_labs.1 hmem
          rw [hy] at hcl HNS
          obtain ⟨hga, _⟩ := HGC.out y hyn
          have hga := cell_keep (Keeps.trans HK.out HLK.out) hga
          rw [aftL_getD _ _ _ _ hyn] at hga
          have h1 := nxt_lt (S := S) HQ.out i
          have h2 := aft_lt x.arcs y x.arcs.length HQ.out
          simp only [Int.toNat_natCast] at HNS
          have hp : (2 : Nat) ^ n ≤ 2 ^ 63 := Nat.pow_le_pow_right (by decide) (by omega)
          have hor := or_i64 (nxt x.arcs n S i) (aft x.arcs y x.arcs.length) (by omega) (by omega)
          generalize nxt x.arcs n S i = A1 at *
          generalize aft x.arcs y x.arcs.length = A2 at *
          clear h1 h2 hp hy hmem hf
          go_wp2
          go_round
          case rel => exact ⟨i + 1, by go_num, by omega, by rw [HNS.out]⟩
          case measure => simp [intOf]; omega
        · go_wp2_with (at_builtin; refine wpL_app1 (B := w1.heap.size) (HO.out.keep HLK.out) hl9 (Keeps.trans HK.out HLK.out).size rfl rfl rfl rfl ?_; intro v' w3 hA)
          go_roundw
          case rel =>
            refine ⟨_, _, _, _, _, ⟨j + 1, ?_, by omega, ?_, hA.keeps (Keeps.trans HK.out HLK.out) (Nat.le_refl _)⟩, rfl, rfl, rfl, rfl, rfl⟩
            · go_num
            · have := hA.own
              rw [rchL_succ, ← HL.out, HRS.out, ← show i = (labs n S).length by omega]
              exact this
          case measure => simp [intOf]; omega
    · go_wp2
      go_ret
      refine ⟨_, rfl, ?_, Keeps.trans HK1.out HK.out⟩
      have e : j = k := by omega
      rw [← e, ← HL.out]
      exact HO.out.mono HK1.out.size
end Go.Proofs.Ytcjmpodljhcbhaa
