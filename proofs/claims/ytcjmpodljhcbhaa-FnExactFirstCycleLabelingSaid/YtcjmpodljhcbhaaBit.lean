/- Sets of labels as integers; the contracts of numbersTo and of the walk problems' method after. -/
import Derived.Test.YtcjmpodljhcbhaaWalkI
import Derived.Deep.RegionHeld3
import Derived.StillTailTactics
import Derived.Outline
namespace Go.Proofs.Ytcjmpodljhcbhaa
open Go.RowKit
set_option linter.unusedSimpArgs false
set_option linter.unusedVariables false

/-! ### Bits -/
theorem wraps_i64 (n : Int) (h₀ : 0 ≤ n) (h₁ : n < 2 ^ 63) : IntKind.i64.wrap n = n := by rw [IntKind.wrap_i64]; omega
theorem or_i64 (a b : Nat) (ha : a < 2 ^ 63) (hb : b < 2 ^ 63) : bits .or .i64 (a : Int) (b : Int) = ((a ||| b : Nat) : Int) := (bits_nat .i64 63 (by decide) wraps_i64 a b ha hb).2
theorem and_i64 (a b : Nat) (ha : a < 2 ^ 63) (hb : b < 2 ^ 63) : bits .and .i64 (a : Int) (b : Int) = ((a &&& b : Nat) : Int) := (bits_nat .i64 63 (by decide) wraps_i64 a b ha hb).1

/-- What a good walk problem's arcs are. -/
theorem walkGood_arc {x : WP} (h : walkGood x = true) : 1 ≤ x.labels ∧ x.labels ≤ 12 ∧ ∀ j, j < x.arcs.length → ∃ p q : Nat, x.arcs.getD j [] = [(p : Int), (q : Int)] ∧ (p : Int) < x.labels ∧ (q : Int) < x.labels := by
  simp only [walkGood, Bool.and_eq_true] at h
  obtain ⟨h1, h2⟩ := h
  have b := inB_true.1 h1
  refine ⟨b.1, b.2, fun j hj => ?_⟩
  have h3 := List.all_eq_true.1 h2 j (by simpa using hj)
  obtain ⟨e1, e2⟩ := arcOk_parts h3
  match hr : x.arcs.getD j [], e1 with
  | [p, q], _ =>
    rw [hr] at e2
    have b0 := e2 0 (by simp)
    have b1 := e2 1 (by simp)
    simp at b0 b1
    exact ⟨p.toNat, q.toNat, by simp only [Int.toNat_of_nonneg b0.1, Int.toNat_of_nonneg b1.1], by omega, by omega⟩

/-- The labels behind label a, among the first j arcs. -/
def aft (arcs : List (List Int)) (a : Nat) (j : Nat) : Nat := (List.range j).foldl (fun s i => if (arcs.getD i []).getD 0 0 = (a : Int) then s ||| 2 ^ ((arcs.getD i []).getD 1 0).toNat else s) 0
def aftL (n : Nat) (arcs : List (List Int)) (j : Nat) : List Int := (List.range n).map fun a => (aft arcs a j : Int)
def afterL (x : WP) : List Int := aftL x.labels.toNat x.arcs x.arcs.length
theorem aft_succ (arcs : List (List Int)) (a j : Nat) : aft arcs a (j + 1) = if (arcs.getD j []).getD 0 0 = (a : Int) then aft arcs a j ||| 2 ^ ((arcs.getD j []).getD 1 0).toNat else aft arcs a j := by
  simp [aft, List.range_succ]

theorem aftL_zero (n : Nat) (arcs : List (List Int)) : aftL n arcs 0 = List.replicate n 0 := by
  apply List.ext_getElem (by simp [aftL])
  intro i h1 h2
  simp [aftL, aft]
theorem aftL_length (n : Nat) (arcs : List (List Int)) (j : Nat) : (aftL n arcs j).length = n := by simp [aftL]
theorem aftL_getD (n : Nat) (arcs : List (List Int)) (j p : Nat) (h : p < n) : (aftL n arcs j).getD p 0 = (aft arcs p j : Int) := by simp [aftL, h]
theorem Own.cellAt' {B : Nat} {w : World} {g c n : Nat} {l : List Int} (h : Own B w (.slice (some ⟨g, 0, none⟩) n c) l) (i : Nat) (hi : i < l.length) : w.cell? ⟨g, i, none⟩ = some (.int .i64 (l.getD i 0)) := by
  obtain ⟨g', c', he, hf⟩ := h.form (by omega)
  simp only [Value.slice.injEq, Option.some.injEq, Addr.mk.injEq] at he
  obtain ⟨⟨rfl, -⟩, -, -⟩ := he
  exact (hf i hi).1
theorem Own.frozen' {B : Nat} {w : World} {g c n : Nat} {l : List Int} (h : Own B w (.slice (some ⟨g, 0, none⟩) n c) l) (i : Nat) : w.frozen? ⟨g, i, none⟩ = false := by
  obtain ⟨a, c', he, _⟩ := h.len
  simp only [Value.slice.injEq] at he
  obtain ⟨-, rfl, -⟩ := he
  exact World.ownsRow.frozenAt h i
theorem Own.setAt {B : Nat} {w : World} {g cap n : Nat} {l : List Int} {y : Int} (h : Own B w (.slice (some ⟨g, 0, none⟩) n cap) l) (i : Nat) (hi : i < l.length) :
    Own B (w.setCell ⟨g, i, none⟩ (.int .i64 y)) (.slice (some ⟨g, 0, none⟩) n cap) (l.set i y) ∧ w.grownBy (w.setCell ⟨g, i, none⟩ (.int .i64 y)) (some g) := by
  have e : l = l.take i ++ l.getD i 0 :: l.drop (i + 1) := by rw [← drop_eq_cons l i hi, List.take_append_drop]
  have e2 : l.set i y = l.take i ++ y :: l.drop (i + 1) := by rw [List.set_eq_take_append_cons_drop, if_pos hi]
  rw [e] at h
  rw [e2]
  exact Own.set h i (by simp; omega)
theorem or_pow {A q n : Nat} (hA : A < 2 ^ n) (hn : n ≤ 62) (hq : q ≤ 62) : bits BinOp.or IntKind.i64 (A : Int) (IntKind.i64.wrap (2 ^ q)) = ((A ||| 2 ^ q : Nat) : Int) := by
  have h1 : (2 ^ q : Nat) < 2 ^ 63 := Nat.pow_lt_pow_right (by decide) (by omega)
  have h2 : A < 2 ^ 63 := Nat.lt_of_lt_of_le hA (Nat.pow_le_pow_right (by decide) (by omega))
  have e : IntKind.i64.wrap (2 ^ q) = ((2 ^ q : Nat) : Int) := by
    rw [wraps_i64]
    · simp
    · exact Int.le_of_lt (Int.pow_pos (by decide))
    · exact_mod_cast h1
  rw [e]
  exact or_i64 _ _ h2 h1
theorem aft_lt {n : Nat} (arcs : List (List Int)) (a j : Nat) (h : ∀ i, i < j → ∃ p q : Nat, arcs.getD i [] = [(p : Int), (q : Int)] ∧ q < n) : aft arcs a j < 2 ^ n := by
  induction j with
  | zero => simp [aft, Nat.two_pow_pos]
  | succ j ih =>
    rw [aft_succ]
    have := ih fun i hi => h i (by omega)
    obtain ⟨p, q, e, hq⟩ := h j (by omega)
    split
    · refine Nat.or_lt_two_pow this ?_
      rw [e]
      exact Nat.pow_lt_pow_right (by decide) (by simpa using hq)
    · exact this
theorem aftL_step {n j p q : Nat} {arcs : List (List Int)} (h : arcs.getD j [] = [(p : Int), (q : Int)]) : aftL n arcs (j + 1) = (aftL n arcs j).set p ((aft arcs p j ||| 2 ^ q : Nat) : Int) := by
  apply List.ext_getElem (by simp [aftL])
  intro i h1 h2
  rw [List.getElem_set]
  simp only [aftL, List.getElem_map, List.getElem_range, aft_succ, h]
  by_cases hi : p = i
  · subst hi; simp
  · rw [if_neg hi, if_neg (by simp; omega)]
theorem aft_q {x : WP} (h : walkGood x = true) : ∀ i, i < x.arcs.length → ∃ p q : Nat, x.arcs.getD i [] = [(p : Int), (q : Int)] ∧ q < 12 := by
  obtain ⟨b1, b2, h3⟩ := walkGood_arc h
  intro i hi
  obtain ⟨p, q, e, _, hq⟩ := h3 i hi
  exact ⟨p, q, e, by omega⟩
theorem tst_i64 {A a n : Nat} (hA : A < 2 ^ n) (hn : n ≤ 62) : (bits BinOp.and IntKind.i64 ((A : Int) / 2 ^ a) 1 == 1) = A.testBit a := by
  have h2 : A < 2 ^ 63 := Nat.lt_of_lt_of_le hA (Nat.pow_le_pow_right (by decide) (by omega))
  have e : ((A : Int) / 2 ^ a) = ((A / 2 ^ a : Nat) : Int) := by simp
  rw [e, show (1 : Int) = ((1 : Nat) : Int) from rfl, and_i64 _ _ (Nat.lt_of_le_of_lt (Nat.div_le_self _ _) h2) (by decide)]
  rw [Nat.testBit, Nat.shiftRight_eq_div_pow]
  have : ∀ m : Nat, (((m &&& 1 : Nat) : Int) == ((1 : Nat) : Int)) = (1 &&& m != 0) := by
    intro m
    rw [Nat.and_comm, Nat.one_and_eq_mod_two]
    have := Nat.mod_two_eq_zero_or_one m
    rcases this with h | h <;> simp [h]
  exact this _
theorem made_ints {B n : Nat} {W w1 : World} {v : Value} (hown : w1.ownsRow B 3 1 v n (madeCells (Value.int .i64 0).cells (n * 1)).toList) (hgr : W.grownBy w1 none) : Own B w1 v (List.replicate n 0) ∧ Keeps W w1 := by
  rw [replicate_map] at hown
  refine ⟨by unfold Own; simpa using hown, (Below.refl _ _).grown hgr (Nat.le_refl _) (by simp)⟩
theorem Ints.pair {w : World} {u : Value} {p q : Int} (h : Ints w u [p, q]) : ∃ b o c, u = .slice (some ⟨b, o, none⟩) 2 c ∧ w.cell? ⟨b, o, none⟩ = some (.int .i64 p) ∧ w.cell? ⟨b, o + 1, none⟩ = some (.int .i64 q) := by
  obtain ⟨a, c, rfl, _, hf⟩ := h.form
  obtain ⟨b, o, rfl, h0⟩ := hf 0 (by simp)
  obtain ⟨b', o', he, h1⟩ := hf 1 (by simp)
  cases he
  exact ⟨b, o, c, rfl, by simpa using h0, by simpa using h1⟩

set_option maxRecDepth 100000 in
set_option maxHeartbeats 2000000 in
theorem after_any (v : Value) (x : WP) (w : World) (h : RdW w v x) (hg : walkGood x = true) :
    Calls Try.prog 97 #[v] w (RetS w (afterL x)) := by
  obtain ⟨v1, rfl, r1⟩ := h
  have R1 := Lib.hid r1
  obtain ⟨a1, c1, rfl, m1, _⟩ := r1.form
  clear r1
  obtain ⟨b1, b2, har⟩ := walkGood_arc hg
  have HAR := Lib.hid har
  have HX : Hid (afterL x = aftL x.labels.toNat x.arcs x.arcs.length) := rfl
  clear har hg
  obtain ⟨n, hn⟩ : ∃ n : Nat, x.labels = n := ⟨x.labels.toNat, by omega⟩
  generalize x.labels = xl at *
  subst hn
  simp only [Int.toNat_natCast] at HX
  generalize x.arcs = arcs at *
  obtain ⟨i0, hi, hz0, hz1, hz2⟩ := info_parts info_int
  have HI := Lib.hid hi
  have HZ0 := Lib.hid hz0
  have HZ1 := Lib.hid hz1
  have HZ2 := Lib.hid hz2
  clear hi hz0 hz1 hz2
  have K0 : Hid (Keeps w (w.alloc (.cells #[.int .i64 n, .slice a1 arcs.length c1] 27))) := (Keeps.refl _).alloc _
  have C1 : Hid ((w.alloc (.cells #[.int .i64 n, .slice a1 arcs.length c1] 27)).cell? ⟨w.heap.size, 1, none⟩ = some (.slice a1 arcs.length c1)) := by show _ = _; rw [World.cell?_alloc_at _ _ _ _ rfl]; rfl
  go_enter Try.func97, Try.ntmps97
  go_wp2_with (at_make; refine wpList_make_full _ rfl _ _ 43 rfl w.heap.size 3 i0 (.int .i64 0) 1 Try.underlying43 HI.out HZ0.out HZ1.out .i64 .i64 _ _ n rfl rfl rfl rfl (by rw [HZ2.out]; omega) (by unfold maxLen; omega) (by simp) ?_; intro w1 hown hgr; obtain ⟨hO, hK⟩ := made_ints hown hgr; have D1 := cell_keep hK C1.out; have HO := Lib.hid hO; have HK := Lib.hid (Keeps.trans K0.out hK); clear hown hgr hO hK)
  simp only [World.size_alloc] at HO
  clear K0 C1
  go_loopw [12] (fun i wr => ∃ j : Nat, i = .int .i64 j ∧ j ≤ arcs.length ∧ Own w.heap.size wr (.slice (some ⟨w.heap.size + 1, 0, none⟩) n n) (aftL n arcs j) ∧ Keeps w wr) (fun i _ => arcs.length - (intOf i).toNat)
  case atStart => exact ⟨0, rfl, Nat.zero_le _, by rw [aftL_zero]; exact HO.out, HK.out⟩
  case round =>
    obtain ⟨j, rfl, hj, hO, hK⟩ := hrel
    have HO' := Lib.hid hO
    have HK' := Lib.hid hK
    clear hO hK D1 HO HK
    by_cases hlt : j < arcs.length
    · obtain ⟨_, _, e1, _, hf⟩ := (R1.out.keep HK'.out).form
      cases e1
      obtain ⟨b, o, u, rfl, hcell, hu⟩ := hf j hlt
      obtain ⟨p, q, hpq, hp, hq⟩ := HAR.out j hlt
      rw [hpq] at hu
      obtain ⟨rb, ro, rc, rfl, hr0, hr1⟩ := hu.pair
      have HPQ := Lib.hid hpq
      clear hpq hu hf
      have hpn : p < n := by omega
      have hl0 : wr.cell? ⟨w.heap.size + 1, p, none⟩ = some (.int .i64 (aft arcs p j : Int)) := by
        rw [HO'.out.cellAt' p (by rw [aftL_length]; exact hpn), aftL_getD _ _ _ _ hpn]
      have HOR : Hid (bits BinOp.or IntKind.i64 (aft arcs p j : Int) (IntKind.i64.wrap (2 ^ q)) = ((aft arcs p j ||| 2 ^ q : Nat) : Int)) := or_pow (aft_lt (n := 12) arcs p j (fun i hi => by obtain ⟨p', q', e, _, h⟩ := HAR.out i (by omega); exact ⟨p', q', e, by omega⟩)) (by omega) (by omega)
      go_wp2
      go_still_tail 12, (by kernel_rfl)
      rw [HOR.out]
      change wpList _ _ _ _ _ wr.drew
      have hl1 : wr.drew.cell? ⟨w.heap.size + 1, p, none⟩ = some (.int .i64 (aft arcs p j : Int)) := hl0
      have hl2 : wr.drew.frozen? ⟨w.heap.size + 1, p, none⟩ = false := HO'.out.frozen' p
      have HOd := Lib.hid (HO'.out.keep (Keeps.refl wr).drew)
      have HKd := Lib.hid (Keeps.drew HK'.out)
      generalize wr.drew = w2 at hl1 hl2 HOd HKd
      clear hl0 hr0 hr1 hcell
      go_wp2
      go_roundw
      case rel =>
        obtain ⟨h6, h7⟩ := HOd.out.setAt (y := ((aft arcs p j ||| 2 ^ q : Nat) : Int)) p (by rw [aftL_length]; exact hpn)
        refine ⟨j + 1, by go_num, by omega, ?_, HKd.out.setCell (by simp) _⟩
        rw [aftL_step HPQ.out]; exact h6
      case measure => simp [intOf]; omega
    · go_wp2
      go_ret
      have he : j = arcs.length := by omega
      subst he
      exact ⟨_, rfl, by rw [HX.out]; exact HO'.out, HK'.out⟩
set_option maxRecDepth 100000 in
set_option maxHeartbeats 2000000 in
theorem numbersTo_any (n : Nat) (w : World) (hn : n ≤ 1000000) : Calls Try.prog 95 #[.int .i64 n] w (RetS w (iota 0 n)) := by
  obtain ⟨i0, hi, hz0, hz1, hz2⟩ := info_parts info_int
  have HI := Lib.hid hi
  have HZ0 := Lib.hid hz0
  have HZ1 := Lib.hid hz1
  have HZ2 := Lib.hid hz2
  clear hi hz0 hz1 hz2
  go_enter Try.func95, Try.ntmps95
  go_wp2_with (at_make; refine wpList_make_full _ rfl _ _ 43 rfl w.heap.size 3 i0 (.int .i64 0) 1 Try.underlying43 HI.out HZ0.out HZ1.out .i64 .i64 _ _ n rfl rfl rfl rfl (by rw [HZ2.out]; omega) (by unfold maxLen; omega) (by simp) ?_; intro w1 hown hgr; obtain ⟨hO, hK⟩ := made_ints hown hgr; have HO := Lib.hid hO; have HK := Lib.hid hK; clear hown hgr hO hK)
  go_loopw [9] (fun i wr => ∃ j : Nat, i = .int .i64 j ∧ j ≤ n ∧ Own w.heap.size wr (.slice (some ⟨w.heap.size, 0, none⟩) n n) (iota 0 j ++ List.replicate (n - j) 0) ∧ Keeps w wr) (fun i _ => n - (intOf i).toNat)
  case atStart => exact ⟨0, rfl, Nat.zero_le _, by simpa [iota] using HO.out, HK.out⟩
  case round =>
    obtain ⟨j, rfl, hj, hO, hK⟩ := hrel
    have HO' := Lib.hid hO
    have HK' := Lib.hid hK
    clear hO hK HO HK
    by_cases hlt : j < n
    · have hl0 := HO'.out.cellAt' j (by simp [iota_length]; omega)
      have hl1 := HO'.out.frozen' j
      have hl2 : ∃ u, wr.cell? ⟨w.heap.size, j, none⟩ = some u := ⟨_, hl0⟩
      clear hl0
      obtain ⟨u, hl0⟩ := hl2
      go_wp2
      go_roundw
      case rel =>
        obtain ⟨q, hq⟩ : ∃ q, n - j = q + 1 := ⟨n - j - 1, by omega⟩
        have h5 := HO'.out
        rw [hq, List.replicate_succ] at h5
        obtain ⟨h6, h7⟩ := Own.set (y := (j : Int)) h5 j (by simp [iota_length])
        refine ⟨j + 1, by go_num, by omega, ?_, HK'.out.setCell (by simp) _⟩
        rw [iota_succ, show n - (j + 1) = q by omega]
        simpa using h6
      case measure => simp [intOf]; omega
    · go_wp2
      go_ret
      have he : j = n := by omega
      subst he
      exact ⟨_, rfl, by simpa using HO'.out, HK'.out⟩

set_option maxRecDepth 100000 in
set_option maxHeartbeats 2000000 in
theorem loopOf1_any (x : WP) (a g : Nat) (u : Value) (w : World) (h0 : w.cell? ⟨g, 0, none⟩ = some (.int .i64 x.labels)) (h1 : w.cell? ⟨g, 1, none⟩ = some u) (h : IntRows w u x.arcs) (hg : walkGood x = true) (ha : (a : Int) < x.labels) :
    Calls Try.prog 96 #[.int .i64 a, .pointer (some ⟨g, 0, none⟩)] w fun e w' => e = .returned (.bool ((aft x.arcs a x.arcs.length).testBit a)) ∧ Keeps w w' := by
  have HC := Lib.hid (after_any (.agg #[.int .i64 x.labels, u]) x w ⟨u, rfl, h⟩ hg)
  have HL : Hid (afterL x = aftL x.labels.toNat x.arcs x.arcs.length) := rfl
  obtain ⟨b1, b2, _⟩ := walkGood_arc hg
  obtain ⟨a1, c1, rfl, _, _⟩ := h.form
  have hlen : a < (afterL x).length := by rw [HL.out, aftL_length]; omega
  have HB := Lib.hid (aft_q hg)
  clear h hg
  go_enter Try.func96, Try.ntmps96
  go_wp2_with (go_at_call 97; refine (HC.out).mono ?_; rintro e w' ⟨v', rfl, hO, hK⟩; have HO := Lib.hid hO; have HK := Lib.hid hK; obtain ⟨g', c', rfl, hf⟩ := hO.form (by rw [HL.out, aftL_length]; omega); obtain ⟨hc, _⟩ := hf a (by rw [HL.out, aftL_length]; omega); rw [HL.out, aftL_getD _ _ _ _ (by omega)] at hc; clear hf hO hK)
  rw [tst_i64 (aft_lt (n := 12) _ _ _ HB.out) (by omega)]
  go_ret
  exact ⟨rfl, HK.out⟩

/-- The method loopOf. -/
def loopF (x : WP) : Int := firstIdx (fun a => (aft x.arcs a x.arcs.length).testBit a) x.labels.toNat

set_option maxRecDepth 100000 in
set_option maxHeartbeats 2000000 in
theorem loopOfM_any (v : Value) (x : WP) (w : World) (h : RdW w v x) (hg : walkGood x = true) :
    Calls Try.prog 61 #[v] w fun e w' => e = .returned (.int .i64 (loopF x)) ∧ Keeps w w' := by
  have hmf : ∀ (fn : Fn) (first cap : Array Value) (w : World), (Instr.makeFunc fn first cap).run Try.prog w = .ok (.func fn first cap) w := fun _ _ _ _ => rfl
  obtain ⟨v1, rfl, r1⟩ := h
  have R1 := Lib.hid r1
  have HG := Lib.hid hg
  obtain ⟨b1, b2, _⟩ := walkGood_arc hg
  obtain ⟨a1, c1, rfl, m1, _⟩ := r1.form
  have HX : Hid (loopF x = firstIdx (fun a => (aft x.arcs a x.arcs.length).testBit a) x.labels.toNat) := rfl
  obtain ⟨n, hn⟩ : ∃ n : Nat, x.labels = n := ⟨x.labels.toNat, by omega⟩
  have HN := Lib.hid hn
  have e0 : (.int .i64 x.labels : Value) = .int .i64 (n : Int) := by rw [hn]
  rw [e0]
  clear r1 hg hn e0
  have K0 : Hid (Keeps w (w.alloc (.cells #[.int .i64 n, .slice a1 x.arcs.length c1] 27))) := (Keeps.refl _).alloc _
  have C0 : Hid ((w.alloc (.cells #[.int .i64 n, .slice a1 x.arcs.length c1] 27)).cell? ⟨w.heap.size, 0, none⟩ = some (.int .i64 n)) := by show _ = _; rw [World.cell?_alloc_at _ _ _ _ rfl]; rfl
  have C1 : Hid ((w.alloc (.cells #[.int .i64 n, .slice a1 x.arcs.length c1] 27)).cell? ⟨w.heap.size, 1, none⟩ = some (.slice a1 x.arcs.length c1)) := by show _ = _; rw [World.cell?_alloc_at _ _ _ _ rfl]; rfl
  go_enter Try.func61, Try.ntmps61
  go_wp2_with (first
    | (go_at_call 95; refine (numbersTo_any n _ (by have := HN.out; omega)).mono ?_; rintro e w1 ⟨v', rfl, hO, hK⟩; have HO := Lib.hid hO; have HK := Lib.hid hK; clear hO hK)
    | (go_at_call 94
       refine (indexFunc_int 96 (fun _ _ => by kernel_rfl) #[.pointer (some ⟨w.heap.size, 0, none⟩)] v' ((iota 0 n).map (Value.int .i64)) (fun a => (aft x.arcs a x.arcs.length).testBit a) (fun w' => Keeps w1 w') w1 (Keeps.refl _) (fun w' hk => (HO.out.ints).keep hk) (fun i hi w' hk => ?_)).mono ?_
       · have hi' : i < n := by simpa [iota_length] using hi
         have e1 : ((iota 0 n).map (Value.int .i64)).getD i undef = .int .i64 (i : Int) := by simp [iota, hi']
         rw [e1]
         refine (loopOf1_any x i w.heap.size (.slice a1 x.arcs.length c1) w' (by rw [HN.out]; exact cell_keep (Keeps.trans HK.out hk) C0.out) (cell_keep (Keeps.trans HK.out hk) C1.out) (R1.out.keep (Keeps.trans K0.out (Keeps.trans HK.out hk))) HG.out (by rw [HN.out]; omega)).mono ?_
         rintro e w'' ⟨rfl, hk2⟩
         exact ⟨rfl, Keeps.trans hk hk2⟩
       rintro e w2 ⟨rfl, hk⟩
       have HK2 := Lib.hid hk
       clear hk))
  go_ret
  exact ⟨ret_int (by rw [HX.out, HN.out]; simp [iota_length]), Keeps.trans K0.out (Keeps.trans HK.out HK2.out)⟩
end Go.Proofs.Ytcjmpodljhcbhaa
