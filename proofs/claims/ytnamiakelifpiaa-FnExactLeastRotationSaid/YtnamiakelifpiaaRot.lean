/- The contracts of isBefore, slices.Grow (of nil), slices.Concat, and both LeastRotation functions. -/
import Derived.Test.YtnamiakelifpiaaSeq
import Derived.BigQuiet
import Derived.Deep.RegionHeld3
namespace Go.Proofs.Ytnamiakelifpiaa
open Go.RowKit
set_option linter.unusedSimpArgs false
set_option linter.unusedVariables false

set_option maxHeartbeats 800000 in
theorem isBefore_any (va vb : Value) (la lb : List Int) (w : World) (ha : Ints w va la) (hb : Ints w vb lb) :
    Calls Try.prog 39 #[va, vb] w fun e w' => e = .returned (.bool (decide (lexCmp la lb < 0))) ∧ Dr w w' := by
  obtain ⟨a, ca, rfl, ma, fa⟩ := ha.form
  obtain ⟨b, cb, rfl, mb, fb⟩ := hb.form
  have Fa := Lib.hid fa
  have Fb := Lib.hid fb
  clear fa fb ha hb
  go_enter Try.func39, Try.ntmps39
  go_wp2
  go_loopw [5] (fun i wr => ∃ k : Nat, i = .int .i64 k ∧ k ≤ la.length ∧ k ≤ lb.length ∧ lexCmp (la.drop k) (lb.drop k) = lexCmp la lb ∧ Dr w wr) (fun i _ => la.length - (intOf i).toNat)
  case atStart => exact ⟨0, rfl, Nat.zero_le _, Nat.zero_le _, rfl, Dr.refl _⟩
  case round =>
    obtain ⟨k, rfl, hk1, hk2, hlex, nd, rfl⟩ := hrel
    have HX := Lib.hid hlex
    clear hlex
    by_cases hlt : k < la.length
    · obtain ⟨ba, oa, rfl, hca⟩ := Fa.out k hlt
      by_cases hlb : k < lb.length
      · obtain ⟨bb, ob, rfl, hcb⟩ := Fb.out k hlb
        have HD := Lib.hid (lexCmp_drop hlt hlb)
        generalize la.getD k 0 = x at hca HD
        generalize lb.getD k 0 = y at hcb HD
        cases hxy : (x != y)
        · have HXY : Hid (x = y) := by show x = y; simpa using hxy
          go_wp2
          go_quiet (fail)
          go_wp2
          go_roundw
          case rel =>
            refine ⟨k + 1, by go_num, by omega, by omega, ?_, (Dr.refl w).more _⟩
            have := HXY.out
            rw [← HX.out, HD.out, if_neg (by omega), if_neg (by omega)]
          case measure => simp [intOf]; omega
        · have HXY : Hid (x ≠ y) := by show x ≠ y; simpa using hxy
          go_wp2
          go_quiet (fail)
          go_wp2
          go_quiet (fail)
          go_wp2
          go_ret
          refine ⟨?_, (((Dr.refl w).more _).more _).more _⟩
          have := HXY.out
          rw [← HX.out, HD.out]
          by_cases h : x < y
          · rw [if_pos h]; simp [h]
          · rw [if_neg h, if_pos (by omega)]; simp [h]
      · have hd : decide ((k : Int) < (lb.length : Int)) = false := by simp; omega
        go_wp2
        go_ret
        refine ⟨?_, (Dr.refl w).more _⟩
        rw [← HX.out, lexCmp_drop_end2 hlt (by omega)]
        simp; omega
    · have hd : decide ((k : Int) < (la.length : Int)) = false := by simp; omega
      go_wp2
      go_ret
      refine ⟨?_, (Dr.refl w).more _⟩
      rw [← HX.out, lexCmp_drop_end (by omega)]
      have e : k = la.length := by omega
      by_cases h : la.length < lb.length
      · rw [if_pos (by omega)]; simp [h]
      · rw [if_neg (by omega)]; simp; omega

/-- append(nil, make([]int, n)...). -/
theorem run_append_zeros (w : World) (n : Nat) (ty : TypeId) (h0 : 0 < n) (hn : n < 1000000000) :
    (Builtin.append_ #[22, 3] ty #[.slice none 0 0, .int .i64 n]).run Try.prog w =
      .ok (.slice (some ⟨w.heap.size, 0, none⟩) n (grownCap w n 0 3)) (w.drew.alloc (.cells (Builtin.zeroCells #[.int .i64 0] n ++ Builtin.zeroCells #[.int .i64 0] (grownCap w n 0 3 - n)) 3)) := by
  obtain ⟨i0, hi, hz0, hz1, hz2⟩ := info_parts info_int
  have h1 : n ≠ 0 := by omega
  have h63 : ¬ (9223372036854775807 < (n : Int)) := by omega
  have h48 : ¬ (281474976710656 < Builtin.nextslicecap n 0 * 8) := by rw [nextslicecap_zero h0]; omega
  have hw : IntKind.i64.wrap (n : Int) = n := IntWalk.i64_in _ (by omega)
  have hb : ¬ (281474976710656 < (n : Int) * 8) := by omega
  have hneg : ¬ ((n : Int) < 0) := by omega
  simp [Builtin.append_, run_underlying Try.underlying22, run_underlying Try.underlying3, sizeOf, typeInfo, zeroValue, hi, hz0, hz1, hz2, asInt, asIntOf, hw, hb, hneg, h1, h63, h48, Question.forced, run_firstCells_none, newRow, grownCap, Value.cells]

section
variable {ops : Array Oper} {rest : List Oper} {o : Oper} {a : Act} {Q : Exit → Act → World → Prop}
theorem wpL_zeros {w : World} {n : Nat} (h0 : 0 < n) (hn : n < 1000000000) (hgd : o.guard = none) {s x : Operand}
    (ho : o.op = .call { callee := .builtin .append, args := #[s, x], argTypes := #[22, 3] }) (hs : a.eval s = .slice none 0 0) (hx : a.eval x = .int .i64 n)
    (h : ∀ cap w', n ≤ cap → cap ≤ maxLen → Own w.heap.size w' (.slice (some ⟨w.heap.size, 0, none⟩) 0 cap) [] → Keeps w w' → wpList Try.prog ops Q rest (a.put o.dst (.slice (some ⟨w.heap.size, 0, none⟩) n cap)) w') :
    wpList Try.prog ops Q (o :: rest) a w := by
  refine wpList_plain hgd fun _ hK => ?_
  have hr := run_append_zeros w n o.type h0 hn
  have hge := grownCap_ge w n 0 3
  have hcm : grownCap w n 0 3 ≤ maxLen := grownCap_le_maxLen w n 0 3 (by simp only [maxLen]; omega)
  unfold Oper.wp execOp
  simp only [ho, resolve, invoke, builtin, Sem.run_bind, Sem.run_pure, Result.andThen_ok, List.map_toArray, List.map_cons, List.map_nil, hs, hx, hr]
  refine hK _ _ (h _ _ hge hcm ?_ (((Keeps.refl w).drew).alloc _))
  exact World.ownsRow_made (e := 3) (size := 1) w.drew _ _ (Nat.le_refl _) hcm (by simp [size_zeroCells]; omega)
end

set_option maxHeartbeats 400000 in
theorem grow_nil (n : Nat) (hn : n < 1000000000) (w : World) : Calls Try.prog 51 #[.slice none 0 0, .int .i64 n] w (RetS w []) := by
  by_cases h0 : 0 < n
  · have h0' : (0 : Int) < (n : Int) := by omega
    go_enter Try.func51, Try.ntmps51
    go_wp2_with (at_builtin; refine wpL_zeros h0 hn rfl rfl rfl rfl ?_; intro cap w1 hc1 hc2 hO hK)
    go_ret
    exact ⟨_, rfl, hO, hK⟩
  · have h0' : ¬ (0 : Int) < (n : Int) := by omega
    go_enter Try.func51, Try.ntmps51
    go_wp2
    go_ret
    exact ⟨_, rfl, Own.nil _ _, Keeps.refl _⟩

/-- A slice of slices of integers. -/
def IntRows (w : World) (v : Value) (LL : List (List Int)) : Prop := ∃ vs : List Value, Sl w v vs ∧ vs.length = LL.length ∧ ∀ i, i < vs.length → Ints w (vs.getD i undef) (LL.getD i [])
theorem IntRows.keep {w w' : World} {v : Value} {LL : List (List Int)} (h : IntRows w v LL) (k : Keeps w w') : IntRows w' v LL := by
  obtain ⟨vs, h1, h2, h3⟩ := h
  exact ⟨vs, h1.keep k, h2, fun i hi => (h3 i hi).keep k⟩
theorem IntRows.form {w : World} {v : Value} {LL : List (List Int)} (h : IntRows w v LL) :
    ∃ a c, v = .slice a LL.length c ∧ LL.length ≤ 9223372036854775807 ∧
      ∀ i, i < LL.length → ∃ b o u, a = some ⟨b, o, none⟩ ∧ w.cell? ⟨b, o + i, none⟩ = some u ∧ Ints w u (LL.getD i []) := by
  obtain ⟨vs, h1, h2, h3⟩ := h
  obtain ⟨a, c, rfl, h4, h5⟩ := h1.form
  rw [h2] at h4
  refine ⟨a, c, by rw [h2], h4, fun i hi => ?_⟩
  obtain ⟨b, o, rfl, hc⟩ := h5 i (by omega)
  exact ⟨b, o, _, rfl, hc, h3 i (by omega)⟩

theorem flat_take {LL : List (List Int)} {k : Nat} (h : k < LL.length) : (LL.take (k + 1)).flatten = (LL.take k).flatten ++ LL.getD k [] := by
  rw [List.take_succ_eq_append_getElem h, List.flatten_append, List.getD_eq_getElem?_getD, List.getElem?_eq_getElem h]
  simp only [List.flatten_cons, List.flatten_nil, List.append_nil, Option.getD_some]
theorem flat_take_le (LL : List (List Int)) (k : Nat) : (LL.take k).flatten.length ≤ LL.flatten.length := by
  have h : LL.flatten = (LL.take k).flatten ++ (LL.drop k).flatten := by rw [← List.flatten_append, List.take_append_drop]
  rw [h, List.length_append]; omega

set_option maxHeartbeats 800000 in
theorem concat_any (v : Value) (LL : List (List Int)) (w : World) (h : IntRows w v LL) (hl : LL.flatten.length < 1000000000) : Calls Try.prog 41 #[v] w (RetS w LL.flatten) := by
  have H := Lib.hid h
  obtain ⟨a, c, rfl, hm, hf⟩ := h.form
  clear h
  have HF := Lib.hid hf
  clear hf
  go_enter Try.func41, Try.ntmps41
  go_wp2
  go_loop [3, 11] (fun s i => ∃ k n : Nat, i = .int .i64 k ∧ k ≤ LL.length ∧ s = .int .i64 n ∧ n = (LL.take k).flatten.length) (fun _ i => LL.length - (intOf i).toNat)
  case atStart => exact ⟨0, 0, rfl, Nat.zero_le _, rfl, by simp⟩
  case round =>
    obtain ⟨k, n, rfl, hk, rfl, hn⟩ := hrel
    have HN := Lib.hid hn
    have hnb : n < 1000000000 := by have := flat_take_le LL k; omega
    clear hn
    by_cases hlt : k < LL.length
    · obtain ⟨b, o, u, rfl, hc, hu⟩ := HF.out k hlt
      obtain ⟨au, cu, rfl, hmu, _⟩ := hu.form
      have hnx : n + (LL.getD k []).length < 1000000000 := by
        have h1 := flat_take_le LL (k + 1)
        rw [flat_take hlt, List.length_append, ← HN.out] at h1
        omega
      have HX : Hid ((LL.take (k + 1)).flatten.length = n + (LL.getD k []).length) := by show _ = _; rw [flat_take hlt, List.length_append, HN.out]
      generalize (LL.getD k []).length = m at *
      have hneg : ¬ ((n : Int) + (m : Int) < 0) := by omega
      go_wp2
      go_round
      case rel => exact ⟨k + 1, n + m, by go_num, by omega, by go_num, HX.out.symm⟩
      case measure => simp [intOf]; omega
    · have hk' : k = LL.length := by omega
      have HN2 : Hid (n = LL.flatten.length) := by
        show n = _
        have := HN.out
        rw [hk', List.take_of_length_le (Nat.le_refl _)] at this
        exact this
      clear hk'
      go_wp2_with (go_at_call 51; refine (grow_nil n hnb _).mono ?_; rintro e w1 ⟨v1, rfl, ho1, hk1⟩)
      have HO1 := Lib.hid ho1
      have HK1 := Lib.hid hk1
      clear ho1 hk1
      go_loopw [6, 27] (fun ov i wr => ∃ (k : Nat) (L : List Int), i = .int .i64 k ∧ k ≤ LL.length ∧ L = (LL.take k).flatten ∧ Own w.heap.size wr ov L ∧ Keeps w wr) (fun _ i _ => LL.length - (intOf i).toNat)
      case atStart => exact ⟨0, [], rfl, Nat.zero_le _, by simp, HO1.out, HK1.out⟩
      case round =>
        obtain ⟨k, L, rfl, hk, hL, hO, hK⟩ := hrel
        have HL := Lib.hid hL
        have HO := Lib.hid hO
        have HK := Lib.hid hK
        clear hL hO hK HO1 HK1
        by_cases hlt : k < LL.length
        · obtain ⟨b, o, u, rfl, hc0, hu0⟩ := HF.out k hlt
          have hc := cell_keep HK.out hc0
          have HU := Lib.hid (hu0.keep HK.out)
          clear hc0 hu0
          have hnx : L.length + (LL.getD k []).length < 1000000000 := by
            have h1 := flat_take_le LL (k + 1)
            rw [flat_take hlt, List.length_append, ← HL.out] at h1
            omega
          go_wp2_with (at_builtin; refine wpL_apps HO.out HU.out hnx HK.out.size rfl rfl rfl rfl ?_; intro v' w' hA)
          go_roundw
          case rel => exact ⟨k + 1, _, by go_num, by omega, by rw [flat_take hlt, HL.out], hA.own, hA.keeps HK.out (Nat.le_refl _)⟩
          case measure => simp [intOf]; omega
        · go_wp2
          go_ret
          refine ⟨_, rfl, ?_, HK.out⟩
          have := HO.out
          rw [HL.out, List.take_of_length_le (by omega)] at this
          exact this

/-! ### LeastRotation -/
def rotAt (l : List Int) (k : Nat) : List Int := l.drop k ++ l.take k
def rotMin (l : List Int) : Nat → List Int
  | 0 => l
  | k + 1 => if lexCmp (rotAt l k) (rotMin l k) < 0 then rotAt l k else rotMin l k
theorem rotMin_length (l : List Int) (k : Nat) (h : k ≤ l.length) : (rotMin l k).length = l.length := by
  induction k with
  | zero => rfl
  | succ k ih =>
    rw [rotMin]
    split
    · simp [rotAt]; omega
    · exact ih (by omega)
theorem rotMin_one (l : List Int) : rotMin l 1 = l := by
  have : rotAt l 0 = l := by simp [rotAt]
  simp [rotMin, this, lexCmp_self]
def fLeastRotationSpec (l : List Int) : Option (List Int) := if inB l.length 1 200 then some (rotMin l l.length) else none
def fLeastRotationImpl (l : List Int) : Option (List Int) := if inB l.length 1 200 then some (rotMin l l.length) else none
theorem LeastRotation_eq (l : List Int) (hl : ∀ n ∈ l, I64 n) (hs : l.length ≤ 1048576) : fLeastRotationImpl l = fLeastRotationSpec l := rfl

set_option maxHeartbeats 1000000 in
theorem specLeastRotation_any (v : Value) (l : List Int) (w : World) (h : Ints w v l) (hl : ∀ n ∈ l, I64 n) (hs : l.length ≤ 1048576) :
    Calls Try.prog 20 #[v] w (RetSB w (fLeastRotationSpec l)) := by
  have H := Lib.hid h
  obtain ⟨a, c, rfl, hm, hf⟩ := h.form
  have HF := Lib.hid hf
  have hcap := h.cap.2.1
  clear h hl hf
  have HS : Hid (fLeastRotationSpec l = if inB l.length 1 200 then some (rotMin l l.length) else none) := rfl
  cases hb : inB l.length 1 200
  · go_enter Try.func20, Try.ntmps20
    go_wp2_with (go_at_call 22; refine (l1In_any _ _ _ _).mono ?_; rintro e w' ⟨rfl, rfl⟩)
    go_ret2
    rw [HS.out, hb]
    exact RetSB.none (Keeps.refl _)
  have hbl := inB_true.1 hb
  obtain ⟨hb1, hb2⟩ := hbl
  have HB := Lib.hid hb
  obtain ⟨b, o, rfl, _⟩ := HF.out 0 (by omega)
  clear HF
  go_enter Try.func20, Try.ntmps20
  go_wp2_with (first | (go_at_call 22; refine (l1In_any _ _ _ _).mono ?_; rintro e w' ⟨rfl, rfl⟩) | (go_at_call 38; refine (l1Own_any _ _ _ H.out (by omega)).mono ?_; rintro e w1 ⟨v1, rfl, ho1, hk1⟩))
  have HO1 := Lib.hid ho1
  have HK1 := Lib.hid hk1
  clear ho1 hk1 hb
  go_loopw [4, 5] (fun bv i wr => ∃ (k : Nat) (L : List Int), i = .int .i64 k ∧ 1 ≤ k ∧ k ≤ l.length ∧ L = rotMin l k ∧ Own w.heap.size wr bv L ∧ Keeps w wr) (fun _ i _ => l.length - (intOf i).toNat)
  case atStart => exact ⟨1, l, rfl, by omega, by omega, (rotMin_one l).symm, HO1.out, HK1.out⟩
  case round =>
    obtain ⟨k, L, rfl, hk1, hk2, hL, hO, hK⟩ := hrel
    have HL := Lib.hid hL
    have HO := Lib.hid hO
    have HK := Lib.hid hK
    clear hL hO hK HO1 HK1
    by_cases hlt : k < l.length
    · have HT := Lib.hid ((H.out.keep HK.out).take k (by omega))
      have HD := Lib.hid ((H.out.keep HK.out).drop k (by omega))
      have hk0 : (0 : Int) ≤ (k : Int) := by omega
      have hkl : (k : Int) ≤ (l.length : Int) := by omega
      have hkc : (k : Int) ≤ (c : Int) := by omega
      have hlc : (l.length : Int) ≤ (c : Int) := by omega
      have hne : ¬ c = k := by omega
      go_wp2
      go_region_held3 (fun w' => True) (trivial)
        ((first
          | (go_at_call 38; refine (l1Own_any _ _ _ (HD.out.keep (Keeps.refl _).drew) (by simp; omega)).mono ?_; rintro e w1 ⟨v1, rfl, ho1, hk1⟩)
          | (refine step_apps (B := wr.heap.size) (l := l.drop k) (ys := l.take k) (by rfl) (by rfl) (by rfl) (by rfl) ho1 ((HT.out.keep (Keeps.refl _).drew).keep hk1) (by simp; omega) hk1.size ?_; intro v' w' hA)))
      have HO1 := Lib.hid ho1
      have HK1 : Hid (Keeps wr w1) := Keeps.trans (Keeps.refl _).drew hk1
      have HA : Hid (App wr.heap.size w1 v1 (l.drop k) (l.take k) v' w') := hA
      clear ho1 hk1 hA
      have HOb := Lib.hid (HA.out.keep (HO.out.keep HK1.out) (Own.apart_old HO.out HO1.out (Nat.le_refl _)))
      have HK2 : Hid (Keeps w w') := HA.out.keeps (Keeps.trans HK.out HK1.out) HK.out.size
      go_wp2_with (go_at_call 39; refine (isBefore_any _ _ _ _ _ HA.out.own.ints HOb.out.ints).mono ?_; rintro e w2 ⟨rfl, hd⟩)
      · have HDr := Lib.hid hd
        have hless : lexCmp (l.drop k ++ l.take k) L < 0 := by assumption
        have HLs := Lib.hid hless
        clear hd hless
        go_wp2
        go_roundw
        case rel =>
          refine ⟨k + 1, rotAt l k, by go_num, by omega, by omega, ?_, (HA.out.own.keep HDr.out.keeps).mono HK.out.size, Keeps.trans HK2.out HDr.out.keeps⟩
          have h5 : lexCmp (rotAt l k) (rotMin l k) < 0 := by rw [← HL.out]; exact HLs.out
          rw [rotMin, if_pos h5]
        case measure => simp [intOf]; omega
      · have HDr := Lib.hid hd
        have h6 : 0 ≤ lexCmp (l.drop k ++ l.take k) L := by assumption
        have hless : ¬ lexCmp (l.drop k ++ l.take k) L < 0 := by omega
        clear h6
        have HLs := Lib.hid hless
        clear hd hless
        go_wp2
        go_roundw
        case rel =>
          refine ⟨k + 1, L, by go_num, by omega, by omega, ?_, HOb.out.keep HDr.out.keeps, Keeps.trans HK2.out HDr.out.keeps⟩
          have h5 : ¬ lexCmp (rotAt l k) (rotMin l k) < 0 := by rw [← HL.out]; exact HLs.out
          rw [rotMin, if_neg h5, HL.out]
        case measure => simp [intOf]; omega
    · go_wp2
      go_ret2
      rw [HS.out, HB.out]
      refine ⟨_, rfl, ?_, ?_, HK.out⟩
      · have := HO.out
        rw [HL.out, show k = l.length by omega] at this
        exact this
      · show (rotMin l l.length).length ≤ _
        rw [rotMin_length l _ (Nat.le_refl _)]; omega


theorem two_rows {w : World} {va vb : Value} {la lb : List Int} (ha : Ints w va la) (hb : Ints w vb lb) :
    IntRows (w.alloc (.cells #[va, vb] 22)) (.slice (some ⟨w.heap.size, 0, none⟩) 2 2) [la, lb] := by
  have k : Keeps w (w.alloc (.cells #[va, vb] 22)) := (Keeps.refl _).alloc _
  refine ⟨[va, vb], ⟨_, 2, rfl, Nat.le_refl _, by simp [maxLen], .inr ⟨w.heap.size, 0, rfl, fun i x hx => ?_⟩⟩, rfl, fun i hi => ?_⟩
  · rw [Nat.zero_add, World.cell?_alloc_at _ _ _ _ rfl]
    simpa using hx
  · match i, hi with
    | 0, _ => exact ha.keep k
    | 1, _ => exact hb.keep k

set_option maxHeartbeats 1000000 in
theorem implLeastRotation_any (v : Value) (l : List Int) (w : World) (h : Ints w v l) (hl : ∀ n ∈ l, I64 n) (hs : l.length ≤ 1048576) :
    Calls Try.prog 21 #[v] w (RetSB w (fLeastRotationImpl l)) := by
  have H := Lib.hid h
  obtain ⟨a, c, rfl, hm, hf⟩ := h.form
  have HF := Lib.hid hf
  have hcap := h.cap.2.1
  clear h hl hf
  have HS : Hid (fLeastRotationImpl l = if inB l.length 1 200 then some (rotMin l l.length) else none) := rfl
  cases hb : inB l.length 1 200
  · go_enter Try.func21, Try.ntmps21
    go_wp2_with (go_at_call 23; refine (within_any _ _ _ _).mono ?_; rintro e w' ⟨rfl, rfl⟩)
    go_ret2
    rw [HS.out, hb]
    exact RetSB.none (Keeps.refl _)
  have hbl := inB_true.1 hb
  obtain ⟨hb1, hb2⟩ := hbl
  have HB := Lib.hid hb
  obtain ⟨b, o, rfl, _⟩ := HF.out 0 (by omega)
  clear HF
  go_enter Try.func21, Try.ntmps21
  go_wp2_with (first | (go_at_call 23; refine (within_any _ _ _ _).mono ?_; rintro e w' ⟨rfl, rfl⟩) | (go_at_call 40; refine (clone_any _ _ _ H.out (by omega)).mono ?_; rintro e w1 ⟨v1, rfl, ho1, hk1⟩))
  have HO1 := Lib.hid ho1
  have HK1 := Lib.hid hk1
  clear ho1 hk1 hb
  go_loopw [4, 15] (fun bv i wr => ∃ (k : Nat) (L : List Int), i = .int .i64 k ∧ k ≤ l.length ∧ L = rotMin l k ∧ Own w.heap.size wr bv L ∧ Keeps w wr) (fun _ i _ => l.length - (intOf i).toNat)
  case atStart => exact ⟨0, l, rfl, by omega, rfl, HO1.out, HK1.out⟩
  case round =>
    obtain ⟨k, L, rfl, hk2, hL, hO, hK⟩ := hrel
    have HL := Lib.hid hL
    have HO := Lib.hid hO
    have HK := Lib.hid hK
    clear hL hO hK HO1 HK1
    by_cases hlt : k < l.length
    · have HT := Lib.hid ((H.out.keep HK.out).take k (by omega))
      have HD := Lib.hid ((H.out.keep HK.out).drop k (by omega))
      have hk0 : (0 : Int) ≤ (k : Int) := by omega
      have hkl : (k : Int) ≤ (l.length : Int) := by omega
      have hkc : (k : Int) ≤ (c : Int) := by omega
      have hlc : (l.length : Int) ≤ (c : Int) := by omega
      have hne : ¬ c = k := by omega
      go_wp2
      go_region_held3 (fun w' => True) (trivial)
        ((first
          | (go_at_call 41; refine (concat_any _ [l.drop k, l.take k] _ (two_rows (HD.out.keep (Keeps.refl _).drew) (HT.out.keep (Keeps.refl _).drew)) (by simp; omega)).mono ?_; rintro e w1 ⟨v1, rfl, ho1, hk1⟩)))
      have ho2 : Own wr.heap.size w1 v1 (rotAt l k) := by
        have := ho1.mono (B' := wr.heap.size) (by simp)
        simpa [rotAt] using this
      have HO1 := Lib.hid ho2
      have HK1 : Hid (Keeps wr w1) := Keeps.trans ((Keeps.refl _).drew.alloc _) hk1
      clear ho1 hk1 ho2
      have HOb := Lib.hid (HO.out.keep HK1.out)
      go_wp2_with (go_at_call 42; refine (compare_any _ _ _ _ _ HO1.out.ints HOb.out.ints).mono ?_; rintro e w2 ⟨rfl, rfl⟩)
      · have hless : lexCmp (rotAt l k) L < 0 := by assumption
        have HLs := Lib.hid hless
        clear hless
        go_roundw
        case rel =>
          refine ⟨k + 1, rotAt l k, by go_num, by omega, ?_, HO1.out.mono HK.out.size, Keeps.trans HK.out HK1.out⟩
          have h5 : lexCmp (rotAt l k) (rotMin l k) < 0 := by rw [← HL.out]; exact HLs.out
          rw [rotMin, if_pos h5]
        case measure => simp [intOf]; omega
      · have h6 : 0 ≤ lexCmp (rotAt l k) L := by assumption
        have hless : ¬ lexCmp (rotAt l k) L < 0 := by omega
        have HLs := Lib.hid hless
        clear hless h6
        go_roundw
        case rel =>
          refine ⟨k + 1, L, by go_num, by omega, ?_, HOb.out, Keeps.trans HK.out HK1.out⟩
          have h5 : ¬ lexCmp (rotAt l k) (rotMin l k) < 0 := by rw [← HL.out]; exact HLs.out
          rw [rotMin, if_neg h5, HL.out]
        case measure => simp [intOf]; omega
    · go_wp2
      go_ret2
      rw [HS.out, HB.out]
      refine ⟨_, rfl, ?_, ?_, HK.out⟩
      · have := HO.out
        rw [HL.out, show k = l.length by omega] at this
        exact this
      · show (rotMin l l.length).length ≤ _
        rw [rotMin_length l _ (Nat.le_refl _)]; omega

end Go.Proofs.Ytnamiakelifpiaa
