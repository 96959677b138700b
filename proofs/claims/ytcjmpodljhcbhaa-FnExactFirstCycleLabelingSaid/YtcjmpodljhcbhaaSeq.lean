/- Reading parts of slices; appends of whole slices; the contracts of slices.Clone, l1Own, cmp.Compare, slices.Compare, isBefore. -/
import Derived.Test.YtcjmpodljhcbhaaOpen
import Derived.Test.YtcjmpodljhcbhaaCt
import Derived.WalkSpells
namespace Go.Proofs.Ytcjmpodljhcbhaa
open Go.RowKit
set_option linter.unusedSimpArgs false
set_option linter.unusedVariables false

theorem Ints.cap {w : World} {a : Option Addr} {n c : Nat} {l : List Int} (h : Ints w (.slice a n c) l) : n = l.length ∧ l.length ≤ c ∧ c ≤ maxLen := by
  obtain ⟨a', c', he, h1, h2, _⟩ := h
  simp only [Value.slice.injEq, List.length_map] at he h1
  obtain ⟨rfl, rfl, rfl⟩ := he
  exact ⟨rfl, h1, h2⟩
theorem Ints.drop {w : World} {b o n c : Nat} {l : List Int} (h : Ints w (.slice (some ⟨b, o, none⟩) n c) l) (i : Nat) (hi : i ≤ l.length) : Ints w (.slice (some ⟨b, o + i, none⟩) (n - i) (c - i)) (l.drop i) := by
  obtain ⟨rfl, h1, h2⟩ := h.cap
  obtain ⟨a', c', he, _, _, h3⟩ := h
  simp only [Value.slice.injEq, List.length_map] at he
  obtain ⟨rfl, -, rfl⟩ := he
  refine ⟨some ⟨b, o + i, none⟩, c - i, by simp, by simp; omega, by omega, ?_⟩
  rcases h3 with h3 | ⟨b', o', he, h3⟩
  · left; simp at h3; simp [h3]
  · cases he
    refine .inr ⟨b, o + i, rfl, fun j x hx => ?_⟩
    rw [List.map_drop, List.getElem?_drop] at hx
    have := h3 _ _ hx
    rw [Nat.add_assoc]; exact this
theorem Ints.take {w : World} {b o n c : Nat} {l : List Int} (h : Ints w (.slice (some ⟨b, o, none⟩) n c) l) (i : Nat) (hi : i ≤ l.length) : Ints w (.slice (some ⟨b, o, none⟩) i c) (l.take i) := by
  obtain ⟨rfl, h1, h2⟩ := h.cap
  obtain ⟨a', c', he, _, _, h3⟩ := h
  simp only [Value.slice.injEq, List.length_map] at he
  obtain ⟨rfl, -, rfl⟩ := he
  refine ⟨some ⟨b, o, none⟩, c, by simp; omega, by simp; omega, h2, ?_⟩
  rcases h3 with h3 | ⟨b', o', he, h3⟩
  · left; simp at h3; simp [h3]
  · cases he
    refine .inr ⟨b, o, rfl, fun j x hx => ?_⟩
    rw [List.map_take, List.getElem?_take] at hx
    split at hx
    · exact h3 _ _ hx
    · cases hx

/-- append of a slice that reads as ys. -/
theorem run_apps {w : World} {B : Nat} {v : Value} {l : List Int} {u : Value} {ys : List Int} (hown : Own B w v l) (hu : Ints w u ys) (hlen : l.length + ys.length < 1000000000) (hB : B ≤ w.heap.size) (ty : TypeId) :
    ∃ v' w', (Builtin.append_ #[43, 43] ty #[v, u]).run Try.prog w = .ok v' w' ∧ App B w v l ys v' w' := by
  obtain ⟨i0, hi, hz0, hz1, hz2⟩ := info_parts info_int
  obtain ⟨a, c, rfl, h1, h2, h3⟩ := hu
  simp only [List.length_map] at h1
  by_cases hnone : a = none ∧ c ≠ 0
  · obtain ⟨rfl, hc⟩ := hnone
    have h0 : ys = [] := by
      rcases h3 with h3 | ⟨b', o', he, h3⟩
      · simpa using h3
      · cases he
    subst h0
    have hr : (Builtin.append_ #[43, 43] ty #[v, .slice none 0 c]).run Try.prog w = .ok v w := by
      rcases hown.2 with ⟨rfl, _⟩ | ⟨g, cap, cur, rfl, _, _, hnc, _⟩
      · simp [Builtin.append_, run_underlying Try.underlying43, sizeOf, typeInfo, hi, Builtin.lenOf, Builtin.firstCells]
      · simp [Builtin.append_, run_underlying Try.underlying43, sizeOf, typeInfo, hi, Builtin.lenOf, Builtin.firstCells, hnc, storeCells]
    exact ⟨v, w, by simpa using hr, ⟨by simpa using hown, grown_refl _ _, .inl rfl, hown⟩⟩
  · obtain ⟨v', w', hr, h4, h5, h6, h7⟩ := run_append_g (P := Try.prog) w B 43 ty 3 i0 (.int .i64 0) 1 8 Try.underlying43 hi hz0 hz1 hz2 rfl (by decide) v l.length (l.map (Value.int .i64)) hown
      a ys.length c (ys.map (Value.int .i64)) (by simp) (by
        intro hn
        subst hn
        refine ⟨?_, ?_⟩
        · rcases h3 with h3 | ⟨b', o', he, h3⟩
          · simp at h3; simp [h3]
          · cases he
        · apply Classical.byContradiction
          intro h
          exact hnone ⟨rfl, h⟩) (by
        intro ad hh j x hj
        rcases h3 with h3 | ⟨b', o', he, h3⟩
        · rw [h3] at hj; simp at hj
        · subst hh
          cases he
          have := h3 j x hj
          rw [show (⟨b', o', none⟩ : Addr).add j = ⟨b', o' + j, none⟩ from by unfold Addr.add; split <;> simp_all]
          exact this) (by
        intro x hx
        obtain ⟨n, _, rfl⟩ := List.mem_map.1 hx
        rfl) (by omega) (by simp only [maxLen]; omega) hB
    refine ⟨v', w', by simpa using hr, ⟨by simpa [Own] using h4, h5, h6.imp id fun h => by simpa [Own] using h, h7⟩⟩

section
variable {ops : Array Oper} {rest : List Oper} {o : Oper} {a : Act} {Q : Exit → Act → World → Prop}
theorem wpL_apps {w : World} {B : Nat} {v : Value} {l : List Int} {u : Value} {ys : List Int} (hown : Own B w v l) (hu : Ints w u ys) (hlen : l.length + ys.length < 1000000000) (hB : B ≤ w.heap.size)
    (hgd : o.guard = none) {s x : Operand}
    (ho : o.op = .call { callee := .builtin .append, args := #[s, x], argTypes := #[43, 43] }) (hs : a.eval s = v) (hx : a.eval x = u)
    (h : ∀ v' w', App B w v l ys v' w' → wpList Try.prog ops Q rest (a.put o.dst v') w') : wpList Try.prog ops Q (o :: rest) a w := by
  refine wpList_plain hgd fun _ hK => ?_
  obtain ⟨v', w', hr, hA⟩ := run_apps hown hu hlen hB o.type
  unfold Oper.wp execOp
  simp only [ho, resolve, invoke, builtin, Sem.run_bind, Sem.run_pure, Result.andThen_ok, List.map_toArray, List.map_cons, List.map_nil, hs, hx, hr]
  exact hK _ _ (h v' w' hA)
theorem step_apps {E : Prop} {K : Act → World → Prop} {w : World} {B : Nat} {v : Value} {l : List Int} {u : Value} {ys : List Int}
    (hgd : o.guard = none) {s x : Operand}
    (ho : o.op = .call { callee := .builtin .append, args := #[s, x], argTypes := #[43, 43] }) (hs : a.eval s = v) (hx : a.eval x = u)
    (hown : Own B w v l) (hu : Ints w u ys) (hlen : l.length + ys.length < 1000000000) (hB : B ≤ w.heap.size)
    (h : ∀ v' w', App B w v l ys v' w' → K (a.put o.dst v') w') :
    if Region.wanted o (yielded ops a.tmps) = true then Oper.wp Try.prog o a w K Q else E := by
  have hw : Region.wanted o (yielded ops a.tmps) = true := by simp [Region.wanted, hgd]
  rw [if_pos hw]
  obtain ⟨v', w', hr, hA⟩ := run_apps hown hu hlen hB o.type
  unfold Oper.wp execOp
  simp only [ho, resolve, invoke, builtin, Sem.run_bind, Sem.run_pure, Result.andThen_ok, List.map_toArray, List.map_cons, List.map_nil, hs, hx, hr]
  exact h v' w' hA
end

theorem Own.zero (B : Nat) (w : World) (hB : B ≤ w.heap.size) : Own B (w.alloc (.cells #[] 3)) (.slice (some ⟨w.heap.size, 0, none⟩) 0 0) [] :=
  World.ownsRow_lit (e := 3) (size := 1) w #[] 0 hB (by simp [maxLen]) rfl

/-- The call returns an owned list. -/
def RetS (w0 : World) (l : List Int) (e : Ending) (w' : World) : Prop := ∃ v, e = .returned v ∧ Own w0.heap.size w' v l ∧ Keeps w0 w'

set_option maxHeartbeats 400000 in
theorem l1Own_any (v : Value) (l : List Int) (w : World) (h : Ints w v l) (hl : l.length < 1000000000) : Calls Try.prog 71 #[v] w (RetS w l) := by
  have H := Lib.hid (h.keep ((Keeps.refl w).alloc (.cells #[] 3)))
  have HZ := Lib.hid (Own.zero w.heap.size w (Nat.le_refl _))
  clear h
  go_enter Try.func71, Try.ntmps71
  go_wp2_with (at_builtin; refine wpL_apps HZ.out H.out (by simpa using hl) (by simp) rfl rfl rfl rfl ?_; intro v' w' hA)
  go_ret
  exact ⟨_, rfl, by simpa using hA.own, hA.keeps ((Keeps.refl w).alloc _) (Nat.le_refl _)⟩

set_option maxHeartbeats 400000 in
theorem clone_any (v : Value) (l : List Int) (w : World) (h : Ints w v l) (hl : l.length < 1000000000) : Calls Try.prog 72 #[v] w (RetS w l) := by
  have H := Lib.hid (h.keep ((Keeps.refl w).alloc (.cells #[] 3)))
  have HZ := Lib.hid (Own.zero w.heap.size w (Nat.le_refl _))
  obtain ⟨a, c, rfl, _, hf⟩ := h.form
  have hn := fun (w : World) (a : Option Addr) (n c : Nat) => Lib.run_eql_slice_nil (P := Try.prog) w 43 3 a n c 0 0 Try.underlying43
  cases a with
  | none =>
    have h0 : Hid (l = []) := by
      show l = []
      cases l with
      | nil => rfl
      | cons x xs => obtain ⟨b, o, he, _⟩ := hf 0 (by simp); cases he
    clear hf h
    go_enter Try.func72, Try.ntmps72
    go_wp2
    go_ret
    exact ⟨_, rfl, by rw [h0.out]; exact Own.nil _ _, Keeps.refl _⟩
  | some ad =>
    clear hf h
    go_enter Try.func72, Try.ntmps72
    go_wp2_with (at_builtin; refine wpL_apps HZ.out H.out (by simpa using hl) (by simp) rfl rfl rfl rfl ?_; intro v' w' hA)
    go_ret
    exact ⟨_, rfl, by simpa using hA.own, hA.keeps ((Keeps.refl w).alloc _) (Nat.le_refl _)⟩

/-! ### Comparing -/
def icmp (x y : Int) : Int := if x < y then -1 else if y < x then 1 else 0
def lexCmp : List Int → List Int → Int
  | [], [] => 0
  | [], _ :: _ => -1
  | _ :: _, [] => 1
  | x :: xs, y :: ys => if x < y then -1 else if y < x then 1 else lexCmp xs ys
theorem lexCmp_self (l : List Int) : lexCmp l l = 0 := by
  induction l with
  | nil => rfl
  | cons x xs ih => simp [lexCmp, ih]
theorem lexCmp_bounds (a b : List Int) : -1 ≤ lexCmp a b ∧ lexCmp a b ≤ 1 := by
  induction a generalizing b with
  | nil => cases b <;> simp [lexCmp]
  | cons x xs ih =>
    cases b with
    | nil => simp [lexCmp]
    | cons y ys =>
      simp only [lexCmp]
      split
      · omega
      · split
        · omega
        · exact ih ys
theorem lexCmp_drop {a b : List Int} {k : Nat} (ha : k < a.length) (hb : k < b.length) :
    lexCmp (a.drop k) (b.drop k) = if a.getD k 0 < b.getD k 0 then -1 else if b.getD k 0 < a.getD k 0 then 1 else lexCmp (a.drop (k + 1)) (b.drop (k + 1)) := by
  rw [drop_eq_cons a k ha, drop_eq_cons b k hb, lexCmp]
theorem lexCmp_drop_end {a b : List Int} {k : Nat} (h : a.length ≤ k) : lexCmp (a.drop k) (b.drop k) = if k < b.length then -1 else 0 := by
  rw [List.drop_of_length_le h]
  by_cases hb : k < b.length
  · rw [drop_eq_cons b k hb, if_pos hb]; rfl
  · rw [List.drop_of_length_le (by omega), if_neg hb]; rfl
theorem lexCmp_drop_end2 {a b : List Int} {k : Nat} (ha : k < a.length) (h : b.length ≤ k) : lexCmp (a.drop k) (b.drop k) = 1 := by
  rw [List.drop_of_length_le h, drop_eq_cons a k ha]; rfl

set_option maxHeartbeats 400000 in
theorem isNaN_any (x : Int) (w : World) : Calls Try.prog 112 #[.int .i64 x] w fun e w' => e = .returned (.bool false) ∧ w = w' := by
  have hx : (x != x) = false := by simp
  go_enter Try.func112, Try.ntmps112
  go_wp2
  go_ret
  exact ⟨rfl, rfl⟩

set_option maxHeartbeats 400000 in
theorem cmpInt_any (x y : Int) (w : World) : Calls Try.prog 93 #[.int .i64 x, .int .i64 y] w fun e w' => e = .returned (.int .i64 (icmp x y)) ∧ w = w' := by
  have HI : Hid (icmp x y = if x < y then -1 else if y < x then 1 else 0) := rfl
  by_cases h1 : x < y
  · go_enter Try.func93, Try.ntmps93
    go_wp2_with (go_at_call 112; refine (isNaN_any _ _).mono ?_; rintro e w' ⟨rfl, rfl⟩)
    go_ret
    exact ⟨by rw [HI.out, if_pos h1]; rfl, rfl⟩
  · by_cases h2 : y < x
    · go_enter Try.func93, Try.ntmps93
      go_wp2_with (go_at_call 112; refine (isNaN_any _ _).mono ?_; rintro e w' ⟨rfl, rfl⟩)
      go_ret
      exact ⟨by rw [HI.out, if_neg (by omega), if_pos h2]; rfl, rfl⟩
    · go_enter Try.func93, Try.ntmps93
      go_wp2_with (go_at_call 112; refine (isNaN_any _ _).mono ?_; rintro e w' ⟨rfl, rfl⟩)
      go_ret
      exact ⟨by rw [HI.out, if_neg (by omega), if_neg (by omega)]; rfl, rfl⟩

set_option maxHeartbeats 800000 in
theorem compare_any (va vb : Value) (la lb : List Int) (w : World) (ha : Ints w va la) (hb : Ints w vb lb) :
    Calls Try.prog 58 #[va, vb] w fun e w' => e = .returned (.int .i64 (lexCmp la lb)) ∧ w = w' := by
  obtain ⟨a, ca, rfl, ma, fa⟩ := ha.form
  obtain ⟨b, cb, rfl, mb, fb⟩ := hb.form
  have Fa := Lib.hid fa
  have Fb := Lib.hid fb
  clear fa fb ha hb
  go_enter Try.func58, Try.ntmps58
  go_wp2
  go_loop [11] (fun i => ∃ k : Nat, i = .int .i64 k ∧ k ≤ la.length ∧ k ≤ lb.length ∧ lexCmp (la.drop k) (lb.drop k) = lexCmp la lb) (fun i => la.length - (intOf i).toNat)
  case atStart => exact ⟨0, rfl, Nat.zero_le _, Nat.zero_le _, rfl⟩
  case round =>
    obtain ⟨k, rfl, hk1, hk2, hlex⟩ := hrel
    have HX := Lib.hid hlex
    clear hlex
    by_cases hlt : k < la.length
    · obtain ⟨ba, oa, rfl, hca⟩ := Fa.out k hlt
      by_cases hlb : k < lb.length
      · obtain ⟨bb, ob, rfl, hcb⟩ := Fb.out k hlb
        have hnl : ¬ (lb.length : Int) ≤ (k : Int) := by omega
        have HD := Lib.hid (lexCmp_drop hlt hlb)
        generalize la.getD k 0 = x at hca HD
        generalize lb.getD k 0 = y at hcb HD
        have HI : Hid (icmp x y = if x < y then -1 else if y < x then 1 else 0) := rfl
        by_cases h1 : x < y
        · have h1' := h1
          have e1 : Hid (icmp x y = -1) := by show _ = _; rw [HI.out, if_pos h1]
          go_wp2_with (go_at_call 93; refine (cmpInt_any _ _ _).mono ?_; rintro e w' ⟨rfl, rfl⟩; rw [e1.out])
          go_ret
          exact ⟨by rw [← HX.out, HD.out, if_pos h1']; rfl, rfl⟩
        · by_cases h2 : y < x
          · have e1 : Hid (icmp x y = 1) := by show _ = _; rw [HI.out, if_neg (by omega), if_pos h2]
            go_wp2_with (go_at_call 93; refine (cmpInt_any _ _ _).mono ?_; rintro e w' ⟨rfl, rfl⟩; rw [e1.out])
            go_ret
            exact ⟨by rw [← HX.out, HD.out, if_neg (by omega), if_pos h2]; rfl, rfl⟩
          · have e1 : Hid (icmp x y = 0) := by show _ = _; rw [HI.out, if_neg (by omega), if_neg (by omega)]
            go_wp2_with (go_at_call 93; refine (cmpInt_any _ _ _).mono ?_; rintro e w' ⟨rfl, rfl⟩; rw [e1.out])
            go_round
            case rel => exact ⟨k + 1, by go_num, by omega, by omega, by rw [← HX.out, HD.out, if_neg (by omega), if_neg (by omega)]⟩
            case measure => simp [intOf]; omega
      · have hnl : (lb.length : Int) ≤ (k : Int) := by omega
        go_wp2
        go_ret
        exact ⟨by rw [← HX.out, lexCmp_drop_end2 hlt (by omega)]; rfl, rfl⟩
    · by_cases hlb : la.length < lb.length
      · go_wp2
        go_ret
        exact ⟨by rw [← HX.out, lexCmp_drop_end (by omega), if_pos (by omega)]; rfl, rfl⟩
      · go_wp2
        go_ret
        exact ⟨by rw [← HX.out, lexCmp_drop_end (by omega), if_neg (by omega)]; rfl, rfl⟩

end Go.Proofs.Ytcjmpodljhcbhaa
