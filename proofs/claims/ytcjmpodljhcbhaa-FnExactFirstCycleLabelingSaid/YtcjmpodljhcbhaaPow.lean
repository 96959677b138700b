/- The contracts of waTimes, waPowers and waClosed. -/
import Derived.Test.YtcjmpodljhcbhaaLabs
namespace Go.Proofs.Ytcjmpodljhcbhaa
open Go.RowKit
set_option linter.unusedSimpArgs false
set_option linter.unusedVariables false

/-- Composition of relations. -/
def tm (row : List Bool) (LB : List (List Bool)) (k j : Nat) : Bool := (List.range k).any fun c => row.getD c false && (LB.getD c []).getD j false
def compL (row : List Bool) (LB : List (List Bool)) (n k : Nat) : List Bool := (List.range n).map fun j => tm row LB k j
def timesM (n : Nat) (LA LB : List (List Bool)) : List (List Bool) := LA.map fun row => compL row LB n n
theorem compL_length (row : List Bool) (LB : List (List Bool)) (n k : Nat) : (compL row LB n k).length = n := by simp [compL]
theorem compL_getD (row : List Bool) (LB : List (List Bool)) (n k j : Nat) (h : j < n) : (compL row LB n k).getD j false = tm row LB k j := by simp [compL, h]
theorem tm_succ (row : List Bool) (LB : List (List Bool)) (k j : Nat) : tm row LB (k + 1) j = (tm row LB k j || (row.getD k false && (LB.getD k []).getD j false)) := by simp [tm, List.range_succ]
theorem compL_zero (row : List Bool) (LB : List (List Bool)) (n : Nat) : compL row LB n 0 = List.replicate n false := by
  apply List.ext_getElem (by simp [compL])
  intro i h1 h2
  simp [compL, tm]
theorem mix_set {α : Type} (A B : List α) (d : α) (j : Nat) (h1 : j < A.length) (h2 : B.length = A.length) : (A.take j ++ B.drop j).set j (A.getD j d) = A.take (j + 1) ++ B.drop (j + 1) := by
  have hl : (A.take j).length = j := by simp; omega
  rw [List.set_append_right _ _ (by omega), hl, Nat.sub_self, List.drop_eq_getElem_cons (by omega), List.set_cons_zero, List.take_succ_eq_append_getElem h1, List.append_assoc, List.getD_eq_getElem?_getD, List.getElem?_eq_getElem h1]
  rfl
theorem mix_getD {α : Type} (A B : List α) (d : α) (j : Nat) (h1 : j < A.length) (h2 : B.length = A.length) : (A.take j ++ B.drop j).getD j d = B.getD j d := by
  have hl : (A.take j).length = j := by simp; omega
  simp only [List.getD_eq_getElem?_getD]
  rw [List.getElem?_append_right (by omega), hl, Nat.sub_self, List.getElem?_drop]
  simp

set_option maxRecDepth 100000 in
set_option maxHeartbeats 4000000 in
theorem waTimes_any (va vb : Value) (LA LB : List (List Bool)) (n : Nat) (w : World) (ha : Bo.IntRows w va LA) (hb : Bo.IntRows w vb LB) (hA : ∀ i, i < LA.length → (LA.getD i []).length = n) (hAl : LA.length ≤ 1000) (hBl : LB.length = n) (hB : ∀ i, i < n → (LB.getD i []).length = n) (hn : n ≤ 1000) :
    Calls Try.prog 103 #[va, vb] w (RetBM w (timesM n LA LB)) := by
  have RA := Lib.hid ha
  have RB := Lib.hid hb
  obtain ⟨a1, c1, rfl, m1, _⟩ := ha.form
  obtain ⟨a2, c2, rfl, m2, _⟩ := hb.form
  have HA := Lib.hid hA
  have HB := Lib.hid hB
  have HBl := Lib.hid hBl
  clear ha hb hA hB hBl
  obtain ⟨i0, hi, hz0, hz1, hz2⟩ := info_parts Bo.info_int
  have HI := Lib.hid hi
  have HZ0 := Lib.hid hz0
  have HZ1 := Lib.hid hz1
  have HZ2 := Lib.hid hz2
  clear hi hz0 hz1 hz2
  go_enter Try.func103, Try.ntmps103
  go_wp2
  go_loopw [5, 14] (fun ov iv wr => ∃ (i : Nat) (vs : List Value) (LL : List (List Bool)), iv = .int .i64 i ∧ i ≤ LA.length ∧ LL = timesM n (LA.take i) LB ∧ Bo.MatIn w.heap.size wr ov vs LL ∧ Keeps w wr) (fun _ iv _ => LA.length - (intOf iv).toNat)
  case atStart => exact ⟨0, [], [], rfl, Nat.zero_le _, rfl, Bo.MatIn.nil _ _, Keeps.refl _⟩
  case round =>
    obtain ⟨i, vs, LL, rfl, hi, hLL, hM, hK⟩ := hrel
    have HLL := Lib.hid hLL
    have HM := Lib.hid hM
    have HK := Lib.hid hK
    obtain ⟨wa, hwa⟩ : ∃ wa : World, wa = wr := ⟨_, rfl⟩
    subst hwa
    obtain ⟨oa, oc, rfl, _⟩ := hM.shape
    have hll : LL.length < 1000000000 := by rw [hLL]; simp [timesM]; omega
    clear hLL hM hK
    by_cases hlt : i < LA.length
    · obtain ⟨_, _, e1, _, hf⟩ := (RA.out.keep HK.out).form
      cases e1
      obtain ⟨b, o, u, rfl, hcell, hu⟩ := hf i hlt
      have HU := Lib.hid hu
      have hrl := HA.out i hlt
      have HTK : Hid (timesM n (LA.take (i + 1)) LB = timesM n (LA.take i) LB ++ [compL (LA.getD i []) LB n n]) := by
        show _ = _
        unfold timesM
        rw [List.take_succ_eq_append_getElem hlt, List.map_append, List.getD_eq_getElem?_getD, List.getElem?_eq_getElem hlt]
        rfl
      generalize LA.getD i [] = row at *
      obtain ⟨ra, rc, rfl, _, _⟩ := hu.form
      have HRL := Lib.hid hrl
      rw [hrl] at hcell HU hu
      clear hu hf hrl
      go_wp2_with (at_make; refine wpList_make_full _ rfl _ _ 77 rfl wa.heap.size 4 i0 (.bool false) 1 Try.underlying77 HI.out HZ0.out HZ1.out .i64 .i64 _ _ n rfl rfl rfl rfl (by rw [HZ2.out]; omega) (by unfold maxLen; omega) (Nat.le_refl _) ?_; intro w2 hown hgr; obtain ⟨hO, hK2⟩ := Bo.made_ints hown hgr; have HO := Lib.hid hO; have HK2 := Lib.hid hK2; clear hown hgr hO hK2)
      clear hcell
      go_loopw [23] (fun kv wr => ∃ k : Nat, kv = .int .i64 k ∧ k ≤ n ∧ Bo.Own wa.heap.size wr (.slice (some ⟨wa.heap.size, 0, none⟩) n n) (compL row LB n k) ∧ Keeps wa wr) (fun kv _ => n - (intOf kv).toNat)
      case atStart => exact ⟨0, rfl, Nat.zero_le _, by rw [compL_zero]; exact HO.out, HK2.out⟩
      case round =>
        obtain ⟨k, rfl, hk, hO, hK3⟩ := hrel
        have HO3 := Lib.hid hO
        have HK3 := Lib.hid hK3
        obtain ⟨wb, hwb⟩ : ∃ wb : World, wb = wr := ⟨_, rfl⟩
        subst hwb
        clear hO hK3 HO HK2
        by_cases hlt2 : k < n
        · obtain ⟨_, _, e1, _, hf⟩ := (HU.out.keep HK3.out).form
          rw [HRL.out] at e1 hf
          cases e1
          obtain ⟨rb, ro, rfl, hrc⟩ := hf k hlt2
          clear hf
          generalize hs : row.getD k false = s at hrc
          have HS := Lib.hid hs
          clear hs
          go_wp2
          clear hrc
          go_loopw [30] (fun jv wr => ∃ j : Nat, jv = .int .i64 j ∧ j ≤ n ∧ Bo.Own wa.heap.size wr (.slice (some ⟨wa.heap.size, 0, none⟩) n n) ((compL row LB n (k + 1)).take j ++ (compL row LB n k).drop j) ∧ Keeps wa wr) (fun jv _ => n - (intOf jv).toNat)
          case atStart => exact ⟨0, rfl, Nat.zero_le _, by simpa using HO3.out, HK3.out⟩
          case round =>
            obtain ⟨j, rfl, hj, hO, hK4⟩ := hrel
            have HO4 := Lib.hid hO
            have HK4 := Lib.hid hK4
            clear hO hK4
            have HLN : Hid (((compL row LB n (k + 1)).take j ++ (compL row LB n k).drop j).length = n) := by show _ = _; simp [compL_length]; omega
            by_cases hlt3 : j < n
            · have hl1 := HO4.out.cellAt' j (by rw [HLN.out]; exact hlt3)
              have hl2 := HO4.out.frozen' j
              rw [mix_getD _ _ _ _ (by rw [compL_length]; exact hlt3) (by rw [compL_length, compL_length]), compL_getD _ _ _ _ _ hlt3] at hl1
              obtain ⟨_, _, e1, _, hf⟩ := (RB.out.keep (Keeps.trans HK.out HK4.out)).form
              cases e1
              obtain ⟨bb, bo, bu, rfl, hbc, hbu⟩ := hf k (by rw [HBl.out]; exact hlt2)
              obtain ⟨ba, bc, rfl, _, hbf⟩ := hbu.form
              rw [HB.out k hlt2] at hbc hbf
              obtain ⟨b3, o3, rfl, hd⟩ := hbf j hlt3
              clear hf hbf hbu
              have HTS := Lib.hid (tm_succ row LB k j)
              have hbl : k < LB.length := by rw [HBl.out]; exact hlt2
              generalize tm row LB k j = c at *
              generalize (LB.getD k []).getD j false = d at *
              rw [HS.out] at HTS
              have fin : ∀ z : Bool, tm row LB (k + 1) j = z → Bo.Own wa.heap.size (wr.setCell ⟨wa.heap.size, j, none⟩ (.bool z)) (.slice (some ⟨wa.heap.size, 0, none⟩) n n) ((compL row LB n (k + 1)).take (j + 1) ++ (compL row LB n k).drop (j + 1)) ∧ Keeps wa (wr.setCell ⟨wa.heap.size, j, none⟩ (.bool z)) := by
                intro z hz
                obtain ⟨h6, h7⟩ := HO4.out.setAt (y := z) j (by rw [HLN.out]; exact hlt3)
                refine ⟨?_, HK4.out.setCell (by simp) _⟩
                rw [← mix_set (d := false) _ _ _ (by rw [compL_length]; exact hlt3) (by rw [compL_length, compL_length]), compL_getD _ _ _ _ _ hlt3, hz]
                exact h6
              have FIN := Lib.hid fin
              clear fin
              cases c <;> cases s
              all_goals
                go_wp2
                go_roundw
                case rel =>
                  have := FIN.out _ (by rw [HTS.out] <;> rfl)
                  exact ⟨j + 1, by go_num, by omega, this.1, this.2⟩
                case measure => simp [intOf]; omega
            · go_wp2
              go_roundw
              case rel =>
                refine ⟨k + 1, by go_num, by omega, ?_, HK4.out⟩
                have := HO4.out
                rw [List.take_of_length_le (by rw [compL_length]; omega), List.drop_eq_nil_of_le (by rw [compL_length]; omega), List.append_nil] at this
                exact this
              case measure => simp [intOf]; omega
        · have hke : k = n := by omega
          go_wp2_with (at_builtin; refine Bo.wpL_push (LL := LL) (vs := vs) (l := compL row LB n k) ((HM.out.keep HK3.out).keep ((Keeps.refl _).alloc _)) ((HO3.out.mono HK.out.size).keep ((Keeps.refl _).alloc _)) (Bo.MatIn.fresh HM.out HO3.out (Nat.le_refl _)) hll (by have := HK.out.size; have := HK3.out.size; simp; omega) (blk_new rfl) rfl rfl rfl rfl ?_; intro v' w3 hP)
          go_roundw
          case rel =>
            refine ⟨i + 1, _, _, by go_num, by omega, ?_, hP.mat, hP.keeps ((Keeps.trans HK.out HK3.out).alloc _) (Nat.le_refl _)⟩
            rw [HTK.out, HLL.out, hke]
          case measure => simp [intOf]; omega
    · go_wp2
      go_ret
      refine ⟨_, vs, rfl, ?_, HK.out⟩
      have e := HLL.out
      rw [List.take_of_length_le (by omega)] at e
      rw [← e]; exact HM.out

/-- Some label lies before itself. -/
def closedB (LL : List (List Bool)) (n : Nat) : Bool := (List.range n).any fun a => (LL.getD a []).getD a false
theorem rangeAny_true {n k : Nat} {p : Nat → Bool} (hk : k < n) (h : p k = true) : (List.range n).any p = true := List.any_eq_true.2 ⟨k, by simpa using hk, h⟩
theorem rangeAny_false {n : Nat} {p : Nat → Bool} (h : ∀ k, k < n → p k = false) : (List.range n).any p = false := by
  rw [List.any_eq_false]
  intro k hk
  simp [h k (by simpa using hk)]

set_option maxRecDepth 100000 in
set_option maxHeartbeats 4000000 in
theorem waClosed_any (v : Value) (LL : List (List Bool)) (n : Nat) (w : World) (h : Bo.IntRows w v LL) (hl : LL.length = n) (hr : ∀ i, i < n → (LL.getD i []).length = n) (hn : n ≤ 1000) :
    Calls Try.prog 74 #[v] w fun e w' => e = .returned (.bool (closedB LL n)) ∧ w = w' := by
  obtain ⟨a1, c1, rfl, m1, hf⟩ := h.form
  have HF := Lib.hid hf
  have HR := Lib.hid hr
  have HC : Hid (closedB LL n = (List.range n).any fun a => (LL.getD a []).getD a false) := rfl
  rw [hl]
  rw [hl] at HF
  clear h hf hr m1 hl
  go_enter Try.func74, Try.ntmps74
  go_wp2
  go_loop [6] (fun iv => ∃ i : Nat, iv = .int .i64 i ∧ i ≤ n ∧ ∀ j, j < i → (LL.getD j []).getD j false = false) (fun iv => n - (intOf iv).toNat)
  case atStart => exact ⟨0, rfl, Nat.zero_le _, fun j hj => by omega⟩
  case round =>
    obtain ⟨i, rfl, hi, hall⟩ := hrel
    have HA := Lib.hid hall
    clear hall
    by_cases hlt : i < n
    · obtain ⟨b, o, u, rfl, hcell, hu⟩ := HF.out i hlt
      obtain ⟨ra, rc, rfl, _, hrf⟩ := hu.form
      rw [HR.out i hlt] at hcell hrf
      obtain ⟨rb, ro, rfl, hrc⟩ := hrf i hlt
      clear hu hrf
      generalize hs : (LL.getD i []).getD i false = s at hrc
      have HS := Lib.hid hs
      clear hs
      cases s
      · go_wp2
        go_round
        case rel =>
          refine ⟨i + 1, by go_num, by omega, fun j hj => ?_⟩
          by_cases e : j = i
          · rw [e]; exact HS.out
          · exact HA.out j (by omega)
        case measure => simp [intOf]; omega
      · go_wp2
        go_ret
        exact ⟨by rw [HC.out, rangeAny_true hlt HS.out]; rfl, rfl⟩
    · go_wp2
      go_ret
      exact ⟨by rw [HC.out, rangeAny_false (fun j hj => HA.out j (by omega))]; rfl, rfl⟩

/-! ### Lists of matrices -/
theorem info_mat : (Try.prog.info? 75).map (fun i => (i.zero, i.size, i.bytes)) = some (some (.slice none 0 0), 1, 24) := by kernel_rfl
/-- v owns a row of values, each of which owns a matrix. -/
structure CubeIn (B : Nat) (w : World) (v : Value) (vs : List Value) (LLL : List (List (List Bool))) : Prop where
  row : w.ownsRow B 75 1 v LLL.length vs
  mats : ∀ i, i < LLL.length → ∃ rvs, Bo.MatIn B w (vs.getD i undef) rvs (LLL.getD i [])
theorem CubeIn.keep {B : Nat} {w w' : World} {v : Value} {vs : List Value} {LLL : List (List (List Bool))} (h : CubeIn B w v vs LLL) (k : Keeps w w') : CubeIn B w' v vs LLL :=
  ⟨owns_keep h.row k, fun i hi => by obtain ⟨r, hr⟩ := h.mats i hi; exact ⟨r, hr.keep k⟩⟩
theorem CubeIn.len {B : Nat} {w : World} {v : Value} {vs : List Value} {LLL : List (List (List Bool))} (h : CubeIn B w v vs LLL) : vs.length = LLL.length := by simpa using h.row.1
theorem CubeIn.form {B : Nat} {w : World} {v : Value} {vs : List Value} {LLL : List (List (List Bool))} (h : CubeIn B w v vs LLL) (hn : 0 < LLL.length) :
    ∃ g cap, v = .slice (some ⟨g, 0, none⟩) LLL.length cap ∧ ∀ i, i < LLL.length → w.cell? ⟨g, i, none⟩ = some (vs.getD i undef) ∧ Bo.IntRows w (vs.getD i undef) (LLL.getD i []) := by
  obtain ⟨g, cap, rfl, _, _⟩ := World.ownsRow.form h.row hn
  refine ⟨g, cap, rfl, fun i hi => ⟨?_, ?_⟩⟩
  · rw [World.ownsRow.cellAt h.row i (by omega)]
    have := h.len
    simp [show i < vs.length by omega]
  · obtain ⟨r, hr⟩ := h.mats i hi
    exact hr.rows
theorem MatIn.farB {B : Nat} {w w' : World} {v u : Value} {vs us : List Value} {n : Nat} {LL : List (List Bool)} (h : Bo.MatIn B w v vs LL) (ho : w.ownsRow B 75 1 u n us) (hg : w.grownBy w' u.ownBlock) : Bo.MatIn B w' v vs LL :=
  h.kept hg (owns_apart_ty (by decide) h.row ho) fun i hi => owns_apart_ty (by decide) (h.own i hi) ho
/-- What an append of a matrix leaves. -/
structure CPush (B : Nat) (W : World) (v : Value) (vs : List Value) (LLL : List (List (List Bool))) (r : Value) (L : List (List Bool)) (v' : Value) (w' : World) : Prop where
  cube : CubeIn B w' v' (vs ++ [r]) (LLL ++ [L])
  grown : W.grownBy w' v.ownBlock
  lo : ∀ k, v.ownBlock = some k → B ≤ k
theorem CPush.keeps {B : Nat} {W w0 w' : World} {v v' r : Value} {vs : List Value} {LLL : List (List (List Bool))} {L : List (List Bool)} (h : CPush B W v vs LLL r L v' w') (k : Keeps w0 W) (hB : w0.heap.size ≤ B) : Keeps w0 w' :=
  k.grown h.grown k.size fun j hj => Nat.le_trans hB (h.lo j hj)
section
variable {ops : Array Oper} {rest : List Oper} {o : Oper} {a : Act} {Q : Exit → Act → World → Prop}
theorem run_cpush {wr : World} {B : Nat} {v r : Value} {vs rvs : List Value} {LLL : List (List (List Bool))} {L : List (List Bool)} {g : Nat} (h : CubeIn B wr v vs LLL) (hr : Bo.MatIn B wr r rvs L) (hlen : LLL.length < 1000000000) (hB : B ≤ wr.heap.size)
    (hblk : wr.heap[g]? = some (.cells #[r] 75 (0, 0))) (ty : TypeId) :
    ∃ v' w', (Builtin.append_ #[73, 73] ty #[v, .slice (some ⟨g, 0, none⟩) 1 1]).run Try.prog wr = .ok v' w' ∧ CPush B wr v vs LLL r L v' w' := by
  obtain ⟨i0, hi, hz0, hz1, hz2⟩ := info_parts info_mat
  obtain ⟨v', w', e, h1, h2, h3, h4⟩ := run_append_g (P := Try.prog) wr B 73 ty 75 i0 (.slice none 0 0) 1 24 Try.underlying73 hi hz0 hz1 hz2 rfl (by decide) v LLL.length vs h.row
    (some ⟨g, 0, none⟩) 1 1 [r] rfl (fun h => by cases h) (by
      intro ad hh j u hj
      cases hh
      exact World.news_of_block hblk j u hj) (by
      intro u hu
      simp at hu; subst hu
      obtain ⟨a, c, rfl, _⟩ := hr.shape
      rfl) (by omega) (by simp only [maxLen]; omega) hB
  refine ⟨v', w', e, ⟨by simpa using h1, fun i hi => ?_⟩, h2, fun k hk => (World.ownsRow.lt h.row k hk).1⟩
  have hl := h.len
  simp only [List.length_append, List.length_cons, List.length_nil] at hi
  rw [mat_getD_append, hl]
  by_cases hj : i < LLL.length
  · rw [if_pos hj]
    obtain ⟨rr, hrr⟩ := h.mats i hj
    refine ⟨rr, ?_⟩
    have : (LLL ++ [L]).getD i [] = LLL.getD i [] := by simp [hj, List.getElem?_append]
    rw [this]
    exact MatIn.farB hrr h.row h2
  · rw [if_neg hj, if_pos (by omega)]
    refine ⟨rvs, ?_⟩
    have : (LLL ++ [L]).getD i [] = L := by rw [show i = LLL.length by omega]; simp
    rw [this]
    exact MatIn.farB hr h.row h2
theorem wpL_cpush {wr : World} {B : Nat} {v r : Value} {vs rvs : List Value} {LLL : List (List (List Bool))} {L : List (List Bool)} {g : Nat} (h : CubeIn B wr v vs LLL) (hr : Bo.MatIn B wr r rvs L) (hlen : LLL.length < 1000000000) (hB : B ≤ wr.heap.size)
    (hblk : wr.heap[g]? = some (.cells #[r] 75 (0, 0)))
    (hgd : o.guard = none) {s x : Operand}
    (ho : o.op = .call { callee := .builtin .append, args := #[s, x], argTypes := #[73, 73] })
    (hs : a.eval s = v) (hx : a.eval x = .slice (some ⟨g, 0, none⟩) 1 1)
    (hQ : ∀ v' w', CPush B wr v vs LLL r L v' w' → wpList Try.prog ops Q rest (a.put o.dst v') w') :
    wpList Try.prog ops Q (o :: rest) a wr := by
  refine wpList_plain hgd fun _ hK => ?_
  obtain ⟨v', w', hr, hA⟩ := run_cpush h hr hlen hB hblk o.type
  unfold Oper.wp execOp
  simp only [ho, resolve, invoke, builtin, Sem.run_bind, Sem.run_pure, Result.andThen_ok, List.map_toArray, List.map_cons, List.map_nil, hs, hx, hr]
  exact hK _ _ (hQ v' w' hA)
end
theorem CubeIn.one {B : Nat} {w : World} {r : Value} {rvs : List Value} {L : List (List Bool)} (h : Bo.MatIn B w r rvs L) (hB : B ≤ w.heap.size) : CubeIn B (w.alloc (.cells #[r] 75)) (.slice (some ⟨w.heap.size, 0, none⟩) 1 1) [r] [L] := by
  refine ⟨World.ownsRow_lit (e := 75) (size := 1) w #[r] 1 hB (by simp [maxLen]) rfl, fun i hi => ?_⟩
  have : i = 0 := by simpa using hi
  subst this
  exact ⟨rvs, h.keep ((Keeps.refl _).alloc _)⟩

/-! ### Powers -/
def idM (n j : Nat) : List (List Bool) := (List.range n).map fun a => (List.range n).map fun b => decide (a = b) && decide (a < j)
def powM (n : Nat) (arcs : List (List Int)) : Nat → List (List Bool)
  | 0 => idM n n
  | k + 1 => timesM n (powM n arcs k) (mayM n arcs arcs.length)
def powL (n : Nat) (arcs : List (List Int)) (k : Nat) : List (List (List Bool)) := (List.range (k + 1)).map (powM n arcs)
theorem idM_length (n j : Nat) : (idM n j).length = n := by simp [idM]
theorem idM_row (n j a : Nat) (h : a < n) : (idM n j).getD a [] = (List.range n).map fun b => decide (a = b) && decide (a < j) := by simp [idM, h]
theorem idM_row_length (n j a : Nat) (h : a < n) : ((idM n j).getD a []).length = n := by rw [idM_row _ _ _ h]; simp
theorem idM_zero (n : Nat) : idM n 0 = mayM n [] 0 := by
  unfold idM mayM
  simp [mayB]
theorem idM_step {n j : Nat} (hj : j < n) : idM n (j + 1) = (idM n j).set j (((idM n j).getD j []).set j true) := by
  rw [idM_row _ _ _ hj]
  apply List.ext_getElem (by simp [idM])
  intro i h1 h2
  rw [List.getElem_set]
  simp only [idM, List.getElem_map, List.getElem_range]
  by_cases hi : j = i
  · subst hi
    rw [if_pos rfl]
    apply List.ext_getElem (by simp)
    intro k h3 h4
    rw [List.getElem_set]
    simp only [List.getElem_map, List.getElem_range]
    by_cases hk : j = k
    · subst hk; simp
    · rw [if_neg hk]; simp [hk]
  · rw [if_neg hi]
    apply List.map_congr_left
    intro b _
    congr 1
    rw [Bool.eq_iff_iff]
    simp
    omega
theorem timesM_length (n : Nat) (LA LB : List (List Bool)) : (timesM n LA LB).length = LA.length := by simp [timesM]
theorem timesM_row (n : Nat) (LA LB : List (List Bool)) (a : Nat) (h : a < LA.length) : (timesM n LA LB).getD a [] = compL (LA.getD a []) LB n n := by simp [timesM, h]
theorem powM_length (n : Nat) (arcs : List (List Int)) (k : Nat) : (powM n arcs k).length = n := by
  cases k with
  | zero => exact idM_length n n
  | succ k => rw [powM, timesM_length]; exact powM_length n arcs k
theorem powM_row_length (n : Nat) (arcs : List (List Int)) (k a : Nat) (h : a < n) : ((powM n arcs k).getD a []).length = n := by
  cases k with
  | zero => exact idM_row_length n n a h
  | succ k => rw [powM, timesM_row _ _ _ _ (by rw [powM_length]; exact h), compL_length]
theorem powL_length (n : Nat) (arcs : List (List Int)) (k : Nat) : (powL n arcs k).length = k + 1 := by simp [powL]
theorem powL_getD (n : Nat) (arcs : List (List Int)) (k i : Nat) (h : i < k + 1) : (powL n arcs k).getD i [] = powM n arcs i := by simp [powL, h]
theorem powL_succ (n : Nat) (arcs : List (List Int)) (k : Nat) : powL n arcs (k + 1) = powL n arcs k ++ [powM n arcs (k + 1)] := by simp [powL, List.range_succ]
def vlen : Value → Nat
  | .slice _ n _ => n
  | _ => 0
/-- The call returns an owned list of matrices. -/
def RetCube (w0 : World) (LLL : List (List (List Bool))) (e : Ending) (w' : World) : Prop := ∃ v vs, e = .returned v ∧ CubeIn w0.heap.size w' v vs LLL ∧ Keeps w0 w'
theorem CubeIn.lower {B B' : Nat} {w : World} {v : Value} {vs : List Value} {LLL : List (List (List Bool))} (h : CubeIn B w v vs LLL) (hB : B' ≤ B) : CubeIn B' w v vs LLL :=
  ⟨World.ownsRow.mono h.row hB, fun i hi => by obtain ⟨r, hr⟩ := h.mats i hi; exact ⟨r, hr.lower hB⟩⟩
theorem IntRows.nil (w : World) : IntRows w (.slice none 0 0) [] := ⟨[], ⟨none, 0, rfl, Nat.le_refl _, by simp [maxLen], .inl rfl⟩, rfl, fun i hi => by simp at hi⟩

set_option maxRecDepth 100000 in
set_option maxHeartbeats 4000000 in
theorem waPowers_any (v : Value) (x : WP) (k : Nat) (w : World) (h : RdW w v x) (hg : WIn x) (hk : k ≤ 1000) :
    Calls Try.prog 73 #[v, .int .i64 k] w (RetCube w (powL x.labels.toNat x.arcs k)) := by
  obtain ⟨v1, rfl, r1⟩ := h
  have R1 := Lib.hid r1
  obtain ⟨a1, c1, rfl, m1, _⟩ := r1.form
  clear r1 
  have HG := Lib.hid hg
  obtain ⟨b1, b2, _⟩ := hg
  obtain ⟨n, hn⟩ : ∃ n : Nat, x.labels = n := ⟨x.labels.toNat, by omega⟩
  have HNN : Hid (x.labels.toNat = n) := by show _ = _; omega
  have HX : Hid (mayL x = mayM n x.arcs x.arcs.length) := by show _ = _; rw [mayL, HNN.out]
  have HX0 : Hid (mayL ⟨x.labels, []⟩ = mayM n [] 0) := by show _ = _; rw [mayL]; simp only [List.length_nil]; rw [HNN.out]
  have HG0 : Hid (WIn ⟨x.labels, []⟩) := ⟨b1, b2, fun j hj => by simp at hj⟩
  have hn12 : n ≤ 12 := by omega
  have hn1 : 1 ≤ n := by omega
  rw [HNN.out]
  clear hn
  have K0 : Hid (Keeps w (w.alloc (.cells #[.int .i64 x.labels, .slice a1 x.arcs.length c1] 27))) := (Keeps.refl _).alloc _
  have C0 : Hid ((w.alloc (.cells #[.int .i64 x.labels, .slice a1 x.arcs.length c1] 27)).cell? ⟨w.heap.size, 0, none⟩ = some (.int .i64 x.labels)) := by show _ = _; rw [World.cell?_alloc_at _ _ _ _ rfl]; rfl
  have C1 : Hid ((w.alloc (.cells #[.int .i64 x.labels, .slice a1 x.arcs.length c1] 27)).cell? ⟨w.heap.size, 1, none⟩ = some (.slice a1 x.arcs.length c1)) := by show _ = _; rw [World.cell?_alloc_at _ _ _ _ rfl]; rfl
  go_enter Try.func73, Try.ntmps73
  go_wp2_with fail
  generalize w.alloc (.cells #[.int .i64 x.labels, .slice a1 x.arcs.length c1] 27) = wB at *
  refine (waMay_any _ ⟨x.labels, []⟩ _ ⟨_, rfl, IntRows.nil _⟩ HG0.out).mono ?_
  rintro e w1 ⟨mv, mvs, rfl, hM, hk1⟩
  have HM := Lib.hid hM
  have HK1 := Lib.hid hk1
  rw [HX0.out, ← idM_zero] at HM
  obtain ⟨g, cap, rfl, _⟩ := HM.out.form (by rw [idM_length]; omega)
  rw [idM_length] at *
  clear hM hk1
  go_wp2
  go_loopw [15] (fun av wr => ∃ a : Nat, av = .int .i64 a ∧ a ≤ n ∧ Bo.MatIn wB.heap.size wr (.slice (some ⟨g, 0, none⟩) n cap) mvs (idM n a) ∧ Keeps wB wr) (fun av _ => n - (intOf av).toNat)
  case atStart => exact ⟨0, rfl, Nat.zero_le _, HM.out, HK1.out⟩
  case round =>
    obtain ⟨a, rfl, ha, hM, hK⟩ := hrel
    have HM2 := Lib.hid hM
    have HK2 := Lib.hid hK
    clear hM hK HM HK1
    by_cases hlt : a < n
    · obtain ⟨g', cap', hv, hgc⟩ := HM2.out.form (by rw [idM_length]; omega)
      simp only [Value.slice.injEq, Option.some.injEq, Addr.mk.injEq] at hv
      obtain ⟨⟨rfl, -⟩, -, -⟩ := hv
      obtain ⟨hm1, _⟩ := hgc a (by rw [idM_length]; exact hlt)
      have hR := HM2.out.own a (by rw [idM_length]; exact hlt)
      obtain ⟨gr, rcap, hrv, hrc⟩ := hR.form (by rw [idM_row_length _ _ _ hlt]; omega)
      obtain ⟨hq1, hq2⟩ := hrc a (by rw [idM_row_length _ _ _ hlt]; exact hlt)
      have hq3 : ∃ z, wr.cell? ⟨gr, a, none⟩ = some z := ⟨_, hq1⟩
      rw [hrv, idM_row_length _ _ _ hlt] at hm1
      have HRV := Lib.hid hrv
      clear hgc hrc hrv hq1 hR
      obtain ⟨z, hq1⟩ := hq3
      go_wp2
      go_roundw
      case rel =>
        have hR := HM2.out.own a (by rw [idM_length]; exact hlt)
        rw [HRV.out] at hR
        obtain ⟨h6, h7⟩ := hR.setAt (y := true) a (by rw [idM_row_length _ _ _ hlt]; exact hlt)
        refine ⟨a + 1, by go_num, by omega, ?_, HK2.out.setCell (hR.lt gr rfl).1 _⟩
        rw [idM_step hlt]
        refine HM2.out.wrote (by rw [idM_length]; exact hlt) ?_ ?_
        · rw [HRV.out]; exact h7
        · rw [HRV.out]; exact h6
      case measure => simp [intOf]; omega
    · have hae : a = n := by omega
      have E0 := cell_keep HK2.out C0.out
      have E1 := cell_keep HK2.out C1.out
      have hsz := HK2.out.size
      have HC1 := Lib.hid (CubeIn.one HM2.out hsz)
      have HKA : Hid (Keeps wr (wr.alloc (.cells #[.slice (some ⟨g, 0, none⟩) n cap] 75))) := (Keeps.refl _).alloc _
      have E0 := cell_keep HKA.out E0
      have E1 := cell_keep HKA.out E1
      go_wp2_with fail
      refine (waMay_any _ x _ ⟨_, rfl, R1.out.keep (Keeps.trans K0.out (Keeps.trans HK2.out HKA.out))⟩ HG.out).mono ?_
      rintro e w2 ⟨yv, yvs, rfl, hY, hk2⟩
      have HY := Lib.hid hY
      rw [HX.out] at HY
      have HCB := Lib.hid (HC1.out.keep hk2)
      have HKB := Lib.hid (Keeps.trans HK2.out (Keeps.trans HKA.out hk2))
      obtain ⟨yg, ycap, rfl, _⟩ := HY.out.form (by rw [mayM_length]; omega)
      rw [mayM_length] at *
      clear hY hk2 HC1 E0 E1
      have HWS := Lib.hid (Nat.le_trans hsz (Nat.le_trans HKA.out.size (show (wr.alloc (.cells #[.slice (some ⟨g, 0, none⟩) n cap] 75)).heap.size ≤ _ from Nat.le_refl _)))
      go_wp2
      go_loopw [7] (fun ov w' => ∃ (j : Nat) (vs : List Value) (LLL : List (List (List Bool))), LLL = powL n x.arcs j ∧ j ≤ k ∧ CubeIn wB.heap.size w' ov vs LLL ∧ Bo.MatIn wB.heap.size w' (.slice (some ⟨yg, 0, none⟩) n ycap) yvs (mayM n x.arcs x.arcs.length) ∧ Keeps wB w') (fun ov _ => k + 1 - vlen ov)
      case atStart => exact ⟨0, _, [idM n a], by rw [hae]; rfl, Nat.zero_le _, HCB.out, HY.out.lower HWS.out, HKB.out⟩
      case round =>
        obtain ⟨j, vs, LLL, hL, hj, hC, hY, hK⟩ := hrel
        have HY2 := Lib.hid hY
        have HL := Lib.hid hL
        have HC := Lib.hid hC
        have HK := Lib.hid hK
        have hll : LLL.length = j + 1 := by rw [hL, powL_length]
        obtain ⟨cg, cc, rfl, hcf⟩ := hC.form (by omega)
        rw [hll] at HC ⊢
        obtain ⟨hc, hrd⟩ := hcf j (by omega)
        rw [HL.out, powL_getD _ _ _ _ (by omega)] at hrd
        have HRD := Lib.hid hrd
        have HLL := Lib.hid hll
        generalize vs.getD j undef = u at hc hrd HRD
        obtain ⟨ua, uc, rfl, _, _⟩ := hrd.form
        rw [powM_length] at hc HRD
        clear hL hC hY hK hcf hll hrd HCB HY
        by_cases hlt : j + 1 ≤ k
        · have hlt' : ((j + 1 : Nat) : Int) ≤ (k : Int) := by omega
          go_wp2_with fail
          (refine (waTimes_any _ _ (powM n x.arcs j) (mayM n x.arcs x.arcs.length) n _ HRD.out HY2.out.rows (fun i hi => powM_row_length _ _ _ _ (by rw [powM_length] at hi; exact hi)) (by rw [powM_length]; omega) (mayM_length _ _ _) (fun i hi => mayM_row_length _ _ _ _ hi) (by omega)).mono ?_; rintro e w3 ⟨tv, tvs, rfl, hT, hk3⟩; have HT := Lib.hid hT; have HK3 := Lib.hid hk3; obtain ⟨ta, tc, rfl, _⟩ := hT.shape; clear hT hk3)
          go_wp2_with (at_builtin; refine wpL_cpush (vs := vs) (LLL := LLL) ((HC.out.keep HK3.out).keep ((Keeps.refl _).alloc _)) ((HT.out.lower HK.out.size).keep ((Keeps.refl _).alloc _)) (by rw [HLL.out]; omega) (by have := HK.out.size; have := HK3.out.size; simp; omega) (blk_new rfl) rfl rfl rfl rfl ?_; intro v' w4 hP)
          go_roundw
          case rel =>
            refine ⟨j + 1, _, _, ?_, hlt, hP.cube, MatIn.farB ((HY2.out.keep HK3.out).keep ((Keeps.refl _).alloc _)) ((HC.out.keep HK3.out).keep ((Keeps.refl _).alloc _)).row hP.grown, hP.keeps ((Keeps.trans HK.out HK3.out).alloc _) (Nat.le_refl _)⟩
            rw [powL_succ, HL.out]; rfl
          case measure =>
            obtain ⟨_, _, e, _⟩ := hP.cube.form (by simp)
            rw [e]
            have := HLL.out
            simp [vlen, this]
            omega
        · have hlt' : ¬ ((j + 1 : Nat) : Int) ≤ (k : Int) := by omega
          go_wp2
          go_ret
          have hjk : j = k := by omega
          refine ⟨_, vs, rfl, ?_, Keeps.trans K0.out HK.out⟩
          have h5 := HC.out.lower K0.out.size
          have h6 := HL.out
          rw [hjk] at h6
          rw [← h6]; exact h5
end Go.Proofs.Ytcjmpodljhcbhaa
