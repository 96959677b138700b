/- Owned rows of bools; the contracts of cycleMarks, cyMark and both CycleMarks functions. -/
import Derived.Test.YtnamiakelifpiaaRing
namespace Go.Proofs.Ytnamiakelifpiaa
open Go.RowKit
set_option linter.unusedSimpArgs false
set_option linter.unusedVariables false

theorem info_bool : (Try.prog.info? 4).map (fun i => (i.zero, i.size, i.bytes)) = some (some (.bool false), 1, 1) := by kernel_rfl

/-- An owned row of bools. -/
def OwnB (B : Nat) (w : World) (v : Value) (l : List Bool) : Prop := w.ownsRow B 4 1 v l.length (l.map Value.bool)

section
variable {B : Nat} {w w' : World} {v : Value} {l : List Bool}
theorem OwnB.keep (h : OwnB B w v l) (k : Keeps w w') : OwnB B w' v l := owns_keep h k
theorem OwnB.kept {u : Value} (h : OwnB B w v l) (hg : w.grownBy w' u.ownBlock) (ha : Apart v u) : OwnB B w' v l := World.ownsRow.kept h hg ha
theorem OwnB.lt (h : OwnB B w v l) : ∀ k, v.ownBlock = some k → B ≤ k ∧ k < w.heap.size := World.ownsRow.lt h
theorem OwnB.cellAt {g c n : Nat} (h : OwnB B w (.slice (some ⟨g, 0, none⟩) n c) l) (hn : n = l.length) (i : Nat) (hi : i < l.length) : w.cell? ⟨g, i, none⟩ = some (.bool (l.getD i false)) := by
  subst hn
  rw [World.ownsRow.cellAt h i (by omega)]
  simp [hi]
theorem OwnB.frozenAt {g c n : Nat} (h : OwnB B w (.slice (some ⟨g, 0, none⟩) n c) l) (hn : n = l.length) (i : Nat) : w.frozen? ⟨g, i, none⟩ = false := by
  subst hn
  exact World.ownsRow.frozenAt h i
theorem OwnB.set {g c n : Nat} (h : OwnB B w (.slice (some ⟨g, 0, none⟩) n c) l) (hn : n = l.length) (j : Nat) (b : Bool) :
    OwnB B (w.setCell ⟨g, j, none⟩ (.bool b)) (.slice (some ⟨g, 0, none⟩) n c) (l.set j b) ∧ w.grownBy (w.setCell ⟨g, j, none⟩ (.bool b)) (some g) := by
  subst hn
  obtain ⟨h1, h2⟩ := World.ownsRow.stored h j (.bool b)
  refine ⟨?_, h2⟩
  unfold OwnB
  rw [List.map_set]
  simpa using h1
/-- A row of another element type lies apart. -/
theorem own_apart_bool {C : Nat} {u : Value} {m : List Int} (h : OwnB B w v l) (k : Own C w u m) : Apart u v := by
  unfold Apart
  rcases h.2 with ⟨rfl, _⟩ | ⟨g, cap, cur, rfl, _, hg, _⟩
  · by_cases hu : u.ownBlock = none
    · exact .inl hu
    · exact .inr hu
  · rcases k.2 with ⟨rfl, _⟩ | ⟨g', cap', cur', rfl, _, hg', _⟩
    · exact .inl rfl
    · refine .inr fun e => ?_
      simp only [Value.ownBlock, Option.some.injEq] at e
      subst e
      rw [hg] at hg'
      simp at hg'
end

theorem replicate_mapB (n : Nat) : (madeCells (Value.bool false).cells (n * 1)).toList = (List.replicate n false).map Value.bool := by
  simp [Value.cells, toList_madeCells_one]

/-! ### The plain functions -/
def markStep (l : List Int) (c : Int) (m : List Bool) (i : Nat) : List Bool :=
  if (l.getD i 0 == c) && !(m.getD ((i + l.length - 1) % l.length) false) && !(m.getD ((i + 1) % l.length) false) then m.set i true else m
def markRow (l : List Int) (c : Int) (m : List Bool) (n : Nat) : List Bool := (List.range n).foldl (markStep l c) m
def markAll (l : List Int) (n : Nat) : List Bool := (List.range n).foldl (fun m (c : Nat) => markRow l (c : Int) m l.length) (List.replicate l.length false)
def marked (m : List Bool) (n : Nat) : List Int := ((List.range n).filter fun i => m.getD i false).map fun i : Nat => (i : Int)
def ringMarks (l : List Int) : List Int := marked (markAll l 3) l.length

theorem markStep_length (l : List Int) (c : Int) (m : List Bool) (i : Nat) : (markStep l c m i).length = m.length := by
  unfold markStep; split <;> simp
theorem markRow_length (l : List Int) (c : Int) (m : List Bool) (n : Nat) : (markRow l c m n).length = m.length := by
  induction n with
  | zero => rfl
  | succ n ih => rw [markRow, List.range_succ, List.foldl_append]; simp only [List.foldl_cons, List.foldl_nil]; rw [markStep_length]; exact ih
theorem markAll_length (l : List Int) (n : Nat) : (markAll l n).length = l.length := by
  induction n with
  | zero => simp [markAll]
  | succ n ih => rw [markAll, List.range_succ, List.foldl_append]; simp only [List.foldl_cons, List.foldl_nil]; rw [markRow_length]; exact ih
theorem markRow_succ (l : List Int) (c : Int) (m : List Bool) (n : Nat) : markRow l c m (n + 1) = markStep l c (markRow l c m n) n := by
  rw [markRow, List.range_succ, List.foldl_append]; rfl
theorem markAll_succ (l : List Int) (n : Nat) : markAll l (n + 1) = markRow l (n : Int) (markAll l n) l.length := by
  rw [markAll, List.range_succ, List.foldl_append]; rfl
theorem marked_succ (m : List Bool) (n : Nat) : marked m (n + 1) = marked m n ++ if m.getD n false then [(n : Int)] else [] := by
  unfold marked
  rw [List.range_succ, List.filter_append, List.map_append]
  cases h : m.getD n false
  · rw [List.filter_cons_of_neg (by rw [h]; simp)]; simp
  · rw [List.filter_cons_of_pos (by rw [h])]; simp
theorem marked_length (m : List Bool) (n : Nat) : (marked m n).length ≤ n := by
  unfold marked
  rw [List.length_map]
  exact Nat.le_trans (List.length_filter_le _ _) (by simp)

set_option maxHeartbeats 2000000 in
theorem cycleMarks_any (v : Value) (l : List Int) (w : World) (h : Ints w v l) (hl1 : 1 ≤ l.length) (hl2 : l.length ≤ 180) :
    Calls Try.prog 37 #[v] w fun e w' => ∃ r, e = .returned r ∧ Own w.heap.size w' r (ringMarks l) ∧ Keeps w w' := by
  obtain ⟨a, cc, rfl, hm, hf⟩ := h.form
  have HF := Lib.hid hf
  clear h hf
  obtain ⟨i0, hi, hz0, hz1, hz2⟩ := info_parts info_bool
  have HI := Lib.hid hi
  have HZ0 := Lib.hid hz0
  have HZ1 := Lib.hid hz1
  have HZ2 := Lib.hid hz2
  clear hi hz0 hz1 hz2
  go_enter Try.func37, Try.ntmps37
  go_wp2_with (at_make; refine wpList_make_full _ rfl _ _ 42 rfl w.heap.size 4 i0 (.bool false) 1 Try.underlying42 HI.out HZ0.out HZ1.out .i64 .i64 _ _ l.length rfl rfl rfl rfl (by rw [HZ2.out]; omega) (by unfold maxLen; omega) (Nat.le_refl _) ?_; intro w1 hown hgr)
  rw [replicate_mapB] at hown
  have H1 : Hid (OwnB w.heap.size w1 (.slice (some ⟨w.heap.size, 0, none⟩) l.length l.length) (List.replicate l.length false)) := by show OwnB _ _ _ _; unfold OwnB; simpa using hown
  have H2 : Hid (Keeps w w1) := (Below.refl _ _).grown hgr (Nat.le_refl _) (by simp)
  clear hown hgr HI HZ0 HZ1 HZ2
  go_wp2
  go_loopw [13] (fun t wr => ∃ (c : Nat) (M : List Bool), t = .int .i64 c ∧ c ≤ 3 ∧ M = markAll l c ∧ OwnB w.heap.size wr (.slice (some ⟨w.heap.size, 0, none⟩) l.length l.length) M ∧ Keeps w wr) (fun t _ => 3 - (intOf t).toNat)
  case atStart => exact ⟨0, _, rfl, by omega, rfl, H1.out, H2.out⟩
  case round =>
    obtain ⟨c, M, rfl, hc3, hM, hO, hK⟩ := hrel
    have HM := Lib.hid hM
    have HO := Lib.hid hO
    have HK := Lib.hid hK
    clear hM hO hK H1 H2
    by_cases hlt : c < 3
    · go_wp2
      obtain ⟨wo, rfl⟩ : ∃ wo : World, wo = wr := ⟨_, rfl⟩
      go_loopw [18] (fun t wr => ∃ (i : Nat) (N : List Bool), t = .int .i64 i ∧ i ≤ l.length ∧ N = markRow l c M i ∧ OwnB w.heap.size wr (.slice (some ⟨w.heap.size, 0, none⟩) l.length l.length) N ∧ Keeps w wr) (fun t _ => l.length - (intOf t).toNat)
      case atStart => exact ⟨0, _, rfl, by omega, rfl, HO.out, HK.out⟩
      case round =>
        obtain ⟨i, N, rfl, hi, hN, hO2, hK2⟩ := hrel
        have HN := Lib.hid hN
        have HO2 := Lib.hid hO2
        have HK2 := Lib.hid hK2
        clear hN hO2 hK2
        have hnl : Hid (N.length = l.length) := by show _ = _; rw [HN.out, markRow_length, HM.out, markAll_length]
        by_cases hlt2 : i < l.length
        · obtain ⟨b, o, rfl, hc0⟩ := HF.out i hlt2
          have hc := cell_keep HK2.out hc0
          have hm1 : (i + l.length - 1) % l.length < l.length := Nat.mod_lt _ (by omega)
          have hm2 : (i + 1) % l.length < l.length := Nat.mod_lt _ (by omega)
          have p1 := HO2.out.cellAt hnl.out.symm _ (by rw [hnl.out]; exact hm1)
          have p2 := HO2.out.cellAt hnl.out.symm _ (by rw [hnl.out]; exact hm2)
          have p3 := HO2.out.cellAt hnl.out.symm i (by rw [hnl.out]; exact hlt2)
          have p4 := HO2.out.frozenAt hnl.out.symm i
          have p3' : ∃ u, wr.cell? ⟨w.heap.size, i, none⟩ = some u := ⟨_, p3⟩
          clear p3
          obtain ⟨u, p3⟩ := p3'
          have a1 : (0 : Int) ≤ ((i : Int) + (l.length : Int) - 1) % (l.length : Int) := Int.emod_nonneg _ (by omega)
          have a2 : ((i : Int) + (l.length : Int) - 1) % (l.length : Int) < (l.length : Int) := Int.emod_lt_of_pos _ (by omega)
          have a3 : (((i : Int) + (l.length : Int) - 1) % (l.length : Int)).toNat = (i + l.length - 1) % l.length := by
            have e : ((i : Int) + (l.length : Int) - 1) = ((i + l.length - 1 : Nat) : Int) := by omega
            rw [e, ← Int.natCast_emod, Int.toNat_natCast]
          have b1 : (0 : Int) ≤ ((i : Int) + 1) % (l.length : Int) := Int.emod_nonneg _ (by omega)
          have b2 : ((i : Int) + 1) % (l.length : Int) < (l.length : Int) := Int.emod_lt_of_pos _ (by omega)
          have b3 : (((i : Int) + 1) % (l.length : Int)).toNat = (i + 1) % l.length := by
            have e : ((i : Int) + 1) = ((i + 1 : Nat) : Int) := by omega
            rw [e, ← Int.natCast_emod, Int.toNat_natCast]
          have HST : Hid (markStep l c N i = if (l.getD i 0 == (c : Int)) && !(N.getD ((i + l.length - 1) % l.length) false) && !(N.getD ((i + 1) % l.length) false) then N.set i true else N) := rfl
          clear hc0
          generalize l.getD i 0 = x at hc HST
          generalize N.getD ((i + l.length - 1) % l.length) false = y1 at p1 HST
          generalize N.getD ((i + 1) % l.length) false = y2 at p2 HST
          cases hx : (x == (c : Int)) <;> cases y1 <;> cases y2
          case true.false.false =>
            have HX := Lib.hid hx
            go_wp2
            go_roundw
            case rel =>
              refine ⟨i + 1, _, by go_num, by omega, ?_, (HO2.out.set hnl.out.symm i true).1, HK2.out.setCell (Nat.le_refl _) _⟩
              rw [markRow_succ, ← HN.out, HST.out, HX.out]; rfl
            case measure => simp [intOf]; omega
          all_goals
            have HX := Lib.hid hx
            go_wp2
            go_roundw
            case rel =>
              refine ⟨i + 1, _, by go_num, by omega, ?_, HO2.out, HK2.out⟩
              rw [markRow_succ, ← HN.out, HST.out, HX.out]; rfl
            case measure => simp [intOf]; omega
        · go_wp2
          go_roundw
          case rel =>
            refine ⟨c + 1, _, by go_num, by omega, ?_, HO2.out, HK2.out⟩
            rw [HN.out, show i = l.length by omega, markAll_succ, HM.out]
          case measure => simp [intOf]; omega
    · have hc : c = 3 := by omega
      have hM3 := HM.out
      rw [hc] at hM3
      have HM3 := Lib.hid hM3
      have hnl : Hid (M.length = l.length) := by show _ = _; rw [HM.out, markAll_length]
      clear hM3 hc
      go_wp2
      obtain ⟨wo, rfl⟩ : ∃ wo : World, wo = wr := ⟨_, rfl⟩
      go_loopw [7, 56] (fun ov t wr => ∃ (i : Nat) (L : List Int), t = .int .i64 i ∧ i ≤ l.length ∧ L = marked M i ∧ Own wo.heap.size wr ov L ∧ Keeps wo wr) (fun _ t _ => l.length - (intOf t).toNat)
      case atStart => exact ⟨0, [], rfl, by omega, rfl, Own.nil _ _, Keeps.refl _⟩
      case round =>
        obtain ⟨i, L, rfl, hi, hL, hO2, hK2⟩ := hrel
        have HL := Lib.hid hL
        have HO2 := Lib.hid hO2
        have HK2 := Lib.hid hK2
        clear hL hO2 hK2
        by_cases hlt2 : i < l.length
        · have p3 := (HO.out.keep HK2.out).cellAt hnl.out.symm i (by rw [hnl.out]; exact hlt2)
          have hlen : L.length < 1000000000 := by have := marked_length M i; rw [HL.out]; omega
          generalize hy : M.getD i false = y at p3
          have HY := Lib.hid hy
          clear hy
          cases y
          · go_wp2
            go_roundw
            case rel =>
              refine ⟨i + 1, _, by go_num, by omega, ?_, HO2.out, HK2.out⟩
              rw [marked_succ, HY.out, HL.out]; simp
            case measure => simp [intOf]; omega
          · go_wp2_with (at_builtin; refine wpL_app1 HO2.out hlen HK2.out.size rfl rfl rfl rfl ?_; intro v' w' hA)
            go_roundw
            case rel =>
              refine ⟨i + 1, _, by go_num, by omega, ?_, hA.own, hA.keeps HK2.out (Nat.le_refl _)⟩
              rw [marked_succ, HY.out, HL.out]; simp
            case measure => simp [intOf]; omega
        · go_wp2
          go_ret
          refine ⟨_, rfl, ?_, Keeps.trans HK.out HK2.out⟩
          have := HO2.out.mono HK.out.size
          rw [HL.out, HM3.out, show i = l.length by omega] at this
          exact this

set_option maxHeartbeats 2000000 in
theorem cyMark_any (v : Value) (l : List Int) (w : World) (h : Ints w v l) (hl1 : 1 ≤ l.length) (hl2 : l.length ≤ 180) :
    Calls Try.prog 34 #[v] w fun e w' => ∃ r, e = .returned r ∧ Own w.heap.size w' r (ringMarks l) ∧ Keeps w w' := by
  obtain ⟨a, cc, rfl, hm, hf⟩ := h.form
  have HF := Lib.hid hf
  clear h hf
  obtain ⟨i0, hi, hz0, hz1, hz2⟩ := info_parts info_bool
  have HI := Lib.hid hi
  have HZ0 := Lib.hid hz0
  have HZ1 := Lib.hid hz1
  have HZ2 := Lib.hid hz2
  clear hi hz0 hz1 hz2
  go_enter Try.func34, Try.ntmps34
  go_wp2_with (at_make; refine wpList_make_full _ rfl _ _ 42 rfl w.heap.size 4 i0 (.bool false) 1 Try.underlying42 HI.out HZ0.out HZ1.out .i64 .i64 _ _ l.length rfl rfl rfl rfl (by rw [HZ2.out]; omega) (by unfold maxLen; omega) (Nat.le_refl _) ?_; intro w1 hown hgr)
  rw [replicate_mapB] at hown
  have H1 : Hid (OwnB w.heap.size w1 (.slice (some ⟨w.heap.size, 0, none⟩) l.length l.length) (List.replicate l.length false)) := by show OwnB _ _ _ _; unfold OwnB; simpa using hown
  have H2 : Hid (Keeps w w1) := (Below.refl _ _).grown hgr (Nat.le_refl _) (by simp)
  clear hown hgr HI HZ0 HZ1 HZ2
  go_wp2
  go_loopw [4] (fun t wr => ∃ (c : Nat) (M : List Bool), t = .int .i64 c ∧ c ≤ 3 ∧ M = markAll l c ∧ OwnB w.heap.size wr (.slice (some ⟨w.heap.size, 0, none⟩) l.length l.length) M ∧ Keeps w wr) (fun t _ => 3 - (intOf t).toNat)
  case atStart => exact ⟨0, _, rfl, by omega, rfl, H1.out, H2.out⟩
  case round =>
    obtain ⟨c, M, rfl, hc3, hM, hO, hK⟩ := hrel
    have HM := Lib.hid hM
    have HO := Lib.hid hO
    have HK := Lib.hid hK
    clear hM hO hK H1 H2
    by_cases hlt : c < 3
    · go_wp2
      obtain ⟨wo, rfl⟩ : ∃ wo : World, wo = wr := ⟨_, rfl⟩
      go_loopw [18] (fun t wr => ∃ (i : Nat) (N : List Bool), t = .int .i64 i ∧ i ≤ l.length ∧ N = markRow l c M i ∧ OwnB w.heap.size wr (.slice (some ⟨w.heap.size, 0, none⟩) l.length l.length) N ∧ Keeps w wr) (fun t _ => l.length - (intOf t).toNat)
      case atStart => exact ⟨0, _, rfl, by omega, rfl, HO.out, HK.out⟩
      case round =>
        obtain ⟨i, N, rfl, hi, hN, hO2, hK2⟩ := hrel
        have HN := Lib.hid hN
        have HO2 := Lib.hid hO2
        have HK2 := Lib.hid hK2
        clear hN hO2 hK2
        have hnl : Hid (N.length = l.length) := by show _ = _; rw [HN.out, markRow_length, HM.out, markAll_length]
        by_cases hlt2 : i < l.length
        · obtain ⟨b, o, rfl, hc0⟩ := HF.out i hlt2
          have hc := cell_keep HK2.out hc0
          have hm1 : (i + l.length - 1) % l.length < l.length := Nat.mod_lt _ (by omega)
          have hm2 : (i + 1) % l.length < l.length := Nat.mod_lt _ (by omega)
          have p1 := HO2.out.cellAt hnl.out.symm _ (by rw [hnl.out]; exact hm1)
          have p2 := HO2.out.cellAt hnl.out.symm _ (by rw [hnl.out]; exact hm2)
          have p3 := HO2.out.cellAt hnl.out.symm i (by rw [hnl.out]; exact hlt2)
          have p4 := HO2.out.frozenAt hnl.out.symm i
          have p3' : ∃ u, wr.cell? ⟨w.heap.size, i, none⟩ = some u := ⟨_, p3⟩
          clear p3
          obtain ⟨u, p3⟩ := p3'
          have a1 : (0 : Int) ≤ ((i : Int) + (l.length : Int) - 1) % (l.length : Int) := Int.emod_nonneg _ (by omega)
          have a2 : ((i : Int) + (l.length : Int) - 1) % (l.length : Int) < (l.length : Int) := Int.emod_lt_of_pos _ (by omega)
          have a3 : (((i : Int) + (l.length : Int) - 1) % (l.length : Int)).toNat = (i + l.length - 1) % l.length := by
            have e : ((i : Int) + (l.length : Int) - 1) = ((i + l.length - 1 : Nat) : Int) := by omega
            rw [e, ← Int.natCast_emod, Int.toNat_natCast]
          have b1 : (0 : Int) ≤ ((i : Int) + 1) % (l.length : Int) := Int.emod_nonneg _ (by omega)
          have b2 : ((i : Int) + 1) % (l.length : Int) < (l.length : Int) := Int.emod_lt_of_pos _ (by omega)
          have b3 : (((i : Int) + 1) % (l.length : Int)).toNat = (i + 1) % l.length := by
            have e : ((i : Int) + 1) = ((i + 1 : Nat) : Int) := by omega
            rw [e, ← Int.natCast_emod, Int.toNat_natCast]
          have HST : Hid (markStep l c N i = if (l.getD i 0 == (c : Int)) && !(N.getD ((i + l.length - 1) % l.length) false) && !(N.getD ((i + 1) % l.length) false) then N.set i true else N) := rfl
          clear hc0
          generalize l.getD i 0 = x at hc HST
          generalize N.getD ((i + l.length - 1) % l.length) false = y1 at p1 HST
          generalize N.getD ((i + 1) % l.length) false = y2 at p2 HST
          cases hx : (x == (c : Int)) <;> cases y1 <;> cases y2
          case true.false.false =>
            have HX := Lib.hid hx
            go_wp2
            go_roundw
            case rel =>
              refine ⟨i + 1, _, by go_num, by omega, ?_, (HO2.out.set hnl.out.symm i true).1, HK2.out.setCell (Nat.le_refl _) _⟩
              rw [markRow_succ, ← HN.out, HST.out, HX.out]; rfl
            case measure => simp [intOf]; omega
          all_goals
            have HX := Lib.hid hx
            go_wp2
            go_roundw
            case rel =>
              refine ⟨i + 1, _, by go_num, by omega, ?_, HO2.out, HK2.out⟩
              rw [markRow_succ, ← HN.out, HST.out, HX.out]; rfl
            case measure => simp [intOf]; omega
        · go_wp2
          go_roundw
          case rel =>
            refine ⟨c + 1, _, by go_num, by omega, ?_, HO2.out, HK2.out⟩
            rw [HN.out, show i = l.length by omega, markAll_succ, HM.out]
          case measure => simp [intOf]; omega
    · have hc : c = 3 := by omega
      have hM3 := HM.out
      rw [hc] at hM3
      have HM3 := Lib.hid hM3
      have hnl : Hid (M.length = l.length) := by show _ = _; rw [HM.out, markAll_length]
      clear hM3 hc
      go_wp2
      obtain ⟨wo, rfl⟩ : ∃ wo : World, wo = wr := ⟨_, rfl⟩
      go_loopw [7, 57] (fun ov t wr => ∃ (i : Nat) (L : List Int), t = .int .i64 i ∧ i ≤ l.length ∧ L = marked M i ∧ Own wo.heap.size wr ov L ∧ Keeps wo wr) (fun _ t _ => l.length - (intOf t).toNat)
      case atStart => exact ⟨0, [], rfl, by omega, rfl, Own.nil _ _, Keeps.refl _⟩
      case round =>
        obtain ⟨i, L, rfl, hi, hL, hO2, hK2⟩ := hrel
        have HL := Lib.hid hL
        have HO2 := Lib.hid hO2
        have HK2 := Lib.hid hK2
        clear hL hO2 hK2
        by_cases hlt2 : i < l.length
        · have p3 := (HO.out.keep HK2.out).cellAt hnl.out.symm i (by rw [hnl.out]; exact hlt2)
          have hlen : L.length < 1000000000 := by have := marked_length M i; rw [HL.out]; omega
          generalize hy : M.getD i false = y at p3
          have HY := Lib.hid hy
          clear hy
          cases y
          · go_wp2
            go_roundw
            case rel =>
              refine ⟨i + 1, _, by go_num, by omega, ?_, HO2.out, HK2.out⟩
              rw [marked_succ, HY.out, HL.out]; simp
            case measure => simp [intOf]; omega
          · go_wp2_with (at_builtin; refine wpL_app1 HO2.out hlen HK2.out.size rfl rfl rfl rfl ?_; intro v' w' hA)
            go_roundw
            case rel =>
              refine ⟨i + 1, _, by go_num, by omega, ?_, hA.own, hA.keeps HK2.out (Nat.le_refl _)⟩
              rw [marked_succ, HY.out, HL.out]; simp
            case measure => simp [intOf]; omega
        · go_wp2
          go_ret
          refine ⟨_, rfl, ?_, Keeps.trans HK.out HK2.out⟩
          have := HO2.out.mono HK.out.size
          rw [HL.out, HM3.out, show i = l.length by omega] at this
          exact this

def fCycleMarksSpec (l : List Int) : Option (List Int) := if ringCol l && allIn l 0 2 then some (ringMarks l) else none
def fCycleMarksImpl (l : List Int) : Option (List Int) := if ringCol l && allIn l 0 2 then some (ringMarks l) else none
theorem CycleMarks_eq (l : List Int) (hl : ∀ n ∈ l, I64 n) (hs : l.length ≤ 1048576) : fCycleMarksImpl l = fCycleMarksSpec l := rfl

set_option maxHeartbeats 400000 in
theorem implCycleMarks_any (v : Value) (l : List Int) (w : World) (h : Ints w v l) (hl : ∀ n ∈ l, I64 n) (hs : l.length ≤ 1048576) :
    Calls Try.prog 19 #[v] w (RetSB w (fCycleMarksImpl l)) := by
  have H := Lib.hid h
  obtain ⟨a, c, rfl, hm, hf⟩ := h.form
  clear h hl hf
  have HS : Hid (fCycleMarksImpl l = if ringCol l && allIn l 0 2 then some (ringMarks l) else none) := rfl
  cases hb : ringCol l
  · have HB := Lib.hid hb
    clear hb
    go_enter Try.func19, Try.ntmps19
    go_wp2_with (go_at_call 35; refine (areRingColours_any _ _ _ H.out).mono ?_; rintro e w1 ⟨rfl, k1⟩; rw [HB.out])
    go_ret2
    rw [HS.out, HB.out]
    exact RetSB.none k1
  have HB := Lib.hid hb
  have hln : 1 ≤ l.length ∧ l.length ≤ 180 := by
    simp only [ringCol, Bool.and_eq_true, inB_true] at hb
    omega
  obtain ⟨hl1, hl2⟩ := hln
  clear hb
  cases ha : allIn l 0 2
  · have HA := Lib.hid ha
    clear ha
    go_enter Try.func19, Try.ntmps19
    go_wp2_with fail
    refine (areRingColours_any _ _ _ H.out).mono ?_
    rintro e w1 ⟨rfl, k1⟩
    rw [HB.out]
    have K1 := Lib.hid k1
    clear k1
    go_wp2_with fail
    refine (allWithin_any _ _ _ _ _ (H.out.keep K1.out)).mono ?_
    rintro e w2 ⟨rfl, k2⟩
    rw [HA.out]
    go_wp2
    go_ret2
    rw [HS.out, HB.out, HA.out]
    exact RetSB.none (Keeps.trans K1.out k2)
  · have HA := Lib.hid ha
    clear ha
    go_enter Try.func19, Try.ntmps19
    go_wp2_with fail
    refine (areRingColours_any _ _ _ H.out).mono ?_
    rintro e w1 ⟨rfl, k1⟩
    rw [HB.out]
    have K1 := Lib.hid k1
    clear k1
    go_wp2_with fail
    refine (allWithin_any _ _ _ _ _ (H.out.keep K1.out)).mono ?_
    rintro e w2 ⟨rfl, k2⟩
    rw [HA.out]
    have K2 : Hid (Keeps w w2) := Keeps.trans K1.out k2; clear k2
    go_wp2_with fail
    refine (cycleMarks_any _ _ _ (H.out.keep K2.out) hl1 hl2).mono ?_
    rintro e w3 ⟨r, rfl, ho, k3⟩
    have HO := Lib.hid ho
    have K3 := Lib.hid k3
    clear ho k3
    go_wp2
    go_ret2
    rw [HS.out, HB.out, HA.out]
    exact ⟨_, rfl, HO.out.mono K2.out.size, by have := marked_length (markAll l 3) l.length; simp [ringMarks]; omega, Keeps.trans K2.out K3.out⟩

set_option maxHeartbeats 400000 in
theorem specCycleMarks_any (v : Value) (l : List Int) (w : World) (h : Ints w v l) (hl : ∀ n ∈ l, I64 n) (hs : l.length ≤ 1048576) :
    Calls Try.prog 18 #[v] w (RetSB w (fCycleMarksSpec l)) := by
  have H := Lib.hid h
  obtain ⟨a, c, rfl, hm, hf⟩ := h.form
  clear h hl hf
  have HS : Hid (fCycleMarksSpec l = if ringCol l && allIn l 0 2 then some (ringMarks l) else none) := rfl
  cases hb : ringCol l
  · have HB := Lib.hid hb
    clear hb
    go_enter Try.func18, Try.ntmps18
    go_wp2_with (go_at_call 32; refine (cyColours_any _ _ _ H.out).mono ?_; rintro e w1 ⟨rfl, k1⟩; rw [HB.out])
    go_ret2
    rw [HS.out, HB.out]
    exact RetSB.none k1
  have HB := Lib.hid hb
  have hln : 1 ≤ l.length ∧ l.length ≤ 180 := by
    simp only [ringCol, Bool.and_eq_true, inB_true] at hb
    omega
  obtain ⟨hl1, hl2⟩ := hln
  clear hb
  cases ha : allIn l 0 2
  · have HA := Lib.hid ha
    clear ha
    go_enter Try.func18, Try.ntmps18
    go_wp2_with fail
    refine (cyColours_any _ _ _ H.out).mono ?_
    rintro e w1 ⟨rfl, k1⟩
    rw [HB.out]
    have K1 := Lib.hid k1
    clear k1
    go_wp2_with fail
    refine (l1All_any _ _ _ _ _ (H.out.keep K1.out)).mono ?_
    rintro e w2 ⟨rfl, rfl⟩
    rw [HA.out]
    go_wp2
    go_ret2
    rw [HS.out, HB.out, HA.out]
    exact RetSB.none K1.out
  · have HA := Lib.hid ha
    clear ha
    go_enter Try.func18, Try.ntmps18
    go_wp2_with fail
    refine (cyColours_any _ _ _ H.out).mono ?_
    rintro e w1 ⟨rfl, k1⟩
    rw [HB.out]
    have K1 := Lib.hid k1
    clear k1
    go_wp2_with fail
    refine (l1All_any _ _ _ _ _ (H.out.keep K1.out)).mono ?_
    rintro e w2 ⟨rfl, rfl⟩
    rw [HA.out]
    have K2 := K1
    go_wp2_with fail
    refine (cyMark_any _ _ _ (H.out.keep K2.out) hl1 hl2).mono ?_
    rintro e w3 ⟨r, rfl, ho, k3⟩
    have HO := Lib.hid ho
    have K3 := Lib.hid k3
    clear ho k3
    go_wp2
    go_ret2
    rw [HS.out, HB.out, HA.out]
    exact ⟨_, rfl, HO.out.mono K2.out.size, by have := marked_length (markAll l 3) l.length; simp [ringMarks]; omega, Keeps.trans K2.out K3.out⟩
end Go.Proofs.Ytnamiakelifpiaa
