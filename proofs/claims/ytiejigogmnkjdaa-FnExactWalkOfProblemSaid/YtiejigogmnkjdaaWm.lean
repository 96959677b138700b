/- Two lists of lists among the results, apart from each other: a walk problem and a list of lists. -/
import Derived.Test.YtiejigogmnkjdaaWp
import Derived.Test.YtiejigogmnkjdaaAd
namespace Go.Proofs.Ytiejigogmnkjdaa
open Go.RowKit
set_option linter.unusedSimpArgs false
set_option linter.unusedVariables false

/-- Of the blocks that were there only those of the rows vs may have changed. -/
structure ChgR (vs : List Value) (w w' : World) : Prop where
  os : w'.os = w.os
  tape : w'.tape = w.tape
  output : w'.output = w.output
  size : w.heap.size ≤ w'.heap.size
  block : ∀ k, k < w.heap.size → (∀ i, i < vs.length → (vs.getD i undef).ownBlock ≠ some k) → w'.heap[k]? = w.heap[k]?
theorem ChgR.refl (vs : List Value) (w : World) : ChgR vs w w := ⟨rfl, rfl, rfl, Nat.le_refl _, fun _ _ _ => rfl⟩
theorem ChgR.step {vs : List Value} {w w1 w2 : World} (h : ChgR vs w w1) {j : Nat} (g : w1.grownBy w2 (vs.getD j undef).ownBlock) (hj : j < vs.length) : ChgR vs w w2 :=
  ⟨g.os.trans h.os, g.tape.trans h.tape, g.output.trans h.output, Nat.le_trans h.size g.size, fun k hk hn => (g.block k (Nat.lt_of_lt_of_le hk h.size) fun e => hn j hj e.symm).trans (h.block k hk hn)⟩
theorem ChgR.chg {vs : List Value} {w w' : World} {B C : Nat} (h : ChgR vs w w') (hv : ∀ i, i < vs.length → ∀ k, (vs.getD i undef).ownBlock = some k → B ≤ k ∧ k < C) : Chg B C w w' :=
  ⟨h.os, h.tape, h.output, h.size, fun k hk hn => h.block k hk fun i hi e => hn (hv i hi k e)⟩
theorem owns_chgR {D : Nat} {e : TypeId} {size : Nat} {v : Value} {n : Nat} {xs vs : List Value} {w w' : World} (h : w.ownsRow D e size v n xs) (c : ChgR vs w w') (hv : ∀ i, i < vs.length → Apart v (vs.getD i undef)) : w'.ownsRow D e size v n xs := by
  obtain ⟨h1, h2⟩ := h
  refine ⟨h1, ?_⟩
  rcases h2 with h2 | ⟨g, cap, cur, rfl, hg, hh, r⟩
  · exact .inl h2
  · refine .inr ⟨g, cap, cur, rfl, hg, ?_, r⟩
    rw [c.block g (Array.getElem?_eq_some_iff.1 hh).1 fun i hi => ?_]
    · exact hh
    · rcases hv i hi with h3 | h3
      · cases h3
      · exact fun e => h3 (by rw [e]; rfl)
set_option maxHeartbeats 800000 in
theorem markIntSS_vs (B : Nat) (v : Value) (vs : List Value) (LL : List (List Int)) (k : Int) (w : World) (hM0 : MatIn B w v vs LL) (hk : 0 ≤ k) (hk2 : k + tot LL ≤ 4611686018427387904) :
    Calls Try.prog 32 #[v, .int .i64 k] w fun e w' => e = .returned (.int .i64 (k + off LL LL.length)) ∧ MatIn B w' v vs (numbered k LL LL.length) ∧ ChgR vs w w' := by
  have HM0 := Lib.hid hM0
  obtain ⟨a, c, rfl, hm, _⟩ := hM0.rows.form
  clear hM0
  have HO := Lib.hid (off_le LL)
  have HOS := Lib.hid (off_succ LL)
  go_enter Try.func32, Try.ntmps32
  go_wp2
  go_loopw [1, 5] (fun x i wr => ∃ j : Nat, j ≤ LL.length ∧ i = .int .i64 j ∧ x = .int .i64 (k + off LL j) ∧ MatIn B wr (.slice a LL.length c) vs (numbered k LL j) ∧ ChgR vs w wr) (fun _ i _ => LL.length - (intOf i).toNat)
  case atStart => exact ⟨0, Nat.zero_le _, rfl, by simp [off], by rw [numbered_zero]; exact HM0.out, ChgR.refl _ _⟩
  case round =>
    obtain ⟨j, hj, rfl, rfl, hM, hG⟩ := hrel
    have HM := Lib.hid hM
    have HG := Lib.hid hG
    clear hM hG
    by_cases hlt : j < LL.length
    · have hjl : j < (numbered k LL j).length := by rw [numbered_length]; exact hlt
      obtain ⟨g, cap, hv, hcell⟩ := HM.out.form (by omega)
      simp only [Value.slice.injEq] at hv
      obtain ⟨rfl, -, rfl⟩ := hv
      obtain ⟨c1, c2⟩ := hcell j hjl
      clear hcell
      have hO := HM.out.own j hjl
      rw [numbered_getD k LL j j hlt, if_neg (Nat.lt_irrefl _)] at hO
      have HOW := Lib.hid hO
      have b1 := HO.out (j + 1) (by omega)
      have b2 := HOS.out j hlt
      have HX : Hid (∀ w2, wr.grownBy w2 (vs.getD j undef).ownBlock → ChgR vs w w2) := fun w2 hg => HG.out.step hg (j := j) (by rw [HM.out.len]; exact hjl)
      have HW : Hid (∀ w' l, wr.grownBy w' (vs.getD j undef).ownBlock → Own B w' (vs.getD j undef) l → MatIn B w' (.slice (some ⟨g, 0, none⟩) LL.length c) vs ((numbered k LL j).set j l)) := fun w' l hg ho => HM.out.wrote hjl hg ho
      clear hO
      generalize vs.getD j undef = u at c1 HOW HX HW
      have hb : k + (off LL j : Int) + ((LL.getD j []).length : Int) ≤ 4611686018427387904 := by omega
      have B2 := Lib.hid b2
      clear b2
      have HNS := Lib.hid (numbered_succ k LL j hlt)
      generalize LL.getD j [] = r at HOW B2 hb HNS
      go_wp2_with fail
      refine (markIntS_any B _ _ _ _ HOW.out (by omega) hb).mono ?_
      rintro e w2 ⟨rfl, hO2, hG2⟩
      have HN := Lib.hid (HW.out w2 _ hG2 hO2)
      have HGN : Hid (ChgR vs w w2) := HX.out w2 hG2
      clear hO2 hG2
      go_wp2
      go_roundw
      case rel => exact ⟨j + 1, by omega, by go_num, by rw [B2.out]; congr 1; omega, by rw [HNS.out]; exact HN.out, HGN.out⟩
      case measure => simp [intOf]; omega
    · go_wp2
      go_ret
      have he : j = LL.length := by omega
      subst he
      exact ⟨rfl, HM.out, HG.out⟩

/-- Two lists of lists within B .. C, of which no row is shared. -/
def PM (B C : Nat) (w : World) (a : Value) (X : List (List Int)) (b : Value) (Y : List (List Int)) : Prop :=
  ∃ us vs, MatIn B w a us X ∧ MatIn B w b vs Y ∧ ((∀ k, a.ownBlock = some k → k < C) ∧ (∀ k, b.ownBlock = some k → k < C) ∧ (∀ i, i < X.length → ∀ k, (us.getD i undef).ownBlock = some k → k < C) ∧ ∀ i, i < Y.length → ∀ k, (vs.getD i undef).ownBlock = some k → k < C) ∧
    ∀ i j, i < X.length → j < Y.length → Apart (us.getD i undef) (vs.getD j undef)
section
variable {B C B' C' : Nat} {w w' : World} {a b : Value} {X Y : List (List Int)}
theorem PM.symm (h : PM B C w a X b Y) : PM B C w b Y a X := by
  obtain ⟨us, vs, h1, h2, ⟨h3, h4, h5, h6⟩, h7⟩ := h
  exact ⟨vs, us, h2, h1, ⟨h4, h3, h6, h5⟩, fun i j hi hj => (h7 j i hj hi).symm⟩
theorem PM.left (h : PM B C w a X b Y) : IntRows w a X := by obtain ⟨us, vs, h1, _⟩ := h; exact h1.rows
theorem PM.right (h : PM B C w a X b Y) : IntRows w b Y := by obtain ⟨us, vs, h1, h2, _⟩ := h; exact h2.rows
theorem PM.keep (h : PM B C w a X b Y) (k : Keeps w w') : PM B C w' a X b Y := by
  obtain ⟨us, vs, h1, h2, h3, h4⟩ := h
  exact ⟨us, vs, h1.keep k, h2.keep k, h3, h4⟩
theorem PM.chg (h : PM B C w a X b Y) (c : Chg B' C' w w') (hd : C ≤ B' ∨ C' ≤ B) : PM B C w' a X b Y := by
  obtain ⟨us, vs, h1, h2, ⟨h3, h4, h5, h6⟩, h7⟩ := h
  refine ⟨us, vs, ⟨owns_chg h1.row c fun k hk => ?_, fun i hi => owns_chg (h1.own i hi) c fun k hk => ?_, h1.apart⟩, ⟨owns_chg h2.row c fun k hk => ?_, fun i hi => owns_chg (h2.own i hi) c fun k hk => ?_, h2.apart⟩, ⟨h3, h4, h5, h6⟩, h7⟩
  · have := h3 k hk; have := (World.ownsRow.lt h1.row k hk).1; omega
  · have := h5 i hi k hk; have := ((h1.own i hi).lt k hk).1; omega
  · have := h4 k hk; have := (World.ownsRow.lt h2.row k hk).1; omega
  · have := h6 i hi k hk; have := ((h2.own i hi).lt k hk).1; omega
end
theorem markIntSS_pm (B C : Nat) (a : Value) (X : List (List Int)) (b : Value) (Y : List (List Int)) (k : Int) (w : World) (h : PM B C w a X b Y) (hk : 0 ≤ k) (hk2 : k + tot X ≤ 4611686018427387904) :
    Calls Try.prog 32 #[a, .int .i64 k] w fun e w' => e = .returned (.int .i64 (k + off X X.length)) ∧ PM B C w' a (numbered k X X.length) b Y ∧ Chg B C w w' := by
  obtain ⟨us, vs, h1, h2, ⟨h3, h4, h5, h6⟩, h7⟩ := h
  refine (markIntSS_vs B a us X k w h1 hk hk2).mono ?_
  rintro e w' ⟨rfl, m1, g1⟩
  have hl := h1.len
  refine ⟨rfl, ⟨us, vs, m1, ⟨owns_chgR h2.row g1 fun i hi => ?_, fun j hj => owns_chgR (h2.own j hj) g1 fun i hi => ?_, h2.apart⟩, ⟨h3, h4, fun i hi => h5 i (by simpa [numbered_length] using hi), h6⟩, fun i j hi hj => h7 i j (by simpa [numbered_length] using hi) hj⟩, g1.chg fun i hi k hk => ?_⟩
  · exact owns_apart_ty (by decide) h2.row (h1.own i (by omega))
  · exact (h7 i j (by omega) hj).symm
  · exact ⟨((h1.own i (by omega)).lt k hk).1, h5 i (by omega) k hk⟩
/-- A walk problem and a list of lists. -/
def OwWM (B C : Nat) (w : World) (v : Value) (x : WP) (v' : Value) (Y : List (List Int)) : Prop := ∃ v1, v = .agg #[.int .i64 x.labels, v1] ∧ PM B C w v1 x.arcs v' Y
section
variable {B C B' C' : Nat} {w w' : World} {v v' : Value} {x : WP} {Y : List (List Int)}
theorem OwWM.keep (h : OwWM B C w v x v' Y) (k : Keeps w w') : OwWM B C w' v x v' Y := by obtain ⟨v1, e, h1⟩ := h; exact ⟨v1, e, h1.keep k⟩
theorem OwWM.chg (h : OwWM B C w v x v' Y) (c : Chg B' C' w w') (hd : C ≤ B' ∨ C' ≤ B) : OwWM B C w' v x v' Y := by obtain ⟨v1, e, h1⟩ := h; exact ⟨v1, e, h1.chg c hd⟩
theorem OwWM.rd0 (h : OwWM B C w v x v' Y) : RdW w v x := by obtain ⟨v1, e, h1⟩ := h; exact ⟨v1, e, h1.left⟩
theorem OwWM.rd1 (h : OwWM B C w v x v' Y) : IntRows w v' Y := by obtain ⟨v1, e, h1⟩ := h; exact h1.right
end
theorem markIntSS_wm (B C : Nat) (v : Value) (x : WP) (v' : Value) (Y : List (List Int)) (k : Int) (w : World) (h : OwWM B C w v x v' Y) (hk : 0 ≤ k) (hk2 : k + tot Y ≤ 4611686018427387904) :
    Calls Try.prog 32 #[v', .int .i64 k] w fun e w' => e = .returned (.int .i64 (k + off Y Y.length)) ∧ OwWM B C w' v x v' (numbered k Y Y.length) ∧ Chg B C w w' := by
  obtain ⟨v1, e1, h1⟩ := h
  refine (markIntSS_pm B C v' Y v1 x.arcs k w h1.symm hk hk2).mono ?_
  rintro e w' ⟨rfl, m1, g1⟩
  exact ⟨rfl, ⟨v1, e1, m1.symm⟩, g1⟩
set_option maxHeartbeats 800000 in
theorem markWalkProblem_wm (B C : Nat) (v : Value) (x : WP) (v' : Value) (Y : List (List Int)) (k : Int) (w : World) (h : OwWM B C w v x v' Y) (hC : C ≤ w.heap.size) (hk : 0 ≤ k) (hk2 : k + szW x ≤ 4611686018427387904) :
    Calls Try.prog 57 #[v, .int .i64 k] w fun e w' => e = .returned (.int .i64 (k + cntW x)) ∧ OwWM B C w' v (numW k x) v' Y ∧ Chg B C w w' := by
  obtain ⟨v1, rfl, o1⟩ := h
  have HX : Hid (cntW x = off x.arcs x.arcs.length) := rfl
  unfold szW tot at hk2
  have O1 := Lib.hid o1
  obtain ⟨a1, c1, rfl, _⟩ := o1.left.form
  clear o1
  go_enter Try.func57, Try.ntmps57
  go_wp2_with fail
  refine (markIntSS_pm B C _ x.arcs _ Y (k) _ (O1.out.keep (by repeat (first | exact Keeps.refl _ | with_reducible refine Keeps.alloc ?_ _))) (by omega) (by unfold tot; omega)).mono ?_
  rintro e W0 ⟨rfl, hO, hG⟩
  have N1 := Lib.hid hO
  have G0 : Hid (Chg B C w W0) := (Keeps.chg (by repeat (first | exact Keeps.refl _ | with_reducible refine Keeps.alloc ?_ _)) B C).trans (hG)
  have hsz0 := hG.size
  have hcc : ∀ i, W0.cell? ⟨w.heap.size, i, none⟩ = (w.alloc (.cells #[.int .i64 x.labels, .slice a1 x.arcs.length c1] 74)).cell? ⟨w.heap.size, i, none⟩ := fun i => World.cell?_of_block (hG.block w.heap.size (by simp) (by omega))
  clear hO hG
  go_wp2
  go_ret
  exact ⟨ret_int (by rw [HX.out]; (try omega)), ⟨_, rfl, N1.out⟩, G0.out⟩

theorem dz_mat {w0 w : World} {o' : Tg} {v : Value} {LL : List (List Int)} {vs : List Hv} (h1 : Ow 0 25 0 o' w v vs) (h2 : Rws 0 3 0 o' w vs LL) (ho : ∀ b, b < w0.heap.size → o' b ≠ 0) : MatIn w0.heap.size w v (vs.map Hv.v) LL := by
  have h3 := Of.fresh h1 ho
  obtain ⟨css, c1, c2, c3, c4⟩ := h3
  rw [flat_hv c1 (fun i cs x a b => c4 i cs x a b)] at c2
  have hl := h2.1
  have rowAt : ∀ i, i < LL.length → Own w0.heap.size w ((vs.map Hv.v).getD i undef) (LL.getD i []) := fun i hi => by
    have hv : vs[i]? = some vs[i] := List.getElem?_eq_getElem (by omega)
    have hx : LL[i]? = some LL[i] := List.getElem?_eq_getElem hi
    have := (Of.fresh (h2.2.1 i vs[i] LL[i] hv hx) ho).own_ints
    rw [List.getD_eq_getElem?_getD, List.getElem?_map, hv, List.getD_eq_getElem?_getD, hx]
    exact this
  refine ⟨by rw [← hl]; exact c2, rowAt, fun i j hi hj hne => ?_⟩
  have hv : vs[i]? = some vs[i] := List.getElem?_eq_getElem (by omega)
  have hv' : vs[j]? = some vs[j] := List.getElem?_eq_getElem (by omega)
  rw [List.getD_eq_getElem?_getD, List.getElem?_map, hv, List.getD_eq_getElem?_getD, List.getElem?_map, hv']
  simp only [Option.map_some, Option.getD_some]
  unfold Apart
  cases hb : vs[i].v.ownBlock with
  | none => exact .inl rfl
  | some g =>
    refine .inr fun he => hne (h2.2.2 i j vs[i] vs[j] g hv hv' hb he.symm)
theorem Rws.tagAt {B : Nat} {er : TypeId} {kr : Nat} {o : Tg} {w : World} {vs : List Hv} {LL : List (List Int)} (h : Rws B er kr o w vs LL) : ∀ i, i < LL.length → ∀ g, ((vs.map Hv.v).getD i undef).ownBlock = some g → o g = kr := fun i hi g hg => by
  have hl := h.1
  have hv : vs[i]? = some vs[i] := List.getElem?_eq_getElem (by omega)
  have hx : LL[i]? = some LL[i] := List.getElem?_eq_getElem hi
  rw [List.getD_eq_getElem?_getD, List.getElem?_map, hv] at hg
  obtain ⟨css, c1, c2, c3, c4⟩ := h.2.1 i vs[i] LL[i] hv hx
  exact c3 g hg
/-- Out of the contract of a printed function: a list of lists given up beside one of the caller's own. -/
theorem pm_of {w0 w : World} {o' : Tg} {t : Nat} {a b : Value} {X Y : List (List Int)} {g : List Hv} (hz : Dz 25 3 o' w a X) (h : Ow w0.heap.size 25 t o' w b g) (hr : Rws w0.heap.size 3 (t + 1) o' w g Y) (ht : 2 ≤ t) (ho : ∀ b, b < w0.heap.size → o' b = 1) :
    PM w0.heap.size w.heap.size w a X b Y := by
  obtain ⟨vs, z1, z2⟩ := hz
  have m1 := dz_mat (w0 := w0) z1 z2 (fun b hb => by rw [ho b hb]; decide)
  have y1 : Ow 0 25 0 (frz (t + 1) (frz t o')) w b g := Of.frz (h.frzF) (t + 1) (by omega)
  have y2 : Rws 0 3 0 (frz (t + 1) (frz t o')) w g Y := ((hr.frz_ne (by omega)).frz (by omega)).mono (Nat.zero_le _)
  have m2 := dz_mat (w0 := w0) y1 y2 (fun b hb => by
    have := ho b hb
    unfold Go.Proofs.Ytiejigogmnkjdaa.frz
    rw [if_neg (by rw [this]; omega : ¬ o' b = t), this, if_neg (by omega)]; decide)
  refine ⟨_, _, m1, m2, ⟨fun k hk => (World.ownsRow.lt m1.row k hk).2, fun k hk => (World.ownsRow.lt m2.row k hk).2, fun i hi k hk => ((m1.own i hi).lt k hk).2, fun i hi k hk => ((m2.own i hi).lt k hk).2⟩, fun i j hi hj => ?_⟩
  unfold Apart
  cases hb : ((vs.map Hv.v).getD i undef).ownBlock with
  | none => exact .inl rfl
  | some k =>
    refine .inr fun he => ?_
    have e1 := z2.tagAt i hi k hb
    have e2 := hr.tagAt j hj k he.symm
    omega
end Go.Proofs.Ytiejigogmnkjdaa
