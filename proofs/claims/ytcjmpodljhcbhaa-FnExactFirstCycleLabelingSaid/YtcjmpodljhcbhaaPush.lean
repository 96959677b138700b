/- A row appended to a list of rows. -/
import Derived.Test.YtcjmpodljhcbhaaBit
namespace Go.Proofs.Ytcjmpodljhcbhaa
open Go.RowKit
set_option linter.unusedSimpArgs false
set_option linter.unusedVariables false

--BEGIN
/-- What an append of a row leaves. -/
structure Push (B : Nat) (W : World) (v : Value) (vs : List Value) (LL : List (List Int)) (r : Value) (l : List Int) (v' : Value) (w' : World) : Prop where
  mat : MatIn B w' v' (vs ++ [r]) (LL ++ [l])
  grown : W.grownBy w' v.ownBlock
  lies : v'.ownBlock = v.ownBlock ∨ ∀ k, v'.ownBlock = some k → W.heap.size ≤ k
  lo : ∀ k, v.ownBlock = some k → B ≤ k
theorem Push.keeps {B : Nat} {W w0 w' : World} {v v' r : Value} {vs : List Value} {LL : List (List Int)} {l : List Int} (h : Push B W v vs LL r l v' w') (k : Keeps w0 W) (hB : w0.heap.size ≤ B) : Keeps w0 w' :=
  k.grown h.grown k.size fun j hj => Nat.le_trans hB (h.lo j hj)
theorem mat_getD_append (vs : List Value) (r : Value) (j : Nat) : (vs ++ [r]).getD j undef = if j < vs.length then vs.getD j undef else if j = vs.length then r else undef := by
  by_cases h : j < vs.length
  · simp [h, List.getElem?_append]
  · by_cases h2 : j = vs.length
    · subst h2; simp
    · rw [if_neg h, if_neg h2]
      simp only [List.getD_eq_getElem?_getD]
      rw [List.getElem?_eq_none (by simp; omega)]; rfl
theorem ll_getD_append (LL : List (List Int)) (l : List Int) (j : Nat) (hj : j < LL.length + 1) : (LL ++ [l]).getD j [] = if j < LL.length then LL.getD j [] else l := by
  by_cases h : j < LL.length
  · simp [h, List.getElem?_append]
  · have h2 : j = LL.length := by omega
    subst h2; simp
theorem MatIn.pushed {B : Nat} {W w' : World} {v v' r : Value} {vs : List Value} {LL : List (List Int)} {l : List Int} (h : MatIn B W v vs LL) (hr : Own B W r l) (ap : ∀ j, j < LL.length → Apart r (vs.getD j undef))
    (hg : W.grownBy w' v.ownBlock) (hrow : w'.ownsRow B 43 1 v' (LL.length + 1) (vs ++ [r])) : MatIn B w' v' (vs ++ [r]) (LL ++ [l]) := by
  have n1 : (43 : TypeId) ≠ 3 := by decide
  have hl := h.len
  have far : ∀ {u : Value} {m : List Int}, Own B W u m → Own B w' u m := fun {u m} hu => World.ownsRow.kept hu hg (owns_apart_ty n1.symm hu h.row)
  refine ⟨by simpa using hrow, fun j hj => ?_, fun j k hj hk hne => ?_⟩
  · simp only [List.length_append, List.length_cons, List.length_nil] at hj
    rw [mat_getD_append, ll_getD_append _ _ _ (by omega), hl]
    by_cases hj2 : j < LL.length
    · rw [if_pos hj2, if_pos hj2]; exact far (h.own j hj2)
    · rw [if_neg hj2, if_neg hj2, if_pos (by omega)]; exact far hr
  · simp only [List.length_append, List.length_cons, List.length_nil] at hj hk
    rw [mat_getD_append, mat_getD_append, hl]
    by_cases hj2 : j < LL.length
    · rw [if_pos hj2]
      by_cases hk2 : k < LL.length
      · rw [if_pos hk2]; exact h.apart j k hj2 hk2 hne
      · rw [if_neg hk2, if_pos (by omega)]; exact (ap j hj2).symm
    · rw [if_neg hj2, if_pos (by omega)]
      by_cases hk2 : k < LL.length
      · rw [if_pos hk2]; exact ap k hk2
      · omega

section
variable {ops : Array Oper} {rest : List Oper} {o : Oper} {a : Act} {Q : Exit → Act → World → Prop}
theorem run_push {wr : World} {B : Nat} {v r : Value} {vs : List Value} {LL : List (List Int)} {l : List Int} {g : Nat} (h : MatIn B wr v vs LL) (hr : Own B wr r l) (ap : ∀ j, j < LL.length → Apart r (vs.getD j undef)) (hlen : LL.length < 1000000000) (hB : B ≤ wr.heap.size)
    (hblk : wr.heap[g]? = some (.cells #[r] 43 (0, 0))) (ty : TypeId) :
    ∃ v' w', (Builtin.append_ #[22, 22] ty #[v, .slice (some ⟨g, 0, none⟩) 1 1]).run Try.prog wr = .ok v' w' ∧ Push B wr v vs LL r l v' w' := by
  obtain ⟨i0, hi, hz0, hz1, hz2⟩ := info_parts info_ints
  obtain ⟨v', w', e, h1, h2, h3, h4⟩ := run_append_g (P := Try.prog) wr B 22 ty 43 i0 (.slice none 0 0) 1 24 Try.underlying22 hi hz0 hz1 hz2 rfl (by decide) v LL.length vs h.row
    (some ⟨g, 0, none⟩) 1 1 [r] rfl (fun h => by cases h) (by
      intro ad hh j u hj
      cases hh
      exact World.news_of_block hblk j u hj) (by
      intro u hu
      simp at hu; subst hu
      obtain ⟨a, n, c, rfl⟩ := hr.sl
      rfl) (by omega) (by simp only [maxLen]; omega) hB
  exact ⟨v', w', e, h.pushed hr ap h2 h1, h2, h3.imp id fun hh k hk => (World.ownsRow.lt hh k hk).1, fun k hk => (World.ownsRow.lt h.row k hk).1⟩
theorem wpL_push {wr : World} {B : Nat} {v r : Value} {vs : List Value} {LL : List (List Int)} {l : List Int} {g : Nat} (h : MatIn B wr v vs LL) (hr : Own B wr r l) (ap : ∀ j, j < LL.length → Apart r (vs.getD j undef)) (hlen : LL.length < 1000000000) (hB : B ≤ wr.heap.size)
    (hblk : wr.heap[g]? = some (.cells #[r] 43 (0, 0)))
    (hgd : o.guard = none) {s x : Operand}
    (ho : o.op = .call { callee := .builtin .append, args := #[s, x], argTypes := #[22, 22] })
    (hs : a.eval s = v) (hx : a.eval x = .slice (some ⟨g, 0, none⟩) 1 1)
    (hQ : ∀ v' w', Push B wr v vs LL r l v' w' → wpList Try.prog ops Q rest (a.put o.dst v') w') :
    wpList Try.prog ops Q (o :: rest) a wr := by
  refine wpList_plain hgd fun _ hK => ?_
  obtain ⟨v', w', hr, hA⟩ := run_push h hr ap hlen hB hblk o.type
  unfold Oper.wp execOp
  simp only [ho, resolve, invoke, builtin, Sem.run_bind, Sem.run_pure, Result.andThen_ok, List.map_toArray, List.map_cons, List.map_nil, hs, hx, hr]
  exact hK _ _ (hQ v' w' hA)
theorem step_push {E : Prop} {K : Act → World → Prop} {wr : World} {B : Nat} {v r : Value} {vs : List Value} {LL : List (List Int)} {l : List Int} {g : Nat}
    (hgd : o.guard = none) {s x : Operand}
    (ho : o.op = .call { callee := .builtin .append, args := #[s, x], argTypes := #[22, 22] })
    (hs : a.eval s = v) (hx : a.eval x = .slice (some ⟨g, 0, none⟩) 1 1)
    (h : MatIn B wr v vs LL) (hr : Own B wr r l) (ap : ∀ j, j < LL.length → Apart r (vs.getD j undef)) (hlen : LL.length < 1000000000) (hB : B ≤ wr.heap.size)
    (hblk : wr.heap[g]? = some (.cells #[r] 43 (0, 0)))
    (hQ : ∀ v' w', Push B wr v vs LL r l v' w' → K (a.put o.dst v') w') :
    if Region.wanted o (yielded ops a.tmps) = true then Oper.wp Try.prog o a wr K Q else E := by
  have hw : Region.wanted o (yielded ops a.tmps) = true := by simp [Region.wanted, hgd]
  rw [if_pos hw]
  obtain ⟨v', w', hr, hA⟩ := run_push h hr ap hlen hB hblk o.type
  unfold Oper.wp execOp
  simp only [ho, resolve, invoke, builtin, Sem.run_bind, Sem.run_pure, Result.andThen_ok, List.map_toArray, List.map_cons, List.map_nil, hs, hx, hr]
  exact hQ v' w' hA
end
theorem MatIn.nil (B : Nat) (w : World) : MatIn B w (.slice none 0 0) [] [] := ⟨World.ownsRow_nil w B 43 1, fun i hi => by simp at hi, fun i j hi => by simp at hi⟩
theorem MatIn.shape {B : Nat} {w : World} {v : Value} {vs : List Value} {LL : List (List Int)} (h : MatIn B w v vs LL) : ∃ a c, v = .slice a LL.length c ∧ LL.length ≤ 9223372036854775807 := by
  obtain ⟨a, c, h1, h2, _⟩ := h.rows.form
  exact ⟨a, c, h1, h2⟩
/-- A fresh row is apart from all rows that were there. -/
theorem MatIn.fresh {B C : Nat} {w w1 : World} {v r : Value} {vs : List Value} {LL : List (List Int)} {l : List Int} (h : MatIn B w v vs LL) (hr : Own C w1 r l) (hC : w.heap.size ≤ C) : ∀ j, j < LL.length → Apart r (vs.getD j undef) :=
  fun j hj => (Own.apart_old (h.own j hj) hr hC).symm
theorem MatIn.lower {B B' : Nat} {w : World} {v : Value} {vs : List Value} {LL : List (List Int)} (h : MatIn B w v vs LL) (hB : B' ≤ B) : MatIn B' w v vs LL :=
  ⟨World.ownsRow.mono h.row hB, fun i hi => (h.own i hi).mono hB, h.apart⟩
--END
end Go.Proofs.Ytcjmpodljhcbhaa
