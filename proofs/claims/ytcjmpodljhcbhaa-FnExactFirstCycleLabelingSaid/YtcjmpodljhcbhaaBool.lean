/- Lists of bools and lists of those, read and owned. -/
import Derived.Test.YtcjmpodljhcbhaaPush
namespace Go.Proofs.Ytcjmpodljhcbhaa
namespace Bo
open Go.RowKit
set_option linter.unusedSimpArgs false
set_option linter.unusedVariables false

def Ints (w : World) (v : Value) (l : List Bool) : Prop := Sl w v (l.map (Value.bool))
theorem Ints.keep {w w' : World} {v : Value} {l : List Bool} (h : Ints w v l) (k : Keeps w w') : Ints w' v l := Sl.keep h k
theorem Ints.form {w : World} {v : Value} {l : List Bool} (h : Ints w v l) :
    ∃ a c, v = .slice a l.length c ∧ l.length ≤ 9223372036854775807 ∧
      ∀ i, i < l.length → ∃ b o, a = some ⟨b, o, none⟩ ∧ w.cell? ⟨b, o + i, none⟩ = some (.bool (l.getD i false)) := by
  obtain ⟨a, c, rfl, h1, h2, h3⟩ := h
  simp only [List.length_map] at h1 ⊢
  refine ⟨a, c, rfl, by simp only [maxLen] at h2; omega, fun i hi => ?_⟩
  rcases h3 with h3 | ⟨b, o, rfl, h3⟩
  · simp at h3; subst h3; simp at hi
  · exact ⟨b, o, rfl, h3 i _ (by simp [hi])⟩
theorem info_int : (Try.prog.info? 4).map (fun i => (i.zero, i.size, i.bytes)) = some (some (.bool false), 1, 1) := by kernel_rfl

/-- An owned row of integers. -/
def Own (B : Nat) (w : World) (v : Value) (l : List Bool) : Prop := w.ownsRow B 4 1 v l.length (l.map (Value.bool))

section
variable {B : Nat} {w w' : World} {v : Value} {l : List Bool}
theorem Own.keep (h : Own B w v l) (k : Keeps w w') : Own B w' v l := owns_keep h k
theorem Own.mono {B' : Nat} (h : Own B w v l) (hB : B' ≤ B) : Own B' w v l := World.ownsRow.mono h hB
theorem Own.ints (h : Own B w v l) : Ints w v l := owns_sl (e := 4) (B := B) (by simpa [Own] using h)
theorem Own.lt (h : Own B w v l) : ∀ k, v.ownBlock = some k → B ≤ k ∧ k < w.heap.size := World.ownsRow.lt h
theorem Own.nil (B : Nat) (w : World) : Own B w (.slice none 0 0) [] := World.ownsRow_nil w B 4 1
theorem Own.alloc (h : Own B w v l) (o : Obj) : Own B (w.alloc o) v l := World.ownsRow.alloc h o
theorem Own.kept {u : Value} (h : Own B w v l) (hg : w.grownBy w' u.ownBlock) (ha : Apart v u) : Own B w' v l := World.ownsRow.kept h hg ha
/-- What lies apart because it is older. -/
theorem Own.apart_old {C : Nat} {u : Value} {m : List Bool} {w0 : World} (h : Own B w0 v l) (k : Own C w u m) (hC : w0.heap.size ≤ C) : Apart v u := by
  unfold Apart
  by_cases hv : v.ownBlock = none
  · exact .inl hv
  · obtain ⟨g, hg⟩ := Option.ne_none_iff_exists'.1 hv
    refine .inr fun e => ?_
    have h1 := (h.lt g hg).2
    have h2 := (k.lt g (e ▸ hg)).1
    omega
/-- A new slice literal of one element. -/
theorem Own.one (B : Nat) (w : World) (x : Bool) (hB : B ≤ w.heap.size) : Own B (w.alloc (.cells #[.bool x] 4)) (.slice (some ⟨w.heap.size, 0, none⟩) 1 1) [x] :=
  World.ownsRow_lit (e := 4) (size := 1) w #[.bool x] 1 hB (by simp [maxLen]) rfl
theorem Own.len (h : Own B w v l) : ∃ a c, v = .slice a l.length c ∧ l.length ≤ 9223372036854775807 := by
  obtain ⟨a, c, h1, h2, _⟩ := h.ints.form
  exact ⟨a, c, h1, h2⟩
end

theorem Own.drew1 {B : Nat} {w : World} {v : Value} {l : List Bool} (h : Own B w v l) : Own B w.drew v l := h
/-- What an append leaves: the new row, what has changed, where it lies, and that the old value reads as before. -/
structure App (B : Nat) (W : World) (v : Value) (l ys : List Bool) (v' : Value) (w' : World) : Prop where
  own : Own B w' v' (l ++ ys)
  grown : W.grownBy w' v.ownBlock
  lies : v'.ownBlock = v.ownBlock ∨ Own W.heap.size w' v' (l ++ ys)
  old : Own B w' v l

theorem App.below {B C : Nat} {W w0 w' : World} {v v' : Value} {l ys : List Bool} (h : App B W v l ys v' w') (k : Below C w0 W) (hC : C ≤ W.heap.size) (hB : C ≤ B) : Below C w0 w' :=
  k.grown h.grown hC fun j hj => Nat.le_trans hB (h.old.lt j hj).1
theorem App.keeps {B : Nat} {W w0 w' : World} {v v' : Value} {l ys : List Bool} (h : App B W v l ys v' w') (k : Keeps w0 W) (hB : w0.heap.size ≤ B) : Keeps w0 w' := h.below k k.size hB
/-- Another owned row stays. -/
theorem App.keep {B C : Nat} {W w' : World} {v v' u : Value} {l ys m : List Bool} (h : App B W v l ys v' w') (o : Own C W u m) (ha : Apart u v) : Own C w' u m := o.kept h.grown ha

/-- Two appends to two rows, one behind the other. -/
theorem two_apps {B : Nat} {W0 W w1 W2 w2 : World} {u1 u2 v1 v2 : Value} {m1 m2 : List Bool} (ha : Apart u1 u2) (o1 : Own B W0 u1 m1) (o2 : Own B W0 u2 m2) (k0 : W0.heap.size ≤ W.heap.size)
    {y1 y2 : List Bool} (h1 : App B W u1 m1 y1 v1 w1) (k : Keeps w1 W2) (h2 : App B W2 u2 m2 y2 v2 w2) :
    Own B w2 v1 (m1 ++ y1) ∧ Own B w2 v2 (m2 ++ y2) ∧ Apart v1 v2 := by
  have s1 := h1.grown.size
  have s2 := k.size
  have a1 : Apart v1 u2 := by
    rcases h1.lies with c1 | c1
    · unfold Apart at *; rw [c1]; exact ha
    · exact (Own.apart_old o2 c1 k0).symm
  refine ⟨(h1.own.keep k).kept h2.grown a1, h2.own, ?_⟩
  rcases h2.lies with c2 | c2
  · unfold Apart at *; rw [c2]; exact a1
  · exact Own.apart_old h1.own c2 s2

section
variable {ops : Array Oper} {rest : List Oper} {o : Oper} {a : Act} {Q : Exit → Act → World → Prop}

/-- append of one integer, which has just been laid in a new block. -/
theorem wpL_app1 {wr : World} {B : Nat} {v : Value} {l : List Bool} (hown : Own B wr v l) (hlen : l.length < 1000000000) (hB : B ≤ wr.heap.size) {y : Bool}
    (hgd : o.guard = none) {s x : Operand}
    (ho : o.op = .call { callee := .builtin .append, args := #[s, x], argTypes := #[77, 77] })
    (hs : a.eval s = v) (hx : a.eval x = .slice (some ⟨wr.heap.size, 0, none⟩) 1 1)
    (h : ∀ v' w', App B wr v l [y] v' w' → wpList Try.prog ops Q rest (a.put o.dst v') w') :
    wpList Try.prog ops Q (o :: rest) a (wr.alloc (.cells #[.bool y] 4)) := by
  obtain ⟨i0, hi, hz0, hz1, hz2⟩ := info_parts info_int
  refine wpL_append_g _ hgd s x 77 ho B 4 i0 (.bool false) 1 1 Try.underlying77 hi hz0 hz1 hz2 rfl (by decide) v l.length (l.map (Value.bool)) hs (World.ownsRow.alloc hown _)
    (some ⟨wr.heap.size, 0, none⟩) 1 1 [.bool y] hx rfl (fun h => by cases h) ?_ (by simp [Value.oneCell']) (by omega) (by simp only [maxLen]; omega) (by simp; omega) ?_
  · intro ad hh j u hj
    cases hh
    match j, hj with
    | 0, hj => simp at hj; subst hj; show (wr.alloc (.cells #[.bool y] 4)).cell? ⟨wr.heap.size, 0, none⟩ = _; rw [World.cell?_alloc_at _ _ _ _ rfl]; rfl
    | j + 1, hj => simp at hj
  · intro v' w' h1 h2 h3 h4
    refine h v' w' ⟨by simpa [Own] using h1, ⟨h2.os, h2.tape, h2.output, Nat.le_trans (by simp) h2.size, fun k hk hr => ?_⟩, ?_, h4⟩
    · rw [h2.block k (by simp; omega) hr]
      exact heap_alloc_old wr _ hk
    · rcases h3 with h3 | h3
      · exact .inl h3
      · exact .inr (World.ownsRow.mono (by simpa [Own] using h3) (by simp))

/-- append of one integer that lies in a block of its own, at a step of a region that draws its order. -/
theorem step_app1 {E : Prop} {K : Act → World → Prop} {w : World} {B : Nat} {v : Value} {l : List Bool} {y : Bool} {g : Nat}
    (hgd : o.guard = none) {s x : Operand}
    (ho : o.op = .call { callee := .builtin .append, args := #[s, x], argTypes := #[77, 77] })
    (hs : a.eval s = v) (hx : a.eval x = .slice (some ⟨g, 0, none⟩) 1 1)
    (hown : Own B w v l) (hlen : l.length < 1000000000) (hB : B ≤ w.heap.size)
    (hblk : w.heap[g]? = some (.cells #[.bool y] 4 (0, 0)))
    (h : ∀ v' w', App B w v l [y] v' w' → K (a.put o.dst v') w') :
    if Region.wanted o (yielded ops a.tmps) = true then Oper.wp Try.prog o a w K Q else E := by
  have hw : Region.wanted o (yielded ops a.tmps) = true := by simp [Region.wanted, hgd]
  rw [if_pos hw]
  obtain ⟨i0, hi, hz0, hz1, hz2⟩ := info_parts info_int
  obtain ⟨v', w', hr, h2, h3, h4, h5⟩ := run_append_g (P := Try.prog) w B 77 o.type 4 i0 (.bool false) 1 1 Try.underlying77 hi hz0 hz1 hz2 rfl (by decide) v l.length (l.map (Value.bool)) hown
    (some ⟨g, 0, none⟩) 1 1 [.bool y] rfl (fun h => by cases h) (by
      intro ad hh j u hj
      cases hh
      exact World.news_of_block hblk j u hj) (by simp [Value.oneCell']) (by omega) (by simp only [maxLen]; omega) hB
  unfold Oper.wp execOp
  simp only [ho, resolve, invoke, builtin, Sem.run_bind, Sem.run_pure, Result.andThen_ok, List.map_toArray, List.map_cons, List.map_nil, hs, hx, hr]
  exact h v' w' ⟨by simpa [Own] using h2, h3, h4.imp id fun h => by simpa [Own] using h, h5⟩
end
theorem set_step (p q : List Bool) (x y : Bool) : ((p ++ x :: q).map (Value.bool)).set p.length (.bool y) = (p ++ y :: q).map (Value.bool) := by
  simp [List.set_append]
theorem Own.form {B : Nat} {w : World} {v : Value} {l : List Bool} (h : Own B w v l) (hn : 0 < l.length) :
    ∃ g cap, v = .slice (some ⟨g, 0, none⟩) l.length cap ∧ ∀ i, i < l.length → w.cell? ⟨g, i, none⟩ = some (.bool (l.getD i false)) ∧ w.frozen? ⟨g, i, none⟩ = false := by
  obtain ⟨g, cap, rfl, _, _⟩ := World.ownsRow.form h hn
  refine ⟨g, cap, rfl, fun i hi => ⟨?_, World.ownsRow.frozenAt h i⟩⟩
  rw [World.ownsRow.cellAt h i (by omega)]
  simp [hi]
theorem Own.cellAt {B : Nat} {w : World} {g c : Nat} {l : List Bool} (h : Own B w (.slice (some ⟨g, 0, none⟩) l.length c) l) (i : Nat) (hi : i < l.length) : w.cell? ⟨g, i, none⟩ = some (.bool (l.getD i false)) := by
  rw [World.ownsRow.cellAt h i (by omega)]
  simp [hi]
theorem Own.set {B : Nat} {w : World} {g cap n : Nat} {p q : List Bool} {x y : Bool} (h : Own B w (.slice (some ⟨g, 0, none⟩) n cap) (p ++ x :: q)) (j : Nat) (hj : j = p.length) :
    Own B (w.setCell ⟨g, j, none⟩ (.bool y)) (.slice (some ⟨g, 0, none⟩) n cap) (p ++ y :: q) ∧ w.grownBy (w.setCell ⟨g, j, none⟩ (.bool y)) (some g) := by
  subst hj
  have hn : n = (p ++ x :: q).length := by
    obtain ⟨a, c, h1, _⟩ := h.len
    simp at h1
    simp [h1]
  subst hn
  obtain ⟨h1, h2⟩ := World.ownsRow.stored h p.length (.bool y)
  rw [set_step] at h1
  refine ⟨?_, h2⟩
  unfold Own
  simpa using h1
theorem drop_eq_cons (l : List Bool) (j : Nat) (h : j < l.length) : l.drop j = l.getD j false :: l.drop (j + 1) := by
  rw [List.drop_eq_getElem_cons h]
  simp [h]
theorem take_succ_getD {l : List Bool} {k : Nat} (h : k < l.length) : l.take (k + 1) = l.take k ++ [l.getD k false] := by
  rw [List.take_succ_eq_append_getElem h]
  simp [h]
theorem replicate_map (n : Nat) : (madeCells (Value.bool false).cells (n * 1)).toList = (List.replicate n false).map (Value.bool) := by
  simp [Value.cells, toList_madeCells_one]
/-- A slice of slices of integers. -/
def IntRows (w : World) (v : Value) (LL : List (List Bool)) : Prop := ∃ vs : List Value, Sl w v vs ∧ vs.length = LL.length ∧ ∀ i, i < vs.length → Ints w (vs.getD i undef) (LL.getD i [])
theorem IntRows.keep {w w' : World} {v : Value} {LL : List (List Bool)} (h : IntRows w v LL) (k : Keeps w w') : IntRows w' v LL := by
  obtain ⟨vs, h1, h2, h3⟩ := h
  exact ⟨vs, h1.keep k, h2, fun i hi => (h3 i hi).keep k⟩
theorem IntRows.form {w : World} {v : Value} {LL : List (List Bool)} (h : IntRows w v LL) :
    ∃ a c, v = .slice a LL.length c ∧ LL.length ≤ 9223372036854775807 ∧
      ∀ i, i < LL.length → ∃ b o u, a = some ⟨b, o, none⟩ ∧ w.cell? ⟨b, o + i, none⟩ = some u ∧ Ints w u (LL.getD i []) := by
  obtain ⟨vs, h1, h2, h3⟩ := h
  obtain ⟨a, c, rfl, h4, h5⟩ := h1.form
  rw [h2] at h4
  refine ⟨a, c, by rw [h2], h4, fun i hi => ?_⟩
  obtain ⟨b, o, rfl, hc⟩ := h5 i (by omega)
  exact ⟨b, o, _, rfl, hc, h3 i (by omega)⟩

theorem info_ints : (Try.prog.info? 77).map (fun i => (i.zero, i.size, i.bytes)) = some (some (.slice none 0 0), 1, 24) := by kernel_rfl



theorem Own.sl {B : Nat} {w : World} {v : Value} {l : List Bool} (h : Own B w v l) : ∃ a n c, v = .slice a n c := by
  obtain ⟨a, c, h1, _⟩ := h.len
  exact ⟨a, _, c, h1⟩

/-- v owns a row of the values vs, each of which owns its row of LL, and the rows are apart. -/
structure MatIn (B : Nat) (w : World) (v : Value) (vs : List Value) (LL : List (List Bool)) : Prop where
  row : w.ownsRow B 77 1 v LL.length vs
  own : ∀ i, i < LL.length → Own B w (vs.getD i undef) (LL.getD i [])
  apart : ∀ i j, i < LL.length → j < LL.length → i ≠ j → Apart (vs.getD i undef) (vs.getD j undef)

section
variable {B : Nat} {w w' : World} {v : Value} {vs : List Value} {LL : List (List Bool)}
theorem MatIn.len (h : MatIn B w v vs LL) : vs.length = LL.length := by simpa using h.row.1
theorem MatIn.keep (h : MatIn B w v vs LL) (k : Keeps w w') : MatIn B w' v vs LL := ⟨owns_keep h.row k, fun i hi => (h.own i hi).keep k, h.apart⟩
theorem MatIn.kept {r : Option Nat} (h : MatIn B w v vs LL) (hg : w.grownBy w' r) (hv : v.ownBlock = none ∨ v.ownBlock ≠ r) (hvs : ∀ i, i < LL.length → (vs.getD i undef).ownBlock = none ∨ (vs.getD i undef).ownBlock ≠ r) : MatIn B w' v vs LL :=
  ⟨World.ownsRow.kept h.row hg hv, fun i hi => World.ownsRow.kept (h.own i hi) hg (hvs i hi), h.apart⟩
theorem MatIn.rows (h : MatIn B w v vs LL) : IntRows w v LL := by
  have hl := h.len
  refine ⟨vs, owns_sl (B := B) (e := 77) (by rw [hl]; exact h.row), hl, fun i hi => (h.own i (by omega)).ints⟩
theorem MatIn.form (h : MatIn B w v vs LL) (hn : 0 < LL.length) :
    ∃ g cap, v = .slice (some ⟨g, 0, none⟩) LL.length cap ∧ ∀ i, i < LL.length → w.cell? ⟨g, i, none⟩ = some (vs.getD i undef) ∧ w.frozen? ⟨g, i, none⟩ = false := by
  obtain ⟨g, cap, rfl, _, _⟩ := World.ownsRow.form h.row hn
  refine ⟨g, cap, rfl, fun i hi => ⟨?_, World.ownsRow.frozenAt h.row i⟩⟩
  rw [World.ownsRow.cellAt h.row i (by omega)]
  have := h.len
  simp [show i < vs.length by omega]
end




/-- An append to row i, and the new row's value stored at its place. -/
theorem MatIn.app {B : Nat} {w W w' : World} {g n cap : Nat} {vs : List Value} {LL : List (List Bool)} {i : Nat} {ys : List Bool} {v' : Value} (h : MatIn B w (.slice (some ⟨g, 0, none⟩) n cap) vs LL) (hi : i < LL.length) (k : Keeps w W)
    (hA : App B W (vs.getD i undef) (LL.getD i []) ys v' w') :
    MatIn B (w'.setCell ⟨g, i, none⟩ v') (.slice (some ⟨g, 0, none⟩) n cap) (vs.set i v') (LL.set i (LL.getD i [] ++ ys)) := by
  have hl := h.len
  have hW := h.keep k
  have n1 : (77 : TypeId) ≠ 4 := by decide
  have hr1 : w'.ownsRow B 77 1 (.slice (some ⟨g, 0, none⟩) n cap) LL.length vs := World.ownsRow.kept hW.row hA.grown (owns_apart_ty n1 hW.row (hW.own i hi))
  obtain ⟨gg, cc, he, _⟩ := World.ownsRow.form hr1 (by omega)
  simp only [Value.slice.injEq, Option.some.injEq, Addr.mk.injEq, and_true, true_and] at he
  obtain ⟨rfl, hn, rfl⟩ := he
  subst hn
  obtain ⟨h1, h2⟩ := World.ownsRow.stored hr1 i v'
  have far : ∀ {u : Value} {l : List Bool}, Own B w' u l → Own B (w'.setCell ⟨g, i, none⟩ v') u l := fun {u l} hu =>
    World.ownsRow.kept hu h2 (owns_apart_ty n1.symm hu hr1)
  have ap : ∀ j, j < LL.length → j ≠ i → Apart v' (vs.getD j undef) := by
    intro j hj hji
    rcases hA.lies with c | c
    · have := h.apart i j hi hj (Ne.symm hji)
      unfold Apart at *; rw [c]; exact this
    · exact (Own.apart_old (h.own j hj) c k.size).symm
  refine ⟨by simpa using h1, fun j hj => ?_, fun j k' hj hk hne => ?_⟩
  · simp only [List.length_set] at hj
    by_cases hji : j = i
    · subst hji
      rw [getD_set_same _ _ _ _ (by omega), getD_set_same _ _ _ _ hi]
      exact far hA.own
    · rw [getD_set_ne _ _ _ _ _ hji, getD_set_ne _ _ _ _ _ hji]
      exact far ((hW.own j hj).kept hA.grown (h.apart j i hj hi hji))
  · simp only [List.length_set] at hj hk
    by_cases hji : j = i
    · subst hji
      rw [getD_set_same _ _ _ _ (by omega), getD_set_ne _ _ _ _ _ (Ne.symm hne)]
      exact ap k' hk (Ne.symm hne)
    · rw [getD_set_ne _ _ _ _ _ hji]
      by_cases hki : k' = i
      · subst hki
        rw [getD_set_same _ _ _ _ (by omega)]
        exact (ap j hj hji).symm
      · rw [getD_set_ne _ _ _ _ _ hki]
        exact h.apart j k' hj hk hne

/-- A made matrix of empty rows. -/
theorem MatIn.made {B : Nat} {w : World} {v : Value} {n : Nat} (h : w.ownsRow B 77 1 v n (List.replicate n (.slice none 0 0))) : MatIn B w v (List.replicate n (.slice none 0 0)) (List.replicate n []) := by
  refine ⟨by simpa using h, fun i hi => ?_, fun i j hi hj _ => ?_⟩
  · simp only [List.length_replicate] at hi
    simp [List.getD_eq_getElem?_getD, List.getElem?_replicate, hi]
    exact Own.nil _ _
  · simp only [List.length_replicate] at hi
    left
    simp [List.getD_eq_getElem?_getD, List.getElem?_replicate, hi, Value.ownBlock]

theorem MatIn.set_ {B : Nat} {w : World} {g n cap : Nat} {vs : List Value} {LL : List (List Bool)} {i : Nat} {l : List Bool} {r : Value} (h : MatIn B w (.slice (some ⟨g, 0, none⟩) n cap) vs LL) (hi : i < LL.length)
    (hr : Own B w r l) (ap : ∀ j, j < LL.length → j ≠ i → Apart r (vs.getD j undef)) :
    MatIn B (w.setCell ⟨g, i, none⟩ r) (.slice (some ⟨g, 0, none⟩) n cap) (vs.set i r) (LL.set i l) := by
  have hl := h.len
  have n1 : (77 : TypeId) ≠ 4 := by decide
  have hr1 := h.row
  obtain ⟨gg, cc, he, _⟩ := World.ownsRow.form hr1 (by omega)
  simp only [Value.slice.injEq, Option.some.injEq, Addr.mk.injEq, and_true, true_and] at he
  obtain ⟨rfl, hn, rfl⟩ := he
  subst hn
  obtain ⟨h1, h2⟩ := World.ownsRow.stored hr1 i r
  have far : ∀ {u : Value} {l : List Bool}, Own B w u l → Own B (w.setCell ⟨g, i, none⟩ r) u l := fun {u l} hu =>
    World.ownsRow.kept hu h2 (owns_apart_ty n1.symm hu hr1)
  refine ⟨by simpa using h1, fun j hj => ?_, fun j k' hj hk hne => ?_⟩
  · simp only [List.length_set] at hj
    by_cases hji : j = i
    · subst hji
      rw [getD_set_same _ _ _ _ (by omega), getD_set_same _ _ _ _ hi]
      exact far hr
    · rw [getD_set_ne _ _ _ _ _ hji, getD_set_ne _ _ _ _ _ hji]
      exact far (h.own j hj)
  · simp only [List.length_set] at hj hk
    by_cases hji : j = i
    · subst hji
      rw [getD_set_same _ _ _ _ (by omega), getD_set_ne _ _ _ _ _ (Ne.symm hne)]
      exact ap k' hk (Ne.symm hne)
    · rw [getD_set_ne _ _ _ _ _ hji]
      by_cases hki : k' = i
      · subst hki
        rw [getD_set_same _ _ _ _ (by omega)]
        exact (ap j hj hji).symm
      · rw [getD_set_ne _ _ _ _ _ hki]
        exact h.apart j k' hj hk hne
theorem MatIn.wrote {B : Nat} {w w' : World} {v : Value} {vs : List Value} {LL : List (List Bool)} {i : Nat} {l : List Bool} (h : MatIn B w v vs LL) (hi : i < LL.length) (hg : w.grownBy w' (vs.getD i undef).ownBlock) (hr : Own B w' (vs.getD i undef) l) :
    MatIn B w' v vs (LL.set i l) := by
  have n1 : (77 : TypeId) ≠ 4 := by decide
  refine ⟨by rw [List.length_set]; exact World.ownsRow.kept h.row hg (owns_apart_ty n1 h.row (h.own i hi)), fun j hj => ?_, fun j k hj hk hne => h.apart j k (by simpa using hj) (by simpa using hk) hne⟩
  simp only [List.length_set] at hj
  by_cases hji : j = i
  · subst hji
    rw [getD_set_same _ _ _ _ hi]
    exact hr
  · rw [getD_set_ne _ _ _ _ _ hji]
    exact (h.own j hj).kept hg (h.apart j i hj hi hji)
theorem Own.cellAt' {B : Nat} {w : World} {g c n : Nat} {l : List Bool} (h : Own B w (.slice (some ⟨g, 0, none⟩) n c) l) (i : Nat) (hi : i < l.length) : w.cell? ⟨g, i, none⟩ = some (.bool (l.getD i false)) := by
  obtain ⟨g', c', he, hf⟩ := h.form (by omega)
  simp only [Value.slice.injEq, Option.some.injEq, Addr.mk.injEq] at he
  obtain ⟨⟨rfl, -⟩, -, -⟩ := he
  exact (hf i hi).1
theorem Own.frozen' {B : Nat} {w : World} {g c n : Nat} {l : List Bool} (h : Own B w (.slice (some ⟨g, 0, none⟩) n c) l) (i : Nat) : w.frozen? ⟨g, i, none⟩ = false := by
  obtain ⟨a, c', he, _⟩ := h.len
  simp only [Value.slice.injEq] at he
  obtain ⟨-, rfl, -⟩ := he
  exact World.ownsRow.frozenAt h i
theorem Own.setAt {B : Nat} {w : World} {g cap n : Nat} {l : List Bool} {y : Bool} (h : Own B w (.slice (some ⟨g, 0, none⟩) n cap) l) (i : Nat) (hi : i < l.length) :
    Own B (w.setCell ⟨g, i, none⟩ (.bool y)) (.slice (some ⟨g, 0, none⟩) n cap) (l.set i y) ∧ w.grownBy (w.setCell ⟨g, i, none⟩ (.bool y)) (some g) := by
  have e : l = l.take i ++ l.getD i false :: l.drop (i + 1) := by rw [← drop_eq_cons l i hi, List.take_append_drop]
  have e2 : l.set i y = l.take i ++ y :: l.drop (i + 1) := by rw [List.set_eq_take_append_cons_drop, if_pos hi]
  rw [e] at h
  rw [e2]
  exact Own.set h i (by simp; omega)
theorem made_ints {B n : Nat} {W w1 : World} {v : Value} (hown : w1.ownsRow B 4 1 v n (madeCells (Value.bool false).cells (n * 1)).toList) (hgr : W.grownBy w1 none) : Own B w1 v (List.replicate n false) ∧ Keeps W w1 := by
  rw [replicate_map] at hown
  refine ⟨by unfold Own; simpa using hown, (Below.refl _ _).grown hgr (Nat.le_refl _) (by simp)⟩
/-- What an append of a row leaves. -/
structure Push (B : Nat) (W : World) (v : Value) (vs : List Value) (LL : List (List Bool)) (r : Value) (l : List Bool) (v' : Value) (w' : World) : Prop where
  mat : MatIn B w' v' (vs ++ [r]) (LL ++ [l])
  grown : W.grownBy w' v.ownBlock
  lies : v'.ownBlock = v.ownBlock ∨ ∀ k, v'.ownBlock = some k → W.heap.size ≤ k
  lo : ∀ k, v.ownBlock = some k → B ≤ k
theorem Push.keeps {B : Nat} {W w0 w' : World} {v v' r : Value} {vs : List Value} {LL : List (List Bool)} {l : List Bool} (h : Push B W v vs LL r l v' w') (k : Keeps w0 W) (hB : w0.heap.size ≤ B) : Keeps w0 w' :=
  k.grown h.grown k.size fun j hj => Nat.le_trans hB (h.lo j hj)
theorem ll_getD_append (LL : List (List Bool)) (l : List Bool) (j : Nat) (hj : j < LL.length + 1) : (LL ++ [l]).getD j [] = if j < LL.length then LL.getD j [] else l := by
  by_cases h : j < LL.length
  · simp [h, List.getElem?_append]
  · have h2 : j = LL.length := by omega
    subst h2; simp
theorem MatIn.pushed {B : Nat} {W w' : World} {v v' r : Value} {vs : List Value} {LL : List (List Bool)} {l : List Bool} (h : MatIn B W v vs LL) (hr : Own B W r l) (ap : ∀ j, j < LL.length → Apart r (vs.getD j undef))
    (hg : W.grownBy w' v.ownBlock) (hrow : w'.ownsRow B 77 1 v' (LL.length + 1) (vs ++ [r])) : MatIn B w' v' (vs ++ [r]) (LL ++ [l]) := by
  have n1 : (77 : TypeId) ≠ 4 := by decide
  have hl := h.len
  have far : ∀ {u : Value} {m : List Bool}, Own B W u m → Own B w' u m := fun {u m} hu => World.ownsRow.kept hu hg (owns_apart_ty n1.symm hu h.row)
  refine ⟨by simpa using hrow, fun j hj => ?_, fun j k hj hk hne => ?_⟩
  · simp only [List.length_append, List.length_cons, List.length_nil] at hj
    rw [mat_getD_append, ll_getD_append _ _ _ (by omega), hl]
    by_cases hj2 : j < LL.length
    · rw [if_pos hj2, if_pos hj2]; exact far (h.own j hj2)
    · rw [if_neg hj2, if_neg hj2, if_pos (by omega)]; exact far hr
  · simp only [List.length_append, List.length_cons, List.length_nil] at hj hk
    rw [mat_getD_append, mat_getD_append, hl]
    by_cases hj2 : j < LL.length
    · rw [if_pos hj2]
      by_cases hk2 : k < LL.length
      · rw [if_pos hk2]; exact h.apart j k hj2 hk2 hne
      · rw [if_neg hk2, if_pos (by omega)]; exact (ap j hj2).symm
    · rw [if_neg hj2, if_pos (by omega)]
      by_cases hk2 : k < LL.length
      · rw [if_pos hk2]; exact ap k hk2
      · omega

section
variable {ops : Array Oper} {rest : List Oper} {o : Oper} {a : Act} {Q : Exit → Act → World → Prop}
theorem run_push {wr : World} {B : Nat} {v r : Value} {vs : List Value} {LL : List (List Bool)} {l : List Bool} {g : Nat} (h : MatIn B wr v vs LL) (hr : Own B wr r l) (ap : ∀ j, j < LL.length → Apart r (vs.getD j undef)) (hlen : LL.length < 1000000000) (hB : B ≤ wr.heap.size)
    (hblk : wr.heap[g]? = some (.cells #[r] 77 (0, 0))) (ty : TypeId) :
    ∃ v' w', (Builtin.append_ #[75, 75] ty #[v, .slice (some ⟨g, 0, none⟩) 1 1]).run Try.prog wr = .ok v' w' ∧ Push B wr v vs LL r l v' w' := by
  obtain ⟨i0, hi, hz0, hz1, hz2⟩ := info_parts info_ints
  obtain ⟨v', w', e, h1, h2, h3, h4⟩ := run_append_g (P := Try.prog) wr B 75 ty 77 i0 (.slice none 0 0) 1 24 Try.underlying75 hi hz0 hz1 hz2 rfl (by decide) v LL.length vs h.row
    (some ⟨g, 0, none⟩) 1 1 [r] rfl (fun h => by cases h) (by
      intro ad hh j u hj
      cases hh
      exact World.news_of_block hblk j u hj) (by
      intro u hu
      simp at hu; subst hu
      obtain ⟨a, n, c, rfl⟩ := hr.sl
      rfl) (by omega) (by simp only [maxLen]; omega) hB
  exact ⟨v', w', e, h.pushed hr ap h2 h1, h2, h3.imp id fun hh k hk => (World.ownsRow.lt hh k hk).1, fun k hk => (World.ownsRow.lt h.row k hk).1⟩
theorem wpL_push {wr : World} {B : Nat} {v r : Value} {vs : List Value} {LL : List (List Bool)} {l : List Bool} {g : Nat} (h : MatIn B wr v vs LL) (hr : Own B wr r l) (ap : ∀ j, j < LL.length → Apart r (vs.getD j undef)) (hlen : LL.length < 1000000000) (hB : B ≤ wr.heap.size)
    (hblk : wr.heap[g]? = some (.cells #[r] 77 (0, 0)))
    (hgd : o.guard = none) {s x : Operand}
    (ho : o.op = .call { callee := .builtin .append, args := #[s, x], argTypes := #[75, 75] })
    (hs : a.eval s = v) (hx : a.eval x = .slice (some ⟨g, 0, none⟩) 1 1)
    (hQ : ∀ v' w', Push B wr v vs LL r l v' w' → wpList Try.prog ops Q rest (a.put o.dst v') w') :
    wpList Try.prog ops Q (o :: rest) a wr := by
  refine wpList_plain hgd fun _ hK => ?_
  obtain ⟨v', w', hr, hA⟩ := run_push h hr ap hlen hB hblk o.type
  unfold Oper.wp execOp
  simp only [ho, resolve, invoke, builtin, Sem.run_bind, Sem.run_pure, Result.andThen_ok, List.map_toArray, List.map_cons, List.map_nil, hs, hx, hr]
  exact hK _ _ (hQ v' w' hA)
theorem step_push {E : Prop} {K : Act → World → Prop} {wr : World} {B : Nat} {v r : Value} {vs : List Value} {LL : List (List Bool)} {l : List Bool} {g : Nat}
    (hgd : o.guard = none) {s x : Operand}
    (ho : o.op = .call { callee := .builtin .append, args := #[s, x], argTypes := #[75, 75] })
    (hs : a.eval s = v) (hx : a.eval x = .slice (some ⟨g, 0, none⟩) 1 1)
    (h : MatIn B wr v vs LL) (hr : Own B wr r l) (ap : ∀ j, j < LL.length → Apart r (vs.getD j undef)) (hlen : LL.length < 1000000000) (hB : B ≤ wr.heap.size)
    (hblk : wr.heap[g]? = some (.cells #[r] 77 (0, 0)))
    (hQ : ∀ v' w', Push B wr v vs LL r l v' w' → K (a.put o.dst v') w') :
    if Region.wanted o (yielded ops a.tmps) = true then Oper.wp Try.prog o a wr K Q else E := by
  have hw : Region.wanted o (yielded ops a.tmps) = true := by simp [Region.wanted, hgd]
  rw [if_pos hw]
  obtain ⟨v', w', hr, hA⟩ := run_push h hr ap hlen hB hblk o.type
  unfold Oper.wp execOp
  simp only [ho, resolve, invoke, builtin, Sem.run_bind, Sem.run_pure, Result.andThen_ok, List.map_toArray, List.map_cons, List.map_nil, hs, hx, hr]
  exact hQ v' w' hA
end
theorem MatIn.nil (B : Nat) (w : World) : MatIn B w (.slice none 0 0) [] [] := ⟨World.ownsRow_nil w B 77 1, fun i hi => by simp at hi, fun i j hi => by simp at hi⟩
theorem MatIn.shape {B : Nat} {w : World} {v : Value} {vs : List Value} {LL : List (List Bool)} (h : MatIn B w v vs LL) : ∃ a c, v = .slice a LL.length c ∧ LL.length ≤ 9223372036854775807 := by
  obtain ⟨a, c, h1, h2, _⟩ := h.rows.form
  exact ⟨a, c, h1, h2⟩
/-- A fresh row is apart from all rows that were there. -/
theorem MatIn.fresh {B C : Nat} {w w1 : World} {v r : Value} {vs : List Value} {LL : List (List Bool)} {l : List Bool} (h : MatIn B w v vs LL) (hr : Own C w1 r l) (hC : w.heap.size ≤ C) : ∀ j, j < LL.length → Apart r (vs.getD j undef) :=
  fun j hj => (Own.apart_old (h.own j hj) hr hC).symm
theorem MatIn.lower {B B' : Nat} {w : World} {v : Value} {vs : List Value} {LL : List (List Bool)} (h : MatIn B w v vs LL) (hB : B' ≤ B) : MatIn B' w v vs LL :=
  ⟨World.ownsRow.mono h.row hB, fun i hi => (h.own i hi).mono hB, h.apart⟩

end Bo
end Go.Proofs.Ytcjmpodljhcbhaa
