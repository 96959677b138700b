/- The memory laws at this translation's types: an append to an owned row of integers, a made row. -/
import Derived.Test.YtjmhjobfiemmnaaBase
import Derived.Test.YtjmhjobfiemmnaaProg
namespace Go.Proofs.Ytjmhjobfiemmnaa
open Go.RowKit
set_option linter.unusedSimpArgs false
set_option linter.unusedVariables false

theorem info_int : (Try.prog.info? 3).map (fun i => (i.zero, i.size, i.bytes)) = some (some (.int .i64 0), 1, 8) := by kernel_rfl

/-- An owned row of integers. -/
def Own (B : Nat) (w : World) (v : Value) (l : List Int) : Prop := w.ownsRow B 3 1 v l.length (l.map (Value.int .i64))

section
variable {B : Nat} {w w' : World} {v : Value} {l : List Int}
theorem Own.keep (h : Own B w v l) (k : Keeps w w') : Own B w' v l := owns_keep h k
theorem Own.mono {B' : Nat} (h : Own B w v l) (hB : B' ≤ B) : Own B' w v l := World.ownsRow.mono h hB
theorem Own.ints (h : Own B w v l) : Ints w v l := owns_sl (e := 3) (B := B) (by simpa [Own] using h)
theorem Own.lt (h : Own B w v l) : ∀ k, v.ownBlock = some k → B ≤ k ∧ k < w.heap.size := World.ownsRow.lt h
theorem Own.nil (B : Nat) (w : World) : Own B w (.slice none 0 0) [] := World.ownsRow_nil w B 3 1
theorem Own.alloc (h : Own B w v l) (o : Obj) : Own B (w.alloc o) v l := World.ownsRow.alloc h o
theorem Own.kept {u : Value} (h : Own B w v l) (hg : w.grownBy w' u.ownBlock) (ha : Apart v u) : Own B w' v l := World.ownsRow.kept h hg ha
/-- What lies apart because it is older. -/
theorem Own.apart_old {C : Nat} {u : Value} {m : List Int} {w0 : World} (h : Own B w0 v l) (k : Own C w u m) (hC : w0.heap.size ≤ C) : Apart v u := by
  unfold Apart
  by_cases hv : v.ownBlock = none
  · exact .inl hv
  · obtain ⟨g, hg⟩ := Option.ne_none_iff_exists'.1 hv
    refine .inr fun e => ?_
    have h1 := (h.lt g hg).2
    have h2 := (k.lt g (e ▸ hg)).1
    omega
/-- A new slice literal of one element. -/
theorem Own.one (B : Nat) (w : World) (x : Int) (hB : B ≤ w.heap.size) : Own B (w.alloc (.cells #[.int .i64 x] 3)) (.slice (some ⟨w.heap.size, 0, none⟩) 1 1) [x] :=
  World.ownsRow_lit (e := 3) (size := 1) w #[.int .i64 x] 1 hB (by simp [maxLen]) rfl
theorem Own.len (h : Own B w v l) : ∃ a c, v = .slice a l.length c ∧ l.length ≤ 9223372036854775807 := by
  obtain ⟨a, c, h1, h2, _⟩ := h.ints.form
  exact ⟨a, c, h1, h2⟩
end

theorem Own.drew1 {B : Nat} {w : World} {v : Value} {l : List Int} (h : Own B w v l) : Own B w.drew v l := h
theorem blk_drew {w : World} {g : Nat} {x : Option Obj} (h : w.heap[g]? = x) : w.drew.heap[g]? = x := h
theorem blk_new {w : World} {g : Nat} {o : Obj} (h : g = w.heap.size) : (w.alloc o).heap[g]? = some o := by subst h; exact heap_alloc_new w o
theorem blk_old {w : World} {g : Nat} {o x : Obj} (h : w.heap[g]? = some x) : (w.alloc o).heap[g]? = some x := by
  rw [heap_alloc_old w o (Array.getElem?_eq_some_iff.1 h).1]; exact h
theorem blk_grown {w w' : World} {g : Nat} {x : Obj} {r : Option Nat} (h : w.heap[g]? = some x) (hg : w.grownBy w' r) (hne : some g ≠ r) : w'.heap[g]? = some x := by
  rw [hg.block g (Array.getElem?_eq_some_iff.1 h).1 hne]; exact h

/-- What an append leaves: the new row, what has changed, where it lies, and that the old value reads as before. -/
structure App (B : Nat) (W : World) (v : Value) (l ys : List Int) (v' : Value) (w' : World) : Prop where
  own : Own B w' v' (l ++ ys)
  grown : W.grownBy w' v.ownBlock
  lies : v'.ownBlock = v.ownBlock ∨ Own W.heap.size w' v' (l ++ ys)
  old : Own B w' v l

theorem App.below {B C : Nat} {W w0 w' : World} {v v' : Value} {l ys : List Int} (h : App B W v l ys v' w') (k : Below C w0 W) (hC : C ≤ W.heap.size) (hB : C ≤ B) : Below C w0 w' :=
  k.grown h.grown hC fun j hj => Nat.le_trans hB (h.old.lt j hj).1
theorem App.keeps {B : Nat} {W w0 w' : World} {v v' : Value} {l ys : List Int} (h : App B W v l ys v' w') (k : Keeps w0 W) (hB : w0.heap.size ≤ B) : Keeps w0 w' := h.below k k.size hB
/-- Another owned row stays. -/
theorem App.keep {B C : Nat} {W w' : World} {v v' u : Value} {l ys m : List Int} (h : App B W v l ys v' w') (o : Own C W u m) (ha : Apart u v) : Own C w' u m := o.kept h.grown ha

/-- Two appends to two rows, one behind the other. -/
theorem two_apps {B : Nat} {W0 W w1 W2 w2 : World} {u1 u2 v1 v2 : Value} {m1 m2 : List Int} (ha : Apart u1 u2) (o1 : Own B W0 u1 m1) (o2 : Own B W0 u2 m2) (k0 : W0.heap.size ≤ W.heap.size)
    {y1 y2 : List Int} (h1 : App B W u1 m1 y1 v1 w1) (k : Keeps w1 W2) (h2 : App B W2 u2 m2 y2 v2 w2) :
    Own B w2 v1 (m1 ++ y1) ∧ Own B w2 v2 (m2 ++ y2) ∧ Apart v1 v2 := by
  have s1 := h1.grown.size
  have s2 := k.size
  have a1 : Apart v1 u2 := by
    rcases h1.lies with c1 | c1
    · unfold Apart at *; rw [c1]; exact ha
    · exact (Own.apart_old o2 c1 k0).symm
  refine ⟨(h1.own.keep k).kept h2.grown a1, h2.own, ?_⟩
  rcases h2.lies with c2 | c2
  · unfold Apart at *; rw [c2]; exact a1
  · exact Own.apart_old h1.own c2 s2

section
variable {ops : Array Oper} {rest : List Oper} {o : Oper} {a : Act} {Q : Exit → Act → World → Prop}

/-- append of one integer, which has just been laid in a new block. -/
theorem wpL_app1 {wr : World} {B : Nat} {v : Value} {l : List Int} (hown : Own B wr v l) (hlen : l.length < 1000000000) (hB : B ≤ wr.heap.size) {y : Int}
    (hgd : o.guard = none) {s x : Operand}
    (ho : o.op = .call { callee := .builtin .append, args := #[s, x], argTypes := #[25, 25] })
    (hs : a.eval s = v) (hx : a.eval x = .slice (some ⟨wr.heap.size, 0, none⟩) 1 1)
    (h : ∀ v' w', App B wr v l [y] v' w' → wpList Try.prog ops Q rest (a.put o.dst v') w') :
    wpList Try.prog ops Q (o :: rest) a (wr.alloc (.cells #[.int .i64 y] 3)) := by
  obtain ⟨i0, hi, hz0, hz1, hz2⟩ := info_parts info_int
  refine wpL_append_g _ hgd s x 25 ho B 3 i0 (.int .i64 0) 1 8 Try.underlying25 hi hz0 hz1 hz2 rfl (by decide) v l.length (l.map (Value.int .i64)) hs (World.ownsRow.alloc hown _)
    (some ⟨wr.heap.size, 0, none⟩) 1 1 [.int .i64 y] hx rfl (fun h => by cases h) ?_ (by simp [Value.oneCell']) (by omega) (by simp only [maxLen]; omega) (by simp; omega) ?_
  · intro ad hh j u hj
    cases hh
    match j, hj with
    | 0, hj => simp at hj; subst hj; show (wr.alloc (.cells #[.int .i64 y] 3)).cell? ⟨wr.heap.size, 0, none⟩ = _; rw [World.cell?_alloc_at _ _ _ _ rfl]; rfl
    | j + 1, hj => simp at hj
  · intro v' w' h1 h2 h3 h4
    refine h v' w' ⟨by simpa [Own] using h1, ⟨h2.os, h2.tape, h2.output, Nat.le_trans (by simp) h2.size, fun k hk hr => ?_⟩, ?_, h4⟩
    · rw [h2.block k (by simp; omega) hr]
      exact heap_alloc_old wr _ hk
    · rcases h3 with h3 | h3
      · exact .inl h3
      · exact .inr (World.ownsRow.mono (by simpa [Own] using h3) (by simp))

/-- append of one integer that lies in a block of its own, at a step of a region that draws its order. -/
theorem step_app1 {E : Prop} {K : Act → World → Prop} {w : World} {B : Nat} {v : Value} {l : List Int} {y : Int} {g : Nat}
    (hgd : o.guard = none) {s x : Operand}
    (ho : o.op = .call { callee := .builtin .append, args := #[s, x], argTypes := #[25, 25] })
    (hs : a.eval s = v) (hx : a.eval x = .slice (some ⟨g, 0, none⟩) 1 1)
    (hown : Own B w v l) (hlen : l.length < 1000000000) (hB : B ≤ w.heap.size)
    (hblk : w.heap[g]? = some (.cells #[.int .i64 y] 3 (0, 0)))
    (h : ∀ v' w', App B w v l [y] v' w' → K (a.put o.dst v') w') :
    if Region.wanted o (yielded ops a.tmps) = true then Oper.wp Try.prog o a w K Q else E := by
  have hw : Region.wanted o (yielded ops a.tmps) = true := by simp [Region.wanted, hgd]
  rw [if_pos hw]
  obtain ⟨i0, hi, hz0, hz1, hz2⟩ := info_parts info_int
  obtain ⟨v', w', hr, h2, h3, h4, h5⟩ := run_append_g (P := Try.prog) w B 25 o.type 3 i0 (.int .i64 0) 1 8 Try.underlying25 hi hz0 hz1 hz2 rfl (by decide) v l.length (l.map (Value.int .i64)) hown
    (some ⟨g, 0, none⟩) 1 1 [.int .i64 y] rfl (fun h => by cases h) (by
      intro ad hh j u hj
      cases hh
      exact World.news_of_block hblk j u hj) (by simp [Value.oneCell']) (by omega) (by simp only [maxLen]; omega) hB
  unfold Oper.wp execOp
  simp only [ho, resolve, invoke, builtin, Sem.run_bind, Sem.run_pure, Result.andThen_ok, List.map_toArray, List.map_cons, List.map_nil, hs, hx, hr]
  exact h v' w' ⟨by simpa [Own] using h2, h3, h4.imp id fun h => by simpa [Own] using h, h5⟩
end
end Go.Proofs.Ytjmhjobfiemmnaa
