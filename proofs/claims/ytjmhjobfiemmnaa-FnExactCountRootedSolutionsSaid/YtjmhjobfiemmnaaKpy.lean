/- Lists of rows that are only read, but for one that is one's own. -/
import Derived.Test.YtjmhjobfiemmnaaKg
import Derived.Test.YtjmhjobfiemmnaaKs
import Derived.Test.YtjmhjobfiemmnaaKc
import Derived.Test.YtjmhjobfiemmnaaKh
namespace Go.Proofs.Ytjmhjobfiemmnaa
set_option linter.unusedSimpArgs false
set_option linter.unusedVariables false

open Go.RowKit
structure Pv where
  v : Value
  x : List Int
instance : Inhabited Pv := ⟨⟨.slice none 0 0, []⟩⟩
instance : Rp Pv where
  sz := 1
  pos := by decide
  rd o w cs p := cs = [p.v] ∧ p.v.oneCell' = true ∧ RdL o w p.v p.x
  len h := by rw [h.1]; rfl
  one h := by obtain ⟨rfl, h, _⟩ := h; intro c hc; simp at hc; subst hc; exact h
  mv h hs hb := ⟨h.1, h.2.1, h.2.2.mv hs hb⟩
theorem rd_pv {o : Tg} {w : World} {p : Pv} (h : RdL o w p.v p.x) : Rp.rd o w [p.v] p := ⟨rfl, h.one1, h⟩
theorem Stp.tr9 {o o1 o2 : Tg} {w w1 w2 : World} (h : Stp 10 o w o1 w1) (hO : ∀ b, b < w.heap.size → o b ≠ 999) (k : Stp 999 o1 w1 o2 w2) : Stp 10 o w o2 w2 :=
  ⟨k.os.trans h.os, k.tape.trans h.tape, k.output.trans h.output, Nat.le_trans h.size k.size,
    fun b hb hn => (k.block b (Nat.lt_of_lt_of_le hb h.size) (by rw [h.own b hb]; exact hO b hb)).trans (h.block b hb hn),
    fun b hb => (k.own b (Nat.lt_of_lt_of_le hb h.size)).trans (h.own b hb)⟩
def subv (v : Value) (k : Nat) : Value := match v with
  | .slice a n c => sliced a k n c 1
  | v => v
def prev (v : Value) (k : Nat) : Value := match v with
  | .slice a n c => sliced a 0 k c 1
  | v => v
section
variable {P : Program} {n : Nat} {l : List (Nat × Value)} {w w0 : World} {o oo : Tg} {d : Nat} {ty : TypeId} {ps : String} {af : Array Edge} {g : Option (Nat × Bool)} {R : Value → World → Prop} {B k : Nat} {e : TypeId} {v : Value} {xs ys : List Pv} {lo i : Int} {u : Pv}
theorem Addr.add_zero' (g k : Nat) : (⟨g, 0, none⟩ : Addr).add k = ⟨g, 0 + k, none⟩ := by
  unfold Addr.add
  split
  · rename_i h; rw [h]
  · rfl
theorem wf_cutSub {t e' : TypeId} {x : Operand} {lo' : Operand} (h : Ow B e k o w v xs) (hc : cut xs lo xs.length = some ys) (hx : ev l x = some v) (hlo : ev l lo' = some (.int .i64 lo)) (ht : P.underlying t = some (.slice e')) (hs : ∀ w, (sizeOf e').run P w = .ok 1 w)
    (hR : R (subv v lo.toNat) w) : op1 P ⟨some d, .slice t x (some lo') none none, ty, ps, af, g⟩ n l w R := by
  obtain ⟨a, c, rfl⟩ := h.form
  obtain ⟨h1, h2, h3, h4, h5, h6⟩ := cut_rd h.z hc
  refine op1_val (fun ρ hρ => ?_) hR
  have := run_cut (P := P) (w := w) (a := a) (n := xs.length) (c := c) (lo := some (.int .i64 lo)) (hi := none) (lo' := lo) (hi' := xs.length) ht hs (.inl rfl) (.inr ⟨rfl, rfl⟩) h3 h4 h5
  simp only [execOp, hρ x _ hx, hρ lo' _ hlo, Sem.run_bind, this, Result.andThen_ok, Option.map_none, Option.map_some]
  rfl
theorem ex_lenSub {d : Option Nat} {t e' : TypeId} {x : Operand} (h : Ow B e k o w v xs) (hc : cut xs lo xs.length = some ys) (hx : ev l x = some (subv v lo.toNat)) (ht : P.underlying t = some (.slice e')) :
    ∀ ρ, Agr ρ l → (execOp ρ ⟨d, .call { callee := .builtin .len, args := #[x], argTypes := #[t] }, ty, ps, af, g⟩).run P w = .ok (.value (.int .i64 ((xs.length : Int) - lo))) w := by
  obtain ⟨a, c, rfl⟩ := h.form
  obtain ⟨g1, g2, g3, rfl⟩ := cut_some hc
  have := ex_len (P := P) (w := w) (l := l) (d := d) (ty := ty) (ps := ps) (af := af) (g := g) (x := x) (t := t) (e := e') hx ht
  rw [show ((xs.length : Int) - lo) = ((xs.length - lo.toNat : Nat) : Int) by omega]
  exact this
theorem sub_addr (h : Ow B e k o w v xs) (hc : cut xs lo xs.length = some ys) (hi : ix xs (lo + i) = some u) (h0 : 0 ≤ i) :
    ∃ b cap, v = .slice (some ⟨b, 0, none⟩) xs.length cap ∧ subv v lo.toNat = .slice (some ⟨b, 0 + lo.toNat, none⟩) (xs.length - lo.toNat) (cap - lo.toNat) ∧ Cells w b (0 + (lo + i).toNat) [u.v] ∧ RdL o w u.v u.x ∧ (lo + i).toNat = lo.toNat + i.toNat ∧ i < ((xs.length - lo.toNat : Nat) : Int) := by
  obtain ⟨a, c, rfl⟩ := h.form
  obtain ⟨g1, g2, g3, rfl⟩ := cut_some hc
  obtain ⟨i0, i1, i2⟩ := ix_some hi
  obtain ⟨b, cs, rfl, _, hcl, hrd, _⟩ := h.at i2
  have hcap : xs.length ≤ c := by
    obtain ⟨css, h1, h2, h3, h4⟩ := h
    rcases h2.2 with ⟨e, _⟩ | ⟨g, cap, cur, e, _, _, hh, _⟩
    · cases e
    · cases e; exact hh
  refine ⟨b, c, rfl, ?_, ?_, hrd.2.2, by omega, by omega⟩
  · unfold subv sliced
    simp only
    rw [if_neg (by omega), Option.map_some, Nat.mul_one, Addr.add_zero']
  · obtain ⟨e1, _⟩ := hrd
    subst e1
    simpa [Rp.sz] using hcl
theorem wf_atSub {x y : Operand} {t e' : TypeId} (h : Ow B e k o w v xs) (hc : cut xs lo xs.length = some ys) (hi : ix xs (lo + i) = some u) (h0 : 0 ≤ i) (hx : ev l x = some (subv v lo.toNat)) (hy : ev l y = some (.int .i64 i))
    (ht : P.underlying t = some (.slice e')) (hs : ∀ w, (sizeOf e').run P w = .ok 1 w)
    (hR : ∀ b off cs, Cells w b off cs → Rp.rd o w cs u → R (.pointer (some ⟨b, off, none⟩)) w) : op1 P ⟨some d, .indexAddr t x y, ty, ps, af, g⟩ n l w R := by
  obtain ⟨b, cap, rfl, e1, e2, e3, e4, e5⟩ := sub_addr h hc hi h0
  rw [e1] at hx
  refine op1_val (ex_index hx hy h0 e5 ht hs) (hR b _ [u.v] ?_ (rd_pv e3))
  rw [Nat.mul_one, Nat.zero_add, ← e4]
  simpa using e2
theorem wd_indexSub {x y : Operand} {t e' : TypeId} {d : Option Nat} (h : Ow B e k o w v xs) (hc : cut xs lo xs.length = some ys) (hi : ix xs (lo + i) = some u) (h0 : 0 ≤ i) (hx : ev l x = some (subv v lo.toNat)) (hy : ev l y = some (.int .i64 i))
    (ht : P.underlying t = some (.slice e')) (hs : ∀ w, (sizeOf e').run P w = .ok 1 w) (hR : R (adr v ((lo + i).toNat * Rp.sz Pv)) w) : op1 P ⟨d, .indexAddr t x y, ty, ps, af, g⟩ n l w R := by
  obtain ⟨b, cap, rfl, e1, e2, e3, e4, e5⟩ := sub_addr h hc hi h0
  rw [e1] at hx
  have := ex_index (P := P) (w := w) (d := d) (ty := ty) (ps := ps) (af := af) (g := g) hx hy h0 e5 ht hs
  refine op1_val this ?_
  have ee : adr (.slice (some ⟨b, 0, none⟩) xs.length cap) ((lo + i).toNat * Rp.sz Pv) = .pointer (some ⟨b, 0 + lo.toNat + i.toNat * 1, none⟩) := by
    simp only [adr, Rp.sz, Nat.mul_one, e4, Nat.zero_add]
  rw [← ee]
  exact hR
/-- What lies behind the first places is cleared. -/
theorem wf_clearSub {t e' : TypeId} {x : Operand} {zs : List Pv} (h : Ow B e k o w v xs) (hc : cut xs lo xs.length = some ys) (hz : cut xs 0 lo = some zs) (hk : k ≠ 0) (hx : ev l x = some (subv v lo.toNat)) (ht : P.underlying t = some (.slice e'))
    (hzv : ∀ w, (zeroValue e').run P w = .ok (.slice none 0 0) w)
    (hR : ∀ w' v', Ow B e k o w' (prev v lo.toNat) zs → Stp k o w o w' → R v' w') : op1 P ⟨none, .call { callee := .builtin .clear, args := #[x], argTypes := #[t] }, ty, ps, af, g⟩ n l w R := by
  obtain ⟨a, c, rfl⟩ := h.form
  obtain ⟨g1, g2, g3, -⟩ := cut_some hc
  obtain ⟨-, -, -, rfl⟩ := cut_some hz
  have hpre : ∀ w', (∃ css : List (List Value), css.length = xs.length ∧ w'.ownsRow B e 1 (.slice a xs.length c) xs.length css.flatten ∧ ∀ j cs, j < lo.toNat → css[j]? = some cs → ∃ u, xs[j]? = some u ∧ Rp.rd o w' cs u) →
      Ow B e k o w' (prev (.slice a xs.length c) lo.toNat) ((xs.take lo.toNat).drop (0 : Int).toNat) := fun w' ⟨css, q1, q2, q3⟩ => by
    have htag := h.tagged
    have hl1 : ∀ cs ∈ css.take lo.toNat, cs.length = 1 := fun cs hcs => by
      obtain ⟨j, hj⟩ := List.mem_iff_getElem?.1 hcs
      have hjl : j < lo.toNat := by
        have := (List.getElem?_eq_some_iff.1 hj).1
        simp at this; omega
      rw [List.getElem?_take, if_pos hjl] at hj
      obtain ⟨u, _, hu⟩ := q3 j cs hjl hj
      exact Rp.len hu
    have hfl : ∀ {L : List (List Value)}, (∀ cs ∈ L, cs.length = 1) → L.flatten.length = L.length := by
      intro L
      induction L with
      | nil => intro _; rfl
      | cons a L ih =>
        intro hh
        rw [List.flatten_cons, List.length_append, ih fun x hx => hh x (by simp [hx]), hh a (by simp), List.length_cons]
        omega
    have hsp : css.flatten.take lo.toNat = (css.take lo.toNat).flatten := by
      have e1 : css.flatten = (css.take lo.toNat).flatten ++ (css.drop lo.toNat).flatten := by rw [← List.flatten_append, List.take_append_drop]
      have e2 := hfl hl1
      rw [e1, List.take_append_of_le_length (by rw [e2, List.length_take]; omega), List.take_of_length_le (by rw [e2, List.length_take]; omega)]
    have hlen : ((xs.take lo.toNat).drop (0 : Int).toNat).length = lo.toNat := by simp; omega
    refine ⟨css.take lo.toNat, by rw [hlen, List.length_take]; omega, ?_, fun g hg => ?_, fun j cs u h1 h2 => ?_⟩
    · rw [hlen]
      obtain ⟨p1, p2⟩ := q2
      refine ⟨by rw [hfl hl1, List.length_take]; show _ = lo.toNat * 1; omega, ?_⟩
      rcases p2 with ⟨e1, e2⟩ | ⟨gg, cap, cur, e1, p3, p4, p5, p6, p7, p8⟩
      · simp only [Value.slice.injEq] at e1
        obtain ⟨rfl, _, rfl⟩ := e1
        exact .inl ⟨by unfold prev sliced; simp only; rw [show lo.toNat = 0 by omega]; simp, by omega⟩
      · simp only [Value.slice.injEq] at e1
        obtain ⟨rfl, _, rfl⟩ := e1
        refine .inr ⟨gg, c, cur, ?_, p3, p4, by omega, p6, p7, ?_⟩
        · unfold prev sliced
          simp only
          by_cases hc0 : c = 0
          · rw [if_pos hc0, Nat.sub_zero, Nat.sub_zero]
          · rw [if_neg hc0, Option.map_some, Nat.zero_mul, Addr.add_zero', Nat.sub_zero, Nat.sub_zero]
        · show cur.toList.take (lo.toNat * 1) = _
          rw [← hsp, ← p8, List.take_take]
          congr 1
          show lo.toNat * 1 = min lo.toNat (xs.length * 1)
          omega
    · refine htag g ?_
      cases a with
      | none => unfold prev sliced at hg; simp only at hg; split at hg <;> simp [Value.ownBlock] at hg
      | some ad =>
        have : (prev (.slice (some ad) xs.length c) lo.toNat).ownBlock = some ad.block := by
          unfold prev sliced
          simp only
          split
          · rfl
          · simp only [Option.map_some, Value.ownBlock, Nat.zero_mul]
            unfold Addr.add
            split <;> rfl
        rw [this] at hg
        exact hg
    · have hjl : j < lo.toNat := by
        have := (List.getElem?_eq_some_iff.1 h1).1
        simp at this; omega
      rw [List.getElem?_take, if_pos hjl] at h1
      obtain ⟨u', hu1, hu2⟩ := q3 j cs hjl h1
      rw [show (0 : Int).toNat = 0 from rfl, List.drop_zero, List.getElem?_take, if_pos hjl, hu1] at h2
      cases h2
      exact hu2
  obtain ⟨css, q1, q2, q3, q4⟩ := id h
  by_cases hfull : lo.toNat = xs.length
  · have hu := run_underlying (w := w) ht
    have hr : ∀ ρ, Agr ρ l → (execOp ρ ⟨none, .call { callee := .builtin .clear, args := #[x], argTypes := #[t] }, ty, ps, af, g⟩).run P w = .ok (.value (.tuple #[])) w := by
      intro ρ hρ
      have : subv (.slice a xs.length c) lo.toNat = .slice (if c = lo.toNat then a else a.map (·.add (lo.toNat * 1))) 0 (c - lo.toNat) := by
        unfold subv sliced
        simp only
        rw [hfull, Nat.sub_self]
      rw [this] at hx
      have hcl : (Builtin.clear_ #[t] ty #[.slice (if c = lo.toNat then a else a.map (·.add (lo.toNat * 1))) 0 (c - lo.toNat)]).run P w = .ok (.tuple #[]) w := by
        unfold Builtin.clear_
        cases hq : (if c = lo.toNat then a else a.map (·.add (lo.toNat * 1))) <;> simp [Sem.run_bind, hu, Sem.run_pure]
      simp only [execOp, resolve, invoke, builtin, Sem.run_bind, Sem.run_pure, Result.andThen_ok, List.map_toArray, List.map_cons, List.map_nil, hρ x _ hx, hcl]
    refine op1_val hr (hR w _ (hpre w ⟨css, q1, q2, fun j cs hj hcs => ?_⟩) (Stp.refl _ _ _))
    exact ⟨xs[j]'(by omega), List.getElem?_eq_getElem (by omega), q4 j cs _ hcs (List.getElem?_eq_getElem (by omega))⟩
  · have hlt : lo.toNat < xs.length := by omega
    obtain ⟨b, cap, ee, e1, -, -, -, -⟩ := sub_addr (i := 0) h hc (u := xs[lo.toNat]'hlt) (by unfold ix; rw [if_pos (by omega)]; rw [Int.add_zero]; exact List.getElem?_eq_getElem hlt) (by omega)
    cases ee
    have hlz := Ow.lens (e := e) (B := B) q1 q4
    have hfl : css.flatten.length = xs.length := by have := q2.1; rw [this]; exact Nat.mul_one _
    obtain ⟨w', r1, r2, r3⟩ := storeCells_own (P := P) (o := o) (q3 _ rfl) (List.replicate (xs.length - lo.toNat) (.slice none 0 0)) 0 (0 + lo.toNat) w css.flatten q2 (by rw [hfl, List.length_replicate]; omega) (fun u hu => by rw [List.eq_of_mem_replicate hu]; rfl)
    have hu := run_underlying (w := w) ht
    have hzc : (Builtin.zeroCells (Value.cells (.slice none 0 0)) (xs.length - lo.toNat)).toList = List.replicate (xs.length - lo.toNat) (.slice none 0 0) := by
      unfold Builtin.zeroCells
      apply List.ext_getElem
      · simp [Value.cells]
      · intro j h1 h2
        simp [Value.cells, Nat.mod_one]
    have hr : ∀ ρ, Agr ρ l → (execOp ρ ⟨none, .call { callee := .builtin .clear, args := #[x], argTypes := #[t] }, ty, ps, af, g⟩).run P w = .ok (.value (.tuple #[])) w' := by
      intro ρ hρ
      rw [e1] at hx
      have hcl : (Builtin.clear_ #[t] ty #[.slice (some ⟨b, 0 + lo.toNat, none⟩) (xs.length - lo.toNat) (c - lo.toNat)]).run P w = .ok (.tuple #[]) w' := by
        unfold Builtin.clear_
        obtain ⟨q, hq⟩ : ∃ q, xs.length - lo.toNat = q + 1 := ⟨xs.length - lo.toNat - 1, by omega⟩
        rw [hq] at hzc r1
        simp only [hq, List.getElem?_toArray, List.getElem?_cons_zero, Sem.run_bind, hu, Result.andThen_ok, hzv, hzc, r1, Sem.run_pure]
      simp only [execOp, resolve, invoke, builtin, Sem.run_bind, Sem.run_pure, Result.andThen_ok, List.map_toArray, List.map_cons, List.map_nil, hρ x _ hx, hcl]
    refine op1_val hr (hR w' _ (hpre w' ⟨css.take lo.toNat ++ List.replicate (xs.length - lo.toNat) [.slice none 0 0], by simp; omega, ?_, fun j cs hj hcs => ?_⟩) r3)
    · have hsp : css.flatten.take lo.toNat = (css.take lo.toNat).flatten := by
        have hf2 : ∀ {L : List (List Value)}, (∀ cs ∈ L, cs.length = 1) → L.flatten.length = L.length := by
          intro L
          induction L with
          | nil => intro _; rfl
          | cons a L ih =>
            intro hh
            rw [List.flatten_cons, List.length_append, ih fun x hx => hh x (by simp [hx]), hh a (by simp), List.length_cons]
            omega
        have e1 : css.flatten = (css.take lo.toNat).flatten ++ (css.drop lo.toNat).flatten := by rw [← List.flatten_append, List.take_append_drop]
        have e2 := hf2 (L := css.take lo.toNat) fun cs hcs => hlz cs (List.mem_of_mem_take hcs)
        rw [e1, List.take_append_of_le_length (by rw [e2, List.length_take]; omega), List.take_of_length_le (by rw [e2, List.length_take]; omega)]
      have hm := putMany_mid (List.replicate (xs.length - lo.toNat) (.slice none 0 0)) (css.flatten.take lo.toNat) (css.flatten.drop lo.toNat) [] (by rw [List.length_drop, List.length_replicate, hfl])
      rw [List.append_nil, List.take_append_drop, List.append_nil, List.length_take, hfl, Nat.min_eq_left (by omega)] at hm
      rw [show 0 + lo.toNat + 0 = lo.toNat by omega, hm, hsp] at r2
      rw [List.flatten_append, List.flatten_replicate_singleton]
      exact r2
    · rw [List.getElem?_append_left (by rw [List.length_take]; omega), List.getElem?_take, if_pos hj] at hcs
      exact ⟨xs[j]'(by omega), List.getElem?_eq_getElem (by omega), Rp.stp (q4 j cs _ hcs (List.getElem?_eq_getElem (by omega))) r3 hk⟩
/-- A call of a function that lies in a slot. -/
theorem wf_callt {d : Option Nat} {ff : Operand} {f : FuncId} {xs : List Operand} {vs : List Value} {ats : Array TypeId} {C : Ending → World → Prop} (hc : Calls P f vs.toArray w C) (hcall : ∀ args w, (callFunc f args).run P w = .ok (.enter f args) w) (hf : ev l ff = some (.func (.func f) #[] #[])) (hv : EvL l xs vs)
    (h : ∀ e w', C e w' → ∃ v, e = .returned v ∧ R v w') : op1 P ⟨d, .call { callee := .value ff, args := xs.toArray, argTypes := ats }, ty, ps, af, g⟩ n l w R := by
  refine op1_enter (f := f) (args := vs.toArray) (fun ρ hρ => ?_) hc h
  simp only [execOp, resolve, Sem.run_bind, hρ ff _ hf, Deferred.ofValue, Sem.run_pure, Result.andThen_ok, invoke, List.map_toArray, EvL.map hρ hv]
  simp [hcall]
def nn (i : Int) : Option Unit := if 0 ≤ i then some () else none
theorem nn_some {i : Int} {x : Unit} (h : nn i = some x) : 0 ≤ i := by
  unfold nn at h
  split at h
  · assumption
  · cases h
/-- The form of a list of which the first places are taken. -/
def PreF (v : Value) (lo : Int) : Prop := ∃ a n c, v = .slice a n c ∧ 0 ≤ lo ∧ lo ≤ c
theorem pre_form {zs : List Pv} (h : Ow B e k o w v xs) (hz : cut xs 0 lo = some zs) : PreF v lo := by
  obtain ⟨a, c, rfl⟩ := h.form
  obtain ⟨h1, h2, h3, h4, h5, h6⟩ := cut_rd h.z hz
  exact ⟨a, _, c, rfl, h4, h5⟩
theorem ex_cutPre {d : Option Nat} {t e' : TypeId} {x hi : Operand} (h : PreF v lo) (hx : ev l x = some v) (hhi : ev l hi = some (.int .i64 lo)) (ht : P.underlying t = some (.slice e')) (hs : ∀ w, (sizeOf e').run P w = .ok 1 w) :
    ∀ ρ, Agr ρ l → (execOp ρ ⟨d, .slice t x none (some hi) none, ty, ps, af, g⟩).run P w = .ok (.value (prev v lo.toNat)) w := by
  obtain ⟨a, n, c, rfl, h1, h2⟩ := h
  intro ρ hρ
  have := run_cut (P := P) (w := w) (a := a) (n := n) (c := c) (lo := none) (hi := some (.int .i64 lo)) (lo' := 0) (hi' := lo) ht hs (.inr ⟨rfl, rfl⟩) (.inl rfl) (by omega) h1 h2
  simp only [execOp, hρ x _ hx, hρ hi _ hhi, Sem.run_bind, this, Result.andThen_ok, Option.map_none, Option.map_some]
  rfl
end
open Go.RowKit
/-! ### Cells as they are -/
structure RawN (n : Nat) where
  cs : List Value
  len : cs.length = n + 1
  one : ∀ c ∈ cs, c.oneCell' = true
instance (n : Nat) : Rp (RawN n) where
  sz := n + 1
  pos := Nat.succ_pos n
  rd o w cs x := cs = x.cs
  len h := by rename_i x; subst h; exact x.len
  one h := by rename_i x; subst h; exact x.one
  mv h _ _ := h
section
variable {P : Program} {n : Nat} {l : List (Nat × Value)} {w w0 : World} {o oo : Tg} {α : Type} [Rp α] {d : Nat} {ty : TypeId} {ps : String} {af : Array Edge} {g : Option (Nat × Bool)} {R : Value → World → Prop}
variable {B k k2 : Nat} {e : TypeId} {v v2 u : Value} {xs ys zs : List α} {lo hi i : Int} {x1 : α}
theorem sz_raw : Rp.sz (RawN (Rp.sz α - 1)) = Rp.sz α := by
  have := Rp.pos (α := α)
  show Rp.sz α - 1 + 1 = Rp.sz α
  omega
theorem Ow.raw (h : Ow B e k o w v xs) : ∃ rs : List (RawN (Rp.sz α - 1)), Ow B e k o w v rs ∧ rs.length = xs.length ∧ ∀ (i : Nat) r x, rs[i]? = some r → xs[i]? = some x → Rp.rd o w r.cs x := by
  obtain ⟨css, h1, h2, h3, h4⟩ := h
  have hp := Rp.pos (α := α)
  have hrd : ∀ cs ∈ css, cs.length = Rp.sz α - 1 + 1 ∧ ∀ c ∈ cs, c.oneCell' = true := fun cs hcs => by
    obtain ⟨i, hi⟩ := List.getElem?_of_mem hcs
    have hlt := (List.getElem?_eq_some_iff.1 hi).1
    have := h4 i cs _ hi (List.getElem?_eq_getElem (show i < xs.length by omega))
    exact ⟨by rw [Rp.len this]; omega, Rp.one this⟩
  let rs : List (RawN (Rp.sz α - 1)) := css.pmap (fun cs hcs => ⟨cs, hcs.1, hcs.2⟩) hrd
  have hm : rs.map (·.cs) = css := by
    show (css.pmap (fun cs hcs => (⟨cs, hcs.1, hcs.2⟩ : RawN (Rp.sz α - 1))) hrd).map (·.cs) = css
    rw [List.map_pmap]; simp
  have hl : rs.length = xs.length := by rw [← h1, ← hm, List.length_map]
  have hget : ∀ (i : Nat) r, rs[i]? = some r → css[i]? = some r.cs := fun i r hr => by rw [← hm, List.getElem?_map, hr]; rfl
  refine ⟨rs, ⟨css, by rw [h1, hl], ?_, h3, fun i cs r hc hr => ?_⟩, hl, fun i r x hr hx => h4 i r.cs x (hget i r hr) hx⟩
  · rw [hl, sz_raw]; exact h2
  · have := hget i r hr
    rw [hc] at this
    exact Option.some.inj this
theorem Ow.ofRaw {rs : List (RawN (Rp.sz α - 1))} (h : Ow B e k o w v rs) (hl : rs.length = xs.length) (hr : ∀ (i : Nat) r x, rs[i]? = some r → xs[i]? = some x → Rp.rd o w r.cs x) : Ow B e k o w v xs := by
  obtain ⟨css, h1, h2, h3, h4⟩ := h
  rw [hl, sz_raw] at h2
  refine ⟨css, by rw [h1, hl], h2, h3, fun i cs x hc hx => ?_⟩
  have hlt := (List.getElem?_eq_some_iff.1 hx).1
  have hr' := List.getElem?_eq_getElem (show i < rs.length by omega)
  have e1 : cs = (rs[i]'(by omega)).cs := h4 i cs _ hc hr'
  rw [e1]
  exact hr i _ x hr' hx
/-- What is appended: the cells lie there, and each element may be read. -/
def Src (o : Tg) (w : World) (u : Value) (ys : List α) : Prop := ∃ rs : List (RawN (Rp.sz α - 1)), RdL zt w u rs ∧ rs.length = ys.length ∧ ∀ (i : Nat) r y, rs[i]? = some r → ys[i]? = some y → Rp.rd o w r.cs y
theorem wf_cutSrc {t e' : TypeId} {x lo' : Operand} (h : Ow B e k o w v xs) (hc : cut xs lo xs.length = some ys) (hx : ev l x = some v) (hlo : ev l lo' = some (.int .i64 lo)) (ht : P.underlying t = some (.slice e')) (hs : ∀ w, (sizeOf e').run P w = .ok (Rp.sz α) w)
    (hR : ∀ v', Src o w v' ys → R v' w) : op1 P ⟨some d, .slice t x (some lo') none none, ty, ps, af, g⟩ n l w R := by
  obtain ⟨rs, h1, h2, h3⟩ := h.raw
  obtain ⟨g1, g2, g3, rfl⟩ := cut_some hc
  have hc' : cut rs lo rs.length = some ((rs.take rs.length).drop lo.toNat) := by
    unfold cut
    rw [if_pos (by omega)]; simp
  obtain ⟨v', hv, hr⟩ := ex_cutO (P := P) (d := some d) (ty := ty) (ps := ps) (af := af) (g := g) (t := t) (e := e') (lo := some lo') (hi := none) hx h1 hlo rfl hc' ht (fun w => by rw [sz_raw]; exact hs w)
  refine op1_val (hv w) (hR v' ⟨_, hr, by simp; omega, fun i r y hr hy => ?_⟩)
  have e1 : ((xs.take ((xs.length : Int)).toNat).drop lo.toNat)[i]? = xs[lo.toNat + i]? := by
    rw [List.getElem?_drop, Int.toNat_natCast, List.take_length]
  have e2 : ((rs.take rs.length).drop lo.toNat)[i]? = rs[lo.toNat + i]? := by
    rw [List.getElem?_drop, List.take_length]
  rw [e1] at hy
  rw [e2] at hr
  exact h3 _ r y hr hy
theorem wf_catS {t : TypeId} {z : Value} {bytes : Nat} {x y : Operand} (hown : Ow B e k o w v xs) (hr : Src o w u zs) (hc : cat xs zs = some ys) (hk : k ≠ 0) (hB : B ≤ w.heap.size) (hx : ev l x = some v) (hy : ev l y = some u)
    (ht : P.underlying t = some (.slice e)) (hi : Inf P e z (Rp.sz α) bytes) (hzs : z.cells.size = Rp.sz α) (hb : bytes ≤ 1000)
    (h : ∀ o' w' v', Ow B e k o' w' v' ys → Stp k o w o' w' → R v' w') : op1 P ⟨some d, .call { callee := .builtin .append, args := #[x, y], argTypes := #[t, t] }, ty, ps, af, g⟩ n l w R := by
  obtain ⟨rx, a1, a2, a3⟩ := hown.raw
  obtain ⟨rz, b1, b2, b3⟩ := hr
  obtain ⟨c1, rfl⟩ := cat_some hc
  have hc' : cat rx rz = some (rx ++ rz) := by
    unfold cat
    rw [if_pos (by omega)]
  obtain ⟨w', v', hrun, h1, h2⟩ := ex_appendR (P := P) (ps := ps) (ty := ty) (af := af) (d := some d) (g := g) hx hy a1 b1 (fun _ _ h => h) hc' hk ht (by rw [sz_raw]; exact hi) (by rw [sz_raw]; exact hzs) hb hB
  refine op1_val hrun (h _ _ _ (h1.ofRaw (by simp; omega) fun i r x hr hx => ?_) h2)
  refine Rp.stp ?_ h2 hk
  by_cases hlt : i < rx.length
  · rw [List.getElem?_append_left hlt] at hr
    rw [List.getElem?_append_left (by omega)] at hx
    exact a3 i r x hr hx
  · rw [List.getElem?_append_right (by omega)] at hr
    rw [List.getElem?_append_right (by omega)] at hx
    rw [a2] at hr
    exact b3 _ r x hr hx
/-! ### The front of a list -/
theorem sliced_zero (a : Option Addr) (h m s : Nat) : sliced a 0 h m s = sliced a 0 h m 1 := by simp [sliced]
theorem ex_cutPreO {t e' : TypeId} {x hi' : Operand} {dd : Option Nat} (h : Ow B e k o w v xs) (hc : cut xs 0 hi = some ys) (hx : ev l x = some v) (hhi : ev l hi' = some (.int .i64 hi)) (ht : P.underlying t = some (.slice e')) (hs : ∀ w, (sizeOf e').run P w = .ok (Rp.sz α) w) :
    ∀ ρ, Agr ρ l → (execOp ρ ⟨dd, .slice t x none (some hi') none, ty, ps, af, g⟩).run P w = .ok (.value (prev v hi.toNat)) w := by
  obtain ⟨a, c, rfl⟩ := h.form
  obtain ⟨h1, h2, h3, h4, h5, h6⟩ := cut_rd h.z hc
  intro ρ hρ
  have := run_cut (P := P) (w := w) (a := a) (n := xs.length) (c := c) (lo := none) (hi := some (.int .i64 hi)) (lo' := 0) (hi' := hi) ht hs (.inr ⟨rfl, rfl⟩) (.inl rfl) (by omega) h4 h5
  rw [show ((0 : Int)).toNat = 0 from rfl, sliced_zero] at this
  simp only [execOp, hρ x _ hx, hρ hi' _ hhi, Sem.run_bind, this, Result.andThen_ok, Option.map_none, Option.map_some]
  rfl
theorem flatten_take_sz {s : Nat} : ∀ {css : List (List Value)} (m : Nat), (∀ cs ∈ css, cs.length = s) → m ≤ css.length → (css.take m).flatten = css.flatten.take (m * s) ∧ (css.take m).flatten.length = m * s
  | css, 0, _, _ => by simp
  | [], m + 1, _, h => by simp at h
  | c :: css, m + 1, hh, hm => by
    obtain ⟨h1, h2⟩ := flatten_take_sz (css := css) m (fun x hx => hh x (by simp [hx])) (by simpa using hm)
    have hc := hh c (by simp)
    have e1 : (m + 1) * s = s + m * s := by rw [Nat.succ_mul, Nat.add_comm]
    rw [List.take_succ_cons, List.flatten_cons, List.flatten_cons, List.length_append, h2, h1, hc, e1]
    refine ⟨?_, rfl⟩
    rw [List.take_append, hc, List.take_of_length_le (l := c) (by rw [hc]; exact Nat.le_add_right _ _), Nat.add_sub_cancel_left]
theorem Ow.pre (h : Ow B e k o w v xs) (hc : cut xs 0 hi = some ys) : Ow B e k o w (prev v hi.toNat) ys := by
  have htag := h.tagged
  obtain ⟨css, h1, h2, h3, h4⟩ := h
  obtain ⟨g1, g2, g3, rfl⟩ := cut_some hc
  have hlz := Ow.lens (e := e) (B := B) h1 h4
  have hlen : ((xs.take hi.toNat).drop (0 : Int).toNat) = xs.take hi.toNat := by simp
  obtain ⟨f1, f2⟩ := flatten_take_sz (css := css) hi.toNat hlz (by omega)
  rw [hlen]
  refine ⟨css.take hi.toNat, by rw [List.length_take, List.length_take, h1], ?_, fun g hg => ?_, fun j cs u hj hu => ?_⟩
  · have hl2 : (xs.take hi.toNat).length = hi.toNat := by rw [List.length_take]; omega
    rw [hl2]
    obtain ⟨p1, p2⟩ := h2
    refine ⟨f2, ?_⟩
    rcases p2 with ⟨rfl, e2⟩ | ⟨gg, cap, cur, rfl, p3, p4, p5, p6, p7, p8⟩
    · exact .inl ⟨by unfold prev sliced; simp only; rw [show hi.toNat = 0 by omega]; simp, by omega⟩
    · refine .inr ⟨gg, cap, cur, ?_, p3, p4, by omega, p6, p7, ?_⟩
      · unfold prev sliced
        simp only
        by_cases hc0 : cap = 0
        · rw [if_pos hc0, Nat.sub_zero, Nat.sub_zero]
        · rw [if_neg hc0, Option.map_some, Nat.zero_mul, Addr.add_zero', Nat.sub_zero, Nat.sub_zero]
      · rw [f1, ← p8, List.take_take, Nat.min_eq_left (Nat.mul_le_mul_right _ (by omega))]
  · refine htag g ?_
    rcases h2.2 with ⟨rfl, _⟩ | ⟨gg, cap, cur, rfl, _⟩
    · unfold prev sliced at hg; simp only at hg; split at hg <;> simp [Value.ownBlock] at hg
    · have : (prev (.slice (some ⟨gg, 0, none⟩) xs.length cap) hi.toNat).ownBlock = some gg := by
        unfold prev sliced
        simp only
        split
        · rfl
        · simp only [Option.map_some, Value.ownBlock, Nat.zero_mul]
          unfold Addr.add
          split <;> rfl
      rw [this] at hg
      exact hg
  · have hjl : j < hi.toNat := by
      have := (List.getElem?_eq_some_iff.1 hj).1
      rw [List.length_take] at this; omega
    rw [List.getElem?_take_of_lt hjl] at hj hu
    exact h4 j cs u hj hu
/-! ### Fields of elements, in drawn regions -/
theorem RdL.plc {o2 : Tg} {w2 : World} (h : RdL o2 w2 v xs) (hi : ix xs i = some x1) : ∃ b off m c, v = .slice (some ⟨b, off, none⟩) m c := by
  obtain ⟨a, c, rfl⟩ := h.form
  obtain ⟨h0, h1, h2⟩ := ix_some hi
  obtain ⟨b, off, cs, rfl, _⟩ := h.at h2
  exact ⟨b, off, _, c, rfl⟩
theorem wd_field {s : TypeId} {f k : Nat} {fs : Array Field} {fd : Field} {x : Operand} {m : Nat} {d : Option Nat} (hv : ∃ b off m c, v = .slice (some ⟨b, off, none⟩) m c) (hx : ev l x = some (adr v m)) (hu : P.underlying s = some (.struct fs)) (hf : fs[f]? = some fd)
    (hs : ∀ w, (sizeOf fd.type).run P w = .ok (k + 1) w) (hR : R (adr v (m + fd.offset)) w) : op1 P ⟨d, .fieldAddr s x f, ty, ps, af, g⟩ n l w R := by
  obtain ⟨b, off, m', c, rfl⟩ := hv
  have hx' : ev l x = some (.pointer (some ⟨b, off + m, none⟩)) := hx
  refine op1_val (ex_field (d := d) hx' hu hf hs) ?_
  have e : adr (.slice (some ⟨b, off, none⟩) m' c) (m + fd.offset) = .pointer (some ⟨b, off + m + fd.offset, none⟩) := by
    show Value.pointer (some ⟨b, off + (m + fd.offset), none⟩) = _
    rw [Nat.add_assoc]
  rw [← e]; exact hR
theorem wd_loadF {x : Operand} {t : TypeId} {fo : Nat} {d : Option Nat} (h : RdL o w v xs) (hi : ix xs i = some x1) (hf : fo < Rp.sz α) (hx : ev l x = some (adr v (i.toNat * Rp.sz α + fo))) (hag : ∀ w, (isAgg t).run P w = .ok false w)
    (hR : ∀ cs c, Rp.rd o w cs x1 → cs[fo]? = some c → R c w) : op1 P ⟨d, .load t x, ty, ps, af, g⟩ n l w R := by
  obtain ⟨a, c, rfl⟩ := h.form
  obtain ⟨h0, h1, h2⟩ := ix_some hi
  obtain ⟨b, off, cs, rfl, hc, hr, _⟩ := h.at h2
  have hl : fo < cs.length := by rw [Rp.len hr]; exact hf
  have hcell : w.cell? ⟨b, off + (i.toNat * Rp.sz α + fo), none⟩ = some cs[fo] := by
    rw [← Nat.add_assoc]; exact hc fo _ (List.getElem?_eq_getElem hl)
  exact op1_val (ex_load1 hx hag hcell) (hR cs _ hr (List.getElem?_eq_getElem hl))
theorem wd_loadFW {x : Operand} {t e' : TypeId} {fo : Nat} {d : Option Nat} (h : Ow B e' k o w v xs) (hi : ix xs i = some x1) (hf : fo < Rp.sz α) (hx : ev l x = some (adr v (i.toNat * Rp.sz α + fo))) (hag : ∀ w, (isAgg t).run P w = .ok false w)
    (hR : ∀ cs c, Rp.rd o w cs x1 → cs[fo]? = some c → R c w) : op1 P ⟨d, .load t x, ty, ps, af, g⟩ n l w R := by
  obtain ⟨a, c, rfl⟩ := h.form
  obtain ⟨h0, h1, h2⟩ := ix_some hi
  obtain ⟨b, cs, rfl, _, hc, hr, _⟩ := h.at h2
  have hl : fo < cs.length := by rw [Rp.len hr]; exact hf
  have hcell : w.cell? ⟨b, 0 + (i.toNat * Rp.sz α + fo), none⟩ = some cs[fo] := by
    have := hc fo _ (List.getElem?_eq_getElem hl)
    rw [Nat.zero_add]
    simpa using this
  exact op1_val (ex_load1 hx hag hcell) (hR cs _ hr (List.getElem?_eq_getElem hl))
/-- Comparison with nil, where the value is nil with its list. -/
theorem ex_eqlnilX {t t' e : TypeId} {x y : Operand} {b : Bool} {d : Option Nat} (hn : isnil v = b) (h : RdL zt w v xs) (hx : ev l x = some v) (hy : ev l y = some (.slice none 0 0)) (ht : P.underlying t = some (.slice e)) :
    ∀ ρ, Agr ρ l → (execOp ρ ⟨d, .binOp .eql t x y t', ty, ps, af, g⟩).run P w = .ok (.value (.bool b)) w := by
  subst hn
  exact ex_eqlnil h hx hy ht
end
open Go.RowKit
inductive HRow where
  | rd (xs : List Int)
  | hole (u : Value)
instance : Rp HRow where
  sz := 1
  pos := by decide
  rd o w cs x := match x with
    | .rd xs => ∃ v, cs = [v] ∧ RdL o w v xs
    | .hole u => cs = [u] ∧ u.oneCell' = true
  len {o w cs x} h := by
    cases x with
    | rd xs => obtain ⟨v, rfl, _⟩ := h; rfl
    | hole u => obtain ⟨rfl, _⟩ := h; rfl
  one {o w cs x} h := by
    cases x with
    | rd xs => obtain ⟨v, rfl, a, c, rfl, _⟩ := h; simp [Value.oneCell']
    | hole u => obtain ⟨rfl, h1⟩ := h; intro c hc; rw [List.mem_singleton.1 hc]; exact h1
  mv {o o' w w' cs x} h hs hb := by
    cases x with
    | rd xs => obtain ⟨v, e, h⟩ := h; exact ⟨v, e, h.mv hs hb⟩
    | hole u => exact h
/-- The rows, the one at i being elsewhere: its value is u. -/
def hsx (xs : List (List Int)) (i : Int) (u : Value) : List HRow := (xs.map HRow.rd).set i.toNat (.hole u)
theorem hsx_at {xs ys : List (List Int)} {i : Int} {r : List Int} (h : st xs i r = some ys) (u : Value) : ix (hsx ys i u) i = some (.hole u) := by
  obtain ⟨h0, h1, rfl⟩ := st_some h
  unfold ix hsx
  rw [if_pos h0, List.getElem?_set_self (by simp; omega)]
def nei (a b : Int) : Option Unit := if a = b then none else some ()
theorem nei_some {a b : Int} {u : Unit} (h : nei a b = some u) : a ≠ b := fun e => by rw [nei, if_pos e] at h; cases h
theorem hsx_ne {xs : List (List Int)} {i j : Int} {x : List Int} {n : Unit} (hx : ix xs j = some x) (hn : nei j i = some n) (hi : 0 ≤ i) (u : Value) : ix (hsx xs i u) j = some (.rd x) := by
  obtain ⟨h0, h1, h2⟩ := ix_some hx
  have := nei_some hn
  unfold ix hsx
  rw [if_pos h0, List.getElem?_set_ne (by omega), List.getElem?_map, h2]; rfl
theorem st_lo {α : Type} {xs ys : List α} {i : Int} {r : α} (h : st xs i r = some ys) : 0 ≤ i := (st_some h).1
section
variable {P : Program} {n : Nat} {l : List (Nat × Value)} {w w0 : World} {o oo : Tg} {d : Nat} {ty : TypeId} {ps : String} {af : Array Edge} {g : Option (Nat × Bool)} {R : Value → World → Prop}
variable {B k : Nat} {e : TypeId} {v u : Value} {xs ys : List (List Int)} {i : Int} {r : List Int}
theorem Ow.toH (h : Ow B e k o w v xs) : Ow B e k o w v (xs.map HRow.rd) := by
  obtain ⟨css, h1, h2, h3, h4⟩ := h
  refine ⟨css, by rw [List.length_map]; exact h1, by rw [List.length_map]; exact h2, h3, fun j cs x hc hx => ?_⟩
  rw [List.getElem?_map] at hx
  cases hq : xs[j]? with
  | none => rw [hq] at hx; cases hx
  | some y => rw [hq] at hx; cases hx; exact h4 j cs y hc hq
theorem wf_storeH {b : Nat} {t : TypeId} {x y : Operand} {w2 : World} {o2 : Tg} {B2 k2 : Nat} {e2 : TypeId} (hown : Ow B e k o w v xs) (hb : v.ownBlock = some b) (hi : st xs i r = some ys) (hu0 : Ow B2 e2 k2 o2 w2 u r) (hk : k ≠ 0)
    (hx : ev l x = some (.pointer (some ⟨b, 0 + i.toNat * 1, none⟩))) (hy : ev l y = some u) (hs : ∀ w, (sizeOf t).run P w = .ok 1 w)
    (h : ∀ w', Ow B e k o w' v (hsx ys i u) → Stp k o w o w' → R undef w') : op1 P ⟨none, .store t x y, ty, ps, af, g⟩ n l w R := by
  obtain ⟨h0, h1, rfl⟩ := st_some hi
  have hi' : st (xs.map HRow.rd) i (.hole u) = some (hsx (xs.set i.toNat r) i u) := by
    unfold Go.Proofs.Ytjmhjobfiemmnaa.st hsx
    rw [if_pos (by rw [List.length_map]; exact ⟨h0, h1⟩), List.map_set, List.set_set]
  have hz : Rp.rd o w [u] (HRow.hole u) := ⟨rfl, hu0.z.one1⟩
  exact wf_storeW hown.toH hb hi' hz hk rfl hx hy hs hu0.z.cells1 h
theorem Ow.closeH {xs0 : List (List Int)} {r0 : List Int} (h : Ow B e k o w v (hsx xs i u)) (hi : st xs0 i r0 = some xs) (hr : RdL o w u r) : Ow B e k o w v (xs.set i.toNat r) := by
  obtain ⟨h0, h1, rfl⟩ := st_some hi
  obtain ⟨css, g1, g2, g3, g4⟩ := h
  have hl : (hsx (xs0.set i.toNat r0) i u).length = ((xs0.set i.toNat r0).set i.toNat r).length := by simp [hsx]
  refine ⟨css, by rw [g1, hl], by rw [← hl]; exact g2, g3, fun j cs x hc hx => ?_⟩
  by_cases hj : i.toNat = j
  · subst hj
    rw [List.getElem?_set_self (by simp; omega)] at hx
    cases hx
    have hz : (hsx (xs0.set i.toNat r0) i u)[i.toNat]? = some (.hole u) := by
      unfold hsx; rw [List.getElem?_set_self (by simp; omega)]
    have := g4 i.toNat cs _ hc hz
    obtain ⟨rfl, _⟩ := this
    exact ⟨u, rfl, hr⟩
  · rw [List.getElem?_set_ne hj] at hx
    have hz : (hsx (xs0.set i.toNat r0) i u)[j]? = some (.rd x) := by
      unfold hsx; rw [List.getElem?_set_ne hj, List.getElem?_map, hx]; rfl
    exact g4 j cs _ hc hz
theorem FnV.cells1 {A ρ : Type} [Ar A] [Rs ρ] {F : A → Option ρ} (h : FnV P w v F) : v.cells = #[v] := by obtain ⟨m, cap, rfl, _⟩ := h; rfl
/-- A call of a closure. -/
theorem wf_callc {d : Option Nat} {ff : Operand} {f : FuncId} {xs : List Operand} {vs cap : List Value} {ats : Array TypeId} {C : Ending → World → Prop} (hc : Calls P f (vs ++ cap).toArray w C) (hcall : ∀ args w, (callFunc f args).run P w = .ok (.enter f args) w) (hf : ev l ff = some (.func (.func f) #[] cap.toArray)) (hv : EvL l xs vs)
    (h : ∀ e w', C e w' → ∃ v, e = .returned v ∧ R v w') : op1 P ⟨d, .call { callee := .value ff, args := xs.toArray, argTypes := ats }, ty, ps, af, g⟩ n l w R := by
  refine op1_enter (f := f) (args := (vs ++ cap).toArray) (fun ρ hρ => ?_) hc h
  simp only [execOp, resolve, Sem.run_bind, hρ ff _ hf, Deferred.ofValue, Sem.run_pure, Result.andThen_ok, invoke, List.map_toArray, EvL.map hρ hv]
  simp [hcall]
end
end Go.Proofs.Ytjmhjobfiemmnaa
