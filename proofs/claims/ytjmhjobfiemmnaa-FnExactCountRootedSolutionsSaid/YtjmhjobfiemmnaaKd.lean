/- Regions that draw their order: each operation is shown by itself, from what the operations before it have left; then any order will do. -/
import Derived.Test.YtjmhjobfiemmnaaKr
import Derived.StillTail
namespace Go.Proofs.Ytjmhjobfiemmnaa
open Go.RowKit
set_option linter.unusedSimpArgs false
set_option linter.unusedVariables false

theorem Fr.cons {a : Act} {n : Nat} {l : List (Nat × Value)} (h : Fr a n l) {d : Nat} {v : Value} (hv : a.tmps.getD d undef = v) : Fr a n ((d, v) :: l) :=
  ⟨h.size, h.defers, fun t u ht => by
    simp only [Kn] at ht
    split at ht
    · rename_i e; subst e; cases ht; exact hv
    · exact h.get t u ht⟩

/-- An operation of a drawn region comes up. -/
def opS (P : Program) (ops : Array Oper) (o : Oper) (a : Act) (w : World) (G : Value → World → Prop) : Prop :=
  if Region.wanted o (yielded ops a.tmps) = true then o.wp P a w (fun a' w' => ∃ v, a' = a.put o.dst v ∧ G v w') (fun _ _ _ => False) else G undef w
theorem opS_of {P : Program} {ops : Array Oper} {o : Oper} {a : Act} {w : World} {G : Value → World → Prop} {n : Nat} {l : List (Nat × Value)} (ha : Fr a n l) (hg : Gd ops l o.guard) (h : op1 P o n l w G) : opS P ops o a w G := by
  unfold opS
  rw [if_pos (gd_wanted ha hg)]
  exact h a ha
theorem opS_no {P : Program} {ops : Array Oper} {o : Oper} {a : Act} {w : World} {G : Value → World → Prop} {n : Nat} {l : List (Nat × Value)} (ha : Fr a n l) {j : Nat} {want : Bool} (hg : o.guard = some (j, want))
    {s : Nat} {b : Bool} (h1 : ((ops[j]?).bind (·.dst)) = some s) (h2 : Kn l s = some (.bool b)) (hb : (b == want) = false) (h : G undef w) : opS P ops o a w G := by
  unfold opS
  rw [if_neg (by rw [gd_not ha hg h1 h2 hb]; decide)]
  exact h
theorem opS_no2 {P : Program} {ops : Array Oper} {o : Oper} {a : Act} {w : World} {G : Value → World → Prop} {n : Nat} {l : List (Nat × Value)} (ha : Fr a n l) {j : Nat} {want : Bool} (hg : o.guard = some (j, want))
    {s : Nat} (h1 : ((ops[j]?).bind (·.dst)) = some s) (h2 : Kn l s = some undef) (h : G undef w) : opS P ops o a w G := by
  unfold opS
  have hw : Region.wanted o (yielded ops a.tmps) = false := by
    have h3 := ha.get s _ h2
    simp only [Region.wanted, hg, yielded, h1, Option.bind_some]
    cases hq : a.tmps[s]? with
    | none => rfl
    | some u =>
      simp only [Array.getD_eq_getD_getElem?, hq, Option.getD_some] at h3
      subst h3
      rfl
  rw [if_neg (by rw [hw]; decide)]
  exact h

structure DrawnI (n h : Nat) (l0 : List (Nat × Value)) (D : Nat → Nat) (cs : Nat → Option Nat) (R : Nat → Value → Tg → World → Prop) (Bf : Tg → World → Prop) (listed : Array Bool) (a : Act) (w : World) (o : Tg) : Prop where
  fr : Fr a n l0
  base : Bf o w
  done : ∀ i, i < h → listed.getD i false = true → (∀ k, cs i = some k → listed.getD k false = false) → R i (a.tmps.getD (D i) undef) o w

section
variable {P : Program} {Q : Exit → Act → World → Prop} {n h : Nat} {l0 : List (Nat × Value)} {ops : List Oper} {D : Nat → Nat} {ds : Nat → List Nat} {cs : Nat → Option Nat}
  {R : Nat → Value → Tg → World → Prop} {Bf : Tg → World → Prop} {tg : Nat → Nat}

theorem Fr.put_ne {a : Act} {l : List (Nat × Value)} (ha : Fr a n l) {d : Nat} (hd : (l.map (·.1)).contains d = false) (v : Value) : Fr (a.put (some d) v) n l := by
  refine ⟨by simp [Act.put, ha.size], by simp [Act.put, ha.defers], fun t u ht => ?_⟩
  have hne : d ≠ t := by
    intro e
    subst e
    have : d ∈ l.map (·.1) := by
      clear ha hd
      induction l with
      | nil => simp [Kn] at ht
      | cons p l ih =>
        obtain ⟨s, x⟩ := p
        simp only [Kn] at ht
        split at ht
        · rename_i e; subst e; simp
        · simp [ih ht]
    rw [List.contains_iff_mem.2 this] at hd
    cases hd
  have := ha.get t u ht
  simp only [Act.put, Array.getD_eq_getD_getElem?] at this ⊢
  rw [Array.getElem?_setIfInBounds_ne hne]
  exact this

theorem drawn_any (hds : ∀ i, i < h → ∀ o w a, Fr a n l0 → Bf o w → (∀ j, j ∈ ds i → R j (a.tmps.getD (D j) undef) o w) → ∀ op, ops[i]? = some op → opS P ops.toArray op a w fun v w' => ∃ o', Stp (tg i) o w o' w' ∧ R i v o' w')
    (hsB : ∀ k o w o' w', k < h → Bf o w → Stp (tg k) o w o' w' → Bf o' w')
    (hsR : ∀ i k v o w o' w', i < h → k < h → i ≠ k → cs i ≠ some k → R i v o w → Stp (tg k) o w o' w' → R i v o' w')
    (hD : ∀ i, i < h → ∃ op, ops[i]? = some op ∧ op.dst = some (D i) ∧ D i < n ∧ (l0.map (·.1)).contains (D i) = false ∧ (∀ j, j < h → j ≠ i → D j ≠ D i) ∧
      (∀ j, j ∈ ds i → j < h ∧ (∃ e ∈ op.after, Region.binds .any e = true ∧ e.on = j) ∧ (cs j = none ∨ cs j = some i)))
    (hlow : ∀ i op, ops[i]? = some op → ∀ e ∈ op.after, Region.binds .any e = true → e.on < i)
    (hh : h ≤ ops.length)
    (htl : ∀ listed, HeadInv .any ops.toArray h listed → ∀ i, i < h → listed.getD i true = false → ∀ t, h ≤ t → t ∉ Region.ready .any ops.toArray listed)
    (hsq : Region.seqB .any ops.toArray (ops.length - h) h ((Array.range ops.length).map fun i => decide (i < h)) = true)
    (hfin : ∀ a o w, Fr a n l0 → Bf o w → (∀ i, i < h → cs i = none → R i (a.tmps.getD (D i) undef) o w) → wpList P ops.toArray Q (ops.drop h) a w) :
    ∀ (fuel : Nat) (listed : Array Bool) (a : Act) (w : World) (o : Tg), DrawnI n h l0 D cs R Bf listed a w o → HeadInv .any ops.toArray h listed →
      ((List.range h).filter fun i => !listed.getD i true).length + (ops.length - h) ≤ fuel → ((List.range h).filter fun i => !listed.getD i true).length + (ops.length - h) = fuel → wpAny P .any ops.toArray Q fuel listed a w := by
  intro fuel
  induction fuel with
  | zero =>
    intro listed a w o hJ hI hle heq
    have h0 : (List.range h).filter (fun i => !listed.getD i true) = [] := List.eq_nil_of_length_eq_zero (by omega)
    have hall : ∀ i, i < h → listed.getD i true = true := by
      intro i hi
      have := List.filter_eq_nil_iff.1 h0 i (List.mem_range.2 hi)
      simpa using this
    have hlist : listed = (Array.range ops.length).map fun i => decide (i < h) := by
      apply Array.ext (by simp [hI.size])
      intro i h1 h2
      have h3 : i < ops.length := by simpa [hI.size] using h1
      simp only [Array.getElem_map, Array.getElem_range]
      by_cases hi : i < h
      · have := hall i hi
        simp [h1] at this
        simp [this, hi]
      · have := hI.tail i (by omega) (by simpa using h3)
        simp [h1] at this
        simp [this, hi]
    have := wpAny_of_seq (P := P) (md := .any) (ops := ops.toArray) (Q' := Q) (ops.drop h) h listed a w (fun j => by simp [List.getElem?_drop]) (by rw [hlist]; simpa using hsq)
      (hfin a o w hJ.fr hJ.base fun i hi hc => hJ.done i hi (by
        have h1 := hall i hi
        have h2 : i < listed.size := by rw [hI.size]; simp; omega
        simp [h2] at h1 ⊢; exact h1) (fun k hk => by rw [hc] at hk; cases hk))
    have hl : (ops.drop h).length = 0 := by simp; omega
    rw [hl] at this
    exact this
  | succ fuel ih =>
    intro listed a w o hJ hI hle heq
    by_cases h0 : (List.range h).filter (fun i => !listed.getD i true) = []
    · -- the head is done
      have hall : ∀ i, i < h → listed.getD i true = true := by
        intro i hi
        have := List.filter_eq_nil_iff.1 h0 i (List.mem_range.2 hi)
        simpa using this
      have hlist : listed = (Array.range ops.length).map fun i => decide (i < h) := by
        apply Array.ext (by simp [hI.size])
        intro i h1 h2
        have h3 : i < ops.length := by simpa [hI.size] using h1
        simp only [Array.getElem_map, Array.getElem_range]
        by_cases hi : i < h
        · have := hall i hi
          simp [h1] at this
          simp [this, hi]
        · have := hI.tail i (by omega) (by simpa using h3)
          simp [h1] at this
          simp [this, hi]
      have := wpAny_of_seq (P := P) (md := .any) (ops := ops.toArray) (Q' := Q) (ops.drop h) h listed a w (fun j => by simp [List.getElem?_drop]) (by rw [hlist]; simpa using hsq)
        (hfin a o w hJ.fr hJ.base fun i hi hc => hJ.done i hi (by
          have h1 := hall i hi
          have h2 : i < listed.size := by rw [hI.size]; simp; omega
          simp [h2] at h1 ⊢; exact h1) (fun k hk => by rw [hc] at hk; cases hk))
      have hl : (ops.drop h).length = fuel + 1 := by rw [h0] at heq; simp at heq ⊢; omega
      rw [hl] at this
      exact this
    · obtain ⟨i0, hi0⟩ := List.exists_mem_of_ne_nil _ h0
      have hi0h := List.mem_range.1 (List.mem_filter.1 hi0).1
      have hi0l : listed.getD i0 true = false := by simpa using (List.mem_filter.1 hi0).2
      have hready : ∀ i, i ∈ Region.ready .any ops.toArray listed → i < h := by
        intro i hi
        apply Nat.lt_of_not_le
        intro hle
        exact htl listed hI i0 hi0h hi0l i hle hi
      have hcount : ∀ i, i < h → listed.getD i true = false →
          ((List.range h).filter fun j => !(listed.setIfInBounds i true).getD j true).length + 1 = ((List.range h).filter fun j => !listed.getD j true).length := by
        intro i hi hil
        have hsz : i < listed.size := by rw [hI.size]; simp; omega
        have e1 : ∀ (m : Nat), i < m → ((List.range m).filter fun j => !(listed.setIfInBounds i true).getD j true).length + 1 = ((List.range m).filter fun j => !listed.getD j true).length := by
          intro m
          induction m with
          | zero => intro h; omega
          | succ m ihm =>
            intro him
            rw [List.range_succ, List.filter_append, List.filter_append, List.length_append, List.length_append]
            by_cases e : i = m
            · subst e
              have e2 : ((List.range i).filter fun j => !(listed.setIfInBounds i true).getD j true) = (List.range i).filter fun j => !listed.getD j true := by
                apply List.filter_congr
                intro j hj
                have := List.mem_range.1 hj
                rw [getD_set_ne true (by omega)]
              rw [e2]
              have e3 : (listed.setIfInBounds i true).getD i true = true := by simp
              simp only [List.filter_cons, List.filter_nil, e3, hil]; simp
            · have := ihm (by omega)
              have e4 : (listed.setIfInBounds i true).getD m true = listed.getD m true := getD_set_ne true (by omega)
              simp only [List.filter_cons, List.filter_nil, e4]
              omega
        exact e1 h hi
      refine ⟨fun hr => ?_, fun i hi => ?_⟩
      · -- something is always ready: not needed, what follows is asked of nothing
        exfalso
        have key : ∀ (d i : Nat), i = d → i < h → listed.getD i true = false → ∃ j, j ∈ Region.ready .any ops.toArray listed := by
          intro d
          induction d using Nat.strongRecOn with
          | _ d ihd =>
            intro i hid hih hil
            obtain ⟨op, hop, _⟩ := hD i hih
            by_cases hall : ∀ e ∈ op.after, Region.binds .any e = true → listed.getD e.on false = true
            · exact ⟨i, mem_ready.2 ⟨hil, op, by simpa using hop, hall⟩⟩
            · have : ∃ e, e ∈ op.after ∧ Region.binds .any e = true ∧ listed.getD e.on false = false := by
                apply Classical.byContradiction
                intro hno
                apply hall
                intro e he hb
                cases hc : listed.getD e.on false with
                | true => rfl
                | false => exact absurd ⟨e, he, hb, hc⟩ hno
              obtain ⟨e, he, hb, hc⟩ := this
              have hlt := hlow i op hop e he hb
              have hsz : e.on < listed.size := by rw [hI.size]; simp; omega
              exact ihd e.on (by omega) e.on rfl (by omega) (getD_in hsz hc)
        obtain ⟨j, hj⟩ := key i0 i0 rfl hi0h hi0l
        rw [hr] at hj
        cases hj
      · have hih := hready i hi
        obtain ⟨op, hop, hdst, hDn, hbase, hdist, hdeps⟩ := hD i hih
        obtain ⟨hil, op', hop', hafter⟩ := mem_ready.1 hi
        have e : op' = op := by
          have : ops.toArray[i]? = ops[i]? := by simp
          rw [this, hop] at hop'
          exact (Option.some.inj hop').symm
        subst e
        unfold wpOp
        rw [hop']
        have hob := hds i hih o w a hJ.fr hJ.base (fun j hj => by
          obtain ⟨hjh, ⟨ed, hed1, hed2, hed3⟩, hc⟩ := hdeps j hj
          refine hJ.done j hjh (by rw [← hed3]; exact hafter ed hed1 hed2) (fun k hk => ?_)
          rcases hc with hc | hc
          · rw [hc] at hk; cases hk
          · rw [hc] at hk
            cases hk
            exact getD_both hil) op' hop
        have hnext : ∀ (v : Value) (w' : World) (o' : Tg), Stp (tg i) o w o' w' → R i v o' w' → wpAny P .any ops.toArray Q fuel (listed.setIfInBounds i true) (a.put op'.dst v) w' := by
          intro v w' o' hst hR
          rw [hdst]
          have hc := hcount i hih hil
          refine ih _ _ _ o' ⟨hJ.fr.put_ne hbase v, hsB i o w o' w' hih hJ.base hst, fun j hj hlj hcj => ?_⟩ (hI.set hi hih) (by omega) (by omega)
          by_cases hji : j = i
          · subst hji
            have : ((a.put (some (D j)) v).tmps.getD (D j) undef) = v := by
              have hlt : D j < a.tmps.size := by rw [hJ.fr.size]; exact hDn
              simp [Act.put, Array.getD_eq_getD_getElem?, hlt]
            rw [this]; exact hR
          · have hne := hdist j hj hji
            have : ((a.put (some (D i)) v).tmps.getD (D j) undef) = a.tmps.getD (D j) undef := by
              simp only [Act.put, Array.getD_eq_getD_getElem?]
              rw [Array.getElem?_setIfInBounds_ne (Ne.symm hne)]
            rw [this]
            rw [getD_set_ne false (fun e => hji e.symm)] at hlj
            have hcs : cs j ≠ some i := by
              intro e
              have := hcj i e
              have hsz : i < listed.size := by rw [hI.size]; simp; omega
              simp [hsz] at this
            refine hsR j i _ o w o' w' hj hih hji hcs (hJ.done j hj hlj fun k hk => ?_) hst
            have := hcj k hk
            by_cases hki : k = i
            · subst hki; exact absurd hk hcs
            · rw [getD_set_ne false (fun e => hki e.symm)] at this; exact this
        unfold opS at hob
        simp only [hop', ]
        by_cases hw : Region.wanted op' (yielded ops.toArray a.tmps) = true
        · rw [if_pos hw] at hob ⊢
          refine .inl (oper_wp_mono ?_ ?_ hob)
          · rintro a' w' ⟨v, rfl, o', hst, hR⟩
            exact hnext v w' o' hst hR
          · intro _ _ _ h; exact h.elim
        · rw [if_neg hw] at hob ⊢
          obtain ⟨o', hst, hR⟩ := hob
          exact hnext undef w o' hst hR
end

/-! ### The same, by lists -/
abbrev Pr := Value → Tg → World → Prop
def prT : Pr := fun _ _ _ => True
/-- A fact on a value that outlasts every step but those for the tag b. -/
def St (b : Nat) (p : Pr) : Prop := ∀ t v o w o' w', t ≠ 0 ∧ t ≤ 999 → t ≠ b → p v o w → Stp t o w o' w' → p v o' w'
theorem st_eq (c : Value) : St 0 (fun v _ _ => v = c) := fun _ _ _ _ _ _ _ _ h _ => h
def AllSt : List Nat → List Pr → Prop
  | b :: bs, p :: ps => St b p ∧ AllSt bs ps
  | [], [] => True
  | _, _ => False
theorem AllSt.get : ∀ {bs : List Nat} {ps : List Pr}, AllSt bs ps → ∀ i, St (bs.getD i 0) (ps.getD i prT)
  | [], [], _, i => fun _ _ _ _ _ _ _ _ _ _ => trivial
  | b :: bs, p :: ps, h, 0 => h.1
  | b :: bs, p :: ps, h, i + 1 => by simpa using AllSt.get h.2 i
  | [], _ :: _, h, _ => h.elim
  | _ :: _, [], h, _ => h.elim
def Deps (Dl : List Nat) (Rl : List Pr) (a : Act) (o : Tg) (w : World) : List Nat → Prop
  | [] => True
  | j :: js => (Rl.getD j prT) (a.tmps.getD (Dl.getD j 0) undef) o w ∧ Deps Dl Rl a o w js
theorem Deps.of {Dl : List Nat} {Rl : List Pr} {a : Act} {o : Tg} {w : World} : ∀ {js : List Nat}, (∀ j, j ∈ js → (Rl.getD j prT) (a.tmps.getD (Dl.getD j 0) undef) o w) → Deps Dl Rl a o w js
  | [], _ => trivial
  | j :: js, h => ⟨h j (by simp), Deps.of fun i hi => h i (by simp [hi])⟩
def Obs (P : Program) (all : List Oper) (n : Nat) (l0 : List (Nat × Value)) (Bf : Tg → World → Prop) (Dl : List Nat) (Rl : List Pr) (tgl : List Nat) (dsl : List (List Nat)) : Nat → List Oper → Prop
  | _, [] => True
  | i, op :: ops => (∀ o w a, Fr a n l0 → Bf o w → Deps Dl Rl a o w (dsl.getD i []) → opS P all.toArray op a w fun v w' => ∃ o', Stp (tgl.getD i 999) o w o' w' ∧ (Rl.getD i prT) v o' w') ∧ Obs P all n l0 Bf Dl Rl tgl dsl (i + 1) ops
theorem Obs.get {P : Program} {all : List Oper} {n : Nat} {l0 : List (Nat × Value)} {Bf : Tg → World → Prop} {Dl : List Nat} {Rl : List Pr} {tgl : List Nat} {dsl : List (List Nat)} :
    ∀ {ops : List Oper} {k : Nat}, Obs P all n l0 Bf Dl Rl tgl dsl k ops → ∀ i op, ops[i]? = some op → ∀ o w a, Fr a n l0 → Bf o w → Deps Dl Rl a o w (dsl.getD (k + i) []) →
      opS P all.toArray op a w fun v w' => ∃ o', Stp (tgl.getD (k + i) 999) o w o' w' ∧ (Rl.getD (k + i) prT) v o' w'
  | [], k, _, i, op, h => by simp at h
  | o :: ops, k, hO, 0, op, h => by simp at h; subst h; exact hO.1
  | o :: ops, k, hO, i + 1, op, h => by
    have := Obs.get hO.2 i op (by simpa using h)
    rw [show k + 1 + i = k + (i + 1) by omega] at this
    exact this
def Fin (a : Act) (o : Tg) (w : World) : List Nat → List (Option Nat) → List Pr → Prop
  | d :: ds, none :: cs, p :: ps => p (a.tmps.getD d undef) o w ∧ Fin a o w ds cs ps
  | _ :: ds, some _ :: cs, _ :: ps => True ∧ Fin a o w ds cs ps
  | _, _, _ => True
theorem Fin.of {a : Act} {o : Tg} {w : World} : ∀ {Dl : List Nat} {cs : List (Option Nat)} {ps : List Pr}, (∀ i, i < Dl.length → cs.getD i none = none → (ps.getD i prT) (a.tmps.getD (Dl.getD i 0) undef) o w) → Fin a o w Dl cs ps
  | [], _, _, _ => trivial
  | d :: ds, [], _, _ => trivial
  | d :: ds, none :: cs, [], _ => trivial
  | d :: ds, some _ :: cs, [], _ => trivial
  | d :: ds, none :: cs, p :: ps, h => ⟨by simpa using h 0 (by simp) rfl, Fin.of fun i hi hc => by simpa using h (i + 1) (by simp; omega) (by simpa using hc)⟩
  | d :: ds, some k :: cs, p :: ps, h => ⟨trivial, Fin.of fun i hi hc => by simpa using h (i + 1) (by simp; omega) (by simpa using hc)⟩

/-- What must be so of the operations, by their text and the lists alone. -/
def drawnB (ops : Array Oper) (n : Nat) (base Dl : List Nat) (dsl : List (List Nat)) (csl : List (Option Nat)) (tgl bdl tags : List Nat) : Bool :=
  decide (Dl.length ≤ ops.size) && tags.contains 999 && tags.all (fun t => decide (t ≠ 0 ∧ t ≤ 999)) &&
  ((List.range Dl.length).all fun i => (match ops[i]? with | some o => o.dst == some (Dl.getD i 0) | none => false) && decide (Dl.getD i 0 < n) && !base.contains (Dl.getD i 0) &&
    ((List.range Dl.length).all fun j => decide (j = i) || (decide (Dl.getD j 0 ≠ Dl.getD i 0) && (csl.getD i none == some j || decide (tgl.getD j 999 ≠ bdl.getD i 0)))) &&
    ((dsl.getD i []).all fun j => decide (j < Dl.length) && Region.waitsFor .any ops i j && (csl.getD j none == none || csl.getD j none == some i)) &&
    tags.contains (tgl.getD i 999)) &&
  ((List.range ops.size).all fun i => match ops[i]? with | some o => o.after.all (fun e => !Region.binds .any e || decide (e.on < i)) | none => true) &&
  (decide (Dl.length = ops.size) || (Region.sinkB .any ops Dl.length && Region.chainB .any ops Dl.length)) &&
  Region.seqB .any ops (ops.size - Dl.length) Dl.length ((Array.range ops.size).map fun i => decide (i < Dl.length))

theorem wpC_drawn {P : Program} {Q : Exit → Act → World → Prop} {n id : Nat} {l : List (Nat × Value)} {ops : List Oper} {w : World} {o : Tg}
    (l0 : List (Nat × Value)) (base Dl : List Nat) (dsl : List (List Nat)) (csl : List (Option Nat)) (tgl bdl tags : List Nat) (Rl : List Pr) (Bf : Tg → World → Prop)
    (hm : P.follows .mixedOrders = true) (hchk : drawnB ops.toArray n base Dl dsl csl tgl bdl tags = true) (hbase : l0.map (·.1) = base) (hsub : Sub l0 l) (hB0 : Bf o w)
    (hSB : ∀ t o w o' w', t ∈ tags → Bf o w → Stp t o w o' w' → Bf o' w') (hSR : AllSt bdl Rl) (hob : Obs P ops n l0 Bf Dl Rl tgl dsl 0 (ops.take Dl.length))
    (hfin : ∀ o w a, Fr a n l0 → Bf o w → Fin a o w Dl csl Rl → wpList P ops.toArray Q (ops.drop Dl.length) a w) : wpC P (.region id ops.toArray true) Q n l w := by
  intro a ha
  simp only [drawnB, Bool.and_eq_true] at hchk
  obtain ⟨⟨⟨⟨⟨⟨c1, c2⟩, c3⟩, c4⟩, c5⟩, c6⟩, c7⟩ := hchk
  have hh : Dl.length ≤ ops.length := by simpa using c1
  have h999 : 999 ∈ tags := by simpa using c2
  have htags : ∀ t, t ∈ tags → t ≠ 0 ∧ t ≤ 999 := fun t ht => by simpa using List.all_eq_true.1 c3 t ht
  have c4' : ∀ i, i < Dl.length → _ := fun i hi => List.all_eq_true.1 c4 i (List.mem_range.2 hi)
  simp only [Bool.and_eq_true] at c4'
  refine wp_region_any hm ?_
  have hinv : HeadInv .any ops.toArray Dl.length (Array.replicate ops.toArray.size false) :=
    ⟨by simp, fun j oj _ hl => (by rw [getD_replicate_false] at hl; cases hl), fun t _ ht => getD_in (by simpa using ht) (getD_replicate_false _ _)⟩
  have hcnt : ((List.range Dl.length).filter fun i => !(Array.replicate ops.toArray.size false).getD i true).length = Dl.length := by
    rw [List.filter_eq_self.2]
    · simp
    · intro i hi
      have hi' := List.mem_range.1 hi
      have : (Array.replicate ops.toArray.size false).getD i true = false := getD_in (by simp; omega) (getD_replicate_false _ _)
      rw [this]; rfl
  have := drawn_any (P := P) (Q := Q) (n := n) (h := Dl.length) (l0 := l0) (ops := ops) (D := fun i => Dl.getD i 0) (ds := fun i => dsl.getD i []) (cs := fun i => csl.getD i none)
    (R := fun i => Rl.getD i prT) (Bf := Bf) (tg := fun i => tgl.getD i 999)
    (fun i hi o w a hf hb hd op hop => by
      have := Obs.get hob i op (by rw [List.getElem?_take, if_pos hi]; exact hop) o w a hf hb (by rw [Nat.zero_add]; exact Deps.of hd)
      rw [Nat.zero_add] at this; exact this)
    (fun k o w o' w' hk hb hs => hSB _ o w o' w' (by have := (c4' k hk).2; simpa using this) hb hs)
    (fun i k v o w o' w' hi hk hik hcs hR hs => by
      have h1 := (c4' k hk).2
      have h2 := List.all_eq_true.1 (c4' i hi).1.1.2 k (List.mem_range.2 hk)
      simp only [Bool.or_eq_true, Bool.and_eq_true, decide_eq_true_eq, beq_iff_eq] at h2
      rcases h2 with h2 | ⟨_, h2⟩
      · exact absurd h2.symm hik
      · rcases h2 with h2 | h2
        · exact absurd h2 hcs
        · exact hSR.get i _ v o w o' w' (htags _ (by simpa using h1)) h2 hR hs)
    (fun i hi => by
      obtain ⟨⟨⟨⟨⟨g1, g2⟩, g3⟩, g4⟩, g5⟩, g6⟩ := c4' i hi
      have hlt : i < ops.length := by omega
      have hop : ops[i]? = some (ops[i]'hlt) := List.getElem?_eq_getElem hlt
      refine ⟨_, hop, ?_, by simpa using g2, by rw [hbase]; simpa using g3, fun j hj hji => ?_, fun j hj => ?_⟩
      · simp only [List.getElem?_toArray, hop] at g1
        simpa using g1
      · have := List.all_eq_true.1 g4 j (List.mem_range.2 hj)
        simp only [Bool.or_eq_true, Bool.and_eq_true, decide_eq_true_eq] at this
        rcases this with h | h
        · exact absurd h hji
        · exact h.1
      · have := List.all_eq_true.1 g5 j hj
        simp only [Bool.and_eq_true, decide_eq_true_eq, Bool.or_eq_true, beq_iff_eq] at this
        obtain ⟨⟨k1, k2⟩, k3⟩ := this
        obtain ⟨oj, hoj, e, he, hb, hon⟩ := Region.waitsFor_spec k2
        have : oj = ops[i]'hlt := by
          simp only [List.getElem?_toArray, hop] at hoj
          exact (Option.some.inj hoj).symm
        subst this
        exact ⟨k1, ⟨e, he, hb, hon⟩, k3⟩)
    (fun i op hop e he hb => by
      have hlt : i < ops.length := (List.getElem?_eq_some_iff.1 hop).1
      have := List.all_eq_true.1 c5 i (List.mem_range.2 (by simpa using hlt))
      simp only [List.getElem?_toArray, hop] at this
      have h2 := Array.all_eq_true_iff_forall_mem.1 this e he
      simp only [Bool.or_eq_true, Bool.not_eq_true', decide_eq_true_eq] at h2
      rcases h2 with h2 | h2
      · rw [hb] at h2; cases h2
      · exact h2)
    hh
    (fun listed hI i hi hil t ht hr => by
      simp only [Bool.or_eq_true, Bool.and_eq_true, decide_eq_true_eq] at c6
      rcases c6 with c6 | ⟨c6, c6'⟩
      · obtain ⟨_, ot, hot, _⟩ := mem_ready.1 hr
        have := (Array.getElem?_eq_some_iff.1 hot).1
        omega
      · by_cases hn : Dl.length < ops.toArray.size
        · exact tail_waits c6 c6' hn hI _ i rfl hi hil t ht hr
        · obtain ⟨_, ot, hot, _⟩ := mem_ready.1 hr
          have := (Array.getElem?_eq_some_iff.1 hot).1
          omega)
    (by simpa using c7)
    (fun a o w hf hb hd => hfin o w a hf hb (Fin.of hd))
    ops.toArray.size (Array.replicate ops.toArray.size false) a { w with drawn := w.drawn + 1 } o
    ⟨ha.sub hsub, hSB 999 o w o _ h999 hB0 (stp_drew o w 999), fun i hi hl => (by rw [getD_replicate_false] at hl; cases hl)⟩ hinv (by rw [hcnt]; simp; omega) (by rw [hcnt]; simp; omega)
  exact this
end Go.Proofs.Ytjmhjobfiemmnaa
