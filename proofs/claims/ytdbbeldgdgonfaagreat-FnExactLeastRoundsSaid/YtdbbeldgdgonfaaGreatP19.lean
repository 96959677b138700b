/- Part 19 of what this claim rests on (Kds), packed by pack.py. -/
import Derived.Test.YtdbbeldgdgonfaaGreatP03
namespace Go.Proofs.YtdbbeldgdgonfaaGreat
set_option linter.unusedSimpArgs false
set_option linter.unusedVariables false

section
open Go.RowKit
structure DrawnS (n h m : Nat) (l0 : List (Nat × Value)) (D : Nat → Nat) (cs : Nat → Option Nat) (R : Nat → Value → Tg → World → Prop) (Bf : Tg → World → Prop) (E : Nat → Value → Tg → World → Prop) (ec : Nat → Nat) (listed : Array Bool) (a : Act) (w : World) (o : Tg) : Prop where
  fr : Fr a n l0
  base : Bf o w
  done : ∀ i, i < h → listed.getD i false = true → (∀ k, cs i = some k → listed.getD k false = false) → R i (a.tmps.getD (D i) undef) o w
  res : ∀ e, e < m → listed.getD (ec e) false = false → E e undef o w

theorem nN_ {listed : Array Bool} {h i : Nat} (hsz : i < listed.size) (hi : i < h) (hil : listed.getD i true = false) :
    ((List.range h).filter fun j => !(listed.setIfInBounds i true).getD j true).length + 1 = ((List.range h).filter fun j => !listed.getD j true).length := by
  have e1 : ∀ (m : Nat), i < m → ((List.range m).filter fun j => !(listed.setIfInBounds i true).getD j true).length + 1 = ((List.range m).filter fun j => !listed.getD j true).length := by
    intro m
    induction m with
    | zero => intro h; omega
    | succ m ihm =>
      intro him
      rw [List.range_succ, List.filter_append, List.filter_append, List.length_append, List.length_append]
      by_cases e : i = m
      · subst e
        have e2 : ((List.range i).filter fun j => !(listed.setIfInBounds i true).getD j true) = (List.range i).filter fun j => !listed.getD j true := by
          apply List.filter_congr
          intro j hj
          have := List.mem_range.1 hj
          rw [getD_set_ne true (by omega)]
        rw [e2]
        have e3 : (listed.setIfInBounds i true).getD i true = true := by simp
        simp only [List.filter_cons, List.filter_nil, e3, hil]; simp
      · have := ihm (by omega)
        have e4 : (listed.setIfInBounds i true).getD m true = listed.getD m true := getD_set_ne true (by omega)
        simp only [List.filter_cons, List.filter_nil, e4]
        omega
  exact e1 h hi

section
variable {P : Program} {Q : Exit → Act → World → Prop} {n h m : Nat} {l0 : List (Nat × Value)} {ops : List Oper} {D : Nat → Nat} {ds es : Nat → List Nat} {cs : Nat → Option Nat}
  {R E : Nat → Value → Tg → World → Prop} {Bf : Tg → World → Prop} {tg ec : Nat → Nat}

theorem oh_ (hds : ∀ i, i < h → ∀ o w a, Fr a n l0 → Bf o w → (∀ e, e ∈ es i → E e undef o w) → (∀ j, j ∈ ds i → R j (a.tmps.getD (D j) undef) o w) → ∀ op, ops[i]? = some op → opS P ops.toArray op a w fun v w' => ∃ o', Stp (tg i) o w o' w' ∧ R i v o' w')
    (hsB : ∀ k o w o' w', k < h → Bf o w → Stp (tg k) o w o' w' → Bf o' w')
    (hsE : ∀ e k o w o' w', e < m → k < h → ec e ≠ k → E e undef o w → Stp (tg k) o w o' w' → E e undef o' w')
    (hsR : ∀ i k v o w o' w', i < h → k < h → i ≠ k → cs i ≠ some k → (∀ op, ops[i]? = some op → ∀ e ∈ op.after, Region.binds .any e = true → e.on ≠ k) → R i v o w → Stp (tg k) o w o' w' → R i v o' w')
    (hN : ∀ i, i < h → n ≤ D i → ∀ v v' o w, R i v o w → R i v' o w)
    (hD : ∀ i, i < h → ∃ op, ops[i]? = some op ∧ ((op.dst = some (D i) ∧ D i < n ∧ (l0.map (·.1)).contains (D i) = false) ∨ (op.dst = none ∧ n ≤ D i)) ∧ (∀ j, j < h → j ≠ i → D j ≠ D i) ∧
      (∀ j, j ∈ ds i → j < h ∧ (∃ e ∈ op.after, Region.binds .any e = true ∧ e.on = j) ∧ (cs j = none ∨ cs j = some i)) ∧
      (∀ e, e ∈ es i → e < m ∧ (ec e = i ∨ ∃ ok, ops[ec e]? = some ok ∧ ∃ e' ∈ ok.after, Region.binds .any e' = true ∧ e'.on = i)))
    (hlow : ∀ i op, ops[i]? = some op → ∀ e ∈ op.after, Region.binds .any e = true → e.on < i)
    (hh : h ≤ ops.length)
    (htl : ∀ listed, HeadInv .any ops.toArray h listed → ∀ i, i < h → listed.getD i true = false → ∀ t, h ≤ t → t ∉ Region.ready .any ops.toArray listed)
    (hsq : Region.seqB .any ops.toArray (ops.length - h) h ((Array.range ops.length).map fun i => decide (i < h)) = true)
    (hfin : ∀ a o w, Fr a n l0 → Bf o w → (∀ i, i < h → cs i = none → R i (a.tmps.getD (D i) undef) o w) → wpList P ops.toArray Q (ops.drop h) a w) :
    ∀ (d : Nat) (listed : Array Bool) (a : Act) (w : World) (o : Tg), DrawnS n h m l0 D cs R Bf E ec listed a w o → HeadInv .any ops.toArray h listed →
      ((List.range h).filter fun i => !listed.getD i true).length = d → wpAny P .any ops.toArray Q (d + (ops.length - h)) listed a w := by
  intro fuel
  induction fuel with
  | zero =>
    intro listed a w o hJ hI heq
    have h0 : (List.range h).filter (fun i => !listed.getD i true) = [] := List.eq_nil_of_length_eq_zero heq
    have hall : ∀ i, i < h → listed.getD i true = true := by
      intro i hi
      have := List.filter_eq_nil_iff.1 h0 i (List.mem_range.2 hi)
      simpa using this
    have hlist : listed = (Array.range ops.length).map fun i => decide (i < h) := by
      apply Array.ext (by simp [hI.size])
      intro i h1 h2
      have h3 : i < ops.length := by simpa [hI.size] using h1
      simp only [Array.getElem_map, Array.getElem_range]
      by_cases hi : i < h
      · have := hall i hi
        simp [h1] at this
        simp [this, hi]
      · have := hI.tail i (by omega) (by simpa using h3)
        simp [h1] at this
        simp [this, hi]
    have := wpAny_of_seq (P := P) (md := .any) (ops := ops.toArray) (Q' := Q) (ops.drop h) h listed a w (fun j => by simp [List.getElem?_drop]) (by rw [hlist]; simpa using hsq)
      (hfin a o w hJ.fr hJ.base fun i hi hc => hJ.done i hi (by
        have h1 := hall i hi
        have h2 : i < listed.size := by rw [hI.size]; simp; omega
        simp [h2] at h1 ⊢; exact h1) (fun k hk => by rw [hc] at hk; cases hk))
    have hl : (ops.drop h).length = 0 + (ops.length - h) := by simp
    rw [hl] at this
    exact this
  | succ fuel ih =>
    intro listed a w o hJ hI heq
    rw [show fuel + 1 + (ops.length - h) = (fuel + (ops.length - h)) + 1 by omega]
    have hne : (List.range h).filter (fun i => !listed.getD i true) ≠ [] := fun e => by rw [e] at heq; simp at heq
    obtain ⟨i0, hi0⟩ := List.exists_mem_of_ne_nil _ hne
    have hi0h := List.mem_range.1 (List.mem_filter.1 hi0).1
    have hi0l : listed.getD i0 true = false := by simpa using (List.mem_filter.1 hi0).2
    refine ⟨fun hr => ?_, fun i hi => ?_⟩
    · exfalso
      have key : ∀ (d i : Nat), i = d → i < h → listed.getD i true = false → ∃ j, j ∈ Region.ready .any ops.toArray listed := by
        intro d
        induction d using Nat.strongRecOn with
        | _ d ihd =>
          intro i hid hih hil
          obtain ⟨op, hop, _⟩ := hD i hih
          by_cases hall : ∀ e ∈ op.after, Region.binds .any e = true → listed.getD e.on false = true
          · exact ⟨i, mem_ready.2 ⟨hil, op, by simpa using hop, hall⟩⟩
          · have : ∃ e, e ∈ op.after ∧ Region.binds .any e = true ∧ listed.getD e.on false = false := by
              apply Classical.byContradiction
              intro hno
              apply hall
              intro e he hb
              cases hc : listed.getD e.on false with
              | true => rfl
              | false => exact absurd ⟨e, he, hb, hc⟩ hno
            obtain ⟨e, he, hb, hc⟩ := this
            have hlt := hlow i op hop e he hb
            have hsz : e.on < listed.size := by rw [hI.size]; simp; omega
            exact ihd e.on (by omega) e.on rfl (by omega) (getD_in hsz hc)
      obtain ⟨j, hj⟩ := key i0 i0 rfl hi0h hi0l
      rw [hr] at hj
      cases hj
    · have hih : i < h := by
        apply Nat.lt_of_not_le
        intro hle
        exact htl listed hI i0 hi0h hi0l i hle hi
      obtain ⟨op, hop, hdst, hdist, hdeps, hres⟩ := hD i hih
      obtain ⟨hil, op', hop', hafter⟩ := mem_ready.1 hi
      have e : op' = op := by
        have : ops.toArray[i]? = ops[i]? := by simp
        rw [this, hop] at hop'
        exact (Option.some.inj hop').symm
      subst e
      have hsz : i < listed.size := by rw [hI.size]; simp; omega
      unfold wpOp
      rw [hop']
      have hob := hds i hih o w a hJ.fr hJ.base (fun e he => by
        obtain ⟨hem, hc⟩ := hres e he
        refine hJ.res e hem ?_
        rcases hc with hc | ⟨ok, hok, e', he', hb', hon⟩
        · rw [hc]; exact getD_both hil
        · cases hl : listed.getD (ec e) false with
          | false => rfl
          | true =>
            have := hI.closed (ec e) ok (by simpa using hok) hl e' he' hb'
            rw [hon, getD_both hil] at this
            cases this) (fun j hj => by
        obtain ⟨hjh, ⟨ed, hed1, hed2, hed3⟩, hc⟩ := hdeps j hj
        refine hJ.done j hjh (by rw [← hed3]; exact hafter ed hed1 hed2) (fun k hk => ?_)
        rcases hc with hc | hc
        · rw [hc] at hk; cases hk
        · rw [hc] at hk
          cases hk
          exact getD_both hil) op' hop
      have hnext : ∀ (v : Value) (w' : World) (o' : Tg), Stp (tg i) o w o' w' → R i v o' w' → wpAny P .any ops.toArray Q (fuel + (ops.length - h)) (listed.setIfInBounds i true) (a.put op'.dst v) w' := by
        intro v w' o' hst hR
        have hc := nN_ hsz hih hil
        have hres' : ∀ e, e < m → (listed.setIfInBounds i true).getD (ec e) false = false → E e undef o' w' := fun e he hl => by
          have hne : ec e ≠ i := fun h => by rw [h] at hl; simp [hsz] at hl
          rw [getD_set_ne false (fun h => hne h.symm)] at hl
          exact hsE e i o w o' w' he hih hne (hJ.res e he hl) hst
        have hold : ∀ j, j < h → j ≠ i → (listed.setIfInBounds i true).getD j false = true → (∀ k, cs j = some k → (listed.setIfInBounds i true).getD k false = false) → R j (a.tmps.getD (D j) undef) o' w' := fun j hj hji hlj hcj => by
          rw [getD_set_ne false (fun e => hji e.symm)] at hlj
          have hcs : cs j ≠ some i := by
            intro e
            have := hcj i e
            simp [hsz] at this
          refine hsR j i _ o w o' w' hj hih hji hcs (fun oj hoj e he hb hon => ?_) (hJ.done j hj hlj fun k hk => ?_) hst
          · have := hI.closed j oj (by simpa using hoj) hlj e he hb
            rw [hon, getD_both hil] at this
            cases this
          have := hcj k hk
          by_cases hki : k = i
          · subst hki; exact absurd hk hcs
          · rw [getD_set_ne false (fun e => hki e.symm)] at this; exact this
        rcases hdst with ⟨hdst, hDn, hbase⟩ | ⟨hdst, hDn⟩
        · rw [hdst]
          refine ih _ _ _ o' ⟨hJ.fr.put_ne hbase v, hsB i o w o' w' hih hJ.base hst, fun j hj hlj hcj => ?_, hres'⟩ (hI.set hi hih) (by omega)
          by_cases hji : j = i
          · subst hji
            have : ((a.put (some (D j)) v).tmps.getD (D j) undef) = v := by
              have hlt : D j < a.tmps.size := by rw [hJ.fr.size]; exact hDn
              simp [Act.put, Array.getD_eq_getD_getElem?, hlt]
            rw [this]; exact hR
          · have hne := hdist j hj hji
            have : ((a.put (some (D i)) v).tmps.getD (D j) undef) = a.tmps.getD (D j) undef := by
              simp only [Act.put, Array.getD_eq_getD_getElem?]
              rw [Array.getElem?_setIfInBounds_ne (Ne.symm hne)]
            rw [this]
            exact hold j hj hji hlj hcj
        · rw [hdst]
          refine ih _ _ _ o' ⟨hJ.fr, hsB i o w o' w' hih hJ.base hst, fun j hj hlj hcj => ?_, hres'⟩ (hI.set hi hih) (by omega)
          by_cases hji : j = i
          · subst hji; exact hN j hih hDn _ _ _ _ hR
          · exact hold j hj hji hlj hcj
      unfold opS at hob
      simp only [hop', ]
      by_cases hw : Region.wanted op' (yielded ops.toArray a.tmps) = true
      · rw [if_pos hw] at hob ⊢
        refine .inl (eP_ ?_ ?_ hob)
        · rintro a' w' ⟨v, rfl, o', hst, hR⟩
          exact hnext v w' o' hst hR
        · intro _ _ _ h; exact h.elim
      · rw [if_neg hw] at hob ⊢
        obtain ⟨o', hst, hR⟩ := hob
        have := hnext undef w o' hst hR
        rcases hdst with ⟨hdst, _⟩ | ⟨hdst, _⟩
        · exact this
        · exact this
end

def Res (El : List Pr) (o : Tg) (w : World) : List Nat → Prop
  | [] => True
  | e :: es => (El.getD e prT) undef o w ∧ Res El o w es
theorem Res.of {El : List Pr} {o : Tg} {w : World} : ∀ {es : List Nat}, (∀ e, e ∈ es → (El.getD e prT) undef o w) → Res El o w es
  | [], _ => trivial
  | e :: es, h => ⟨h e (by simp), Res.of fun i hi => h i (by simp [hi])⟩
def AllE (o : Tg) (w : World) : List Pr → Prop
  | [] => True
  | p :: ps => p undef o w ∧ AllE o w ps
theorem AllE.get {o : Tg} {w : World} : ∀ {ps : List Pr}, AllE o w ps → ∀ e, (ps.getD e prT) undef o w
  | [], _, _ => trivial
  | p :: ps, h, 0 => h.1
  | p :: ps, h, e + 1 => by simpa using AllE.get h.2 e
def AllN : List Bool → List Pr → Prop
  | true :: bs, p :: ps => (∀ v v' o w, p v o w → p v' o w) ∧ AllN bs ps
  | false :: bs, _ :: ps => True ∧ AllN bs ps
  | _, _ => True
theorem AllN.get : ∀ {bs : List Bool} {ps : List Pr}, AllN bs ps → ∀ i, bs.getD i false = true → ∀ v v' o w, (ps.getD i prT) v o w → (ps.getD i prT) v' o w
  | [], ps, _, i, hb => by simp at hb
  | true :: bs, [], _, i, hb => fun _ _ _ _ _ => trivial
  | false :: bs, [], _, i, hb => fun _ _ _ _ _ => trivial
  | true :: bs, p :: ps, h, 0, _ => h.1
  | false :: bs, p :: ps, h, 0, hb => by simp at hb
  | true :: bs, p :: ps, h, i + 1, hb => by simpa using AllN.get h.2 i (by simpa using hb)
  | false :: bs, p :: ps, h, i + 1, hb => by simpa using AllN.get h.2 i (by simpa using hb)
def ObsS (P : Program) (all : List Oper) (n : Nat) (l0 : List (Nat × Value)) (Bf : Tg → World → Prop) (El : List Pr) (Dl : List Nat) (Rl : List Pr) (tgl : List Nat) (dsl esl : List (List Nat)) : Nat → List Oper → Prop
  | _, [] => True
  | i, op :: ops => (∀ o w a, Fr a n l0 → Bf o w → Res El o w (esl.getD i []) → Deps Dl Rl a o w (dsl.getD i []) → opS P all.toArray op a w fun v w' => ∃ o', Stp (tgl.getD i 999) o w o' w' ∧ (Rl.getD i prT) v o' w') ∧ ObsS P all n l0 Bf El Dl Rl tgl dsl esl (i + 1) ops
theorem ObsS.get {P : Program} {all : List Oper} {n : Nat} {l0 : List (Nat × Value)} {Bf : Tg → World → Prop} {El : List Pr} {Dl : List Nat} {Rl : List Pr} {tgl : List Nat} {dsl esl : List (List Nat)} :
    ∀ {ops : List Oper} {k : Nat}, ObsS P all n l0 Bf El Dl Rl tgl dsl esl k ops → ∀ i op, ops[i]? = some op → ∀ o w a, Fr a n l0 → Bf o w → Res El o w (esl.getD (k + i) []) → Deps Dl Rl a o w (dsl.getD (k + i) []) →
      opS P all.toArray op a w fun v w' => ∃ o', Stp (tgl.getD (k + i) 999) o w o' w' ∧ (Rl.getD (k + i) prT) v o' w'
  | [], k, _, i, op, h => by simp at h
  | o :: ops, k, hO, 0, op, h => by simp at h; subst h; exact hO.1
  | o :: ops, k, hO, i + 1, op, h => by
    have := ObsS.get hO.2 i op (by simpa using h)
    rw [show k + 1 + i = k + (i + 1) by omega] at this
    exact this
def drawnSB (ops : Array Oper) (n : Nat) (base Dl : List Nat) (dsl : List (List Nat)) (csl : List (Option Nat)) (tgl bdl tags ecl ebl : List Nat) (esl : List (List Nat)) (sts : List Bool) : Bool :=
  decide (Dl.length ≤ ops.size) && tags.contains 999 && tags.all (fun t => decide (t ≠ 0 ∧ t ≤ 999)) &&
  ((List.range Dl.length).all fun i =>
    (match ops[i]? with
      | some o => (o.dst == some (Dl.getD i 0) && decide (Dl.getD i 0 < n) && !base.contains (Dl.getD i 0)) || (o.dst == none && decide (n ≤ Dl.getD i 0) && sts.getD i false)
      | none => false) &&
    ((List.range Dl.length).all fun j => decide (j = i) || (decide (Dl.getD j 0 ≠ Dl.getD i 0) && (csl.getD i none == some j || decide (tgl.getD j 999 ≠ bdl.getD i 0) || Region.waitsFor .any ops i j))) &&
    ((dsl.getD i []).all fun j => decide (j < Dl.length) && Region.waitsFor .any ops i j && (csl.getD j none == none || csl.getD j none == some i)) &&
    ((esl.getD i []).all fun e => decide (e < ecl.length) && (ecl.getD e 0 == i || Region.waitsFor .any ops (ecl.getD e 0) i)) &&
    tags.contains (tgl.getD i 999)) &&
  ((List.range ops.size).all fun i => match ops[i]? with | some o => o.after.all (fun e => !Region.binds .any e || decide (e.on < i)) | none => true) &&
  ((List.range ecl.length).all fun e => decide (ebl.getD e 0 ≠ 999) && (List.range Dl.length).all fun k => ecl.getD e 0 == k || decide (tgl.getD k 999 ≠ ebl.getD e 0)) &&
  (decide (Dl.length = ops.size) || (Region.sinkB .any ops Dl.length && Region.chainB .any ops Dl.length)) &&
  Region.seqB .any ops (ops.size - Dl.length) Dl.length ((Array.range ops.size).map fun i => decide (i < Dl.length))

theorem hI_ {P : Program} {Q : Exit → Act → World → Prop} {n id : Nat} {l : List (Nat × Value)} {ops : List Oper} {w : World} {o : Tg}
    (l0 : List (Nat × Value)) (base Dl : List Nat) (dsl : List (List Nat)) (csl : List (Option Nat)) (tgl bdl tags ecl ebl : List Nat) (esl : List (List Nat)) (sts : List Bool) (Rl El : List Pr) (Bf : Tg → World → Prop)
    (hm : P.follows .mixedOrders = true) (hchk : drawnSB ops.toArray n base Dl dsl csl tgl bdl tags ecl ebl esl sts = true) (hbase : l0.map (·.1) = base) (hsub : Sub l0 l) (hB0 : Bf o w) (hE0 : AllE o w El)
    (hSB : ∀ t o w o' w', t ∈ tags → Bf o w → Stp t o w o' w' → Bf o' w') (hSR : AllSt bdl Rl) (hSE : AllSt ebl El) (hNN : AllN sts Rl) (hob : ObsS P ops n l0 Bf El Dl Rl tgl dsl esl 0 (ops.take Dl.length))
    (hfin : ∀ o w a, Fr a n l0 → Bf o w → Fin a o w Dl csl Rl → wpList P ops.toArray Q (ops.drop Dl.length) a w) : wpC P (.region id ops.toArray true) Q n l w := by
  intro a ha
  simp only [drawnSB, Bool.and_eq_true] at hchk
  obtain ⟨⟨⟨⟨⟨⟨⟨c1, c2⟩, c3⟩, c4⟩, c5⟩, c6⟩, c7⟩, c8⟩ := hchk
  have hh : Dl.length ≤ ops.length := by simpa using c1
  have h999 : 999 ∈ tags := by simpa using c2
  have htags : ∀ t, t ∈ tags → t ≠ 0 ∧ t ≤ 999 := fun t ht => by simpa using List.all_eq_true.1 c3 t ht
  have c4' : ∀ i, i < Dl.length → _ := fun i hi => List.all_eq_true.1 c4 i (List.mem_range.2 hi)
  simp only [Bool.and_eq_true] at c4'
  have c6' : ∀ e, e < ecl.length → _ := fun e he => List.all_eq_true.1 c6 e (List.mem_range.2 he)
  simp only [Bool.and_eq_true] at c6'
  refine wp_region_any hm ?_
  have hinv : HeadInv .any ops.toArray Dl.length (Array.replicate ops.toArray.size false) :=
    ⟨by simp, fun j oj _ hl => (by rw [getD_replicate_false] at hl; cases hl), fun t _ ht => getD_in (by simpa using ht) (getD_replicate_false _ _)⟩
  have hcnt : ((List.range Dl.length).filter fun i => !(Array.replicate ops.toArray.size false).getD i true).length = Dl.length := by
    rw [List.filter_eq_self.2]
    · simp
    · intro i hi
      have hi' := List.mem_range.1 hi
      have : (Array.replicate ops.toArray.size false).getD i true = false := getD_in (by simp; omega) (getD_replicate_false _ _)
      rw [this]; rfl
  have := oh_ (P := P) (Q := Q) (n := n) (h := Dl.length) (m := ecl.length) (l0 := l0) (ops := ops) (D := fun i => Dl.getD i 0) (ds := fun i => dsl.getD i []) (es := fun i => esl.getD i []) (cs := fun i => csl.getD i none)
    (R := fun i => Rl.getD i prT) (E := fun e => El.getD e prT) (Bf := Bf) (tg := fun i => tgl.getD i 999) (ec := fun e => ecl.getD e 0)
    (fun i hi o w a hf hb he hd op hop => by
      have := ObsS.get hob i op (by rw [List.getElem?_take, if_pos hi]; exact hop) o w a hf hb (by rw [Nat.zero_add]; exact Res.of he) (by rw [Nat.zero_add]; exact Deps.of hd)
      rw [Nat.zero_add] at this; exact this)
    (fun k o w o' w' hk hb hs => hSB _ o w o' w' (by have := (c4' k hk).2; simpa using this) hb hs)
    (fun e k o w o' w' he hk hne hE hs => by
      have h1 := (c4' k hk).2
      have h2 := List.all_eq_true.1 (c6' e he).2 k (List.mem_range.2 hk)
      simp only [Bool.or_eq_true, beq_iff_eq, decide_eq_true_eq] at h2
      rcases h2 with h2 | h2
      · exact absurd h2 hne
      · exact hSE.get e _ undef o w o' w' (htags _ (by simpa using h1)) h2 hE hs)
    (fun i k v o w o' w' hi hk hik hcs hno hR hs => by
      have h1 := (c4' k hk).2
      have h2 := List.all_eq_true.1 (c4' i hi).1.1.1.2 k (List.mem_range.2 hk)
      simp only [Bool.or_eq_true, Bool.and_eq_true, decide_eq_true_eq, beq_iff_eq] at h2
      rcases h2 with h2 | ⟨_, h2⟩
      · exact absurd h2.symm hik
      · rcases h2 with (h2 | h2) | h2
        · exact absurd h2 hcs
        rotate_left
        · obtain ⟨oj, hoj, e, he, hb, hon⟩ := Region.waitsFor_spec h2
          exact absurd hon (hno oj (by simpa using hoj) e he hb)
        · exact hSR.get i _ v o w o' w' (htags _ (by simpa using h1)) h2 hR hs)
    (fun i hi hDn v v' o w hR => by
      have h1 := (c4' i hi).1.1.1.1
      have hlt : i < ops.length := by omega
      have hop : ops[i]? = some (ops[i]'hlt) := List.getElem?_eq_getElem hlt
      simp only [List.getElem?_toArray, hop, Bool.or_eq_true, Bool.and_eq_true, decide_eq_true_eq] at h1
      rcases h1 with ⟨⟨_, h1⟩, _⟩ | ⟨_, h1⟩
      · omega
      · exact hNN.get i h1 v v' o w hR)
    (fun i hi => by
      obtain ⟨⟨⟨⟨g1, g4⟩, g5⟩, g6⟩, g7⟩ := c4' i hi
      have hlt : i < ops.length := by omega
      have hop : ops[i]? = some (ops[i]'hlt) := List.getElem?_eq_getElem hlt
      refine ⟨_, hop, ?_, fun j hj hji => ?_, fun j hj => ?_, fun e he => ?_⟩
      · simp only [List.getElem?_toArray, hop, Bool.or_eq_true, Bool.and_eq_true, decide_eq_true_eq, beq_iff_eq] at g1
        rcases g1 with ⟨⟨q1, q2⟩, q3⟩ | ⟨⟨q1, q2⟩, _⟩
        · exact .inl ⟨q1, q2, by rw [hbase]; simpa using q3⟩
        · exact .inr ⟨q1, q2⟩
      · have := List.all_eq_true.1 g4 j (List.mem_range.2 hj)
        simp only [Bool.or_eq_true, Bool.and_eq_true, decide_eq_true_eq] at this
        rcases this with h | h
        · exact absurd h hji
        · exact h.1
      · have := List.all_eq_true.1 g5 j hj
        simp only [Bool.and_eq_true, decide_eq_true_eq, Bool.or_eq_true, beq_iff_eq] at this
        obtain ⟨⟨k1, k2⟩, k3⟩ := this
        obtain ⟨oj, hoj, e, he, hb, hon⟩ := Region.waitsFor_spec k2
        have : oj = ops[i]'hlt := by
          simp only [List.getElem?_toArray, hop] at hoj
          exact (Option.some.inj hoj).symm
        subst this
        exact ⟨k1, ⟨e, he, hb, hon⟩, k3⟩
      · have := List.all_eq_true.1 g6 e he
        simp only [Bool.and_eq_true, decide_eq_true_eq, Bool.or_eq_true, beq_iff_eq] at this
        refine ⟨this.1, this.2.imp (fun h => h) fun h => ?_⟩
        obtain ⟨ok, hok, e', he', hb, hon⟩ := Region.waitsFor_spec h
        exact ⟨ok, by simpa using hok, e', he', hb, hon⟩)
    (fun i op hop e he hb => by
      have hlt : i < ops.length := (List.getElem?_eq_some_iff.1 hop).1
      have := List.all_eq_true.1 c5 i (List.mem_range.2 (by simpa using hlt))
      simp only [List.getElem?_toArray, hop] at this
      have h2 := Array.all_eq_true_iff_forall_mem.1 this e he
      simp only [Bool.or_eq_true, Bool.not_eq_true', decide_eq_true_eq] at h2
      rcases h2 with h2 | h2
      · rw [hb] at h2; cases h2
      · exact h2)
    hh
    (fun listed hI i hi hil t ht hr => by
      simp only [Bool.or_eq_true, Bool.and_eq_true, decide_eq_true_eq] at c7
      rcases c7 with c7 | ⟨c7, c7'⟩
      · obtain ⟨_, ot, hot, _⟩ := mem_ready.1 hr
        have := (Array.getElem?_eq_some_iff.1 hot).1
        omega
      · by_cases hn : Dl.length < ops.toArray.size
        · exact tail_waits c7 c7' hn hI _ i rfl hi hil t ht hr
        · obtain ⟨_, ot, hot, _⟩ := mem_ready.1 hr
          have := (Array.getElem?_eq_some_iff.1 hot).1
          omega)
    (by simpa using c8)
    (fun a o w hf hb hd => hfin o w a hf hb (Fin.of hd))
    Dl.length (Array.replicate ops.toArray.size false) a { w with drawn := w.drawn + 1 } o
    ⟨ha.sub hsub, hSB 999 o w o _ h999 hB0 (hZ_ o w 999), fun i hi hl => (by rw [getD_replicate_false] at hl; cases hl), fun e he _ => by
      have h1 := (c6' e he).1
      simp only [decide_eq_true_eq] at h1
      exact hSE.get e 999 undef o w o _ (htags 999 h999) (fun h => h1 h.symm) (hE0.get e) (hZ_ o w 999)⟩ hinv hcnt
  rw [show Dl.length + (ops.length - Dl.length) = ops.toArray.size by simp; omega] at this
  exact this
end

end Go.Proofs.YtdbbeldgdgonfaaGreat
