/- slices.SortFunc on a list of rows that is one's own. -/
import Derived.Test.YtijaojnaamkinaaKpv
import Derived.Test.YtijaojnaamkinaaCmx
import Derived.Test.YtijaojnaamkinaaPb
import Derived.Test.YtijaojnaamkinaaSlp
import Derived.Test.YtijaojnaamkinaaLayF
import Derived.Sort.OwnSorted
namespace Go.Proofs.Ytijaojnaamkinaa
open Go.RowKit Go.Sort Go.Shelf
set_option linter.unusedSimpArgs false
set_option linter.unusedVariables false

/-! ### The sort -/
/-- Whatever may be read without the block g. -/
def ngT (g : Nat) : Tg := fun b => if b = g then 1 else 0
def PvS (g : Nat) (w : World) (L : Nat) : Type := {p : Pv // RdL (ngT g) w p.v p.x ∧ p.x.length = L}
theorem sortWorld_block {α : Type} [Inhabited α] (enc : α → Value) (w : World) (g m : Nat) (dk : Array α) (os : Array Obj) : w.heap.size ≤ (sortWorld enc w g 0 m dk os).heap.size ∧ ∀ b, b < w.heap.size → b ≠ g → (sortWorld enc w g 0 m dk os).heap[b]? = w.heap[b]? := by
  unfold sortWorld
  refine ⟨by simp, fun b hb hne => ?_⟩
  rw [heap_grow_old _ _ (by simpa using hb)]
  have : g ≠ b := fun e => hne e.symm
  simp [putRow, mapBlock, Sort.ahead, Array.getElem?_modify, this]
set_option maxHeartbeats 1000000 in
theorem cX_SortFunc {B k : Nat} {o : Tg} {w : World} {v : Value} {ps : List Pv} {L : Nat} (h : Ow B 23 k o w v ps) (hk : k ≠ 0) (hL : ∀ p ∈ ps, p.x.length = L) (hl : ps.length ≤ 1000000000) :
    Calls Try.prog 137 #[v, .func (.func 107) #[] #[]] w fun e w' => e = .returned (.tuple #[]) ∧ ∃ ps', ps'.Perm ps ∧ ps'.Pairwise (fun a b => ¬ ordL b.x a.x < 0) ∧ Ow B 23 k o w' v ps' ∧ Stp k o w o w' := by
  by_cases hps : ps = []
  · subst hps
    obtain ⟨a, c, rfl⟩ := h.form
    have hc := AnyF.slices_SortFunc_none (P := Try.prog) (ρ := Try.laysSortF_ren) { Try.laysSortF with } a c (.func (.func 107) #[] #[]) w
    refine Calls.mono hc ?_
    rintro e w' ⟨rfl, rfl⟩
    exact ⟨rfl, [], List.Perm.refl _, List.Pairwise.nil, h, Stp.refl _ _ _⟩
  · obtain ⟨css, h1, h2, h3, h4⟩ := id h
    have hlz := Ow.lens (e := 23) (B := B) h1 h4
    rcases h2.2 with ⟨_, h0⟩ | ⟨g, cap, cur, rfl, hbase, hb, hn, hcap, hsz, htk⟩
    · exact absurd (List.eq_nil_of_length_eq_zero h0) hps
    · have hog : o g = k := h3 g rfl
      have hgl : g < w.heap.size := (Array.getElem?_eq_some_iff.1 hb).1
      have hrd : ∀ p ∈ ps, RdL o w p.v p.x := fun p hp => by
        obtain ⟨i, hi⟩ := List.getElem?_of_mem hp
        have hil := (List.getElem?_eq_some_iff.1 hi).1
        exact (h4 i (css[i]'(by omega)) p (List.getElem?_eq_getElem (by omega)) hi).2.2
      have hfl : css.flatten = ps.map (·.v) := by
        have : ∀ (css : List (List Value)) (ps : List Pv), css.length = ps.length → (∀ (i : Nat) cs x, css[i]? = some cs → ps[i]? = some x → Rp.rd o w cs x) → css.flatten = ps.map (·.v) := by
          intro css
          induction css with
          | nil => intro ps hl _; cases ps with
            | nil => rfl
            | cons a l => simp at hl
          | cons c css ih => intro ps hl hh; cases ps with
            | nil => simp at hl
            | cons a l =>
              obtain ⟨e0, _⟩ := hh 0 c a rfl rfl
              rw [List.flatten_cons, ih l (by simpa using hl) fun i cs x a b => hh (i + 1) cs x (by simpa using a) (by simpa using b), e0]
              rfl
        exact this css ps h1 h4
      rw [hfl] at htk
      have htk' : cur.toList.take ps.length = ps.map (·.v) := by
        have : ps.length * Rp.sz Pv = ps.length := Nat.mul_one _
        rw [this] at htk; exact htk
      have hng : ∀ p ∈ ps, RdL (ngT g) w p.v p.x ∧ p.x.length = L := fun p hp => ⟨(hrd p hp).mv (Nat.le_refl _) fun b _ hb0 => ⟨rfl, by
        unfold ngT
        rw [if_neg]
        intro e
        rw [e, hog] at hb0
        exact hk hb0⟩, hL p hp⟩
      let α := PvS g w L
      let d0 : List α := ps.pmap (fun p hp => (⟨p, hp⟩ : α)) hng
      have hd0 : d0.map (fun a => a.1) = ps := by
        show (ps.pmap (fun p hp => (⟨p, hp⟩ : PvS g w L)) hng).map (fun a => a.1) = ps
        rw [List.map_pmap]
        simp
      have hd0l : d0.length = ps.length := by rw [← hd0, List.length_map]
      obtain ⟨a0, ha0⟩ : ∃ a : α, a ∈ d0 := by
        cases hq : d0 with
        | nil => rw [hq] at hd0l; exact absurd (List.eq_nil_of_length_eq_zero hd0l.symm) hps
        | cons a l => exact ⟨a, by simp⟩
      haveI : Inhabited α := ⟨a0⟩
      let enc : α → Value := fun a => a.1.v
      let cf : α → α → Int := fun a b => ordL a.1.x b.1.x
      have hone : OneCell enc := fun a => a.2.1.one1
      have hO : SWO (ltOf cf) := by
        constructor
        · intro x
          show decide (ordL x.1.x x.1.x < 0) = false
          rw [(lx_zero rfl).2 rfl]; rfl
        · intro x y z h1 h2
          have h1 : ordL x.1.x y.1.x < 0 := of_decide_eq_true h1
          have h2 : ordL y.1.x z.1.x < 0 := of_decide_eq_true h2
          exact decide_eq_true (lx_trans (by rw [x.2.2, y.2.2]) (by rw [y.2.2, z.2.2]) h1 h2)
        · intro x y z h1 h2
          have h1 : ¬ ordL x.1.x y.1.x < 0 := of_decide_eq_false h1
          have h2 : ¬ ordL y.1.x z.1.x < 0 := of_decide_eq_false h2
          exact decide_eq_false (lx_ntrans (by rw [x.2.2, y.2.2]) (by rw [y.2.2, z.2.2]) h1 h2)
      have hdsz : d0.toArray.size = ps.length := by simp [hd0l]
      have hcmp : CmpLays1 Try.prog 107 #[] enc cf g 0 d0.toArray.size w := by
        intro m os dk _ x y
        obtain ⟨q1, q2⟩ := sortWorld_block enc w g m dk os
        have rz : ∀ z : α, RdL zt (sortWorld enc w g 0 m dk os) z.1.v z.1.x := fun z => z.2.1.mv q1 fun b hb0 hz0 => ⟨q2 b hb0 fun e => by subst e; simp [ngT] at hz0, rfl⟩
        have := Ex.cX_slices_Compare_int_int (sortWorld enc w g 0 m dk os) (enc x) x.1.x (rz x) (enc y) y.1.x (rz y) (cf x y) (e_Compare _ _ (by rw [x.2.2, y.2.2]))
        refine Calls.mono this ?_
        rintro e w' ⟨rfl, hk⟩
        exact ⟨rfl, hk.grown⟩
      have hH : Holds enc w g 0 d0.toArray := by
        intro j hj
        rw [hdsz] at hj
        refine ⟨?_, by simp [World.frozen?, hb]⟩
        have e1 : (cur.toList.take ps.length)[j]? = (ps.map (·.v))[j]? := by rw [htk']
        rw [List.getElem?_take_of_lt hj] at e1
        simp only [World.cell?, hb, Nat.zero_add]
        simp only [Option.isSome_none, Bool.false_eq_true, if_false]
        rw [← Array.getElem?_toList, e1]
        have e2 : (d0.map fun a => a.1)[j]? = ps[j]? := by rw [hd0]
        rw [List.getElem?_map] at e2 ⊢
        rw [← e2]
        rw [getElem!_pos _ j (by rw [hdsz]; exact hj)]
        rw [List.getElem?_eq_getElem (by omega)]
        simp [enc]
      have hS := Any.slices_SortFunc Try.laysSortF enc hone cf hO 107 #[] g 0 cap d0.toArray w Try.call107 hcmp hH hgl (by rw [hdsz]; omega)
      rw [hdsz] at hS
      refine Calls.mono hS ?_
      rintro e w' ⟨rfl, d', n, os, hP, hSo, rfl⟩
      obtain ⟨p1, -, p3⟩ := hP
      have hd'sz : d'.size = ps.length := by rw [p1, hdsz]
      have hperm : (d'.toList.map fun a => a.1).Perm ps := by
        have e1 : (d'.extract 0 ps.length).toList = d'.toList := by rw [← hd'sz]; simp
        have e2 : (d0.toArray.extract 0 ps.length).toList = d0 := by rw [← hdsz]; simp
        rw [e1, e2] at p3
        have := p3.map fun a => a.1
        rw [hd0] at this
        exact this
      obtain ⟨q1, q2⟩ := sortWorld_block enc w g n d' os
      have hst : Stp k o w o (sortWorld enc w g 0 n d' os) := ⟨rfl, rfl, rfl, q1, fun b hb0 hne => q2 b hb0 fun e => hne (by rw [e, hog]), fun _ _ => rfl⟩
      refine ⟨rfl, d'.toList.map fun a => a.1, hperm, ?_, ?_, hst⟩
      · rw [List.pairwise_map, List.pairwise_iff_getElem]
        intro i j hi hj hij
        have hj' : j < d'.size := by simpa using hj
        have := hSo i j (Nat.zero_le _) hij (by omega)
        rw [getElem!_pos _ i (by omega), getElem!_pos _ j hj'] at this
        exact of_decide_eq_false this
      · have hlen : (d'.toList.map fun a => a.1).length = ps.length := hperm.length_eq
        have hheap : (sortWorld enc w g 0 n d' os).heap[g]? = some (.cells (putCells enc 0 d' cur) 23 (0, 0)) := by
          unfold sortWorld
          rw [heap_grow_old _ _ (by simpa using hgl)]
          simp [putRow, mapBlock, Sort.ahead, Array.getElem?_modify, hb, onCells]
        have hcsz : cur.size = cap := by rw [hsz]; exact Nat.mul_one _
        refine ⟨(d'.toList.map fun a => a.1).map fun p => [p.v], by simp, ?_, h3, fun i cs p hc hp => ?_⟩
        · have hf2 : ∀ l : List Pv, (l.map fun p => [p.v]).flatten = l.map (·.v) := by
            intro l
            induction l with
            | nil => rfl
            | cons a l ih => simp [List.flatten_cons, ih]
          rw [hf2, hlen]
          refine ⟨by rw [List.length_map, hlen]; exact (Nat.mul_one _).symm, .inr ⟨g, cap, _, rfl, hbase, hheap, hn, hcap, by simp [putCells]; rw [hcsz]; exact (Nat.mul_one _).symm, ?_⟩⟩
          show (putCells enc 0 d' cur).toList.take (ps.length * 1) = _
          rw [Nat.mul_one, ← hd'sz]
          apply List.ext_getElem?
          intro j
          by_cases hj : j < d'.size
          · rw [List.getElem?_take_of_lt hj, Array.getElem?_toList]
            simp [putCells, hj, show j < cur.size by omega, enc]
          · rw [List.getElem?_take_eq_none (by omega), List.getElem?_eq_none (by simp; omega)]
        · rw [List.getElem?_map, hp] at hc
          cases hc
          have hm : p ∈ ps := hperm.subset (List.mem_of_getElem? hp)
          exact rd_pv ((hrd p hm).stp hst hk)
end Go.Proofs.Ytijaojnaamkinaa
