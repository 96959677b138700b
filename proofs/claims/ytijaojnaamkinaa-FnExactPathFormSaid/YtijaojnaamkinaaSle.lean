/- impl.sortedLists: the contract. -/
import Derived.Test.YtijaojnaamkinaaSld
namespace Go.Proofs.Ytijaojnaamkinaa
open Go.RowKit
set_option linter.unusedSimpArgs false
set_option linter.unusedVariables false

theorem kp_sor {L : Nat} (ps : List Pv) (hL : ∀ p ∈ ps, p.x.length = L) (hs : ps.Pairwise fun a b => ¬ ordL b.x a.x < 0) : sorS ((kp ps ps.length).map (·.x)) ∧ ∀ z, z ∈ (kp ps ps.length).map (·.x) ↔ z ∈ ps.map (·.x) := by
  have hat : ∀ i, i < ps.length → at' ps i ∈ ps := fun i hi => List.mem_of_getElem? (at_get hi)
  have hpw : ∀ i j, i < j → j < ps.length → ¬ ordL (at' ps j).x (at' ps i).x < 0 := fun i j hij hj => by
    have := List.pairwise_iff_getElem.1 hs i j (by omega) hj hij
    have e1 : ps[i]'(by omega) = at' ps i := by have := at_get (ps := ps) (j := i) (by omega); rw [List.getElem?_eq_getElem (by omega)] at this; exact Option.some.inj this
    have e2 : ps[j] = at' ps j := by have := at_get (ps := ps) (j := j) hj; rw [List.getElem?_eq_getElem hj] at this; exact Option.some.inj this
    rw [e1, e2] at this
    exact this
  have hle : ∀ i j, i ≤ j → j < ps.length → (at' ps i).x = (at' ps j).x ∨ ordL (at' ps i).x (at' ps j).x < 0 := fun i j hij hj => by
    by_cases e : i = j
    · subst e; exact .inl rfl
    · have h1 := hpw i j (by omega) hj
      have h2 := lx_anti (at' ps i).x (at' ps j).x
      by_cases h0 : ordL (at' ps i).x (at' ps j).x = 0
      · exact .inl ((lx_zero (by rw [hL _ (hat i (by omega)), hL _ (hat j hj)])).1 h0)
      · exact .inr (by omega)
  constructor
  · unfold sorS kp
    rw [List.map_map, List.pairwise_map]
    have hr : (List.range ps.length).Pairwise (· < ·) := List.pairwise_lt_range
    refine List.Pairwise.imp_of_mem (fun {i j} hi hj hij => ?_) (hr.filter (kc ps))
    have hj1 := List.mem_range.1 (List.mem_filter.1 hj).1
    have hj2 := (List.mem_filter.1 hj).2
    unfold kc at hj2
    rw [decide_eq_true_eq] at hj2
    have hne : (at' ps j).x ≠ (at' ps (j - 1)).x := by rcases hj2 with h | h; · omega
                                                       · exact h
    have hlt : ordL (at' ps (j - 1)).x (at' ps j).x < 0 := by
      rcases hle (j - 1) j (by omega) hj1 with h | h
      · exact absurd h.symm hne
      · exact h
    show ordL (at' ps i).x (at' ps j).x < 0
    rcases hle i (j - 1) (by omega) (by omega) with h | h
    · rw [h]; exact hlt
    · exact lx_trans (by rw [hL _ (hat i (by omega)), hL _ (hat (j - 1) (by omega))]) (by rw [hL _ (hat j hj1), hL _ (hat (j - 1) (by omega))]) h hlt
  · intro z
    constructor
    · intro hz
      obtain ⟨p, hp, rfl⟩ := List.mem_map.1 hz
      exact List.mem_map.2 ⟨p, (kp_sub ps).subset hp, rfl⟩
    · intro hz
      obtain ⟨p, hp, rfl⟩ := List.mem_map.1 hz
      obtain ⟨i, hi⟩ := List.getElem?_of_mem hp
      have hil := (List.getElem?_eq_some_iff.1 hi).1
      have : ∀ i, i < ps.length → (at' ps i).x ∈ (kp ps ps.length).map (·.x) := by
        intro i
        induction i with
        | zero =>
          intro h
          refine List.mem_map.2 ⟨_, List.mem_map.2 ⟨0, List.mem_filter.2 ⟨List.mem_range.2 h, by simp [kc]⟩, rfl⟩, rfl⟩
        | succ i ih =>
          intro h
          by_cases hc : kc ps (i + 1) = true
          · exact List.mem_map.2 ⟨_, List.mem_map.2 ⟨i + 1, List.mem_filter.2 ⟨List.mem_range.2 h, hc⟩, rfl⟩, rfl⟩
          · have : (at' ps (i + 1)).x = (at' ps i).x := by
              unfold kc at hc
              rw [decide_eq_true_eq] at hc
              exact Classical.byContradiction fun h => hc (.inr (by simpa using h))
            rw [this]
            exact ih (by omega)
      have e1 := at_get hil
      rw [hi] at e1
      cases e1
      exact this i hil
theorem e_sorted (ps ps1 : List Pv) {L : Nat} (hL : ∀ p ∈ ps, p.x.length = L) (hp : ps1.Perm ps) (hs : ps1.Pairwise fun a b => ¬ ordL b.x a.x < 0) : (kp ps1 ps1.length).map (·.x) = sxd (ps.map (·.x)) := by
  have hL1 : ∀ p ∈ ps1, p.x.length = L := fun p hp1 => hL p (hp.subset hp1)
  obtain ⟨h1, h2⟩ := kp_sor ps1 hL1 hs
  obtain ⟨h3, h4⟩ := fold_sxd (L := L) (ps.map (·.x)) [] (fun z hz => by obtain ⟨p, hp, rfl⟩ := List.mem_map.1 hz; exact hL p hp) (by simp) List.Pairwise.nil
  refine sor_uniq (L := L) (fun z hz => ?_) h1 h3 fun z => ?_
  · obtain ⟨p, hp1, rfl⟩ := List.mem_map.1 hz
    exact hL1 p ((kp_sub ps1).subset hp1)
  · unfold sxd
    rw [h2, h4]
    constructor
    · intro h
      obtain ⟨p, hp1, rfl⟩ := List.mem_map.1 h
      exact .inr (List.mem_map.2 ⟨p, hp.subset hp1, rfl⟩)
    · rintro (h | h)
      · cases h
      · obtain ⟨p, hp1, rfl⟩ := List.mem_map.1 h
        exact List.mem_map.2 ⟨p, hp.symm.subset hp1, rfl⟩
/-! ### Memory -/
def apV (a b : Pv) : Prop := ∀ g, a.v.ownBlock = some g → b.v.ownBlock ≠ some g
def sl2 (w : World) (G : Nat) : World := { w with heap := w.heap.extract 0 G }
set_option maxRecDepth 100000 in
set_option maxHeartbeats 2000000 in
theorem cI_sortedLists {B k kr : Nat} {o : Tg} {w : World} {v : Value} {vs : List Hv} {xs ys : List (List Int)} (h : Ow B 23 k o w v vs) (hr : Rws B 3 kr o w vs xs) (hk : k ≠ 0) (hkr : kr ≠ 0) (hne : kr ≠ k) (hB : B ≤ w.heap.size) (hF : srtL xs = some ys) :
    Calls Try.prog 109 #[v] w fun e w' => ∃ v' vs' o', e = .returned v' ∧ Ow B 23 k o' w' v' vs' ∧ Rws B 3 kr o' w' vs' ys ∧ Stp k o w o' w' := by
  unfold srtL at hF
  split at hF
  rotate_left
  · cases hF
  rename_i hcond
  obtain ⟨hl, hL1, hL⟩ := hcond
  cases hF
  generalize (xs.headD []).length = L at hL1 hL
  -- the rows under their values
  obtain ⟨r1, r2, r3⟩ := hr
  let ps : List Pv := List.zipWith (fun u x => (⟨u.v, x⟩ : Pv)) vs xs
  have hpl : ps.length = xs.length := by show (List.zipWith _ vs xs).length = _; rw [List.length_zipWith, r1, Nat.min_self]
  have hpi : ∀ (i : Nat) (u : Hv) (x : List Int), vs[i]? = some u → xs[i]? = some x → ps[i]? = some (⟨u.v, x⟩ : Pv) := fun i u x a b => by
    show (List.zipWith _ vs xs)[i]? = _
    rw [List.getElem?_zipWith, a, b]
  have hpx : ps.map (·.x) = xs := by
    apply List.ext_getElem?
    intro i
    by_cases hi : i < xs.length
    · rw [List.getElem?_map, hpi i (vs[i]'(by omega)) xs[i] (List.getElem?_eq_getElem (by omega)) (List.getElem?_eq_getElem hi), List.getElem?_eq_getElem hi]; rfl
    · rw [List.getElem?_eq_none (by rw [List.length_map, hpl]; omega), List.getElem?_eq_none (by omega)]
  have hpe : ∀ (i : Nat) (p : Pv), ps[i]? = some p → vs[i]? = some (⟨p.v⟩ : Hv) ∧ xs[i]? = some p.x := fun i p hp => by
    have hi : i < xs.length := by have := (List.getElem?_eq_some_iff.1 hp).1; omega
    have := hpi i (vs[i]'(by omega)) xs[i] (List.getElem?_eq_getElem (by omega)) (List.getElem?_eq_getElem hi)
    rw [hp] at this
    cases this
    exact ⟨List.getElem?_eq_getElem (by omega), List.getElem?_eq_getElem hi⟩
  have hrow : ∀ p ∈ ps, Ow B 3 kr o w p.v p.x := fun p hp => by
    obtain ⟨i, hi⟩ := List.getElem?_of_mem hp
    obtain ⟨a, b⟩ := hpe i p hi
    exact r2 i ⟨p.v⟩ p.x a b
  have hpL : ∀ p ∈ ps, p.x.length = L := fun p hp => hL p.x (by rw [← hpx]; exact List.mem_map.2 ⟨p, hp, rfl⟩)
  have hap : ps.Pairwise apV := by
    rw [List.pairwise_iff_getElem]
    intro i j hi hj hij g h1 h2
    obtain ⟨a1, b1⟩ := hpe i _ (List.getElem?_eq_getElem hi)
    obtain ⟨a2, b2⟩ := hpe j _ (List.getElem?_eq_getElem hj)
    have := r3 i j _ _ g a1 a2 h1 h2
    omega
  let o2 : Tg := frz kr o
  have ho2 : ∀ b, o b = k → o2 b = k := fun b hb => by show (if o b = kr then 0 else o b) = k; rw [hb, if_neg (Ne.symm hne)]
  have ho2' : ∀ b, o2 b = k → o b = k := fun b hb => by
    have hb : (if o b = kr then 0 else o b) = k := hb
    split at hb
    · exact absurd hb.symm hk
    · exact hb
  have hrd2 : ∀ p ∈ ps, RdL o2 w p.v p.x := fun p hp => (hrow p hp).frz
  have hsp : Ow B 23 k o2 w v ps := by
    obtain ⟨css, c1, c2, c3, c4⟩ := h
    refine ⟨css, by rw [c1, r1, hpl], ?_, fun g hg => ho2 g (c3 g hg), fun i cs p hc hp => ?_⟩
    · rw [hpl, ← r1]; exact c2
    · obtain ⟨a, b⟩ := hpe i p hp
      obtain ⟨q1, q2⟩ := c4 i cs _ hc a
      exact ⟨q1, q2, hrd2 p (List.mem_of_getElem? hp)⟩
  clear h r2 r3
  refine calls_start (n := 7) (vs := [v]) Try.func109 rfl rfl ?_
  refine wpC_seq ?_
  refine wpC_region ?_
  refine st_val (ex_assign rfl) (by decide) trivial ?_
  refine wpF_end (r := [(0, v)]) ⟨rfl, trivial⟩ ?_
  refine nx ?_
  refine wpC_seq ?_
  refine wpC_region ?_
  refine st_val (ex_move rfl) (by decide) trivial ?_
  refine st_op (by decide) trivial ?_
  refine wf_call (cX_SortFunc hsp hk hpL (by omega)) Try.call137 ⟨rfl, rfl, trivial⟩ ?_
  rintro e1 w1 ⟨rfl, ps1, hperm, hsor, hsp1, hst1⟩
  refine ⟨_, rfl, ?_⟩
  refine wpF_end (r := [(0, v)]) ⟨rfl, trivial⟩ ?_
  refine nx ?_
  -- as the second call sees it
  let G : Nat := match v.ownBlock with | some g => g | none => w1.heap.size
  let wb : World := sl2 w1 G
  let oo : Tg := fun b => if o2 b = 0 then 0 else 1
  let o10 : Tg := fun b => if v.ownBlock = some b then 10 else if o2 b = 0 then 0 else 1
  have hGw : G ≤ w1.heap.size := by
    show (match v.ownBlock with | some g => g | none => w1.heap.size) ≤ _
    cases hv : v.ownBlock with
    | none => exact Nat.le_refl _
    | some g => exact Nat.le_of_lt (hsp1.ltw g hv).2
  have hBG : B ≤ G := by
    show B ≤ (match v.ownBlock with | some g => g | none => w1.heap.size)
    cases hv : v.ownBlock with
    | none => exact Nat.le_trans hB hst1.size
    | some g => exact (hsp1.ltw g hv).1
  have hwb : wb.heap.size = G := by show (w1.heap.extract 0 G).size = G; simp; omega
  have hog : ∀ g, v.ownBlock = some g → o2 g = k := hsp1.tagged
  have hBs : Bs oo o10 wb w1 := by
    refine ⟨⟨rfl, rfl, rfl, by rw [hwb]; exact hGw, fun b hb => ?_⟩, fun b hb => ?_⟩
    · show w1.heap[b]? = (w1.heap.extract 0 G)[b]?
      rw [Array.getElem?_extract]
      rw [hwb] at hb
      rw [if_pos (by omega)]; simp
    · rw [hwb] at hb
      show (if v.ownBlock = some b then 10 else if o2 b = 0 then 0 else 1) = if (if o2 b = 0 then 0 else 1) = 0 then 0 else 1
      rw [if_neg (fun e => by
        have : G = b := by show (match v.ownBlock with | some g => g | none => w1.heap.size) = b; rw [e]
        omega)]
      split <;> simp
  have hO : ∀ b, b < w1.heap.size → o10 b ≠ 999 := fun b _ => by
    show (if v.ownBlock = some b then 10 else if o2 b = 0 then 0 else 1) ≠ 999
    split
    · decide
    · split <;> decide
  have h10 : ∀ b, o2 b = 0 → o10 b = 0 := fun b hb => by
    show (if v.ownBlock = some b then 10 else if o2 b = 0 then 0 else 1) = 0
    rw [if_neg (fun e => by have := hog b e; rw [hb] at this; exact hk this.symm), if_pos hb]
  have hsp2 : Ow wb.heap.size 23 10 o10 w1 v ps1 := by
    obtain ⟨css, c1, c2, c3, c4⟩ := hsp1
    refine ⟨css, c1, ⟨c2.1, ?_⟩, fun g hg => if_pos hg, fun i cs p hc hp => ?_⟩
    · rcases c2.2 with q | ⟨g, cap, cur, rfl, q⟩
      · exact .inl q
      · refine .inr ⟨g, cap, cur, rfl, ?_, q.2⟩
        rw [hwb]
        exact Nat.le_refl _
    · obtain ⟨q1, q2, q3⟩ := c4 i cs p hc hp
      exact ⟨q1, q2, q3.mv (Nat.le_refl _) fun b _ hb => ⟨rfl, h10 b hb⟩⟩
  have hl1 : ps1.length ≤ 1000000000 := by rw [hperm.length_eq]; omega
  refine wpC_seq ?_
  refine wpC_region ?_
  refine st_val (ex_move rfl) (by decide) trivial ?_
  refine st_op (by decide) trivial ?_
  refine wf_call (cX_slices_CompactFunc_LLint_int 1000000001 wb w1 oo o10 hBs hO v ps1 hsp2 _ (e_Compact ps1 hl1 (fun p hp => by have := hpL p (hperm.subset hp); omega) 1000000001 (by omega))) Try.call138 ⟨rfl, rfl, trivial⟩ ?_
  rintro e2 w2 ⟨v2, o3, rfl, hsp3, hBs3, hst2⟩
  refine ⟨_, rfl, ?_⟩
  refine st_val (ex_assign rfl) (by decide) trivial ?_
  refine wpF_end (r := [(2, v2)]) ⟨rfl, trivial⟩ ?_
  refine nx ?_
  refine wpC_ret ?_
  refine ret_post (P := Try.prog) (vs := [v2]) Try.results109 ⟨rfl, trivial⟩ ?_
  -- what is left
  have hxs := e_sorted ps ps1 hpL hperm hsor
  rw [hpx] at hxs
  have hsub : (kp ps1 ps1.length).Sublist ps1 := kp_sub ps1
  generalize kp ps1 ps1.length = r at hsp3 hxs hsub
  have hmem : ∀ p ∈ r, p ∈ ps := fun p hp => hperm.subset (hsub.subset hp)
  let o' : Tg := fun b => if b < w.heap.size then o b else if o3 b = 10 then k else 0
  have hstep : Stp k o w o' w2 := by
    refine ⟨hst2.os.trans hst1.os, hst2.tape.trans hst1.tape, hst2.output.trans hst1.output, Nat.le_trans hst1.size hst2.size, fun b hb hnk => ?_, fun b hb => if_pos hb⟩
    have e1 := hst1.block b hb (fun e => hnk (ho2' b e))
    have e2 := hst2.block b (Nat.lt_of_lt_of_le hb hst1.size) (fun e => by
      have e : (if v.ownBlock = some b then 10 else if o2 b = 0 then 0 else 1) = 10 := e
      split at e
      · rename_i hv
        exact hnk (ho2' b (hog b hv))
      · split at e <;> cases e)
    exact e2.trans e1
  have hrow2 : ∀ p ∈ r, Ow B 3 kr o' w2 p.v p.x := fun p hp => (hrow p (hmem p hp)).stp hstep hk hne
  have hapr : r.Pairwise apV := (hperm.symm.pairwise hap (fun {a b} hab g h1 h2 => hab g h2 h1)).sublist hsub
  refine ⟨v2, r.map fun p => ⟨p.v⟩, o', rfl, ?_, ⟨?_, ?_, ?_⟩, hstep⟩
  · obtain ⟨css, c1, c2, c3, c4⟩ := hsp3
    refine ⟨css, by simpa using c1, ?_, fun g hg => ?_, fun i cs u hc hu => ?_⟩
    · rw [List.length_map]
      obtain ⟨q1, q2⟩ := c2
      refine ⟨q1, ?_⟩
      rcases q2 with q2 | ⟨g, cap, cur, e, q3, q4⟩
      · exact .inl q2
      · rw [hwb] at q3
        exact .inr ⟨g, cap, cur, e, Nat.le_trans hBG q3, q4⟩
    · have e3 := c3 g hg
      show (if g < w.heap.size then o g else if o3 g = 10 then k else 0) = k
      split
      · rename_i hgl
        have hgl1 : g < w1.heap.size := Nat.lt_of_lt_of_le hgl hst1.size
        have e4 := hst2.own g hgl1
        rw [e3] at e4
        have e5 : (if v.ownBlock = some g then 10 else if o2 g = 0 then 0 else 1) = 10 := e4.symm
        split at e5
        · rename_i hv
          exact ho2' g (hog g hv)
        · split at e5 <;> cases e5
      · simp
    · rw [List.getElem?_map] at hu
      cases hp : r[i]? with
      | none => rw [hp] at hu; cases hu
      | some p =>
        rw [hp] at hu
        cases hu
        obtain ⟨q1, q2, _⟩ := c4 i cs p hc hp
        exact ⟨q1, q2⟩
  · rw [List.length_map, ← hxs, List.length_map]
  · intro i u x hu hx
    rw [List.getElem?_map] at hu
    rw [← hxs, List.getElem?_map] at hx
    cases hp : r[i]? with
    | none => rw [hp] at hu; cases hu
    | some p =>
      rw [hp] at hu hx
      cases hu; cases hx
      exact hrow2 p (List.mem_of_getElem? hp)
  · intro i j u u' g hu hu' h1 h2
    rw [List.getElem?_map] at hu hu'
    cases hp : r[i]? with
    | none => rw [hp] at hu; cases hu
    | some p =>
      cases hq : r[j]? with
      | none => rw [hq] at hu'; cases hu'
      | some q =>
        rw [hp] at hu
        rw [hq] at hu'
        cases hu; cases hu'
        obtain ⟨hi, ei⟩ := List.getElem?_eq_some_iff.1 hp
        obtain ⟨hj, ej⟩ := List.getElem?_eq_some_iff.1 hq
        have hpw := List.pairwise_iff_getElem.1 hapr
        rcases Nat.lt_trichotomy i j with hlt | heq | hgt
        · have := hpw i j hi hj hlt g
          rw [ei, ej] at this
          exact absurd h2 (this h1)
        · exact heq
        · have := hpw j i hj hi hgt g
          rw [ei, ej] at this
          exact absurd h1 (this h2)
end Go.Proofs.Ytijaojnaamkinaa
