/- Isomorphisms of networks: what knows no program. -/
import Derived.Test.YtijaojnaamkinaaNc
namespace Go.Proofs.Ytijaojnaamkinaa
set_option linter.unusedSimpArgs false
set_option linter.unusedVariables false

/-! ### Equal codes -/
theorem flat_parse {α β : Type} (F : α → List Int) (G : β → List Int) (hF : ∀ x, ∃ (d : Nat) (t : List Int), F x = (d : Int) :: t ∧ t.length = 2 + 2 * d) (hG : ∀ x, ∃ (d : Nat) (t : List Int), G x = (d : Int) :: t ∧ t.length = 2 + 2 * d) :
    ∀ (W : List α) (V : List β), W.flatMap F = V.flatMap G → W.length = V.length
  | [], [], _ => rfl
  | [], v :: V, h => by
    obtain ⟨d, t, e, _⟩ := hG v
    rw [List.flatMap_cons, e] at h
    simp at h
  | w :: W, [], h => by
    obtain ⟨d, t, e, _⟩ := hF w
    rw [List.flatMap_cons, e] at h
    simp at h
  | w :: W, v :: V, h => by
    obtain ⟨d, t, e, hl⟩ := hF w
    obtain ⟨d', t', e', hl'⟩ := hG v
    simp only [List.flatMap_cons, e, e', List.cons_append, List.cons.injEq] at h
    have hd : d = d' := by omega
    subst hd
    have h2 := (List.append_inj h.2 (by omega)).2
    simp [flat_parse F G hF hG W V h2]
theorem codeN_inj {p q : T_Network} {W V : List Int} (h : codeN p W = codeN q V) : W.length = V.length := by
  refine flat_parse _ _ (fun x => ⟨(rowAt p x).length, p.Inputs.getD x.toNat 0 :: idAt p x :: rowCode W (rowAt p x), rfl, ?_⟩) (fun x => ⟨(rowAt q x).length, q.Inputs.getD x.toNat 0 :: idAt q x :: rowCode V (rowAt q x), rfl, ?_⟩) W V h
  · simp only [List.length_cons, rowCode_len]; omega
  · simp only [List.length_cons, rowCode_len]; omega

/-! ### The walk is closed, and stays where its start stands -/
theorem mem_addN {s : List Int} {x y : Int} : y ∈ addN s x ↔ y ∈ s ∨ y = x := by
  unfold addN
  split
  · constructor
    · exact .inl
    · rintro (h | h)
      · exact h
      · subst h; assumption
  · simp
theorem mem_fold {xs : List Int} : ∀ {s : List Int} {y : Int}, y ∈ xs.foldl addN s ↔ y ∈ s ∨ y ∈ xs := by
  induction xs with
  | nil => intro s y; simp
  | cons x xs ih => intro s y; rw [List.foldl_cons, ih, mem_addN]; simp [or_assoc]
theorem addN_pre (s : List Int) (x : Int) : s <+: addN s x := by
  unfold addN
  split
  · exact List.prefix_rfl
  · exact List.prefix_append s [x]
theorem fold_pre (xs : List Int) : ∀ (s : List Int), s <+: xs.foldl addN s := by
  induction xs with
  | nil => intro s; exact List.prefix_rfl
  | cons x xs ih => intro s; exact (addN_pre s x).trans (ih _)
theorem pre_getD {s t : List Int} (h : s <+: t) {i : Nat} (hi : i < s.length) : t.getD i 0 = s.getD i 0 := by
  obtain ⟨r, rfl⟩ := h
  rw [List.getD_eq_getElem?_getD, List.getElem?_append_left hi, ← List.getD_eq_getElem?_getD]
theorem bfs_head (p : T_Network) : ∀ (k : Nat) (s : List Int) (a : Nat), s <+: bfs p k s a
  | 0, s, a => List.prefix_rfl
  | k + 1, s, a => by
    unfold bfs
    split
    · exact (fold_pre _ s).trans (bfs_head p k _ (a + 1))
    · exact List.prefix_rfl
theorem walkN_head (p : T_Network) (v : Int) : (walkN p v).getD 0 0 = v := by
  unfold walkN
  rw [pre_getD (bfs_head p 41 [v] 0) (by simp)]
  rfl
theorem walkN_pos (p : T_Network) (v : Int) : 0 < (walkN p v).length := by
  have := bfs_pre p 41 [v] 0
  exact this
theorem bfs_in {p : T_Network} (g : GoodN p) (P : Int → Prop) (hP : ∀ x : Int, 0 ≤ x ∧ x < p.Ends.length → P x → ∀ y, y ∈ nearN p x → P y) : ∀ (k : Nat) (s : List Int) (a : Nat), OkW p.Ends.length s → (∀ x, x ∈ s → P x) → ∀ x, x ∈ bfs p k s a → P x
  | 0, s, a, _, h => h
  | k + 1, s, a, hs, h => by
    unfold bfs
    split
    · rename_i ha
      refine bfs_in g P hP k _ (a + 1) (hs.fold (near_in g _)) fun x hx => ?_
      rcases mem_fold.1 hx with h1 | h1
      · exact h x h1
      · have hm : s.getD a 0 ∈ s := by rw [List.getD_eq_getElem?_getD, List.getElem?_eq_getElem ha]; exact List.getElem_mem ha
        exact hP _ (getD_in hs ha) (h _ hm) x h1
    · exact h
theorem bfs_closed {p : T_Network} (g : GoodN p) : ∀ (k : Nat) (s : List Int) (a : Nat), OkW p.Ends.length s → p.Ends.length ≤ a + k → (∀ i, i < a → i < s.length → ∀ y, y ∈ nearN p (s.getD i 0) → y ∈ s) → ∀ x, x ∈ bfs p k s a → ∀ y, y ∈ nearN p x → y ∈ bfs p k s a
  | 0, s, a, hs, hk, h => fun x hx y hy => by
    obtain ⟨i, hi, rfl⟩ := List.mem_iff_getElem.1 hx
    have := hs.le
    refine h i (by change i < s.length at hi; omega) hi y ?_
    rw [List.getD_eq_getElem?_getD, List.getElem?_eq_getElem (by exact hi)]
    exact hy
  | k + 1, s, a, hs, hk, h => by
    unfold bfs
    split
    · rename_i ha
      refine bfs_closed g k _ (a + 1) (hs.fold (near_in g _)) (by omega) fun i hi hl y hy => ?_
      by_cases e : i < s.length
      · rw [pre_getD (fold_pre _ s) e] at hy
        by_cases e2 : i = a
        · subst e2; exact mem_fold.2 (.inr hy)
        · exact mem_fold.2 (.inl (h i (by omega) e y hy))
      · omega
    · rename_i ha
      intro x hx y hy
      obtain ⟨i, hi, rfl⟩ := List.mem_iff_getElem.1 hx
      refine h i (by omega) hi y ?_
      rw [List.getD_eq_getElem?_getD, List.getElem?_eq_getElem hi]
      exact hy
theorem walkN_closed {p : T_Network} (g : GoodN p) {v : Int} (hv : 0 ≤ v ∧ v < p.Ends.length) : ∀ x, x ∈ walkN p v → ∀ y, y ∈ nearN p x → y ∈ walkN p v :=
  bfs_closed g 41 [v] 0 (start_ok hv) (by have := g.n2; omega) (fun i hi => by omega)
theorem near_back {p : T_Network} (h : netB p = true) {x : Int} (hx : 0 ≤ x ∧ x < p.Ends.length) {y : Int} (hy : y ∈ nearN p x) : x ∈ nearN p y := by
  have h0 := h
  unfold netB at h
  simp only [Bool.and_eq_true, decide_eq_true_eq, Option.isNone_iff_eq_none] at h
  have h5 := h.2
  obtain ⟨e, he, rfl⟩ := List.mem_map.1 hy
  obtain ⟨i, hi⟩ := List.mem_iff_getElem?.1 he
  have hr : p.Ends[x.toNat]? = some (rowAt p x) := by
    unfold rowAt
    rw [List.getD_eq_getElem?_getD, List.getElem?_eq_getElem (by omega)]; rfl
  have h6 := firstP_none.1 h5 _ _ hr
  rw [Nat.zero_add] at h6
  unfold rowP at h6
  split at h6
  · cases h6
  · have h7 := firstP_none.1 h6 i e hi
    rw [Nat.zero_add] at h7
    unfold endP at h7
    split at h7
    · rename_i hh
      simp only [Bool.and_eq_true, decide_eq_true_eq] at hh
      obtain ⟨_, h8, h9⟩ := hh
      have h8 := inB_iff.1 h8
      rw [List.getD_eq_getElem?_getD, List.getElem?_eq_getElem (by omega)] at h9
      unfold nearN
      refine List.mem_map.2 ⟨⟨(x.toNat : Int), (i : Int)⟩, ?_, by simp; omega⟩
      have h9 : (rowAt p e.Node)[e.Port.toNat]'(by omega) = ⟨(x.toNat : Int), (i : Int)⟩ := h9
      rw [← h9]
      exact List.getElem_mem _
    · cases h7

/-! ### The list that grows -/
def setW (W V : List Int) (f : List Int) (j : Nat) : List Int := ((W.zip V).take j).foldl (fun f xy => f.set xy.1.toNat xy.2) f
def setU (V : List Int) (u : List Bool) (j : Nat) : List Bool := (V.take j).foldl (fun u y => u.set y.toNat true) u
theorem setW_0 (W V f : List Int) : setW W V f 0 = f := by simp [setW]
theorem setU_0 (V : List Int) (u : List Bool) : setU V u 0 = u := by simp [setU]
theorem setW_s {W V f : List Int} {j : Nat} {x y : Int} (hx : W[j]? = some x) (hy : V[j]? = some y) : setW W V f (j + 1) = (setW W V f j).set x.toNat y := by
  unfold setW
  have : (W.zip V)[j]? = some (x, y) := by rw [List.getElem?_zip_eq_some]; exact ⟨hx, hy⟩
  rw [List.take_add_one, this]
  simp
theorem setU_s {V : List Int} {u : List Bool} {j : Nat} {y : Int} (hy : V[j]? = some y) : setU V u (j + 1) = (setU V u j).set y.toNat true := by
  unfold setU
  rw [List.take_add_one, hy]
  simp
theorem setW_len (W V f : List Int) (j : Nat) : (setW W V f j).length = f.length := by
  unfold setW
  generalize (W.zip V).take j = zs
  induction zs generalizing f with
  | nil => rfl
  | cons z zs ih => simp [ih]
theorem setU_len (V : List Int) (u : List Bool) (j : Nat) : (setU V u j).length = u.length := by
  unfold setU
  generalize V.take j = zs
  induction zs generalizing u with
  | nil => rfl
  | cons z zs ih => simp [ih]
theorem getD_set (f : List Int) (i j : Nat) (y : Int) : (f.set i y).getD j 0 = if i = j ∧ i < f.length then y else f.getD j 0 := by
  rw [List.getD_eq_getElem?_getD, List.getElem?_set, List.getD_eq_getElem?_getD]
  by_cases e : i = j
  · subst e
    by_cases h : i < f.length
    · simp [h]
    · simp [h]
  · simp [e]
theorem mem_set_neg {f : List Int} {i : Nat} {y w : Int} (hi : i < f.length) (hneg : f.getD i 0 < 0) (hw : 0 ≤ w) : w ∈ f.set i y ↔ w = y ∨ w ∈ f := by
  constructor
  · intro h
    rcases List.mem_or_eq_of_mem_set h with h | h
    · exact .inr h
    · exact .inl h
  · rintro (h | h)
    · subst h; exact List.mem_set hi w
    · obtain ⟨k, hk, e⟩ := List.mem_iff_getElem.1 h
      have hne : i ≠ k := fun e2 => by
        subst e2
        rw [List.getD_eq_getElem?_getD, List.getElem?_eq_getElem hi] at hneg
        have : f[i] < 0 := hneg
        omega
      refine List.mem_iff_getElem.2 ⟨k, by rw [List.length_set]; exact hk, ?_⟩
      rw [List.getElem_set, if_neg hne]
      exact e
/-- What is known between two rounds. -/
structure IsoI (p : T_Network) (n : Nat) (f : List Int) (u : List Bool) : Prop where
  lf : f.length = n
  lu : u.length = n
  us : ∀ w, w < n → u[w]? = some (decide ((w : Int) ∈ f))
  cl : ∀ v : Int, 0 ≤ v ∧ v < n → 0 ≤ f.getD v.toNat 0 → ∀ y, y ∈ nearN p v → 0 ≤ f.getD y.toNat 0
/-- What is known within the loop that writes. -/
structure IsoJ (n : Nat) (W V f : List Int) (u : List Bool) (j : Nat) : Prop where
  us : ∀ w, w < n → (setU V u j)[w]? = some (decide ((w : Int) ∈ setW W V f j))
  out : ∀ i : Int, 0 ≤ i → i ∉ W.take j → (setW W V f j).getD i.toNat 0 = f.getD i.toNat 0
  inn : ∀ i : Int, i ∈ W.take j → 0 ≤ (setW W V f j).getD i.toNat 0
theorem isoJ {n : Nat} {W V f : List Int} {u : List Bool} (hW : OkW n W) (hV : OkW n V) (lf : f.length = n) (lu : u.length = n) (us : ∀ w, w < n → u[w]? = some (decide ((w : Int) ∈ f))) (hneg : ∀ x, x ∈ W → f.getD x.toNat 0 < 0) (hl : W.length = V.length) :
    ∀ j, j ≤ W.length → IsoJ n W V f u j
  | 0, _ => ⟨by rw [setW_0, setU_0]; exact us, fun i _ _ => by rw [setW_0], fun i hi => by simp at hi⟩
  | j + 1, hj => by
    have ih := isoJ hW hV lf lu us hneg hl j (by omega)
    obtain ⟨x, hx⟩ : ∃ x, W[j]? = some x := ⟨_, List.getElem?_eq_getElem (by omega)⟩
    obtain ⟨y, hy⟩ : ∃ y, V[j]? = some y := ⟨_, List.getElem?_eq_getElem (by omega)⟩
    have hxm := List.mem_of_getElem? hx
    have hxr := hW.rng x hxm
    have hyr := hV.rng y (List.mem_of_getElem? hy)
    have hxn : x ∉ W.take j := nodup_take'.1 hW.nd j x hx
    have hl1 : (setW W V f j).length = n := by rw [setW_len, lf]
    have hl2 : (setU V u j).length = n := by rw [setU_len, lu]
    have hng : (setW W V f j).getD x.toNat 0 < 0 := by rw [ih.out x hxr.1 hxn]; exact hneg x hxm
    refine ⟨fun w hw => ?_, fun i hi hm => ?_, fun i hi => ?_⟩
    · rw [setW_s hx hy, setU_s hy, List.getElem?_set, hl2, ih.us w hw]
      have := mem_set_neg (y := y) (w := (w : Int)) (show x.toNat < (setW W V f j).length by omega) hng (by omega)
      by_cases e : y.toNat = w
      · have : (w : Int) ∈ (setW W V f j).set x.toNat y := this.2 (.inl (by omega))
        rw [if_pos e, if_pos (by omega)]
        simp [this]
      · have h2 : (w : Int) ∈ (setW W V f j).set x.toNat y ↔ (w : Int) ∈ setW W V f j := by rw [this]; exact ⟨fun h => h.resolve_left (by omega), .inr⟩
        rw [if_neg e]
        simp [h2]
    · rw [List.take_add_one, hx] at hm
      simp only [Option.toList_some, List.mem_append, List.mem_singleton, not_or] at hm
      rw [setW_s hx hy, getD_set, if_neg (by omega), ih.out i hi hm.1]
    · rw [List.take_add_one, hx] at hi
      simp only [Option.toList_some, List.mem_append, List.mem_singleton] at hi
      rw [setW_s hx hy, getD_set]
      split
      · exact hyr.1
      · rename_i hne
        rcases hi with h | h
        · exact ih.inn i h
        · subst h; exact absurd ⟨rfl, by omega⟩ hne
theorem isoI_walk {p q : T_Network} (hp : netB p = true) (gq : GoodN q) (hn : q.Ends.length = p.Ends.length) {f : List Int} {u : List Bool} (h : IsoI p p.Ends.length f u) {v w : Int} (hv : 0 ≤ v ∧ v < p.Ends.length) (hw : 0 ≤ w ∧ w < p.Ends.length) (hneg : f.getD v.toNat 0 < 0)
    (hl : (walkN p v).length = (walkN q w).length) : (∀ x, x ∈ walkN p v → f.getD x.toNat 0 < 0) ∧ IsoI p p.Ends.length (setW (walkN p v) (walkN q w) f (walkN p v).length) (setU (walkN q w) u (walkN p v).length) ∧ 0 ≤ (setW (walkN p v) (walkN q w) f (walkN p v).length).getD v.toNat 0 := by
  have gp := netB_good hp
  have hW := walkN_ok gp hv
  have hV := walkN_ok gq (show 0 ≤ w ∧ w < q.Ends.length by omega)
  rw [hn] at hV
  have hfree : ∀ x, x ∈ walkN p v → f.getD x.toNat 0 < 0 := bfs_in gp (fun x => f.getD x.toNat 0 < 0) (fun x hx h1 y hy => by
    refine Int.not_le.1 fun h2 => ?_
    have := h.cl y (near_in gp x y hy) h2 x (near_back hp hx hy)
    have h1 : f.getD x.toNat 0 < 0 := h1
    omega) 41 [v] 0 (start_ok hv) (fun x hx => by rw [List.mem_singleton.1 hx]; exact hneg)
  have hJ := isoJ hW hV h.lf h.lu h.us hfree hl _ (Nat.le_refl _)
  have hout := hJ.out
  have hinn := hJ.inn
  rw [List.take_length] at hout hinn
  refine ⟨hfree, ⟨by rw [setW_len, h.lf], by rw [setU_len, h.lu], hJ.us, fun x hx h1 y hy => ?_⟩, hinn v ?_⟩
  · have hyr := near_in gp x y hy
    by_cases hm : x ∈ walkN p v
    · exact hinn y (walkN_closed gp hv x hm y hy)
    · rw [hout x hx.1 hm] at h1
      have h2 := h.cl x hx h1 y hy
      by_cases hm2 : y ∈ walkN p v
      · exact hinn y hm2
      · rw [hout y hyr.1 hm2]; exact h2
  · have := walkN_head p v
    have hp0 := walkN_pos p v
    rw [List.getD_eq_getElem?_getD, List.getElem?_eq_getElem hp0] at this
    have this : (walkN p v)[0] = v := this
    exact List.mem_iff_getElem.2 ⟨0, hp0, this⟩
theorem isoI_0 (p : T_Network) (n : Nat) : IsoI p n (List.replicate n (-1)) (List.replicate n false) :=
  ⟨by simp, by simp, fun w hw => by
    rw [List.getElem?_replicate, if_pos hw]
    have : (w : Int) ∉ List.replicate n (-1 : Int) := fun h => by have := List.eq_of_mem_replicate h; omega
    simp [this], fun v hv h => by
    rw [List.getD_eq_getElem?_getD, List.getElem?_replicate, if_pos (by omega)] at h
    have h : (0 : Int) ≤ -1 := h
    omega⟩
end Go.Proofs.Ytijaojnaamkinaa
