/- Spaced marks: what both sides compute. -/
import Derived.Test.YthhpcledhflapaaDoorTcc
import Derived.Test.YthhpcledhflapaaDoorGTc
import Derived.Test.YthhpcledhflapaaDoorIm
import Derived.Test.YthhpcledhflapaaDoorNt
namespace Go.Proofs.YthhpcledhflapaaDoor
set_option linter.unusedSimpArgs false
set_option linter.unusedVariables false

/-! ### Loops -/
theorem forI_forN {α σ ρ : Type} {body : Int → α → σ → Option (Lp σ σ ρ)} {body' : Int → σ → Option (Lp σ σ ρ)} : ∀ (xs : List α) (k : Nat) (s : σ), (∀ (j : Nat) x s, xs[j]? = some x → body ((k + j : Nat) : Int) x s = body' ((k + j : Nat) : Int) s) →
    forI body xs (k : Int) s = forN body' xs.length (k : Int) s
  | [], k, s, h => rfl
  | x :: xs, k, s, h => by
    have h0 := h 0 x s rfl
    simp only [Nat.add_zero] at h0
    simp only [forI, List.length_cons, forN, h0]
    cases body' (k : Int) s with
    | none => rfl
    | some q =>
      cases q with
      | go s' =>
        simp only
        rw [show ((k : Int) + 1) = ((k + 1 : Nat) : Int) by omega]
        exact forI_forN xs (k + 1) s' fun j y s hj => by
          have := h (j + 1) y s (by simpa using hj)
          rw [show k + (j + 1) = k + 1 + j by omega] at this
          exact this
      | out s' => rfl
      | ret r => rfl
theorem forN_ex {σ ρ : Type} {body : Int → σ → Option (Lp σ σ ρ)} (P : σ → Prop) : ∀ (n k : Nat) (s : σ), P s → (∀ (j : Nat) s, j < n → P s → ∃ s', body ((k + j : Nat) : Int) s = some (.go s') ∧ P s') → ∃ s', forN body n (k : Int) s = some (.inl s') ∧ P s'
  | 0, k, s, hs, h => ⟨s, rfl, hs⟩
  | n + 1, k, s, hs, h => by
    obtain ⟨s1, h1, h2⟩ := h 0 s (by omega) hs
    rw [Nat.add_zero] at h1
    simp only [forN, h1]
    rw [show ((k : Int) + 1) = ((k + 1 : Nat) : Int) by omega]
    exact forN_ex P n (k + 1) s1 h2 fun j s hj hp => by
      have := h (j + 1) s (by omega) hp
      rw [show k + (j + 1) = k + 1 + j by omega] at this
      exact this
/-! ### Marks -/
theorem mark_ex {l : List Int} {n : Nat} (hl : l.length = n) (hn : 2 ≤ n) (hn2 : n ≤ 180) (c : Int) (s : List Bool) (hs : s.length = n) : ∃ s', forN (fI_cycleMarks_s2 l c) n 0 s = some (.inl s') ∧ s'.length = n := by
  have := forN_ex (ρ := List Int) (body := fI_cycleMarks_s2 l c) (fun s : List Bool => s.length = n) n 0 s hs fun j s hj hs => by
    have m1 : (j + n - 1) % n < s.length := by rw [hs]; exact Nat.mod_lt _ (by omega)
    have m2 : (j + 1) % n < s.length := by rw [hs]; exact Nat.mod_lt _ (by omega)
    have hjl : j < l.length := by omega
    have hjs : j < s.length := by omega
    rw [Nat.zero_add]
    unfold fI_cycleMarks_s2
    rw [ix_nat, List.getElem?_eq_getElem hjl, sb]
    have hset : ∃ s', (ix s (j : Int) >>= fun _ => st s (j : Int) true >>= fun x => some (Lp.go (σ := List Bool) (τ := List Bool) (ρ := List Int) x)) = some (.go s') ∧ s'.length = n := by
      refine ⟨s.set j true, ?_, by rw [List.length_set]; exact hs⟩
      rw [ix_nat, List.getElem?_eq_getElem hjs, sb, st_nat _ _ _ hjs, sb]
    have hno : ∃ s', (some (Lp.go (σ := List Bool) (τ := List Bool) (ρ := List Int) s)) = some (.go s') ∧ s'.length = n := ⟨s, rfl, hs⟩
    by_cases e : l[j] = c
    · rw [if_pos (by simpa using e), hl, ck_in (by omega) (by omega), sb, ck_in (by omega) (by omega), sb, show ((j : Int) + (n : Int) - 1) = ((j + n - 1 : Nat) : Int) by omega, rem_nat (by omega), sb, ix_nat, List.getElem?_eq_getElem m1, sb]
      cases h1 : s[(j + n - 1) % n]
      · rw [if_pos (by simp), ck_in (by omega) (by omega), sb, show ((j : Int) + 1) = ((j + 1 : Nat) : Int) by omega, rem_nat (by omega), sb, ix_nat, List.getElem?_eq_getElem m2, sb, sb]
        cases h2 : s[(j + 1) % n]
        · rw [if_pos (by rfl)]; exact hset
        · rw [if_neg (by decide)]; exact hno
      · rw [if_neg (by simp), sb, if_neg (by decide)]; exact hno
    · rw [if_neg (by simpa using e), sb, if_neg (by decide)]; exact hno
  exact this
theorem mark_same {l : List Int} {n : Nat} (hl : l.length = n) (c : Int) (s : List Bool) : forI (fS_cyMark_s2 l c) l 0 s = forN (fI_cycleMarks_s2 l c) n 0 s := by
  have := forI_forN (body := fS_cyMark_s2 l c) (body' := fI_cycleMarks_s2 l c) l 0 s fun j x s hj => by
    rw [Nat.zero_add]
    unfold fS_cyMark_s2 fI_cycleMarks_s2
    rw [ix_nat l j, hj, sb]
  rw [hl] at this
  exact this
def onL (y : List Bool) (j : Nat) : List Int := ((List.range j).filter fun i => y.getD i false).map fun i : Nat => (i : Int)
theorem onL_succ (y : List Bool) (j : Nat) : onL y (j + 1) = onL y j ++ if y.getD j false then [(j : Int)] else [] := by
  unfold onL
  rw [List.range_succ, List.filter_append, List.map_append]
  cases h : y.getD j false
  · simp only [List.filter_cons, h, List.filter_nil, Bool.false_eq_true, if_false, List.map_nil]
  · simp only [List.filter_cons, h, if_true, List.filter_nil, List.map_cons, List.map_nil]
theorem onL_len (y : List Bool) (j : Nat) : (onL y j).length ≤ j := by
  unfold onL
  rw [List.length_map]
  have := List.length_filter_le (fun i => y.getD i false) (List.range j)
  simpa using this
/-- Different places of a list of n. -/
structure Pos (n : Nat) (m : List Int) : Prop where
  rng : ∀ x, x ∈ m → 0 ≤ x ∧ x < n
  nd : m.Nodup
theorem onL_pos (y : List Bool) (n : Nat) : Pos n (onL y n) := by
  unfold onL
  refine ⟨fun x hx => ?_, ?_⟩
  · obtain ⟨i, hi, rfl⟩ := List.mem_map.1 hx
    have := List.mem_range.1 (List.mem_filter.1 hi).1
    omega
  · have h : ((List.range n).filter fun i => y.getD i false).Nodup := List.nodup_range.filter _
    rw [List.Nodup, List.pairwise_map]
    exact h.imp fun h e => h (by omega)
theorem pos_impl (y : List Bool) (hy : y.length ≤ 1000) : forN (fI_cycleMarks_s3 y) y.length 0 [] = some (.inl (onL y y.length)) := by
  have := forN_inv0 (ρ := List Int) (body := fI_cycleMarks_s3 y) (onL y) y.length fun j hj => by
    have hl := onL_len y j
    unfold fI_cycleMarks_s3
    have hg : y.getD j false = y[j] := by rw [List.getD_eq_getElem?_getD, List.getElem?_eq_getElem hj]; rfl
    rw [ix_nat, List.getElem?_eq_getElem hj, sb, onL_succ, hg]
    cases y[j]
    · simp
    · rw [if_pos rfl]
      unfold push
      rw [if_pos (by omega), sb]; simp
  exact this
theorem marks_ex {l : List Int} {n b : Nat} (h : Col l n b) (fuel : Nat) (hf : 10 ≤ fuel) : ∃ m, fI_cycleMarks l = some m ∧ fS_cyMark fuel l = some m ∧ Pos n m := by
  have hl := h.len
  have hn := h.n2
  have hn2 := h.n180
  have hz : (List.replicate n false).length = n := by simp
  obtain ⟨s1, h1, l1⟩ := mark_ex hl hn hn2 0 _ hz
  obtain ⟨s2, h2, l2⟩ := mark_ex hl hn hn2 1 s1 l1
  obtain ⟨s3, h3, l3⟩ := mark_ex hl hn hn2 2 s2 l2
  refine ⟨onL s3 s3.length, ?_, ?_, by rw [l3]; exact onL_pos s3 n⟩
  · unfold fI_cycleMarks mk
    rw [hl, if_pos (by omega), sb, ck_in (by decide) (by decide), sb, Int.toNat_natCast, show (Rz.z : Bool) = false from rfl]
    have e : forN (fI_cycleMarks_s1 l) (3 : Int).toNat 0 (List.replicate n false) = some (.inl s3) := by
      have st : ∀ (c : Int) (s s' : List Bool), forN (fI_cycleMarks_s2 l c) n 0 s = some (.inl s') → fI_cycleMarks_s1 l c s = some (.go s') := fun c s s' hs => by
        unfold fI_cycleMarks_s1
        rw [hl, ck_in (by omega) (by omega), sb, Int.toNat_natCast, hs, sb]
      show forN (fI_cycleMarks_s1 l) 3 0 (List.replicate n false) = some (.inl s3)
      simp only [forN, st 0 _ _ h1]
      rw [show (0 : Int) + 1 = 1 from rfl, st 1 _ _ h2]
      simp only
      rw [show (1 : Int) + 1 = 2 from rfl, st 2 _ _ h3]
    rw [e, sb]
    simp only
    rw [ck_in (by omega) (by omega), sb, Int.toNat_natCast, pos_impl s3 (by omega), sb]
  · unfold fS_cyMark mk
    rw [hl, if_pos (by omega), sb, Int.toNat_natCast, show (Rz.z : Bool) = false from rfl]
    have st : ∀ (c : Nat) (s s' : List Bool), c ≤ 2 → forN (fI_cycleMarks_s2 l (c : Int)) n 0 s = some (.inl s') → fS_cyMark_s1 l (s, (c : Int)) = some (.go (s', ((c + 1 : Nat) : Int))) := fun c s s' hc hs => by
      unfold fS_cyMark_s1
      simp only
      rw [if_pos (by simp; omega), mark_same hl, hs, sb]
      simp only
      rw [ck_in (by omega) (by omega), sb]; simp
    obtain ⟨f, rfl⟩ : ∃ f, fuel = f + 4 := ⟨fuel - 4, by omega⟩
    rw [show (0 : Int) = ((0 : Nat) : Int) from rfl, loopF_go (st 0 _ _ (by decide) h1), loopF_go (st (0 + 1) _ _ (by decide) h2), loopF_go (st (0 + 1 + 1) _ _ (by decide) h3), loopF_out (t := (s3, ((0 + 1 + 1 + 1 : Nat) : Int))) (by unfold fS_cyMark_s1; simp only; rw [if_neg (by simp)]), sb]
    simp only
    rw [ck_in (by omega) (by omega), sb, Int.toNat_natCast, show fS_cyMark_s3 s3 = fI_cycleMarks_s3 s3 from rfl]
    have := pos_impl s3 (by omega)
    rw [show ((0 : Nat) : Int) = 0 from rfl, this, sb]
def marksL (l : List Int) : List Int := (fI_cycleMarks l).getD []
theorem e_marks {l : List Int} {n b : Nat} (h : Col l n b) (fuel : Nat) (hf : 10 ≤ fuel) : fI_cycleMarks l = some (marksL l) ∧ fS_cyMark fuel l = some (marksL l) ∧ Pos n (marksL l) := by
  obtain ⟨m, h1, h2, h3⟩ := marks_ex h fuel hf
  have e : marksL l = m := by unfold marksL; rw [h1]; rfl
  rw [e]
  exact ⟨h1, h2, h3⟩
/-! ### Through a list -/
theorem Pos.len {n : Nat} {m : List Int} (h : Pos n m) : m.length ≤ n := by
  have key : ∀ (n : Nat) (s : List Int), (∀ x, x ∈ s → 0 ≤ x ∧ x < n) → s.Nodup → s.length ≤ n := by
    intro n
    induction n with
    | zero =>
      intro s h _
      cases s with
      | nil => simp
      | cons a s => have := h a (by simp); omega
    | succ n ih =>
      intro s h nd
      by_cases hm : (n : Int) ∈ s
      · have h1 := ih (s.erase n) (fun x hx => by
          have h2 := h x (List.mem_of_mem_erase hx)
          have h3 : x ≠ n := fun e => by subst e; exact (List.Nodup.not_mem_erase nd) hx
          omega) (nd.erase _)
        rw [List.length_erase_of_mem hm] at h1
        omega
      · exact Nat.le_succ_of_le (ih s (fun x hx => by
          have h2 := h x hx
          have h3 : x ≠ n := fun e => by subst e; exact hm hx
          omega) nd)
  exact key n m h.rng h.nd
theorem nodup_inj {l : List Int} (h : l.Nodup) {i j : Nat} (hi : i < l.length) (hj : j < l.length) (e : l[i] = l[j]) : i = j := by
  rcases Nat.lt_trichotomy i j with q | q | q
  · exact absurd e (List.pairwise_iff_getElem.1 h i j hi hj q)
  · exact q
  · exact absurd e.symm (List.pairwise_iff_getElem.1 h j i hj hi q)
/-- Different numbers stay different. -/
theorem img_nd {t m : List Int} {n : Nat} (ht : t.Nodup) (hl : t.length = n) (h : Pos n m) : (imgL t m).Nodup := by
  unfold imgL
  rw [List.Nodup, List.pairwise_map]
  refine List.Pairwise.imp_of_mem (fun {a b} ha hb hab e => hab ?_) h.nd
  have h1 := h.rng a ha
  have h2 := h.rng b hb
  have la : a.toNat < t.length := by omega
  have lb : b.toNat < t.length := by omega
  rw [List.getD_eq_getElem?_getD, List.getElem?_eq_getElem la, List.getD_eq_getElem?_getD, List.getElem?_eq_getElem lb] at e
  simp only [Option.getD_some] at e
  have := nodup_inj ht la lb e
  omega
theorem img_mem {t m : List Int} {n : Nat} (hl : t.length = n) (h : Pos n m) : ∀ x, x ∈ imgL t m → x ∈ t := fun x hx => by
  unfold imgL at hx
  obtain ⟨y, hy, rfl⟩ := List.mem_map.1 hx
  have h1 := h.rng y hy
  have la : y.toNat < t.length := by omega
  rw [List.getD_eq_getElem?_getD, List.getElem?_eq_getElem la]
  exact List.getElem_mem la
theorem nodup_takes {l : List Int} (h : l.Nodup) (j : Nat) (x : Int) (hj : l[j]? = some x) : x ∉ l.take j := fun hm => by
  obtain ⟨i, hi, e⟩ := List.mem_take_iff_getElem.1 hm
  obtain ⟨hjl, hjx⟩ := List.getElem?_eq_some_iff.1 hj
  have := nodup_inj h (show i < l.length by omega) hjl (e.trans hjx.symm)
  omega
theorem ids_nodup {l : List Int} (h : idsB l = true) : l.Nodup := by
  obtain ⟨h1, _, _⟩ := idsB_iff h
  rw [List.Nodup, List.pairwise_iff_getElem]
  intro i j hi hj hij e
  refine (h1 j _ (List.getElem?_eq_getElem hj)).2 ?_
  rw [← e]
  exact List.mem_take_iff_getElem.2 ⟨i, by omega, rfl⟩
theorem own_col {ids m : List Int} (h : idsB ids = true) (hm : Pos ids.length m) (h2 : 2 ≤ m.length) : Col (imgL ids m) m.length 1000000 := by
  have hlen := idsB_len h
  have hml := hm.len
  have hl : (imgL ids m).length = m.length := by simp [imgL]
  have hnd := img_nd (ids_nodup h) rfl hm
  have := col_of (l := imgL ids m) (by omega) (by omega) fun j x hj => by
    have hx := img_mem rfl hm x (List.mem_of_getElem? hj)
    have hr := (ids_col h).rng x hx
    exact ⟨hr, nodup_takes hnd j x hj⟩
  rw [hl] at this
  exact this
/-- One level. -/
def level (ids m : List Int) : List Int := imgL m (marksL (three (imgL ids m)).1)
theorem img_pos {m k : List Int} {n : Nat} (hm : Pos n m) (hk : Pos m.length k) : Pos n (imgL m k) :=
  ⟨fun x hx => hm.rng x (img_mem rfl hk x hx), img_nd hm.nd rfl hk⟩
theorem level_pos {ids m : List Int} (h : idsB ids = true) (hm : Pos ids.length m) (h2 : 2 ≤ m.length) : Pos ids.length (level ids m) :=
  img_pos hm (e_marks (three_col (own_col h hm h2) (by decide)) 10 (by decide)).2.2
def spaced (ids : List Int) : Nat → List Int → List Int
  | 0, m => m
  | k + 1, m => if m.length < 2 then m else spaced ids k (level ids m)
theorem spaced_spec (fuel0 : Nat) (hf0 : 300 ≤ fuel0) {ids : List Int} (h : idsB ids = true) : ∀ (k : Nat) (m : List Int) (fuel : Nat), Pos ids.length m → k ≤ 8 → k < fuel → ∃ k', loopF (fS_cySpaced_s2 fuel0 ids) fuel ((k : Int), m) = some (.inl (k', spaced ids k m))
  | 0, m, fuel, hm, _, hf => by
    obtain ⟨fuel, rfl⟩ : ∃ k, fuel = k + 1 := ⟨fuel - 1, by omega⟩
    refine ⟨((0 : Nat) : Int), loopF_out ?_ fuel⟩
    unfold fS_cySpaced_s2
    simp only
    rw [if_neg (by simp), sb, if_neg (by decide)]; rfl
  | k + 1, m, fuel, hm, hk, hf => by
    obtain ⟨fuel, rfl⟩ : ∃ k, fuel = k + 1 := ⟨fuel - 1, by omega⟩
    have hlen := idsB_len h
    have hml := hm.len
    by_cases h2 : m.length < 2
    · refine ⟨((k + 1 : Nat) : Int), ?_⟩
      unfold spaced
      rw [if_pos h2]
      refine loopF_out ?_ fuel
      unfold fS_cySpaced_s2
      simp only
      rw [if_pos (by simp), sb, if_neg (by simp; omega)]
    · have hc := own_col h hm (by omega)
      have ht := three_col hc (by decide)
      have hmk := e_marks ht fuel0 (by omega)
      have hkl := hmk.2.2.len
      have hstep : fS_cySpaced_s2 fuel0 ids (((k + 1 : Nat) : Int), m) = some (.go ((k : Int), level ids m)) := by
        unfold fS_cySpaced_s2
        simp only
        rw [if_pos (by simp), sb, if_pos (by simp; omega), (e_coThrough ids m (by omega) hm.rng (by omega)).1, sb, e_cyThree fuel0 hf0 hc (by decide), sb, hmk.2.1, sb,
          (e_coThrough m _ (by omega) hmk.2.2.rng (by omega)).1, sb, ck_in (by omega) (by omega), sb]
        congr 3
        omega
      rw [loopF_go hstep]
      obtain ⟨k', this⟩ := spaced_spec fuel0 hf0 h k (level ids m) fuel (level_pos h hm (by omega)) (by omega) (by omega)
      refine ⟨k', ?_⟩
      rw [this]
      simp only [spaced]
      rw [if_neg h2]
theorem spaced_impl (fuel0 : Nat) (hf0 : 300 ≤ fuel0) {ids : List Int} (h : idsB ids = true) : ∀ (k : Nat) (i : Int) (m : List Int), Pos ids.length m → forN (fI_spacedMarks_s1 fuel0 ids) k i m = some (.inl (spaced ids k m))
  | 0, i, m, hm => rfl
  | k + 1, i, m, hm => by
    have hlen := idsB_len h
    have hml := hm.len
    by_cases h2 : m.length < 2
    · have hs : fI_spacedMarks_s1 fuel0 ids i m = some (.out m) := by
        unfold fI_spacedMarks_s1
        rw [if_pos (by simp; omega)]
      simp only [forN, hs, spaced]
      rw [if_pos h2]
    · have hc := own_col h hm (by omega)
      have ht := three_col hc (by decide)
      have hmk := e_marks ht fuel0 (by omega)
      have hkl := hmk.2.2.len
      have hs : fI_spacedMarks_s1 fuel0 ids i m = some (.go (level ids m)) := by
        unfold fI_spacedMarks_s1
        rw [if_neg (by simp; omega), (e_coThrough ids m (by omega) hm.rng (by omega)).2, sb, e_threeColours fuel0 hf0 hc (by decide), sb, hmk.1, sb, (e_coThrough m _ (by omega) hmk.2.2.rng (by omega)).2, sb]
        rfl
      simp only [forN, hs, spaced]
      rw [if_neg h2]
      exact spaced_impl fuel0 hf0 h k (i + 1) (level ids m) (level_pos h hm (by omega))
def iotaL (n : Nat) : List Int := (List.range n).map fun a : Nat => (a : Int)
theorem iotaL_pos (n : Nat) : Pos n (iotaL n) := by
  unfold iotaL
  refine ⟨fun x hx => ?_, ?_⟩
  · obtain ⟨i, hi, rfl⟩ := List.mem_map.1 hx
    have := List.mem_range.1 hi
    omega
  · have h : (List.range n).Nodup := List.nodup_range
    rw [List.Nodup, List.pairwise_map]
    exact h.imp fun h e => h (by omega)
theorem iota_spec (n : Nat) (hn : n ≤ 1000) : forN fS_cySpaced_s1 n 0 [] = some (.inl (iotaL n)) := by
  have := forN_inv0 (ρ := List Int) (body := fS_cySpaced_s1) iotaL n fun j hj => by
    unfold fS_cySpaced_s1 push
    rw [if_pos (by simp [iotaL]; omega), sb]
    simp [iotaL, List.range_succ]
  exact this
theorem spaced_pos {ids : List Int} (h : idsB ids = true) : ∀ (k : Nat) (m : List Int), Pos ids.length m → Pos ids.length (spaced ids k m)
  | 0, m, hm => hm
  | k + 1, m, hm => by
    unfold spaced
    split
    · exact hm
    · exact spaced_pos h k _ (level_pos h hm (by omega))
def spacedB (l : List Int) (k : Int) : List Int × Bool := if idsB l && inB 0 8 k then (spaced l k.toNat (iotaL l.length), true) else ([], false)
theorem e_specSpaced (fuel : Nat) (hf : 300 ≤ fuel) (l : List Int) (k : Int) (hl : l.length ≤ 1048576) : fS_SpacedMarks fuel l k = some (spacedB l k) := by
  unfold fS_SpacedMarks spacedB
  rw [e_cyIds l hl, sb]
  cases h : idsB l
  · simp [sb]
  · rw [if_neg (by simp), e_l1In, sb, sb, show (decide (0 ≤ k) && decide (k ≤ 8)) = inB 0 8 k from rfl]
    cases hk : inB 0 8 k
    · simp
    · have hk' := inB_iff.1 hk
      have hlen := idsB_len h
      rw [if_neg (by simp)]
      unfold fS_cySpaced
      obtain ⟨k', this⟩ := spaced_spec fuel hf h k.toNat (iotaL l.length) fuel (iotaL_pos _) (by omega) (by omega)
      rw [Int.toNat_of_nonneg hk'.1] at this
      rw [ck_in (by omega) (by omega), sb, Int.toNat_natCast, iota_spec _ (by omega), sb]
      simp only
      rw [this, sb]; simp [sb]
theorem e_implSpaced (fuel : Nat) (hf : 300 ≤ fuel) (l : List Int) (k : Int) (hl : l.length ≤ 1048576) : fI_SpacedMarks fuel l k = some (spacedB l k) := by
  unfold fI_SpacedMarks spacedB
  rw [e_areRingIds l hl, sb]
  cases h : idsB l
  · simp [sb]
  · rw [if_neg (by simp), e_within, sb, sb, show (decide (0 ≤ k) && decide (k ≤ 8)) = inB 0 8 k from rfl]
    cases hk : inB 0 8 k
    · simp
    · have hk' := inB_iff.1 hk
      have hlen := idsB_len h
      rw [if_neg (by simp)]
      unfold fI_spacedMarks
      rw [e_numbersTo l.length (by omega), sb, ck_in (by omega) (by omega), sb]
      have := spaced_impl fuel hf h k.toNat 0 (iotaL l.length) (iotaL_pos _)
      rw [show ((List.range l.length).map fun a : Nat => (a : Int)) = iotaL l.length from rfl, this, sb]; simp [sb]
end Go.Proofs.YthhpcledhflapaaDoor
